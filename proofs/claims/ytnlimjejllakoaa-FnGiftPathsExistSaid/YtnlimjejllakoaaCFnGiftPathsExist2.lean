/- What the law FnGiftPathsExist reaches, part 2: Lean functions with the same answers as the Go functions, the proofs that the Go code comes to these answers, and lemmas about them; no condition beyond those that each theorem names. -/
import Derived.Test.YtnlimjejllakoaaCFnGiftPathsExistw1
import Derived.Test.YtnlimjejllakoaaCFnGiftPathsExist1
set_option linter.unusedVariables false
set_option linter.unusedSimpArgs false
set_option maxHeartbeats 8000000
set_option maxRecDepth 100000
namespace Go.Proofs.Ytnlimjejllakoaa.A
open Go.RowKit Go.Proofs.YtnlimjejllakoaaW.PrintWords Go.Proofs.YtnlimjejllakoaaW.PrintLast Go.Proofs.YtnlimjejllakoaaW.PrintMore
attribute [local go_sem] max2_int min2_int max_two min_two max_three min_three max_four min_four
def spec_l1Cur_anyList.l0 : Nat → List Int → List Int → Int → Int → Option (List Int × Int × Int)
 | 0, _, _, _, _ => none
 | k + 1, x5, x1000, x1001, x1002 => (spec_l1Cur_pick.f x1000 x1001 x1002 2).bind fun bt190 => (if (x5.length : Int) < (wrap64 (8 + bt190.1)) then ((spec_l1Cur_pick.f x1000 bt190.2.1 bt190.2.2 9).bind fun bt193 => (if x5.length < 17592186044416 then (spec_l1Cur_anyList.l0 k (x5 ++ [bt193.1]) x1000 bt193.2.1 bt193.2.2) else (none))) else (some (x5, bt190.2.1, bt190.2.2)))
def spec_l1Cur_anyList.f (k : Nat) (s0_0 : List Int) (s0_1 : Int) (s0_2 : Int) (a1 : Int) : Option (List Int × Int × Int) := (spec_l1Cur_list.f k s0_0 s0_1 s0_2 a1).bind fun bt173 => ((spec_l1Cur_pick.f s0_0 bt173.2.1 bt173.2.2 14).bind fun bt178 => (if bt178.1 = 0 then ((spec_l1Cur_among.f s0_0 bt178.2.1 bt178.2.2 (([(-1), 0, 60, 61] : List Int))).bind fun bt184 => (if bt173.1.length < 17592186044416 then (some ((bt173.1 ++ [bt184.1]), bt184.2.1, bt184.2.2)) else (none))) else (if bt178.1 = 1 then (spec_l1Cur_anyList.l0 k bt173.1 s0_0 bt178.2.1 bt178.2.2) else (if bt178.1 = 2 then (some (([] : List Int), bt178.2.1, bt178.2.2)) else (some (bt173.1, bt178.2.1, bt178.2.2))))))
theorem spec_l1Cur_anyList.calls (k : Nat) (g : Nat) (s0_0 : List Int) (s0_1 : Int) (s0_2 : Int) (a1 : Int) (r1 : List Int) (r2 : Int) (r3 : Int) (w0 w : World) (hI : IsS75 w0 w g s0_0 s0_1 s0_2) (hB : Below w0.heap.size w0 w) (h : spec_l1Cur_anyList.f k s0_0 s0_1 s0_2 a1 = some (r1, r2, r3)) :
 Calls Try.prog 90 #[.pointer (some ⟨g, 0, none⟩), .int .i64 a1] w fun e w' => ∃ v0_ : Value, e = .returned (v0_) ∧ Kd.R (Kd.int .i64) 3 w' w.heap.size (fun _ => True) v0_ r1 ∧ IsS75 w0 w' g s0_0 r2 r3 ∧ Below w0.heap.size w0 w' ∧ KeepBut w w' g none := by
 have HI0 := zad hI; have HK := zad (KeepBut.refl w g none)
 have HL := zad hB.size; clear hI; have HW0 := zad hB.size; have HB := zad hB; clear hB; have H : ((spec_l1Cur_list.f k s0_0 s0_1 s0_2 a1).bind fun bt173 => ((spec_l1Cur_pick.f s0_0 bt173.2.1 bt173.2.2 14).bind fun bt178 => (if bt178.1 = 0 then ((spec_l1Cur_among.f s0_0 bt178.2.1 bt178.2.2 (([(-1), 0, 60, 61] : List Int))).bind fun bt184 => (if bt173.1.length < 17592186044416 then (some ((bt173.1 ++ [bt184.1]), bt184.2.1, bt184.2.2)) else (none))) else (if bt178.1 = 1 then (spec_l1Cur_anyList.l0 k bt173.1 s0_0 bt178.2.1 bt178.2.2) else (if bt178.1 = 2 then (some (([] : List Int), bt178.2.1, bt178.2.2)) else (some (bt173.1, bt178.2.1, bt178.2.2))))))) = some (r1, r2, r3) := h
 clear h; replace H := zay.mp H; obtain ⟨⟨t173, t176, t177⟩, A30, H⟩ := H
 replace H : ((spec_l1Cur_pick.f s0_0 t176 t177 14).bind fun bt178 => (if bt178.1 = 0 then ((spec_l1Cur_among.f s0_0 bt178.2.1 bt178.2.2 (([(-1), 0, 60, 61] : List Int))).bind fun bt184 => (if t173.length < 17592186044416 then (some ((t173 ++ [bt184.1]), bt184.2.1, bt184.2.2)) else (none))) else (if bt178.1 = 1 then (spec_l1Cur_anyList.l0 k t173 s0_0 bt178.2.1 bt178.2.2) else (if bt178.1 = 2 then (some (([] : List Int), bt178.2.1, bt178.2.2)) else (some (t173, bt178.2.1, bt178.2.2)))))) = some (r1, r2, r3) := H
 have A3 := zad A30; clear A30; replace H := zay.mp H; obtain ⟨⟨t178, t179, t180⟩, A40, H⟩ := H
 replace H : (if t178 = 0 then ((spec_l1Cur_among.f s0_0 t179 t180 (([(-1), 0, 60, 61] : List Int))).bind fun bt184 => (if t173.length < 17592186044416 then (some ((t173 ++ [bt184.1]), bt184.2.1, bt184.2.2)) else (none))) else (if t178 = 1 then (spec_l1Cur_anyList.l0 k t173 s0_0 t179 t180) else (if t178 = 2 then (some (([] : List Int), t179, t180)) else (some (t173, t179, t180))))) = some (r1, r2, r3) := H
 have A4 := zad A40; clear A40; by_cases c5 : t178 = 0
 · rw [if_pos c5] at H
   have c5b0 : (t178 == 0) = true := beq_iff_eq.mpr c5
   have c5b1 : (t178 != 0) = false := bne_eq_false_iff_eq.mpr c5
   clear c5; obtain ⟨y181, hy181⟩ : ∃ y_ : List Int, y_ = (([(-1), 0, 60, 61] : List Int)) := ⟨_, rfl⟩
   replace H : ((spec_l1Cur_among.f s0_0 t179 t180 y181).bind fun bt184 => (if t173.length < 17592186044416 then (some ((t173 ++ [bt184.1]), bt184.2.1, bt184.2.2)) else (none))) = some (r1, r2, r3) := by first | (rw [hy181]; with_reducible exact H) | (have H2_ := (zbd _ _).symm.trans H; rw [hy181]; with_reducible exact H2_) | (have H2_ := (zbd _ _).symm.trans H; with_reducible exact H2_) | with_reducible exact H | (rw [hy181]; exact H) | exact H
   have Ny181 := zad hy181; clear hy181; replace H := zay.mp H; obtain ⟨⟨t184, t185, t186⟩, A60, H⟩ := H
   replace H : (if t173.length < 17592186044416 then (some ((t173 ++ [t184]), t185, t186)) else (none)) = some (r1, r2, r3) := H
   have A6 := zad A60; clear A60; by_cases c7 : t173.length < 17592186044416
   · rw [if_pos c7] at H
     have LMc7 := zad c7; clear c7; obtain ⟨y187, hy187⟩ : ∃ y_ : List Int, y_ = (t173 ++ [t184]) := ⟨_, rfl⟩
     replace H : (some (y187, t185, t186)) = some (r1, r2, r3) := by first | (rw [hy187]; with_reducible exact H) | (have H2_ := (zbd _ _).symm.trans H; rw [hy187]; with_reducible exact H2_) | (have H2_ := (zbd _ _).symm.trans H; with_reducible exact H2_) | with_reducible exact H | (rw [hy187]; exact H) | exact H
     have Ny187 := zad hy187; clear hy187; simp only [zbn, zbr] at H
     obtain ⟨rfl, rfl, rfl⟩ := H
     go_enter Try.func90, Try.ntmps90
     go_wp2_with (first | ((with_reducible refine zbh (f := 109) rfl ?_); refine zbp (some 8) rfl rfl Try.func109 (by kernel_rfl) rfl #[.pointer (some ⟨g, 0, none⟩), .int .i64 a1] rfl (taad) ?_; (with_reducible refine (spec_l1Cur_list.calls k g s0_0 s0_1 s0_2 a1 t173 t176 t177 w0 _ ?side1 ?side2 A3.out).mono ?_); (case side1 => repeat (first | (with_reducible first | exact HI0.out | apply zci | apply zcj | apply zck | apply zcn | apply zco) | exact HI0.out)); (case side2 => repeat (first | (with_reducible first | exact HB.out | apply zag | apply zae | apply zaf | refine zah ?_ (zcm HI0.out)) | exact HB.out)); rintro e w8 ⟨v174, rfl, ho0, hi, hb, hk⟩; refine ⟨_, rfl, ?_⟩; have n0_ := zad (zbw ho0 (keep_size (w := w) (g := g) (row := none) (taac))); have n1_ := zad (zbu (taac) hk (.inl rfl)); have n2_ := zad (hb); have n3_ := zad (hi); clear HK HB HI0; have HO175 := n0_; have HK := n1_; have HB := n2_; have HI0 := n3_; clear n0_ n1_ n2_ n3_; (try clear hb); (try clear hb2); (try clear hk); (try clear hi); (try clear ho0)) | ((with_reducible refine zbh (f := 80) rfl ?_); refine zbp (some 10) rfl rfl Try.func80 (by kernel_rfl) rfl #[.pointer (some ⟨g, 0, none⟩), .int .i64 14] rfl (taad) ?_; (with_reducible refine (zcp g s0_0 t176 t177 14 t178 t179 t180 w0 _ ?side1 ?side2 A4.out).mono ?_); (case side1 => repeat (first | (with_reducible first | exact HI0.out | apply zci | apply zcj | apply zck | apply zcn | apply zco) | exact HI0.out)); (case side2 => repeat (first | (with_reducible first | exact HB.out | apply zag | apply zae | apply zaf | refine zah ?_ (zcm HI0.out)) | exact HB.out)); rintro e w9 ⟨rfl, hi, hb, hk⟩; refine ⟨_, rfl, ?_⟩; have n0_ := zad (zbs (zbt (zcl (show IsS75 w0 _ g s0_0 t176 t177 from by exact tafz) (tabe) (by decide)) hk (fun _ h => h.2)) (fun _ h => h.1)); have n1_ := zad (zbu (taac) hk (.inl rfl)); have n2_ := zad (hb); have n3_ := zad (hi); clear HO175 HK HB HI0; have HO175 := n0_; have HK := n1_; have HB := n2_; have HI0 := n3_; clear n0_ n1_ n2_ n3_; (try clear hb); (try clear hb2); (try clear hk); (try clear hi)) | ((with_reducible refine gate_dst (N := 15) rfl ?_); refine Kd.R_lit (Kd.int .i64) _ 3 ?hg (N := 15) ?hd (xs := ([(-1), 0, 60, 61] : List Int)) (inner := [.int .i64 (-1), .int .i64 0, .int .i64 60, .int .i64 61]) (ok := fun _ => True) (okp := fun _ => True) ?hr ?hp (fun _ hk => hk) trivial (Below.refl _ _) (zch _) (taae) ?_; (case hd => rfl); (case hg => rfl); (case hr => first | (go_simp; done) | (go_simp; rfl)); (case hp => exact (Reps.one (show Kd.M (Kd.int .i64) _ _ _ (-1) [.int .i64 (-1)] from rfl) (Reps.one (show Kd.M (Kd.int .i64) _ _ _ 0 [.int .i64 0] from rfl) (Reps.one (show Kd.M (Kd.int .i64) _ _ _ 60 [.int .i64 60] from rfl) (Reps.one (show Kd.M (Kd.int .i64) _ _ _ 61 [.int .i64 61] from rfl) (Reps.none _ _)))))); intro v182 w10 ho11 hb hg_ hnew_; clear hg_ hnew_; (first | rw [← Ny181.out] at ho11 | (simp only [Int.reduceToNat] at ho11; rw [← Ny181.out] at ho11)); have n0_ := zad (zcd (tabe) (zcf ho11) hb); have n1_ := zad (zbw (zce ho11 (zcg (tabe))) (keep_size (w := w) (g := g) (row := none) (taac))); have n2_ := zad (IsS75.below (taaf) hb); have n3_ := zad (zbu (taac) (KeepBut.of_below hb g none) (.inl rfl)); have n4_ := zad (zbg (taan) hb); clear HO175 HI0 HK HB; have HO175 := n0_; have HO183 := n1_; have HI0 := n2_; have HK := n3_; have HB := n4_; clear n0_ n1_ n2_ n3_ n4_ hb ho11; obtain ⟨Ao12, co12, eo12⟩ := zbx HO183.out; subst eo12) | ((with_reducible refine zbh (f := 81) rfl ?_); refine zbp (some 16) rfl rfl Try.func81 (by kernel_rfl) rfl #[.pointer (some ⟨g, 0, none⟩), .slice Ao12 y181.length co12] rfl (taad) ?_; (with_reducible refine (spec_l1Cur_among.calls g s0_0 t179 t180 _ _ y181 t184 t185 t186 w0 _ ?side1 ?side2 ?side3 ?side4 ?side5 A6.out).mono ?_); (case side1 => repeat (first | (with_reducible first | exact HI0.out | apply zci | apply zcj | apply zck | apply zcn | apply zco) | exact HI0.out)); (case side2 => repeat (first | (with_reducible first | exact HB.out | apply zag | apply zae | apply zaf | refine zah ?_ (zcm HI0.out)) | exact HB.out)); (case side3 => repeat (first | exact (zbf HO183.out).2.2 | (with_reducible refine zal ?_ _) | (with_reducible refine zam ?_ _) | (with_reducible refine zan ?_))); (case side4 => exact (zbf HO183.out).2.1); (case side5 => exact far_slice (IsS75.own_ne HI0.out HO183.out (by decide))); rintro e w13 ⟨rfl, hi, hb, hk⟩; refine ⟨_, rfl, ?_⟩; have n0_ := zad (zbs (zbt (zcl (show IsS75 w0 _ g s0_0 t179 t180 from by exact tafz) (tabe) (by decide)) hk (fun _ h => h.2)) (fun _ h => h.1)); have n1_ := zad (zbs (zbt (zcl (show IsS75 w0 _ g s0_0 t179 t180 from by exact tafz) (tadb) (by decide)) hk (fun _ h => h.2)) (fun _ h => h.1)); have n2_ := zad (zbu (taac) hk (.inl rfl)); have n3_ := zad (hb); have n4_ := zad (hi); clear HO175 HO183 HK HB HI0; have HO175 := n0_; have HO183 := n1_; have HK := n2_; have HB := n3_; have HI0 := n4_; clear n0_ n1_ n2_ n3_ n4_; (try clear hb); (try clear hb2); (try clear hk); (try clear hi)) | ((with_reducible refine gate_builtin (b := .append) (xs := #[.tmp 13, .tmp 17]) rfl ?_); at_builtin; refine Kd.R_append (Kd.int .i64) w.heap.size rfl (.tmp 13) (.tmp 17) 26 3 (.int .i64 0) 8 rfl Try.underlying26 info3 rfl (by decide) (by omega) v174 t173 t184 [.int .i64 t184] (fun k_ => some k_ ≠ (.slice Ao12 y181.length co12 : Value).ownBlock) (fun _ => False) rfl rfl ?aP (fun _ hk => hk.elim) ?aF ?aO (Below.refl _ _) ?aS ?aL ?_; (case aP => exact rfl); (case aF => exact (fun k_ hk => Kd.fresh' (zcg (tadb)) k_ hk)); (case aO => exact (by (with_reducible repeat (first | apply zai | apply zaj | apply zak)); exact zbs HO175.out (fun _ hk => hk.2))); (case aS => exact (keep_size (w := w) (g := g) (row := none) (taac))); (case aL => have := LMc7.out; omega); intro v188 w14 ho hb hg hat; rw [← Ny187.out] at ho; have n0_ := zad (IsS75.grown (taaf) hg (IsS75.own_ne HI0.out HO175.out (by decide))); have n1_ := zad (Kd.R_after (ok := (fun _ => True)) (tadb) hg hat); have n2_ := zad (below_weaken (taan) HL.out hb); have n3_ := zad (zbu (taac) (KeepBut.of_grown hg g) (Kd.R_base2 HO175.out)); have n4_ := zad (ho); clear HI0 HO183 HB HK HO175; have HI0 := n0_; have HO183 := n1_; have HB := n2_; have HK := n3_; have HO189 := n4_; clear n0_ n1_ n2_ n3_ n4_ ho hb hg hat))
     go_ret
     exact ⟨_, taaj, by (with_reducible repeat (first | apply zai | apply zaj | apply zak)); exact zbs HO189.out (fun _ hk => trivial), taaf, taan, taac⟩
   · rw [if_neg c7] at H
     exact absurd H (taae)
 · rw [if_neg c5] at H
   have c5b0 : (t178 == 0) = false := zbq.mpr c5
   have c5b1 : (t178 != 0) = true := bne_iff_ne.mpr c5
   by_cases c15 : t178 = 1
   · rw [if_pos c15] at H
     have c15b0 : (t178 == 1) = true := beq_iff_eq.mpr c15
     have c15b1 : (t178 != 1) = false := bne_eq_false_iff_eq.mpr c15
     clear c15; have H' := zad H
     clear H; go_enter Try.func90, Try.ntmps90
     go_wp2_with (first | ((with_reducible refine zbh (f := 109) rfl ?_); refine zbp (some 8) rfl rfl Try.func109 (by kernel_rfl) rfl #[.pointer (some ⟨g, 0, none⟩), .int .i64 a1] rfl (taad) ?_; (with_reducible refine (spec_l1Cur_list.calls k g s0_0 s0_1 s0_2 a1 t173 t176 t177 w0 _ ?side1 ?side2 A3.out).mono ?_); (case side1 => repeat (first | (with_reducible first | exact HI0.out | apply zci | apply zcj | apply zck | apply zcn | apply zco) | exact HI0.out)); (case side2 => repeat (first | (with_reducible first | exact HB.out | apply zag | apply zae | apply zaf | refine zah ?_ (zcm HI0.out)) | exact HB.out)); rintro e w16 ⟨v174, rfl, ho0, hi, hb, hk⟩; refine ⟨_, rfl, ?_⟩; have n0_ := zad (zbw ho0 (keep_size (w := w) (g := g) (row := none) (taac))); have n1_ := zad (zbu (taac) hk (.inl rfl)); have n2_ := zad (hb); have n3_ := zad (hi); clear HK HB HI0; have HO175 := n0_; have HK := n1_; have HB := n2_; have HI0 := n3_; clear n0_ n1_ n2_ n3_; (try clear hb); (try clear hb2); (try clear hk); (try clear hi); (try clear ho0)) | ((with_reducible refine zbh (f := 80) rfl ?_); refine zbp (some 10) rfl rfl Try.func80 (by kernel_rfl) rfl #[.pointer (some ⟨g, 0, none⟩), .int .i64 14] rfl (taad) ?_; (with_reducible refine (zcp g s0_0 t176 t177 14 t178 t179 t180 w0 _ ?side1 ?side2 A4.out).mono ?_); (case side1 => repeat (first | (with_reducible first | exact HI0.out | apply zci | apply zcj | apply zck | apply zcn | apply zco) | exact HI0.out)); (case side2 => repeat (first | (with_reducible first | exact HB.out | apply zag | apply zae | apply zaf | refine zah ?_ (zcm HI0.out)) | exact HB.out)); rintro e w17 ⟨rfl, hi, hb, hk⟩; refine ⟨_, rfl, ?_⟩; have n0_ := zad (zbs (zbt (zcl (show IsS75 w0 _ g s0_0 t176 t177 from by exact tafz) (tabe) (by decide)) hk (fun _ h => h.2)) (fun _ h => h.1)); have n1_ := zad (zbu (taac) hk (.inl rfl)); have n2_ := zad (hb); have n3_ := zad (hi); clear HO175 HK HB HI0; have HO175 := n0_; have HK := n1_; have HB := n2_; have HI0 := n3_; clear n0_ n1_ n2_ n3_; (try clear hb); (try clear hb2); (try clear hk); (try clear hi)))
     go_loopg [5] k (fun kq v5 w' => ∃ (x5_1 : List Int) (x1001_1 : Int) (x1002_1 : Int), Aside0 (spec_l1Cur_anyList.l0 kq x5_1 s0_0 x1001_1 x1002_1 = some (r1, r2, r3)) ∧ Aside0 (kq ≤ k) ∧ Aside0 (Kd.R (Kd.int .i64) 3 w' w.heap.size (fun _ => True) v5 x5_1) ∧ Aside0 (IsS75 w0 w' g s0_0 x1001_1 x1002_1) ∧ Aside0 (KeepBut w w' g none) ∧ Aside0 (Below w0.heap.size w0 w'))
     case atStart => exact ⟨(t173), (t179), (t180), H', ⟨zch _⟩, ⟨tabe⟩, ⟨taaf⟩, ⟨taac⟩, ⟨taan⟩⟩
     case round =>
      clear H'
      try clear c1
      try clear p2
      try clear c5
      try clear c5b0
      try clear c5b1
      try clear c7
      try clear c8
      try clear c9
      try clear c10
      try clear c15
      try clear c15b0
      try clear c15b1
      obtain ⟨x5_1, x1001_1, x1002_1, HA, HK1, HO_5, HI0, HK, HB⟩ := hrel
      cases gk with
      | zero => exact absurd HA.out (by simp [spec_l1Cur_anyList.l0])
      | succ k1 =>
       have H := HA.out
       clear HA; simp only [spec_l1Cur_anyList.l0] at H
       replace H := zay.mp H; obtain ⟨⟨t190, t191, t192⟩, A180, H⟩ := H
       replace H : (if (x5_1.length : Int) < (wrap64 (8 + t190)) then ((spec_l1Cur_pick.f s0_0 t191 t192 9).bind fun bt193 => (if x5_1.length < 17592186044416 then (spec_l1Cur_anyList.l0 k1 (x5_1 ++ [bt193.1]) s0_0 bt193.2.1 bt193.2.2) else (none))) else (some (x5_1, t191, t192))) = some (r1, r2, r3) := H
       have A18 := zad A180; clear A180; by_cases c19 : (x5_1.length : Int) < (wrap64 (8 + t190))
       · rw [if_pos c19] at H
         have c19b0 : decide ((x5_1.length : Int) < (wrap64 (8 + t190))) = true := zba c19
         clear c19; replace H := zay.mp H; obtain ⟨⟨t193, t194, t195⟩, A200, H⟩ := H
         replace H : (if x5_1.length < 17592186044416 then (spec_l1Cur_anyList.l0 k1 (x5_1 ++ [t193]) s0_0 t194 t195) else (none)) = some (r1, r2, r3) := H
         have A20 := zad A200; clear A200; by_cases c21 : x5_1.length < 17592186044416
         · rw [if_pos c21] at H
           have LMc21 := zad c21; clear c21; obtain ⟨y196, hy196⟩ : ∃ y_ : List Int, y_ = (x5_1 ++ [t193]) := ⟨_, rfl⟩
           replace H : (spec_l1Cur_anyList.l0 k1 y196 s0_0 t194 t195) = some (r1, r2, r3) := by first | (rw [hy196]; with_reducible exact H) | (have H2_ := (zbd _ _).symm.trans H; rw [hy196]; with_reducible exact H2_) | (have H2_ := (zbd _ _).symm.trans H; with_reducible exact H2_) | with_reducible exact H | (rw [hy196]; exact H) | exact H
           have Ny196 := zad hy196; clear hy196; have H' := zad H
           clear H; obtain ⟨Ao22, co22, eo22⟩ := zbx HO_5.out
           subst eo22; go_wp2_with (first | ((with_reducible refine zbh (f := 80) rfl ?_); refine zbp (some 24) rfl rfl Try.func80 (by kernel_rfl) rfl #[.pointer (some ⟨g, 0, none⟩), .int .i64 2] rfl (taad) ?_; (with_reducible refine (zcp g s0_0 x1001_1 x1002_1 2 t190 t191 t192 w0 _ ?side1 ?side2 A18.out).mono ?_); (case side1 => repeat (first | (with_reducible first | exact HI0.out | apply zci | apply zcj | apply zck | apply zcn | apply zco) | exact HI0.out)); (case side2 => repeat (first | (with_reducible first | exact HB.out | apply zag | apply zae | apply zaf | refine zah ?_ (zcm HI0.out)) | exact HB.out)); rintro e w23 ⟨rfl, hi, hb, hk⟩; refine ⟨_, rfl, ?_⟩; have n0_ := zad (zbs (zbt (zcl (show IsS75 w0 _ g s0_0 x1001_1 x1002_1 from by exact tafz) (taak) (by decide)) hk (fun _ h => h.2)) (fun _ h => h.1)); have n1_ := zad (zbu (taac) hk (.inl rfl)); have n2_ := zad (hb); have n3_ := zad (hi); clear HO_5 HK HB HI0; have HO_5 := n0_; have HK := n1_; have HB := n2_; have HI0 := n3_; clear n0_ n1_ n2_ n3_; (try clear hb); (try clear hb2); (try clear hk); (try clear hi)) | ((with_reducible refine zbh (f := 80) rfl ?_); refine zbp (some 29) rfl rfl Try.func80 (by kernel_rfl) rfl #[.pointer (some ⟨g, 0, none⟩), .int .i64 9] rfl (taad) ?_; (with_reducible refine (zcp g s0_0 t191 t192 9 t193 t194 t195 w0 _ ?side1 ?side2 A20.out).mono ?_); (case side1 => repeat (first | (with_reducible first | exact HI0.out | apply zci | apply zcj | apply zck | apply zcn | apply zco) | exact HI0.out)); (case side2 => repeat (first | (with_reducible first | exact HB.out | apply zag | apply zae | apply zaf | refine zah ?_ (zcm HI0.out)) | exact HB.out)); rintro e w24 ⟨rfl, hi, hb, hk⟩; refine ⟨_, rfl, ?_⟩; have n0_ := zad (zbs (zbt (zcl (show IsS75 w0 _ g s0_0 t191 t192 from by exact tafz) (taak) (by decide)) hk (fun _ h => h.2)) (fun _ h => h.1)); have n1_ := zad (zbu (taac) hk (.inl rfl)); have n2_ := zad (hb); have n3_ := zad (hi); clear HO_5 HK HB HI0; have HO_5 := n0_; have HK := n1_; have HB := n2_; have HI0 := n3_; clear n0_ n1_ n2_ n3_; (try clear hb); (try clear hb2); (try clear hk); (try clear hi)) | ((with_reducible refine gate_builtin (b := .append) (xs := #[.tmp 27, .tmp 30]) rfl ?_); at_builtin; refine Kd.R_append (Kd.int .i64) w.heap.size rfl (.tmp 27) (.tmp 30) 26 3 (.int .i64 0) 8 rfl Try.underlying26 info3 rfl (by decide) (by omega) (.slice Ao22 x5_1.length co22) x5_1 t193 [.int .i64 t193] (fun _ => True) (fun _ => False) rfl rfl ?aP (fun _ hk => hk.elim) ?aF ?aO (Below.refl _ _) ?aS ?aL ?_; (case aP => exact rfl); (case aF => exact (fun _ _ => trivial)); (case aO => exact (taak)); (case aS => exact (keep_size (w := w) (g := g) (row := none) (taac))); (case aL => have := LMc21.out; omega); intro v197 w25 ho hb hg hat; rw [← Ny196.out] at ho; have n0_ := zad (IsS75.grown (taaf) hg (IsS75.own_ne HI0.out HO_5.out (by decide))); have n1_ := zad (below_weaken (taan) HL.out hb); have n2_ := zad (zbu (taac) (KeepBut.of_grown hg g) (Kd.R_base2 HO_5.out)); have n3_ := zad (ho); clear HI0 HB HK HO_5; have HI0 := n0_; have HB := n1_; have HK := n2_; have HO198 := n3_; clear n0_ n1_ n2_ n3_ ho hb hg hat))
           go_roundg k1
           case measure => have := HK1.out; omega
           case rel => exact ⟨(y196), (t194), (t195), H', ⟨taau⟩, ⟨by (with_reducible repeat (first | apply zai | apply zaj | apply zak)); exact HO198.out⟩, ⟨taaf⟩, ⟨taac⟩, ⟨taan⟩⟩
         · rw [if_neg c21] at H
           exact absurd H (taae)
       · rw [if_neg c19] at H
         have c19b0 : decide ((x5_1.length : Int) < (wrap64 (8 + t190))) = false := zbj c19
         clear c19; simp only [zbn, zbr] at H
         obtain ⟨rfl, rfl, rfl⟩ := H
         obtain ⟨Ao26, co26, eo26⟩ := zbx HO_5.out
         subst eo26; go_wp2_with (first | ((with_reducible refine zbh (f := 80) rfl ?_); refine zbp (some 24) rfl rfl Try.func80 (by kernel_rfl) rfl #[.pointer (some ⟨g, 0, none⟩), .int .i64 2] rfl (taad) ?_; (with_reducible refine (zcp g s0_0 x1001_1 x1002_1 2 t190 t191 t192 w0 _ ?side1 ?side2 A18.out).mono ?_); (case side1 => exact tagd); (case side2 => exact tage); rintro e w27 ⟨rfl, hi, hb, hk⟩; refine ⟨_, rfl, ?_⟩; have n0_ := zad (zbs (zbt (zcl (show IsS75 w0 _ g s0_0 x1001_1 x1002_1 from by exact tafz) (taak) (by decide)) hk (fun _ h => h.2)) (fun _ h => h.1)); have n1_ := zad (zbu (taac) hk (.inl rfl)); have n2_ := zad (hb); have n3_ := zad (hi); clear HO_5 HK HB HI0; have HO_5 := n0_; have HK := n1_; have HB := n2_; have HI0 := n3_; clear n0_ n1_ n2_ n3_; (try clear hb); (try clear hb2); (try clear hk); (try clear hi)))
         go_ret
         exact ⟨_, taaj, taak, taaf, taan, taac⟩
   · rw [if_neg c15] at H
     have c15b0 : (t178 == 1) = false := zbq.mpr c15
     have c15b1 : (t178 != 1) = true := bne_iff_ne.mpr c15
     by_cases c28 : t178 = 2
     · rw [if_pos c28] at H
       have c28b0 : (t178 == 2) = true := beq_iff_eq.mpr c28
       have c28b1 : (t178 != 2) = false := bne_eq_false_iff_eq.mpr c28
       clear c28; simp only [zbn, zbr] at H
       obtain ⟨rfl, rfl, rfl⟩ := H
       go_enter Try.func90, Try.ntmps90
       go_wp2_with (first | ((with_reducible refine zbh (f := 109) rfl ?_); refine zbp (some 8) rfl rfl Try.func109 (by kernel_rfl) rfl #[.pointer (some ⟨g, 0, none⟩), .int .i64 a1] rfl (taad) ?_; (with_reducible refine (spec_l1Cur_list.calls k g s0_0 s0_1 s0_2 a1 t173 t176 t177 w0 _ ?side1 ?side2 A3.out).mono ?_); (case side1 => repeat (first | (with_reducible first | exact HI0.out | apply zci | apply zcj | apply zck | apply zcn | apply zco) | exact HI0.out)); (case side2 => repeat (first | (with_reducible first | exact HB.out | apply zag | apply zae | apply zaf | refine zah ?_ (zcm HI0.out)) | exact HB.out)); rintro e w29 ⟨v174, rfl, ho0, hi, hb, hk⟩; refine ⟨_, rfl, ?_⟩; have n0_ := zad (zbw ho0 (keep_size (w := w) (g := g) (row := none) (taac))); have n1_ := zad (zbu (taac) hk (.inl rfl)); have n2_ := zad (hb); have n3_ := zad (hi); clear HK HB HI0; have HO175 := n0_; have HK := n1_; have HB := n2_; have HI0 := n3_; clear n0_ n1_ n2_ n3_; (try clear hb); (try clear hb2); (try clear hk); (try clear hi); (try clear ho0)) | ((with_reducible refine zbh (f := 80) rfl ?_); refine zbp (some 10) rfl rfl Try.func80 (by kernel_rfl) rfl #[.pointer (some ⟨g, 0, none⟩), .int .i64 14] rfl (taad) ?_; (with_reducible refine (zcp g s0_0 t176 t177 14 t178 t179 t180 w0 _ ?side1 ?side2 A4.out).mono ?_); (case side1 => repeat (first | (with_reducible first | exact HI0.out | apply zci | apply zcj | apply zck | apply zcn | apply zco) | exact HI0.out)); (case side2 => repeat (first | (with_reducible first | exact HB.out | apply zag | apply zae | apply zaf | refine zah ?_ (zcm HI0.out)) | exact HB.out)); rintro e w30 ⟨rfl, hi, hb, hk⟩; refine ⟨_, rfl, ?_⟩; have n0_ := zad (zbs (zbt (zcl (show IsS75 w0 _ g s0_0 t176 t177 from by exact tafz) (tabe) (by decide)) hk (fun _ h => h.2)) (fun _ h => h.1)); have n1_ := zad (zbu (taac) hk (.inl rfl)); have n2_ := zad (hb); have n3_ := zad (hi); clear HO175 HK HB HI0; have HO175 := n0_; have HK := n1_; have HB := n2_; have HI0 := n3_; clear n0_ n1_ n2_ n3_; (try clear hb); (try clear hb2); (try clear hk); (try clear hi)))
       go_ret
       exact ⟨_, taaj, tabj, taaf, taan, taac⟩
     · rw [if_neg c28] at H
       have c28b0 : (t178 == 2) = false := zbq.mpr c28
       have c28b1 : (t178 != 2) = true := bne_iff_ne.mpr c28
       simp only [zbn, zbr] at H
       obtain ⟨rfl, rfl, rfl⟩ := H
       go_enter Try.func90, Try.ntmps90
       go_wp2_with (first | ((with_reducible refine zbh (f := 109) rfl ?_); refine zbp (some 8) rfl rfl Try.func109 (by kernel_rfl) rfl #[.pointer (some ⟨g, 0, none⟩), .int .i64 a1] rfl (taad) ?_; (with_reducible refine (spec_l1Cur_list.calls k g s0_0 s0_1 s0_2 a1 t173 t176 t177 w0 _ ?side1 ?side2 A3.out).mono ?_); (case side1 => repeat (first | (with_reducible first | exact HI0.out | apply zci | apply zcj | apply zck | apply zcn | apply zco) | exact HI0.out)); (case side2 => repeat (first | (with_reducible first | exact HB.out | apply zag | apply zae | apply zaf | refine zah ?_ (zcm HI0.out)) | exact HB.out)); rintro e w31 ⟨v174, rfl, ho0, hi, hb, hk⟩; refine ⟨_, rfl, ?_⟩; have n0_ := zad (zbw ho0 (keep_size (w := w) (g := g) (row := none) (taac))); have n1_ := zad (zbu (taac) hk (.inl rfl)); have n2_ := zad (hb); have n3_ := zad (hi); clear HK HB HI0; have HO175 := n0_; have HK := n1_; have HB := n2_; have HI0 := n3_; clear n0_ n1_ n2_ n3_; (try clear hb); (try clear hb2); (try clear hk); (try clear hi); (try clear ho0)) | ((with_reducible refine zbh (f := 80) rfl ?_); refine zbp (some 10) rfl rfl Try.func80 (by kernel_rfl) rfl #[.pointer (some ⟨g, 0, none⟩), .int .i64 14] rfl (taad) ?_; (with_reducible refine (zcp g s0_0 t176 t177 14 t178 t179 t180 w0 _ ?side1 ?side2 A4.out).mono ?_); (case side1 => repeat (first | (with_reducible first | exact HI0.out | apply zci | apply zcj | apply zck | apply zcn | apply zco) | exact HI0.out)); (case side2 => repeat (first | (with_reducible first | exact HB.out | apply zag | apply zae | apply zaf | refine zah ?_ (zcm HI0.out)) | exact HB.out)); rintro e w32 ⟨rfl, hi, hb, hk⟩; refine ⟨_, rfl, ?_⟩; have n0_ := zad (zbs (zbt (zcl (show IsS75 w0 _ g s0_0 t176 t177 from by exact tafz) (tabe) (by decide)) hk (fun _ h => h.2)) (fun _ h => h.1)); have n1_ := zad (zbu (taac) hk (.inl rfl)); have n2_ := zad (hb); have n3_ := zad (hi); clear HO175 HK HB HI0; have HO175 := n0_; have HK := n1_; have HB := n2_; have HI0 := n3_; clear n0_ n1_ n2_ n3_; (try clear hb); (try clear hb2); (try clear hk); (try clear hi)))
       go_ret
       exact ⟨_, taaj, tabe, taaf, taan, taac⟩
mutual
def spec_l1Cur_fitting.l0 : Nat → List Int → List Int → Int → List Int → Int → Int → Option (List Int × List Int × Int × Int)
 | 0, _, _, _, _, _, _ => none
 | k + 1, x6, x7, x8, x1000, x1001, x1002 => if x8 > 0 then (spec_l1Cur_fitting.j1 k x6 x7 x8 (decide ((x7.length : Int) > 1)) x1000 x1001 x1002) else (spec_l1Cur_fitting.j1 k x6 x7 x8 false x1000 x1001 x1002)
def spec_l1Cur_fitting.j1 : Nat → List Int → List Int → Int → Bool → List Int → Int → Int → Option (List Int × List Int × Int × Int)
 | 0, _, _, _, _, _, _, _ => none
 | k + 1, x6, x7, x8, x30, x1000, x1001, x1002 => if x30 = true then ((spec_l1Cur_pick.f x1000 x1001 x1002 (x7.length : Int)).bind fun bt227 => ((spec_l1Cur_pick.f x1000 bt227.2.1 bt227.2.2 (x7.length : Int)).bind fun bt230 => (if 0 ≤ bt227.1 then (if bt227.1 < (x7.length : Int) then (if (rd x7 bt227.1) > 0 then (if 0 ≤ bt230.1 then (if bt230.1 < (x7.length : Int) then (if (rd x7 bt227.1) > (rd x7 bt230.1) then ((some (x7.set (bt227.1 : Int).toNat (wrap64 ((rd x7 bt227.1) - 1)) : List Int)).bind fun y237 => (spec_l1Cur_fitting.l0 k x6 (y237.set (bt230.1 : Int).toNat (wrap64 ((rd y237 bt230.1) + 1))) (wrap64 (x8 - 1)) x1000 bt230.2.1 bt230.2.2)) else ((spec_l1Cur_one.f x1000 bt230.2.1 bt230.2.2 4).bind fun bt240 => (if bt240.1 = true then ((some (x7.set (bt227.1 : Int).toNat (wrap64 ((rd x7 bt227.1) - 1)) : List Int)).bind fun y244 => (spec_l1Cur_fitting.l0 k x6 (y244.set (bt230.1 : Int).toNat (wrap64 ((rd y244 bt230.1) + 1))) (wrap64 (x8 - 1)) x1000 bt240.2.1 bt240.2.2)) else (spec_l1Cur_fitting.l0 k x6 x7 (wrap64 (x8 - 1)) x1000 bt240.2.1 bt240.2.2)))) else (none)) else (none)) else (spec_l1Cur_fitting.l0 k x6 x7 (wrap64 (x8 - 1)) x1000 bt230.2.1 bt230.2.2)) else (none)) else (none)))) else ((spec_l1Cur_one.f x1000 x1001 x1002 5).bind fun bt224 => (if bt224.1 = true then (some (x6, x7, bt224.2.1, bt224.2.2)) else (some (x7, x6, bt224.2.1, bt224.2.2))))
end
def spec_l1Cur_fitting.f (k : Nat) (s0_0 : List Int) (s0_1 : Int) (s0_2 : Int) (a1 : Int) : Option (List Int × List Int × Int × Int) := (spec_l1Cur_anyList.f k s0_0 s0_1 s0_2 a1).bind fun bt205 => ((spec_l1Cur_one.f s0_0 bt205.2.1 bt205.2.2 5).bind fun bt210 => (if bt210.1 = true then ((spec_l1Cur_anyList.f k s0_0 bt210.2.1 bt210.2.2 a1).bind fun bt213 => (some (bt213.1, bt205.1, bt213.2.1, bt213.2.2))) else ((spec_l1Own.f bt205.1).bind fun t218 => ((spec_l1Cur_pick.f s0_0 bt210.2.1 bt210.2.2 12).bind fun bt221 => (spec_l1Cur_fitting.l0 k bt205.1 t218 bt221.1 s0_0 bt221.2.1 bt221.2.2)))))
def spec_l1Cur_fitting.T9 : Bool × List (List Nat × List Nat) := (true, [([], []), ([], []), ([0, 1], [0, 1]), ([2], [2]), ([3], [3]), ([4], [4]), ([5], [5]), ([5], [5]), ([6, 7, 5], [5, 6, 7]), ([8, 5], [5, 8]), ([5], [5]), ([5], [5]), ([10, 11, 5], [5, 10, 11]), ([12, 5], [5, 12]), ([9, 13, 5], [5, 9, 13]), ([14, 5, 5], [5, 14]), ([15], [15]), ([16, 15, 15], [15, 16]), ([15, 17, 5], [5, 15, 17]), ([5, 18], [5, 18])])
def spec_l1Cur_fitting.B9 : List Nat := [0, 0, 3, 7, 15, 31, 63, 63, 255, 511, 63, 63, 3135, 7231, 16383, 32767, 65535, 131071, 262143, 524287]
theorem spec_l1Cur_fitting.tab9 : rtab .any (opsOf Try.f87 9) = spec_l1Cur_fitting.T9 := by kernel_rfl
theorem spec_l1Cur_fitting.bits9 : waitsOk spec_l1Cur_fitting.T9.2 spec_l1Cur_fitting.B9 = true := by kernel_rfl
theorem spec_l1Cur_fitting.calls (k : Nat) (g : Nat) (s0_0 : List Int) (s0_1 : Int) (s0_2 : Int) (a1 : Int) (r1 : List Int) (r2 : List Int) (r3 : Int) (r4 : Int) (w0 w : World) (hI : IsS75 w0 w g s0_0 s0_1 s0_2) (hB : Below w0.heap.size w0 w) (h : spec_l1Cur_fitting.f k s0_0 s0_1 s0_2 a1 = some (r1, r2, r3, r4)) :
 Calls Try.prog 87 #[.pointer (some ⟨g, 0, none⟩), .int .i64 a1] w fun e w' => ∃ v0_ v1_ : Value, e = .returned (.tuple #[v0_, v1_]) ∧ Kd.R (Kd.int .i64) 3 w' w.heap.size (fun k_ => some k_ ≠ (v1_ : Value).ownBlock) v0_ r1 ∧ Kd.R (Kd.int .i64) 3 w' w.heap.size (fun k_ => some k_ ≠ (v0_ : Value).ownBlock) v1_ r2 ∧ IsS75 w0 w' g s0_0 r3 r4 ∧ Below w0.heap.size w0 w' ∧ KeepBut w w' g none := by
 have HI0 := zad hI; have HK := zad (KeepBut.refl w g none)
 have HL := zad hB.size; clear hI; have HW0 := zad hB.size; have HB := zad hB; clear hB; have H : ((spec_l1Cur_anyList.f k s0_0 s0_1 s0_2 a1).bind fun bt205 => ((spec_l1Cur_one.f s0_0 bt205.2.1 bt205.2.2 5).bind fun bt210 => (if bt210.1 = true then ((spec_l1Cur_anyList.f k s0_0 bt210.2.1 bt210.2.2 a1).bind fun bt213 => (some (bt213.1, bt205.1, bt213.2.1, bt213.2.2))) else ((spec_l1Own.f bt205.1).bind fun t218 => ((spec_l1Cur_pick.f s0_0 bt210.2.1 bt210.2.2 12).bind fun bt221 => (spec_l1Cur_fitting.l0 k bt205.1 t218 bt221.1 s0_0 bt221.2.1 bt221.2.2)))))) = some (r1, r2, r3, r4) := h
 clear h; replace H := zay.mp H; obtain ⟨⟨t205, t208, t209⟩, A30, H⟩ := H
 replace H : ((spec_l1Cur_one.f s0_0 t208 t209 5).bind fun bt210 => (if bt210.1 = true then ((spec_l1Cur_anyList.f k s0_0 bt210.2.1 bt210.2.2 a1).bind fun bt213 => (some (bt213.1, t205, bt213.2.1, bt213.2.2))) else ((spec_l1Own.f t205).bind fun t218 => ((spec_l1Cur_pick.f s0_0 bt210.2.1 bt210.2.2 12).bind fun bt221 => (spec_l1Cur_fitting.l0 k t205 t218 bt221.1 s0_0 bt221.2.1 bt221.2.2))))) = some (r1, r2, r3, r4) := H
 have A3 := zad A30; clear A30; replace H := zay.mp H; obtain ⟨⟨t210, t211, t212⟩, A40, H⟩ := H
 replace H : (if t210 = true then ((spec_l1Cur_anyList.f k s0_0 t211 t212 a1).bind fun bt213 => (some (bt213.1, t205, bt213.2.1, bt213.2.2))) else ((spec_l1Own.f t205).bind fun t218 => ((spec_l1Cur_pick.f s0_0 t211 t212 12).bind fun bt221 => (spec_l1Cur_fitting.l0 k t205 t218 bt221.1 s0_0 bt221.2.1 bt221.2.2)))) = some (r1, r2, r3, r4) := H
 have A4 := zad A40; clear A40; by_cases c5 : t210 = true
 · subst c5
   have H1 : ((spec_l1Cur_anyList.f k s0_0 t211 t212 a1).bind fun bt213 => (some (bt213.1, t205, bt213.2.1, bt213.2.2))) = some (r1, r2, r3, r4) := by rw [if_pos rfl] at H; exact H
   clear H; have H := H1; clear H1; replace H := zay.mp H; obtain ⟨⟨t213, t216, t217⟩, A60, H⟩ := H
   replace H : (some (t213, t205, t216, t217)) = some (r1, r2, r3, r4) := H
   have A6 := zad A60; clear A60; simp only [zbn, zbr] at H
   obtain ⟨rfl, rfl, rfl, rfl⟩ := H
   go_enter Try.func87, Try.ntmps87
   go_wp2_with (first | ((with_reducible refine zbh (f := 90) rfl ?_); refine zbp (some 13) rfl rfl Try.func90 (by kernel_rfl) rfl #[.pointer (some ⟨g, 0, none⟩), .int .i64 a1] rfl (taad) ?_; (with_reducible refine (spec_l1Cur_anyList.calls k g s0_0 s0_1 s0_2 a1 t205 t208 t209 w0 _ ?side1 ?side2 A3.out).mono ?_); (case side1 => repeat (first | (with_reducible first | exact HI0.out | apply zci | apply zcj | apply zck | apply zcn | apply zco) | exact HI0.out)); (case side2 => repeat (first | (with_reducible first | exact HB.out | apply zag | apply zae | apply zaf | refine zah ?_ (zcm HI0.out)) | exact HB.out)); rintro e w7 ⟨v206, rfl, ho0, hi, hb, hk⟩; refine ⟨_, rfl, ?_⟩; have n0_ := zad (zbw ho0 (keep_size (w := w) (g := g) (row := none) (taac))); have n1_ := zad (zbu (taac) hk (.inl rfl)); have n2_ := zad (hb); have n3_ := zad (hi); clear HK HB HI0; have HO207 := n0_; have HK := n1_; have HB := n2_; have HI0 := n3_; clear n0_ n1_ n2_ n3_; (try clear hb); (try clear hb2); (try clear hk); (try clear hi); (try clear ho0)) | ((with_reducible refine zbh (f := 89) rfl ?_); refine zbp (some 15) rfl rfl Try.func89 (by kernel_rfl) rfl #[.pointer (some ⟨g, 0, none⟩), .int .i64 5] rfl (taad) ?_; (with_reducible refine (spec_l1Cur_one.calls g s0_0 t208 t209 5 true t211 t212 w0 _ ?side1 ?side2 A4.out).mono ?_); (case side1 => repeat (first | (with_reducible first | exact HI0.out | apply zci | apply zcj | apply zck | apply zcn | apply zco) | exact HI0.out)); (case side2 => repeat (first | (with_reducible first | exact HB.out | apply zag | apply zae | apply zaf | refine zah ?_ (zcm HI0.out)) | exact HB.out)); rintro e w8 ⟨rfl, hi, hb, hk⟩; refine ⟨_, rfl, ?_⟩; have n0_ := zad (zbs (zbt (zcl (show IsS75 w0 _ g s0_0 t208 t209 from by exact tafz) (tabk) (by decide)) hk (fun _ h => h.2)) (fun _ h => h.1)); have n1_ := zad (zbu (taac) hk (.inl rfl)); have n2_ := zad (hb); have n3_ := zad (hi); clear HO207 HK HB HI0; have HO207 := n0_; have HK := n1_; have HB := n2_; have HI0 := n3_; clear n0_ n1_ n2_ n3_; (try clear hb); (try clear hb2); (try clear hk); (try clear hi)) | ((with_reducible refine zbh (f := 90) rfl ?_); refine zbp (some 18) rfl rfl Try.func90 (by kernel_rfl) rfl #[.pointer (some ⟨g, 0, none⟩), .int .i64 a1] rfl (taad) ?_; (with_reducible refine (spec_l1Cur_anyList.calls k g s0_0 t211 t212 a1 t213 t216 t217 w0 _ ?side1 ?side2 A6.out).mono ?_); (case side1 => repeat (first | (with_reducible first | exact HI0.out | apply zci | apply zcj | apply zck | apply zcn | apply zco) | exact HI0.out)); (case side2 => repeat (first | (with_reducible first | exact HB.out | apply zag | apply zae | apply zaf | refine zah ?_ (zcm HI0.out)) | exact HB.out)); rintro e w9 ⟨v214, rfl, ho0, hi, hb, hk⟩; refine ⟨_, rfl, ?_⟩; have n0_ := zad (zbs (Kd.R_told (Kd.R_oldK (zcl (show IsS75 w0 _ g s0_0 t211 t212 from by exact tafz) (tabk) (by decide)) hk) (zcf ho0)) (fun _ h_ => h_.1)); have n1_ := zad (zbw (zce ho0 (zcg (tabk))) (keep_size (w := w) (g := g) (row := none) (taac))); have n2_ := zad (zbu (taac) hk (.inl rfl)); have n3_ := zad (hb); have n4_ := zad (hi); clear HO207 HK HB HI0; have HO207 := n0_; have HO215 := n1_; have HK := n2_; have HB := n3_; have HI0 := n4_; clear n0_ n1_ n2_ n3_ n4_; (try clear hb); (try clear hb2); (try clear hk); (try clear hi); (try clear ho0)))
   go_ret2
   exact ⟨_, _, taaj, by (with_reducible repeat (first | apply zai | apply zaj | apply zak)); exact zbs HO215.out (fun _ hk => hk.2), tadq, taaf, taan, taac⟩
 · replace c5 := zbi.mpr c5
   subst c5; have H1 : ((spec_l1Own.f t205).bind fun t218 => ((spec_l1Cur_pick.f s0_0 t211 t212 12).bind fun bt221 => (spec_l1Cur_fitting.l0 k t205 t218 bt221.1 s0_0 bt221.2.1 bt221.2.2))) = some (r1, r2, r3, r4) := by rw [if_neg (show ¬ (false = true) by decide)] at H; exact H
   clear H; have H := H1; clear H1; replace H := zay.mp H; obtain ⟨t218, A100, H⟩ := H
   replace H : ((spec_l1Cur_pick.f s0_0 t211 t212 12).bind fun bt221 => (spec_l1Cur_fitting.l0 k t205 t218 bt221.1 s0_0 bt221.2.1 bt221.2.2)) = some (r1, r2, r3, r4) := H
   have A10 := zad A100; clear A100; replace H := zay.mp H; obtain ⟨⟨t221, t222, t223⟩, A110, H⟩ := H
   replace H : (spec_l1Cur_fitting.l0 k t205 t218 t221 s0_0 t222 t223) = some (r1, r2, r3, r4) := H
   have A11 := zad A110; clear A110; have H' := zad H
   clear H; go_enter Try.func87, Try.ntmps87
   go_wp2_with (first | ((with_reducible refine zbh (f := 90) rfl ?_); refine zbp (some 13) rfl rfl Try.func90 (by kernel_rfl) rfl #[.pointer (some ⟨g, 0, none⟩), .int .i64 a1] rfl (taad) ?_; (with_reducible refine (spec_l1Cur_anyList.calls k g s0_0 s0_1 s0_2 a1 t205 t208 t209 w0 _ ?side1 ?side2 A3.out).mono ?_); (case side1 => repeat (first | (with_reducible first | exact HI0.out | apply zci | apply zcj | apply zck | apply zcn | apply zco) | exact HI0.out)); (case side2 => repeat (first | (with_reducible first | exact HB.out | apply zag | apply zae | apply zaf | refine zah ?_ (zcm HI0.out)) | exact HB.out)); rintro e w12 ⟨v206, rfl, ho0, hi, hb, hk⟩; refine ⟨_, rfl, ?_⟩; have n0_ := zad (zbw ho0 (keep_size (w := w) (g := g) (row := none) (taac))); have n1_ := zad (zbu (taac) hk (.inl rfl)); have n2_ := zad (hb); have n3_ := zad (hi); clear HK HB HI0; have HO207 := n0_; have HK := n1_; have HB := n2_; have HI0 := n3_; clear n0_ n1_ n2_ n3_; (try clear hb); (try clear hb2); (try clear hk); (try clear hi); (try clear ho0)) | ((with_reducible refine zbh (f := 89) rfl ?_); refine zbp (some 15) rfl rfl Try.func89 (by kernel_rfl) rfl #[.pointer (some ⟨g, 0, none⟩), .int .i64 5] rfl (taad) ?_; (with_reducible refine (spec_l1Cur_one.calls g s0_0 t208 t209 5 false t211 t212 w0 _ ?side1 ?side2 A4.out).mono ?_); (case side1 => repeat (first | (with_reducible first | exact HI0.out | apply zci | apply zcj | apply zck | apply zcn | apply zco) | exact HI0.out)); (case side2 => repeat (first | (with_reducible first | exact HB.out | apply zag | apply zae | apply zaf | refine zah ?_ (zcm HI0.out)) | exact HB.out)); rintro e w13 ⟨rfl, hi, hb, hk⟩; refine ⟨_, rfl, ?_⟩; have n0_ := zad (zbs (zbt (zcl (show IsS75 w0 _ g s0_0 t208 t209 from by exact tafz) (tabk) (by decide)) hk (fun _ h => h.2)) (fun _ h => h.1)); have n1_ := zad (zbu (taac) hk (.inl rfl)); have n2_ := zad (hb); have n3_ := zad (hi); clear HO207 HK HB HI0; have HO207 := n0_; have HK := n1_; have HB := n2_; have HI0 := n3_; clear n0_ n1_ n2_ n3_; (try clear hb); (try clear hb2); (try clear hk); (try clear hi); obtain ⟨Ao14, co14, eo14⟩ := zbx HO207.out; subst eo14) | ((with_reducible refine zbh (f := 111) rfl ?_); refine zbp (some 21) rfl rfl Try.func111 (by kernel_rfl) rfl #[.slice Ao14 t205.length co14] rfl (taad) ?_; (with_reducible refine (spec_l1Own.calls _ _ t205 t218 _ ?side1 ?side2 A10.out).mono ?_); (case side1 => repeat (first | exact (zbf HO207.out).2.2 | (with_reducible refine zal ?_ _) | (with_reducible refine zam ?_ _) | (with_reducible refine zan ?_))); (case side2 => exact (zbf HO207.out).2.1); rintro e w15 ⟨v219, rfl, ho0, hb⟩; refine ⟨_, rfl, ?_⟩; have n0_ := zad (zcd (tabk) (zcf ho0) hb); have n1_ := zad (zbw (zce ho0 (zcg (tabk))) (keep_size (w := w) (g := g) (row := none) (taac))); have n2_ := zad (IsS75.below (taaf) hb); have n3_ := zad (zbu (taac) (KeepBut.of_below hb g none) (.inl rfl)); have n4_ := zad (zbg (taan) hb); clear HO207 HI0 HK HB; have HO207 := n0_; have HO220 := n1_; have HI0 := n2_; have HK := n3_; have HB := n4_; clear n0_ n1_ n2_ n3_ n4_; (try clear hb); (try clear hb2); (try clear hk); (try clear hi); (try clear ho0)) | ((with_reducible refine zbh (f := 80) rfl ?_); refine zbp (some 23) rfl rfl Try.func80 (by kernel_rfl) rfl #[.pointer (some ⟨g, 0, none⟩), .int .i64 12] rfl (taad) ?_; (with_reducible refine (zcp g s0_0 t211 t212 12 t221 t222 t223 w0 _ ?side1 ?side2 A11.out).mono ?_); (case side1 => repeat (first | (with_reducible first | exact HI0.out | apply zci | apply zcj | apply zck | apply zcn | apply zco) | exact HI0.out)); (case side2 => repeat (first | (with_reducible first | exact HB.out | apply zag | apply zae | apply zaf | refine zah ?_ (zcm HI0.out)) | exact HB.out)); rintro e w16 ⟨rfl, hi, hb, hk⟩; refine ⟨_, rfl, ?_⟩; have n0_ := zad (zbs (zbt (zcl (show IsS75 w0 _ g s0_0 t211 t212 from by exact tafz) (tabk) (by decide)) hk (fun _ h => h.2)) (fun _ h => h.1)); have n1_ := zad (zbs (zbt (zcl (show IsS75 w0 _ g s0_0 t211 t212 from by exact tafz) (by (with_reducible repeat (first | apply zai | apply zaj | apply zak)); exact HO220.out) (by decide)) hk (fun _ h => h.2)) (fun _ h => h.1)); have n2_ := zad (zbu (taac) hk (.inl rfl)); have n3_ := zad (hb); have n4_ := zad (hi); clear HO207 HO220 HK HB HI0; have HO207 := n0_; have HO220 := n1_; have HK := n2_; have HB := n3_; have HI0 := n4_; clear n0_ n1_ n2_ n3_ n4_; (try clear hb); (try clear hb2); (try clear hk); (try clear hi)))
   go_loopg [8] k (fun kq v8 w' => ∃ (x7_1 : List Int) (x8_1 : Int) (x1001_1 : Int) (x1002_1 : Int), v8 = .int .i64 x8_1 ∧ Aside0 (spec_l1Cur_fitting.l0 kq t205 x7_1 x8_1 s0_0 x1001_1 x1002_1 = some (r1, r2, r3, r4)) ∧ Aside0 (kq ≤ k) ∧ Aside0 (Kd.R (Kd.int .i64) 3 w' w.heap.size (fun k_ => some k_ ≠ (v219 : Value).ownBlock) (.slice Ao14 t205.length co14) t205) ∧ Aside0 (Kd.R (Kd.int .i64) 3 w' w.heap.size (fun k_ => some k_ ≠ ((.slice Ao14 t205.length co14) : Value).ownBlock) v219 x7_1) ∧ Aside0 (IsS75 w0 w' g s0_0 x1001_1 x1002_1) ∧ Aside0 (KeepBut w w' g none) ∧ Aside0 (Below w0.heap.size w0 w'))
   case atStart => exact ⟨(t218), (t221), (t222), (t223), (taag), H', ⟨zch _⟩, ⟨tadq⟩, ⟨by (with_reducible repeat (first | apply zai | apply zaj | apply zak)); exact zbs HO220.out (fun _ hk => hk.2)⟩, ⟨taaf⟩, ⟨taac⟩, ⟨taan⟩⟩
   case round =>
    clear H'
    try clear c1
    try clear p2
    try clear c5
    try clear c8
    try clear c9
    try clear c11
    obtain ⟨x7_1, x8_1, x1001_1, x1002_1, rfl, HA, HK1, HO_6, HO_7, HI0, HK, HB⟩ := hrel
    cases gk with
    | zero => exact absurd HA.out (by simp [spec_l1Cur_fitting.l0])
    | succ k1 =>
     have H := HA.out
     clear HA; simp only [spec_l1Cur_fitting.l0] at H
     have HC17 := zad H; clear H; go_upto_region 6 with (fail)
     go_cut [30] (fun v30 wc => ∃ (kq : Nat) (x30_16 : Bool), v30 = .bool x30_16 ∧ Aside0 (spec_l1Cur_fitting.j1 kq t205 x7_1 x8_1 x30_16 s0_0 x1001_1 x1002_1 = some (r1, r2, r3, r4)) ∧ Aside0 (kq ≤ k1) ∧ Aside0 (Kd.R (Kd.int .i64) 3 wc w.heap.size (fun k_ => some k_ ≠ (v219 : Value).ownBlock) (.slice Ao14 t205.length co14) t205) ∧ Aside0 (Kd.R (Kd.int .i64) 3 wc w.heap.size (fun k_ => some k_ ≠ ((.slice Ao14 t205.length co14) : Value).ownBlock) v219 x7_1) ∧ Aside0 (IsS75 w0 wc g s0_0 x1001_1 x1002_1) ∧ Aside0 (KeepBut w wc g none) ∧ Aside0 (Below w0.heap.size w0 wc))
     case first =>
      have H := HC17.out
      clear HC17; by_cases c18 : x8_1 > 0
      · rw [if_pos c18] at H
        have c18b0 : decide (0 < x8_1) = true := zba c18
        clear c18; (first | rw [c18b0] | (simp only [zby, zbz]; rw [c18b0]) | skip)
        have H' := zad H
        clear H; obtain ⟨Ao19, co19, eo19⟩ := zbx HO_7.out
        subst eo19; go_wp2
        go_meet
        case rel => exact ⟨_, (decide ((x7_1.length : Int) > 1)), (taag), H', ⟨taco⟩, ⟨taai⟩, ⟨taah⟩, ⟨taaf⟩, ⟨taac⟩, ⟨taan⟩⟩
      · rw [if_neg c18] at H
        have c18b0 : decide (0 < x8_1) = false := zbj c18
        clear c18; (first | rw [c18b0] | (simp only [zby, zbz]; rw [c18b0]) | skip)
        have H' := zad H
        clear H; go_wp2
        go_meet
        case rel => exact ⟨_, (false), (taag), H', ⟨taco⟩, ⟨taai⟩, ⟨taah⟩, ⟨taaf⟩, ⟨taac⟩, ⟨taan⟩⟩
     case rest =>
      clear HC17; try clear c1
      try clear p2
      try clear c5
      try clear c8
      try clear c9
      try clear c11
      try clear c18
      try clear c18b0
      try clear p2
      obtain ⟨kq, x30_16, rfl, HA, HJ16, HO_6, HO_7, HI0, HK, HB⟩ := hcut
      cases kq with
      | zero => exact absurd HA.out (by simp [spec_l1Cur_fitting.j1])
      | succ kj16 =>
       have H := HA.out
       clear HA; simp only [spec_l1Cur_fitting.j1] at H
       by_cases c20 : x30_16 = true
       · subst c20
         have H1 : ((spec_l1Cur_pick.f s0_0 x1001_1 x1002_1 (x7_1.length : Int)).bind fun bt227 => ((spec_l1Cur_pick.f s0_0 bt227.2.1 bt227.2.2 (x7_1.length : Int)).bind fun bt230 => (if 0 ≤ bt227.1 then (if bt227.1 < (x7_1.length : Int) then (if (rd x7_1 bt227.1) > 0 then (if 0 ≤ bt230.1 then (if bt230.1 < (x7_1.length : Int) then (if (rd x7_1 bt227.1) > (rd x7_1 bt230.1) then ((some (x7_1.set (bt227.1 : Int).toNat (wrap64 ((rd x7_1 bt227.1) - 1)) : List Int)).bind fun y237 => (spec_l1Cur_fitting.l0 kj16 t205 (y237.set (bt230.1 : Int).toNat (wrap64 ((rd y237 bt230.1) + 1))) (wrap64 (x8_1 - 1)) s0_0 bt230.2.1 bt230.2.2)) else ((spec_l1Cur_one.f s0_0 bt230.2.1 bt230.2.2 4).bind fun bt240 => (if bt240.1 = true then ((some (x7_1.set (bt227.1 : Int).toNat (wrap64 ((rd x7_1 bt227.1) - 1)) : List Int)).bind fun y244 => (spec_l1Cur_fitting.l0 kj16 t205 (y244.set (bt230.1 : Int).toNat (wrap64 ((rd y244 bt230.1) + 1))) (wrap64 (x8_1 - 1)) s0_0 bt240.2.1 bt240.2.2)) else (spec_l1Cur_fitting.l0 kj16 t205 x7_1 (wrap64 (x8_1 - 1)) s0_0 bt240.2.1 bt240.2.2)))) else (none)) else (none)) else (spec_l1Cur_fitting.l0 kj16 t205 x7_1 (wrap64 (x8_1 - 1)) s0_0 bt230.2.1 bt230.2.2)) else (none)) else (none)))) = some (r1, r2, r3, r4) := by rw [if_pos rfl] at H; exact H
         clear H; have H := H1; clear H1; replace H := zay.mp H; obtain ⟨⟨t227, t228, t229⟩, A210, H⟩ := H
         replace H : ((spec_l1Cur_pick.f s0_0 t228 t229 (x7_1.length : Int)).bind fun bt230 => (if 0 ≤ t227 then (if t227 < (x7_1.length : Int) then (if (rd x7_1 t227) > 0 then (if 0 ≤ bt230.1 then (if bt230.1 < (x7_1.length : Int) then (if (rd x7_1 t227) > (rd x7_1 bt230.1) then ((some (x7_1.set (t227 : Int).toNat (wrap64 ((rd x7_1 t227) - 1)) : List Int)).bind fun y237 => (spec_l1Cur_fitting.l0 kj16 t205 (y237.set (bt230.1 : Int).toNat (wrap64 ((rd y237 bt230.1) + 1))) (wrap64 (x8_1 - 1)) s0_0 bt230.2.1 bt230.2.2)) else ((spec_l1Cur_one.f s0_0 bt230.2.1 bt230.2.2 4).bind fun bt240 => (if bt240.1 = true then ((some (x7_1.set (t227 : Int).toNat (wrap64 ((rd x7_1 t227) - 1)) : List Int)).bind fun y244 => (spec_l1Cur_fitting.l0 kj16 t205 (y244.set (bt230.1 : Int).toNat (wrap64 ((rd y244 bt230.1) + 1))) (wrap64 (x8_1 - 1)) s0_0 bt240.2.1 bt240.2.2)) else (spec_l1Cur_fitting.l0 kj16 t205 x7_1 (wrap64 (x8_1 - 1)) s0_0 bt240.2.1 bt240.2.2)))) else (none)) else (none)) else (spec_l1Cur_fitting.l0 kj16 t205 x7_1 (wrap64 (x8_1 - 1)) s0_0 bt230.2.1 bt230.2.2)) else (none)) else (none))) = some (r1, r2, r3, r4) := H
         have A21 := zad A210; clear A210; replace H := zay.mp H; obtain ⟨⟨t230, t231, t232⟩, A220, H⟩ := H
         replace H : (if 0 ≤ t227 then (if t227 < (x7_1.length : Int) then (if (rd x7_1 t227) > 0 then (if 0 ≤ t230 then (if t230 < (x7_1.length : Int) then (if (rd x7_1 t227) > (rd x7_1 t230) then ((some (x7_1.set (t227 : Int).toNat (wrap64 ((rd x7_1 t227) - 1)) : List Int)).bind fun y237 => (spec_l1Cur_fitting.l0 kj16 t205 (y237.set (t230 : Int).toNat (wrap64 ((rd y237 t230) + 1))) (wrap64 (x8_1 - 1)) s0_0 t231 t232)) else ((spec_l1Cur_one.f s0_0 t231 t232 4).bind fun bt240 => (if bt240.1 = true then ((some (x7_1.set (t227 : Int).toNat (wrap64 ((rd x7_1 t227) - 1)) : List Int)).bind fun y244 => (spec_l1Cur_fitting.l0 kj16 t205 (y244.set (t230 : Int).toNat (wrap64 ((rd y244 t230) + 1))) (wrap64 (x8_1 - 1)) s0_0 bt240.2.1 bt240.2.2)) else (spec_l1Cur_fitting.l0 kj16 t205 x7_1 (wrap64 (x8_1 - 1)) s0_0 bt240.2.1 bt240.2.2)))) else (none)) else (none)) else (spec_l1Cur_fitting.l0 kj16 t205 x7_1 (wrap64 (x8_1 - 1)) s0_0 t231 t232)) else (none)) else (none)) = some (r1, r2, r3, r4) := H
         have A22 := zad A220; clear A220; by_cases c23 : 0 ≤ t227
         · rw [if_pos c23] at H
           have c23b0 : decide (0 ≤ t227) = true := zba c23
           clear c23; by_cases c24 : t227 < (x7_1.length : Int)
           · rw [if_pos c24] at H
             have c24b0 : decide (t227 < (x7_1.length : Int)) = true := zba c24
             clear c24; by_cases c25 : (rd x7_1 t227) > 0
             · rw [if_pos c25] at H
               have c25b0 : decide (0 < (rd x7_1 t227)) = true := zba c25
               clear c25; by_cases c26 : 0 ≤ t230
               · rw [if_pos c26] at H
                 have c26b0 : decide (0 ≤ t230) = true := zba c26
                 clear c26; by_cases c27 : t230 < (x7_1.length : Int)
                 · rw [if_pos c27] at H
                   have c27b0 : decide (t230 < (x7_1.length : Int)) = true := zba c27
                   clear c27; by_cases c28 : (rd x7_1 t227) > (rd x7_1 t230)
                   · rw [if_pos c28] at H
                     have c28b0 : decide ((rd x7_1 t230) < (rd x7_1 t227)) = true := zba c28
                     clear c28; obtain ⟨y237, hy237⟩ : ∃ y_ : List Int, y_ = (x7_1.set (t227 : Int).toNat (wrap64 ((rd x7_1 t227) - 1))) := ⟨_, rfl⟩
                     replace H : (spec_l1Cur_fitting.l0 kj16 t205 (y237.set (t230 : Int).toNat (wrap64 ((rd y237 t230) + 1))) (wrap64 (x8_1 - 1)) s0_0 t231 t232) = some (r1, r2, r3, r4) := by first | (rw [hy237]; with_reducible exact H) | (have H2_ := (zbd _ _).symm.trans H; rw [hy237]; with_reducible exact H2_) | (have H2_ := (zbd _ _).symm.trans H; with_reducible exact H2_) | with_reducible exact H | (rw [hy237]; exact H) | exact H
                     have Ny237 := zad hy237; clear hy237; obtain ⟨y239, hy239⟩ : ∃ y_ : List Int, y_ = (y237.set (t230 : Int).toNat (wrap64 ((rd y237 t230) + 1))) := ⟨_, rfl⟩
                     replace H : (spec_l1Cur_fitting.l0 kj16 t205 y239 (wrap64 (x8_1 - 1)) s0_0 t231 t232) = some (r1, r2, r3, r4) := by first | (rw [hy239]; with_reducible exact H) | (have H2_ := (zbd _ _).symm.trans H; rw [hy239]; with_reducible exact H2_) | (have H2_ := (zbd _ _).symm.trans H; with_reducible exact H2_) | with_reducible exact H | (rw [hy239]; exact H) | exact H
                     have Ny239 := zad hy239; clear hy239; have H' := zad H
                     clear H; obtain ⟨Ao31, co31, eo31⟩ := zbx HO_7.out
                     subst eo31; try go_wp2_with (first | ((with_reducible refine zbh (f := 80) rfl ?_); refine zbp (some 36) rfl rfl Try.func80 (by kernel_rfl) rfl #[.pointer (some ⟨g, 0, none⟩), .int .i64 (x7_1.length : Int)] rfl (taad) ?_; (with_reducible refine (zcp g s0_0 x1001_1 x1002_1 (x7_1.length : Int) t227 t228 t229 w0 _ ?side1 ?side2 A21.out).mono ?_); (case side1 => repeat (first | (with_reducible first | exact HI0.out | apply zci | apply zcj | apply zck | apply zcn | apply zco) | exact HI0.out)); (case side2 => repeat (first | (with_reducible first | exact HB.out | apply zag | apply zae | apply zaf | refine zah ?_ (zcm HI0.out)) | exact HB.out)); rintro e w32 ⟨rfl, hi, hb, hk⟩; refine ⟨_, rfl, ?_⟩; have n0_ := zad (zbs (zbt (zcl (show IsS75 w0 _ g s0_0 x1001_1 x1002_1 from by exact tafz) (taai) (by decide)) hk (fun _ h => h.2)) (fun _ h => h.1)); have n1_ := zad (zbs (zbt (zcl (show IsS75 w0 _ g s0_0 x1001_1 x1002_1 from by exact tafz) (taah) (by decide)) hk (fun _ h => h.2)) (fun _ h => h.1)); have n2_ := zad (zbu (taac) hk (.inl rfl)); have n3_ := zad (hb); have n4_ := zad (hi); clear HO_6 HO_7 HK HB HI0; have HO_6 := n0_; have HO_7 := n1_; have HK := n2_; have HB := n3_; have HI0 := n4_; clear n0_ n1_ n2_ n3_ n4_; (try clear hb); (try clear hb2); (try clear hk); (try clear hi)) | ((with_reducible refine zbh (f := 80) rfl ?_); refine zbp (some 40) rfl rfl Try.func80 (by kernel_rfl) rfl #[.pointer (some ⟨g, 0, none⟩), .int .i64 (x7_1.length : Int)] rfl (taad) ?_; (with_reducible refine (zcp g s0_0 t228 t229 (x7_1.length : Int) t230 t231 t232 w0 _ ?side1 ?side2 A22.out).mono ?_); (case side1 => repeat (first | (with_reducible first | exact HI0.out | apply zci | apply zcj | apply zck | apply zcn | apply zco) | exact HI0.out)); (case side2 => repeat (first | (with_reducible first | exact HB.out | apply zag | apply zae | apply zaf | refine zah ?_ (zcm HI0.out)) | exact HB.out)); rintro e w33 ⟨rfl, hi, hb, hk⟩; refine ⟨_, rfl, ?_⟩; have n0_ := zad (zbs (zbt (zcl (show IsS75 w0 _ g s0_0 t228 t229 from by exact tafz) (taai) (by decide)) hk (fun _ h => h.2)) (fun _ h => h.1)); have n1_ := zad (zbs (zbt (zcl (show IsS75 w0 _ g s0_0 t228 t229 from by exact tafz) (taah) (by decide)) hk (fun _ h => h.2)) (fun _ h => h.1)); have n2_ := zad (zbu (taac) hk (.inl rfl)); have n3_ := zad (hb); have n4_ := zad (hi); clear HO_6 HO_7 HK HB HI0; have HO_6 := n0_; have HO_7 := n1_; have HK := n2_; have HB := n3_; have HI0 := n4_; clear n0_ n1_ n2_ n3_ n4_; (try clear hb); (try clear hb2); (try clear hk); (try clear hi)))
                     have n0_ := zad (zak HO_6.out)
                     have n1_ := zad (zak HO_7.out)
                     have n2_ := zad (zck HI0.out)
                     have n3_ := zad (zaq HK.out)
                     have n4_ := zad (zaf HB.out)
                     clear HO_6 HO_7 HI0 HK HB; have HO_6 := n0_; have HO_7 := n1_; have HI0 := n2_; have HK := n3_; have HB := n4_; clear n0_ n1_ n2_ n3_ n4_; have p233 : 0 ≤ (t227 : Int) := zas (taaa)
                     have q233 : t227 < (x7_1.length : Int) := zas (taaa)
                     obtain ⟨ad233, e233, hx233_0⟩ := zcc (zbf HO_7.out).2.2 t227 p233 q233
                     cases e233
                     replace p233 := eq_true p233
                     replace q233 := eq_true q233
                     have p234 : 0 ≤ (t227 : Int) := zas (taaa)
                     have q234 : t227 < (x7_1.length : Int) := zas (taaa)
                     obtain ⟨ad234, e234, hx234_0⟩ := zcc (zbf HO_7.out).2.2 t227 p234 q234
                     obtain rfl : ad233 = ad234 := (by injection e234)
                     replace p234 := eq_true p234
                     replace q234 := eq_true q234
                     have p235 : 0 ≤ (t230 : Int) := zas (taaa)
                     have q235 : t230 < (x7_1.length : Int) := zas (taaa)
                     obtain ⟨ad235, e235, hx235_0⟩ := zcc (zbf HO_7.out).2.2 t230 p235 q235
                     obtain rfl : ad233 = ad235 := (by injection e235)
                     replace p235 := eq_true p235
                     replace q235 := eq_true q235
                     refine start_ (n := 20) (S := fun w' => w'.cell? (ad233.add (t227).toNat) = some (.int .i64 (rd x7_1 t227)) ∧ w'.cell? (ad233.add (t227).toNat) = some (.int .i64 (rd x7_1 t227)) ∧ w'.cell? (ad233.add (t230).toNat) = some (.int .i64 (rd x7_1 t230))) (ds := []) #[false, false, false, false, false, false, false, false, false, false, false, false, false, false, false, false, false, false, false, false] (by kernel_rfl) rfl rfl ⟨hx233_0, hx234_0, hx235_0⟩ (fun hHeld => ?_); refine with_tabW spec_l1Cur_fitting.tab9 spec_l1Cur_fitting.bits9 (fun HT_ HW_ => ?_)
                     generalize w33.drew = w34 at HO_6 HO_7 HI0 HK HB hx233_0 hx234_0 hx235_0 hHeld ⊢
                     refine pure_ (i := 0) (N := some 41) (v := ?_) (a' := ?_) tahv rfl rfl (zca HT_.out (by kernel_rfl)) (fun _ _ _ h => h) (Or.inl ⟨by rfl, ?_⟩) ?_ ?_
                     rotate_left
                     · intro w'
                       go_simp; with_reducible rfl
                     rotate_left
                     · simp only [Act.put, zaa, zab, zac, zby, zbz]
                       rfl
                     refine pure_ (i := 1) (N := some 42) (v := ?_) (a' := ?_) tahw rfl rfl (zca HT_.out (by kernel_rfl)) (fun _ _ _ h => h) (Or.inl ⟨by rfl, ?_⟩) ?_ ?_
                     rotate_left
                     · intro w'
                       go_simp; with_reducible rfl
                     rotate_left
                     · simp only [Act.put, zaa, zab, zac, zby, zbz]
                       rfl
                     refine pure_ (i := 2) (N := some 43) (v := ?_) (a' := ?_) tahx rfl rfl (zca HT_.out (by kernel_rfl)) (fun _ _ _ h => h) (Or.inl ⟨by rfl, ?_⟩) ?_ ?_
                     rotate_left
                     · intro w'
                       go_simp; with_reducible rfl
                     rotate_left
                     · simp only [Act.put, zaa, zab, zac, zby, zbz]
                       rfl
                     refine take_ (i := 3) (N := some 44) (v := ?_) (a' := ?_) tahy rfl rfl (zcb HT_.out HW_.out (by kernel_rfl)) (fun _ _ _ h => h) (Or.inl ⟨by rfl, ?_⟩) hHeld ?_ ?_
                     rotate_left
                     · rintro w' ⟨s0, s1, s2⟩
                       go_simp; with_reducible rfl
                     rotate_left
                     · simp only [Act.put, zaa, zab, zac, zby, zbz]
                       rfl
                     refine pure_ (i := 4) (N := some 45) (v := ?_) (a' := ?_) tahz rfl rfl (zca HT_.out (by kernel_rfl)) (fun _ _ _ h => h) (Or.inl ⟨by rfl, ?_⟩) ?_ ?_
                     rotate_left
                     · intro w'
                       go_simp; with_reducible rfl
                     rotate_left
                     · simp only [Act.put, zaa, zab, zac, zby, zbz]
                       rfl
                     refine pure_ (i := 5) (N := some 46) (v := ?_) (a' := ?_) taia rfl rfl (zca HT_.out (by kernel_rfl)) (fun _ _ _ h => h) (Or.inl ⟨by rfl, ?_⟩) ?_ ?_
                     rotate_left
                     · intro w'
                       go_simp; with_reducible rfl
                     rotate_left
                     · simp only [Act.put, zaa, zab, zac, zby, zbz]
                       rfl
                     refine pure_ (i := 6) (N := some 47) (v := ?_) (a' := ?_) taib rfl rfl (zca HT_.out (by kernel_rfl)) (fun _ _ _ h => h) (Or.inl ⟨by rfl, ?_⟩) ?_ ?_
                     rotate_left
                     · intro w'
                       go_simp; with_reducible rfl
                     rotate_left
                     · simp only [Act.put, zaa, zab, zac, zby, zbz]
                       rfl
                     refine pure_ (i := 7) (N := some 48) (v := ?_) (a' := ?_) taic rfl rfl (zca HT_.out (by kernel_rfl)) (fun _ _ _ h => h) (Or.inl ⟨by rfl, ?_⟩) ?_ ?_
                     rotate_left
                     · intro w'
                       go_simp; with_reducible rfl
                     rotate_left
                     · simp only [Act.put, zaa, zab, zac, zby, zbz]
                       rfl
                     refine pure_ (i := 8) (N := some 49) (v := ?_) (a' := ?_) taid rfl rfl (zca HT_.out (by kernel_rfl)) (fun _ _ _ h => h) (Or.inl ⟨by rfl, ?_⟩) ?_ ?_
                     rotate_left
                     · intro w'
                       go_simp; with_reducible rfl
                     rotate_left
                     · simp only [Act.put, zaa, zab, zac, zby, zbz]
                       rfl
                     refine pure_ (i := 10) (N := some 51) (v := ?_) (a' := ?_) taie rfl rfl (zca HT_.out (by kernel_rfl)) (fun _ _ _ h => h) (Or.inl ⟨by rfl, ?_⟩) ?_ ?_
                     rotate_left
                     · intro w'
                       go_simp; with_reducible rfl
                     rotate_left
                     · simp only [Act.put, zaa, zab, zac, zby, zbz]
                       rfl
                     refine pure_ (i := 11) (N := some 52) (v := ?_) (a' := ?_) taif rfl rfl (zca HT_.out (by kernel_rfl)) (fun _ _ _ h => h) (Or.inl ⟨by rfl, ?_⟩) ?_ ?_
                     rotate_left
                     · intro w'
                       go_simp; with_reducible rfl
                     rotate_left
                     · simp only [Act.put, zaa, zab, zac, zby, zbz]
                       rfl
                     refine pure_ (i := 12) (N := some 53) (v := ?_) (a' := ?_) taig rfl rfl (zca HT_.out (by kernel_rfl)) (fun _ _ _ h => h) (Or.inl ⟨by rfl, ?_⟩) ?_ ?_
                     rotate_left
                     · intro w'
                       go_simp; with_reducible rfl
                     rotate_left
                     · simp only [Act.put, zaa, zab, zac, zby, zbz]
                       rfl
                     refine take_ (i := 9) (N := some 50) (v := ?_) (a' := ?_) taih rfl rfl (zcb HT_.out HW_.out (by kernel_rfl)) (fun _ _ _ h => h) (Or.inl ⟨by rfl, ?_⟩) hHeld ?_ ?_
                     rotate_left
                     · rintro w' ⟨s0, s1, s2⟩
                       go_simp; with_reducible rfl
                     rotate_left
                     · simp only [Act.put, zaa, zab, zac, zby, zbz]
                       rfl
                     refine take_ (i := 13) (N := some 54) (v := ?_) (a' := ?_) taii rfl rfl (zcb HT_.out HW_.out (by kernel_rfl)) (fun _ _ _ h => h) (Or.inl ⟨by rfl, ?_⟩) hHeld ?_ ?_
                     rotate_left
                     · rintro w' ⟨s0, s1, s2⟩
                       go_simp; with_reducible rfl
                     rotate_left
                     · simp only [Act.put, zaa, zab, zac, zby, zbz]
                       rfl
                     refine pure_ (i := 14) (N := some 55) (v := ?_) (a' := ?_) taij rfl rfl (zca HT_.out (by kernel_rfl)) (fun _ _ _ h => h) (Or.inl ⟨by rfl, ?_⟩) ?_ ?_
                     rotate_left
                     · intro w'
                       go_simp; with_reducible rfl
                     rotate_left
                     · simp only [Act.put, zaa, zab, zac, zby, zbz]
                       rfl
                     refine pure_ (i := 15) (N := some 56) (v := ?_) (a' := ?_) taik rfl rfl (zca HT_.out (by kernel_rfl)) (fun _ _ _ h => h) (Or.inl ⟨by rfl, ?_⟩) ?_ ?_
                     rotate_left
                     · intro w'
                       go_simp; with_reducible rfl
                     rotate_left
                     · simp only [Act.put, zaa, zab, zac, zby, zbz]
                       rfl
                     refine pure_ (i := 16) (N := some 57) (v := undef) (a' := ?_) tail rfl rfl (zca HT_.out (by kernel_rfl)) (fun _ _ _ h => h) (Or.inr ⟨by rfl, rfl⟩) ?_ ?_
                     rotate_left
                     · simp only [Act.put, zaa, zab, zac, zby, zbz]
                       rfl
                     refine pure_ (i := 17) (N := some 58) (v := undef) (a' := ?_) taim rfl rfl (zca HT_.out (by kernel_rfl)) (fun _ _ _ h => h) (Or.inr ⟨by rfl, rfl⟩) ?_ ?_
                     rotate_left
                     · simp only [Act.put, zaa, zab, zac, zby, zbz]
                       rfl
                     refine pure_ (i := 18) (N := some 59) (v := ?_) (a' := ?_) tain rfl rfl (zca HT_.out (by kernel_rfl)) (fun _ _ _ h => h) (Or.inl ⟨by rfl, ?_⟩) ?_ ?_
                     rotate_left
                     · intro w'
                       go_simp; with_reducible rfl
                     rotate_left
                     · simp only [Act.put, zaa, zab, zac, zby, zbz]
                       rfl
                     refine pure_ (i := 19) (N := some 60) (v := ?_) (a' := ?_) taio rfl rfl (zca HT_.out (by kernel_rfl)) (fun _ _ _ h => h) (Or.inl ⟨by rfl, ?_⟩) ?_ ?_
                     rotate_left
                     · intro w'
                       go_simp; with_reducible rfl
                     rotate_left
                     · simp only [Act.put, zaa, zab, zac, zby, zbz]
                       rfl
                     refine done_ (done_of HT_.out (by kernel_rfl)) ?_
                     have p236 : 0 ≤ (t227 : Int) := zas (taaa)
                     have q236 : t227 < (x7_1.length : Int) := zas (taaa)
                     obtain ⟨ad236, e236, hx236_0⟩ := zcc (zbf HO_7.out).2.2 t227 p236 q236
                     obtain rfl : ad233 = ad236 := (by injection e236)
                     replace p236 := eq_true p236
                     replace q236 := eq_true q236
                     have p29 : 0 ≤ (t227 : Int) := zas (taaa)
                     have q29 : (t227 : Int) < ((x7_1.length : Int) : Int) := zas (taaa)
                     obtain ⟨go29, co29, eo29, gb29, gl29, cl29, HG29⟩ := Kd.R_form HO_7.out (by omega)
                     (first | cases eo29 | (injection eo29 with ea_ en_ ec_; (first | subst ea_ | (injection ea_ with ea_; subst ea_)); subst ec_; clear en_))
                     have GB29 := zad gb29; have GG29 := zad HG29; clear gb29 gl29 HG29; (first | simp only [add_plain] at hx233_0 | skip)
                     (first | simp only [add_plain] at hx234_0 | skip)
                     (first | simp only [add_plain] at hx235_0 | skip)
                     (first | simp only [add_plain] at hx236_0 | skip)
                     obtain ⟨hx29_0, hf29_0⟩ := Kd.R_celln 0 HO_7.out (t227 : Int) p29 q29
                     replace p29 := eq_true p29
                     replace q29 := eq_true q29
                     obtain ⟨hy35_, hz35_⟩ := Kd.R_celln 0 HO_7.out (t227 : Int) (zas (taaa)) (zas (taaa))
                     have HP35 := Kd.R_putg HO_7.out (t227 : Int) (wrap64 ((rd x7_1 t227) - 1))
                     try go_wp2_with (first | ((with_reducible refine gate_store (t := 3) (p := 66) rfl ?_); refine store_event (t := 3) (p := 66) (v := ?vo_w36) (w1 := (w34.setCell ⟨go29, (t227 : Int).toNat, none⟩ (.int .i64 (wrap64 ((rd x7_1 t227) - 1))))) ?hg ?ho ?hn ?hr ?_; (case ho => rfl); (case hg => rfl); (case hn => rfl); (case hr => first | (go_simp; done) | (go_simp; rfl)); intro w36 hw; have hg : w34.grownBy w36 (some go29) := (tacp); have hp_ : Kd.R (Kd.int .i64) 3 w36 w.heap.size (fun k_ => some k_ ≠ (.slice Ao14 t205.length co14 : Value).ownBlock) (.slice (some ⟨go29, 0, none⟩) x7_1.length co31) y237 := (by rw [hw, Ny237.out]; exact HP35.1); clear HP35; have n0_ := zad (Kd.R_after (v := (.slice (some ⟨go29, 0, none⟩) x7_1.length co31)) (v1 := (.slice (some ⟨go29, 0, none⟩) x7_1.length co31)) (ok := (fun _ => True)) (tacc) hg (.inl rfl)); have n1_ := zad (hp_); have n2_ := zad (IsS75.grown (taaf) hg (IsS75.own_ne HI0.out HO_7.out (by decide))); have n3_ := zad ((by rw [hw]; exact zah (HB.out) (Nat.le_trans HL.out GB29.out) : Below w0.heap.size w0 w36)); have n4_ := zad (zbu (taac) (KeepBut.of_grown hg g) (Kd.R_base2 HO_7.out)); clear HO_6 HO_7 HI0 HB HK; have HO_6 := n0_; have HO_7 := n1_; have HI0 := n2_; have HB := n3_; have HK := n4_; clear n0_ n1_ n2_ n3_ n4_ hg hw hp_; have p238 : 0 ≤ (t230 : Int) := zas (taaa); have q238 : t230 < (y237.length : Int) := (by have h_ : (t230 : Int) < ((x7_1.length : Int) : Int) := zas (taaa); first | (have e_ := (zbf HO_7.out).1; omega) | simpa only [Ny237.out, List.length_set] using h_); have ql238 : ((t230 : Int) < ((x7_1.length : Int) : Int)) = True := eq_true (zas (taaa)); obtain ⟨ad238, e238, hx238_0⟩ := zcc (zbf HO_7.out).2.2 t230 p238 q238; obtain rfl : (⟨go29, 0, none⟩ : Addr) = ad238 := (by injection e238); (first | simp only [add_plain] at hx238_0 | simp only [add_at] at hx238_0 | simp only [Addr.add, Nat.zero_add] at hx238_0 | skip); replace p238 := eq_true p238; replace q238 := eq_true q238; have p30 : 0 ≤ (t230 : Int) := zas (taaa); have q30 : (t230 : Int) < ((x7_1.length : Int) : Int) := zas (taaa); obtain ⟨hx30_0, hf30_0⟩ := Kd.R_celln 0 HO_7.out (t230 : Int) p30 q30; replace p30 := eq_true p30; replace q30 := eq_true q30; obtain ⟨hy37_, hz37_⟩ := Kd.R_celln 0 HO_7.out (t230 : Int) (zas (taaa)) (zas (taaa)); have HP37 := Kd.R_putg HO_7.out (t230 : Int) (wrap64 ((rd y237 t230) + 1))) | ((with_reducible refine gate_store (t := 3) (p := 72) rfl ?_); refine store_event (t := 3) (p := 72) (v := ?vo_w38) (w1 := (w36.setCell ⟨go29, (t230 : Int).toNat, none⟩ (.int .i64 (wrap64 ((rd y237 t230) + 1))))) ?hg ?ho ?hn ?hr ?_; (case ho => rfl); (case hg => rfl); (case hn => rfl); (case hr => first | (go_simp; done) | (go_simp; rfl)); intro w38 hw; have hg : w36.grownBy w38 (some go29) := (by rw [hw]; exact HP37.2); have hp_ : Kd.R (Kd.int .i64) 3 w38 w.heap.size (fun k_ => some k_ ≠ (.slice Ao14 t205.length co14 : Value).ownBlock) (.slice (some ⟨go29, 0, none⟩) x7_1.length co31) y239 := (by rw [hw, Ny239.out]; exact HP37.1); clear HP37; have n0_ := zad (Kd.R_after (v := (.slice (some ⟨go29, 0, none⟩) x7_1.length co31)) (v1 := (.slice (some ⟨go29, 0, none⟩) x7_1.length co31)) (ok := (fun _ => True)) (taai) hg (.inl rfl)); have n1_ := zad (hp_); have n2_ := zad (IsS75.grown (taaf) hg (IsS75.own_ne HI0.out HO_7.out (by decide))); have n3_ := zad ((by rw [hw]; exact zah (HB.out) (Nat.le_trans HL.out GB29.out) : Below w0.heap.size w0 w38)); have n4_ := zad (zbu (taac) (KeepBut.of_grown hg g) (Kd.R_base2 HO_7.out)); clear HO_6 HO_7 HI0 HB HK; have HO_6 := n0_; have HO_7 := n1_; have HI0 := n2_; have HB := n3_; have HK := n4_; clear n0_ n1_ n2_ n3_ n4_ hg hw hp_))
                     go_roundg kj16
                     case measure => have := HK1.out; have := HJ16.out; omega
                     case rel => exact ⟨(y239), (wrap64 (x8_1 - 1)), (t231), (t232), (taag), H', ⟨tabo⟩, ⟨tadc⟩, ⟨taah⟩, ⟨taaf⟩, ⟨taac⟩, ⟨taan⟩⟩
                   · rw [if_neg c28] at H
                     have c28b0 : decide ((rd x7_1 t230) < (rd x7_1 t227)) = false := zbj c28
                     clear c28; replace H := zay.mp H; obtain ⟨⟨t240, t241, t242⟩, A390, H⟩ := H
                     replace H : (if t240 = true then ((some (x7_1.set (t227 : Int).toNat (wrap64 ((rd x7_1 t227) - 1)) : List Int)).bind fun y244 => (spec_l1Cur_fitting.l0 kj16 t205 (y244.set (t230 : Int).toNat (wrap64 ((rd y244 t230) + 1))) (wrap64 (x8_1 - 1)) s0_0 t241 t242)) else (spec_l1Cur_fitting.l0 kj16 t205 x7_1 (wrap64 (x8_1 - 1)) s0_0 t241 t242)) = some (r1, r2, r3, r4) := H
                     have A39 := zad A390; clear A390; by_cases c40 : t240 = true
                     · subst c40
                       have H1 : ((some (x7_1.set (t227 : Int).toNat (wrap64 ((rd x7_1 t227) - 1)) : List Int)).bind fun y244 => (spec_l1Cur_fitting.l0 kj16 t205 (y244.set (t230 : Int).toNat (wrap64 ((rd y244 t230) + 1))) (wrap64 (x8_1 - 1)) s0_0 t241 t242)) = some (r1, r2, r3, r4) := by rw [if_pos rfl] at H; exact H
                       clear H; have H := H1; clear H1; obtain ⟨y244, hy244⟩ : ∃ y_ : List Int, y_ = (x7_1.set (t227 : Int).toNat (wrap64 ((rd x7_1 t227) - 1))) := ⟨_, rfl⟩
                       replace H : (spec_l1Cur_fitting.l0 kj16 t205 (y244.set (t230 : Int).toNat (wrap64 ((rd y244 t230) + 1))) (wrap64 (x8_1 - 1)) s0_0 t241 t242) = some (r1, r2, r3, r4) := by first | (rw [hy244]; with_reducible exact H) | (have H2_ := (zbd _ _).symm.trans H; rw [hy244]; with_reducible exact H2_) | (have H2_ := (zbd _ _).symm.trans H; with_reducible exact H2_) | with_reducible exact H | (rw [hy244]; exact H) | exact H
                       have Ny244 := zad hy244; clear hy244; obtain ⟨y246, hy246⟩ : ∃ y_ : List Int, y_ = (y244.set (t230 : Int).toNat (wrap64 ((rd y244 t230) + 1))) := ⟨_, rfl⟩
                       replace H : (spec_l1Cur_fitting.l0 kj16 t205 y246 (wrap64 (x8_1 - 1)) s0_0 t241 t242) = some (r1, r2, r3, r4) := by first | (rw [hy246]; with_reducible exact H) | (have H2_ := (zbd _ _).symm.trans H; rw [hy246]; with_reducible exact H2_) | (have H2_ := (zbd _ _).symm.trans H; with_reducible exact H2_) | with_reducible exact H | (rw [hy246]; exact H) | exact H
                       have Ny246 := zad hy246; clear hy246; have H' := zad H
                       clear H; obtain ⟨Ao43, co43, eo43⟩ := zbx HO_7.out
                       subst eo43; try go_wp2_with (first | ((with_reducible refine zbh (f := 80) rfl ?_); refine zbp (some 36) rfl rfl Try.func80 (by kernel_rfl) rfl #[.pointer (some ⟨g, 0, none⟩), .int .i64 (x7_1.length : Int)] rfl (taad) ?_; (with_reducible refine (zcp g s0_0 x1001_1 x1002_1 (x7_1.length : Int) t227 t228 t229 w0 _ ?side1 ?side2 A21.out).mono ?_); (case side1 => repeat (first | (with_reducible first | exact HI0.out | apply zci | apply zcj | apply zck | apply zcn | apply zco) | exact HI0.out)); (case side2 => repeat (first | (with_reducible first | exact HB.out | apply zag | apply zae | apply zaf | refine zah ?_ (zcm HI0.out)) | exact HB.out)); rintro e w44 ⟨rfl, hi, hb, hk⟩; refine ⟨_, rfl, ?_⟩; have n0_ := zad (zbs (zbt (zcl (show IsS75 w0 _ g s0_0 x1001_1 x1002_1 from by exact tafz) (taai) (by decide)) hk (fun _ h => h.2)) (fun _ h => h.1)); have n1_ := zad (zbs (zbt (zcl (show IsS75 w0 _ g s0_0 x1001_1 x1002_1 from by exact tafz) (taah) (by decide)) hk (fun _ h => h.2)) (fun _ h => h.1)); have n2_ := zad (zbu (taac) hk (.inl rfl)); have n3_ := zad (hb); have n4_ := zad (hi); clear HO_6 HO_7 HK HB HI0; have HO_6 := n0_; have HO_7 := n1_; have HK := n2_; have HB := n3_; have HI0 := n4_; clear n0_ n1_ n2_ n3_ n4_; (try clear hb); (try clear hb2); (try clear hk); (try clear hi)) | ((with_reducible refine zbh (f := 80) rfl ?_); refine zbp (some 40) rfl rfl Try.func80 (by kernel_rfl) rfl #[.pointer (some ⟨g, 0, none⟩), .int .i64 (x7_1.length : Int)] rfl (taad) ?_; (with_reducible refine (zcp g s0_0 t228 t229 (x7_1.length : Int) t230 t231 t232 w0 _ ?side1 ?side2 A22.out).mono ?_); (case side1 => repeat (first | (with_reducible first | exact HI0.out | apply zci | apply zcj | apply zck | apply zcn | apply zco) | exact HI0.out)); (case side2 => repeat (first | (with_reducible first | exact HB.out | apply zag | apply zae | apply zaf | refine zah ?_ (zcm HI0.out)) | exact HB.out)); rintro e w45 ⟨rfl, hi, hb, hk⟩; refine ⟨_, rfl, ?_⟩; have n0_ := zad (zbs (zbt (zcl (show IsS75 w0 _ g s0_0 t228 t229 from by exact tafz) (taai) (by decide)) hk (fun _ h => h.2)) (fun _ h => h.1)); have n1_ := zad (zbs (zbt (zcl (show IsS75 w0 _ g s0_0 t228 t229 from by exact tafz) (taah) (by decide)) hk (fun _ h => h.2)) (fun _ h => h.1)); have n2_ := zad (zbu (taac) hk (.inl rfl)); have n3_ := zad (hb); have n4_ := zad (hi); clear HO_6 HO_7 HK HB HI0; have HO_6 := n0_; have HO_7 := n1_; have HK := n2_; have HB := n3_; have HI0 := n4_; clear n0_ n1_ n2_ n3_ n4_; (try clear hb); (try clear hb2); (try clear hk); (try clear hi)))
                       have n0_ := zad (zak HO_6.out)
                       have n1_ := zad (zak HO_7.out)
                       have n2_ := zad (zck HI0.out)
                       have n3_ := zad (zaq HK.out)
                       have n4_ := zad (zaf HB.out)
                       clear HO_6 HO_7 HI0 HK HB; have HO_6 := n0_; have HO_7 := n1_; have HI0 := n2_; have HK := n3_; have HB := n4_; clear n0_ n1_ n2_ n3_ n4_; have p233 : 0 ≤ (t227 : Int) := zas (taaa)
                       have q233 : t227 < (x7_1.length : Int) := zas (taaa)
                       obtain ⟨ad233, e233, hx233_0⟩ := zcc (zbf HO_7.out).2.2 t227 p233 q233
                       cases e233
                       replace p233 := eq_true p233
                       replace q233 := eq_true q233
                       have p234 : 0 ≤ (t227 : Int) := zas (taaa)
                       have q234 : t227 < (x7_1.length : Int) := zas (taaa)
                       obtain ⟨ad234, e234, hx234_0⟩ := zcc (zbf HO_7.out).2.2 t227 p234 q234
                       obtain rfl : ad233 = ad234 := (by injection e234)
                       replace p234 := eq_true p234
                       replace q234 := eq_true q234
                       have p235 : 0 ≤ (t230 : Int) := zas (taaa)
                       have q235 : t230 < (x7_1.length : Int) := zas (taaa)
                       obtain ⟨ad235, e235, hx235_0⟩ := zcc (zbf HO_7.out).2.2 t230 p235 q235
                       obtain rfl : ad233 = ad235 := (by injection e235)
                       replace p235 := eq_true p235
                       replace q235 := eq_true q235
                       refine start_ (n := 20) (S := fun w' => w'.cell? (ad233.add (t227).toNat) = some (.int .i64 (rd x7_1 t227)) ∧ w'.cell? (ad233.add (t227).toNat) = some (.int .i64 (rd x7_1 t227)) ∧ w'.cell? (ad233.add (t230).toNat) = some (.int .i64 (rd x7_1 t230))) (ds := []) #[false, false, false, false, false, false, false, false, false, false, false, false, false, false, false, false, false, false, false, false] (by kernel_rfl) rfl rfl ⟨hx233_0, hx234_0, hx235_0⟩ (fun hHeld => ?_); refine with_tabW spec_l1Cur_fitting.tab9 spec_l1Cur_fitting.bits9 (fun HT_ HW_ => ?_)
                       generalize w45.drew = w46 at HO_6 HO_7 HI0 HK HB hx233_0 hx234_0 hx235_0 hHeld ⊢
                       refine pure_ (i := 0) (N := some 41) (v := ?_) (a' := ?_) tahv rfl rfl (zca HT_.out (by kernel_rfl)) (fun _ _ _ h => h) (Or.inl ⟨by rfl, ?_⟩) ?_ ?_
                       rotate_left
                       · intro w'
                         go_simp; with_reducible rfl
                       rotate_left
                       · simp only [Act.put, zaa, zab, zac, zby, zbz]
                         rfl
                       refine pure_ (i := 1) (N := some 42) (v := ?_) (a' := ?_) tahw rfl rfl (zca HT_.out (by kernel_rfl)) (fun _ _ _ h => h) (Or.inl ⟨by rfl, ?_⟩) ?_ ?_
                       rotate_left
                       · intro w'
                         go_simp; with_reducible rfl
                       rotate_left
                       · simp only [Act.put, zaa, zab, zac, zby, zbz]
                         rfl
                       refine pure_ (i := 2) (N := some 43) (v := ?_) (a' := ?_) tahx rfl rfl (zca HT_.out (by kernel_rfl)) (fun _ _ _ h => h) (Or.inl ⟨by rfl, ?_⟩) ?_ ?_
                       rotate_left
                       · intro w'
                         go_simp; with_reducible rfl
                       rotate_left
                       · simp only [Act.put, zaa, zab, zac, zby, zbz]
                         rfl
                       refine take_ (i := 3) (N := some 44) (v := ?_) (a' := ?_) tahy rfl rfl (zcb HT_.out HW_.out (by kernel_rfl)) (fun _ _ _ h => h) (Or.inl ⟨by rfl, ?_⟩) hHeld ?_ ?_
                       rotate_left
                       · rintro w' ⟨s0, s1, s2⟩
                         go_simp; with_reducible rfl
                       rotate_left
                       · simp only [Act.put, zaa, zab, zac, zby, zbz]
                         rfl
                       refine pure_ (i := 4) (N := some 45) (v := ?_) (a' := ?_) tahz rfl rfl (zca HT_.out (by kernel_rfl)) (fun _ _ _ h => h) (Or.inl ⟨by rfl, ?_⟩) ?_ ?_
                       rotate_left
                       · intro w'
                         go_simp; with_reducible rfl
                       rotate_left
                       · simp only [Act.put, zaa, zab, zac, zby, zbz]
                         rfl
                       refine pure_ (i := 5) (N := some 46) (v := ?_) (a' := ?_) taia rfl rfl (zca HT_.out (by kernel_rfl)) (fun _ _ _ h => h) (Or.inl ⟨by rfl, ?_⟩) ?_ ?_
                       rotate_left
                       · intro w'
                         go_simp; with_reducible rfl
                       rotate_left
                       · simp only [Act.put, zaa, zab, zac, zby, zbz]
                         rfl
                       refine pure_ (i := 6) (N := some 47) (v := ?_) (a' := ?_) taib rfl rfl (zca HT_.out (by kernel_rfl)) (fun _ _ _ h => h) (Or.inl ⟨by rfl, ?_⟩) ?_ ?_
                       rotate_left
                       · intro w'
                         go_simp; with_reducible rfl
                       rotate_left
                       · simp only [Act.put, zaa, zab, zac, zby, zbz]
                         rfl
                       refine pure_ (i := 7) (N := some 48) (v := ?_) (a' := ?_) taic rfl rfl (zca HT_.out (by kernel_rfl)) (fun _ _ _ h => h) (Or.inl ⟨by rfl, ?_⟩) ?_ ?_
                       rotate_left
                       · intro w'
                         go_simp; with_reducible rfl
                       rotate_left
                       · simp only [Act.put, zaa, zab, zac, zby, zbz]
                         rfl
                       refine pure_ (i := 8) (N := some 49) (v := ?_) (a' := ?_) taid rfl rfl (zca HT_.out (by kernel_rfl)) (fun _ _ _ h => h) (Or.inl ⟨by rfl, ?_⟩) ?_ ?_
                       rotate_left
                       · intro w'
                         go_simp; with_reducible rfl
                       rotate_left
                       · simp only [Act.put, zaa, zab, zac, zby, zbz]
                         rfl
                       refine pure_ (i := 10) (N := some 51) (v := ?_) (a' := ?_) taie rfl rfl (zca HT_.out (by kernel_rfl)) (fun _ _ _ h => h) (Or.inl ⟨by rfl, ?_⟩) ?_ ?_
                       rotate_left
                       · intro w'
                         go_simp; with_reducible rfl
                       rotate_left
                       · simp only [Act.put, zaa, zab, zac, zby, zbz]
                         rfl
                       refine pure_ (i := 11) (N := some 52) (v := ?_) (a' := ?_) taif rfl rfl (zca HT_.out (by kernel_rfl)) (fun _ _ _ h => h) (Or.inl ⟨by rfl, ?_⟩) ?_ ?_
                       rotate_left
                       · intro w'
                         go_simp; with_reducible rfl
                       rotate_left
                       · simp only [Act.put, zaa, zab, zac, zby, zbz]
                         rfl
                       refine pure_ (i := 12) (N := some 53) (v := ?_) (a' := ?_) taig rfl rfl (zca HT_.out (by kernel_rfl)) (fun _ _ _ h => h) (Or.inl ⟨by rfl, ?_⟩) ?_ ?_
                       rotate_left
                       · intro w'
                         go_simp; with_reducible rfl
                       rotate_left
                       · simp only [Act.put, zaa, zab, zac, zby, zbz]
                         rfl
                       refine take_ (i := 9) (N := some 50) (v := ?_) (a' := ?_) taih rfl rfl (zcb HT_.out HW_.out (by kernel_rfl)) (fun _ _ _ h => h) (Or.inl ⟨by rfl, ?_⟩) hHeld ?_ ?_
                       rotate_left
                       · rintro w' ⟨s0, s1, s2⟩
                         go_simp; with_reducible rfl
                       rotate_left
                       · simp only [Act.put, zaa, zab, zac, zby, zbz]
                         rfl
                       refine take_ (i := 13) (N := some 54) (v := ?_) (a' := ?_) taii rfl rfl (zcb HT_.out HW_.out (by kernel_rfl)) (fun _ _ _ h => h) (Or.inl ⟨by rfl, ?_⟩) hHeld ?_ ?_
                       rotate_left
                       · rintro w' ⟨s0, s1, s2⟩
                         go_simp; with_reducible rfl
                       rotate_left
                       · simp only [Act.put, zaa, zab, zac, zby, zbz]
                         rfl
                       refine pure_ (i := 14) (N := some 55) (v := ?_) (a' := ?_) taij rfl rfl (zca HT_.out (by kernel_rfl)) (fun _ _ _ h => h) (Or.inl ⟨by rfl, ?_⟩) ?_ ?_
                       rotate_left
                       · intro w'
                         go_simp; with_reducible rfl
                       rotate_left
                       · simp only [Act.put, zaa, zab, zac, zby, zbz]
                         rfl
                       refine pure_ (i := 15) (N := some 56) (v := ?_) (a' := ?_) taik rfl rfl (zca HT_.out (by kernel_rfl)) (fun _ _ _ h => h) (Or.inl ⟨by rfl, ?_⟩) ?_ ?_
                       rotate_left
                       · intro w'
                         go_simp; with_reducible rfl
                       rotate_left
                       · simp only [Act.put, zaa, zab, zac, zby, zbz]
                         rfl
                       refine pure_ (i := 16) (N := some 57) (v := ?_) (a' := ?_) tail rfl rfl (zca HT_.out (by kernel_rfl)) (fun _ _ _ h => h) (Or.inl ⟨by rfl, ?_⟩) ?_ ?_
                       rotate_left
                       · intro w'
                         go_simp; with_reducible rfl
                       rotate_left
                       · simp only [Act.put, zaa, zab, zac, zby, zbz]
                         rfl
                       refine one_ (i := 17) (N := some 58) #[true, true, true, true, true, true, true, true, true, true, true, true, true, true, true, true, true, true, false, false] rfl rfl (one_of HT_.out (by kernel_rfl)) (by decide) (fun K hK => ?_)
                       refine goes_ Try.func89 (by kernel_rfl) rfl #[.pointer (some ⟨g, 0, none⟩), .int .i64 4] (by rfl) rfl rfl (taad) ?_
                       with_reducible refine (spec_l1Cur_one.calls g s0_0 t231 t232 4 true t241 t242 w0 _ ?side1 ?side2 A39.out).mono ?_
                       (case side1 => exact tagd)
                       (case side2 => exact tage)
                       rintro e w47 ⟨rfl, hi, hb, hk⟩
                       have HS0_ := keep_cell hk (hHeld.1) (tabp)
                       have HS1_ := keep_cell hk (hHeld.2.1) (tabp)
                       have HS2_ := keep_cell hk (hHeld.2.2) (tabp)
                       refine ⟨_, rfl, ?_⟩
                       have n0_ := zad (zbs (zbt (zcl (show IsS75 w0 _ g s0_0 t231 t232 from by exact tafz) (taai) (by decide)) hk (fun _ h => h.2)) (fun _ h => h.1))
                       have n1_ := zad (zbs (zbt (zcl (show IsS75 w0 _ g s0_0 t231 t232 from by exact tafz) (taah) (by decide)) hk (fun _ h => h.2)) (fun _ h => h.1))
                       have n2_ := zad (zbu (taac) hk (.inl rfl))
                       have n3_ := zad (hb)
                       have n4_ := zad (hi)
                       clear HO_6 HO_7 HK HB HI0; have HO_6 := n0_; have HO_7 := n1_; have HK := n2_; have HB := n3_; have HI0 := n4_; clear n0_ n1_ n2_ n3_ n4_; (try clear hb); (try clear hb2); (try clear hk); (try clear hi); refine hK.out _ _ ⟨HS0_, HS1_, HS2_⟩ (fun hHeld => ?_)
                       clear hK K; refine norm_ (a' := ?_) ?_ ?_
                       rotate_left
                       · show Act.put _ (some 58) _ = _
                         simp only [Act.put, zaa, zab, zac, zby, zbz]
                         rfl
                       refine pure_ (i := 18) (N := some 59) (v := ?_) (a' := ?_) tain rfl rfl (zca HT_.out (by kernel_rfl)) (fun _ _ _ h => h) (Or.inl ⟨by rfl, ?_⟩) ?_ ?_
                       rotate_left
                       · intro w'
                         go_simp; with_reducible rfl
                       rotate_left
                       · simp only [Act.put, zaa, zab, zac, zby, zbz]
                         rfl
                       refine pure_ (i := 19) (N := some 60) (v := ?_) (a' := ?_) taio rfl rfl (zca HT_.out (by kernel_rfl)) (fun _ _ _ h => h) (Or.inl ⟨by rfl, ?_⟩) ?_ ?_
                       rotate_left
                       · intro w'
                         go_simp; with_reducible rfl
                       rotate_left
                       · simp only [Act.put, zaa, zab, zac, zby, zbz]
                         rfl
                       refine done_ (done_of HT_.out (by kernel_rfl)) ?_
                       have p243 : 0 ≤ (t227 : Int) := zas (taaa)
                       have q243 : t227 < (x7_1.length : Int) := zas (taaa)
                       obtain ⟨ad243, e243, hx243_0⟩ := zcc (zbf HO_7.out).2.2 t227 p243 q243
                       obtain rfl : ad233 = ad243 := (by injection e243)
                       replace p243 := eq_true p243
                       replace q243 := eq_true q243
                       have p41 : 0 ≤ (t227 : Int) := zas (taaa)
                       have q41 : (t227 : Int) < ((x7_1.length : Int) : Int) := zas (taaa)
                       obtain ⟨go41, co41, eo41, gb41, gl41, cl41, HG41⟩ := Kd.R_form HO_7.out (by omega)
                       (first | cases eo41 | (injection eo41 with ea_ en_ ec_; (first | subst ea_ | (injection ea_ with ea_; subst ea_)); subst ec_; clear en_))
                       have GB41 := zad gb41; have GG41 := zad HG41; clear gb41 gl41 HG41; (first | simp only [add_plain] at hx233_0 | skip)
                       (first | simp only [add_plain] at hx234_0 | skip)
                       (first | simp only [add_plain] at hx235_0 | skip)
                       (first | simp only [add_plain] at hx243_0 | skip)
                       obtain ⟨hx41_0, hf41_0⟩ := Kd.R_celln 0 HO_7.out (t227 : Int) p41 q41
                       replace p41 := eq_true p41
                       replace q41 := eq_true q41
                       obtain ⟨hy48_, hz48_⟩ := Kd.R_celln 0 HO_7.out (t227 : Int) (zas (taaa)) (zas (taaa))
                       have HP48 := Kd.R_putg HO_7.out (t227 : Int) (wrap64 ((rd x7_1 t227) - 1))
                       try go_wp2_with (first | ((with_reducible refine gate_store (t := 3) (p := 66) rfl ?_); refine store_event (t := 3) (p := 66) (v := ?vo_w49) (w1 := (w47.setCell ⟨go41, (t227 : Int).toNat, none⟩ (.int .i64 (wrap64 ((rd x7_1 t227) - 1))))) ?hg ?ho ?hn ?hr ?_; (case ho => rfl); (case hg => rfl); (case hn => rfl); (case hr => first | (go_simp; done) | (go_simp; rfl)); intro w49 hw; have hg : w47.grownBy w49 (some go41) := (by rw [hw]; exact HP48.2); have hp_ : Kd.R (Kd.int .i64) 3 w49 w.heap.size (fun k_ => some k_ ≠ (.slice Ao14 t205.length co14 : Value).ownBlock) (.slice (some ⟨go41, 0, none⟩) x7_1.length co43) y244 := (by rw [hw, Ny244.out]; exact HP48.1); clear HP48; have n0_ := zad (Kd.R_after (v := (.slice (some ⟨go41, 0, none⟩) x7_1.length co43)) (v1 := (.slice (some ⟨go41, 0, none⟩) x7_1.length co43)) (ok := (fun _ => True)) (tacc) hg (.inl rfl)); have n1_ := zad (hp_); have n2_ := zad (IsS75.grown (taaf) hg (IsS75.own_ne HI0.out HO_7.out (by decide))); have n3_ := zad ((by rw [hw]; exact zah (HB.out) (Nat.le_trans HL.out GB41.out) : Below w0.heap.size w0 w49)); have n4_ := zad (zbu (taac) (KeepBut.of_grown hg g) (Kd.R_base2 HO_7.out)); clear HO_6 HO_7 HI0 HB HK; have HO_6 := n0_; have HO_7 := n1_; have HI0 := n2_; have HB := n3_; have HK := n4_; clear n0_ n1_ n2_ n3_ n4_ hg hw hp_; have p245 : 0 ≤ (t230 : Int) := zas (taaa); have q245 : t230 < (y244.length : Int) := (by have h_ : (t230 : Int) < ((x7_1.length : Int) : Int) := zas (taaa); first | (have e_ := (zbf HO_7.out).1; omega) | simpa only [Ny244.out, List.length_set] using h_); have ql245 : ((t230 : Int) < ((x7_1.length : Int) : Int)) = True := eq_true (zas (taaa)); obtain ⟨ad245, e245, hx245_0⟩ := zcc (zbf HO_7.out).2.2 t230 p245 q245; obtain rfl : (⟨go41, 0, none⟩ : Addr) = ad245 := (by injection e245); (first | simp only [add_plain] at hx245_0 | simp only [add_at] at hx245_0 | simp only [Addr.add, Nat.zero_add] at hx245_0 | skip); replace p245 := eq_true p245; replace q245 := eq_true q245; have p42 : 0 ≤ (t230 : Int) := zas (taaa); have q42 : (t230 : Int) < ((x7_1.length : Int) : Int) := zas (taaa); obtain ⟨hx42_0, hf42_0⟩ := Kd.R_celln 0 HO_7.out (t230 : Int) p42 q42; replace p42 := eq_true p42; replace q42 := eq_true q42; obtain ⟨hy50_, hz50_⟩ := Kd.R_celln 0 HO_7.out (t230 : Int) (zas (taaa)) (zas (taaa)); have HP50 := Kd.R_putg HO_7.out (t230 : Int) (wrap64 ((rd y244 t230) + 1))) | ((with_reducible refine gate_store (t := 3) (p := 72) rfl ?_); refine store_event (t := 3) (p := 72) (v := ?vo_w51) (w1 := (w49.setCell ⟨go41, (t230 : Int).toNat, none⟩ (.int .i64 (wrap64 ((rd y244 t230) + 1))))) ?hg ?ho ?hn ?hr ?_; (case ho => rfl); (case hg => rfl); (case hn => rfl); (case hr => first | (go_simp; done) | (go_simp; rfl)); intro w51 hw; have hg : w49.grownBy w51 (some go41) := (by rw [hw]; exact HP50.2); have hp_ : Kd.R (Kd.int .i64) 3 w51 w.heap.size (fun k_ => some k_ ≠ (.slice Ao14 t205.length co14 : Value).ownBlock) (.slice (some ⟨go41, 0, none⟩) x7_1.length co43) y246 := (by rw [hw, Ny246.out]; exact HP50.1); clear HP50; have n0_ := zad (Kd.R_after (v := (.slice (some ⟨go41, 0, none⟩) x7_1.length co43)) (v1 := (.slice (some ⟨go41, 0, none⟩) x7_1.length co43)) (ok := (fun _ => True)) (taai) hg (.inl rfl)); have n1_ := zad (hp_); have n2_ := zad (IsS75.grown (taaf) hg (IsS75.own_ne HI0.out HO_7.out (by decide))); have n3_ := zad ((by rw [hw]; exact zah (HB.out) (Nat.le_trans HL.out GB41.out) : Below w0.heap.size w0 w51)); have n4_ := zad (zbu (taac) (KeepBut.of_grown hg g) (Kd.R_base2 HO_7.out)); clear HO_6 HO_7 HI0 HB HK; have HO_6 := n0_; have HO_7 := n1_; have HI0 := n2_; have HB := n3_; have HK := n4_; clear n0_ n1_ n2_ n3_ n4_ hg hw hp_))
                       go_roundg kj16
                       case measure => have := HK1.out; have := HJ16.out; omega
                       case rel => exact ⟨(y246), (wrap64 (x8_1 - 1)), (t241), (t242), (taag), H', ⟨tabo⟩, ⟨tadc⟩, ⟨taah⟩, ⟨taaf⟩, ⟨taac⟩, ⟨taan⟩⟩
                     · replace c40 := zbi.mpr c40
                       subst c40; have H1 : (spec_l1Cur_fitting.l0 kj16 t205 x7_1 (wrap64 (x8_1 - 1)) s0_0 t241 t242) = some (r1, r2, r3, r4) := by rw [if_neg (show ¬ (false = true) by decide)] at H; exact H
                       clear H; have H := H1; clear H1; have H' := zad H
                       clear H; obtain ⟨Ao52, co52, eo52⟩ := zbx HO_7.out
                       subst eo52; try go_wp2_with (first | ((with_reducible refine zbh (f := 80) rfl ?_); refine zbp (some 36) rfl rfl Try.func80 (by kernel_rfl) rfl #[.pointer (some ⟨g, 0, none⟩), .int .i64 (x7_1.length : Int)] rfl (taad) ?_; (with_reducible refine (zcp g s0_0 x1001_1 x1002_1 (x7_1.length : Int) t227 t228 t229 w0 _ ?side1 ?side2 A21.out).mono ?_); (case side1 => repeat (first | (with_reducible first | exact HI0.out | apply zci | apply zcj | apply zck | apply zcn | apply zco) | exact HI0.out)); (case side2 => repeat (first | (with_reducible first | exact HB.out | apply zag | apply zae | apply zaf | refine zah ?_ (zcm HI0.out)) | exact HB.out)); rintro e w53 ⟨rfl, hi, hb, hk⟩; refine ⟨_, rfl, ?_⟩; have n0_ := zad (zbs (zbt (zcl (show IsS75 w0 _ g s0_0 x1001_1 x1002_1 from by exact tafz) (taai) (by decide)) hk (fun _ h => h.2)) (fun _ h => h.1)); have n1_ := zad (zbs (zbt (zcl (show IsS75 w0 _ g s0_0 x1001_1 x1002_1 from by exact tafz) (taah) (by decide)) hk (fun _ h => h.2)) (fun _ h => h.1)); have n2_ := zad (zbu (taac) hk (.inl rfl)); have n3_ := zad (hb); have n4_ := zad (hi); clear HO_6 HO_7 HK HB HI0; have HO_6 := n0_; have HO_7 := n1_; have HK := n2_; have HB := n3_; have HI0 := n4_; clear n0_ n1_ n2_ n3_ n4_; (try clear hb); (try clear hb2); (try clear hk); (try clear hi)) | ((with_reducible refine zbh (f := 80) rfl ?_); refine zbp (some 40) rfl rfl Try.func80 (by kernel_rfl) rfl #[.pointer (some ⟨g, 0, none⟩), .int .i64 (x7_1.length : Int)] rfl (taad) ?_; (with_reducible refine (zcp g s0_0 t228 t229 (x7_1.length : Int) t230 t231 t232 w0 _ ?side1 ?side2 A22.out).mono ?_); (case side1 => repeat (first | (with_reducible first | exact HI0.out | apply zci | apply zcj | apply zck | apply zcn | apply zco) | exact HI0.out)); (case side2 => repeat (first | (with_reducible first | exact HB.out | apply zag | apply zae | apply zaf | refine zah ?_ (zcm HI0.out)) | exact HB.out)); rintro e w54 ⟨rfl, hi, hb, hk⟩; refine ⟨_, rfl, ?_⟩; have n0_ := zad (zbs (zbt (zcl (show IsS75 w0 _ g s0_0 t228 t229 from by exact tafz) (taai) (by decide)) hk (fun _ h => h.2)) (fun _ h => h.1)); have n1_ := zad (zbs (zbt (zcl (show IsS75 w0 _ g s0_0 t228 t229 from by exact tafz) (taah) (by decide)) hk (fun _ h => h.2)) (fun _ h => h.1)); have n2_ := zad (zbu (taac) hk (.inl rfl)); have n3_ := zad (hb); have n4_ := zad (hi); clear HO_6 HO_7 HK HB HI0; have HO_6 := n0_; have HO_7 := n1_; have HK := n2_; have HB := n3_; have HI0 := n4_; clear n0_ n1_ n2_ n3_ n4_; (try clear hb); (try clear hb2); (try clear hk); (try clear hi)))
                       have n0_ := zad (zak HO_6.out)
                       have n1_ := zad (zak HO_7.out)
                       have n2_ := zad (zck HI0.out)
                       have n3_ := zad (zaq HK.out)
                       have n4_ := zad (zaf HB.out)
                       clear HO_6 HO_7 HI0 HK HB; have HO_6 := n0_; have HO_7 := n1_; have HI0 := n2_; have HK := n3_; have HB := n4_; clear n0_ n1_ n2_ n3_ n4_; have p233 : 0 ≤ (t227 : Int) := zas (taaa)
                       have q233 : t227 < (x7_1.length : Int) := zas (taaa)
                       obtain ⟨ad233, e233, hx233_0⟩ := zcc (zbf HO_7.out).2.2 t227 p233 q233
                       cases e233
                       replace p233 := eq_true p233
                       replace q233 := eq_true q233
                       have p234 : 0 ≤ (t227 : Int) := zas (taaa)
                       have q234 : t227 < (x7_1.length : Int) := zas (taaa)
                       obtain ⟨ad234, e234, hx234_0⟩ := zcc (zbf HO_7.out).2.2 t227 p234 q234
                       obtain rfl : ad233 = ad234 := (by injection e234)
                       replace p234 := eq_true p234
                       replace q234 := eq_true q234
                       have p235 : 0 ≤ (t230 : Int) := zas (taaa)
                       have q235 : t230 < (x7_1.length : Int) := zas (taaa)
                       obtain ⟨ad235, e235, hx235_0⟩ := zcc (zbf HO_7.out).2.2 t230 p235 q235
                       obtain rfl : ad233 = ad235 := (by injection e235)
                       replace p235 := eq_true p235
                       replace q235 := eq_true q235
                       refine start_ (n := 20) (S := fun w' => w'.cell? (ad233.add (t227).toNat) = some (.int .i64 (rd x7_1 t227)) ∧ w'.cell? (ad233.add (t227).toNat) = some (.int .i64 (rd x7_1 t227)) ∧ w'.cell? (ad233.add (t230).toNat) = some (.int .i64 (rd x7_1 t230))) (ds := []) #[false, false, false, false, false, false, false, false, false, false, false, false, false, false, false, false, false, false, false, false] (by kernel_rfl) rfl rfl ⟨hx233_0, hx234_0, hx235_0⟩ (fun hHeld => ?_); refine with_tabW spec_l1Cur_fitting.tab9 spec_l1Cur_fitting.bits9 (fun HT_ HW_ => ?_)
                       generalize w54.drew = w55 at HO_6 HO_7 HI0 HK HB hx233_0 hx234_0 hx235_0 hHeld ⊢
                       refine pure_ (i := 0) (N := some 41) (v := ?_) (a' := ?_) tahv rfl rfl (zca HT_.out (by kernel_rfl)) (fun _ _ _ h => h) (Or.inl ⟨by rfl, ?_⟩) ?_ ?_
                       rotate_left
                       · intro w'
                         go_simp; with_reducible rfl
                       rotate_left
                       · simp only [Act.put, zaa, zab, zac, zby, zbz]
                         rfl
                       refine pure_ (i := 1) (N := some 42) (v := ?_) (a' := ?_) tahw rfl rfl (zca HT_.out (by kernel_rfl)) (fun _ _ _ h => h) (Or.inl ⟨by rfl, ?_⟩) ?_ ?_
                       rotate_left
                       · intro w'
                         go_simp; with_reducible rfl
                       rotate_left
                       · simp only [Act.put, zaa, zab, zac, zby, zbz]
                         rfl
                       refine pure_ (i := 2) (N := some 43) (v := ?_) (a' := ?_) tahx rfl rfl (zca HT_.out (by kernel_rfl)) (fun _ _ _ h => h) (Or.inl ⟨by rfl, ?_⟩) ?_ ?_
                       rotate_left
                       · intro w'
                         go_simp; with_reducible rfl
                       rotate_left
                       · simp only [Act.put, zaa, zab, zac, zby, zbz]
                         rfl
                       refine take_ (i := 3) (N := some 44) (v := ?_) (a' := ?_) tahy rfl rfl (zcb HT_.out HW_.out (by kernel_rfl)) (fun _ _ _ h => h) (Or.inl ⟨by rfl, ?_⟩) hHeld ?_ ?_
                       rotate_left
                       · rintro w' ⟨s0, s1, s2⟩
                         go_simp; with_reducible rfl
                       rotate_left
                       · simp only [Act.put, zaa, zab, zac, zby, zbz]
                         rfl
                       refine pure_ (i := 4) (N := some 45) (v := ?_) (a' := ?_) tahz rfl rfl (zca HT_.out (by kernel_rfl)) (fun _ _ _ h => h) (Or.inl ⟨by rfl, ?_⟩) ?_ ?_
                       rotate_left
                       · intro w'
                         go_simp; with_reducible rfl
                       rotate_left
                       · simp only [Act.put, zaa, zab, zac, zby, zbz]
                         rfl
                       refine pure_ (i := 5) (N := some 46) (v := ?_) (a' := ?_) taia rfl rfl (zca HT_.out (by kernel_rfl)) (fun _ _ _ h => h) (Or.inl ⟨by rfl, ?_⟩) ?_ ?_
                       rotate_left
                       · intro w'
                         go_simp; with_reducible rfl
                       rotate_left
                       · simp only [Act.put, zaa, zab, zac, zby, zbz]
                         rfl
                       refine pure_ (i := 6) (N := some 47) (v := ?_) (a' := ?_) taib rfl rfl (zca HT_.out (by kernel_rfl)) (fun _ _ _ h => h) (Or.inl ⟨by rfl, ?_⟩) ?_ ?_
                       rotate_left
                       · intro w'
                         go_simp; with_reducible rfl
                       rotate_left
                       · simp only [Act.put, zaa, zab, zac, zby, zbz]
                         rfl
                       refine pure_ (i := 7) (N := some 48) (v := ?_) (a' := ?_) taic rfl rfl (zca HT_.out (by kernel_rfl)) (fun _ _ _ h => h) (Or.inl ⟨by rfl, ?_⟩) ?_ ?_
                       rotate_left
                       · intro w'
                         go_simp; with_reducible rfl
                       rotate_left
                       · simp only [Act.put, zaa, zab, zac, zby, zbz]
                         rfl
                       refine pure_ (i := 8) (N := some 49) (v := ?_) (a' := ?_) taid rfl rfl (zca HT_.out (by kernel_rfl)) (fun _ _ _ h => h) (Or.inl ⟨by rfl, ?_⟩) ?_ ?_
                       rotate_left
                       · intro w'
                         go_simp; with_reducible rfl
                       rotate_left
                       · simp only [Act.put, zaa, zab, zac, zby, zbz]
                         rfl
                       refine pure_ (i := 10) (N := some 51) (v := ?_) (a' := ?_) taie rfl rfl (zca HT_.out (by kernel_rfl)) (fun _ _ _ h => h) (Or.inl ⟨by rfl, ?_⟩) ?_ ?_
                       rotate_left
                       · intro w'
                         go_simp; with_reducible rfl
                       rotate_left
                       · simp only [Act.put, zaa, zab, zac, zby, zbz]
                         rfl
                       refine pure_ (i := 11) (N := some 52) (v := ?_) (a' := ?_) taif rfl rfl (zca HT_.out (by kernel_rfl)) (fun _ _ _ h => h) (Or.inl ⟨by rfl, ?_⟩) ?_ ?_
                       rotate_left
                       · intro w'
                         go_simp; with_reducible rfl
                       rotate_left
                       · simp only [Act.put, zaa, zab, zac, zby, zbz]
                         rfl
                       refine pure_ (i := 12) (N := some 53) (v := ?_) (a' := ?_) taig rfl rfl (zca HT_.out (by kernel_rfl)) (fun _ _ _ h => h) (Or.inl ⟨by rfl, ?_⟩) ?_ ?_
                       rotate_left
                       · intro w'
                         go_simp; with_reducible rfl
                       rotate_left
                       · simp only [Act.put, zaa, zab, zac, zby, zbz]
                         rfl
                       refine take_ (i := 9) (N := some 50) (v := ?_) (a' := ?_) taih rfl rfl (zcb HT_.out HW_.out (by kernel_rfl)) (fun _ _ _ h => h) (Or.inl ⟨by rfl, ?_⟩) hHeld ?_ ?_
                       rotate_left
                       · rintro w' ⟨s0, s1, s2⟩
                         go_simp; with_reducible rfl
                       rotate_left
                       · simp only [Act.put, zaa, zab, zac, zby, zbz]
                         rfl
                       refine take_ (i := 13) (N := some 54) (v := ?_) (a' := ?_) taii rfl rfl (zcb HT_.out HW_.out (by kernel_rfl)) (fun _ _ _ h => h) (Or.inl ⟨by rfl, ?_⟩) hHeld ?_ ?_
                       rotate_left
                       · rintro w' ⟨s0, s1, s2⟩
                         go_simp; with_reducible rfl
                       rotate_left
                       · simp only [Act.put, zaa, zab, zac, zby, zbz]
                         rfl
                       refine pure_ (i := 14) (N := some 55) (v := ?_) (a' := ?_) taij rfl rfl (zca HT_.out (by kernel_rfl)) (fun _ _ _ h => h) (Or.inl ⟨by rfl, ?_⟩) ?_ ?_
                       rotate_left
                       · intro w'
                         go_simp; with_reducible rfl
                       rotate_left
                       · simp only [Act.put, zaa, zab, zac, zby, zbz]
                         rfl
                       refine pure_ (i := 15) (N := some 56) (v := ?_) (a' := ?_) taik rfl rfl (zca HT_.out (by kernel_rfl)) (fun _ _ _ h => h) (Or.inl ⟨by rfl, ?_⟩) ?_ ?_
                       rotate_left
                       · intro w'
                         go_simp; with_reducible rfl
                       rotate_left
                       · simp only [Act.put, zaa, zab, zac, zby, zbz]
                         rfl
                       refine pure_ (i := 16) (N := some 57) (v := ?_) (a' := ?_) tail rfl rfl (zca HT_.out (by kernel_rfl)) (fun _ _ _ h => h) (Or.inl ⟨by rfl, ?_⟩) ?_ ?_
                       rotate_left
                       · intro w'
                         go_simp; with_reducible rfl
                       rotate_left
                       · simp only [Act.put, zaa, zab, zac, zby, zbz]
                         rfl
                       refine one_ (i := 17) (N := some 58) #[true, true, true, true, true, true, true, true, true, true, true, true, true, true, true, true, true, true, false, false] rfl rfl (one_of HT_.out (by kernel_rfl)) (by decide) (fun K hK => ?_)
                       refine goes_ Try.func89 (by kernel_rfl) rfl #[.pointer (some ⟨g, 0, none⟩), .int .i64 4] (by rfl) rfl rfl (taad) ?_
                       with_reducible refine (spec_l1Cur_one.calls g s0_0 t231 t232 4 false t241 t242 w0 _ ?side1 ?side2 A39.out).mono ?_
                       (case side1 => exact tagd)
                       (case side2 => exact tage)
                       rintro e w56 ⟨rfl, hi, hb, hk⟩
                       have HS0_ := keep_cell hk (hHeld.1) (tabp)
                       have HS1_ := keep_cell hk (hHeld.2.1) (tabp)
                       have HS2_ := keep_cell hk (hHeld.2.2) (tabp)
                       refine ⟨_, rfl, ?_⟩
                       have n0_ := zad (zbs (zbt (zcl (show IsS75 w0 _ g s0_0 t231 t232 from by exact tafz) (taai) (by decide)) hk (fun _ h => h.2)) (fun _ h => h.1))
                       have n1_ := zad (zbs (zbt (zcl (show IsS75 w0 _ g s0_0 t231 t232 from by exact tafz) (taah) (by decide)) hk (fun _ h => h.2)) (fun _ h => h.1))
                       have n2_ := zad (zbu (taac) hk (.inl rfl))
                       have n3_ := zad (hb)
                       have n4_ := zad (hi)
                       clear HO_6 HO_7 HK HB HI0; have HO_6 := n0_; have HO_7 := n1_; have HK := n2_; have HB := n3_; have HI0 := n4_; clear n0_ n1_ n2_ n3_ n4_; (try clear hb); (try clear hb2); (try clear hk); (try clear hi); refine hK.out _ _ ⟨HS0_, HS1_, HS2_⟩ (fun hHeld => ?_)
                       clear hK K; refine norm_ (a' := ?_) ?_ ?_
                       rotate_left
                       · show Act.put _ (some 58) _ = _
                         simp only [Act.put, zaa, zab, zac, zby, zbz]
                         rfl
                       refine pure_ (i := 18) (N := some 59) (v := ?_) (a' := ?_) tain rfl rfl (zca HT_.out (by kernel_rfl)) (fun _ _ _ h => h) (Or.inl ⟨by rfl, ?_⟩) ?_ ?_
                       rotate_left
                       · intro w'
                         go_simp; with_reducible rfl
                       rotate_left
                       · simp only [Act.put, zaa, zab, zac, zby, zbz]
                         rfl
                       refine pure_ (i := 19) (N := some 60) (v := ?_) (a' := ?_) taio rfl rfl (zca HT_.out (by kernel_rfl)) (fun _ _ _ h => h) (Or.inl ⟨by rfl, ?_⟩) ?_ ?_
                       rotate_left
                       · intro w'
                         go_simp; with_reducible rfl
                       rotate_left
                       · simp only [Act.put, zaa, zab, zac, zby, zbz]
                         rfl
                       refine done_ (done_of HT_.out (by kernel_rfl)) ?_
                       try go_wp2
                       go_roundg kj16
                       case measure => have := HK1.out; have := HJ16.out; omega
                       case rel => exact ⟨(x7_1), (wrap64 (x8_1 - 1)), (t241), (t242), (taag), H', ⟨tabo⟩, ⟨taai⟩, ⟨taah⟩, ⟨taaf⟩, ⟨taac⟩, ⟨taan⟩⟩
                 · rw [if_neg c27] at H
                   exact absurd H (taae)
               · rw [if_neg c26] at H
                 exact absurd H (taae)
             · rw [if_neg c25] at H
               have c25b0 : decide (0 < (rd x7_1 t227)) = false := zbj c25
               clear c25; have H' := zad H
               clear H; obtain ⟨Ao57, co57, eo57⟩ := zbx HO_7.out
               subst eo57; try go_wp2_with (first | ((with_reducible refine zbh (f := 80) rfl ?_); refine zbp (some 36) rfl rfl Try.func80 (by kernel_rfl) rfl #[.pointer (some ⟨g, 0, none⟩), .int .i64 (x7_1.length : Int)] rfl (taad) ?_; (with_reducible refine (zcp g s0_0 x1001_1 x1002_1 (x7_1.length : Int) t227 t228 t229 w0 _ ?side1 ?side2 A21.out).mono ?_); (case side1 => repeat (first | (with_reducible first | exact HI0.out | apply zci | apply zcj | apply zck | apply zcn | apply zco) | exact HI0.out)); (case side2 => repeat (first | (with_reducible first | exact HB.out | apply zag | apply zae | apply zaf | refine zah ?_ (zcm HI0.out)) | exact HB.out)); rintro e w58 ⟨rfl, hi, hb, hk⟩; refine ⟨_, rfl, ?_⟩; have n0_ := zad (zbs (zbt (zcl (show IsS75 w0 _ g s0_0 x1001_1 x1002_1 from by exact tafz) (taai) (by decide)) hk (fun _ h => h.2)) (fun _ h => h.1)); have n1_ := zad (zbs (zbt (zcl (show IsS75 w0 _ g s0_0 x1001_1 x1002_1 from by exact tafz) (taah) (by decide)) hk (fun _ h => h.2)) (fun _ h => h.1)); have n2_ := zad (zbu (taac) hk (.inl rfl)); have n3_ := zad (hb); have n4_ := zad (hi); clear HO_6 HO_7 HK HB HI0; have HO_6 := n0_; have HO_7 := n1_; have HK := n2_; have HB := n3_; have HI0 := n4_; clear n0_ n1_ n2_ n3_ n4_; (try clear hb); (try clear hb2); (try clear hk); (try clear hi)) | ((with_reducible refine zbh (f := 80) rfl ?_); refine zbp (some 40) rfl rfl Try.func80 (by kernel_rfl) rfl #[.pointer (some ⟨g, 0, none⟩), .int .i64 (x7_1.length : Int)] rfl (taad) ?_; (with_reducible refine (zcp g s0_0 t228 t229 (x7_1.length : Int) t230 t231 t232 w0 _ ?side1 ?side2 A22.out).mono ?_); (case side1 => repeat (first | (with_reducible first | exact HI0.out | apply zci | apply zcj | apply zck | apply zcn | apply zco) | exact HI0.out)); (case side2 => repeat (first | (with_reducible first | exact HB.out | apply zag | apply zae | apply zaf | refine zah ?_ (zcm HI0.out)) | exact HB.out)); rintro e w59 ⟨rfl, hi, hb, hk⟩; refine ⟨_, rfl, ?_⟩; have n0_ := zad (zbs (zbt (zcl (show IsS75 w0 _ g s0_0 t228 t229 from by exact tafz) (taai) (by decide)) hk (fun _ h => h.2)) (fun _ h => h.1)); have n1_ := zad (zbs (zbt (zcl (show IsS75 w0 _ g s0_0 t228 t229 from by exact tafz) (taah) (by decide)) hk (fun _ h => h.2)) (fun _ h => h.1)); have n2_ := zad (zbu (taac) hk (.inl rfl)); have n3_ := zad (hb); have n4_ := zad (hi); clear HO_6 HO_7 HK HB HI0; have HO_6 := n0_; have HO_7 := n1_; have HK := n2_; have HB := n3_; have HI0 := n4_; clear n0_ n1_ n2_ n3_ n4_; (try clear hb); (try clear hb2); (try clear hk); (try clear hi)))
               have n0_ := zad (zak HO_6.out)
               have n1_ := zad (zak HO_7.out)
               have n2_ := zad (zck HI0.out)
               have n3_ := zad (zaq HK.out)
               have n4_ := zad (zaf HB.out)
               clear HO_6 HO_7 HI0 HK HB; have HO_6 := n0_; have HO_7 := n1_; have HI0 := n2_; have HK := n3_; have HB := n4_; clear n0_ n1_ n2_ n3_ n4_; have p233 : 0 ≤ (t227 : Int) := zas (taaa)
               have q233 : t227 < (x7_1.length : Int) := zas (taaa)
               obtain ⟨ad233, e233, hx233_0⟩ := zcc (zbf HO_7.out).2.2 t227 p233 q233
               cases e233
               replace p233 := eq_true p233
               replace q233 := eq_true q233
               refine start_ (n := 20) (S := fun w' => w'.cell? (ad233.add (t227).toNat) = some (.int .i64 (rd x7_1 t227))) (ds := []) #[false, false, false, false, false, false, false, false, false, false, false, false, false, false, false, false, false, false, false, false] (by kernel_rfl) rfl rfl (hx233_0) (fun hHeld => ?_); refine with_tabW spec_l1Cur_fitting.tab9 spec_l1Cur_fitting.bits9 (fun HT_ HW_ => ?_)
               generalize w59.drew = w60 at HO_6 HO_7 HI0 HK HB hx233_0 hHeld ⊢
               refine pure_ (i := 0) (N := some 41) (v := ?_) (a' := ?_) tahv rfl rfl (zca HT_.out (by kernel_rfl)) (fun _ _ _ h => h) (Or.inl ⟨by rfl, ?_⟩) ?_ ?_
               rotate_left
               · intro w'
                 go_simp; with_reducible rfl
               rotate_left
               · simp only [Act.put, zaa, zab, zac, zby, zbz]
                 rfl
               refine pure_ (i := 1) (N := some 42) (v := ?_) (a' := ?_) tahw rfl rfl (zca HT_.out (by kernel_rfl)) (fun _ _ _ h => h) (Or.inl ⟨by rfl, ?_⟩) ?_ ?_
               rotate_left
               · intro w'
                 go_simp; with_reducible rfl
               rotate_left
               · simp only [Act.put, zaa, zab, zac, zby, zbz]
                 rfl
               refine pure_ (i := 2) (N := some 43) (v := ?_) (a' := ?_) tahx rfl rfl (zca HT_.out (by kernel_rfl)) (fun _ _ _ h => h) (Or.inl ⟨by rfl, ?_⟩) ?_ ?_
               rotate_left
               · intro w'
                 go_simp; with_reducible rfl
               rotate_left
               · simp only [Act.put, zaa, zab, zac, zby, zbz]
                 rfl
               refine take_ (i := 3) (N := some 44) (v := ?_) (a' := ?_) tahy rfl rfl (zcb HT_.out HW_.out (by kernel_rfl)) (fun _ _ _ h => h) (Or.inl ⟨by rfl, ?_⟩) hHeld ?_ ?_
               rotate_left
               · intro w' s0
                 go_simp; with_reducible rfl
               rotate_left
               · simp only [Act.put, zaa, zab, zac, zby, zbz]
                 rfl
               refine pure_ (i := 4) (N := some 45) (v := ?_) (a' := ?_) tahz rfl rfl (zca HT_.out (by kernel_rfl)) (fun _ _ _ h => h) (Or.inl ⟨by rfl, ?_⟩) ?_ ?_
               rotate_left
               · intro w'
                 go_simp; with_reducible rfl
               rotate_left
               · simp only [Act.put, zaa, zab, zac, zby, zbz]
                 rfl
               refine pure_ (i := 5) (N := some 46) (v := ?_) (a' := ?_) taia rfl rfl (zca HT_.out (by kernel_rfl)) (fun _ _ _ h => h) (Or.inl ⟨by rfl, ?_⟩) ?_ ?_
               rotate_left
               · intro w'
                 go_simp; with_reducible rfl
               rotate_left
               · simp only [Act.put, zaa, zab, zac, zby, zbz]
                 rfl
               refine pure_ (i := 6) (N := some 47) (v := undef) (a' := ?_) taib rfl rfl (zca HT_.out (by kernel_rfl)) (fun _ _ _ h => h) (Or.inr ⟨by rfl, rfl⟩) ?_ ?_
               rotate_left
               · simp only [Act.put, zaa, zab, zac, zby, zbz]
                 rfl
               refine pure_ (i := 7) (N := some 48) (v := undef) (a' := ?_) taic rfl rfl (zca HT_.out (by kernel_rfl)) (fun _ _ _ h => h) (Or.inr ⟨by rfl, rfl⟩) ?_ ?_
               rotate_left
               · simp only [Act.put, zaa, zab, zac, zby, zbz]
                 rfl
               refine pure_ (i := 8) (N := some 49) (v := undef) (a' := ?_) taid rfl rfl (zca HT_.out (by kernel_rfl)) (fun _ _ _ h => h) (Or.inr ⟨by rfl, rfl⟩) ?_ ?_
               rotate_left
               · simp only [Act.put, zaa, zab, zac, zby, zbz]
                 rfl
               refine pure_ (i := 9) (N := some 50) (v := undef) (a' := ?_) #[true, true, true, true, true, true, true, true, true, true, false, false, false, false, false, false, false, false, false, false] rfl rfl (zca HT_.out (by kernel_rfl)) (fun _ _ _ h => h) (Or.inr ⟨by rfl, rfl⟩) ?_ ?_
               rotate_left
               · simp only [Act.put, zaa, zab, zac, zby, zbz]
                 rfl
               refine pure_ (i := 10) (N := some 51) (v := undef) (a' := ?_) #[true, true, true, true, true, true, true, true, true, true, true, false, false, false, false, false, false, false, false, false] rfl rfl (zca HT_.out (by kernel_rfl)) (fun _ _ _ h => h) (Or.inr ⟨by rfl, rfl⟩) ?_ ?_
               rotate_left
               · simp only [Act.put, zaa, zab, zac, zby, zbz]
                 rfl
               refine pure_ (i := 11) (N := some 52) (v := undef) (a' := ?_) #[true, true, true, true, true, true, true, true, true, true, true, true, false, false, false, false, false, false, false, false] rfl rfl (zca HT_.out (by kernel_rfl)) (fun _ _ _ h => h) (Or.inr ⟨by rfl, rfl⟩) ?_ ?_
               rotate_left
               · simp only [Act.put, zaa, zab, zac, zby, zbz]
                 rfl
               refine pure_ (i := 12) (N := some 53) (v := undef) (a' := ?_) taih rfl rfl (zca HT_.out (by kernel_rfl)) (fun _ _ _ h => h) (Or.inr ⟨by rfl, rfl⟩) ?_ ?_
               rotate_left
               · simp only [Act.put, zaa, zab, zac, zby, zbz]
                 rfl
               refine pure_ (i := 13) (N := some 54) (v := undef) (a' := ?_) taii rfl rfl (zca HT_.out (by kernel_rfl)) (fun _ _ _ h => h) (Or.inr ⟨by rfl, rfl⟩) ?_ ?_
               rotate_left
               · simp only [Act.put, zaa, zab, zac, zby, zbz]
                 rfl
               refine pure_ (i := 14) (N := some 55) (v := undef) (a' := ?_) taij rfl rfl (zca HT_.out (by kernel_rfl)) (fun _ _ _ h => h) (Or.inr ⟨by rfl, rfl⟩) ?_ ?_
               rotate_left
               · simp only [Act.put, zaa, zab, zac, zby, zbz]
                 rfl
               refine pure_ (i := 15) (N := some 56) (v := undef) (a' := ?_) taik rfl rfl (zca HT_.out (by kernel_rfl)) (fun _ _ _ h => h) (Or.inr ⟨by rfl, rfl⟩) ?_ ?_
               rotate_left
               · simp only [Act.put, zaa, zab, zac, zby, zbz]
                 rfl
               refine pure_ (i := 16) (N := some 57) (v := undef) (a' := ?_) tail rfl rfl (zca HT_.out (by kernel_rfl)) (fun _ _ _ h => h) (Or.inr ⟨by rfl, rfl⟩) ?_ ?_
               rotate_left
               · simp only [Act.put, zaa, zab, zac, zby, zbz]
                 rfl
               refine pure_ (i := 17) (N := some 58) (v := undef) (a' := ?_) taim rfl rfl (zca HT_.out (by kernel_rfl)) (fun _ _ _ h => h) (Or.inr ⟨by rfl, rfl⟩) ?_ ?_
               rotate_left
               · simp only [Act.put, zaa, zab, zac, zby, zbz]
                 rfl
               refine pure_ (i := 18) (N := some 59) (v := undef) (a' := ?_) tain rfl rfl (zca HT_.out (by kernel_rfl)) (fun _ _ _ h => h) (Or.inr ⟨by rfl, rfl⟩) ?_ ?_
               rotate_left
               · simp only [Act.put, zaa, zab, zac, zby, zbz]
                 rfl
               refine pure_ (i := 19) (N := some 60) (v := ?_) (a' := ?_) taio rfl rfl (zca HT_.out (by kernel_rfl)) (fun _ _ _ h => h) (Or.inl ⟨by rfl, ?_⟩) ?_ ?_
               rotate_left
               · intro w'
                 go_simp; with_reducible rfl
               rotate_left
               · simp only [Act.put, zaa, zab, zac, zby, zbz]
                 rfl
               refine done_ (done_of HT_.out (by kernel_rfl)) ?_
               try go_wp2
               go_roundg kj16
               case measure => have := HK1.out; have := HJ16.out; omega
               case rel => exact ⟨(x7_1), (wrap64 (x8_1 - 1)), (t231), (t232), (taag), H', ⟨tabo⟩, ⟨taai⟩, ⟨taah⟩, ⟨taaf⟩, ⟨taac⟩, ⟨taan⟩⟩
           · rw [if_neg c24] at H
             exact absurd H (taae)
         · rw [if_neg c23] at H
           exact absurd H (taae)
       · replace c20 := zbi.mpr c20
         subst c20; have H1 : ((spec_l1Cur_one.f s0_0 x1001_1 x1002_1 5).bind fun bt224 => (if bt224.1 = true then (some (t205, x7_1, bt224.2.1, bt224.2.2)) else (some (x7_1, t205, bt224.2.1, bt224.2.2)))) = some (r1, r2, r3, r4) := by rw [if_neg (show ¬ (false = true) by decide)] at H; exact H
         clear H; have H := H1; clear H1; replace H := zay.mp H; obtain ⟨⟨t224, t225, t226⟩, A610, H⟩ := H
         replace H : (if t224 = true then (some (t205, x7_1, t225, t226)) else (some (x7_1, t205, t225, t226))) = some (r1, r2, r3, r4) := H
         have A61 := zad A610; clear A610; by_cases c62 : t224 = true
         · subst c62
           have H1 : (some (t205, x7_1, t225, t226)) = some (r1, r2, r3, r4) := by rw [if_pos rfl] at H; exact H
           clear H; have H := H1; clear H1; simp only [zbn, zbr] at H
           obtain ⟨rfl, rfl, rfl, rfl⟩ := H
           go_wp2_with (first | ((with_reducible refine zbh (f := 89) rfl ?_); refine zbp (some 74) rfl rfl Try.func89 (by kernel_rfl) rfl #[.pointer (some ⟨g, 0, none⟩), .int .i64 5] rfl (taad) ?_; (with_reducible refine (spec_l1Cur_one.calls g s0_0 x1001_1 x1002_1 5 true t225 t226 w0 _ ?side1 ?side2 A61.out).mono ?_); (case side1 => exact tagd); (case side2 => exact tage); rintro e w63 ⟨rfl, hi, hb, hk⟩; refine ⟨_, rfl, ?_⟩; have n0_ := zad (zbs (zbt (zcl (show IsS75 w0 _ g s0_0 x1001_1 x1002_1 from by exact tafz) (taai) (by decide)) hk (fun _ h => h.2)) (fun _ h => h.1)); have n1_ := zad (zbs (zbt (zcl (show IsS75 w0 _ g s0_0 x1001_1 x1002_1 from by exact tafz) (taah) (by decide)) hk (fun _ h => h.2)) (fun _ h => h.1)); have n2_ := zad (zbu (taac) hk (.inl rfl)); have n3_ := zad (hb); have n4_ := zad (hi); clear HO_6 HO_7 HK HB HI0; have HO_6 := n0_; have HO_7 := n1_; have HK := n2_; have HB := n3_; have HI0 := n4_; clear n0_ n1_ n2_ n3_ n4_; (try clear hb); (try clear hb2); (try clear hk); (try clear hi)))
           go_ret2
           exact ⟨_, _, taaj, taai, taah, taaf, taan, taac⟩
         · replace c62 := zbi.mpr c62
           subst c62; have H1 : (some (x7_1, t205, t225, t226)) = some (r1, r2, r3, r4) := by rw [if_neg (show ¬ (false = true) by decide)] at H; exact H
           clear H; have H := H1; clear H1; simp only [zbn, zbr] at H
           obtain ⟨rfl, rfl, rfl, rfl⟩ := H
           go_wp2_with (first | ((with_reducible refine zbh (f := 89) rfl ?_); refine zbp (some 74) rfl rfl Try.func89 (by kernel_rfl) rfl #[.pointer (some ⟨g, 0, none⟩), .int .i64 5] rfl (taad) ?_; (with_reducible refine (spec_l1Cur_one.calls g s0_0 x1001_1 x1002_1 5 false t225 t226 w0 _ ?side1 ?side2 A61.out).mono ?_); (case side1 => exact tagd); (case side2 => exact tage); rintro e w64 ⟨rfl, hi, hb, hk⟩; refine ⟨_, rfl, ?_⟩; have n0_ := zad (zbs (zbt (zcl (show IsS75 w0 _ g s0_0 x1001_1 x1002_1 from by exact tafz) (taai) (by decide)) hk (fun _ h => h.2)) (fun _ h => h.1)); have n1_ := zad (zbs (zbt (zcl (show IsS75 w0 _ g s0_0 x1001_1 x1002_1 from by exact tafz) (taah) (by decide)) hk (fun _ h => h.2)) (fun _ h => h.1)); have n2_ := zad (zbu (taac) hk (.inl rfl)); have n3_ := zad (hb); have n4_ := zad (hi); clear HO_6 HO_7 HK HB HI0; have HO_6 := n0_; have HO_7 := n1_; have HK := n2_; have HB := n3_; have HI0 := n4_; clear n0_ n1_ n2_ n3_ n4_; (try clear hb); (try clear hb2); (try clear hk); (try clear hi)))
           go_ret2
           exact ⟨_, _, taaj, taah, taai, taaf, taan, taac⟩
mutual
def spec_l1Cur_majorized.l0 : Nat → List Int → List Int → Int → List Int → Int → Int → Option (List Int × List Int × Int × Int)
 | 0, _, _, _, _, _, _ => none
 | k + 1, x6, x7, x8, x1000, x1001, x1002 => if x8 > 0 then (spec_l1Cur_majorized.j1 k x6 x7 x8 (decide ((x7.length : Int) > 1)) x1000 x1001 x1002) else (spec_l1Cur_majorized.j1 k x6 x7 x8 false x1000 x1001 x1002)
def spec_l1Cur_majorized.j1 : Nat → List Int → List Int → Int → Bool → List Int → Int → Int → Option (List Int × List Int × Int × Int)
 | 0, _, _, _, _, _, _, _ => none
 | k + 1, x6, x7, x8, x31, x1000, x1001, x1002 => if x31 = true then ((spec_l1Cur_pick.f x1000 x1001 x1002 (x7.length : Int)).bind fun bt1120 => ((spec_l1Cur_pick.f x1000 bt1120.2.1 bt1120.2.2 (x7.length : Int)).bind fun bt1123 => (if 0 ≤ bt1120.1 then (if bt1120.1 < (x7.length : Int) then (if 0 ≤ bt1123.1 then (if bt1123.1 < (x7.length : Int) then (if (rd x7 bt1120.1) ≥ (wrap64 ((rd x7 bt1123.1) + 2)) then ((some (x7.set (bt1120.1 : Int).toNat (wrap64 ((rd x7 bt1120.1) - 1)) : List Int)).bind fun y1129 => (spec_l1Cur_majorized.l0 k x6 (y1129.set (bt1123.1 : Int).toNat (wrap64 ((rd y1129 bt1123.1) + 1))) (wrap64 (x8 - 1)) x1000 bt1123.2.1 bt1123.2.2)) else (spec_l1Cur_majorized.l0 k x6 x7 (wrap64 (x8 - 1)) x1000 bt1123.2.1 bt1123.2.2)) else (none)) else (none)) else (none)) else (none)))) else (some (x7, x6, x1001, x1002))
end
def spec_l1Cur_majorized.f (k : Nat) (s0_0 : List Int) (s0_1 : Int) (s0_2 : Int) (a1 : Int) : Option (List Int × List Int × Int × Int) := (spec_l1Cur_list.f k s0_0 s0_1 s0_2 a1).bind fun bt1098 => ((spec_l1Cur_one.f s0_0 bt1098.2.1 bt1098.2.2 8).bind fun bt1103 => (if bt1103.1 = true then ((spec_l1Cur_fitting.f k s0_0 bt1103.2.1 bt1103.2.2 a1).bind fun bt1106 => (some (bt1106.1, bt1106.2.1, bt1106.2.2.1, bt1106.2.2.2))) else ((spec_l1Own.f bt1098.1).bind fun t1114 => ((spec_l1Cur_pick.f s0_0 bt1103.2.1 bt1103.2.2 9).bind fun bt1117 => (spec_l1Cur_majorized.l0 k bt1098.1 t1114 bt1117.1 s0_0 bt1117.2.1 bt1117.2.2)))))
theorem spec_l1Cur_majorized.calls (k : Nat) (g : Nat) (s0_0 : List Int) (s0_1 : Int) (s0_2 : Int) (a1 : Int) (r1 : List Int) (r2 : List Int) (r3 : Int) (r4 : Int) (w0 w : World) (hI : IsS75 w0 w g s0_0 s0_1 s0_2) (hB : Below w0.heap.size w0 w) (h : spec_l1Cur_majorized.f k s0_0 s0_1 s0_2 a1 = some (r1, r2, r3, r4)) :
 Calls Try.prog 127 #[.pointer (some ⟨g, 0, none⟩), .int .i64 a1] w fun e w' => ∃ v0_ v1_ : Value, e = .returned (.tuple #[v0_, v1_]) ∧ Kd.R (Kd.int .i64) 3 w' w.heap.size (fun k_ => some k_ ≠ (v1_ : Value).ownBlock) v0_ r1 ∧ Kd.R (Kd.int .i64) 3 w' w.heap.size (fun k_ => some k_ ≠ (v0_ : Value).ownBlock) v1_ r2 ∧ IsS75 w0 w' g s0_0 r3 r4 ∧ Below w0.heap.size w0 w' ∧ KeepBut w w' g none := by
 have HI0 := zad hI; have HK := zad (KeepBut.refl w g none)
 have HL := zad hB.size; clear hI; have HW0 := zad hB.size; have HB := zad hB; clear hB; have H : ((spec_l1Cur_list.f k s0_0 s0_1 s0_2 a1).bind fun bt1098 => ((spec_l1Cur_one.f s0_0 bt1098.2.1 bt1098.2.2 8).bind fun bt1103 => (if bt1103.1 = true then ((spec_l1Cur_fitting.f k s0_0 bt1103.2.1 bt1103.2.2 a1).bind fun bt1106 => (some (bt1106.1, bt1106.2.1, bt1106.2.2.1, bt1106.2.2.2))) else ((spec_l1Own.f bt1098.1).bind fun t1114 => ((spec_l1Cur_pick.f s0_0 bt1103.2.1 bt1103.2.2 9).bind fun bt1117 => (spec_l1Cur_majorized.l0 k bt1098.1 t1114 bt1117.1 s0_0 bt1117.2.1 bt1117.2.2)))))) = some (r1, r2, r3, r4) := h
 clear h; replace H := zay.mp H; obtain ⟨⟨t1098, t1101, t1102⟩, A30, H⟩ := H
 replace H : ((spec_l1Cur_one.f s0_0 t1101 t1102 8).bind fun bt1103 => (if bt1103.1 = true then ((spec_l1Cur_fitting.f k s0_0 bt1103.2.1 bt1103.2.2 a1).bind fun bt1106 => (some (bt1106.1, bt1106.2.1, bt1106.2.2.1, bt1106.2.2.2))) else ((spec_l1Own.f t1098).bind fun t1114 => ((spec_l1Cur_pick.f s0_0 bt1103.2.1 bt1103.2.2 9).bind fun bt1117 => (spec_l1Cur_majorized.l0 k t1098 t1114 bt1117.1 s0_0 bt1117.2.1 bt1117.2.2))))) = some (r1, r2, r3, r4) := H
 have A3 := zad A30; clear A30; replace H := zay.mp H; obtain ⟨⟨t1103, t1104, t1105⟩, A40, H⟩ := H
 replace H : (if t1103 = true then ((spec_l1Cur_fitting.f k s0_0 t1104 t1105 a1).bind fun bt1106 => (some (bt1106.1, bt1106.2.1, bt1106.2.2.1, bt1106.2.2.2))) else ((spec_l1Own.f t1098).bind fun t1114 => ((spec_l1Cur_pick.f s0_0 t1104 t1105 9).bind fun bt1117 => (spec_l1Cur_majorized.l0 k t1098 t1114 bt1117.1 s0_0 bt1117.2.1 bt1117.2.2)))) = some (r1, r2, r3, r4) := H
 have A4 := zad A40; clear A40; by_cases c5 : t1103 = true
 · subst c5
   have H1 : ((spec_l1Cur_fitting.f k s0_0 t1104 t1105 a1).bind fun bt1106 => (some (bt1106.1, bt1106.2.1, bt1106.2.2.1, bt1106.2.2.2))) = some (r1, r2, r3, r4) := by rw [if_pos rfl] at H; exact H
   clear H; have H := H1; clear H1; replace H := zay.mp H; obtain ⟨⟨t1106, t1109, t1112, t1113⟩, A60, H⟩ := H
   replace H : (some (t1106, t1109, t1112, t1113)) = some (r1, r2, r3, r4) := H
   have A6 := zad A60; clear A60; simp only [zbn, zbr] at H
   obtain ⟨rfl, rfl, rfl, rfl⟩ := H
   go_enter Try.func127, Try.ntmps127
   go_wp2_with (first | (go_at_call 109; (with_reducible refine (spec_l1Cur_list.calls k g s0_0 s0_1 s0_2 a1 t1098 t1101 t1102 w0 _ ?side1 ?side2 A3.out).mono ?_); (case side1 => repeat (first | (with_reducible first | exact HI0.out | apply zci | apply zcj | apply zck | apply zcn | apply zco) | exact HI0.out)); (case side2 => repeat (first | (with_reducible first | exact HB.out | apply zag | apply zae | apply zaf | refine zah ?_ (zcm HI0.out)) | exact HB.out)); rintro e w7 ⟨v1099, rfl, ho0, hi, hb, hk⟩; have n0_ := zad (zbw ho0 (keep_size (w := w) (g := g) (row := none) (taac))); have n1_ := zad (zbu (taac) hk (.inl rfl)); have n2_ := zad (hb); have n3_ := zad (hi); clear HK HB HI0; have HO1100 := n0_; have HK := n1_; have HB := n2_; have HI0 := n3_; clear n0_ n1_ n2_ n3_; (try clear hb); (try clear hb2); (try clear hk); (try clear hi); (try clear ho0)) | (go_at_call 89; (with_reducible refine (spec_l1Cur_one.calls g s0_0 t1101 t1102 8 true t1104 t1105 w0 _ ?side1 ?side2 A4.out).mono ?_); (case side1 => repeat (first | (with_reducible first | exact HI0.out | apply zci | apply zcj | apply zck | apply zcn | apply zco) | exact HI0.out)); (case side2 => repeat (first | (with_reducible first | exact HB.out | apply zag | apply zae | apply zaf | refine zah ?_ (zcm HI0.out)) | exact HB.out)); rintro e w8 ⟨rfl, hi, hb, hk⟩; have n0_ := zad (zbs (zbt (zcl (show IsS75 w0 _ g s0_0 t1101 t1102 from by exact tafz) (taar) (by decide)) hk (fun _ h => h.2)) (fun _ h => h.1)); have n1_ := zad (zbu (taac) hk (.inl rfl)); have n2_ := zad (hb); have n3_ := zad (hi); clear HO1100 HK HB HI0; have HO1100 := n0_; have HK := n1_; have HB := n2_; have HI0 := n3_; clear n0_ n1_ n2_ n3_; (try clear hb); (try clear hb2); (try clear hk); (try clear hi)) | (go_at_call 87; (with_reducible refine (spec_l1Cur_fitting.calls k g s0_0 t1104 t1105 a1 t1106 t1109 t1112 t1113 w0 _ ?side1 ?side2 A6.out).mono ?_); (case side1 => repeat (first | (with_reducible first | exact HI0.out | apply zci | apply zcj | apply zck | apply zcn | apply zco) | exact HI0.out)); (case side2 => repeat (first | (with_reducible first | exact HB.out | apply zag | apply zae | apply zaf | refine zah ?_ (zcm HI0.out)) | exact HB.out)); rintro e w9 ⟨v1107, v1110, rfl, ho0, ho1, hi, hb, hk⟩; have n0_ := zad (zbs (Kd.R_told (Kd.R_told (Kd.R_oldK (zcl (show IsS75 w0 _ g s0_0 t1104 t1105 from by exact tafz) (taar) (by decide)) hk) (zcf ho0)) (zcf ho1)) (fun _ h_ => h_.1)); have n1_ := zad (zbw (zce ho0 (zcg (taar))) (keep_size (w := w) (g := g) (row := none) (taac))); have n2_ := zad (zbw (zce ho1 (zcg (taar))) (keep_size (w := w) (g := g) (row := none) (taac))); have n3_ := zad (zbu (taac) hk (.inl rfl)); have n4_ := zad (hb); have n5_ := zad (hi); clear HO1100 HK HB HI0; have HO1100 := n0_; have HO1108 := n1_; have HO1111 := n2_; have HK := n3_; have HB := n4_; have HI0 := n5_; clear n0_ n1_ n2_ n3_ n4_ n5_; (try clear hb); (try clear hb2); (try clear hk); (try clear hi); (try clear ho0); (try clear ho1)))
   repeat (go_quiet (first | (go_at_call 109; (with_reducible refine (spec_l1Cur_list.calls k g s0_0 s0_1 s0_2 a1 t1098 t1101 t1102 w0 _ ?side1 ?side2 A3.out).mono ?_); (case side1 => repeat (first | (with_reducible first | exact HI0.out | apply zci | apply zcj | apply zck | apply zcn | apply zco) | exact HI0.out)); (case side2 => repeat (first | (with_reducible first | exact HB.out | apply zag | apply zae | apply zaf | refine zah ?_ (zcm HI0.out)) | exact HB.out)); rintro e w7 ⟨v1099, rfl, ho0, hi, hb, hk⟩; have n0_ := zad (zbw ho0 (keep_size (w := w) (g := g) (row := none) (taac))); have n1_ := zad (zbu (taac) hk (.inl rfl)); have n2_ := zad (hb); have n3_ := zad (hi); clear HK HB HI0; have HO1100 := n0_; have HK := n1_; have HB := n2_; have HI0 := n3_; clear n0_ n1_ n2_ n3_; (try clear hb); (try clear hb2); (try clear hk); (try clear hi); (try clear ho0)) | (go_at_call 89; (with_reducible refine (spec_l1Cur_one.calls g s0_0 t1101 t1102 8 true t1104 t1105 w0 _ ?side1 ?side2 A4.out).mono ?_); (case side1 => repeat (first | (with_reducible first | exact HI0.out | apply zci | apply zcj | apply zck | apply zcn | apply zco) | exact HI0.out)); (case side2 => repeat (first | (with_reducible first | exact HB.out | apply zag | apply zae | apply zaf | refine zah ?_ (zcm HI0.out)) | exact HB.out)); rintro e w8 ⟨rfl, hi, hb, hk⟩; have n0_ := zad (zbs (zbt (zcl (show IsS75 w0 _ g s0_0 t1101 t1102 from by exact tafz) (taar) (by decide)) hk (fun _ h => h.2)) (fun _ h => h.1)); have n1_ := zad (zbu (taac) hk (.inl rfl)); have n2_ := zad (hb); have n3_ := zad (hi); clear HO1100 HK HB HI0; have HO1100 := n0_; have HK := n1_; have HB := n2_; have HI0 := n3_; clear n0_ n1_ n2_ n3_; (try clear hb); (try clear hb2); (try clear hk); (try clear hi)) | (go_at_call 87; (with_reducible refine (spec_l1Cur_fitting.calls k g s0_0 t1104 t1105 a1 t1106 t1109 t1112 t1113 w0 _ ?side1 ?side2 A6.out).mono ?_); (case side1 => repeat (first | (with_reducible first | exact HI0.out | apply zci | apply zcj | apply zck | apply zcn | apply zco) | exact HI0.out)); (case side2 => repeat (first | (with_reducible first | exact HB.out | apply zag | apply zae | apply zaf | refine zah ?_ (zcm HI0.out)) | exact HB.out)); rintro e w9 ⟨v1107, v1110, rfl, ho0, ho1, hi, hb, hk⟩; have n0_ := zad (zbs (Kd.R_told (Kd.R_told (Kd.R_oldK (zcl (show IsS75 w0 _ g s0_0 t1104 t1105 from by exact tafz) (taar) (by decide)) hk) (zcf ho0)) (zcf ho1)) (fun _ h_ => h_.1)); have n1_ := zad (zbw (zce ho0 (zcg (taar))) (keep_size (w := w) (g := g) (row := none) (taac))); have n2_ := zad (zbw (zce ho1 (zcg (taar))) (keep_size (w := w) (g := g) (row := none) (taac))); have n3_ := zad (zbu (taac) hk (.inl rfl)); have n4_ := zad (hb); have n5_ := zad (hi); clear HO1100 HK HB HI0; have HO1100 := n0_; have HO1108 := n1_; have HO1111 := n2_; have HK := n3_; have HB := n4_; have HI0 := n5_; clear n0_ n1_ n2_ n3_ n4_ n5_; (try clear hb); (try clear hb2); (try clear hk); (try clear hi); (try clear ho0); (try clear ho1))); try go_wp2_with (first | (go_at_call 109; (with_reducible refine (spec_l1Cur_list.calls k g s0_0 s0_1 s0_2 a1 t1098 t1101 t1102 w0 _ ?side1 ?side2 A3.out).mono ?_); (case side1 => repeat (first | (with_reducible first | exact HI0.out | apply zci | apply zcj | apply zck | apply zcn | apply zco) | exact HI0.out)); (case side2 => repeat (first | (with_reducible first | exact HB.out | apply zag | apply zae | apply zaf | refine zah ?_ (zcm HI0.out)) | exact HB.out)); rintro e w7 ⟨v1099, rfl, ho0, hi, hb, hk⟩; have n0_ := zad (zbw ho0 (keep_size (w := w) (g := g) (row := none) (taac))); have n1_ := zad (zbu (taac) hk (.inl rfl)); have n2_ := zad (hb); have n3_ := zad (hi); clear HK HB HI0; have HO1100 := n0_; have HK := n1_; have HB := n2_; have HI0 := n3_; clear n0_ n1_ n2_ n3_; (try clear hb); (try clear hb2); (try clear hk); (try clear hi); (try clear ho0)) | (go_at_call 89; (with_reducible refine (spec_l1Cur_one.calls g s0_0 t1101 t1102 8 true t1104 t1105 w0 _ ?side1 ?side2 A4.out).mono ?_); (case side1 => repeat (first | (with_reducible first | exact HI0.out | apply zci | apply zcj | apply zck | apply zcn | apply zco) | exact HI0.out)); (case side2 => repeat (first | (with_reducible first | exact HB.out | apply zag | apply zae | apply zaf | refine zah ?_ (zcm HI0.out)) | exact HB.out)); rintro e w8 ⟨rfl, hi, hb, hk⟩; have n0_ := zad (zbs (zbt (zcl (show IsS75 w0 _ g s0_0 t1101 t1102 from by exact tafz) (taar) (by decide)) hk (fun _ h => h.2)) (fun _ h => h.1)); have n1_ := zad (zbu (taac) hk (.inl rfl)); have n2_ := zad (hb); have n3_ := zad (hi); clear HO1100 HK HB HI0; have HO1100 := n0_; have HK := n1_; have HB := n2_; have HI0 := n3_; clear n0_ n1_ n2_ n3_; (try clear hb); (try clear hb2); (try clear hk); (try clear hi)) | (go_at_call 87; (with_reducible refine (spec_l1Cur_fitting.calls k g s0_0 t1104 t1105 a1 t1106 t1109 t1112 t1113 w0 _ ?side1 ?side2 A6.out).mono ?_); (case side1 => repeat (first | (with_reducible first | exact HI0.out | apply zci | apply zcj | apply zck | apply zcn | apply zco) | exact HI0.out)); (case side2 => repeat (first | (with_reducible first | exact HB.out | apply zag | apply zae | apply zaf | refine zah ?_ (zcm HI0.out)) | exact HB.out)); rintro e w9 ⟨v1107, v1110, rfl, ho0, ho1, hi, hb, hk⟩; have n0_ := zad (zbs (Kd.R_told (Kd.R_told (Kd.R_oldK (zcl (show IsS75 w0 _ g s0_0 t1104 t1105 from by exact tafz) (taar) (by decide)) hk) (zcf ho0)) (zcf ho1)) (fun _ h_ => h_.1)); have n1_ := zad (zbw (zce ho0 (zcg (taar))) (keep_size (w := w) (g := g) (row := none) (taac))); have n2_ := zad (zbw (zce ho1 (zcg (taar))) (keep_size (w := w) (g := g) (row := none) (taac))); have n3_ := zad (zbu (taac) hk (.inl rfl)); have n4_ := zad (hb); have n5_ := zad (hi); clear HO1100 HK HB HI0; have HO1100 := n0_; have HO1108 := n1_; have HO1111 := n2_; have HK := n3_; have HB := n4_; have HI0 := n5_; clear n0_ n1_ n2_ n3_ n4_ n5_; (try clear hb); (try clear hb2); (try clear hk); (try clear hi); (try clear ho0); (try clear ho1))))
   go_ret2
   exact ⟨_, _, taaj, by (with_reducible repeat (first | apply zai | apply zaj | apply zak)); exact zbs HO1108.out (fun _ hk => hk.1), by (with_reducible repeat (first | apply zai | apply zaj | apply zak)); exact zbs HO1111.out (fun _ hk => hk.1), taaf, taan, taac⟩
 · replace c5 := zbi.mpr c5
   subst c5; have H1 : ((spec_l1Own.f t1098).bind fun t1114 => ((spec_l1Cur_pick.f s0_0 t1104 t1105 9).bind fun bt1117 => (spec_l1Cur_majorized.l0 k t1098 t1114 bt1117.1 s0_0 bt1117.2.1 bt1117.2.2))) = some (r1, r2, r3, r4) := by rw [if_neg (show ¬ (false = true) by decide)] at H; exact H
   clear H; have H := H1; clear H1; replace H := zay.mp H; obtain ⟨t1114, A100, H⟩ := H
   replace H : ((spec_l1Cur_pick.f s0_0 t1104 t1105 9).bind fun bt1117 => (spec_l1Cur_majorized.l0 k t1098 t1114 bt1117.1 s0_0 bt1117.2.1 bt1117.2.2)) = some (r1, r2, r3, r4) := H
   have A10 := zad A100; clear A100; replace H := zay.mp H; obtain ⟨⟨t1117, t1118, t1119⟩, A110, H⟩ := H
   replace H : (spec_l1Cur_majorized.l0 k t1098 t1114 t1117 s0_0 t1118 t1119) = some (r1, r2, r3, r4) := H
   have A11 := zad A110; clear A110; have H' := zad H
   clear H; go_enter Try.func127, Try.ntmps127
   go_wp2_with (first | (go_at_call 109; (with_reducible refine (spec_l1Cur_list.calls k g s0_0 s0_1 s0_2 a1 t1098 t1101 t1102 w0 _ ?side1 ?side2 A3.out).mono ?_); (case side1 => repeat (first | (with_reducible first | exact HI0.out | apply zci | apply zcj | apply zck | apply zcn | apply zco) | exact HI0.out)); (case side2 => repeat (first | (with_reducible first | exact HB.out | apply zag | apply zae | apply zaf | refine zah ?_ (zcm HI0.out)) | exact HB.out)); rintro e w12 ⟨v1099, rfl, ho0, hi, hb, hk⟩; have n0_ := zad (zbw ho0 (keep_size (w := w) (g := g) (row := none) (taac))); have n1_ := zad (zbu (taac) hk (.inl rfl)); have n2_ := zad (hb); have n3_ := zad (hi); clear HK HB HI0; have HO1100 := n0_; have HK := n1_; have HB := n2_; have HI0 := n3_; clear n0_ n1_ n2_ n3_; (try clear hb); (try clear hb2); (try clear hk); (try clear hi); (try clear ho0)) | (go_at_call 89; (with_reducible refine (spec_l1Cur_one.calls g s0_0 t1101 t1102 8 false t1104 t1105 w0 _ ?side1 ?side2 A4.out).mono ?_); (case side1 => repeat (first | (with_reducible first | exact HI0.out | apply zci | apply zcj | apply zck | apply zcn | apply zco) | exact HI0.out)); (case side2 => repeat (first | (with_reducible first | exact HB.out | apply zag | apply zae | apply zaf | refine zah ?_ (zcm HI0.out)) | exact HB.out)); rintro e w13 ⟨rfl, hi, hb, hk⟩; have n0_ := zad (zbs (zbt (zcl (show IsS75 w0 _ g s0_0 t1101 t1102 from by exact tafz) (taar) (by decide)) hk (fun _ h => h.2)) (fun _ h => h.1)); have n1_ := zad (zbu (taac) hk (.inl rfl)); have n2_ := zad (hb); have n3_ := zad (hi); clear HO1100 HK HB HI0; have HO1100 := n0_; have HK := n1_; have HB := n2_; have HI0 := n3_; clear n0_ n1_ n2_ n3_; (try clear hb); (try clear hb2); (try clear hk); (try clear hi); obtain ⟨Ao14, co14, eo14⟩ := zbx HO1100.out; subst eo14) | (go_at_call 111; (with_reducible refine (spec_l1Own.calls _ _ t1098 t1114 _ ?side1 ?side2 A10.out).mono ?_); (case side1 => repeat (first | exact (zbf HO1100.out).2.2 | (with_reducible refine zal ?_ _) | (with_reducible refine zam ?_ _) | (with_reducible refine zan ?_))); (case side2 => exact (zbf HO1100.out).2.1); rintro e w15 ⟨v1115, rfl, ho0, hb⟩; have n0_ := zad (zcd (taar) (zcf ho0) hb); have n1_ := zad (zbw (zce ho0 (zcg (taar))) (keep_size (w := w) (g := g) (row := none) (taac))); have n2_ := zad (IsS75.below (taaf) hb); have n3_ := zad (zbu (taac) (KeepBut.of_below hb g none) (.inl rfl)); have n4_ := zad (zbg (taan) hb); clear HO1100 HI0 HK HB; have HO1100 := n0_; have HO1116 := n1_; have HI0 := n2_; have HK := n3_; have HB := n4_; clear n0_ n1_ n2_ n3_ n4_; (try clear hb); (try clear hb2); (try clear hk); (try clear hi); (try clear ho0)) | (go_at_call 80; (with_reducible refine (zcp g s0_0 t1104 t1105 9 t1117 t1118 t1119 w0 _ ?side1 ?side2 A11.out).mono ?_); (case side1 => repeat (first | (with_reducible first | exact HI0.out | apply zci | apply zcj | apply zck | apply zcn | apply zco) | exact HI0.out)); (case side2 => repeat (first | (with_reducible first | exact HB.out | apply zag | apply zae | apply zaf | refine zah ?_ (zcm HI0.out)) | exact HB.out)); rintro e w16 ⟨rfl, hi, hb, hk⟩; have n0_ := zad (zbs (zbt (zcl (show IsS75 w0 _ g s0_0 t1104 t1105 from by exact tafz) (taar) (by decide)) hk (fun _ h => h.2)) (fun _ h => h.1)); have n1_ := zad (zbs (zbt (zcl (show IsS75 w0 _ g s0_0 t1104 t1105 from by exact tafz) (tadd) (by decide)) hk (fun _ h => h.2)) (fun _ h => h.1)); have n2_ := zad (zbu (taac) hk (.inl rfl)); have n3_ := zad (hb); have n4_ := zad (hi); clear HO1100 HO1116 HK HB HI0; have HO1100 := n0_; have HO1116 := n1_; have HK := n2_; have HB := n3_; have HI0 := n4_; clear n0_ n1_ n2_ n3_ n4_; (try clear hb); (try clear hb2); (try clear hk); (try clear hi)))
   repeat (go_quiet (first | (go_at_call 109; (with_reducible refine (spec_l1Cur_list.calls k g s0_0 s0_1 s0_2 a1 t1098 t1101 t1102 w0 _ ?side1 ?side2 A3.out).mono ?_); (case side1 => repeat (first | (with_reducible first | exact HI0.out | apply zci | apply zcj | apply zck | apply zcn | apply zco) | exact HI0.out)); (case side2 => repeat (first | (with_reducible first | exact HB.out | apply zag | apply zae | apply zaf | refine zah ?_ (zcm HI0.out)) | exact HB.out)); rintro e w12 ⟨v1099, rfl, ho0, hi, hb, hk⟩; have n0_ := zad (zbw ho0 (keep_size (w := w) (g := g) (row := none) (taac))); have n1_ := zad (zbu (taac) hk (.inl rfl)); have n2_ := zad (hb); have n3_ := zad (hi); clear HK HB HI0; have HO1100 := n0_; have HK := n1_; have HB := n2_; have HI0 := n3_; clear n0_ n1_ n2_ n3_; (try clear hb); (try clear hb2); (try clear hk); (try clear hi); (try clear ho0)) | (go_at_call 89; (with_reducible refine (spec_l1Cur_one.calls g s0_0 t1101 t1102 8 false t1104 t1105 w0 _ ?side1 ?side2 A4.out).mono ?_); (case side1 => repeat (first | (with_reducible first | exact HI0.out | apply zci | apply zcj | apply zck | apply zcn | apply zco) | exact HI0.out)); (case side2 => repeat (first | (with_reducible first | exact HB.out | apply zag | apply zae | apply zaf | refine zah ?_ (zcm HI0.out)) | exact HB.out)); rintro e w13 ⟨rfl, hi, hb, hk⟩; have n0_ := zad (zbs (zbt (zcl (show IsS75 w0 _ g s0_0 t1101 t1102 from by exact tafz) (taar) (by decide)) hk (fun _ h => h.2)) (fun _ h => h.1)); have n1_ := zad (zbu (taac) hk (.inl rfl)); have n2_ := zad (hb); have n3_ := zad (hi); clear HO1100 HK HB HI0; have HO1100 := n0_; have HK := n1_; have HB := n2_; have HI0 := n3_; clear n0_ n1_ n2_ n3_; (try clear hb); (try clear hb2); (try clear hk); (try clear hi); obtain ⟨Ao14, co14, eo14⟩ := zbx HO1100.out; subst eo14) | (go_at_call 111; (with_reducible refine (spec_l1Own.calls _ _ t1098 t1114 _ ?side1 ?side2 A10.out).mono ?_); (case side1 => repeat (first | exact (zbf HO1100.out).2.2 | (with_reducible refine zal ?_ _) | (with_reducible refine zam ?_ _) | (with_reducible refine zan ?_))); (case side2 => exact (zbf HO1100.out).2.1); rintro e w15 ⟨v1115, rfl, ho0, hb⟩; have n0_ := zad (zcd (taar) (zcf ho0) hb); have n1_ := zad (zbw (zce ho0 (zcg (taar))) (keep_size (w := w) (g := g) (row := none) (taac))); have n2_ := zad (IsS75.below (taaf) hb); have n3_ := zad (zbu (taac) (KeepBut.of_below hb g none) (.inl rfl)); have n4_ := zad (zbg (taan) hb); clear HO1100 HI0 HK HB; have HO1100 := n0_; have HO1116 := n1_; have HI0 := n2_; have HK := n3_; have HB := n4_; clear n0_ n1_ n2_ n3_ n4_; (try clear hb); (try clear hb2); (try clear hk); (try clear hi); (try clear ho0)) | (go_at_call 80; (with_reducible refine (zcp g s0_0 t1104 t1105 9 t1117 t1118 t1119 w0 _ ?side1 ?side2 A11.out).mono ?_); (case side1 => repeat (first | (with_reducible first | exact HI0.out | apply zci | apply zcj | apply zck | apply zcn | apply zco) | exact HI0.out)); (case side2 => repeat (first | (with_reducible first | exact HB.out | apply zag | apply zae | apply zaf | refine zah ?_ (zcm HI0.out)) | exact HB.out)); rintro e w16 ⟨rfl, hi, hb, hk⟩; have n0_ := zad (zbs (zbt (zcl (show IsS75 w0 _ g s0_0 t1104 t1105 from by exact tafz) (taar) (by decide)) hk (fun _ h => h.2)) (fun _ h => h.1)); have n1_ := zad (zbs (zbt (zcl (show IsS75 w0 _ g s0_0 t1104 t1105 from by exact tafz) (tadd) (by decide)) hk (fun _ h => h.2)) (fun _ h => h.1)); have n2_ := zad (zbu (taac) hk (.inl rfl)); have n3_ := zad (hb); have n4_ := zad (hi); clear HO1100 HO1116 HK HB HI0; have HO1100 := n0_; have HO1116 := n1_; have HK := n2_; have HB := n3_; have HI0 := n4_; clear n0_ n1_ n2_ n3_ n4_; (try clear hb); (try clear hb2); (try clear hk); (try clear hi))); try go_wp2_with (first | (go_at_call 109; (with_reducible refine (spec_l1Cur_list.calls k g s0_0 s0_1 s0_2 a1 t1098 t1101 t1102 w0 _ ?side1 ?side2 A3.out).mono ?_); (case side1 => repeat (first | (with_reducible first | exact HI0.out | apply zci | apply zcj | apply zck | apply zcn | apply zco) | exact HI0.out)); (case side2 => repeat (first | (with_reducible first | exact HB.out | apply zag | apply zae | apply zaf | refine zah ?_ (zcm HI0.out)) | exact HB.out)); rintro e w12 ⟨v1099, rfl, ho0, hi, hb, hk⟩; have n0_ := zad (zbw ho0 (keep_size (w := w) (g := g) (row := none) (taac))); have n1_ := zad (zbu (taac) hk (.inl rfl)); have n2_ := zad (hb); have n3_ := zad (hi); clear HK HB HI0; have HO1100 := n0_; have HK := n1_; have HB := n2_; have HI0 := n3_; clear n0_ n1_ n2_ n3_; (try clear hb); (try clear hb2); (try clear hk); (try clear hi); (try clear ho0)) | (go_at_call 89; (with_reducible refine (spec_l1Cur_one.calls g s0_0 t1101 t1102 8 false t1104 t1105 w0 _ ?side1 ?side2 A4.out).mono ?_); (case side1 => repeat (first | (with_reducible first | exact HI0.out | apply zci | apply zcj | apply zck | apply zcn | apply zco) | exact HI0.out)); (case side2 => repeat (first | (with_reducible first | exact HB.out | apply zag | apply zae | apply zaf | refine zah ?_ (zcm HI0.out)) | exact HB.out)); rintro e w13 ⟨rfl, hi, hb, hk⟩; have n0_ := zad (zbs (zbt (zcl (show IsS75 w0 _ g s0_0 t1101 t1102 from by exact tafz) (taar) (by decide)) hk (fun _ h => h.2)) (fun _ h => h.1)); have n1_ := zad (zbu (taac) hk (.inl rfl)); have n2_ := zad (hb); have n3_ := zad (hi); clear HO1100 HK HB HI0; have HO1100 := n0_; have HK := n1_; have HB := n2_; have HI0 := n3_; clear n0_ n1_ n2_ n3_; (try clear hb); (try clear hb2); (try clear hk); (try clear hi); obtain ⟨Ao14, co14, eo14⟩ := zbx HO1100.out; subst eo14) | (go_at_call 111; (with_reducible refine (spec_l1Own.calls _ _ t1098 t1114 _ ?side1 ?side2 A10.out).mono ?_); (case side1 => repeat (first | exact (zbf HO1100.out).2.2 | (with_reducible refine zal ?_ _) | (with_reducible refine zam ?_ _) | (with_reducible refine zan ?_))); (case side2 => exact (zbf HO1100.out).2.1); rintro e w15 ⟨v1115, rfl, ho0, hb⟩; have n0_ := zad (zcd (taar) (zcf ho0) hb); have n1_ := zad (zbw (zce ho0 (zcg (taar))) (keep_size (w := w) (g := g) (row := none) (taac))); have n2_ := zad (IsS75.below (taaf) hb); have n3_ := zad (zbu (taac) (KeepBut.of_below hb g none) (.inl rfl)); have n4_ := zad (zbg (taan) hb); clear HO1100 HI0 HK HB; have HO1100 := n0_; have HO1116 := n1_; have HI0 := n2_; have HK := n3_; have HB := n4_; clear n0_ n1_ n2_ n3_ n4_; (try clear hb); (try clear hb2); (try clear hk); (try clear hi); (try clear ho0)) | (go_at_call 80; (with_reducible refine (zcp g s0_0 t1104 t1105 9 t1117 t1118 t1119 w0 _ ?side1 ?side2 A11.out).mono ?_); (case side1 => repeat (first | (with_reducible first | exact HI0.out | apply zci | apply zcj | apply zck | apply zcn | apply zco) | exact HI0.out)); (case side2 => repeat (first | (with_reducible first | exact HB.out | apply zag | apply zae | apply zaf | refine zah ?_ (zcm HI0.out)) | exact HB.out)); rintro e w16 ⟨rfl, hi, hb, hk⟩; have n0_ := zad (zbs (zbt (zcl (show IsS75 w0 _ g s0_0 t1104 t1105 from by exact tafz) (taar) (by decide)) hk (fun _ h => h.2)) (fun _ h => h.1)); have n1_ := zad (zbs (zbt (zcl (show IsS75 w0 _ g s0_0 t1104 t1105 from by exact tafz) (tadd) (by decide)) hk (fun _ h => h.2)) (fun _ h => h.1)); have n2_ := zad (zbu (taac) hk (.inl rfl)); have n3_ := zad (hb); have n4_ := zad (hi); clear HO1100 HO1116 HK HB HI0; have HO1100 := n0_; have HO1116 := n1_; have HK := n2_; have HB := n3_; have HI0 := n4_; clear n0_ n1_ n2_ n3_ n4_; (try clear hb); (try clear hb2); (try clear hk); (try clear hi))))
   go_loopg [8] k (fun kq v8 w' => ∃ (x7_1 : List Int) (x8_1 : Int) (x1001_1 : Int) (x1002_1 : Int), v8 = .int .i64 x8_1 ∧ Aside0 (spec_l1Cur_majorized.l0 kq t1098 x7_1 x8_1 s0_0 x1001_1 x1002_1 = some (r1, r2, r3, r4)) ∧ Aside0 (kq ≤ k) ∧ Aside0 (Kd.R (Kd.int .i64) 3 w' w.heap.size (fun k_ => some k_ ≠ (v1115 : Value).ownBlock) (.slice Ao14 t1098.length co14) t1098) ∧ Aside0 (Kd.R (Kd.int .i64) 3 w' w.heap.size (fun k_ => some k_ ≠ ((.slice Ao14 t1098.length co14) : Value).ownBlock) v1115 x7_1) ∧ Aside0 (IsS75 w0 w' g s0_0 x1001_1 x1002_1) ∧ Aside0 (KeepBut w w' g none) ∧ Aside0 (Below w0.heap.size w0 w'))
   case atStart => exact ⟨(t1114), (t1117), (t1118), (t1119), (taag), H', ⟨zch _⟩, ⟨by (with_reducible repeat (first | apply zai | apply zaj | apply zak)); exact zbs HO1100.out (fun _ hk => hk.2)⟩, ⟨by (with_reducible repeat (first | apply zai | apply zaj | apply zak)); exact zbs HO1116.out (fun _ hk => hk.2)⟩, ⟨taaf⟩, ⟨taac⟩, ⟨taan⟩⟩
   case round =>
    clear H'
    try clear c1
    try clear p2
    try clear c5
    try clear c12
    obtain ⟨x7_1, x8_1, x1001_1, x1002_1, rfl, HA, HK1, HO_6, HO_7, HI0, HK, HB⟩ := hrel
    cases gk with
    | zero => exact absurd HA.out (by simp [spec_l1Cur_majorized.l0])
    | succ k1 =>
     have H := HA.out
     clear HA; simp only [spec_l1Cur_majorized.l0] at H
     have HC17 := zad H; clear H; go_upto_region 6 with (fail)
     repeat (go_quiet (fail); go_upto_region 6 with (fail))
     go_cut [31] (fun v31 wc => ∃ (kq : Nat) (x31_16 : Bool), v31 = .bool x31_16 ∧ Aside0 (spec_l1Cur_majorized.j1 kq t1098 x7_1 x8_1 x31_16 s0_0 x1001_1 x1002_1 = some (r1, r2, r3, r4)) ∧ Aside0 (kq ≤ k1) ∧ Aside0 (Kd.R (Kd.int .i64) 3 wc w.heap.size (fun k_ => some k_ ≠ (v1115 : Value).ownBlock) (.slice Ao14 t1098.length co14) t1098) ∧ Aside0 (Kd.R (Kd.int .i64) 3 wc w.heap.size (fun k_ => some k_ ≠ ((.slice Ao14 t1098.length co14) : Value).ownBlock) v1115 x7_1) ∧ Aside0 (IsS75 w0 wc g s0_0 x1001_1 x1002_1) ∧ Aside0 (KeepBut w wc g none) ∧ Aside0 (Below w0.heap.size w0 wc))
     case first =>
      have H := HC17.out
      clear HC17; by_cases c18 : x8_1 > 0
      · rw [if_pos c18] at H
        have c18b0 : decide (0 < x8_1) = true := zba c18
        clear c18; (first | rw [c18b0] | (simp only [zby, zbz]; rw [c18b0]) | skip)
        have H' := zad H
        clear H; obtain ⟨Ao19, co19, eo19⟩ := zbx HO_7.out
        subst eo19; go_wp2
        repeat (go_quiet (fail); try go_wp2)
        go_meet
        case rel => exact ⟨_, (decide ((x7_1.length : Int) > 1)), (taag), H', ⟨taco⟩, ⟨taai⟩, ⟨taah⟩, ⟨taaf⟩, ⟨taac⟩, ⟨taan⟩⟩
      · rw [if_neg c18] at H
        have c18b0 : decide (0 < x8_1) = false := zbj c18
        clear c18; (first | rw [c18b0] | (simp only [zby, zbz]; rw [c18b0]) | skip)
        have H' := zad H
        clear H; go_wp2
        repeat (go_quiet (fail); try go_wp2)
        go_meet
        case rel => exact ⟨_, (false), (taag), H', ⟨taco⟩, ⟨taai⟩, ⟨taah⟩, ⟨taaf⟩, ⟨taac⟩, ⟨taan⟩⟩
     case rest =>
      clear HC17; try clear c1
      try clear p2
      try clear c5
      try clear c12
      try clear c18
      try clear c18b0
      try clear p2
      obtain ⟨kq, x31_16, rfl, HA, HJ16, HO_6, HO_7, HI0, HK, HB⟩ := hcut
      cases kq with
      | zero => exact absurd HA.out (by simp [spec_l1Cur_majorized.j1])
      | succ kj16 =>
       have H := HA.out
       clear HA; simp only [spec_l1Cur_majorized.j1] at H
       by_cases c20 : x31_16 = true
       · subst c20
         have H1 : ((spec_l1Cur_pick.f s0_0 x1001_1 x1002_1 (x7_1.length : Int)).bind fun bt1120 => ((spec_l1Cur_pick.f s0_0 bt1120.2.1 bt1120.2.2 (x7_1.length : Int)).bind fun bt1123 => (if 0 ≤ bt1120.1 then (if bt1120.1 < (x7_1.length : Int) then (if 0 ≤ bt1123.1 then (if bt1123.1 < (x7_1.length : Int) then (if (rd x7_1 bt1120.1) ≥ (wrap64 ((rd x7_1 bt1123.1) + 2)) then ((some (x7_1.set (bt1120.1 : Int).toNat (wrap64 ((rd x7_1 bt1120.1) - 1)) : List Int)).bind fun y1129 => (spec_l1Cur_majorized.l0 kj16 t1098 (y1129.set (bt1123.1 : Int).toNat (wrap64 ((rd y1129 bt1123.1) + 1))) (wrap64 (x8_1 - 1)) s0_0 bt1123.2.1 bt1123.2.2)) else (spec_l1Cur_majorized.l0 kj16 t1098 x7_1 (wrap64 (x8_1 - 1)) s0_0 bt1123.2.1 bt1123.2.2)) else (none)) else (none)) else (none)) else (none)))) = some (r1, r2, r3, r4) := by rw [if_pos rfl] at H; exact H
         clear H; have H := H1; clear H1; replace H := zay.mp H; obtain ⟨⟨t1120, t1121, t1122⟩, A210, H⟩ := H
         replace H : ((spec_l1Cur_pick.f s0_0 t1121 t1122 (x7_1.length : Int)).bind fun bt1123 => (if 0 ≤ t1120 then (if t1120 < (x7_1.length : Int) then (if 0 ≤ bt1123.1 then (if bt1123.1 < (x7_1.length : Int) then (if (rd x7_1 t1120) ≥ (wrap64 ((rd x7_1 bt1123.1) + 2)) then ((some (x7_1.set (t1120 : Int).toNat (wrap64 ((rd x7_1 t1120) - 1)) : List Int)).bind fun y1129 => (spec_l1Cur_majorized.l0 kj16 t1098 (y1129.set (bt1123.1 : Int).toNat (wrap64 ((rd y1129 bt1123.1) + 1))) (wrap64 (x8_1 - 1)) s0_0 bt1123.2.1 bt1123.2.2)) else (spec_l1Cur_majorized.l0 kj16 t1098 x7_1 (wrap64 (x8_1 - 1)) s0_0 bt1123.2.1 bt1123.2.2)) else (none)) else (none)) else (none)) else (none))) = some (r1, r2, r3, r4) := H
         have A21 := zad A210; clear A210; replace H := zay.mp H; obtain ⟨⟨t1123, t1124, t1125⟩, A220, H⟩ := H
         replace H : (if 0 ≤ t1120 then (if t1120 < (x7_1.length : Int) then (if 0 ≤ t1123 then (if t1123 < (x7_1.length : Int) then (if (rd x7_1 t1120) ≥ (wrap64 ((rd x7_1 t1123) + 2)) then ((some (x7_1.set (t1120 : Int).toNat (wrap64 ((rd x7_1 t1120) - 1)) : List Int)).bind fun y1129 => (spec_l1Cur_majorized.l0 kj16 t1098 (y1129.set (t1123 : Int).toNat (wrap64 ((rd y1129 t1123) + 1))) (wrap64 (x8_1 - 1)) s0_0 t1124 t1125)) else (spec_l1Cur_majorized.l0 kj16 t1098 x7_1 (wrap64 (x8_1 - 1)) s0_0 t1124 t1125)) else (none)) else (none)) else (none)) else (none)) = some (r1, r2, r3, r4) := H
         have A22 := zad A220; clear A220; by_cases c23 : 0 ≤ t1120
         · rw [if_pos c23] at H
           have c23b0 : decide (0 ≤ t1120) = true := zba c23
           clear c23; by_cases c24 : t1120 < (x7_1.length : Int)
           · rw [if_pos c24] at H
             have c24b0 : decide (t1120 < (x7_1.length : Int)) = true := zba c24
             clear c24; by_cases c25 : 0 ≤ t1123
             · rw [if_pos c25] at H
               have c25b0 : decide (0 ≤ t1123) = true := zba c25
               clear c25; by_cases c26 : t1123 < (x7_1.length : Int)
               · rw [if_pos c26] at H
                 have c26b0 : decide (t1123 < (x7_1.length : Int)) = true := zba c26
                 clear c26; by_cases c27 : (rd x7_1 t1120) ≥ (wrap64 ((rd x7_1 t1123) + 2))
                 · rw [if_pos c27] at H
                   have c27b0 : decide ((wrap64 ((rd x7_1 t1123) + 2)) ≤ (rd x7_1 t1120)) = true := zba c27
                   clear c27; obtain ⟨y1129, hy1129⟩ : ∃ y_ : List Int, y_ = (x7_1.set (t1120 : Int).toNat (wrap64 ((rd x7_1 t1120) - 1))) := ⟨_, rfl⟩
                   replace H : (spec_l1Cur_majorized.l0 kj16 t1098 (y1129.set (t1123 : Int).toNat (wrap64 ((rd y1129 t1123) + 1))) (wrap64 (x8_1 - 1)) s0_0 t1124 t1125) = some (r1, r2, r3, r4) := by first | (rw [hy1129]; with_reducible exact H) | (have H2_ := (zbd _ _).symm.trans H; rw [hy1129]; with_reducible exact H2_) | (have H2_ := (zbd _ _).symm.trans H; with_reducible exact H2_) | with_reducible exact H | (rw [hy1129]; exact H) | exact H
                   have Ny1129 := zad hy1129; clear hy1129; obtain ⟨y1131, hy1131⟩ : ∃ y_ : List Int, y_ = (y1129.set (t1123 : Int).toNat (wrap64 ((rd y1129 t1123) + 1))) := ⟨_, rfl⟩
                   replace H : (spec_l1Cur_majorized.l0 kj16 t1098 y1131 (wrap64 (x8_1 - 1)) s0_0 t1124 t1125) = some (r1, r2, r3, r4) := by first | (rw [hy1131]; with_reducible exact H) | (have H2_ := (zbd _ _).symm.trans H; rw [hy1131]; with_reducible exact H2_) | (have H2_ := (zbd _ _).symm.trans H; with_reducible exact H2_) | with_reducible exact H | (rw [hy1131]; exact H) | exact H
                   have Ny1131 := zad hy1131; clear hy1131; have H' := zad H
                   clear H; obtain ⟨Ao30, co30, eo30⟩ := zbx HO_7.out
                   subst eo30; go_wp2_with (first | (go_at_call 80; (with_reducible refine (zcp g s0_0 x1001_1 x1002_1 (x7_1.length : Int) t1120 t1121 t1122 w0 _ ?side1 ?side2 A21.out).mono ?_); (case side1 => repeat (first | (with_reducible first | exact HI0.out | apply zci | apply zcj | apply zck | apply zcn | apply zco) | exact HI0.out)); (case side2 => repeat (first | (with_reducible first | exact HB.out | apply zag | apply zae | apply zaf | refine zah ?_ (zcm HI0.out)) | exact HB.out)); rintro e w31 ⟨rfl, hi, hb, hk⟩; have n0_ := zad (zbs (zbt (zcl (show IsS75 w0 _ g s0_0 x1001_1 x1002_1 from by exact tafz) (taai) (by decide)) hk (fun _ h => h.2)) (fun _ h => h.1)); have n1_ := zad (zbs (zbt (zcl (show IsS75 w0 _ g s0_0 x1001_1 x1002_1 from by exact tafz) (taah) (by decide)) hk (fun _ h => h.2)) (fun _ h => h.1)); have n2_ := zad (zbu (taac) hk (.inl rfl)); have n3_ := zad (hb); have n4_ := zad (hi); clear HO_6 HO_7 HK HB HI0; have HO_6 := n0_; have HO_7 := n1_; have HK := n2_; have HB := n3_; have HI0 := n4_; clear n0_ n1_ n2_ n3_ n4_; (try clear hb); (try clear hb2); (try clear hk); (try clear hi)) | (go_at_call 80; (with_reducible refine (zcp g s0_0 t1121 t1122 (x7_1.length : Int) t1123 t1124 t1125 w0 _ ?side1 ?side2 A22.out).mono ?_); (case side1 => repeat (first | (with_reducible first | exact HI0.out | apply zci | apply zcj | apply zck | apply zcn | apply zco) | exact HI0.out)); (case side2 => repeat (first | (with_reducible first | exact HB.out | apply zag | apply zae | apply zaf | refine zah ?_ (zcm HI0.out)) | exact HB.out)); rintro e w32 ⟨rfl, hi, hb, hk⟩; have n0_ := zad (zbs (zbt (zcl (show IsS75 w0 _ g s0_0 t1121 t1122 from by exact tafz) (taai) (by decide)) hk (fun _ h => h.2)) (fun _ h => h.1)); have n1_ := zad (zbs (zbt (zcl (show IsS75 w0 _ g s0_0 t1121 t1122 from by exact tafz) (taah) (by decide)) hk (fun _ h => h.2)) (fun _ h => h.1)); have n2_ := zad (zbu (taac) hk (.inl rfl)); have n3_ := zad (hb); have n4_ := zad (hi); clear HO_6 HO_7 HK HB HI0; have HO_6 := n0_; have HO_7 := n1_; have HK := n2_; have HB := n3_; have HI0 := n4_; clear n0_ n1_ n2_ n3_ n4_; (try clear hb); (try clear hb2); (try clear hk); (try clear hi); have p1126 : 0 ≤ (t1120 : Int) := zas (taaa); have q1126 : t1120 < (x7_1.length : Int) := zas (taaa); obtain ⟨ad1126, e1126, hx1126_0⟩ := zcc (zbf HO_7.out).2.2 t1120 p1126 q1126; cases e1126; replace p1126 := eq_true p1126; replace q1126 := eq_true q1126; have p1127 : 0 ≤ (t1123 : Int) := zas (taaa); have q1127 : t1123 < (x7_1.length : Int) := zas (taaa); obtain ⟨ad1127, e1127, hx1127_0⟩ := zcc (zbf HO_7.out).2.2 t1123 p1127 q1127; obtain rfl : ad1126 = ad1127 := (by injection e1127); replace p1127 := eq_true p1127; replace q1127 := eq_true q1127; have p1128 : 0 ≤ (t1120 : Int) := zas (taaa); have q1128 : t1120 < (x7_1.length : Int) := zas (taaa); obtain ⟨ad1128, e1128, hx1128_0⟩ := zcc (zbf HO_7.out).2.2 t1120 p1128 q1128; obtain rfl : ad1126 = ad1128 := (by injection e1128); replace p1128 := eq_true p1128; replace q1128 := eq_true q1128; have p28 : 0 ≤ (t1120 : Int) := zas (taaa); have q28 : (t1120 : Int) < ((x7_1.length : Int) : Int) := zas (taaa); obtain ⟨go28, co28, eo28, gb28, gl28, cl28, HG28⟩ := Kd.R_form HO_7.out (by omega); (first | cases eo28 | (injection eo28 with ea_ en_ ec_; (first | subst ea_ | (injection ea_ with ea_; subst ea_)); subst ec_; clear en_)); have GB28 := zad gb28; have GG28 := zad HG28; clear gb28 gl28 HG28; (first | simp only [add_plain] at hx1126_0 | skip); (first | simp only [add_plain] at hx1127_0 | skip); (first | simp only [add_plain] at hx1128_0 | skip); obtain ⟨hx28_0, hf28_0⟩ := Kd.R_celln 0 HO_7.out (t1120 : Int) p28 q28; replace p28 := eq_true p28; replace q28 := eq_true q28; obtain ⟨hy33_, hz33_⟩ := Kd.R_celln 0 HO_7.out (t1120 : Int) (zas (taaa)) (zas (taaa)); have HP33 := Kd.R_putg HO_7.out (t1120 : Int) (wrap64 ((rd x7_1 t1120) - 1))) | ((with_reducible refine gate_store (t := 3) (p := 57) rfl ?_); (try (rw [drewN_self w32]; generalize hq_ : World.drewN w32 _ = w32; have n0_ := zad (Kd.R_at hq_ HO_6.out); have n1_ := zad (Kd.R_at hq_ HO_7.out); have n2_ := zad (IsS75.at_ hq_ HI0.out); have n3_ := zad (keep_at hq_ HK.out); have n4_ := zad (below_at hq_ HB.out); clear hq_ HO_6 HO_7 HI0 HK HB; have HO_6 := n0_; have HO_7 := n1_; have HI0 := n2_; have HK := n3_; have HB := n4_; clear n0_ n1_ n2_ n3_ n4_; (try (obtain ⟨hy33_, hz33_⟩ := Kd.R_celln 0 HO_7.out (t1120 : Int) (zas (taaa)) (zas (taaa)))); (try (have HP33 := Kd.R_putg HO_7.out (t1120 : Int) (wrap64 ((rd x7_1 t1120) - 1)))))); refine store_event (t := 3) (p := 57) (v := ?vo_w34) (w1 := (w32.setCell ⟨go28, (t1120 : Int).toNat, none⟩ (.int .i64 (wrap64 ((rd x7_1 t1120) - 1))))) ?hg ?ho ?hn ?hr ?_; (case ho => rfl); (case hg => rfl); (case hn => rfl); (case hr => first | (go_simp; done) | (go_simp; rfl)); intro w34 hw; have hg : w32.grownBy w34 (some go28) := (by rw [hw]; exact HP33.2); have hp_ : Kd.R (Kd.int .i64) 3 w34 w.heap.size (fun k_ => some k_ ≠ (.slice Ao14 t1098.length co14 : Value).ownBlock) (.slice (some ⟨go28, 0, none⟩) x7_1.length co30) y1129 := (tade); clear HP33; have n0_ := zad (Kd.R_after (v := (.slice (some ⟨go28, 0, none⟩) x7_1.length co30)) (v1 := (.slice (some ⟨go28, 0, none⟩) x7_1.length co30)) (ok := (fun _ => True)) (tacc) hg (.inl rfl)); have n1_ := zad (hp_); have n2_ := zad (IsS75.grown (taaf) hg (IsS75.own_ne HI0.out HO_7.out (by decide))); have n3_ := zad ((by rw [hw]; exact zah (HB.out) (Nat.le_trans HL.out GB28.out) : Below w0.heap.size w0 w34)); have n4_ := zad (zbu (taac) (KeepBut.of_grown hg g) (Kd.R_base2 HO_7.out)); clear HO_6 HO_7 HI0 HB HK; have HO_6 := n0_; have HO_7 := n1_; have HI0 := n2_; have HB := n3_; have HK := n4_; clear n0_ n1_ n2_ n3_ n4_ hg hw hp_; have p1130 : 0 ≤ (t1123 : Int) := zas (taaa); have q1130 : t1123 < (y1129.length : Int) := (by have h_ : (t1123 : Int) < ((x7_1.length : Int) : Int) := zas (taaa); first | (have e_ := (zbf HO_7.out).1; omega) | simpa only [Ny1129.out, List.length_set] using h_); have ql1130 : ((t1123 : Int) < ((x7_1.length : Int) : Int)) = True := eq_true (zas (taaa)); obtain ⟨ad1130, e1130, hx1130_0⟩ := zcc (zbf HO_7.out).2.2 t1123 p1130 q1130; obtain rfl : (⟨go28, 0, none⟩ : Addr) = ad1130 := (by injection e1130); (first | simp only [add_plain] at hx1130_0 | simp only [add_at] at hx1130_0 | simp only [Addr.add, Nat.zero_add] at hx1130_0 | skip); replace p1130 := eq_true p1130; replace q1130 := eq_true q1130; have p29 : 0 ≤ (t1123 : Int) := zas (taaa); have q29 : (t1123 : Int) < ((x7_1.length : Int) : Int) := zas (taaa); obtain ⟨hx29_0, hf29_0⟩ := Kd.R_celln 0 HO_7.out (t1123 : Int) p29 q29; replace p29 := eq_true p29; replace q29 := eq_true q29; obtain ⟨hy35_, hz35_⟩ := Kd.R_celln 0 HO_7.out (t1123 : Int) (zas (taaa)) (zas (taaa)); have HP35 := Kd.R_putg HO_7.out (t1123 : Int) (wrap64 ((rd y1129 t1123) + 1))) | ((with_reducible refine gate_store (t := 3) (p := 63) rfl ?_); (try (rw [drewN_self w34]; generalize hq_ : World.drewN w34 _ = w34; have n0_ := zad (Kd.R_at hq_ HO_6.out); have n1_ := zad (Kd.R_at hq_ HO_7.out); have n2_ := zad (IsS75.at_ hq_ HI0.out); have n3_ := zad (keep_at hq_ HK.out); have n4_ := zad (below_at hq_ HB.out); clear hq_ HO_6 HO_7 HI0 HK HB; have HO_6 := n0_; have HO_7 := n1_; have HI0 := n2_; have HK := n3_; have HB := n4_; clear n0_ n1_ n2_ n3_ n4_; (try (obtain ⟨hy35_, hz35_⟩ := Kd.R_celln 0 HO_7.out (t1123 : Int) (zas (taaa)) (zas (taaa)))); (try (have HP35 := Kd.R_putg HO_7.out (t1123 : Int) (wrap64 ((rd y1129 t1123) + 1)))))); refine store_event (t := 3) (p := 63) (v := ?vo_w36) (w1 := (w34.setCell ⟨go28, (t1123 : Int).toNat, none⟩ (.int .i64 (wrap64 ((rd y1129 t1123) + 1))))) ?hg ?ho ?hn ?hr ?_; (case ho => rfl); (case hg => rfl); (case hn => rfl); (case hr => first | (go_simp; done) | (go_simp; rfl)); intro w36 hw; have hg : w34.grownBy w36 (some go28) := (tacp); have hp_ : Kd.R (Kd.int .i64) 3 w36 w.heap.size (fun k_ => some k_ ≠ (.slice Ao14 t1098.length co14 : Value).ownBlock) (.slice (some ⟨go28, 0, none⟩) x7_1.length co30) y1131 := (tadf); clear HP35; have n0_ := zad (Kd.R_after (v := (.slice (some ⟨go28, 0, none⟩) x7_1.length co30)) (v1 := (.slice (some ⟨go28, 0, none⟩) x7_1.length co30)) (ok := (fun _ => True)) (taai) hg (.inl rfl)); have n1_ := zad (hp_); have n2_ := zad (IsS75.grown (taaf) hg (IsS75.own_ne HI0.out HO_7.out (by decide))); have n3_ := zad ((by rw [hw]; exact zah (HB.out) (Nat.le_trans HL.out GB28.out) : Below w0.heap.size w0 w36)); have n4_ := zad (zbu (taac) (KeepBut.of_grown hg g) (Kd.R_base2 HO_7.out)); clear HO_6 HO_7 HI0 HB HK; have HO_6 := n0_; have HO_7 := n1_; have HI0 := n2_; have HB := n3_; have HK := n4_; clear n0_ n1_ n2_ n3_ n4_ hg hw hp_))
                   repeat (go_quiet (first | (go_at_call 80; (with_reducible refine (zcp g s0_0 x1001_1 x1002_1 (x7_1.length : Int) t1120 t1121 t1122 w0 _ ?side1 ?side2 A21.out).mono ?_); (case side1 => repeat (first | (with_reducible first | exact HI0.out | apply zci | apply zcj | apply zck | apply zcn | apply zco) | exact HI0.out)); (case side2 => repeat (first | (with_reducible first | exact HB.out | apply zag | apply zae | apply zaf | refine zah ?_ (zcm HI0.out)) | exact HB.out)); rintro e w31 ⟨rfl, hi, hb, hk⟩; have n0_ := zad (zbs (zbt (zcl (show IsS75 w0 _ g s0_0 x1001_1 x1002_1 from by exact tafz) (taai) (by decide)) hk (fun _ h => h.2)) (fun _ h => h.1)); have n1_ := zad (zbs (zbt (zcl (show IsS75 w0 _ g s0_0 x1001_1 x1002_1 from by exact tafz) (taah) (by decide)) hk (fun _ h => h.2)) (fun _ h => h.1)); have n2_ := zad (zbu (taac) hk (.inl rfl)); have n3_ := zad (hb); have n4_ := zad (hi); clear HO_6 HO_7 HK HB HI0; have HO_6 := n0_; have HO_7 := n1_; have HK := n2_; have HB := n3_; have HI0 := n4_; clear n0_ n1_ n2_ n3_ n4_; (try clear hb); (try clear hb2); (try clear hk); (try clear hi)) | (go_at_call 80; (with_reducible refine (zcp g s0_0 t1121 t1122 (x7_1.length : Int) t1123 t1124 t1125 w0 _ ?side1 ?side2 A22.out).mono ?_); (case side1 => repeat (first | (with_reducible first | exact HI0.out | apply zci | apply zcj | apply zck | apply zcn | apply zco) | exact HI0.out)); (case side2 => repeat (first | (with_reducible first | exact HB.out | apply zag | apply zae | apply zaf | refine zah ?_ (zcm HI0.out)) | exact HB.out)); rintro e w32 ⟨rfl, hi, hb, hk⟩; have n0_ := zad (zbs (zbt (zcl (show IsS75 w0 _ g s0_0 t1121 t1122 from by exact tafz) (taai) (by decide)) hk (fun _ h => h.2)) (fun _ h => h.1)); have n1_ := zad (zbs (zbt (zcl (show IsS75 w0 _ g s0_0 t1121 t1122 from by exact tafz) (taah) (by decide)) hk (fun _ h => h.2)) (fun _ h => h.1)); have n2_ := zad (zbu (taac) hk (.inl rfl)); have n3_ := zad (hb); have n4_ := zad (hi); clear HO_6 HO_7 HK HB HI0; have HO_6 := n0_; have HO_7 := n1_; have HK := n2_; have HB := n3_; have HI0 := n4_; clear n0_ n1_ n2_ n3_ n4_; (try clear hb); (try clear hb2); (try clear hk); (try clear hi); have p1126 : 0 ≤ (t1120 : Int) := zas (taaa); have q1126 : t1120 < (x7_1.length : Int) := zas (taaa); obtain ⟨ad1126, e1126, hx1126_0⟩ := zcc (zbf HO_7.out).2.2 t1120 p1126 q1126; cases e1126; replace p1126 := eq_true p1126; replace q1126 := eq_true q1126; have p1127 : 0 ≤ (t1123 : Int) := zas (taaa); have q1127 : t1123 < (x7_1.length : Int) := zas (taaa); obtain ⟨ad1127, e1127, hx1127_0⟩ := zcc (zbf HO_7.out).2.2 t1123 p1127 q1127; obtain rfl : ad1126 = ad1127 := (by injection e1127); replace p1127 := eq_true p1127; replace q1127 := eq_true q1127; have p1128 : 0 ≤ (t1120 : Int) := zas (taaa); have q1128 : t1120 < (x7_1.length : Int) := zas (taaa); obtain ⟨ad1128, e1128, hx1128_0⟩ := zcc (zbf HO_7.out).2.2 t1120 p1128 q1128; obtain rfl : ad1126 = ad1128 := (by injection e1128); replace p1128 := eq_true p1128; replace q1128 := eq_true q1128; have p28 : 0 ≤ (t1120 : Int) := zas (taaa); have q28 : (t1120 : Int) < ((x7_1.length : Int) : Int) := zas (taaa); obtain ⟨go28, co28, eo28, gb28, gl28, cl28, HG28⟩ := Kd.R_form HO_7.out (by omega); (first | cases eo28 | (injection eo28 with ea_ en_ ec_; (first | subst ea_ | (injection ea_ with ea_; subst ea_)); subst ec_; clear en_)); have GB28 := zad gb28; have GG28 := zad HG28; clear gb28 gl28 HG28; (first | simp only [add_plain] at hx1126_0 | skip); (first | simp only [add_plain] at hx1127_0 | skip); (first | simp only [add_plain] at hx1128_0 | skip); obtain ⟨hx28_0, hf28_0⟩ := Kd.R_celln 0 HO_7.out (t1120 : Int) p28 q28; replace p28 := eq_true p28; replace q28 := eq_true q28; obtain ⟨hy33_, hz33_⟩ := Kd.R_celln 0 HO_7.out (t1120 : Int) (zas (taaa)) (zas (taaa)); have HP33 := Kd.R_putg HO_7.out (t1120 : Int) (wrap64 ((rd x7_1 t1120) - 1))) | ((with_reducible refine gate_store (t := 3) (p := 57) rfl ?_); (try (rw [drewN_self w32]; generalize hq_ : World.drewN w32 _ = w32; have n0_ := zad (Kd.R_at hq_ HO_6.out); have n1_ := zad (Kd.R_at hq_ HO_7.out); have n2_ := zad (IsS75.at_ hq_ HI0.out); have n3_ := zad (keep_at hq_ HK.out); have n4_ := zad (below_at hq_ HB.out); clear hq_ HO_6 HO_7 HI0 HK HB; have HO_6 := n0_; have HO_7 := n1_; have HI0 := n2_; have HK := n3_; have HB := n4_; clear n0_ n1_ n2_ n3_ n4_; (try (obtain ⟨hy33_, hz33_⟩ := Kd.R_celln 0 HO_7.out (t1120 : Int) (zas (taaa)) (zas (taaa)))); (try (have HP33 := Kd.R_putg HO_7.out (t1120 : Int) (wrap64 ((rd x7_1 t1120) - 1)))))); refine store_event (t := 3) (p := 57) (v := ?vo_w34) (w1 := (w32.setCell ⟨go28, (t1120 : Int).toNat, none⟩ (.int .i64 (wrap64 ((rd x7_1 t1120) - 1))))) ?hg ?ho ?hn ?hr ?_; (case ho => rfl); (case hg => rfl); (case hn => rfl); (case hr => first | (go_simp; done) | (go_simp; rfl)); intro w34 hw; have hg : w32.grownBy w34 (some go28) := (by rw [hw]; exact HP33.2); have hp_ : Kd.R (Kd.int .i64) 3 w34 w.heap.size (fun k_ => some k_ ≠ (.slice Ao14 t1098.length co14 : Value).ownBlock) (.slice (some ⟨go28, 0, none⟩) x7_1.length co30) y1129 := (tade); clear HP33; have n0_ := zad (Kd.R_after (v := (.slice (some ⟨go28, 0, none⟩) x7_1.length co30)) (v1 := (.slice (some ⟨go28, 0, none⟩) x7_1.length co30)) (ok := (fun _ => True)) (tacc) hg (.inl rfl)); have n1_ := zad (hp_); have n2_ := zad (IsS75.grown (taaf) hg (IsS75.own_ne HI0.out HO_7.out (by decide))); have n3_ := zad ((by rw [hw]; exact zah (HB.out) (Nat.le_trans HL.out GB28.out) : Below w0.heap.size w0 w34)); have n4_ := zad (zbu (taac) (KeepBut.of_grown hg g) (Kd.R_base2 HO_7.out)); clear HO_6 HO_7 HI0 HB HK; have HO_6 := n0_; have HO_7 := n1_; have HI0 := n2_; have HB := n3_; have HK := n4_; clear n0_ n1_ n2_ n3_ n4_ hg hw hp_; have p1130 : 0 ≤ (t1123 : Int) := zas (taaa); have q1130 : t1123 < (y1129.length : Int) := (by have h_ : (t1123 : Int) < ((x7_1.length : Int) : Int) := zas (taaa); first | (have e_ := (zbf HO_7.out).1; omega) | simpa only [Ny1129.out, List.length_set] using h_); have ql1130 : ((t1123 : Int) < ((x7_1.length : Int) : Int)) = True := eq_true (zas (taaa)); obtain ⟨ad1130, e1130, hx1130_0⟩ := zcc (zbf HO_7.out).2.2 t1123 p1130 q1130; obtain rfl : (⟨go28, 0, none⟩ : Addr) = ad1130 := (by injection e1130); (first | simp only [add_plain] at hx1130_0 | simp only [add_at] at hx1130_0 | simp only [Addr.add, Nat.zero_add] at hx1130_0 | skip); replace p1130 := eq_true p1130; replace q1130 := eq_true q1130; have p29 : 0 ≤ (t1123 : Int) := zas (taaa); have q29 : (t1123 : Int) < ((x7_1.length : Int) : Int) := zas (taaa); obtain ⟨hx29_0, hf29_0⟩ := Kd.R_celln 0 HO_7.out (t1123 : Int) p29 q29; replace p29 := eq_true p29; replace q29 := eq_true q29; obtain ⟨hy35_, hz35_⟩ := Kd.R_celln 0 HO_7.out (t1123 : Int) (zas (taaa)) (zas (taaa)); have HP35 := Kd.R_putg HO_7.out (t1123 : Int) (wrap64 ((rd y1129 t1123) + 1))) | ((with_reducible refine gate_store (t := 3) (p := 63) rfl ?_); (try (rw [drewN_self w34]; generalize hq_ : World.drewN w34 _ = w34; have n0_ := zad (Kd.R_at hq_ HO_6.out); have n1_ := zad (Kd.R_at hq_ HO_7.out); have n2_ := zad (IsS75.at_ hq_ HI0.out); have n3_ := zad (keep_at hq_ HK.out); have n4_ := zad (below_at hq_ HB.out); clear hq_ HO_6 HO_7 HI0 HK HB; have HO_6 := n0_; have HO_7 := n1_; have HI0 := n2_; have HK := n3_; have HB := n4_; clear n0_ n1_ n2_ n3_ n4_; (try (obtain ⟨hy35_, hz35_⟩ := Kd.R_celln 0 HO_7.out (t1123 : Int) (zas (taaa)) (zas (taaa)))); (try (have HP35 := Kd.R_putg HO_7.out (t1123 : Int) (wrap64 ((rd y1129 t1123) + 1)))))); refine store_event (t := 3) (p := 63) (v := ?vo_w36) (w1 := (w34.setCell ⟨go28, (t1123 : Int).toNat, none⟩ (.int .i64 (wrap64 ((rd y1129 t1123) + 1))))) ?hg ?ho ?hn ?hr ?_; (case ho => rfl); (case hg => rfl); (case hn => rfl); (case hr => first | (go_simp; done) | (go_simp; rfl)); intro w36 hw; have hg : w34.grownBy w36 (some go28) := (tacp); have hp_ : Kd.R (Kd.int .i64) 3 w36 w.heap.size (fun k_ => some k_ ≠ (.slice Ao14 t1098.length co14 : Value).ownBlock) (.slice (some ⟨go28, 0, none⟩) x7_1.length co30) y1131 := (tadf); clear HP35; have n0_ := zad (Kd.R_after (v := (.slice (some ⟨go28, 0, none⟩) x7_1.length co30)) (v1 := (.slice (some ⟨go28, 0, none⟩) x7_1.length co30)) (ok := (fun _ => True)) (taai) hg (.inl rfl)); have n1_ := zad (hp_); have n2_ := zad (IsS75.grown (taaf) hg (IsS75.own_ne HI0.out HO_7.out (by decide))); have n3_ := zad ((by rw [hw]; exact zah (HB.out) (Nat.le_trans HL.out GB28.out) : Below w0.heap.size w0 w36)); have n4_ := zad (zbu (taac) (KeepBut.of_grown hg g) (Kd.R_base2 HO_7.out)); clear HO_6 HO_7 HI0 HB HK; have HO_6 := n0_; have HO_7 := n1_; have HI0 := n2_; have HB := n3_; have HK := n4_; clear n0_ n1_ n2_ n3_ n4_ hg hw hp_)); try go_wp2_with (first | (go_at_call 80; (with_reducible refine (zcp g s0_0 x1001_1 x1002_1 (x7_1.length : Int) t1120 t1121 t1122 w0 _ ?side1 ?side2 A21.out).mono ?_); (case side1 => repeat (first | (with_reducible first | exact HI0.out | apply zci | apply zcj | apply zck | apply zcn | apply zco) | exact HI0.out)); (case side2 => repeat (first | (with_reducible first | exact HB.out | apply zag | apply zae | apply zaf | refine zah ?_ (zcm HI0.out)) | exact HB.out)); rintro e w31 ⟨rfl, hi, hb, hk⟩; have n0_ := zad (zbs (zbt (zcl (show IsS75 w0 _ g s0_0 x1001_1 x1002_1 from by exact tafz) (taai) (by decide)) hk (fun _ h => h.2)) (fun _ h => h.1)); have n1_ := zad (zbs (zbt (zcl (show IsS75 w0 _ g s0_0 x1001_1 x1002_1 from by exact tafz) (taah) (by decide)) hk (fun _ h => h.2)) (fun _ h => h.1)); have n2_ := zad (zbu (taac) hk (.inl rfl)); have n3_ := zad (hb); have n4_ := zad (hi); clear HO_6 HO_7 HK HB HI0; have HO_6 := n0_; have HO_7 := n1_; have HK := n2_; have HB := n3_; have HI0 := n4_; clear n0_ n1_ n2_ n3_ n4_; (try clear hb); (try clear hb2); (try clear hk); (try clear hi)) | (go_at_call 80; (with_reducible refine (zcp g s0_0 t1121 t1122 (x7_1.length : Int) t1123 t1124 t1125 w0 _ ?side1 ?side2 A22.out).mono ?_); (case side1 => repeat (first | (with_reducible first | exact HI0.out | apply zci | apply zcj | apply zck | apply zcn | apply zco) | exact HI0.out)); (case side2 => repeat (first | (with_reducible first | exact HB.out | apply zag | apply zae | apply zaf | refine zah ?_ (zcm HI0.out)) | exact HB.out)); rintro e w32 ⟨rfl, hi, hb, hk⟩; have n0_ := zad (zbs (zbt (zcl (show IsS75 w0 _ g s0_0 t1121 t1122 from by exact tafz) (taai) (by decide)) hk (fun _ h => h.2)) (fun _ h => h.1)); have n1_ := zad (zbs (zbt (zcl (show IsS75 w0 _ g s0_0 t1121 t1122 from by exact tafz) (taah) (by decide)) hk (fun _ h => h.2)) (fun _ h => h.1)); have n2_ := zad (zbu (taac) hk (.inl rfl)); have n3_ := zad (hb); have n4_ := zad (hi); clear HO_6 HO_7 HK HB HI0; have HO_6 := n0_; have HO_7 := n1_; have HK := n2_; have HB := n3_; have HI0 := n4_; clear n0_ n1_ n2_ n3_ n4_; (try clear hb); (try clear hb2); (try clear hk); (try clear hi); have p1126 : 0 ≤ (t1120 : Int) := zas (taaa); have q1126 : t1120 < (x7_1.length : Int) := zas (taaa); obtain ⟨ad1126, e1126, hx1126_0⟩ := zcc (zbf HO_7.out).2.2 t1120 p1126 q1126; cases e1126; replace p1126 := eq_true p1126; replace q1126 := eq_true q1126; have p1127 : 0 ≤ (t1123 : Int) := zas (taaa); have q1127 : t1123 < (x7_1.length : Int) := zas (taaa); obtain ⟨ad1127, e1127, hx1127_0⟩ := zcc (zbf HO_7.out).2.2 t1123 p1127 q1127; obtain rfl : ad1126 = ad1127 := (by injection e1127); replace p1127 := eq_true p1127; replace q1127 := eq_true q1127; have p1128 : 0 ≤ (t1120 : Int) := zas (taaa); have q1128 : t1120 < (x7_1.length : Int) := zas (taaa); obtain ⟨ad1128, e1128, hx1128_0⟩ := zcc (zbf HO_7.out).2.2 t1120 p1128 q1128; obtain rfl : ad1126 = ad1128 := (by injection e1128); replace p1128 := eq_true p1128; replace q1128 := eq_true q1128; have p28 : 0 ≤ (t1120 : Int) := zas (taaa); have q28 : (t1120 : Int) < ((x7_1.length : Int) : Int) := zas (taaa); obtain ⟨go28, co28, eo28, gb28, gl28, cl28, HG28⟩ := Kd.R_form HO_7.out (by omega); (first | cases eo28 | (injection eo28 with ea_ en_ ec_; (first | subst ea_ | (injection ea_ with ea_; subst ea_)); subst ec_; clear en_)); have GB28 := zad gb28; have GG28 := zad HG28; clear gb28 gl28 HG28; (first | simp only [add_plain] at hx1126_0 | skip); (first | simp only [add_plain] at hx1127_0 | skip); (first | simp only [add_plain] at hx1128_0 | skip); obtain ⟨hx28_0, hf28_0⟩ := Kd.R_celln 0 HO_7.out (t1120 : Int) p28 q28; replace p28 := eq_true p28; replace q28 := eq_true q28; obtain ⟨hy33_, hz33_⟩ := Kd.R_celln 0 HO_7.out (t1120 : Int) (zas (taaa)) (zas (taaa)); have HP33 := Kd.R_putg HO_7.out (t1120 : Int) (wrap64 ((rd x7_1 t1120) - 1))) | ((with_reducible refine gate_store (t := 3) (p := 57) rfl ?_); (try (rw [drewN_self w32]; generalize hq_ : World.drewN w32 _ = w32; have n0_ := zad (Kd.R_at hq_ HO_6.out); have n1_ := zad (Kd.R_at hq_ HO_7.out); have n2_ := zad (IsS75.at_ hq_ HI0.out); have n3_ := zad (keep_at hq_ HK.out); have n4_ := zad (below_at hq_ HB.out); clear hq_ HO_6 HO_7 HI0 HK HB; have HO_6 := n0_; have HO_7 := n1_; have HI0 := n2_; have HK := n3_; have HB := n4_; clear n0_ n1_ n2_ n3_ n4_; (try (obtain ⟨hy33_, hz33_⟩ := Kd.R_celln 0 HO_7.out (t1120 : Int) (zas (taaa)) (zas (taaa)))); (try (have HP33 := Kd.R_putg HO_7.out (t1120 : Int) (wrap64 ((rd x7_1 t1120) - 1)))))); refine store_event (t := 3) (p := 57) (v := ?vo_w34) (w1 := (w32.setCell ⟨go28, (t1120 : Int).toNat, none⟩ (.int .i64 (wrap64 ((rd x7_1 t1120) - 1))))) ?hg ?ho ?hn ?hr ?_; (case ho => rfl); (case hg => rfl); (case hn => rfl); (case hr => first | (go_simp; done) | (go_simp; rfl)); intro w34 hw; have hg : w32.grownBy w34 (some go28) := (by rw [hw]; exact HP33.2); have hp_ : Kd.R (Kd.int .i64) 3 w34 w.heap.size (fun k_ => some k_ ≠ (.slice Ao14 t1098.length co14 : Value).ownBlock) (.slice (some ⟨go28, 0, none⟩) x7_1.length co30) y1129 := (tade); clear HP33; have n0_ := zad (Kd.R_after (v := (.slice (some ⟨go28, 0, none⟩) x7_1.length co30)) (v1 := (.slice (some ⟨go28, 0, none⟩) x7_1.length co30)) (ok := (fun _ => True)) (tacc) hg (.inl rfl)); have n1_ := zad (hp_); have n2_ := zad (IsS75.grown (taaf) hg (IsS75.own_ne HI0.out HO_7.out (by decide))); have n3_ := zad ((by rw [hw]; exact zah (HB.out) (Nat.le_trans HL.out GB28.out) : Below w0.heap.size w0 w34)); have n4_ := zad (zbu (taac) (KeepBut.of_grown hg g) (Kd.R_base2 HO_7.out)); clear HO_6 HO_7 HI0 HB HK; have HO_6 := n0_; have HO_7 := n1_; have HI0 := n2_; have HB := n3_; have HK := n4_; clear n0_ n1_ n2_ n3_ n4_ hg hw hp_; have p1130 : 0 ≤ (t1123 : Int) := zas (taaa); have q1130 : t1123 < (y1129.length : Int) := (by have h_ : (t1123 : Int) < ((x7_1.length : Int) : Int) := zas (taaa); first | (have e_ := (zbf HO_7.out).1; omega) | simpa only [Ny1129.out, List.length_set] using h_); have ql1130 : ((t1123 : Int) < ((x7_1.length : Int) : Int)) = True := eq_true (zas (taaa)); obtain ⟨ad1130, e1130, hx1130_0⟩ := zcc (zbf HO_7.out).2.2 t1123 p1130 q1130; obtain rfl : (⟨go28, 0, none⟩ : Addr) = ad1130 := (by injection e1130); (first | simp only [add_plain] at hx1130_0 | simp only [add_at] at hx1130_0 | simp only [Addr.add, Nat.zero_add] at hx1130_0 | skip); replace p1130 := eq_true p1130; replace q1130 := eq_true q1130; have p29 : 0 ≤ (t1123 : Int) := zas (taaa); have q29 : (t1123 : Int) < ((x7_1.length : Int) : Int) := zas (taaa); obtain ⟨hx29_0, hf29_0⟩ := Kd.R_celln 0 HO_7.out (t1123 : Int) p29 q29; replace p29 := eq_true p29; replace q29 := eq_true q29; obtain ⟨hy35_, hz35_⟩ := Kd.R_celln 0 HO_7.out (t1123 : Int) (zas (taaa)) (zas (taaa)); have HP35 := Kd.R_putg HO_7.out (t1123 : Int) (wrap64 ((rd y1129 t1123) + 1))) | ((with_reducible refine gate_store (t := 3) (p := 63) rfl ?_); (try (rw [drewN_self w34]; generalize hq_ : World.drewN w34 _ = w34; have n0_ := zad (Kd.R_at hq_ HO_6.out); have n1_ := zad (Kd.R_at hq_ HO_7.out); have n2_ := zad (IsS75.at_ hq_ HI0.out); have n3_ := zad (keep_at hq_ HK.out); have n4_ := zad (below_at hq_ HB.out); clear hq_ HO_6 HO_7 HI0 HK HB; have HO_6 := n0_; have HO_7 := n1_; have HI0 := n2_; have HK := n3_; have HB := n4_; clear n0_ n1_ n2_ n3_ n4_; (try (obtain ⟨hy35_, hz35_⟩ := Kd.R_celln 0 HO_7.out (t1123 : Int) (zas (taaa)) (zas (taaa)))); (try (have HP35 := Kd.R_putg HO_7.out (t1123 : Int) (wrap64 ((rd y1129 t1123) + 1)))))); refine store_event (t := 3) (p := 63) (v := ?vo_w36) (w1 := (w34.setCell ⟨go28, (t1123 : Int).toNat, none⟩ (.int .i64 (wrap64 ((rd y1129 t1123) + 1))))) ?hg ?ho ?hn ?hr ?_; (case ho => rfl); (case hg => rfl); (case hn => rfl); (case hr => first | (go_simp; done) | (go_simp; rfl)); intro w36 hw; have hg : w34.grownBy w36 (some go28) := (tacp); have hp_ : Kd.R (Kd.int .i64) 3 w36 w.heap.size (fun k_ => some k_ ≠ (.slice Ao14 t1098.length co14 : Value).ownBlock) (.slice (some ⟨go28, 0, none⟩) x7_1.length co30) y1131 := (tadf); clear HP35; have n0_ := zad (Kd.R_after (v := (.slice (some ⟨go28, 0, none⟩) x7_1.length co30)) (v1 := (.slice (some ⟨go28, 0, none⟩) x7_1.length co30)) (ok := (fun _ => True)) (taai) hg (.inl rfl)); have n1_ := zad (hp_); have n2_ := zad (IsS75.grown (taaf) hg (IsS75.own_ne HI0.out HO_7.out (by decide))); have n3_ := zad ((by rw [hw]; exact zah (HB.out) (Nat.le_trans HL.out GB28.out) : Below w0.heap.size w0 w36)); have n4_ := zad (zbu (taac) (KeepBut.of_grown hg g) (Kd.R_base2 HO_7.out)); clear HO_6 HO_7 HI0 HB HK; have HO_6 := n0_; have HO_7 := n1_; have HI0 := n2_; have HB := n3_; have HK := n4_; clear n0_ n1_ n2_ n3_ n4_ hg hw hp_)))
                   go_roundg kj16
                   case measure => have := HK1.out; have := HJ16.out; omega
                   case rel => exact ⟨(y1131), (wrap64 (x8_1 - 1)), (t1124), (t1125), (taag), H', ⟨tabo⟩, ⟨tadc⟩, ⟨taah⟩, ⟨taaf⟩, ⟨taac⟩, ⟨taan⟩⟩
                 · rw [if_neg c27] at H
                   have c27b0 : decide ((wrap64 ((rd x7_1 t1123) + 2)) ≤ (rd x7_1 t1120)) = false := zbj c27
                   clear c27; have H' := zad H
                   clear H; obtain ⟨Ao37, co37, eo37⟩ := zbx HO_7.out
                   subst eo37; go_wp2_with (first | (go_at_call 80; (with_reducible refine (zcp g s0_0 x1001_1 x1002_1 (x7_1.length : Int) t1120 t1121 t1122 w0 _ ?side1 ?side2 A21.out).mono ?_); (case side1 => repeat (first | (with_reducible first | exact HI0.out | apply zci | apply zcj | apply zck | apply zcn | apply zco) | exact HI0.out)); (case side2 => repeat (first | (with_reducible first | exact HB.out | apply zag | apply zae | apply zaf | refine zah ?_ (zcm HI0.out)) | exact HB.out)); rintro e w38 ⟨rfl, hi, hb, hk⟩; have n0_ := zad (zbs (zbt (zcl (show IsS75 w0 _ g s0_0 x1001_1 x1002_1 from by exact tafz) (taai) (by decide)) hk (fun _ h => h.2)) (fun _ h => h.1)); have n1_ := zad (zbs (zbt (zcl (show IsS75 w0 _ g s0_0 x1001_1 x1002_1 from by exact tafz) (taah) (by decide)) hk (fun _ h => h.2)) (fun _ h => h.1)); have n2_ := zad (zbu (taac) hk (.inl rfl)); have n3_ := zad (hb); have n4_ := zad (hi); clear HO_6 HO_7 HK HB HI0; have HO_6 := n0_; have HO_7 := n1_; have HK := n2_; have HB := n3_; have HI0 := n4_; clear n0_ n1_ n2_ n3_ n4_; (try clear hb); (try clear hb2); (try clear hk); (try clear hi)) | (go_at_call 80; (with_reducible refine (zcp g s0_0 t1121 t1122 (x7_1.length : Int) t1123 t1124 t1125 w0 _ ?side1 ?side2 A22.out).mono ?_); (case side1 => repeat (first | (with_reducible first | exact HI0.out | apply zci | apply zcj | apply zck | apply zcn | apply zco) | exact HI0.out)); (case side2 => repeat (first | (with_reducible first | exact HB.out | apply zag | apply zae | apply zaf | refine zah ?_ (zcm HI0.out)) | exact HB.out)); rintro e w39 ⟨rfl, hi, hb, hk⟩; have n0_ := zad (zbs (zbt (zcl (show IsS75 w0 _ g s0_0 t1121 t1122 from by exact tafz) (taai) (by decide)) hk (fun _ h => h.2)) (fun _ h => h.1)); have n1_ := zad (zbs (zbt (zcl (show IsS75 w0 _ g s0_0 t1121 t1122 from by exact tafz) (taah) (by decide)) hk (fun _ h => h.2)) (fun _ h => h.1)); have n2_ := zad (zbu (taac) hk (.inl rfl)); have n3_ := zad (hb); have n4_ := zad (hi); clear HO_6 HO_7 HK HB HI0; have HO_6 := n0_; have HO_7 := n1_; have HK := n2_; have HB := n3_; have HI0 := n4_; clear n0_ n1_ n2_ n3_ n4_; (try clear hb); (try clear hb2); (try clear hk); (try clear hi); have p1126 : 0 ≤ (t1120 : Int) := zas (taaa); have q1126 : t1120 < (x7_1.length : Int) := zas (taaa); obtain ⟨ad1126, e1126, hx1126_0⟩ := zcc (zbf HO_7.out).2.2 t1120 p1126 q1126; cases e1126; replace p1126 := eq_true p1126; replace q1126 := eq_true q1126; have p1127 : 0 ≤ (t1123 : Int) := zas (taaa); have q1127 : t1123 < (x7_1.length : Int) := zas (taaa); obtain ⟨ad1127, e1127, hx1127_0⟩ := zcc (zbf HO_7.out).2.2 t1123 p1127 q1127; obtain rfl : ad1126 = ad1127 := (by injection e1127); replace p1127 := eq_true p1127; replace q1127 := eq_true q1127))
                   repeat (go_quiet (first | (go_at_call 80; (with_reducible refine (zcp g s0_0 x1001_1 x1002_1 (x7_1.length : Int) t1120 t1121 t1122 w0 _ ?side1 ?side2 A21.out).mono ?_); (case side1 => repeat (first | (with_reducible first | exact HI0.out | apply zci | apply zcj | apply zck | apply zcn | apply zco) | exact HI0.out)); (case side2 => repeat (first | (with_reducible first | exact HB.out | apply zag | apply zae | apply zaf | refine zah ?_ (zcm HI0.out)) | exact HB.out)); rintro e w38 ⟨rfl, hi, hb, hk⟩; have n0_ := zad (zbs (zbt (zcl (show IsS75 w0 _ g s0_0 x1001_1 x1002_1 from by exact tafz) (taai) (by decide)) hk (fun _ h => h.2)) (fun _ h => h.1)); have n1_ := zad (zbs (zbt (zcl (show IsS75 w0 _ g s0_0 x1001_1 x1002_1 from by exact tafz) (taah) (by decide)) hk (fun _ h => h.2)) (fun _ h => h.1)); have n2_ := zad (zbu (taac) hk (.inl rfl)); have n3_ := zad (hb); have n4_ := zad (hi); clear HO_6 HO_7 HK HB HI0; have HO_6 := n0_; have HO_7 := n1_; have HK := n2_; have HB := n3_; have HI0 := n4_; clear n0_ n1_ n2_ n3_ n4_; (try clear hb); (try clear hb2); (try clear hk); (try clear hi)) | (go_at_call 80; (with_reducible refine (zcp g s0_0 t1121 t1122 (x7_1.length : Int) t1123 t1124 t1125 w0 _ ?side1 ?side2 A22.out).mono ?_); (case side1 => repeat (first | (with_reducible first | exact HI0.out | apply zci | apply zcj | apply zck | apply zcn | apply zco) | exact HI0.out)); (case side2 => repeat (first | (with_reducible first | exact HB.out | apply zag | apply zae | apply zaf | refine zah ?_ (zcm HI0.out)) | exact HB.out)); rintro e w39 ⟨rfl, hi, hb, hk⟩; have n0_ := zad (zbs (zbt (zcl (show IsS75 w0 _ g s0_0 t1121 t1122 from by exact tafz) (taai) (by decide)) hk (fun _ h => h.2)) (fun _ h => h.1)); have n1_ := zad (zbs (zbt (zcl (show IsS75 w0 _ g s0_0 t1121 t1122 from by exact tafz) (taah) (by decide)) hk (fun _ h => h.2)) (fun _ h => h.1)); have n2_ := zad (zbu (taac) hk (.inl rfl)); have n3_ := zad (hb); have n4_ := zad (hi); clear HO_6 HO_7 HK HB HI0; have HO_6 := n0_; have HO_7 := n1_; have HK := n2_; have HB := n3_; have HI0 := n4_; clear n0_ n1_ n2_ n3_ n4_; (try clear hb); (try clear hb2); (try clear hk); (try clear hi); have p1126 : 0 ≤ (t1120 : Int) := zas (taaa); have q1126 : t1120 < (x7_1.length : Int) := zas (taaa); obtain ⟨ad1126, e1126, hx1126_0⟩ := zcc (zbf HO_7.out).2.2 t1120 p1126 q1126; cases e1126; replace p1126 := eq_true p1126; replace q1126 := eq_true q1126; have p1127 : 0 ≤ (t1123 : Int) := zas (taaa); have q1127 : t1123 < (x7_1.length : Int) := zas (taaa); obtain ⟨ad1127, e1127, hx1127_0⟩ := zcc (zbf HO_7.out).2.2 t1123 p1127 q1127; obtain rfl : ad1126 = ad1127 := (by injection e1127); replace p1127 := eq_true p1127; replace q1127 := eq_true q1127)); try go_wp2_with (first | (go_at_call 80; (with_reducible refine (zcp g s0_0 x1001_1 x1002_1 (x7_1.length : Int) t1120 t1121 t1122 w0 _ ?side1 ?side2 A21.out).mono ?_); (case side1 => repeat (first | (with_reducible first | exact HI0.out | apply zci | apply zcj | apply zck | apply zcn | apply zco) | exact HI0.out)); (case side2 => repeat (first | (with_reducible first | exact HB.out | apply zag | apply zae | apply zaf | refine zah ?_ (zcm HI0.out)) | exact HB.out)); rintro e w38 ⟨rfl, hi, hb, hk⟩; have n0_ := zad (zbs (zbt (zcl (show IsS75 w0 _ g s0_0 x1001_1 x1002_1 from by exact tafz) (taai) (by decide)) hk (fun _ h => h.2)) (fun _ h => h.1)); have n1_ := zad (zbs (zbt (zcl (show IsS75 w0 _ g s0_0 x1001_1 x1002_1 from by exact tafz) (taah) (by decide)) hk (fun _ h => h.2)) (fun _ h => h.1)); have n2_ := zad (zbu (taac) hk (.inl rfl)); have n3_ := zad (hb); have n4_ := zad (hi); clear HO_6 HO_7 HK HB HI0; have HO_6 := n0_; have HO_7 := n1_; have HK := n2_; have HB := n3_; have HI0 := n4_; clear n0_ n1_ n2_ n3_ n4_; (try clear hb); (try clear hb2); (try clear hk); (try clear hi)) | (go_at_call 80; (with_reducible refine (zcp g s0_0 t1121 t1122 (x7_1.length : Int) t1123 t1124 t1125 w0 _ ?side1 ?side2 A22.out).mono ?_); (case side1 => repeat (first | (with_reducible first | exact HI0.out | apply zci | apply zcj | apply zck | apply zcn | apply zco) | exact HI0.out)); (case side2 => repeat (first | (with_reducible first | exact HB.out | apply zag | apply zae | apply zaf | refine zah ?_ (zcm HI0.out)) | exact HB.out)); rintro e w39 ⟨rfl, hi, hb, hk⟩; have n0_ := zad (zbs (zbt (zcl (show IsS75 w0 _ g s0_0 t1121 t1122 from by exact tafz) (taai) (by decide)) hk (fun _ h => h.2)) (fun _ h => h.1)); have n1_ := zad (zbs (zbt (zcl (show IsS75 w0 _ g s0_0 t1121 t1122 from by exact tafz) (taah) (by decide)) hk (fun _ h => h.2)) (fun _ h => h.1)); have n2_ := zad (zbu (taac) hk (.inl rfl)); have n3_ := zad (hb); have n4_ := zad (hi); clear HO_6 HO_7 HK HB HI0; have HO_6 := n0_; have HO_7 := n1_; have HK := n2_; have HB := n3_; have HI0 := n4_; clear n0_ n1_ n2_ n3_ n4_; (try clear hb); (try clear hb2); (try clear hk); (try clear hi); have p1126 : 0 ≤ (t1120 : Int) := zas (taaa); have q1126 : t1120 < (x7_1.length : Int) := zas (taaa); obtain ⟨ad1126, e1126, hx1126_0⟩ := zcc (zbf HO_7.out).2.2 t1120 p1126 q1126; cases e1126; replace p1126 := eq_true p1126; replace q1126 := eq_true q1126; have p1127 : 0 ≤ (t1123 : Int) := zas (taaa); have q1127 : t1123 < (x7_1.length : Int) := zas (taaa); obtain ⟨ad1127, e1127, hx1127_0⟩ := zcc (zbf HO_7.out).2.2 t1123 p1127 q1127; obtain rfl : ad1126 = ad1127 := (by injection e1127); replace p1127 := eq_true p1127; replace q1127 := eq_true q1127)))
                   go_roundg kj16
                   case measure => have := HK1.out; have := HJ16.out; omega
                   case rel => exact ⟨(x7_1), (wrap64 (x8_1 - 1)), (t1124), (t1125), (taag), H', ⟨tabo⟩, ⟨taai⟩, ⟨taah⟩, ⟨taaf⟩, ⟨taac⟩, ⟨taan⟩⟩
               · rw [if_neg c26] at H
                 exact absurd H (taae)
             · rw [if_neg c25] at H
               exact absurd H (taae)
           · rw [if_neg c24] at H
             exact absurd H (taae)
         · rw [if_neg c23] at H
           exact absurd H (taae)
       · replace c20 := zbi.mpr c20
         subst c20; have H1 : (some (x7_1, t1098, x1001_1, x1002_1)) = some (r1, r2, r3, r4) := by rw [if_neg (show ¬ (false = true) by decide)] at H; exact H
         clear H; have H := H1; clear H1; simp only [zbn, zbr] at H
         obtain ⟨rfl, rfl, rfl, rfl⟩ := H
         go_wp2
         repeat (go_quiet (fail); try go_wp2)
         go_ret2
         exact ⟨_, _, taaj, taah, taai, taaf, taan, taac⟩
def spec_DrawGiftPath.f (k : Nat) (l0 : List Int) : Option (List Int × List Int) := (spec_l1Cur_one.f l0 0 0 20).bind fun bt1420 => (if bt1420.1 = true then (some ((([30, 30, 30, 30, 30, 30, 30, 30] : List Int)), (([60, 60, 60, 60, 0, 0, 0, 0] : List Int)))) else ((spec_l1Cur_majorized.f k l0 bt1420.2.1 bt1420.2.2 15).bind fun bt1429 => (some (bt1429.1, bt1429.2.1))))
theorem spec_DrawGiftPath.calls (k : Nat) (A0 : Option Addr) (c0 : Nat) (l0 : List Int) (r1 : List Int) (r2 : List Int) (w : World) (hr0 : Kd.C (Kd.int .u8) w A0 l0.length l0) (hc0 : l0.length ≤ c0) (h : spec_DrawGiftPath.f k l0 = some (r1, r2)) :
 Calls Try.prog 72 #[.slice A0 l0.length c0] w fun e w' => ∃ v0_ v1_ : Value, e = .returned (.tuple #[v0_, v1_]) ∧ Kd.R (Kd.int .i64) 3 w' w.heap.size (fun k_ => some k_ ≠ (v1_ : Value).ownBlock) v0_ r1 ∧ Kd.R (Kd.int .i64) 3 w' w.heap.size (fun k_ => some k_ ≠ (v0_ : Value).ownBlock) v1_ r2 ∧ Below w.heap.size w w' := by
 have hu75 := Try.underlying75
 have HR0 := zad hr0; have HC0 := zad hc0; clear hr0 hc0; have HB := zad (Below.refl w.heap.size w)
 have H : ((spec_l1Cur_one.f l0 0 0 20).bind fun bt1420 => (if bt1420.1 = true then (some ((([30, 30, 30, 30, 30, 30, 30, 30] : List Int)), (([60, 60, 60, 60, 0, 0, 0, 0] : List Int)))) else ((spec_l1Cur_majorized.f k l0 bt1420.2.1 bt1420.2.2 15).bind fun bt1429 => (some (bt1429.1, bt1429.2.1))))) = some (r1, r2) := h
 clear h; replace H := zay.mp H; obtain ⟨⟨t1420, t1421, t1422⟩, A20, H⟩ := H
 replace H : (if t1420 = true then (some ((([30, 30, 30, 30, 30, 30, 30, 30] : List Int)), (([60, 60, 60, 60, 0, 0, 0, 0] : List Int)))) else ((spec_l1Cur_majorized.f k l0 t1421 t1422 15).bind fun bt1429 => (some (bt1429.1, bt1429.2.1)))) = some (r1, r2) := H
 have A2 := zad A20; clear A20; by_cases c3 : t1420 = true
 · subst c3
   have H1 : (some ((([30, 30, 30, 30, 30, 30, 30, 30] : List Int)), (([60, 60, 60, 60, 0, 0, 0, 0] : List Int)))) = some (r1, r2) := by rw [if_pos rfl] at H; exact H
   clear H; have H := H1; clear H1; obtain ⟨y1423, hy1423⟩ : ∃ y_ : List Int, y_ = (([60, 60, 60, 60, 0, 0, 0, 0] : List Int)) := ⟨_, rfl⟩
   replace H : (some ((([30, 30, 30, 30, 30, 30, 30, 30] : List Int)), y1423)) = some (r1, r2) := by first | (rw [hy1423]; with_reducible exact H) | (have H2_ := (zbd _ _).symm.trans H; rw [hy1423]; with_reducible exact H2_) | (have H2_ := (zbd _ _).symm.trans H; with_reducible exact H2_) | with_reducible exact H | (rw [hy1423]; exact H) | exact H
   have Ny1423 := zad hy1423; clear hy1423; obtain ⟨y1426, hy1426⟩ : ∃ y_ : List Int, y_ = (([30, 30, 30, 30, 30, 30, 30, 30] : List Int)) := ⟨_, rfl⟩
   replace H : (some (y1426, y1423)) = some (r1, r2) := by first | (rw [hy1426]; with_reducible exact H) | (have H2_ := (zbd _ _).symm.trans H; rw [hy1426]; with_reducible exact H2_) | (have H2_ := (zbd _ _).symm.trans H; with_reducible exact H2_) | with_reducible exact H | (rw [hy1426]; exact H) | exact H
   have Ny1426 := zad hy1426; clear hy1426; simp only [zbn, zbr] at H
   obtain ⟨rfl, rfl⟩ := H
   go_enter Try.func72, Try.ntmps72
   go_wp2_with (first | ((with_reducible refine gate_dst (N := 8) rfl ?_); refine box_event ?hg (N := 8) ?hd (cs := #[.slice A0 l0.length c0, .int .i64 0, .int .u64 0]) (t := 75) ?hr ?_; (case hd => rfl); (case hg => rfl); (case hr => first | (go_simp; done) | (go_simp; rfl)); intro gb1419 hg w4 hbox hb; have n0_ := zad (zbg (taab) hb); have n1_ := zad ((show IsS75 w w4 gb1419 l0 0 0 from ⟨_, _, hbox, (tafj), HR0.out⟩)); clear HB; have HB := n0_; have HI1419 := n1_; clear n0_ n1_ hb hbox hg) | ((with_reducible refine zbh (f := 89) rfl ?_); refine zbp (some 10) rfl rfl Try.func89 (by kernel_rfl) rfl #[.pointer (some ⟨gb1419, 0, none⟩), .int .i64 20] rfl (taad) ?_; (with_reducible refine (spec_l1Cur_one.calls gb1419 l0 0 0 20 true t1421 t1422 w _ ?side1 ?side2 A2.out).mono ?_); (case side1 => repeat (first | (with_reducible first | exact HI1419.out | apply zci | apply zcj | apply zck | apply zcn | apply zco) | exact HI1419.out)); (case side2 => repeat (first | (with_reducible first | exact HB.out | apply zag | apply zae | apply zaf | refine zah ?_ (zcm HI1419.out)) | exact HB.out)); rintro e w5 ⟨rfl, hi, hb, hk⟩; refine ⟨_, rfl, ?_⟩; have n0_ := zad (hb); have n1_ := zad (hi); clear HB HI1419; have HB := n0_; have HI1419 := n1_; clear n0_ n1_; (try clear hb); (try clear hb2); (try clear hk); (try clear hi)) | ((with_reducible refine gate_dst (N := 11) rfl ?_); refine Kd.R_lit (Kd.int .i64) _ 3 ?hg (N := 11) ?hd (xs := ([60, 60, 60, 60, 0, 0, 0, 0] : List Int)) (inner := [.int .i64 60, .int .i64 60, .int .i64 60, .int .i64 60, .int .i64 0, .int .i64 0, .int .i64 0, .int .i64 0]) (ok := fun _ => True) (okp := fun _ => True) ?hr ?hp (fun _ hk => hk) trivial (Below.refl _ _) (zch _) (taae) ?_; (case hd => rfl); (case hg => rfl); (case hr => first | (go_simp; done) | (go_simp; rfl)); (case hp => exact (Reps.one (show Kd.M (Kd.int .i64) _ _ _ 60 [.int .i64 60] from rfl) (Reps.one (show Kd.M (Kd.int .i64) _ _ _ 60 [.int .i64 60] from rfl) (Reps.one (show Kd.M (Kd.int .i64) _ _ _ 60 [.int .i64 60] from rfl) (Reps.one (show Kd.M (Kd.int .i64) _ _ _ 60 [.int .i64 60] from rfl) (Reps.one (show Kd.M (Kd.int .i64) _ _ _ 0 [.int .i64 0] from rfl) (Reps.one (show Kd.M (Kd.int .i64) _ _ _ 0 [.int .i64 0] from rfl) (Reps.one (show Kd.M (Kd.int .i64) _ _ _ 0 [.int .i64 0] from rfl) (Reps.one (show Kd.M (Kd.int .i64) _ _ _ 0 [.int .i64 0] from rfl) (Reps.none _ _)))))))))); intro v1424 w6 ho7 hb hg_ hnew_; clear hg_ hnew_; (first | rw [← Ny1423.out] at ho7 | (simp only [Int.reduceToNat] at ho7; rw [← Ny1423.out] at ho7)); have n0_ := zad (zbw ho7 (zbm (tabg))); have n1_ := zad (IsS75.below (tadr) hb); have n2_ := zad (zbg (tabg) hb); clear HI1419 HB; have HO1425 := n0_; have HI1419 := n1_; have HB := n2_; clear n0_ n1_ n2_ hb ho7) | ((with_reducible refine gate_dst (N := 12) rfl ?_); refine Kd.R_lit (Kd.int .i64) _ 3 ?hg (N := 12) ?hd (xs := ([30, 30, 30, 30, 30, 30, 30, 30] : List Int)) (inner := [.int .i64 30, .int .i64 30, .int .i64 30, .int .i64 30, .int .i64 30, .int .i64 30, .int .i64 30, .int .i64 30]) (ok := fun _ => True) (okp := fun _ => True) ?hr ?hp (fun _ hk => hk) trivial (Below.refl _ _) (zch _) (taae) ?_; (case hd => rfl); (case hg => rfl); (case hr => first | (go_simp; done) | (go_simp; rfl)); (case hp => exact (Reps.one (show Kd.M (Kd.int .i64) _ _ _ 30 [.int .i64 30] from rfl) (Reps.one (show Kd.M (Kd.int .i64) _ _ _ 30 [.int .i64 30] from rfl) (Reps.one (show Kd.M (Kd.int .i64) _ _ _ 30 [.int .i64 30] from rfl) (Reps.one (show Kd.M (Kd.int .i64) _ _ _ 30 [.int .i64 30] from rfl) (Reps.one (show Kd.M (Kd.int .i64) _ _ _ 30 [.int .i64 30] from rfl) (Reps.one (show Kd.M (Kd.int .i64) _ _ _ 30 [.int .i64 30] from rfl) (Reps.one (show Kd.M (Kd.int .i64) _ _ _ 30 [.int .i64 30] from rfl) (Reps.one (show Kd.M (Kd.int .i64) _ _ _ 30 [.int .i64 30] from rfl) (Reps.none _ _)))))))))); intro v1427 w8 ho9 hb hg_ hnew_; clear hg_ hnew_; (first | rw [← Ny1426.out] at ho9 | (simp only [Int.reduceToNat] at ho9; rw [← Ny1426.out] at ho9)); have n0_ := zad (zcd (tads) (zcf ho9) hb); have n1_ := zad (zbw (zce ho9 (zcg (tads))) (zbm (tabg))); have n2_ := zad (IsS75.below (tadr) hb); have n3_ := zad (zbg (tabg) hb); clear HO1425 HI1419 HB; have HO1425 := n0_; have HO1428 := n1_; have HI1419 := n2_; have HB := n3_; clear n0_ n1_ n2_ n3_ hb ho9))
   go_ret2
   exact ⟨_, _, taaj, by (with_reducible repeat (first | apply zai | apply zaj | apply zak)); exact zbs HO1428.out (fun _ hk => hk.2), by (with_reducible repeat (first | apply zai | apply zaj | apply zak)); exact zbs HO1425.out (fun _ hk => hk.2), tabg⟩
 · replace c3 := zbi.mpr c3
   subst c3; have H1 : ((spec_l1Cur_majorized.f k l0 t1421 t1422 15).bind fun bt1429 => (some (bt1429.1, bt1429.2.1))) = some (r1, r2) := by rw [if_neg (show ¬ (false = true) by decide)] at H; exact H
   clear H; have H := H1; clear H1; replace H := zay.mp H; obtain ⟨⟨t1429, t1432, t1435, t1436⟩, A100, H⟩ := H
   replace H : (some (t1429, t1432)) = some (r1, r2) := H
   have A10 := zad A100; clear A100; simp only [zbn, zbr] at H
   obtain ⟨rfl, rfl⟩ := H
   go_enter Try.func72, Try.ntmps72
   go_wp2_with (first | ((with_reducible refine gate_dst (N := 8) rfl ?_); refine box_event ?hg (N := 8) ?hd (cs := #[.slice A0 l0.length c0, .int .i64 0, .int .u64 0]) (t := 75) ?hr ?_; (case hd => rfl); (case hg => rfl); (case hr => first | (go_simp; done) | (go_simp; rfl)); intro gb1419 hg w11 hbox hb; have n0_ := zad (zbg (taab) hb); have n1_ := zad ((show IsS75 w w11 gb1419 l0 0 0 from ⟨_, _, hbox, (tafj), HR0.out⟩)); clear HB; have HB := n0_; have HI1419 := n1_; clear n0_ n1_ hb hbox hg) | ((with_reducible refine zbh (f := 89) rfl ?_); refine zbp (some 10) rfl rfl Try.func89 (by kernel_rfl) rfl #[.pointer (some ⟨gb1419, 0, none⟩), .int .i64 20] rfl (taad) ?_; (with_reducible refine (spec_l1Cur_one.calls gb1419 l0 0 0 20 false t1421 t1422 w _ ?side1 ?side2 A2.out).mono ?_); (case side1 => repeat (first | (with_reducible first | exact HI1419.out | apply zci | apply zcj | apply zck | apply zcn | apply zco) | exact HI1419.out)); (case side2 => repeat (first | (with_reducible first | exact HB.out | apply zag | apply zae | apply zaf | refine zah ?_ (zcm HI1419.out)) | exact HB.out)); rintro e w12 ⟨rfl, hi, hb, hk⟩; refine ⟨_, rfl, ?_⟩; have n0_ := zad (hb); have n1_ := zad (hi); clear HB HI1419; have HB := n0_; have HI1419 := n1_; clear n0_ n1_; (try clear hb); (try clear hb2); (try clear hk); (try clear hi)) | ((with_reducible refine zbh (f := 127) rfl ?_); refine zbp (some 15) rfl rfl Try.func127 (by kernel_rfl) rfl #[.pointer (some ⟨gb1419, 0, none⟩), .int .i64 15] rfl (taad) ?_; (with_reducible refine (spec_l1Cur_majorized.calls k gb1419 l0 t1421 t1422 15 t1429 t1432 t1435 t1436 w _ ?side1 ?side2 A10.out).mono ?_); (case side1 => repeat (first | (with_reducible first | exact HI1419.out | apply zci | apply zcj | apply zck | apply zcn | apply zco) | exact HI1419.out)); (case side2 => repeat (first | (with_reducible first | exact HB.out | apply zag | apply zae | apply zaf | refine zah ?_ (zcm HI1419.out)) | exact HB.out)); rintro e w13 ⟨v1430, v1433, rfl, ho0, ho1, hi, hb, hk⟩; refine ⟨_, rfl, ?_⟩; have n0_ := zad (zbw ho0 (zbm (tabg))); have n1_ := zad (zbw ho1 (zbm (tabg))); have n2_ := zad (hb); have n3_ := zad (hi); clear HB HI1419; have HO1431 := n0_; have HO1434 := n1_; have HB := n2_; have HI1419 := n3_; clear n0_ n1_ n2_ n3_; (try clear hb); (try clear hb2); (try clear hk); (try clear hi); (try clear ho0); (try clear ho1)))
   go_ret2
   exact ⟨_, _, taaj, by (with_reducible repeat (first | apply zai | apply zaj | apply zak)); exact HO1431.out, by (with_reducible repeat (first | apply zai | apply zaj | apply zak)); exact HO1434.out, tabg⟩
def impl_given.f (l0 : List Int) (a1_0 : Int) (a1_1 : Int) (a1_2 : Int) : Option (List Int) := (slices_Clone_int_int.f l0).bind fun t531 => (if 0 ≤ a1_0 then (if a1_0 < (t531.length : Int) then ((some (t531.set (a1_0 : Int).toNat (wrap64 ((rd t531 a1_0) - a1_2)) : List Int)).bind fun y535 => (if 0 ≤ a1_1 then (if a1_1 < (t531.length : Int) then (some (y535.set (a1_1 : Int).toNat (wrap64 ((rd y535 a1_1) + a1_2)))) else (none)) else (none))) else (none)) else (none))
def impl_given.T2 : Bool × List (List Nat × List Nat) := (true, [([], []), ([], []), ([1], [1]), ([0, 2], [0, 2]), ([3], [3]), ([], []), ([5], [5]), ([4, 6], [4, 6]), ([0, 2, 0, 1, 2, 3, 4, 5, 6, 7], [0, 2]), ([8, 7, 0, 1, 2, 3, 4, 5, 6, 7], [7, 8])])
def impl_given.B2 : List Nat := [0, 0, 2, 7, 15, 0, 32, 127, 255, 511]
theorem impl_given.tab2 : rtab .any (opsOf Try.f105 2) = impl_given.T2 := by kernel_rfl
theorem impl_given.bits2 : waitsOk impl_given.T2.2 impl_given.B2 = true := by kernel_rfl
def impl_given.T3 : Bool × List (List Nat × List Nat) := (true, [([], []), ([], []), ([1], [1]), ([0, 2], [0, 2]), ([3], [3]), ([], []), ([5], [5]), ([4, 6], [4, 6]), ([0, 2, 0, 1, 2, 3, 4, 5, 6, 7], [0, 2]), ([8, 7, 0, 1, 2, 3, 4, 5, 6, 7], [7, 8])])
def impl_given.B3 : List Nat := [0, 0, 2, 7, 15, 0, 32, 127, 255, 511]
theorem impl_given.tab3 : rtab .any (opsOf Try.f105 3) = impl_given.T3 := by kernel_rfl
theorem impl_given.bits3 : waitsOk impl_given.T3.2 impl_given.B3 = true := by kernel_rfl
theorem impl_given.calls (A0 : Option Addr) (c0 : Nat) (l0 : List Int) (a1_0 : Int) (a1_1 : Int) (a1_2 : Int) (r : List Int) (w : World) (hr0 : Kd.C (Kd.int .i64) w A0 l0.length l0) (hc0 : l0.length ≤ c0) (h : impl_given.f l0 a1_0 a1_1 a1_2 = some r) :
 Calls Try.prog 105 #[.slice A0 l0.length c0, .agg #[.int .i64 a1_0, .int .i64 a1_1, .int .i64 a1_2]] w fun e w' => ∃ v0_ : Value, e = .returned (v0_) ∧ Kd.R (Kd.int .i64) 3 w' w.heap.size (fun _ => True) v0_ r ∧ Below w.heap.size w w' := by
 have hu39 := Try.underlying39
 have HR0 := zad hr0; have HC0 := zad hc0; clear hr0 hc0; have HB := zad (Below.refl w.heap.size w)
 have H : ((slices_Clone_int_int.f l0).bind fun t531 => (if 0 ≤ a1_0 then (if a1_0 < (t531.length : Int) then ((some (t531.set (a1_0 : Int).toNat (wrap64 ((rd t531 a1_0) - a1_2)) : List Int)).bind fun y535 => (if 0 ≤ a1_1 then (if a1_1 < (t531.length : Int) then (some (y535.set (a1_1 : Int).toNat (wrap64 ((rd y535 a1_1) + a1_2)))) else (none)) else (none))) else (none)) else (none))) = some r := h
 clear h; replace H := zay.mp H; obtain ⟨t531, A30, H⟩ := H
 replace H : (if 0 ≤ a1_0 then (if a1_0 < (t531.length : Int) then ((some (t531.set (a1_0 : Int).toNat (wrap64 ((rd t531 a1_0) - a1_2)) : List Int)).bind fun y535 => (if 0 ≤ a1_1 then (if a1_1 < (t531.length : Int) then (some (y535.set (a1_1 : Int).toNat (wrap64 ((rd y535 a1_1) + a1_2)))) else (none)) else (none))) else (none)) else (none)) = some r := H
 have A3 := zad A30; clear A30; by_cases c4 : 0 ≤ a1_0
 · rw [if_pos c4] at H
   have c4b0 : decide (0 ≤ a1_0) = true := zba c4
   clear c4; by_cases c5 : a1_0 < (t531.length : Int)
   · rw [if_pos c5] at H
     have c5b0 : decide (a1_0 < (t531.length : Int)) = true := zba c5
     clear c5; obtain ⟨y535, hy535⟩ : ∃ y_ : List Int, y_ = (t531.set (a1_0 : Int).toNat (wrap64 ((rd t531 a1_0) - a1_2))) := ⟨_, rfl⟩
     replace H : (if 0 ≤ a1_1 then (if a1_1 < (t531.length : Int) then (some (y535.set (a1_1 : Int).toNat (wrap64 ((rd y535 a1_1) + a1_2)))) else (none)) else (none)) = some r := by first | (rw [hy535]; with_reducible exact H) | (have H2_ := (zbd _ _).symm.trans H; rw [hy535]; with_reducible exact H2_) | (have H2_ := (zbd _ _).symm.trans H; with_reducible exact H2_) | with_reducible exact H | (rw [hy535]; exact H) | exact H
     have Ny535 := zad hy535; clear hy535; by_cases c7 : 0 ≤ a1_1
     · rw [if_pos c7] at H
       have c7b0 : decide (0 ≤ a1_1) = true := zba c7
       clear c7; by_cases c8 : a1_1 < (t531.length : Int)
       · rw [if_pos c8] at H
         have c8b0 : decide (a1_1 < (t531.length : Int)) = true := zba c8
         clear c8; obtain ⟨y537, hy537⟩ : ∃ y_ : List Int, y_ = (y535.set (a1_1 : Int).toNat (wrap64 ((rd y535 a1_1) + a1_2))) := ⟨_, rfl⟩
         replace H : (some y537) = some r := by first | (rw [hy537]; with_reducible exact H) | (have H2_ := (zbd _ _).symm.trans H; rw [hy537]; with_reducible exact H2_) | (have H2_ := (zbd _ _).symm.trans H; with_reducible exact H2_) | with_reducible exact H | (rw [hy537]; exact H) | exact H
         have Ny537 := zad hy537; clear hy537; obtain rfl := zbe H
         go_enter Try.func105, Try.ntmps105
         try go_wp2_with (first | ((with_reducible refine gate_dst (N := 3) rfl ?_); refine box_event ?hg (N := 3) ?hd (cs := #[.int .i64 a1_0, .int .i64 a1_1, .int .i64 a1_2]) (t := 39) ?hr ?_; (case hd => rfl); (case hg => rfl); (case hr => first | (go_simp; done) | (go_simp; rfl)); intro gb530 hg w10 hbox hb; have n0_ := zad (zbg (taab) hb); have n1_ := zad (hbox); have n2_ := zad ((tafj : w.heap.size ≤ gb530)); have n3_ := zad ((tafj : w.heap.size ≤ gb530)); clear HB; have HB := n0_; have BK530 := n1_; have GW530 := n2_; have GE530 := n3_; clear n0_ n1_ n2_ n3_ hb hbox hg) | ((with_reducible refine zbh (f := 146) rfl ?_); refine zbp (some 7) rfl rfl Try.func146 (by kernel_rfl) rfl #[.slice A0 l0.length c0] rfl (taad) ?_; (with_reducible refine (slices_Clone_int_int.calls _ _ l0 t531 _ ?side1 ?side2 A3.out).mono ?_); (case side1 => exact tagc); (case side2 => exact HC0.out); rintro e w11 ⟨v532, rfl, ho0, hb⟩; refine ⟨_, rfl, ?_⟩; have n0_ := zad (zbw ho0 (zbm (tadt))); have n1_ := zad (blk_below (g := gb530) (o := .cells #[.int .i64 a1_0, .int .i64 a1_1, .int .i64 a1_2] 39 (0, 0)) (by (with_reducible repeat (first | refine blk_drewN ?_ _ | refine blk_drew ?_ | refine blk_alloc ?_ _)); exact BK530.out) hb); have n2_ := zad (zbg (tadt) hb); clear BK530 HB; have HO533 := n0_; have BK530 := n1_; have HB := n2_; clear n0_ n1_ n2_; (try clear hb); (try clear hb2); (try clear hk); (try clear hi); (try clear ho0)))
         have n0_ := zad (zak HO533.out)
         have n1_ := zad (blk_drew BK530.out)
         have n2_ := zad (zaf HB.out)
         clear HO533 BK530 HB; have HO533 := n0_; have BK530 := n1_; have HB := n2_; clear n0_ n1_ n2_; obtain ⟨Ao13, co13, eo13⟩ := zbx HO533.out
         (first | subst eo13 | (injection eo13 with f1_ f2_ f3_; have f4_ := f1_.symm; have f5_ := f3_.symm; clear f1_ f2_ f3_; subst f4_; subst f5_))
         have p534 : 0 ≤ (a1_0 : Int) := zas (taaa)
         have q534 : a1_0 < (t531.length : Int) := zas (taaa)
         obtain ⟨ad534, e534, hx534_0⟩ := zcc (zbf HO533.out).2.2 a1_0 p534 q534
         cases e534
         replace p534 := eq_true p534
         replace q534 := eq_true q534
         have p6 : 0 ≤ (a1_0 : Int) := zas (taaa)
         have q6 : (a1_0 : Int) < ((t531.length : Int) : Int) := zas (taaa)
         obtain ⟨go6, co6, eo6, gb6, gl6, cl6, HG6⟩ := Kd.R_form HO533.out (by omega)
         (first | cases eo6 | (injection eo6 with ea_ en_ ec_; (first | subst ea_ | (injection ea_ with ea_; subst ea_)); subst ec_; clear en_))
         have GB6 := zad gb6; have GG6 := zad HG6; clear gb6 gl6 HG6; (first | simp only [add_plain] at hx534_0 | skip)
         obtain ⟨hx6_0, hf6_0⟩ := Kd.R_celln 0 HO533.out (a1_0 : Int) p6 q6
         replace p6 := eq_true p6
         replace q6 := eq_true q6
         have HP14 := Kd.R_putn HO533.out (a1_0 : Int) (wrap64 ((rd t531 a1_0) - a1_2))
         rw [← Ny535.out] at HP14
         have HQ14 := zad HP14; clear HP14; refine start_ (n := 10) (S := fun w' => w'.cell? ⟨gb530, 0, none⟩ = some (.int .i64 a1_0) ∧ w'.cell? ⟨gb530, 1, none⟩ = some (.int .i64 a1_1) ∧ w'.cell? ⟨gb530, 2, none⟩ = some (.int .i64 a1_2) ∧ w'.cell? ⟨go6, (a1_0).toNat, none⟩ = some (.int .i64 (rd t531 a1_0))) (ds := [9]) #[false, false, false, false, false, false, false, false, false, false] (by kernel_rfl) rfl rfl ⟨(zbk BK530.out 0).trans rfl, (zbk BK530.out 1).trans rfl, (zbk BK530.out 2).trans rfl, hx534_0⟩ (fun hHeld => ?_); refine with_tabW impl_given.tab2 impl_given.bits2 (fun HT_ HW_ => ?_)
         generalize w11.drew = w12 at HO533 BK530 HB GG6 HQ14 hf6_0 hx534_0 hx6_0 hHeld ⊢
         refine pure_ (i := 0) (N := some 8) (v := ?_) (a' := ?_) taip rfl rfl (zca HT_.out (by kernel_rfl)) (fun _ _ _ h => h) (Or.inl ⟨by rfl, ?_⟩) ?_ ?_
         rotate_left
         · intro w'
           go_simp; with_reducible rfl
         rotate_left
         · simp only [Act.put, zaa, zab, zac, zby, zbz]
           rfl
         refine pure_ (i := 1) (N := some 9) (v := ?_) (a' := ?_) taiq rfl rfl (zca HT_.out (by kernel_rfl)) (fun _ _ _ h => h) (Or.inl ⟨by rfl, ?_⟩) ?_ ?_
         rotate_left
         · intro w'
           go_simp; with_reducible rfl
         rotate_left
         · simp only [Act.put, zaa, zab, zac, zby, zbz]
           rfl
         refine pure_ (i := 5) (N := some 13) (v := ?_) (a' := ?_) tair rfl rfl (zca HT_.out (by kernel_rfl)) (fun _ _ _ h => h) (Or.inl ⟨by rfl, ?_⟩) ?_ ?_
         rotate_left
         · intro w'
           go_simp; with_reducible rfl
         rotate_left
         · simp only [Act.put, zaa, zab, zac, zby, zbz]
           rfl
         refine take_ (i := 2) (N := some 10) (v := ?_) (a' := ?_) tais rfl rfl (zcb HT_.out HW_.out (by kernel_rfl)) (fun _ _ _ h => h) (Or.inl ⟨by rfl, ?_⟩) hHeld ?_ ?_
         rotate_left
         · rintro w' ⟨s0, s1, s2, s3⟩
           go_simp; with_reducible rfl
         rotate_left
         · simp only [Act.put, zaa, zab, zac, zby, zbz]
           rfl
         refine pure_ (i := 3) (N := some 11) (v := ?_) (a' := ?_) tait rfl rfl (zca HT_.out (by kernel_rfl)) (fun _ _ _ h => h) (Or.inl ⟨by rfl, ?_⟩) ?_ ?_
         rotate_left
         · intro w'
           go_simp; with_reducible rfl
         rotate_left
         · simp only [Act.put, zaa, zab, zac, zby, zbz]
           rfl
         refine take_ (i := 4) (N := some 12) (v := ?_) (a' := ?_) taiu rfl rfl (zcb HT_.out HW_.out (by kernel_rfl)) (fun _ _ _ h => h) (Or.inl ⟨by rfl, ?_⟩) hHeld ?_ ?_
         rotate_left
         · rintro w' ⟨s0, s1, s2, s3⟩
           go_simp; with_reducible rfl
         rotate_left
         · simp only [Act.put, zaa, zab, zac, zby, zbz]
           rfl
         refine take_ (i := 6) (N := some 14) (v := ?_) (a' := ?_) taiv rfl rfl (zcb HT_.out HW_.out (by kernel_rfl)) (fun _ _ _ h => h) (Or.inl ⟨by rfl, ?_⟩) hHeld ?_ ?_
         rotate_left
         · rintro w' ⟨s0, s1, s2, s3⟩
           go_simp; with_reducible rfl
         rotate_left
         · simp only [Act.put, zaa, zab, zac, zby, zbz]
           rfl
         refine pure_ (i := 7) (N := some 15) (v := ?_) (a' := ?_) taiw rfl rfl (zca HT_.out (by kernel_rfl)) (fun _ _ _ h => h) (Or.inl ⟨by rfl, ?_⟩) ?_ ?_
         rotate_left
         · intro w'
           go_simp; with_reducible rfl
         rotate_left
         · simp only [Act.put, zaa, zab, zac, zby, zbz]
           rfl
         refine pure_ (i := 8) (N := some 16) (v := ?_) (a' := ?_) taix rfl rfl (zca HT_.out (by kernel_rfl)) (fun _ _ _ h => h) (Or.inl ⟨by rfl, ?_⟩) ?_ ?_
         rotate_left
         · intro w'
           go_simp; with_reducible rfl
         rotate_left
         · simp only [Act.put, zaa, zab, zac, zby, zbz]
           rfl
         refine last_ (i := 9) (N := none) #[true, true, true, true, true, true, true, true, true, true] rfl rfl (one_of HT_.out (by kernel_rfl)) (by decide) (fun K hK => ?_)
         refine skip_ (w1 := ?_) (by rfl) rfl ?_ ?_
         rotate_left
         · go_simp
           rfl
         refine hK.out _ _ ?_
         clear hK K; refine done_ (done_of HT_.out (by kernel_rfl)) ?_
         try go_wp2
         have n0_ : Aside0 (Kd.R (Kd.int .i64) 3 (w12.setCell ⟨go6, (a1_0 : Int).toNat, none⟩ (.int .i64 (wrap64 ((rd t531 a1_0) - a1_2)))) w.heap.size (fun _ => True) (.slice (some ⟨go6, 0, none⟩) t531.length co13) y535) := ⟨tadu⟩
         have n1_ : Aside0 ((w12.setCell ⟨go6, (a1_0 : Int).toNat, none⟩ (.int .i64 (wrap64 ((rd t531 a1_0) - a1_2)))).heap[gb530]? = some (.cells #[.int .i64 a1_0, .int .i64 a1_1, .int .i64 a1_2] 39 (0, 0))) := ⟨by (with_reducible repeat (first | refine blk_drewN ?_ _ | refine blk_drew ?_ | refine blk_alloc ?_ _)); refine blk_far ?_ (by have h_ := Kd.R_ne HO533.out BK530.out (by decide); intro e_; exact h_ (by rw [e_]; rfl)) _; (with_reducible repeat (first | refine blk_drewN ?_ _ | refine blk_drew ?_ | refine blk_alloc ?_ _)); exact BK530.out⟩
         have n2_ : Aside0 (Below w.heap.size w (w12.setCell ⟨go6, (a1_0 : Int).toNat, none⟩ (.int .i64 (wrap64 ((rd t531 a1_0) - a1_2))))) := ⟨tadv⟩
         (try clear HO533); (try clear BK530); (try clear HB); generalize (w12.setCell ⟨go6, (a1_0 : Int).toNat, none⟩ (.int .i64 (wrap64 ((rd t531 a1_0) - a1_2)))) = w15 at n0_ n1_ n2_ ⊢
         have HO533 := n0_; have BK530 := n1_; have HB := n2_; clear n0_ n1_ n2_; have n0_ := zad (zak HO533.out)
         have n1_ := zad (blk_drew BK530.out)
         have n2_ := zad (zaf HB.out)
         clear HO533 BK530 HB; have HO533 := n0_; have BK530 := n1_; have HB := n2_; clear n0_ n1_ n2_; have p536 : 0 ≤ (a1_1 : Int) := zas (taaa)
         have q536 : a1_1 < (y535.length : Int) := (by have h_ : (a1_1 : Int) < ((t531.length : Int) : Int) := zas (taaa); first | (have e_ := (zbf HO533.out).1; omega) | simpa only [Ny535.out, List.length_set] using h_)
         have ql536 : ((a1_1 : Int) < ((t531.length : Int) : Int)) = True := eq_true (zas (taaa))
         obtain ⟨ad536, e536, hx536_0⟩ := zcc (zbf HO533.out).2.2 a1_1 p536 q536
         obtain rfl : (⟨go6, 0, none⟩ : Addr) = ad536 := (by injection e536)
         (first | simp only [add_plain] at hx536_0 | simp only [add_at] at hx536_0 | simp only [Addr.add, Nat.zero_add] at hx536_0 | skip)
         replace p536 := eq_true p536
         replace q536 := eq_true q536
         have p9 : 0 ≤ (a1_1 : Int) := zas (taaa)
         have q9 : (a1_1 : Int) < ((t531.length : Int) : Int) := zas (taaa)
         obtain ⟨hx9_0, hf9_0⟩ := Kd.R_celln 0 HO533.out (a1_1 : Int) p9 q9
         replace p9 := eq_true p9
         replace q9 := eq_true q9
         have HP17 := Kd.R_putn HO533.out (a1_1 : Int) (wrap64 ((rd y535 a1_1) + a1_2))
         rw [← Ny537.out] at HP17
         have HQ17 := zad HP17; clear HP17; refine start_ (n := 10) (S := fun w' => w'.cell? ⟨gb530, 0, none⟩ = some (.int .i64 a1_0) ∧ w'.cell? ⟨gb530, 1, none⟩ = some (.int .i64 a1_1) ∧ w'.cell? ⟨gb530, 2, none⟩ = some (.int .i64 a1_2) ∧ w'.cell? ⟨go6, (a1_1).toNat, none⟩ = some (.int .i64 (rd y535 a1_1))) (ds := [9]) #[false, false, false, false, false, false, false, false, false, false] (by kernel_rfl) rfl rfl ⟨(zbk BK530.out 0).trans rfl, (zbk BK530.out 1).trans rfl, (zbk BK530.out 2).trans rfl, hx536_0⟩ (fun hHeld => ?_); refine with_tabW impl_given.tab3 impl_given.bits3 (fun HT_ HW_ => ?_)
         generalize w15.drew = w16 at HO533 BK530 HB HQ14 HQ17 hf9_0 hx536_0 hx9_0 hHeld ⊢
         refine pure_ (i := 0) (N := some 17) (v := ?_) (a' := ?_) taip rfl rfl (zca HT_.out (by kernel_rfl)) (fun _ _ _ h => h) (Or.inl ⟨by rfl, ?_⟩) ?_ ?_
         rotate_left
         · intro w'
           go_simp; with_reducible rfl
         rotate_left
         · simp only [Act.put, zaa, zab, zac, zby, zbz]
           rfl
         refine pure_ (i := 1) (N := some 18) (v := ?_) (a' := ?_) taiq rfl rfl (zca HT_.out (by kernel_rfl)) (fun _ _ _ h => h) (Or.inl ⟨by rfl, ?_⟩) ?_ ?_
         rotate_left
         · intro w'
           go_simp; with_reducible rfl
         rotate_left
         · simp only [Act.put, zaa, zab, zac, zby, zbz]
           rfl
         refine pure_ (i := 5) (N := some 22) (v := ?_) (a' := ?_) tair rfl rfl (zca HT_.out (by kernel_rfl)) (fun _ _ _ h => h) (Or.inl ⟨by rfl, ?_⟩) ?_ ?_
         rotate_left
         · intro w'
           go_simp; with_reducible rfl
         rotate_left
         · simp only [Act.put, zaa, zab, zac, zby, zbz]
           rfl
         refine take_ (i := 2) (N := some 19) (v := ?_) (a' := ?_) tais rfl rfl (zcb HT_.out HW_.out (by kernel_rfl)) (fun _ _ _ h => h) (Or.inl ⟨by rfl, ?_⟩) hHeld ?_ ?_
         rotate_left
         · rintro w' ⟨s0, s1, s2, s3⟩
           go_simp; with_reducible rfl
         rotate_left
         · simp only [Act.put, zaa, zab, zac, zby, zbz]
           rfl
         refine pure_ (i := 3) (N := some 20) (v := ?_) (a' := ?_) tait rfl rfl (zca HT_.out (by kernel_rfl)) (fun _ _ _ h => h) (Or.inl ⟨by rfl, ?_⟩) ?_ ?_
         rotate_left
         · intro w'
           go_simp; with_reducible rfl
         rotate_left
         · simp only [Act.put, zaa, zab, zac, zby, zbz]
           rfl
         refine take_ (i := 4) (N := some 21) (v := ?_) (a' := ?_) taiu rfl rfl (zcb HT_.out HW_.out (by kernel_rfl)) (fun _ _ _ h => h) (Or.inl ⟨by rfl, ?_⟩) hHeld ?_ ?_
         rotate_left
         · rintro w' ⟨s0, s1, s2, s3⟩
           go_simp; with_reducible rfl
         rotate_left
         · simp only [Act.put, zaa, zab, zac, zby, zbz]
           rfl
         refine take_ (i := 6) (N := some 23) (v := ?_) (a' := ?_) taiv rfl rfl (zcb HT_.out HW_.out (by kernel_rfl)) (fun _ _ _ h => h) (Or.inl ⟨by rfl, ?_⟩) hHeld ?_ ?_
         rotate_left
         · rintro w' ⟨s0, s1, s2, s3⟩
           go_simp; with_reducible rfl
         rotate_left
         · simp only [Act.put, zaa, zab, zac, zby, zbz]
           rfl
         refine pure_ (i := 7) (N := some 24) (v := ?_) (a' := ?_) taiw rfl rfl (zca HT_.out (by kernel_rfl)) (fun _ _ _ h => h) (Or.inl ⟨by rfl, ?_⟩) ?_ ?_
         rotate_left
         · intro w'
           go_simp; with_reducible rfl
         rotate_left
         · simp only [Act.put, zaa, zab, zac, zby, zbz]
           rfl
         refine pure_ (i := 8) (N := some 25) (v := ?_) (a' := ?_) taix rfl rfl (zca HT_.out (by kernel_rfl)) (fun _ _ _ h => h) (Or.inl ⟨by rfl, ?_⟩) ?_ ?_
         rotate_left
         · intro w'
           go_simp; with_reducible rfl
         rotate_left
         · simp only [Act.put, zaa, zab, zac, zby, zbz]
           rfl
         refine last_ (i := 9) (N := none) #[true, true, true, true, true, true, true, true, true, true] rfl rfl (one_of HT_.out (by kernel_rfl)) (by decide) (fun K hK => ?_)
         refine skip_ (w1 := ?_) (by rfl) rfl ?_ ?_
         rotate_left
         · go_simp
           rfl
         refine hK.out _ _ ?_
         clear hK K; refine done_ (done_of HT_.out (by kernel_rfl)) ?_
         try go_wp2
         go_ret
         exact ⟨_, taaj, tadw, tadv⟩
       · rw [if_neg c8] at H
         exact absurd H (taae)
     · rw [if_neg c7] at H
       exact absurd H (taae)
   · rw [if_neg c5] at H
     exact absurd H (taae)
 · rw [if_neg c4] at H
   exact absurd H (taae)
def slices_Equal_int_int.l0 : Nat → List Int → List Int → Int → Int → Option (Bool)
 | 0, _, _, _, _ => none
 | k + 1, x0, x1, x12, x13 => if x13 < x12 then (if 0 ≤ x13 then (if x13 < (x0.length : Int) then (if x13 < (x1.length : Int) then (if (rd x0 x13) = (rd x1 x13) then (slices_Equal_int_int.l0 k x0 x1 x12 (wrap64 (x13 + 1))) else (some false)) else (none)) else (none)) else (none)) else (some true)
def slices_Equal_int_int.f (k : Nat) (l0 : List Int) (l1 : List Int) : Option (Bool) := if (l0.length : Int) = (l1.length : Int) then (slices_Equal_int_int.l0 k l0 l1 (l0.length : Int) 0) else (some false)
theorem slices_Equal_int_int.calls (k : Nat) (A0 : Option Addr) (c0 : Nat) (l0 : List Int) (A1 : Option Addr) (c1 : Nat) (l1 : List Int) (r : Bool) (w : World) (hr0 : Kd.C (Kd.int .i64) w A0 l0.length l0) (hc0 : l0.length ≤ c0) (hr1 : Kd.C (Kd.int .i64) w A1 l1.length l1) (hc1 : l1.length ≤ c1) (h : slices_Equal_int_int.f k l0 l1 = some r) :
 Calls Try.prog 135 #[.slice A0 l0.length c0, .slice A1 l1.length c1] w fun e w' => e = .returned (.bool r) ∧ Drawn0 w w' := by
 have HR0 := zad hr0; have HC0 := zad hc0; clear hr0 hc0; have HR1 := zad hr1; have HC1 := zad hc1; clear hr1 hc1; have H : (if (l0.length : Int) = (l1.length : Int) then (slices_Equal_int_int.l0 k l0 l1 (l0.length : Int) 0) else (some false)) = some r := h
 clear h; by_cases c3 : (l0.length : Int) = (l1.length : Int)
 · rw [if_pos c3] at H
   have c3b0 : ((l0.length : Int) == (l1.length : Int)) = true := beq_iff_eq.mpr c3
   have c3b1 : ((l0.length : Int) != (l1.length : Int)) = false := bne_eq_false_iff_eq.mpr c3
   have c3b2 : (l0.length == l1.length) = true := by first | simpa using c3 | (simp at c3 ⊢; omega)
   clear c3; have H' := zad H
   clear H; go_enter Try.func135, Try.ntmps135
   go_wp2
   repeat (go_quiet (fail); try go_wp2)
   go_loopg [13] k (fun kq v13 w' => ∃ (x13_1 : Int), v13 = .int .i64 x13_1 ∧ Aside0 (slices_Equal_int_int.l0 kq l0 l1 (l0.length : Int) x13_1 = some r) ∧ Aside0 (kq ≤ k) ∧ Drawn0 w w')
   case atStart => exact ⟨(0), (taag), H', ⟨zch _⟩, taam⟩
   case round =>
    clear H'
    try clear c1
    try clear p2
    try clear c3
    try clear c3b0
    try clear c3b1
    try clear c3b2
    obtain ⟨x13_1, rfl, HA, HK1, ⟨m1, rfl⟩⟩ := hrel
    cases gk with
    | zero => exact absurd HA.out (by simp [slices_Equal_int_int.l0])
    | succ k1 =>
     have H := HA.out
     clear HA; simp only [slices_Equal_int_int.l0] at H
     by_cases c4 : x13_1 < (l0.length : Int)
     · rw [if_pos c4] at H
       have c4b0 : decide (x13_1 < (l0.length : Int)) = true := zba c4
       clear c4; by_cases c5 : 0 ≤ x13_1
       · rw [if_pos c5] at H
         have c5b0 : decide (0 ≤ x13_1) = true := zba c5
         clear c5; by_cases c6 : x13_1 < (l0.length : Int)
         · rw [if_pos c6] at H
           have c6b0 : decide (x13_1 < (l0.length : Int)) = true := zba c6
           clear c6; by_cases c7 : x13_1 < (l1.length : Int)
           · rw [if_pos c7] at H
             have c7b0 : decide (x13_1 < (l1.length : Int)) = true := zba c7
             clear c7; by_cases c8 : (rd l0 x13_1) = (rd l1 x13_1)
             · rw [if_pos c8] at H
               have c8b0 : ((rd l0 x13_1) == (rd l1 x13_1)) = true := beq_iff_eq.mpr c8
               have c8b1 : ((rd l0 x13_1) != (rd l1 x13_1)) = false := bne_eq_false_iff_eq.mpr c8
               clear c8; have H' := zad H
               clear H; have p1143 : 0 ≤ (x13_1 : Int) := zas (taaa)
               have q1143 : x13_1 < (l0.length : Int) := zas (taaa)
               obtain ⟨ad1143, e1143, hx1143_0⟩ := zcc HR0.out x13_1 p1143 q1143
               cases e1143
               replace p1143 := eq_true p1143
               replace q1143 := eq_true q1143
               have p1144 : 0 ≤ (x13_1 : Int) := zas (taaa)
               have q1144 : x13_1 < (l1.length : Int) := zas (taaa)
               obtain ⟨ad1144, e1144, hx1144_0⟩ := zcc HR1.out x13_1 p1144 q1144
               cases e1144
               replace p1144 := eq_true p1144
               replace q1144 := eq_true q1144
               go_wp2
               repeat (go_quiet (fail); try go_wp2)
               go_roundg k1
               case measure => have := HK1.out; omega
               case rel => exact ⟨(wrap64 (x13_1 + 1)), (taag), H', ⟨taau⟩, taam⟩
             · rw [if_neg c8] at H
               have c8b0 : ((rd l0 x13_1) == (rd l1 x13_1)) = false := zbq.mpr c8
               have c8b1 : ((rd l0 x13_1) != (rd l1 x13_1)) = true := bne_iff_ne.mpr c8
               obtain rfl := zbe H
               have p1143 : 0 ≤ (x13_1 : Int) := zas (taaa)
               have q1143 : x13_1 < (l0.length : Int) := zas (taaa)
               obtain ⟨ad1143, e1143, hx1143_0⟩ := zcc HR0.out x13_1 p1143 q1143
               cases e1143
               replace p1143 := eq_true p1143
               replace q1143 := eq_true q1143
               have p1144 : 0 ≤ (x13_1 : Int) := zas (taaa)
               have q1144 : x13_1 < (l1.length : Int) := zas (taaa)
               obtain ⟨ad1144, e1144, hx1144_0⟩ := zcc HR1.out x13_1 p1144 q1144
               cases e1144
               replace p1144 := eq_true p1144
               replace q1144 := eq_true q1144
               go_wp2
               repeat (go_quiet (fail); try go_wp2)
               go_ret
               exact ⟨taag, taam⟩
           · rw [if_neg c7] at H
             exact absurd H (taae)
         · rw [if_neg c6] at H
           exact absurd H (taae)
       · rw [if_neg c5] at H
         exact absurd H (taae)
     · rw [if_neg c4] at H
       have c4b0 : decide (x13_1 < (l0.length : Int)) = false := zbj c4
       clear c4; obtain rfl := zbe H
       go_wp2
       repeat (go_quiet (fail); try go_wp2)
       go_ret
       exact ⟨taag, taam⟩
 · rw [if_neg c3] at H
   have c3b0 : ((l0.length : Int) == (l1.length : Int)) = false := zbq.mpr c3
   have c3b1 : ((l0.length : Int) != (l1.length : Int)) = true := bne_iff_ne.mpr c3
   have c3b2 : (l0.length == l1.length) = false := by first | simpa using c3 | (simp at c3 ⊢; omega)
   obtain rfl := zbe H
   go_enter Try.func135, Try.ntmps135
   go_wp2
   repeat (go_quiet (fail); try go_wp2)
   go_ret
   exact ⟨taag, taam⟩
end Go.Proofs.Ytnlimjejllakoaa.A
