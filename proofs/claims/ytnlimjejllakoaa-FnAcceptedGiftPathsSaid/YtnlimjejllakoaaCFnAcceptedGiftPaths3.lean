/- What the law FnAcceptedGiftPaths reaches, part 3: Lean functions with the same answers as the Go functions, the proofs that the Go code comes to these answers, and lemmas about them; no condition beyond those that each theorem names. -/
import Derived.Test.YtnlimjejllakoaaCFnAcceptedGiftPathsw1
import Derived.Test.YtnlimjejllakoaaCFnAcceptedGiftPaths1
import Derived.Test.YtnlimjejllakoaaCFnAcceptedGiftPaths2
set_option linter.unusedVariables false
set_option linter.unusedSimpArgs false
set_option maxHeartbeats 8000000
set_option maxRecDepth 100000
namespace Go.Proofs.Ytnlimjejllakoaa.A
open Go.RowKit Go.Proofs.YtnlimjejllakoaaW.PrintWords Go.Proofs.YtnlimjejllakoaaW.PrintLast Go.Proofs.YtnlimjejllakoaaW.PrintMore
attribute [local go_sem] max2_int min2_int max_two min_two max_three min_three max_four min_four
mutual
def spec_l1Cur_fitting.l0 : Nat → List Int → List Int → Int → List Int → Int → Int → Option (List Int × List Int × Int × Int)
 | 0, _, _, _, _, _, _ => none
 | k + 1, x6, x7, x8, x1000, x1001, x1002 => if x8 > 0 then (spec_l1Cur_fitting.j1 k x6 x7 x8 (decide ((x7.length : Int) > 1)) x1000 x1001 x1002) else (spec_l1Cur_fitting.j1 k x6 x7 x8 false x1000 x1001 x1002)
def spec_l1Cur_fitting.j1 : Nat → List Int → List Int → Int → Bool → List Int → Int → Int → Option (List Int × List Int × Int × Int)
 | 0, _, _, _, _, _, _, _ => none
 | k + 1, x6, x7, x8, x30, x1000, x1001, x1002 => if x30 = true then ((spec_l1Cur_pick.f x1000 x1001 x1002 (x7.length : Int)).bind fun bt227 => ((spec_l1Cur_pick.f x1000 bt227.2.1 bt227.2.2 (x7.length : Int)).bind fun bt230 => (if 0 ≤ bt227.1 then (if bt227.1 < (x7.length : Int) then (if (rd x7 bt227.1) > 0 then (if 0 ≤ bt230.1 then (if bt230.1 < (x7.length : Int) then (if (rd x7 bt227.1) > (rd x7 bt230.1) then ((some (x7.set (bt227.1 : Int).toNat (wrap64 ((rd x7 bt227.1) - 1)) : List Int)).bind fun y237 => (spec_l1Cur_fitting.l0 k x6 (y237.set (bt230.1 : Int).toNat (wrap64 ((rd y237 bt230.1) + 1))) (wrap64 (x8 - 1)) x1000 bt230.2.1 bt230.2.2)) else ((spec_l1Cur_one.f x1000 bt230.2.1 bt230.2.2 4).bind fun bt240 => (if bt240.1 = true then ((some (x7.set (bt227.1 : Int).toNat (wrap64 ((rd x7 bt227.1) - 1)) : List Int)).bind fun y244 => (spec_l1Cur_fitting.l0 k x6 (y244.set (bt230.1 : Int).toNat (wrap64 ((rd y244 bt230.1) + 1))) (wrap64 (x8 - 1)) x1000 bt240.2.1 bt240.2.2)) else (spec_l1Cur_fitting.l0 k x6 x7 (wrap64 (x8 - 1)) x1000 bt240.2.1 bt240.2.2)))) else (none)) else (none)) else (spec_l1Cur_fitting.l0 k x6 x7 (wrap64 (x8 - 1)) x1000 bt230.2.1 bt230.2.2)) else (none)) else (none)))) else ((spec_l1Cur_one.f x1000 x1001 x1002 5).bind fun bt224 => (if bt224.1 = true then (some (x6, x7, bt224.2.1, bt224.2.2)) else (some (x7, x6, bt224.2.1, bt224.2.2))))
end
def spec_l1Cur_fitting.f (k : Nat) (s0_0 : List Int) (s0_1 : Int) (s0_2 : Int) (a1 : Int) : Option (List Int × List Int × Int × Int) := (spec_l1Cur_anyList.f k s0_0 s0_1 s0_2 a1).bind fun bt205 => ((spec_l1Cur_one.f s0_0 bt205.2.1 bt205.2.2 5).bind fun bt210 => (if bt210.1 = true then ((spec_l1Cur_anyList.f k s0_0 bt210.2.1 bt210.2.2 a1).bind fun bt213 => (some (bt213.1, bt205.1, bt213.2.1, bt213.2.2))) else ((spec_l1Own.f bt205.1).bind fun t218 => ((spec_l1Cur_pick.f s0_0 bt210.2.1 bt210.2.2 12).bind fun bt221 => (spec_l1Cur_fitting.l0 k bt205.1 t218 bt221.1 s0_0 bt221.2.1 bt221.2.2)))))
def spec_l1Cur_fitting.T9 : Bool × List (List Nat × List Nat) := (true, [([], []), ([], []), ([0, 1], [0, 1]), ([2], [2]), ([3], [3]), ([4], [4]), ([5], [5]), ([5], [5]), ([6, 7, 5], [5, 6, 7]), ([8, 5], [5, 8]), ([5], [5]), ([5], [5]), ([10, 11, 5], [5, 10, 11]), ([12, 5], [5, 12]), ([9, 13, 5], [5, 9, 13]), ([14, 5, 5], [5, 14]), ([15], [15]), ([16, 15, 15], [15, 16]), ([15, 17, 5], [5, 15, 17]), ([5, 18], [5, 18])])
def spec_l1Cur_fitting.B9 : List Nat := [0, 0, 3, 7, 15, 31, 63, 63, 255, 511, 63, 63, 3135, 7231, 16383, 32767, 65535, 131071, 262143, 524287]
theorem spec_l1Cur_fitting.tab9 : rtab .any (opsOf Try.f87 9) = spec_l1Cur_fitting.T9 := by kernel_rfl
theorem spec_l1Cur_fitting.bits9 : waitsOk spec_l1Cur_fitting.T9.2 spec_l1Cur_fitting.B9 = true := by kernel_rfl
theorem spec_l1Cur_fitting.calls (k : Nat) (g : Nat) (s0_0 : List Int) (s0_1 : Int) (s0_2 : Int) (a1 : Int) (r1 : List Int) (r2 : List Int) (r3 : Int) (r4 : Int) (w0 w : World) (hI : IsS75 w0 w g s0_0 s0_1 s0_2) (hB : Below w0.heap.size w0 w) (h : spec_l1Cur_fitting.f k s0_0 s0_1 s0_2 a1 = some (r1, r2, r3, r4)) :
 Calls Try.prog 87 #[.pointer (some ⟨g, 0, none⟩), .int .i64 a1] w fun e w' => ∃ v0_ v1_ : Value, e = .returned (.tuple #[v0_, v1_]) ∧ Kd.R (Kd.int .i64) 3 w' w.heap.size (fun k_ => some k_ ≠ (v1_ : Value).ownBlock) v0_ r1 ∧ Kd.R (Kd.int .i64) 3 w' w.heap.size (fun k_ => some k_ ≠ (v0_ : Value).ownBlock) v1_ r2 ∧ IsS75 w0 w' g s0_0 r3 r4 ∧ Below w0.heap.size w0 w' ∧ KeepBut w w' g none := by
 have HI0 := zad hI; have HK := zad (KeepBut.refl w g none)
 have HL := zad hB.size; clear hI; have HW0 := zad hB.size; have HB := zad hB; clear hB; have H : ((spec_l1Cur_anyList.f k s0_0 s0_1 s0_2 a1).bind fun bt205 => ((spec_l1Cur_one.f s0_0 bt205.2.1 bt205.2.2 5).bind fun bt210 => (if bt210.1 = true then ((spec_l1Cur_anyList.f k s0_0 bt210.2.1 bt210.2.2 a1).bind fun bt213 => (some (bt213.1, bt205.1, bt213.2.1, bt213.2.2))) else ((spec_l1Own.f bt205.1).bind fun t218 => ((spec_l1Cur_pick.f s0_0 bt210.2.1 bt210.2.2 12).bind fun bt221 => (spec_l1Cur_fitting.l0 k bt205.1 t218 bt221.1 s0_0 bt221.2.1 bt221.2.2)))))) = some (r1, r2, r3, r4) := h
 clear h; replace H := zay.mp H; obtain ⟨⟨t205, t208, t209⟩, A30, H⟩ := H
 replace H : ((spec_l1Cur_one.f s0_0 t208 t209 5).bind fun bt210 => (if bt210.1 = true then ((spec_l1Cur_anyList.f k s0_0 bt210.2.1 bt210.2.2 a1).bind fun bt213 => (some (bt213.1, t205, bt213.2.1, bt213.2.2))) else ((spec_l1Own.f t205).bind fun t218 => ((spec_l1Cur_pick.f s0_0 bt210.2.1 bt210.2.2 12).bind fun bt221 => (spec_l1Cur_fitting.l0 k t205 t218 bt221.1 s0_0 bt221.2.1 bt221.2.2))))) = some (r1, r2, r3, r4) := H
 have A3 := zad A30; clear A30; replace H := zay.mp H; obtain ⟨⟨t210, t211, t212⟩, A40, H⟩ := H
 replace H : (if t210 = true then ((spec_l1Cur_anyList.f k s0_0 t211 t212 a1).bind fun bt213 => (some (bt213.1, t205, bt213.2.1, bt213.2.2))) else ((spec_l1Own.f t205).bind fun t218 => ((spec_l1Cur_pick.f s0_0 t211 t212 12).bind fun bt221 => (spec_l1Cur_fitting.l0 k t205 t218 bt221.1 s0_0 bt221.2.1 bt221.2.2)))) = some (r1, r2, r3, r4) := H
 have A4 := zad A40; clear A40; by_cases c5 : t210 = true
 · subst c5
   have H1 : ((spec_l1Cur_anyList.f k s0_0 t211 t212 a1).bind fun bt213 => (some (bt213.1, t205, bt213.2.1, bt213.2.2))) = some (r1, r2, r3, r4) := by rw [if_pos rfl] at H; exact H
   clear H; have H := H1; clear H1; replace H := zay.mp H; obtain ⟨⟨t213, t216, t217⟩, A60, H⟩ := H
   replace H : (some (t213, t205, t216, t217)) = some (r1, r2, r3, r4) := H
   have A6 := zad A60; clear A60; simp only [zbl, zbp] at H
   obtain ⟨rfl, rfl, rfl, rfl⟩ := H
   go_enter Try.func87, Try.ntmps87
   go_wp2_with (first | ((with_reducible refine zbf (f := 90) rfl ?_); refine zbn (some 13) rfl rfl Try.func90 (by kernel_rfl) rfl #[.pointer (some ⟨g, 0, none⟩), .int .i64 a1] rfl (taad) ?_; (with_reducible refine (spec_l1Cur_anyList.calls k g s0_0 s0_1 s0_2 a1 t205 t208 t209 w0 _ ?side1 ?side2 A3.out).mono ?_); (case side1 => repeat (first | (with_reducible first | exact HI0.out | apply zcg | apply zch | apply zci | apply zcn | apply zco) | exact HI0.out)); (case side2 => repeat (first | (with_reducible first | exact HB.out | apply zag | apply zae | apply zaf | refine zah ?_ (zcl HI0.out)) | exact HB.out)); rintro e w7 ⟨v206, rfl, ho0, hi, hb, hk⟩; refine ⟨_, rfl, ?_⟩; have n0_ := zad (zbu ho0 (keep_size (w := w) (g := g) (row := none) (taae))); have n1_ := zad (zbs (taae) hk (.inl rfl)); have n2_ := zad (hb); have n3_ := zad (hi); clear HK HB HI0; have HO207 := n0_; have HK := n1_; have HB := n2_; have HI0 := n3_; clear n0_ n1_ n2_ n3_; (try clear hb); (try clear hb2); (try clear hk); (try clear hi); (try clear ho0)) | ((with_reducible refine zbf (f := 89) rfl ?_); refine zbn (some 15) rfl rfl Try.func89 (by kernel_rfl) rfl #[.pointer (some ⟨g, 0, none⟩), .int .i64 5] rfl (taad) ?_; (with_reducible refine (spec_l1Cur_one.calls g s0_0 t208 t209 5 true t211 t212 w0 _ ?side1 ?side2 A4.out).mono ?_); (case side1 => repeat (first | (with_reducible first | exact HI0.out | apply zcg | apply zch | apply zci | apply zcn | apply zco) | exact HI0.out)); (case side2 => repeat (first | (with_reducible first | exact HB.out | apply zag | apply zae | apply zaf | refine zah ?_ (zcl HI0.out)) | exact HB.out)); rintro e w8 ⟨rfl, hi, hb, hk⟩; refine ⟨_, rfl, ?_⟩; have n0_ := zad (zbq (zbr (zcj (show IsS75 w0 _ g s0_0 t208 t209 from by exact taes) (tabm) (by decide)) hk (fun _ h => h.2)) (fun _ h => h.1)); have n1_ := zad (zbs (taae) hk (.inl rfl)); have n2_ := zad (hb); have n3_ := zad (hi); clear HO207 HK HB HI0; have HO207 := n0_; have HK := n1_; have HB := n2_; have HI0 := n3_; clear n0_ n1_ n2_ n3_; (try clear hb); (try clear hb2); (try clear hk); (try clear hi)) | ((with_reducible refine zbf (f := 90) rfl ?_); refine zbn (some 18) rfl rfl Try.func90 (by kernel_rfl) rfl #[.pointer (some ⟨g, 0, none⟩), .int .i64 a1] rfl (taad) ?_; (with_reducible refine (spec_l1Cur_anyList.calls k g s0_0 t211 t212 a1 t213 t216 t217 w0 _ ?side1 ?side2 A6.out).mono ?_); (case side1 => repeat (first | (with_reducible first | exact HI0.out | apply zcg | apply zch | apply zci | apply zcn | apply zco) | exact HI0.out)); (case side2 => repeat (first | (with_reducible first | exact HB.out | apply zag | apply zae | apply zaf | refine zah ?_ (zcl HI0.out)) | exact HB.out)); rintro e w9 ⟨v214, rfl, ho0, hi, hb, hk⟩; refine ⟨_, rfl, ?_⟩; have n0_ := zad (zbq (Kd.R_told (Kd.R_oldK (zcj (show IsS75 w0 _ g s0_0 t211 t212 from by exact taes) (tabm) (by decide)) hk) (zcd ho0)) (fun _ h_ => h_.1)); have n1_ := zad (zbu (zcc ho0 (zce (tabm))) (keep_size (w := w) (g := g) (row := none) (taae))); have n2_ := zad (zbs (taae) hk (.inl rfl)); have n3_ := zad (hb); have n4_ := zad (hi); clear HO207 HK HB HI0; have HO207 := n0_; have HO215 := n1_; have HK := n2_; have HB := n3_; have HI0 := n4_; clear n0_ n1_ n2_ n3_ n4_; (try clear hb); (try clear hb2); (try clear hk); (try clear hi); (try clear ho0)))
   go_ret2
   exact ⟨_, _, taah, by (with_reducible repeat (first | apply zai | apply zaj | apply zak)); exact zbq HO215.out (fun _ hk => hk.2), by (with_reducible repeat (first | apply zai | apply zaj | apply zak)); exact zbq HO207.out (fun _ hk => hk.2), taaf, taal, taae⟩
 · replace c5 := zbg.mpr c5
   subst c5; have H1 : ((spec_l1Own.f t205).bind fun t218 => ((spec_l1Cur_pick.f s0_0 t211 t212 12).bind fun bt221 => (spec_l1Cur_fitting.l0 k t205 t218 bt221.1 s0_0 bt221.2.1 bt221.2.2))) = some (r1, r2, r3, r4) := by rw [if_neg (show ¬ (false = true) by decide)] at H; exact H
   clear H; have H := H1; clear H1; replace H := zay.mp H; obtain ⟨t218, A100, H⟩ := H
   replace H : ((spec_l1Cur_pick.f s0_0 t211 t212 12).bind fun bt221 => (spec_l1Cur_fitting.l0 k t205 t218 bt221.1 s0_0 bt221.2.1 bt221.2.2)) = some (r1, r2, r3, r4) := H
   have A10 := zad A100; clear A100; replace H := zay.mp H; obtain ⟨⟨t221, t222, t223⟩, A110, H⟩ := H
   replace H : (spec_l1Cur_fitting.l0 k t205 t218 t221 s0_0 t222 t223) = some (r1, r2, r3, r4) := H
   have A11 := zad A110; clear A110; have H' := zad H
   clear H; go_enter Try.func87, Try.ntmps87
   go_wp2_with (first | ((with_reducible refine zbf (f := 90) rfl ?_); refine zbn (some 13) rfl rfl Try.func90 (by kernel_rfl) rfl #[.pointer (some ⟨g, 0, none⟩), .int .i64 a1] rfl (taad) ?_; (with_reducible refine (spec_l1Cur_anyList.calls k g s0_0 s0_1 s0_2 a1 t205 t208 t209 w0 _ ?side1 ?side2 A3.out).mono ?_); (case side1 => repeat (first | (with_reducible first | exact HI0.out | apply zcg | apply zch | apply zci | apply zcn | apply zco) | exact HI0.out)); (case side2 => repeat (first | (with_reducible first | exact HB.out | apply zag | apply zae | apply zaf | refine zah ?_ (zcl HI0.out)) | exact HB.out)); rintro e w12 ⟨v206, rfl, ho0, hi, hb, hk⟩; refine ⟨_, rfl, ?_⟩; have n0_ := zad (zbu ho0 (keep_size (w := w) (g := g) (row := none) (taae))); have n1_ := zad (zbs (taae) hk (.inl rfl)); have n2_ := zad (hb); have n3_ := zad (hi); clear HK HB HI0; have HO207 := n0_; have HK := n1_; have HB := n2_; have HI0 := n3_; clear n0_ n1_ n2_ n3_; (try clear hb); (try clear hb2); (try clear hk); (try clear hi); (try clear ho0)) | ((with_reducible refine zbf (f := 89) rfl ?_); refine zbn (some 15) rfl rfl Try.func89 (by kernel_rfl) rfl #[.pointer (some ⟨g, 0, none⟩), .int .i64 5] rfl (taad) ?_; (with_reducible refine (spec_l1Cur_one.calls g s0_0 t208 t209 5 false t211 t212 w0 _ ?side1 ?side2 A4.out).mono ?_); (case side1 => repeat (first | (with_reducible first | exact HI0.out | apply zcg | apply zch | apply zci | apply zcn | apply zco) | exact HI0.out)); (case side2 => repeat (first | (with_reducible first | exact HB.out | apply zag | apply zae | apply zaf | refine zah ?_ (zcl HI0.out)) | exact HB.out)); rintro e w13 ⟨rfl, hi, hb, hk⟩; refine ⟨_, rfl, ?_⟩; have n0_ := zad (zbq (zbr (zcj (show IsS75 w0 _ g s0_0 t208 t209 from by exact taes) (tabm) (by decide)) hk (fun _ h => h.2)) (fun _ h => h.1)); have n1_ := zad (zbs (taae) hk (.inl rfl)); have n2_ := zad (hb); have n3_ := zad (hi); clear HO207 HK HB HI0; have HO207 := n0_; have HK := n1_; have HB := n2_; have HI0 := n3_; clear n0_ n1_ n2_ n3_; (try clear hb); (try clear hb2); (try clear hk); (try clear hi); obtain ⟨Ao14, co14, eo14⟩ := zbv HO207.out; subst eo14) | ((with_reducible refine zbf (f := 111) rfl ?_); refine zbn (some 21) rfl rfl Try.func111 (by kernel_rfl) rfl #[.slice Ao14 t205.length co14] rfl (taad) ?_; (with_reducible refine (spec_l1Own.calls _ _ t205 t218 _ ?side1 ?side2 A10.out).mono ?_); (case side1 => repeat (first | exact (zbd HO207.out).2.2 | (with_reducible refine zal ?_ _) | (with_reducible refine zam ?_ _) | (with_reducible refine zan ?_))); (case side2 => exact (zbd HO207.out).2.1); rintro e w15 ⟨v219, rfl, ho0, hb⟩; refine ⟨_, rfl, ?_⟩; have n0_ := zad (zcb (tabm) (zcd ho0) hb); have n1_ := zad (zbu (zcc ho0 (zce (tabm))) (keep_size (w := w) (g := g) (row := none) (taae))); have n2_ := zad (IsS75.below (taaf) hb); have n3_ := zad (zbs (taae) (KeepBut.of_below hb g none) (.inl rfl)); have n4_ := zad (zbe (taal) hb); clear HO207 HI0 HK HB; have HO207 := n0_; have HO220 := n1_; have HI0 := n2_; have HK := n3_; have HB := n4_; clear n0_ n1_ n2_ n3_ n4_; (try clear hb); (try clear hb2); (try clear hk); (try clear hi); (try clear ho0)) | ((with_reducible refine zbf (f := 80) rfl ?_); refine zbn (some 23) rfl rfl Try.func80 (by kernel_rfl) rfl #[.pointer (some ⟨g, 0, none⟩), .int .i64 12] rfl (taad) ?_; (with_reducible refine (spec_l1Cur_pick.calls g s0_0 t211 t212 12 t221 t222 t223 w0 _ ?side1 ?side2 A11.out).mono ?_); (case side1 => repeat (first | (with_reducible first | exact HI0.out | apply zcg | apply zch | apply zci | apply zcn | apply zco) | exact HI0.out)); (case side2 => repeat (first | (with_reducible first | exact HB.out | apply zag | apply zae | apply zaf | refine zah ?_ (zcl HI0.out)) | exact HB.out)); rintro e w16 ⟨rfl, hi, hb, hk⟩; refine ⟨_, rfl, ?_⟩; have n0_ := zad (zbq (zbr (zcj (show IsS75 w0 _ g s0_0 t211 t212 from by exact taes) (tabm) (by decide)) hk (fun _ h => h.2)) (fun _ h => h.1)); have n1_ := zad (zbq (zbr (zcj (show IsS75 w0 _ g s0_0 t211 t212 from by exact taes) (by (with_reducible repeat (first | apply zai | apply zaj | apply zak)); exact HO220.out) (by decide)) hk (fun _ h => h.2)) (fun _ h => h.1)); have n2_ := zad (zbs (taae) hk (.inl rfl)); have n3_ := zad (hb); have n4_ := zad (hi); clear HO207 HO220 HK HB HI0; have HO207 := n0_; have HO220 := n1_; have HK := n2_; have HB := n3_; have HI0 := n4_; clear n0_ n1_ n2_ n3_ n4_; (try clear hb); (try clear hb2); (try clear hk); (try clear hi)))
   go_loopg [8] k (fun kq v8 w' => ∃ (x7_1 : List Int) (x8_1 : Int) (x1001_1 : Int) (x1002_1 : Int), v8 = .int .i64 x8_1 ∧ Aside0 (spec_l1Cur_fitting.l0 kq t205 x7_1 x8_1 s0_0 x1001_1 x1002_1 = some (r1, r2, r3, r4)) ∧ Aside0 (kq ≤ k) ∧ Aside0 (Kd.R (Kd.int .i64) 3 w' w.heap.size (fun k_ => some k_ ≠ (v219 : Value).ownBlock) (.slice Ao14 t205.length co14) t205) ∧ Aside0 (Kd.R (Kd.int .i64) 3 w' w.heap.size (fun k_ => some k_ ≠ ((.slice Ao14 t205.length co14) : Value).ownBlock) v219 x7_1) ∧ Aside0 (IsS75 w0 w' g s0_0 x1001_1 x1002_1) ∧ Aside0 (KeepBut w w' g none) ∧ Aside0 (Below w0.heap.size w0 w'))
   case atStart => exact ⟨(t218), (t221), (t222), (t223), (taag), H', ⟨zcf _⟩, ⟨by (with_reducible repeat (first | apply zai | apply zaj | apply zak)); exact zbq HO207.out (fun _ hk => hk.2)⟩, ⟨by (with_reducible repeat (first | apply zai | apply zaj | apply zak)); exact zbq HO220.out (fun _ hk => hk.2)⟩, ⟨taaf⟩, ⟨taae⟩, ⟨taal⟩⟩
   case round =>
    clear H'
    try clear c1
    try clear p2
    try clear c5
    try clear c8
    try clear c9
    try clear c11
    obtain ⟨x7_1, x8_1, x1001_1, x1002_1, rfl, HA, HK1, HO_6, HO_7, HI0, HK, HB⟩ := hrel
    cases gk with
    | zero => exact absurd HA.out (by simp [spec_l1Cur_fitting.l0])
    | succ k1 =>
     have H := HA.out
     clear HA; simp only [spec_l1Cur_fitting.l0] at H
     have HC17 := zad H; clear H; go_upto_region 6 with (fail)
     go_cut [30] (fun v30 wc => ∃ (kq : Nat) (x30_16 : Bool), v30 = .bool x30_16 ∧ Aside0 (spec_l1Cur_fitting.j1 kq t205 x7_1 x8_1 x30_16 s0_0 x1001_1 x1002_1 = some (r1, r2, r3, r4)) ∧ Aside0 (kq ≤ k1) ∧ Aside0 (Kd.R (Kd.int .i64) 3 wc w.heap.size (fun k_ => some k_ ≠ (v219 : Value).ownBlock) (.slice Ao14 t205.length co14) t205) ∧ Aside0 (Kd.R (Kd.int .i64) 3 wc w.heap.size (fun k_ => some k_ ≠ ((.slice Ao14 t205.length co14) : Value).ownBlock) v219 x7_1) ∧ Aside0 (IsS75 w0 wc g s0_0 x1001_1 x1002_1) ∧ Aside0 (KeepBut w wc g none) ∧ Aside0 (Below w0.heap.size w0 wc))
     case first =>
      have H := HC17.out
      clear HC17; by_cases c18 : x8_1 > 0
      · rw [if_pos c18] at H
        have c18b0 : decide (0 < x8_1) = true := zba c18
        clear c18; (first | rw [c18b0] | (simp only [zbw, zbx]; rw [c18b0]) | skip)
        have H' := zad H
        clear H; obtain ⟨Ao19, co19, eo19⟩ := zbv HO_7.out
        subst eo19; go_wp2
        go_meet
        case rel => exact ⟨_, (decide ((x7_1.length : Int) > 1)), (taag), H', ⟨by have := HK1.out; first | omega | exact zcf _⟩, ⟨taaj⟩, ⟨taai⟩, ⟨taaf⟩, ⟨taae⟩, ⟨taal⟩⟩
      · rw [if_neg c18] at H
        have c18b0 : decide (0 < x8_1) = false := zbh c18
        clear c18; (first | rw [c18b0] | (simp only [zbw, zbx]; rw [c18b0]) | skip)
        have H' := zad H
        clear H; go_wp2
        go_meet
        case rel => exact ⟨_, (false), (taag), H', ⟨by have := HK1.out; first | omega | exact zcf _⟩, ⟨taaj⟩, ⟨taai⟩, ⟨taaf⟩, ⟨taae⟩, ⟨taal⟩⟩
     case rest =>
      clear HC17; try clear c1
      try clear p2
      try clear c5
      try clear c8
      try clear c9
      try clear c11
      try clear c18
      try clear c18b0
      try clear p2
      obtain ⟨kq, x30_16, rfl, HA, HJ16, HO_6, HO_7, HI0, HK, HB⟩ := hcut
      cases kq with
      | zero => exact absurd HA.out (by simp [spec_l1Cur_fitting.j1])
      | succ kj16 =>
       have H := HA.out
       clear HA; simp only [spec_l1Cur_fitting.j1] at H
       by_cases c20 : x30_16 = true
       · subst c20
         have H1 : ((spec_l1Cur_pick.f s0_0 x1001_1 x1002_1 (x7_1.length : Int)).bind fun bt227 => ((spec_l1Cur_pick.f s0_0 bt227.2.1 bt227.2.2 (x7_1.length : Int)).bind fun bt230 => (if 0 ≤ bt227.1 then (if bt227.1 < (x7_1.length : Int) then (if (rd x7_1 bt227.1) > 0 then (if 0 ≤ bt230.1 then (if bt230.1 < (x7_1.length : Int) then (if (rd x7_1 bt227.1) > (rd x7_1 bt230.1) then ((some (x7_1.set (bt227.1 : Int).toNat (wrap64 ((rd x7_1 bt227.1) - 1)) : List Int)).bind fun y237 => (spec_l1Cur_fitting.l0 kj16 t205 (y237.set (bt230.1 : Int).toNat (wrap64 ((rd y237 bt230.1) + 1))) (wrap64 (x8_1 - 1)) s0_0 bt230.2.1 bt230.2.2)) else ((spec_l1Cur_one.f s0_0 bt230.2.1 bt230.2.2 4).bind fun bt240 => (if bt240.1 = true then ((some (x7_1.set (bt227.1 : Int).toNat (wrap64 ((rd x7_1 bt227.1) - 1)) : List Int)).bind fun y244 => (spec_l1Cur_fitting.l0 kj16 t205 (y244.set (bt230.1 : Int).toNat (wrap64 ((rd y244 bt230.1) + 1))) (wrap64 (x8_1 - 1)) s0_0 bt240.2.1 bt240.2.2)) else (spec_l1Cur_fitting.l0 kj16 t205 x7_1 (wrap64 (x8_1 - 1)) s0_0 bt240.2.1 bt240.2.2)))) else (none)) else (none)) else (spec_l1Cur_fitting.l0 kj16 t205 x7_1 (wrap64 (x8_1 - 1)) s0_0 bt230.2.1 bt230.2.2)) else (none)) else (none)))) = some (r1, r2, r3, r4) := by rw [if_pos rfl] at H; exact H
         clear H; have H := H1; clear H1; replace H := zay.mp H; obtain ⟨⟨t227, t228, t229⟩, A210, H⟩ := H
         replace H : ((spec_l1Cur_pick.f s0_0 t228 t229 (x7_1.length : Int)).bind fun bt230 => (if 0 ≤ t227 then (if t227 < (x7_1.length : Int) then (if (rd x7_1 t227) > 0 then (if 0 ≤ bt230.1 then (if bt230.1 < (x7_1.length : Int) then (if (rd x7_1 t227) > (rd x7_1 bt230.1) then ((some (x7_1.set (t227 : Int).toNat (wrap64 ((rd x7_1 t227) - 1)) : List Int)).bind fun y237 => (spec_l1Cur_fitting.l0 kj16 t205 (y237.set (bt230.1 : Int).toNat (wrap64 ((rd y237 bt230.1) + 1))) (wrap64 (x8_1 - 1)) s0_0 bt230.2.1 bt230.2.2)) else ((spec_l1Cur_one.f s0_0 bt230.2.1 bt230.2.2 4).bind fun bt240 => (if bt240.1 = true then ((some (x7_1.set (t227 : Int).toNat (wrap64 ((rd x7_1 t227) - 1)) : List Int)).bind fun y244 => (spec_l1Cur_fitting.l0 kj16 t205 (y244.set (bt230.1 : Int).toNat (wrap64 ((rd y244 bt230.1) + 1))) (wrap64 (x8_1 - 1)) s0_0 bt240.2.1 bt240.2.2)) else (spec_l1Cur_fitting.l0 kj16 t205 x7_1 (wrap64 (x8_1 - 1)) s0_0 bt240.2.1 bt240.2.2)))) else (none)) else (none)) else (spec_l1Cur_fitting.l0 kj16 t205 x7_1 (wrap64 (x8_1 - 1)) s0_0 bt230.2.1 bt230.2.2)) else (none)) else (none))) = some (r1, r2, r3, r4) := H
         have A21 := zad A210; clear A210; replace H := zay.mp H; obtain ⟨⟨t230, t231, t232⟩, A220, H⟩ := H
         replace H : (if 0 ≤ t227 then (if t227 < (x7_1.length : Int) then (if (rd x7_1 t227) > 0 then (if 0 ≤ t230 then (if t230 < (x7_1.length : Int) then (if (rd x7_1 t227) > (rd x7_1 t230) then ((some (x7_1.set (t227 : Int).toNat (wrap64 ((rd x7_1 t227) - 1)) : List Int)).bind fun y237 => (spec_l1Cur_fitting.l0 kj16 t205 (y237.set (t230 : Int).toNat (wrap64 ((rd y237 t230) + 1))) (wrap64 (x8_1 - 1)) s0_0 t231 t232)) else ((spec_l1Cur_one.f s0_0 t231 t232 4).bind fun bt240 => (if bt240.1 = true then ((some (x7_1.set (t227 : Int).toNat (wrap64 ((rd x7_1 t227) - 1)) : List Int)).bind fun y244 => (spec_l1Cur_fitting.l0 kj16 t205 (y244.set (t230 : Int).toNat (wrap64 ((rd y244 t230) + 1))) (wrap64 (x8_1 - 1)) s0_0 bt240.2.1 bt240.2.2)) else (spec_l1Cur_fitting.l0 kj16 t205 x7_1 (wrap64 (x8_1 - 1)) s0_0 bt240.2.1 bt240.2.2)))) else (none)) else (none)) else (spec_l1Cur_fitting.l0 kj16 t205 x7_1 (wrap64 (x8_1 - 1)) s0_0 t231 t232)) else (none)) else (none)) = some (r1, r2, r3, r4) := H
         have A22 := zad A220; clear A220; by_cases c23 : 0 ≤ t227
         · rw [if_pos c23] at H
           have c23b0 : decide (0 ≤ t227) = true := zba c23
           clear c23; by_cases c24 : t227 < (x7_1.length : Int)
           · rw [if_pos c24] at H
             have c24b0 : decide (t227 < (x7_1.length : Int)) = true := zba c24
             clear c24; by_cases c25 : (rd x7_1 t227) > 0
             · rw [if_pos c25] at H
               have c25b0 : decide (0 < (rd x7_1 t227)) = true := zba c25
               clear c25; by_cases c26 : 0 ≤ t230
               · rw [if_pos c26] at H
                 have c26b0 : decide (0 ≤ t230) = true := zba c26
                 clear c26; by_cases c27 : t230 < (x7_1.length : Int)
                 · rw [if_pos c27] at H
                   have c27b0 : decide (t230 < (x7_1.length : Int)) = true := zba c27
                   clear c27; by_cases c28 : (rd x7_1 t227) > (rd x7_1 t230)
                   · rw [if_pos c28] at H
                     have c28b0 : decide ((rd x7_1 t230) < (rd x7_1 t227)) = true := zba c28
                     clear c28; obtain ⟨y237, hy237⟩ : ∃ y_ : List Int, y_ = (x7_1.set (t227 : Int).toNat (wrap64 ((rd x7_1 t227) - 1))) := ⟨_, rfl⟩
                     replace H : (spec_l1Cur_fitting.l0 kj16 t205 (y237.set (t230 : Int).toNat (wrap64 ((rd y237 t230) + 1))) (wrap64 (x8_1 - 1)) s0_0 t231 t232) = some (r1, r2, r3, r4) := by first | (rw [hy237]; with_reducible exact H) | (have H2_ := (zbb _ _).symm.trans H; rw [hy237]; with_reducible exact H2_) | (have H2_ := (zbb _ _).symm.trans H; with_reducible exact H2_) | with_reducible exact H | (rw [hy237]; exact H) | exact H
                     have Ny237 := zad hy237; clear hy237; obtain ⟨y239, hy239⟩ : ∃ y_ : List Int, y_ = (y237.set (t230 : Int).toNat (wrap64 ((rd y237 t230) + 1))) := ⟨_, rfl⟩
                     replace H : (spec_l1Cur_fitting.l0 kj16 t205 y239 (wrap64 (x8_1 - 1)) s0_0 t231 t232) = some (r1, r2, r3, r4) := by first | (rw [hy239]; with_reducible exact H) | (have H2_ := (zbb _ _).symm.trans H; rw [hy239]; with_reducible exact H2_) | (have H2_ := (zbb _ _).symm.trans H; with_reducible exact H2_) | with_reducible exact H | (rw [hy239]; exact H) | exact H
                     have Ny239 := zad hy239; clear hy239; have H' := zad H
                     clear H; obtain ⟨Ao31, co31, eo31⟩ := zbv HO_7.out
                     subst eo31; try go_wp2_with (first | ((with_reducible refine zbf (f := 80) rfl ?_); refine zbn (some 36) rfl rfl Try.func80 (by kernel_rfl) rfl #[.pointer (some ⟨g, 0, none⟩), .int .i64 (x7_1.length : Int)] rfl (taad) ?_; (with_reducible refine (spec_l1Cur_pick.calls g s0_0 x1001_1 x1002_1 (x7_1.length : Int) t227 t228 t229 w0 _ ?side1 ?side2 A21.out).mono ?_); (case side1 => repeat (first | (with_reducible first | exact HI0.out | apply zcg | apply zch | apply zci | apply zcn | apply zco) | exact HI0.out)); (case side2 => repeat (first | (with_reducible first | exact HB.out | apply zag | apply zae | apply zaf | refine zah ?_ (zcl HI0.out)) | exact HB.out)); rintro e w32 ⟨rfl, hi, hb, hk⟩; refine ⟨_, rfl, ?_⟩; have n0_ := zad (zbq (zbr (zcj (show IsS75 w0 _ g s0_0 x1001_1 x1002_1 from by exact taes) (taaj) (by decide)) hk (fun _ h => h.2)) (fun _ h => h.1)); have n1_ := zad (zbq (zbr (zcj (show IsS75 w0 _ g s0_0 x1001_1 x1002_1 from by exact taes) (taai) (by decide)) hk (fun _ h => h.2)) (fun _ h => h.1)); have n2_ := zad (zbs (taae) hk (.inl rfl)); have n3_ := zad (hb); have n4_ := zad (hi); clear HO_6 HO_7 HK HB HI0; have HO_6 := n0_; have HO_7 := n1_; have HK := n2_; have HB := n3_; have HI0 := n4_; clear n0_ n1_ n2_ n3_ n4_; (try clear hb); (try clear hb2); (try clear hk); (try clear hi)) | ((with_reducible refine zbf (f := 80) rfl ?_); refine zbn (some 40) rfl rfl Try.func80 (by kernel_rfl) rfl #[.pointer (some ⟨g, 0, none⟩), .int .i64 (x7_1.length : Int)] rfl (taad) ?_; (with_reducible refine (spec_l1Cur_pick.calls g s0_0 t228 t229 (x7_1.length : Int) t230 t231 t232 w0 _ ?side1 ?side2 A22.out).mono ?_); (case side1 => repeat (first | (with_reducible first | exact HI0.out | apply zcg | apply zch | apply zci | apply zcn | apply zco) | exact HI0.out)); (case side2 => repeat (first | (with_reducible first | exact HB.out | apply zag | apply zae | apply zaf | refine zah ?_ (zcl HI0.out)) | exact HB.out)); rintro e w33 ⟨rfl, hi, hb, hk⟩; refine ⟨_, rfl, ?_⟩; have n0_ := zad (zbq (zbr (zcj (show IsS75 w0 _ g s0_0 t228 t229 from by exact taes) (taaj) (by decide)) hk (fun _ h => h.2)) (fun _ h => h.1)); have n1_ := zad (zbq (zbr (zcj (show IsS75 w0 _ g s0_0 t228 t229 from by exact taes) (taai) (by decide)) hk (fun _ h => h.2)) (fun _ h => h.1)); have n2_ := zad (zbs (taae) hk (.inl rfl)); have n3_ := zad (hb); have n4_ := zad (hi); clear HO_6 HO_7 HK HB HI0; have HO_6 := n0_; have HO_7 := n1_; have HK := n2_; have HB := n3_; have HI0 := n4_; clear n0_ n1_ n2_ n3_ n4_; (try clear hb); (try clear hb2); (try clear hk); (try clear hi)))
                     have n0_ := zad (zak HO_6.out)
                     have n1_ := zad (zak HO_7.out)
                     have n2_ := zad (zci HI0.out)
                     have n3_ := zad (zaq HK.out)
                     have n4_ := zad (zaf HB.out)
                     clear HO_6 HO_7 HI0 HK HB; have HO_6 := n0_; have HO_7 := n1_; have HI0 := n2_; have HK := n3_; have HB := n4_; clear n0_ n1_ n2_ n3_ n4_; have p233 : 0 ≤ (t227 : Int) := zas (taab)
                     have q233 : t227 < (x7_1.length : Int) := zas (taab)
                     obtain ⟨ad233, e233, hx233_0⟩ := zca (zbd HO_7.out).2.2 t227 p233 q233
                     cases e233
                     replace p233 := eq_true p233
                     replace q233 := eq_true q233
                     have p234 : 0 ≤ (t227 : Int) := zas (taab)
                     have q234 : t227 < (x7_1.length : Int) := zas (taab)
                     obtain ⟨ad234, e234, hx234_0⟩ := zca (zbd HO_7.out).2.2 t227 p234 q234
                     obtain rfl : ad233 = ad234 := (by injection e234)
                     replace p234 := eq_true p234
                     replace q234 := eq_true q234
                     have p235 : 0 ≤ (t230 : Int) := zas (taab)
                     have q235 : t230 < (x7_1.length : Int) := zas (taab)
                     obtain ⟨ad235, e235, hx235_0⟩ := zca (zbd HO_7.out).2.2 t230 p235 q235
                     obtain rfl : ad233 = ad235 := (by injection e235)
                     replace p235 := eq_true p235
                     replace q235 := eq_true q235
                     refine start_ (n := 20) (S := fun w' => w'.cell? (ad233.add (t227).toNat) = some (.int .i64 (rd x7_1 t227)) ∧ w'.cell? (ad233.add (t227).toNat) = some (.int .i64 (rd x7_1 t227)) ∧ w'.cell? (ad233.add (t230).toNat) = some (.int .i64 (rd x7_1 t230))) (ds := []) #[false, false, false, false, false, false, false, false, false, false, false, false, false, false, false, false, false, false, false, false] (by kernel_rfl) rfl rfl ⟨hx233_0, hx234_0, hx235_0⟩ (fun hHeld => ?_); refine with_tabW spec_l1Cur_fitting.tab9 spec_l1Cur_fitting.bits9 (fun HT_ HW_ => ?_)
                     generalize w33.drew = w34 at HO_6 HO_7 HI0 HK HB hx233_0 hx234_0 hx235_0 hHeld ⊢
                     refine pure_ (i := 0) (N := some 41) (v := ?_) (a' := ?_) tail rfl rfl (zby HT_.out (by kernel_rfl)) (fun _ _ _ h => h) (Or.inl ⟨by rfl, ?_⟩) ?_ ?_
                     rotate_left
                     · intro w'
                       go_simp; with_reducible rfl
                     rotate_left
                     · simp only [Act.put, zaa, zab, zac, zbw, zbx]
                       rfl
                     refine pure_ (i := 1) (N := some 42) (v := ?_) (a' := ?_) taim rfl rfl (zby HT_.out (by kernel_rfl)) (fun _ _ _ h => h) (Or.inl ⟨by rfl, ?_⟩) ?_ ?_
                     rotate_left
                     · intro w'
                       go_simp; with_reducible rfl
                     rotate_left
                     · simp only [Act.put, zaa, zab, zac, zbw, zbx]
                       rfl
                     refine pure_ (i := 2) (N := some 43) (v := ?_) (a' := ?_) tain rfl rfl (zby HT_.out (by kernel_rfl)) (fun _ _ _ h => h) (Or.inl ⟨by rfl, ?_⟩) ?_ ?_
                     rotate_left
                     · intro w'
                       go_simp; with_reducible rfl
                     rotate_left
                     · simp only [Act.put, zaa, zab, zac, zbw, zbx]
                       rfl
                     refine take_ (i := 3) (N := some 44) (v := ?_) (a' := ?_) taio rfl rfl (zbz HT_.out HW_.out (by kernel_rfl)) (fun _ _ _ h => h) (Or.inl ⟨by rfl, ?_⟩) hHeld ?_ ?_
                     rotate_left
                     · rintro w' ⟨s0, s1, s2⟩
                       go_simp; with_reducible rfl
                     rotate_left
                     · simp only [Act.put, zaa, zab, zac, zbw, zbx]
                       rfl
                     refine pure_ (i := 4) (N := some 45) (v := ?_) (a' := ?_) taip rfl rfl (zby HT_.out (by kernel_rfl)) (fun _ _ _ h => h) (Or.inl ⟨by rfl, ?_⟩) ?_ ?_
                     rotate_left
                     · intro w'
                       go_simp; with_reducible rfl
                     rotate_left
                     · simp only [Act.put, zaa, zab, zac, zbw, zbx]
                       rfl
                     refine pure_ (i := 5) (N := some 46) (v := ?_) (a' := ?_) taiq rfl rfl (zby HT_.out (by kernel_rfl)) (fun _ _ _ h => h) (Or.inl ⟨by rfl, ?_⟩) ?_ ?_
                     rotate_left
                     · intro w'
                       go_simp; with_reducible rfl
                     rotate_left
                     · simp only [Act.put, zaa, zab, zac, zbw, zbx]
                       rfl
                     refine pure_ (i := 6) (N := some 47) (v := ?_) (a' := ?_) tair rfl rfl (zby HT_.out (by kernel_rfl)) (fun _ _ _ h => h) (Or.inl ⟨by rfl, ?_⟩) ?_ ?_
                     rotate_left
                     · intro w'
                       go_simp; with_reducible rfl
                     rotate_left
                     · simp only [Act.put, zaa, zab, zac, zbw, zbx]
                       rfl
                     refine pure_ (i := 7) (N := some 48) (v := ?_) (a' := ?_) tais rfl rfl (zby HT_.out (by kernel_rfl)) (fun _ _ _ h => h) (Or.inl ⟨by rfl, ?_⟩) ?_ ?_
                     rotate_left
                     · intro w'
                       go_simp; with_reducible rfl
                     rotate_left
                     · simp only [Act.put, zaa, zab, zac, zbw, zbx]
                       rfl
                     refine pure_ (i := 8) (N := some 49) (v := ?_) (a' := ?_) tait rfl rfl (zby HT_.out (by kernel_rfl)) (fun _ _ _ h => h) (Or.inl ⟨by rfl, ?_⟩) ?_ ?_
                     rotate_left
                     · intro w'
                       go_simp; with_reducible rfl
                     rotate_left
                     · simp only [Act.put, zaa, zab, zac, zbw, zbx]
                       rfl
                     refine pure_ (i := 10) (N := some 51) (v := ?_) (a' := ?_) taiu rfl rfl (zby HT_.out (by kernel_rfl)) (fun _ _ _ h => h) (Or.inl ⟨by rfl, ?_⟩) ?_ ?_
                     rotate_left
                     · intro w'
                       go_simp; with_reducible rfl
                     rotate_left
                     · simp only [Act.put, zaa, zab, zac, zbw, zbx]
                       rfl
                     refine pure_ (i := 11) (N := some 52) (v := ?_) (a' := ?_) taiv rfl rfl (zby HT_.out (by kernel_rfl)) (fun _ _ _ h => h) (Or.inl ⟨by rfl, ?_⟩) ?_ ?_
                     rotate_left
                     · intro w'
                       go_simp; with_reducible rfl
                     rotate_left
                     · simp only [Act.put, zaa, zab, zac, zbw, zbx]
                       rfl
                     refine pure_ (i := 12) (N := some 53) (v := ?_) (a' := ?_) taiw rfl rfl (zby HT_.out (by kernel_rfl)) (fun _ _ _ h => h) (Or.inl ⟨by rfl, ?_⟩) ?_ ?_
                     rotate_left
                     · intro w'
                       go_simp; with_reducible rfl
                     rotate_left
                     · simp only [Act.put, zaa, zab, zac, zbw, zbx]
                       rfl
                     refine take_ (i := 9) (N := some 50) (v := ?_) (a' := ?_) taix rfl rfl (zbz HT_.out HW_.out (by kernel_rfl)) (fun _ _ _ h => h) (Or.inl ⟨by rfl, ?_⟩) hHeld ?_ ?_
                     rotate_left
                     · rintro w' ⟨s0, s1, s2⟩
                       go_simp; with_reducible rfl
                     rotate_left
                     · simp only [Act.put, zaa, zab, zac, zbw, zbx]
                       rfl
                     refine take_ (i := 13) (N := some 54) (v := ?_) (a' := ?_) taiy rfl rfl (zbz HT_.out HW_.out (by kernel_rfl)) (fun _ _ _ h => h) (Or.inl ⟨by rfl, ?_⟩) hHeld ?_ ?_
                     rotate_left
                     · rintro w' ⟨s0, s1, s2⟩
                       go_simp; with_reducible rfl
                     rotate_left
                     · simp only [Act.put, zaa, zab, zac, zbw, zbx]
                       rfl
                     refine pure_ (i := 14) (N := some 55) (v := ?_) (a' := ?_) taiz rfl rfl (zby HT_.out (by kernel_rfl)) (fun _ _ _ h => h) (Or.inl ⟨by rfl, ?_⟩) ?_ ?_
                     rotate_left
                     · intro w'
                       go_simp; with_reducible rfl
                     rotate_left
                     · simp only [Act.put, zaa, zab, zac, zbw, zbx]
                       rfl
                     refine pure_ (i := 15) (N := some 56) (v := ?_) (a' := ?_) taja rfl rfl (zby HT_.out (by kernel_rfl)) (fun _ _ _ h => h) (Or.inl ⟨by rfl, ?_⟩) ?_ ?_
                     rotate_left
                     · intro w'
                       go_simp; with_reducible rfl
                     rotate_left
                     · simp only [Act.put, zaa, zab, zac, zbw, zbx]
                       rfl
                     refine pure_ (i := 16) (N := some 57) (v := undef) (a' := ?_) tajb rfl rfl (zby HT_.out (by kernel_rfl)) (fun _ _ _ h => h) (Or.inr ⟨by rfl, rfl⟩) ?_ ?_
                     rotate_left
                     · simp only [Act.put, zaa, zab, zac, zbw, zbx]
                       rfl
                     refine pure_ (i := 17) (N := some 58) (v := undef) (a' := ?_) tajc rfl rfl (zby HT_.out (by kernel_rfl)) (fun _ _ _ h => h) (Or.inr ⟨by rfl, rfl⟩) ?_ ?_
                     rotate_left
                     · simp only [Act.put, zaa, zab, zac, zbw, zbx]
                       rfl
                     refine pure_ (i := 18) (N := some 59) (v := ?_) (a' := ?_) tajd rfl rfl (zby HT_.out (by kernel_rfl)) (fun _ _ _ h => h) (Or.inl ⟨by rfl, ?_⟩) ?_ ?_
                     rotate_left
                     · intro w'
                       go_simp; with_reducible rfl
                     rotate_left
                     · simp only [Act.put, zaa, zab, zac, zbw, zbx]
                       rfl
                     refine pure_ (i := 19) (N := some 60) (v := ?_) (a' := ?_) taje rfl rfl (zby HT_.out (by kernel_rfl)) (fun _ _ _ h => h) (Or.inl ⟨by rfl, ?_⟩) ?_ ?_
                     rotate_left
                     · intro w'
                       go_simp; with_reducible rfl
                     rotate_left
                     · simp only [Act.put, zaa, zab, zac, zbw, zbx]
                       rfl
                     refine done_ (done_of HT_.out (by kernel_rfl)) ?_
                     have p236 : 0 ≤ (t227 : Int) := zas (taab)
                     have q236 : t227 < (x7_1.length : Int) := zas (taab)
                     obtain ⟨ad236, e236, hx236_0⟩ := zca (zbd HO_7.out).2.2 t227 p236 q236
                     obtain rfl : ad233 = ad236 := (by injection e236)
                     replace p236 := eq_true p236
                     replace q236 := eq_true q236
                     have p29 : 0 ≤ (t227 : Int) := zas (taab)
                     have q29 : (t227 : Int) < ((x7_1.length : Int) : Int) := zas (taab)
                     obtain ⟨go29, co29, eo29, gb29, gl29, cl29, HG29⟩ := Kd.R_form HO_7.out (by omega)
                     (first | cases eo29 | (injection eo29 with ea_ en_ ec_; (first | subst ea_ | (injection ea_ with ea_; subst ea_)); subst ec_; clear en_))
                     have GB29 := zad gb29; have GG29 := zad HG29; clear gb29 gl29 HG29; (first | simp only [add_plain] at hx233_0 | skip)
                     (first | simp only [add_plain] at hx234_0 | skip)
                     (first | simp only [add_plain] at hx235_0 | skip)
                     (first | simp only [add_plain] at hx236_0 | skip)
                     obtain ⟨hx29_0, hf29_0⟩ := Kd.R_celln 0 HO_7.out (t227 : Int) p29 q29
                     replace p29 := eq_true p29
                     replace q29 := eq_true q29
                     obtain ⟨hy35_, hz35_⟩ := Kd.R_celln 0 HO_7.out (t227 : Int) (zas (taab)) (zas (taab))
                     have HP35 := Kd.R_putg HO_7.out (t227 : Int) (wrap64 ((rd x7_1 t227) - 1))
                     try go_wp2_with (first | ((with_reducible refine gate_store (t := 3) (p := 66) rfl ?_); refine store_event (t := 3) (p := 66) (v := ?vo_w36) (w1 := (w34.setCell ⟨go29, (t227 : Int).toNat, none⟩ (.int .i64 (wrap64 ((rd x7_1 t227) - 1))))) ?hg ?ho ?hn ?hr ?_; (case ho => rfl); (case hg => rfl); (case hn => rfl); (case hr => first | (go_simp; done) | (go_simp; rfl)); intro w36 hw; have hg : w34.grownBy w36 (some go29) := (by rw [hw]; exact HP35.2); have hp_ : Kd.R (Kd.int .i64) 3 w36 w.heap.size (fun k_ => some k_ ≠ (.slice Ao14 t205.length co14 : Value).ownBlock) (.slice (some ⟨go29, 0, none⟩) x7_1.length co31) y237 := (by rw [hw, Ny237.out]; exact HP35.1); clear HP35; have n0_ := zad (Kd.R_after (v := (.slice (some ⟨go29, 0, none⟩) x7_1.length co31)) (v1 := (.slice (some ⟨go29, 0, none⟩) x7_1.length co31)) (ok := (fun _ => True)) (tacb) hg (.inl rfl)); have n1_ := zad (hp_); have n2_ := zad (IsS75.grown (taaf) hg (zck HI0.out HO_7.out (by decide))); have n3_ := zad ((by rw [hw]; exact zah (HB.out) (Nat.le_trans HL.out GB29.out) : Below w0.heap.size w0 w36)); have n4_ := zad (zbs (taae) (KeepBut.of_grown hg g) (Kd.R_base2 HO_7.out)); clear HO_6 HO_7 HI0 HB HK; have HO_6 := n0_; have HO_7 := n1_; have HI0 := n2_; have HB := n3_; have HK := n4_; clear n0_ n1_ n2_ n3_ n4_ hg hw hp_; have p238 : 0 ≤ (t230 : Int) := zas (taab); have q238 : t230 < (y237.length : Int) := (by have h_ : (t230 : Int) < ((x7_1.length : Int) : Int) := zas (taab); first | (have e_ := (zbd HO_7.out).1; omega) | simpa only [Ny237.out, List.length_set] using h_); have ql238 : ((t230 : Int) < ((x7_1.length : Int) : Int)) = True := eq_true (zas (taab)); obtain ⟨ad238, e238, hx238_0⟩ := zca (zbd HO_7.out).2.2 t230 p238 q238; obtain rfl : (⟨go29, 0, none⟩ : Addr) = ad238 := (by injection e238); (first | simp only [add_plain] at hx238_0 | simp only [add_at] at hx238_0 | simp only [Addr.add, Nat.zero_add] at hx238_0 | skip); replace p238 := eq_true p238; replace q238 := eq_true q238; have p30 : 0 ≤ (t230 : Int) := zas (taab); have q30 : (t230 : Int) < ((x7_1.length : Int) : Int) := zas (taab); obtain ⟨hx30_0, hf30_0⟩ := Kd.R_celln 0 HO_7.out (t230 : Int) p30 q30; replace p30 := eq_true p30; replace q30 := eq_true q30; obtain ⟨hy37_, hz37_⟩ := Kd.R_celln 0 HO_7.out (t230 : Int) (zas (taab)) (zas (taab)); have HP37 := Kd.R_putg HO_7.out (t230 : Int) (wrap64 ((rd y237 t230) + 1))) | ((with_reducible refine gate_store (t := 3) (p := 72) rfl ?_); refine store_event (t := 3) (p := 72) (v := ?vo_w38) (w1 := (w36.setCell ⟨go29, (t230 : Int).toNat, none⟩ (.int .i64 (wrap64 ((rd y237 t230) + 1))))) ?hg ?ho ?hn ?hr ?_; (case ho => rfl); (case hg => rfl); (case hn => rfl); (case hr => first | (go_simp; done) | (go_simp; rfl)); intro w38 hw; have hg : w36.grownBy w38 (some go29) := (by rw [hw]; exact HP37.2); have hp_ : Kd.R (Kd.int .i64) 3 w38 w.heap.size (fun k_ => some k_ ≠ (.slice Ao14 t205.length co14 : Value).ownBlock) (.slice (some ⟨go29, 0, none⟩) x7_1.length co31) y239 := (by rw [hw, Ny239.out]; exact HP37.1); clear HP37; have n0_ := zad (Kd.R_after (v := (.slice (some ⟨go29, 0, none⟩) x7_1.length co31)) (v1 := (.slice (some ⟨go29, 0, none⟩) x7_1.length co31)) (ok := (fun _ => True)) (taaj) hg (.inl rfl)); have n1_ := zad (hp_); have n2_ := zad (IsS75.grown (taaf) hg (zck HI0.out HO_7.out (by decide))); have n3_ := zad ((by rw [hw]; exact zah (HB.out) (Nat.le_trans HL.out GB29.out) : Below w0.heap.size w0 w38)); have n4_ := zad (zbs (taae) (KeepBut.of_grown hg g) (Kd.R_base2 HO_7.out)); clear HO_6 HO_7 HI0 HB HK; have HO_6 := n0_; have HO_7 := n1_; have HI0 := n2_; have HB := n3_; have HK := n4_; clear n0_ n1_ n2_ n3_ n4_ hg hw hp_))
                     go_roundg kj16
                     case measure => have := HK1.out; have := HJ16.out; omega
                     case rel => exact ⟨(y239), (wrap64 (x8_1 - 1)), (t231), (t232), (taag), H', ⟨tabu⟩, ⟨tadi⟩, ⟨taai⟩, ⟨taaf⟩, ⟨taae⟩, ⟨taal⟩⟩
                   · rw [if_neg c28] at H
                     have c28b0 : decide ((rd x7_1 t230) < (rd x7_1 t227)) = false := zbh c28
                     clear c28; replace H := zay.mp H; obtain ⟨⟨t240, t241, t242⟩, A390, H⟩ := H
                     replace H : (if t240 = true then ((some (x7_1.set (t227 : Int).toNat (wrap64 ((rd x7_1 t227) - 1)) : List Int)).bind fun y244 => (spec_l1Cur_fitting.l0 kj16 t205 (y244.set (t230 : Int).toNat (wrap64 ((rd y244 t230) + 1))) (wrap64 (x8_1 - 1)) s0_0 t241 t242)) else (spec_l1Cur_fitting.l0 kj16 t205 x7_1 (wrap64 (x8_1 - 1)) s0_0 t241 t242)) = some (r1, r2, r3, r4) := H
                     have A39 := zad A390; clear A390; by_cases c40 : t240 = true
                     · subst c40
                       have H1 : ((some (x7_1.set (t227 : Int).toNat (wrap64 ((rd x7_1 t227) - 1)) : List Int)).bind fun y244 => (spec_l1Cur_fitting.l0 kj16 t205 (y244.set (t230 : Int).toNat (wrap64 ((rd y244 t230) + 1))) (wrap64 (x8_1 - 1)) s0_0 t241 t242)) = some (r1, r2, r3, r4) := by rw [if_pos rfl] at H; exact H
                       clear H; have H := H1; clear H1; obtain ⟨y244, hy244⟩ : ∃ y_ : List Int, y_ = (x7_1.set (t227 : Int).toNat (wrap64 ((rd x7_1 t227) - 1))) := ⟨_, rfl⟩
                       replace H : (spec_l1Cur_fitting.l0 kj16 t205 (y244.set (t230 : Int).toNat (wrap64 ((rd y244 t230) + 1))) (wrap64 (x8_1 - 1)) s0_0 t241 t242) = some (r1, r2, r3, r4) := by first | (rw [hy244]; with_reducible exact H) | (have H2_ := (zbb _ _).symm.trans H; rw [hy244]; with_reducible exact H2_) | (have H2_ := (zbb _ _).symm.trans H; with_reducible exact H2_) | with_reducible exact H | (rw [hy244]; exact H) | exact H
                       have Ny244 := zad hy244; clear hy244; obtain ⟨y246, hy246⟩ : ∃ y_ : List Int, y_ = (y244.set (t230 : Int).toNat (wrap64 ((rd y244 t230) + 1))) := ⟨_, rfl⟩
                       replace H : (spec_l1Cur_fitting.l0 kj16 t205 y246 (wrap64 (x8_1 - 1)) s0_0 t241 t242) = some (r1, r2, r3, r4) := by first | (rw [hy246]; with_reducible exact H) | (have H2_ := (zbb _ _).symm.trans H; rw [hy246]; with_reducible exact H2_) | (have H2_ := (zbb _ _).symm.trans H; with_reducible exact H2_) | with_reducible exact H | (rw [hy246]; exact H) | exact H
                       have Ny246 := zad hy246; clear hy246; have H' := zad H
                       clear H; obtain ⟨Ao43, co43, eo43⟩ := zbv HO_7.out
                       subst eo43; try go_wp2_with (first | ((with_reducible refine zbf (f := 80) rfl ?_); refine zbn (some 36) rfl rfl Try.func80 (by kernel_rfl) rfl #[.pointer (some ⟨g, 0, none⟩), .int .i64 (x7_1.length : Int)] rfl (taad) ?_; (with_reducible refine (spec_l1Cur_pick.calls g s0_0 x1001_1 x1002_1 (x7_1.length : Int) t227 t228 t229 w0 _ ?side1 ?side2 A21.out).mono ?_); (case side1 => repeat (first | (with_reducible first | exact HI0.out | apply zcg | apply zch | apply zci | apply zcn | apply zco) | exact HI0.out)); (case side2 => repeat (first | (with_reducible first | exact HB.out | apply zag | apply zae | apply zaf | refine zah ?_ (zcl HI0.out)) | exact HB.out)); rintro e w44 ⟨rfl, hi, hb, hk⟩; refine ⟨_, rfl, ?_⟩; have n0_ := zad (zbq (zbr (zcj (show IsS75 w0 _ g s0_0 x1001_1 x1002_1 from by exact taes) (taaj) (by decide)) hk (fun _ h => h.2)) (fun _ h => h.1)); have n1_ := zad (zbq (zbr (zcj (show IsS75 w0 _ g s0_0 x1001_1 x1002_1 from by exact taes) (taai) (by decide)) hk (fun _ h => h.2)) (fun _ h => h.1)); have n2_ := zad (zbs (taae) hk (.inl rfl)); have n3_ := zad (hb); have n4_ := zad (hi); clear HO_6 HO_7 HK HB HI0; have HO_6 := n0_; have HO_7 := n1_; have HK := n2_; have HB := n3_; have HI0 := n4_; clear n0_ n1_ n2_ n3_ n4_; (try clear hb); (try clear hb2); (try clear hk); (try clear hi)) | ((with_reducible refine zbf (f := 80) rfl ?_); refine zbn (some 40) rfl rfl Try.func80 (by kernel_rfl) rfl #[.pointer (some ⟨g, 0, none⟩), .int .i64 (x7_1.length : Int)] rfl (taad) ?_; (with_reducible refine (spec_l1Cur_pick.calls g s0_0 t228 t229 (x7_1.length : Int) t230 t231 t232 w0 _ ?side1 ?side2 A22.out).mono ?_); (case side1 => repeat (first | (with_reducible first | exact HI0.out | apply zcg | apply zch | apply zci | apply zcn | apply zco) | exact HI0.out)); (case side2 => repeat (first | (with_reducible first | exact HB.out | apply zag | apply zae | apply zaf | refine zah ?_ (zcl HI0.out)) | exact HB.out)); rintro e w45 ⟨rfl, hi, hb, hk⟩; refine ⟨_, rfl, ?_⟩; have n0_ := zad (zbq (zbr (zcj (show IsS75 w0 _ g s0_0 t228 t229 from by exact taes) (taaj) (by decide)) hk (fun _ h => h.2)) (fun _ h => h.1)); have n1_ := zad (zbq (zbr (zcj (show IsS75 w0 _ g s0_0 t228 t229 from by exact taes) (taai) (by decide)) hk (fun _ h => h.2)) (fun _ h => h.1)); have n2_ := zad (zbs (taae) hk (.inl rfl)); have n3_ := zad (hb); have n4_ := zad (hi); clear HO_6 HO_7 HK HB HI0; have HO_6 := n0_; have HO_7 := n1_; have HK := n2_; have HB := n3_; have HI0 := n4_; clear n0_ n1_ n2_ n3_ n4_; (try clear hb); (try clear hb2); (try clear hk); (try clear hi)))
                       have n0_ := zad (zak HO_6.out)
                       have n1_ := zad (zak HO_7.out)
                       have n2_ := zad (zci HI0.out)
                       have n3_ := zad (zaq HK.out)
                       have n4_ := zad (zaf HB.out)
                       clear HO_6 HO_7 HI0 HK HB; have HO_6 := n0_; have HO_7 := n1_; have HI0 := n2_; have HK := n3_; have HB := n4_; clear n0_ n1_ n2_ n3_ n4_; have p233 : 0 ≤ (t227 : Int) := zas (taab)
                       have q233 : t227 < (x7_1.length : Int) := zas (taab)
                       obtain ⟨ad233, e233, hx233_0⟩ := zca (zbd HO_7.out).2.2 t227 p233 q233
                       cases e233
                       replace p233 := eq_true p233
                       replace q233 := eq_true q233
                       have p234 : 0 ≤ (t227 : Int) := zas (taab)
                       have q234 : t227 < (x7_1.length : Int) := zas (taab)
                       obtain ⟨ad234, e234, hx234_0⟩ := zca (zbd HO_7.out).2.2 t227 p234 q234
                       obtain rfl : ad233 = ad234 := (by injection e234)
                       replace p234 := eq_true p234
                       replace q234 := eq_true q234
                       have p235 : 0 ≤ (t230 : Int) := zas (taab)
                       have q235 : t230 < (x7_1.length : Int) := zas (taab)
                       obtain ⟨ad235, e235, hx235_0⟩ := zca (zbd HO_7.out).2.2 t230 p235 q235
                       obtain rfl : ad233 = ad235 := (by injection e235)
                       replace p235 := eq_true p235
                       replace q235 := eq_true q235
                       refine start_ (n := 20) (S := fun w' => w'.cell? (ad233.add (t227).toNat) = some (.int .i64 (rd x7_1 t227)) ∧ w'.cell? (ad233.add (t227).toNat) = some (.int .i64 (rd x7_1 t227)) ∧ w'.cell? (ad233.add (t230).toNat) = some (.int .i64 (rd x7_1 t230))) (ds := []) #[false, false, false, false, false, false, false, false, false, false, false, false, false, false, false, false, false, false, false, false] (by kernel_rfl) rfl rfl ⟨hx233_0, hx234_0, hx235_0⟩ (fun hHeld => ?_); refine with_tabW spec_l1Cur_fitting.tab9 spec_l1Cur_fitting.bits9 (fun HT_ HW_ => ?_)
                       generalize w45.drew = w46 at HO_6 HO_7 HI0 HK HB hx233_0 hx234_0 hx235_0 hHeld ⊢
                       refine pure_ (i := 0) (N := some 41) (v := ?_) (a' := ?_) tail rfl rfl (zby HT_.out (by kernel_rfl)) (fun _ _ _ h => h) (Or.inl ⟨by rfl, ?_⟩) ?_ ?_
                       rotate_left
                       · intro w'
                         go_simp; with_reducible rfl
                       rotate_left
                       · simp only [Act.put, zaa, zab, zac, zbw, zbx]
                         rfl
                       refine pure_ (i := 1) (N := some 42) (v := ?_) (a' := ?_) taim rfl rfl (zby HT_.out (by kernel_rfl)) (fun _ _ _ h => h) (Or.inl ⟨by rfl, ?_⟩) ?_ ?_
                       rotate_left
                       · intro w'
                         go_simp; with_reducible rfl
                       rotate_left
                       · simp only [Act.put, zaa, zab, zac, zbw, zbx]
                         rfl
                       refine pure_ (i := 2) (N := some 43) (v := ?_) (a' := ?_) tain rfl rfl (zby HT_.out (by kernel_rfl)) (fun _ _ _ h => h) (Or.inl ⟨by rfl, ?_⟩) ?_ ?_
                       rotate_left
                       · intro w'
                         go_simp; with_reducible rfl
                       rotate_left
                       · simp only [Act.put, zaa, zab, zac, zbw, zbx]
                         rfl
                       refine take_ (i := 3) (N := some 44) (v := ?_) (a' := ?_) taio rfl rfl (zbz HT_.out HW_.out (by kernel_rfl)) (fun _ _ _ h => h) (Or.inl ⟨by rfl, ?_⟩) hHeld ?_ ?_
                       rotate_left
                       · rintro w' ⟨s0, s1, s2⟩
                         go_simp; with_reducible rfl
                       rotate_left
                       · simp only [Act.put, zaa, zab, zac, zbw, zbx]
                         rfl
                       refine pure_ (i := 4) (N := some 45) (v := ?_) (a' := ?_) taip rfl rfl (zby HT_.out (by kernel_rfl)) (fun _ _ _ h => h) (Or.inl ⟨by rfl, ?_⟩) ?_ ?_
                       rotate_left
                       · intro w'
                         go_simp; with_reducible rfl
                       rotate_left
                       · simp only [Act.put, zaa, zab, zac, zbw, zbx]
                         rfl
                       refine pure_ (i := 5) (N := some 46) (v := ?_) (a' := ?_) taiq rfl rfl (zby HT_.out (by kernel_rfl)) (fun _ _ _ h => h) (Or.inl ⟨by rfl, ?_⟩) ?_ ?_
                       rotate_left
                       · intro w'
                         go_simp; with_reducible rfl
                       rotate_left
                       · simp only [Act.put, zaa, zab, zac, zbw, zbx]
                         rfl
                       refine pure_ (i := 6) (N := some 47) (v := ?_) (a' := ?_) tair rfl rfl (zby HT_.out (by kernel_rfl)) (fun _ _ _ h => h) (Or.inl ⟨by rfl, ?_⟩) ?_ ?_
                       rotate_left
                       · intro w'
                         go_simp; with_reducible rfl
                       rotate_left
                       · simp only [Act.put, zaa, zab, zac, zbw, zbx]
                         rfl
                       refine pure_ (i := 7) (N := some 48) (v := ?_) (a' := ?_) tais rfl rfl (zby HT_.out (by kernel_rfl)) (fun _ _ _ h => h) (Or.inl ⟨by rfl, ?_⟩) ?_ ?_
                       rotate_left
                       · intro w'
                         go_simp; with_reducible rfl
                       rotate_left
                       · simp only [Act.put, zaa, zab, zac, zbw, zbx]
                         rfl
                       refine pure_ (i := 8) (N := some 49) (v := ?_) (a' := ?_) tait rfl rfl (zby HT_.out (by kernel_rfl)) (fun _ _ _ h => h) (Or.inl ⟨by rfl, ?_⟩) ?_ ?_
                       rotate_left
                       · intro w'
                         go_simp; with_reducible rfl
                       rotate_left
                       · simp only [Act.put, zaa, zab, zac, zbw, zbx]
                         rfl
                       refine pure_ (i := 10) (N := some 51) (v := ?_) (a' := ?_) taiu rfl rfl (zby HT_.out (by kernel_rfl)) (fun _ _ _ h => h) (Or.inl ⟨by rfl, ?_⟩) ?_ ?_
                       rotate_left
                       · intro w'
                         go_simp; with_reducible rfl
                       rotate_left
                       · simp only [Act.put, zaa, zab, zac, zbw, zbx]
                         rfl
                       refine pure_ (i := 11) (N := some 52) (v := ?_) (a' := ?_) taiv rfl rfl (zby HT_.out (by kernel_rfl)) (fun _ _ _ h => h) (Or.inl ⟨by rfl, ?_⟩) ?_ ?_
                       rotate_left
                       · intro w'
                         go_simp; with_reducible rfl
                       rotate_left
                       · simp only [Act.put, zaa, zab, zac, zbw, zbx]
                         rfl
                       refine pure_ (i := 12) (N := some 53) (v := ?_) (a' := ?_) taiw rfl rfl (zby HT_.out (by kernel_rfl)) (fun _ _ _ h => h) (Or.inl ⟨by rfl, ?_⟩) ?_ ?_
                       rotate_left
                       · intro w'
                         go_simp; with_reducible rfl
                       rotate_left
                       · simp only [Act.put, zaa, zab, zac, zbw, zbx]
                         rfl
                       refine take_ (i := 9) (N := some 50) (v := ?_) (a' := ?_) taix rfl rfl (zbz HT_.out HW_.out (by kernel_rfl)) (fun _ _ _ h => h) (Or.inl ⟨by rfl, ?_⟩) hHeld ?_ ?_
                       rotate_left
                       · rintro w' ⟨s0, s1, s2⟩
                         go_simp; with_reducible rfl
                       rotate_left
                       · simp only [Act.put, zaa, zab, zac, zbw, zbx]
                         rfl
                       refine take_ (i := 13) (N := some 54) (v := ?_) (a' := ?_) taiy rfl rfl (zbz HT_.out HW_.out (by kernel_rfl)) (fun _ _ _ h => h) (Or.inl ⟨by rfl, ?_⟩) hHeld ?_ ?_
                       rotate_left
                       · rintro w' ⟨s0, s1, s2⟩
                         go_simp; with_reducible rfl
                       rotate_left
                       · simp only [Act.put, zaa, zab, zac, zbw, zbx]
                         rfl
                       refine pure_ (i := 14) (N := some 55) (v := ?_) (a' := ?_) taiz rfl rfl (zby HT_.out (by kernel_rfl)) (fun _ _ _ h => h) (Or.inl ⟨by rfl, ?_⟩) ?_ ?_
                       rotate_left
                       · intro w'
                         go_simp; with_reducible rfl
                       rotate_left
                       · simp only [Act.put, zaa, zab, zac, zbw, zbx]
                         rfl
                       refine pure_ (i := 15) (N := some 56) (v := ?_) (a' := ?_) taja rfl rfl (zby HT_.out (by kernel_rfl)) (fun _ _ _ h => h) (Or.inl ⟨by rfl, ?_⟩) ?_ ?_
                       rotate_left
                       · intro w'
                         go_simp; with_reducible rfl
                       rotate_left
                       · simp only [Act.put, zaa, zab, zac, zbw, zbx]
                         rfl
                       refine pure_ (i := 16) (N := some 57) (v := ?_) (a' := ?_) tajb rfl rfl (zby HT_.out (by kernel_rfl)) (fun _ _ _ h => h) (Or.inl ⟨by rfl, ?_⟩) ?_ ?_
                       rotate_left
                       · intro w'
                         go_simp; with_reducible rfl
                       rotate_left
                       · simp only [Act.put, zaa, zab, zac, zbw, zbx]
                         rfl
                       refine one_ (i := 17) (N := some 58) #[true, true, true, true, true, true, true, true, true, true, true, true, true, true, true, true, true, true, false, false] rfl rfl (one_of HT_.out (by kernel_rfl)) (by decide) (fun K hK => ?_)
                       refine goes_ Try.func89 (by kernel_rfl) rfl #[.pointer (some ⟨g, 0, none⟩), .int .i64 4] (by rfl) rfl rfl (taad) ?_
                       with_reducible refine (spec_l1Cur_one.calls g s0_0 t231 t232 4 true t241 t242 w0 _ ?side1 ?side2 A39.out).mono ?_
                       (case side1 => exact taew)
                       (case side2 => exact taex)
                       rintro e w47 ⟨rfl, hi, hb, hk⟩
                       have HS0_ := keep_cell hk (hHeld.1) (tabv)
                       have HS1_ := keep_cell hk (hHeld.2.1) (tabv)
                       have HS2_ := keep_cell hk (hHeld.2.2) (tabv)
                       refine ⟨_, rfl, ?_⟩
                       have n0_ := zad (zbq (zbr (zcj (show IsS75 w0 _ g s0_0 t231 t232 from by exact taes) (taaj) (by decide)) hk (fun _ h => h.2)) (fun _ h => h.1))
                       have n1_ := zad (zbq (zbr (zcj (show IsS75 w0 _ g s0_0 t231 t232 from by exact taes) (taai) (by decide)) hk (fun _ h => h.2)) (fun _ h => h.1))
                       have n2_ := zad (zbs (taae) hk (.inl rfl))
                       have n3_ := zad (hb)
                       have n4_ := zad (hi)
                       clear HO_6 HO_7 HK HB HI0; have HO_6 := n0_; have HO_7 := n1_; have HK := n2_; have HB := n3_; have HI0 := n4_; clear n0_ n1_ n2_ n3_ n4_; (try clear hb); (try clear hb2); (try clear hk); (try clear hi); refine hK.out _ _ ⟨HS0_, HS1_, HS2_⟩ (fun hHeld => ?_)
                       clear hK K; refine norm_ (a' := ?_) ?_ ?_
                       rotate_left
                       · show Act.put _ (some 58) _ = _
                         simp only [Act.put, zaa, zab, zac, zbw, zbx]
                         rfl
                       refine pure_ (i := 18) (N := some 59) (v := ?_) (a' := ?_) tajd rfl rfl (zby HT_.out (by kernel_rfl)) (fun _ _ _ h => h) (Or.inl ⟨by rfl, ?_⟩) ?_ ?_
                       rotate_left
                       · intro w'
                         go_simp; with_reducible rfl
                       rotate_left
                       · simp only [Act.put, zaa, zab, zac, zbw, zbx]
                         rfl
                       refine pure_ (i := 19) (N := some 60) (v := ?_) (a' := ?_) taje rfl rfl (zby HT_.out (by kernel_rfl)) (fun _ _ _ h => h) (Or.inl ⟨by rfl, ?_⟩) ?_ ?_
                       rotate_left
                       · intro w'
                         go_simp; with_reducible rfl
                       rotate_left
                       · simp only [Act.put, zaa, zab, zac, zbw, zbx]
                         rfl
                       refine done_ (done_of HT_.out (by kernel_rfl)) ?_
                       have p243 : 0 ≤ (t227 : Int) := zas (taab)
                       have q243 : t227 < (x7_1.length : Int) := zas (taab)
                       obtain ⟨ad243, e243, hx243_0⟩ := zca (zbd HO_7.out).2.2 t227 p243 q243
                       obtain rfl : ad233 = ad243 := (by injection e243)
                       replace p243 := eq_true p243
                       replace q243 := eq_true q243
                       have p41 : 0 ≤ (t227 : Int) := zas (taab)
                       have q41 : (t227 : Int) < ((x7_1.length : Int) : Int) := zas (taab)
                       obtain ⟨go41, co41, eo41, gb41, gl41, cl41, HG41⟩ := Kd.R_form HO_7.out (by omega)
                       (first | cases eo41 | (injection eo41 with ea_ en_ ec_; (first | subst ea_ | (injection ea_ with ea_; subst ea_)); subst ec_; clear en_))
                       have GB41 := zad gb41; have GG41 := zad HG41; clear gb41 gl41 HG41; (first | simp only [add_plain] at hx233_0 | skip)
                       (first | simp only [add_plain] at hx234_0 | skip)
                       (first | simp only [add_plain] at hx235_0 | skip)
                       (first | simp only [add_plain] at hx243_0 | skip)
                       obtain ⟨hx41_0, hf41_0⟩ := Kd.R_celln 0 HO_7.out (t227 : Int) p41 q41
                       replace p41 := eq_true p41
                       replace q41 := eq_true q41
                       obtain ⟨hy48_, hz48_⟩ := Kd.R_celln 0 HO_7.out (t227 : Int) (zas (taab)) (zas (taab))
                       have HP48 := Kd.R_putg HO_7.out (t227 : Int) (wrap64 ((rd x7_1 t227) - 1))
                       try go_wp2_with (first | ((with_reducible refine gate_store (t := 3) (p := 66) rfl ?_); refine store_event (t := 3) (p := 66) (v := ?vo_w49) (w1 := (w47.setCell ⟨go41, (t227 : Int).toNat, none⟩ (.int .i64 (wrap64 ((rd x7_1 t227) - 1))))) ?hg ?ho ?hn ?hr ?_; (case ho => rfl); (case hg => rfl); (case hn => rfl); (case hr => first | (go_simp; done) | (go_simp; rfl)); intro w49 hw; have hg : w47.grownBy w49 (some go41) := (by rw [hw]; exact HP48.2); have hp_ : Kd.R (Kd.int .i64) 3 w49 w.heap.size (fun k_ => some k_ ≠ (.slice Ao14 t205.length co14 : Value).ownBlock) (.slice (some ⟨go41, 0, none⟩) x7_1.length co43) y244 := (by rw [hw, Ny244.out]; exact HP48.1); clear HP48; have n0_ := zad (Kd.R_after (v := (.slice (some ⟨go41, 0, none⟩) x7_1.length co43)) (v1 := (.slice (some ⟨go41, 0, none⟩) x7_1.length co43)) (ok := (fun _ => True)) (tacb) hg (.inl rfl)); have n1_ := zad (hp_); have n2_ := zad (IsS75.grown (taaf) hg (zck HI0.out HO_7.out (by decide))); have n3_ := zad ((by rw [hw]; exact zah (HB.out) (Nat.le_trans HL.out GB41.out) : Below w0.heap.size w0 w49)); have n4_ := zad (zbs (taae) (KeepBut.of_grown hg g) (Kd.R_base2 HO_7.out)); clear HO_6 HO_7 HI0 HB HK; have HO_6 := n0_; have HO_7 := n1_; have HI0 := n2_; have HB := n3_; have HK := n4_; clear n0_ n1_ n2_ n3_ n4_ hg hw hp_; have p245 : 0 ≤ (t230 : Int) := zas (taab); have q245 : t230 < (y244.length : Int) := (by have h_ : (t230 : Int) < ((x7_1.length : Int) : Int) := zas (taab); first | (have e_ := (zbd HO_7.out).1; omega) | simpa only [Ny244.out, List.length_set] using h_); have ql245 : ((t230 : Int) < ((x7_1.length : Int) : Int)) = True := eq_true (zas (taab)); obtain ⟨ad245, e245, hx245_0⟩ := zca (zbd HO_7.out).2.2 t230 p245 q245; obtain rfl : (⟨go41, 0, none⟩ : Addr) = ad245 := (by injection e245); (first | simp only [add_plain] at hx245_0 | simp only [add_at] at hx245_0 | simp only [Addr.add, Nat.zero_add] at hx245_0 | skip); replace p245 := eq_true p245; replace q245 := eq_true q245; have p42 : 0 ≤ (t230 : Int) := zas (taab); have q42 : (t230 : Int) < ((x7_1.length : Int) : Int) := zas (taab); obtain ⟨hx42_0, hf42_0⟩ := Kd.R_celln 0 HO_7.out (t230 : Int) p42 q42; replace p42 := eq_true p42; replace q42 := eq_true q42; obtain ⟨hy50_, hz50_⟩ := Kd.R_celln 0 HO_7.out (t230 : Int) (zas (taab)) (zas (taab)); have HP50 := Kd.R_putg HO_7.out (t230 : Int) (wrap64 ((rd y244 t230) + 1))) | ((with_reducible refine gate_store (t := 3) (p := 72) rfl ?_); refine store_event (t := 3) (p := 72) (v := ?vo_w51) (w1 := (w49.setCell ⟨go41, (t230 : Int).toNat, none⟩ (.int .i64 (wrap64 ((rd y244 t230) + 1))))) ?hg ?ho ?hn ?hr ?_; (case ho => rfl); (case hg => rfl); (case hn => rfl); (case hr => first | (go_simp; done) | (go_simp; rfl)); intro w51 hw; have hg : w49.grownBy w51 (some go41) := (by rw [hw]; exact HP50.2); have hp_ : Kd.R (Kd.int .i64) 3 w51 w.heap.size (fun k_ => some k_ ≠ (.slice Ao14 t205.length co14 : Value).ownBlock) (.slice (some ⟨go41, 0, none⟩) x7_1.length co43) y246 := (by rw [hw, Ny246.out]; exact HP50.1); clear HP50; have n0_ := zad (Kd.R_after (v := (.slice (some ⟨go41, 0, none⟩) x7_1.length co43)) (v1 := (.slice (some ⟨go41, 0, none⟩) x7_1.length co43)) (ok := (fun _ => True)) (taaj) hg (.inl rfl)); have n1_ := zad (hp_); have n2_ := zad (IsS75.grown (taaf) hg (zck HI0.out HO_7.out (by decide))); have n3_ := zad ((by rw [hw]; exact zah (HB.out) (Nat.le_trans HL.out GB41.out) : Below w0.heap.size w0 w51)); have n4_ := zad (zbs (taae) (KeepBut.of_grown hg g) (Kd.R_base2 HO_7.out)); clear HO_6 HO_7 HI0 HB HK; have HO_6 := n0_; have HO_7 := n1_; have HI0 := n2_; have HB := n3_; have HK := n4_; clear n0_ n1_ n2_ n3_ n4_ hg hw hp_))
                       go_roundg kj16
                       case measure => have := HK1.out; have := HJ16.out; omega
                       case rel => exact ⟨(y246), (wrap64 (x8_1 - 1)), (t241), (t242), (taag), H', ⟨tabu⟩, ⟨tadi⟩, ⟨taai⟩, ⟨taaf⟩, ⟨taae⟩, ⟨taal⟩⟩
                     · replace c40 := zbg.mpr c40
                       subst c40; have H1 : (spec_l1Cur_fitting.l0 kj16 t205 x7_1 (wrap64 (x8_1 - 1)) s0_0 t241 t242) = some (r1, r2, r3, r4) := by rw [if_neg (show ¬ (false = true) by decide)] at H; exact H
                       clear H; have H := H1; clear H1; have H' := zad H
                       clear H; obtain ⟨Ao52, co52, eo52⟩ := zbv HO_7.out
                       subst eo52; try go_wp2_with (first | ((with_reducible refine zbf (f := 80) rfl ?_); refine zbn (some 36) rfl rfl Try.func80 (by kernel_rfl) rfl #[.pointer (some ⟨g, 0, none⟩), .int .i64 (x7_1.length : Int)] rfl (taad) ?_; (with_reducible refine (spec_l1Cur_pick.calls g s0_0 x1001_1 x1002_1 (x7_1.length : Int) t227 t228 t229 w0 _ ?side1 ?side2 A21.out).mono ?_); (case side1 => repeat (first | (with_reducible first | exact HI0.out | apply zcg | apply zch | apply zci | apply zcn | apply zco) | exact HI0.out)); (case side2 => repeat (first | (with_reducible first | exact HB.out | apply zag | apply zae | apply zaf | refine zah ?_ (zcl HI0.out)) | exact HB.out)); rintro e w53 ⟨rfl, hi, hb, hk⟩; refine ⟨_, rfl, ?_⟩; have n0_ := zad (zbq (zbr (zcj (show IsS75 w0 _ g s0_0 x1001_1 x1002_1 from by exact taes) (taaj) (by decide)) hk (fun _ h => h.2)) (fun _ h => h.1)); have n1_ := zad (zbq (zbr (zcj (show IsS75 w0 _ g s0_0 x1001_1 x1002_1 from by exact taes) (taai) (by decide)) hk (fun _ h => h.2)) (fun _ h => h.1)); have n2_ := zad (zbs (taae) hk (.inl rfl)); have n3_ := zad (hb); have n4_ := zad (hi); clear HO_6 HO_7 HK HB HI0; have HO_6 := n0_; have HO_7 := n1_; have HK := n2_; have HB := n3_; have HI0 := n4_; clear n0_ n1_ n2_ n3_ n4_; (try clear hb); (try clear hb2); (try clear hk); (try clear hi)) | ((with_reducible refine zbf (f := 80) rfl ?_); refine zbn (some 40) rfl rfl Try.func80 (by kernel_rfl) rfl #[.pointer (some ⟨g, 0, none⟩), .int .i64 (x7_1.length : Int)] rfl (taad) ?_; (with_reducible refine (spec_l1Cur_pick.calls g s0_0 t228 t229 (x7_1.length : Int) t230 t231 t232 w0 _ ?side1 ?side2 A22.out).mono ?_); (case side1 => repeat (first | (with_reducible first | exact HI0.out | apply zcg | apply zch | apply zci | apply zcn | apply zco) | exact HI0.out)); (case side2 => repeat (first | (with_reducible first | exact HB.out | apply zag | apply zae | apply zaf | refine zah ?_ (zcl HI0.out)) | exact HB.out)); rintro e w54 ⟨rfl, hi, hb, hk⟩; refine ⟨_, rfl, ?_⟩; have n0_ := zad (zbq (zbr (zcj (show IsS75 w0 _ g s0_0 t228 t229 from by exact taes) (taaj) (by decide)) hk (fun _ h => h.2)) (fun _ h => h.1)); have n1_ := zad (zbq (zbr (zcj (show IsS75 w0 _ g s0_0 t228 t229 from by exact taes) (taai) (by decide)) hk (fun _ h => h.2)) (fun _ h => h.1)); have n2_ := zad (zbs (taae) hk (.inl rfl)); have n3_ := zad (hb); have n4_ := zad (hi); clear HO_6 HO_7 HK HB HI0; have HO_6 := n0_; have HO_7 := n1_; have HK := n2_; have HB := n3_; have HI0 := n4_; clear n0_ n1_ n2_ n3_ n4_; (try clear hb); (try clear hb2); (try clear hk); (try clear hi)))
                       have n0_ := zad (zak HO_6.out)
                       have n1_ := zad (zak HO_7.out)
                       have n2_ := zad (zci HI0.out)
                       have n3_ := zad (zaq HK.out)
                       have n4_ := zad (zaf HB.out)
                       clear HO_6 HO_7 HI0 HK HB; have HO_6 := n0_; have HO_7 := n1_; have HI0 := n2_; have HK := n3_; have HB := n4_; clear n0_ n1_ n2_ n3_ n4_; have p233 : 0 ≤ (t227 : Int) := zas (taab)
                       have q233 : t227 < (x7_1.length : Int) := zas (taab)
                       obtain ⟨ad233, e233, hx233_0⟩ := zca (zbd HO_7.out).2.2 t227 p233 q233
                       cases e233
                       replace p233 := eq_true p233
                       replace q233 := eq_true q233
                       have p234 : 0 ≤ (t227 : Int) := zas (taab)
                       have q234 : t227 < (x7_1.length : Int) := zas (taab)
                       obtain ⟨ad234, e234, hx234_0⟩ := zca (zbd HO_7.out).2.2 t227 p234 q234
                       obtain rfl : ad233 = ad234 := (by injection e234)
                       replace p234 := eq_true p234
                       replace q234 := eq_true q234
                       have p235 : 0 ≤ (t230 : Int) := zas (taab)
                       have q235 : t230 < (x7_1.length : Int) := zas (taab)
                       obtain ⟨ad235, e235, hx235_0⟩ := zca (zbd HO_7.out).2.2 t230 p235 q235
                       obtain rfl : ad233 = ad235 := (by injection e235)
                       replace p235 := eq_true p235
                       replace q235 := eq_true q235
                       refine start_ (n := 20) (S := fun w' => w'.cell? (ad233.add (t227).toNat) = some (.int .i64 (rd x7_1 t227)) ∧ w'.cell? (ad233.add (t227).toNat) = some (.int .i64 (rd x7_1 t227)) ∧ w'.cell? (ad233.add (t230).toNat) = some (.int .i64 (rd x7_1 t230))) (ds := []) #[false, false, false, false, false, false, false, false, false, false, false, false, false, false, false, false, false, false, false, false] (by kernel_rfl) rfl rfl ⟨hx233_0, hx234_0, hx235_0⟩ (fun hHeld => ?_); refine with_tabW spec_l1Cur_fitting.tab9 spec_l1Cur_fitting.bits9 (fun HT_ HW_ => ?_)
                       generalize w54.drew = w55 at HO_6 HO_7 HI0 HK HB hx233_0 hx234_0 hx235_0 hHeld ⊢
                       refine pure_ (i := 0) (N := some 41) (v := ?_) (a' := ?_) tail rfl rfl (zby HT_.out (by kernel_rfl)) (fun _ _ _ h => h) (Or.inl ⟨by rfl, ?_⟩) ?_ ?_
                       rotate_left
                       · intro w'
                         go_simp; with_reducible rfl
                       rotate_left
                       · simp only [Act.put, zaa, zab, zac, zbw, zbx]
                         rfl
                       refine pure_ (i := 1) (N := some 42) (v := ?_) (a' := ?_) taim rfl rfl (zby HT_.out (by kernel_rfl)) (fun _ _ _ h => h) (Or.inl ⟨by rfl, ?_⟩) ?_ ?_
                       rotate_left
                       · intro w'
                         go_simp; with_reducible rfl
                       rotate_left
                       · simp only [Act.put, zaa, zab, zac, zbw, zbx]
                         rfl
                       refine pure_ (i := 2) (N := some 43) (v := ?_) (a' := ?_) tain rfl rfl (zby HT_.out (by kernel_rfl)) (fun _ _ _ h => h) (Or.inl ⟨by rfl, ?_⟩) ?_ ?_
                       rotate_left
                       · intro w'
                         go_simp; with_reducible rfl
                       rotate_left
                       · simp only [Act.put, zaa, zab, zac, zbw, zbx]
                         rfl
                       refine take_ (i := 3) (N := some 44) (v := ?_) (a' := ?_) taio rfl rfl (zbz HT_.out HW_.out (by kernel_rfl)) (fun _ _ _ h => h) (Or.inl ⟨by rfl, ?_⟩) hHeld ?_ ?_
                       rotate_left
                       · rintro w' ⟨s0, s1, s2⟩
                         go_simp; with_reducible rfl
                       rotate_left
                       · simp only [Act.put, zaa, zab, zac, zbw, zbx]
                         rfl
                       refine pure_ (i := 4) (N := some 45) (v := ?_) (a' := ?_) taip rfl rfl (zby HT_.out (by kernel_rfl)) (fun _ _ _ h => h) (Or.inl ⟨by rfl, ?_⟩) ?_ ?_
                       rotate_left
                       · intro w'
                         go_simp; with_reducible rfl
                       rotate_left
                       · simp only [Act.put, zaa, zab, zac, zbw, zbx]
                         rfl
                       refine pure_ (i := 5) (N := some 46) (v := ?_) (a' := ?_) taiq rfl rfl (zby HT_.out (by kernel_rfl)) (fun _ _ _ h => h) (Or.inl ⟨by rfl, ?_⟩) ?_ ?_
                       rotate_left
                       · intro w'
                         go_simp; with_reducible rfl
                       rotate_left
                       · simp only [Act.put, zaa, zab, zac, zbw, zbx]
                         rfl
                       refine pure_ (i := 6) (N := some 47) (v := ?_) (a' := ?_) tair rfl rfl (zby HT_.out (by kernel_rfl)) (fun _ _ _ h => h) (Or.inl ⟨by rfl, ?_⟩) ?_ ?_
                       rotate_left
                       · intro w'
                         go_simp; with_reducible rfl
                       rotate_left
                       · simp only [Act.put, zaa, zab, zac, zbw, zbx]
                         rfl
                       refine pure_ (i := 7) (N := some 48) (v := ?_) (a' := ?_) tais rfl rfl (zby HT_.out (by kernel_rfl)) (fun _ _ _ h => h) (Or.inl ⟨by rfl, ?_⟩) ?_ ?_
                       rotate_left
                       · intro w'
                         go_simp; with_reducible rfl
                       rotate_left
                       · simp only [Act.put, zaa, zab, zac, zbw, zbx]
                         rfl
                       refine pure_ (i := 8) (N := some 49) (v := ?_) (a' := ?_) tait rfl rfl (zby HT_.out (by kernel_rfl)) (fun _ _ _ h => h) (Or.inl ⟨by rfl, ?_⟩) ?_ ?_
                       rotate_left
                       · intro w'
                         go_simp; with_reducible rfl
                       rotate_left
                       · simp only [Act.put, zaa, zab, zac, zbw, zbx]
                         rfl
                       refine pure_ (i := 10) (N := some 51) (v := ?_) (a' := ?_) taiu rfl rfl (zby HT_.out (by kernel_rfl)) (fun _ _ _ h => h) (Or.inl ⟨by rfl, ?_⟩) ?_ ?_
                       rotate_left
                       · intro w'
                         go_simp; with_reducible rfl
                       rotate_left
                       · simp only [Act.put, zaa, zab, zac, zbw, zbx]
                         rfl
                       refine pure_ (i := 11) (N := some 52) (v := ?_) (a' := ?_) taiv rfl rfl (zby HT_.out (by kernel_rfl)) (fun _ _ _ h => h) (Or.inl ⟨by rfl, ?_⟩) ?_ ?_
                       rotate_left
                       · intro w'
                         go_simp; with_reducible rfl
                       rotate_left
                       · simp only [Act.put, zaa, zab, zac, zbw, zbx]
                         rfl
                       refine pure_ (i := 12) (N := some 53) (v := ?_) (a' := ?_) taiw rfl rfl (zby HT_.out (by kernel_rfl)) (fun _ _ _ h => h) (Or.inl ⟨by rfl, ?_⟩) ?_ ?_
                       rotate_left
                       · intro w'
                         go_simp; with_reducible rfl
                       rotate_left
                       · simp only [Act.put, zaa, zab, zac, zbw, zbx]
                         rfl
                       refine take_ (i := 9) (N := some 50) (v := ?_) (a' := ?_) taix rfl rfl (zbz HT_.out HW_.out (by kernel_rfl)) (fun _ _ _ h => h) (Or.inl ⟨by rfl, ?_⟩) hHeld ?_ ?_
                       rotate_left
                       · rintro w' ⟨s0, s1, s2⟩
                         go_simp; with_reducible rfl
                       rotate_left
                       · simp only [Act.put, zaa, zab, zac, zbw, zbx]
                         rfl
                       refine take_ (i := 13) (N := some 54) (v := ?_) (a' := ?_) taiy rfl rfl (zbz HT_.out HW_.out (by kernel_rfl)) (fun _ _ _ h => h) (Or.inl ⟨by rfl, ?_⟩) hHeld ?_ ?_
                       rotate_left
                       · rintro w' ⟨s0, s1, s2⟩
                         go_simp; with_reducible rfl
                       rotate_left
                       · simp only [Act.put, zaa, zab, zac, zbw, zbx]
                         rfl
                       refine pure_ (i := 14) (N := some 55) (v := ?_) (a' := ?_) taiz rfl rfl (zby HT_.out (by kernel_rfl)) (fun _ _ _ h => h) (Or.inl ⟨by rfl, ?_⟩) ?_ ?_
                       rotate_left
                       · intro w'
                         go_simp; with_reducible rfl
                       rotate_left
                       · simp only [Act.put, zaa, zab, zac, zbw, zbx]
                         rfl
                       refine pure_ (i := 15) (N := some 56) (v := ?_) (a' := ?_) taja rfl rfl (zby HT_.out (by kernel_rfl)) (fun _ _ _ h => h) (Or.inl ⟨by rfl, ?_⟩) ?_ ?_
                       rotate_left
                       · intro w'
                         go_simp; with_reducible rfl
                       rotate_left
                       · simp only [Act.put, zaa, zab, zac, zbw, zbx]
                         rfl
                       refine pure_ (i := 16) (N := some 57) (v := ?_) (a' := ?_) tajb rfl rfl (zby HT_.out (by kernel_rfl)) (fun _ _ _ h => h) (Or.inl ⟨by rfl, ?_⟩) ?_ ?_
                       rotate_left
                       · intro w'
                         go_simp; with_reducible rfl
                       rotate_left
                       · simp only [Act.put, zaa, zab, zac, zbw, zbx]
                         rfl
                       refine one_ (i := 17) (N := some 58) #[true, true, true, true, true, true, true, true, true, true, true, true, true, true, true, true, true, true, false, false] rfl rfl (one_of HT_.out (by kernel_rfl)) (by decide) (fun K hK => ?_)
                       refine goes_ Try.func89 (by kernel_rfl) rfl #[.pointer (some ⟨g, 0, none⟩), .int .i64 4] (by rfl) rfl rfl (taad) ?_
                       with_reducible refine (spec_l1Cur_one.calls g s0_0 t231 t232 4 false t241 t242 w0 _ ?side1 ?side2 A39.out).mono ?_
                       (case side1 => exact taew)
                       (case side2 => exact taex)
                       rintro e w56 ⟨rfl, hi, hb, hk⟩
                       have HS0_ := keep_cell hk (hHeld.1) (tabv)
                       have HS1_ := keep_cell hk (hHeld.2.1) (tabv)
                       have HS2_ := keep_cell hk (hHeld.2.2) (tabv)
                       refine ⟨_, rfl, ?_⟩
                       have n0_ := zad (zbq (zbr (zcj (show IsS75 w0 _ g s0_0 t231 t232 from by exact taes) (taaj) (by decide)) hk (fun _ h => h.2)) (fun _ h => h.1))
                       have n1_ := zad (zbq (zbr (zcj (show IsS75 w0 _ g s0_0 t231 t232 from by exact taes) (taai) (by decide)) hk (fun _ h => h.2)) (fun _ h => h.1))
                       have n2_ := zad (zbs (taae) hk (.inl rfl))
                       have n3_ := zad (hb)
                       have n4_ := zad (hi)
                       clear HO_6 HO_7 HK HB HI0; have HO_6 := n0_; have HO_7 := n1_; have HK := n2_; have HB := n3_; have HI0 := n4_; clear n0_ n1_ n2_ n3_ n4_; (try clear hb); (try clear hb2); (try clear hk); (try clear hi); refine hK.out _ _ ⟨HS0_, HS1_, HS2_⟩ (fun hHeld => ?_)
                       clear hK K; refine norm_ (a' := ?_) ?_ ?_
                       rotate_left
                       · show Act.put _ (some 58) _ = _
                         simp only [Act.put, zaa, zab, zac, zbw, zbx]
                         rfl
                       refine pure_ (i := 18) (N := some 59) (v := ?_) (a' := ?_) tajd rfl rfl (zby HT_.out (by kernel_rfl)) (fun _ _ _ h => h) (Or.inl ⟨by rfl, ?_⟩) ?_ ?_
                       rotate_left
                       · intro w'
                         go_simp; with_reducible rfl
                       rotate_left
                       · simp only [Act.put, zaa, zab, zac, zbw, zbx]
                         rfl
                       refine pure_ (i := 19) (N := some 60) (v := ?_) (a' := ?_) taje rfl rfl (zby HT_.out (by kernel_rfl)) (fun _ _ _ h => h) (Or.inl ⟨by rfl, ?_⟩) ?_ ?_
                       rotate_left
                       · intro w'
                         go_simp; with_reducible rfl
                       rotate_left
                       · simp only [Act.put, zaa, zab, zac, zbw, zbx]
                         rfl
                       refine done_ (done_of HT_.out (by kernel_rfl)) ?_
                       try go_wp2
                       go_roundg kj16
                       case measure => have := HK1.out; have := HJ16.out; omega
                       case rel => exact ⟨(x7_1), (wrap64 (x8_1 - 1)), (t241), (t242), (taag), H', ⟨tabu⟩, ⟨taaj⟩, ⟨taai⟩, ⟨taaf⟩, ⟨taae⟩, ⟨taal⟩⟩
                 · rw [if_neg c27] at H
                   exact absurd H (taac)
               · rw [if_neg c26] at H
                 exact absurd H (taac)
             · rw [if_neg c25] at H
               have c25b0 : decide (0 < (rd x7_1 t227)) = false := zbh c25
               clear c25; have H' := zad H
               clear H; obtain ⟨Ao57, co57, eo57⟩ := zbv HO_7.out
               subst eo57; try go_wp2_with (first | ((with_reducible refine zbf (f := 80) rfl ?_); refine zbn (some 36) rfl rfl Try.func80 (by kernel_rfl) rfl #[.pointer (some ⟨g, 0, none⟩), .int .i64 (x7_1.length : Int)] rfl (taad) ?_; (with_reducible refine (spec_l1Cur_pick.calls g s0_0 x1001_1 x1002_1 (x7_1.length : Int) t227 t228 t229 w0 _ ?side1 ?side2 A21.out).mono ?_); (case side1 => repeat (first | (with_reducible first | exact HI0.out | apply zcg | apply zch | apply zci | apply zcn | apply zco) | exact HI0.out)); (case side2 => repeat (first | (with_reducible first | exact HB.out | apply zag | apply zae | apply zaf | refine zah ?_ (zcl HI0.out)) | exact HB.out)); rintro e w58 ⟨rfl, hi, hb, hk⟩; refine ⟨_, rfl, ?_⟩; have n0_ := zad (zbq (zbr (zcj (show IsS75 w0 _ g s0_0 x1001_1 x1002_1 from by exact taes) (taaj) (by decide)) hk (fun _ h => h.2)) (fun _ h => h.1)); have n1_ := zad (zbq (zbr (zcj (show IsS75 w0 _ g s0_0 x1001_1 x1002_1 from by exact taes) (taai) (by decide)) hk (fun _ h => h.2)) (fun _ h => h.1)); have n2_ := zad (zbs (taae) hk (.inl rfl)); have n3_ := zad (hb); have n4_ := zad (hi); clear HO_6 HO_7 HK HB HI0; have HO_6 := n0_; have HO_7 := n1_; have HK := n2_; have HB := n3_; have HI0 := n4_; clear n0_ n1_ n2_ n3_ n4_; (try clear hb); (try clear hb2); (try clear hk); (try clear hi)) | ((with_reducible refine zbf (f := 80) rfl ?_); refine zbn (some 40) rfl rfl Try.func80 (by kernel_rfl) rfl #[.pointer (some ⟨g, 0, none⟩), .int .i64 (x7_1.length : Int)] rfl (taad) ?_; (with_reducible refine (spec_l1Cur_pick.calls g s0_0 t228 t229 (x7_1.length : Int) t230 t231 t232 w0 _ ?side1 ?side2 A22.out).mono ?_); (case side1 => repeat (first | (with_reducible first | exact HI0.out | apply zcg | apply zch | apply zci | apply zcn | apply zco) | exact HI0.out)); (case side2 => repeat (first | (with_reducible first | exact HB.out | apply zag | apply zae | apply zaf | refine zah ?_ (zcl HI0.out)) | exact HB.out)); rintro e w59 ⟨rfl, hi, hb, hk⟩; refine ⟨_, rfl, ?_⟩; have n0_ := zad (zbq (zbr (zcj (show IsS75 w0 _ g s0_0 t228 t229 from by exact taes) (taaj) (by decide)) hk (fun _ h => h.2)) (fun _ h => h.1)); have n1_ := zad (zbq (zbr (zcj (show IsS75 w0 _ g s0_0 t228 t229 from by exact taes) (taai) (by decide)) hk (fun _ h => h.2)) (fun _ h => h.1)); have n2_ := zad (zbs (taae) hk (.inl rfl)); have n3_ := zad (hb); have n4_ := zad (hi); clear HO_6 HO_7 HK HB HI0; have HO_6 := n0_; have HO_7 := n1_; have HK := n2_; have HB := n3_; have HI0 := n4_; clear n0_ n1_ n2_ n3_ n4_; (try clear hb); (try clear hb2); (try clear hk); (try clear hi)))
               have n0_ := zad (zak HO_6.out)
               have n1_ := zad (zak HO_7.out)
               have n2_ := zad (zci HI0.out)
               have n3_ := zad (zaq HK.out)
               have n4_ := zad (zaf HB.out)
               clear HO_6 HO_7 HI0 HK HB; have HO_6 := n0_; have HO_7 := n1_; have HI0 := n2_; have HK := n3_; have HB := n4_; clear n0_ n1_ n2_ n3_ n4_; have p233 : 0 ≤ (t227 : Int) := zas (taab)
               have q233 : t227 < (x7_1.length : Int) := zas (taab)
               obtain ⟨ad233, e233, hx233_0⟩ := zca (zbd HO_7.out).2.2 t227 p233 q233
               cases e233
               replace p233 := eq_true p233
               replace q233 := eq_true q233
               refine start_ (n := 20) (S := fun w' => w'.cell? (ad233.add (t227).toNat) = some (.int .i64 (rd x7_1 t227))) (ds := []) #[false, false, false, false, false, false, false, false, false, false, false, false, false, false, false, false, false, false, false, false] (by kernel_rfl) rfl rfl (hx233_0) (fun hHeld => ?_); refine with_tabW spec_l1Cur_fitting.tab9 spec_l1Cur_fitting.bits9 (fun HT_ HW_ => ?_)
               generalize w59.drew = w60 at HO_6 HO_7 HI0 HK HB hx233_0 hHeld ⊢
               refine pure_ (i := 0) (N := some 41) (v := ?_) (a' := ?_) tail rfl rfl (zby HT_.out (by kernel_rfl)) (fun _ _ _ h => h) (Or.inl ⟨by rfl, ?_⟩) ?_ ?_
               rotate_left
               · intro w'
                 go_simp; with_reducible rfl
               rotate_left
               · simp only [Act.put, zaa, zab, zac, zbw, zbx]
                 rfl
               refine pure_ (i := 1) (N := some 42) (v := ?_) (a' := ?_) taim rfl rfl (zby HT_.out (by kernel_rfl)) (fun _ _ _ h => h) (Or.inl ⟨by rfl, ?_⟩) ?_ ?_
               rotate_left
               · intro w'
                 go_simp; with_reducible rfl
               rotate_left
               · simp only [Act.put, zaa, zab, zac, zbw, zbx]
                 rfl
               refine pure_ (i := 2) (N := some 43) (v := ?_) (a' := ?_) tain rfl rfl (zby HT_.out (by kernel_rfl)) (fun _ _ _ h => h) (Or.inl ⟨by rfl, ?_⟩) ?_ ?_
               rotate_left
               · intro w'
                 go_simp; with_reducible rfl
               rotate_left
               · simp only [Act.put, zaa, zab, zac, zbw, zbx]
                 rfl
               refine take_ (i := 3) (N := some 44) (v := ?_) (a' := ?_) taio rfl rfl (zbz HT_.out HW_.out (by kernel_rfl)) (fun _ _ _ h => h) (Or.inl ⟨by rfl, ?_⟩) hHeld ?_ ?_
               rotate_left
               · intro w' s0
                 go_simp; with_reducible rfl
               rotate_left
               · simp only [Act.put, zaa, zab, zac, zbw, zbx]
                 rfl
               refine pure_ (i := 4) (N := some 45) (v := ?_) (a' := ?_) taip rfl rfl (zby HT_.out (by kernel_rfl)) (fun _ _ _ h => h) (Or.inl ⟨by rfl, ?_⟩) ?_ ?_
               rotate_left
               · intro w'
                 go_simp; with_reducible rfl
               rotate_left
               · simp only [Act.put, zaa, zab, zac, zbw, zbx]
                 rfl
               refine pure_ (i := 5) (N := some 46) (v := ?_) (a' := ?_) taiq rfl rfl (zby HT_.out (by kernel_rfl)) (fun _ _ _ h => h) (Or.inl ⟨by rfl, ?_⟩) ?_ ?_
               rotate_left
               · intro w'
                 go_simp; with_reducible rfl
               rotate_left
               · simp only [Act.put, zaa, zab, zac, zbw, zbx]
                 rfl
               refine pure_ (i := 6) (N := some 47) (v := undef) (a' := ?_) tair rfl rfl (zby HT_.out (by kernel_rfl)) (fun _ _ _ h => h) (Or.inr ⟨by rfl, rfl⟩) ?_ ?_
               rotate_left
               · simp only [Act.put, zaa, zab, zac, zbw, zbx]
                 rfl
               refine pure_ (i := 7) (N := some 48) (v := undef) (a' := ?_) tais rfl rfl (zby HT_.out (by kernel_rfl)) (fun _ _ _ h => h) (Or.inr ⟨by rfl, rfl⟩) ?_ ?_
               rotate_left
               · simp only [Act.put, zaa, zab, zac, zbw, zbx]
                 rfl
               refine pure_ (i := 8) (N := some 49) (v := undef) (a' := ?_) tait rfl rfl (zby HT_.out (by kernel_rfl)) (fun _ _ _ h => h) (Or.inr ⟨by rfl, rfl⟩) ?_ ?_
               rotate_left
               · simp only [Act.put, zaa, zab, zac, zbw, zbx]
                 rfl
               refine pure_ (i := 9) (N := some 50) (v := undef) (a' := ?_) #[true, true, true, true, true, true, true, true, true, true, false, false, false, false, false, false, false, false, false, false] rfl rfl (zby HT_.out (by kernel_rfl)) (fun _ _ _ h => h) (Or.inr ⟨by rfl, rfl⟩) ?_ ?_
               rotate_left
               · simp only [Act.put, zaa, zab, zac, zbw, zbx]
                 rfl
               refine pure_ (i := 10) (N := some 51) (v := undef) (a' := ?_) #[true, true, true, true, true, true, true, true, true, true, true, false, false, false, false, false, false, false, false, false] rfl rfl (zby HT_.out (by kernel_rfl)) (fun _ _ _ h => h) (Or.inr ⟨by rfl, rfl⟩) ?_ ?_
               rotate_left
               · simp only [Act.put, zaa, zab, zac, zbw, zbx]
                 rfl
               refine pure_ (i := 11) (N := some 52) (v := undef) (a' := ?_) #[true, true, true, true, true, true, true, true, true, true, true, true, false, false, false, false, false, false, false, false] rfl rfl (zby HT_.out (by kernel_rfl)) (fun _ _ _ h => h) (Or.inr ⟨by rfl, rfl⟩) ?_ ?_
               rotate_left
               · simp only [Act.put, zaa, zab, zac, zbw, zbx]
                 rfl
               refine pure_ (i := 12) (N := some 53) (v := undef) (a' := ?_) taix rfl rfl (zby HT_.out (by kernel_rfl)) (fun _ _ _ h => h) (Or.inr ⟨by rfl, rfl⟩) ?_ ?_
               rotate_left
               · simp only [Act.put, zaa, zab, zac, zbw, zbx]
                 rfl
               refine pure_ (i := 13) (N := some 54) (v := undef) (a' := ?_) taiy rfl rfl (zby HT_.out (by kernel_rfl)) (fun _ _ _ h => h) (Or.inr ⟨by rfl, rfl⟩) ?_ ?_
               rotate_left
               · simp only [Act.put, zaa, zab, zac, zbw, zbx]
                 rfl
               refine pure_ (i := 14) (N := some 55) (v := undef) (a' := ?_) taiz rfl rfl (zby HT_.out (by kernel_rfl)) (fun _ _ _ h => h) (Or.inr ⟨by rfl, rfl⟩) ?_ ?_
               rotate_left
               · simp only [Act.put, zaa, zab, zac, zbw, zbx]
                 rfl
               refine pure_ (i := 15) (N := some 56) (v := undef) (a' := ?_) taja rfl rfl (zby HT_.out (by kernel_rfl)) (fun _ _ _ h => h) (Or.inr ⟨by rfl, rfl⟩) ?_ ?_
               rotate_left
               · simp only [Act.put, zaa, zab, zac, zbw, zbx]
                 rfl
               refine pure_ (i := 16) (N := some 57) (v := undef) (a' := ?_) tajb rfl rfl (zby HT_.out (by kernel_rfl)) (fun _ _ _ h => h) (Or.inr ⟨by rfl, rfl⟩) ?_ ?_
               rotate_left
               · simp only [Act.put, zaa, zab, zac, zbw, zbx]
                 rfl
               refine pure_ (i := 17) (N := some 58) (v := undef) (a' := ?_) tajc rfl rfl (zby HT_.out (by kernel_rfl)) (fun _ _ _ h => h) (Or.inr ⟨by rfl, rfl⟩) ?_ ?_
               rotate_left
               · simp only [Act.put, zaa, zab, zac, zbw, zbx]
                 rfl
               refine pure_ (i := 18) (N := some 59) (v := undef) (a' := ?_) tajd rfl rfl (zby HT_.out (by kernel_rfl)) (fun _ _ _ h => h) (Or.inr ⟨by rfl, rfl⟩) ?_ ?_
               rotate_left
               · simp only [Act.put, zaa, zab, zac, zbw, zbx]
                 rfl
               refine pure_ (i := 19) (N := some 60) (v := ?_) (a' := ?_) taje rfl rfl (zby HT_.out (by kernel_rfl)) (fun _ _ _ h => h) (Or.inl ⟨by rfl, ?_⟩) ?_ ?_
               rotate_left
               · intro w'
                 go_simp; with_reducible rfl
               rotate_left
               · simp only [Act.put, zaa, zab, zac, zbw, zbx]
                 rfl
               refine done_ (done_of HT_.out (by kernel_rfl)) ?_
               try go_wp2
               go_roundg kj16
               case measure => have := HK1.out; have := HJ16.out; omega
               case rel => exact ⟨(x7_1), (wrap64 (x8_1 - 1)), (t231), (t232), (taag), H', ⟨tabu⟩, ⟨taaj⟩, ⟨taai⟩, ⟨taaf⟩, ⟨taae⟩, ⟨taal⟩⟩
           · rw [if_neg c24] at H
             exact absurd H (taac)
         · rw [if_neg c23] at H
           exact absurd H (taac)
       · replace c20 := zbg.mpr c20
         subst c20; have H1 : ((spec_l1Cur_one.f s0_0 x1001_1 x1002_1 5).bind fun bt224 => (if bt224.1 = true then (some (t205, x7_1, bt224.2.1, bt224.2.2)) else (some (x7_1, t205, bt224.2.1, bt224.2.2)))) = some (r1, r2, r3, r4) := by rw [if_neg (show ¬ (false = true) by decide)] at H; exact H
         clear H; have H := H1; clear H1; replace H := zay.mp H; obtain ⟨⟨t224, t225, t226⟩, A610, H⟩ := H
         replace H : (if t224 = true then (some (t205, x7_1, t225, t226)) else (some (x7_1, t205, t225, t226))) = some (r1, r2, r3, r4) := H
         have A61 := zad A610; clear A610; by_cases c62 : t224 = true
         · subst c62
           have H1 : (some (t205, x7_1, t225, t226)) = some (r1, r2, r3, r4) := by rw [if_pos rfl] at H; exact H
           clear H; have H := H1; clear H1; simp only [zbl, zbp] at H
           obtain ⟨rfl, rfl, rfl, rfl⟩ := H
           go_wp2_with (first | ((with_reducible refine zbf (f := 89) rfl ?_); refine zbn (some 74) rfl rfl Try.func89 (by kernel_rfl) rfl #[.pointer (some ⟨g, 0, none⟩), .int .i64 5] rfl (taad) ?_; (with_reducible refine (spec_l1Cur_one.calls g s0_0 x1001_1 x1002_1 5 true t225 t226 w0 _ ?side1 ?side2 A61.out).mono ?_); (case side1 => exact taew); (case side2 => exact taex); rintro e w63 ⟨rfl, hi, hb, hk⟩; refine ⟨_, rfl, ?_⟩; have n0_ := zad (zbq (zbr (zcj (show IsS75 w0 _ g s0_0 x1001_1 x1002_1 from by exact taes) (taaj) (by decide)) hk (fun _ h => h.2)) (fun _ h => h.1)); have n1_ := zad (zbq (zbr (zcj (show IsS75 w0 _ g s0_0 x1001_1 x1002_1 from by exact taes) (taai) (by decide)) hk (fun _ h => h.2)) (fun _ h => h.1)); have n2_ := zad (zbs (taae) hk (.inl rfl)); have n3_ := zad (hb); have n4_ := zad (hi); clear HO_6 HO_7 HK HB HI0; have HO_6 := n0_; have HO_7 := n1_; have HK := n2_; have HB := n3_; have HI0 := n4_; clear n0_ n1_ n2_ n3_ n4_; (try clear hb); (try clear hb2); (try clear hk); (try clear hi)))
           go_ret2
           exact ⟨_, _, taah, taaj, taai, taaf, taal, taae⟩
         · replace c62 := zbg.mpr c62
           subst c62; have H1 : (some (x7_1, t205, t225, t226)) = some (r1, r2, r3, r4) := by rw [if_neg (show ¬ (false = true) by decide)] at H; exact H
           clear H; have H := H1; clear H1; simp only [zbl, zbp] at H
           obtain ⟨rfl, rfl, rfl, rfl⟩ := H
           go_wp2_with (first | ((with_reducible refine zbf (f := 89) rfl ?_); refine zbn (some 74) rfl rfl Try.func89 (by kernel_rfl) rfl #[.pointer (some ⟨g, 0, none⟩), .int .i64 5] rfl (taad) ?_; (with_reducible refine (spec_l1Cur_one.calls g s0_0 x1001_1 x1002_1 5 false t225 t226 w0 _ ?side1 ?side2 A61.out).mono ?_); (case side1 => exact taew); (case side2 => exact taex); rintro e w64 ⟨rfl, hi, hb, hk⟩; refine ⟨_, rfl, ?_⟩; have n0_ := zad (zbq (zbr (zcj (show IsS75 w0 _ g s0_0 x1001_1 x1002_1 from by exact taes) (taaj) (by decide)) hk (fun _ h => h.2)) (fun _ h => h.1)); have n1_ := zad (zbq (zbr (zcj (show IsS75 w0 _ g s0_0 x1001_1 x1002_1 from by exact taes) (taai) (by decide)) hk (fun _ h => h.2)) (fun _ h => h.1)); have n2_ := zad (zbs (taae) hk (.inl rfl)); have n3_ := zad (hb); have n4_ := zad (hi); clear HO_6 HO_7 HK HB HI0; have HO_6 := n0_; have HO_7 := n1_; have HK := n2_; have HB := n3_; have HI0 := n4_; clear n0_ n1_ n2_ n3_ n4_; (try clear hb); (try clear hb2); (try clear hk); (try clear hi)))
           go_ret2
           exact ⟨_, _, taah, taai, taaj, taaf, taal, taae⟩
mutual
def spec_l1Cur_majorized.l0 : Nat → List Int → List Int → Int → List Int → Int → Int → Option (List Int × List Int × Int × Int)
 | 0, _, _, _, _, _, _ => none
 | k + 1, x6, x7, x8, x1000, x1001, x1002 => if x8 > 0 then (spec_l1Cur_majorized.j1 k x6 x7 x8 (decide ((x7.length : Int) > 1)) x1000 x1001 x1002) else (spec_l1Cur_majorized.j1 k x6 x7 x8 false x1000 x1001 x1002)
def spec_l1Cur_majorized.j1 : Nat → List Int → List Int → Int → Bool → List Int → Int → Int → Option (List Int × List Int × Int × Int)
 | 0, _, _, _, _, _, _, _ => none
 | k + 1, x6, x7, x8, x31, x1000, x1001, x1002 => if x31 = true then ((spec_l1Cur_pick.f x1000 x1001 x1002 (x7.length : Int)).bind fun bt1120 => ((spec_l1Cur_pick.f x1000 bt1120.2.1 bt1120.2.2 (x7.length : Int)).bind fun bt1123 => (if 0 ≤ bt1120.1 then (if bt1120.1 < (x7.length : Int) then (if 0 ≤ bt1123.1 then (if bt1123.1 < (x7.length : Int) then (if (rd x7 bt1120.1) ≥ (wrap64 ((rd x7 bt1123.1) + 2)) then ((some (x7.set (bt1120.1 : Int).toNat (wrap64 ((rd x7 bt1120.1) - 1)) : List Int)).bind fun y1129 => (spec_l1Cur_majorized.l0 k x6 (y1129.set (bt1123.1 : Int).toNat (wrap64 ((rd y1129 bt1123.1) + 1))) (wrap64 (x8 - 1)) x1000 bt1123.2.1 bt1123.2.2)) else (spec_l1Cur_majorized.l0 k x6 x7 (wrap64 (x8 - 1)) x1000 bt1123.2.1 bt1123.2.2)) else (none)) else (none)) else (none)) else (none)))) else (some (x7, x6, x1001, x1002))
end
def spec_l1Cur_majorized.f (k : Nat) (s0_0 : List Int) (s0_1 : Int) (s0_2 : Int) (a1 : Int) : Option (List Int × List Int × Int × Int) := (spec_l1Cur_list.f k s0_0 s0_1 s0_2 a1).bind fun bt1098 => ((spec_l1Cur_one.f s0_0 bt1098.2.1 bt1098.2.2 8).bind fun bt1103 => (if bt1103.1 = true then ((spec_l1Cur_fitting.f k s0_0 bt1103.2.1 bt1103.2.2 a1).bind fun bt1106 => (some (bt1106.1, bt1106.2.1, bt1106.2.2.1, bt1106.2.2.2))) else ((spec_l1Own.f bt1098.1).bind fun t1114 => ((spec_l1Cur_pick.f s0_0 bt1103.2.1 bt1103.2.2 9).bind fun bt1117 => (spec_l1Cur_majorized.l0 k bt1098.1 t1114 bt1117.1 s0_0 bt1117.2.1 bt1117.2.2)))))
theorem spec_l1Cur_majorized.calls (k : Nat) (g : Nat) (s0_0 : List Int) (s0_1 : Int) (s0_2 : Int) (a1 : Int) (r1 : List Int) (r2 : List Int) (r3 : Int) (r4 : Int) (w0 w : World) (hI : IsS75 w0 w g s0_0 s0_1 s0_2) (hB : Below w0.heap.size w0 w) (h : spec_l1Cur_majorized.f k s0_0 s0_1 s0_2 a1 = some (r1, r2, r3, r4)) :
 Calls Try.prog 127 #[.pointer (some ⟨g, 0, none⟩), .int .i64 a1] w fun e w' => ∃ v0_ v1_ : Value, e = .returned (.tuple #[v0_, v1_]) ∧ Kd.R (Kd.int .i64) 3 w' w.heap.size (fun k_ => some k_ ≠ (v1_ : Value).ownBlock) v0_ r1 ∧ Kd.R (Kd.int .i64) 3 w' w.heap.size (fun k_ => some k_ ≠ (v0_ : Value).ownBlock) v1_ r2 ∧ IsS75 w0 w' g s0_0 r3 r4 ∧ Below w0.heap.size w0 w' ∧ KeepBut w w' g none := by
 have HI0 := zad hI; have HK := zad (KeepBut.refl w g none)
 have HL := zad hB.size; clear hI; have HW0 := zad hB.size; have HB := zad hB; clear hB; have H : ((spec_l1Cur_list.f k s0_0 s0_1 s0_2 a1).bind fun bt1098 => ((spec_l1Cur_one.f s0_0 bt1098.2.1 bt1098.2.2 8).bind fun bt1103 => (if bt1103.1 = true then ((spec_l1Cur_fitting.f k s0_0 bt1103.2.1 bt1103.2.2 a1).bind fun bt1106 => (some (bt1106.1, bt1106.2.1, bt1106.2.2.1, bt1106.2.2.2))) else ((spec_l1Own.f bt1098.1).bind fun t1114 => ((spec_l1Cur_pick.f s0_0 bt1103.2.1 bt1103.2.2 9).bind fun bt1117 => (spec_l1Cur_majorized.l0 k bt1098.1 t1114 bt1117.1 s0_0 bt1117.2.1 bt1117.2.2)))))) = some (r1, r2, r3, r4) := h
 clear h; replace H := zay.mp H; obtain ⟨⟨t1098, t1101, t1102⟩, A30, H⟩ := H
 replace H : ((spec_l1Cur_one.f s0_0 t1101 t1102 8).bind fun bt1103 => (if bt1103.1 = true then ((spec_l1Cur_fitting.f k s0_0 bt1103.2.1 bt1103.2.2 a1).bind fun bt1106 => (some (bt1106.1, bt1106.2.1, bt1106.2.2.1, bt1106.2.2.2))) else ((spec_l1Own.f t1098).bind fun t1114 => ((spec_l1Cur_pick.f s0_0 bt1103.2.1 bt1103.2.2 9).bind fun bt1117 => (spec_l1Cur_majorized.l0 k t1098 t1114 bt1117.1 s0_0 bt1117.2.1 bt1117.2.2))))) = some (r1, r2, r3, r4) := H
 have A3 := zad A30; clear A30; replace H := zay.mp H; obtain ⟨⟨t1103, t1104, t1105⟩, A40, H⟩ := H
 replace H : (if t1103 = true then ((spec_l1Cur_fitting.f k s0_0 t1104 t1105 a1).bind fun bt1106 => (some (bt1106.1, bt1106.2.1, bt1106.2.2.1, bt1106.2.2.2))) else ((spec_l1Own.f t1098).bind fun t1114 => ((spec_l1Cur_pick.f s0_0 t1104 t1105 9).bind fun bt1117 => (spec_l1Cur_majorized.l0 k t1098 t1114 bt1117.1 s0_0 bt1117.2.1 bt1117.2.2)))) = some (r1, r2, r3, r4) := H
 have A4 := zad A40; clear A40; by_cases c5 : t1103 = true
 · subst c5
   have H1 : ((spec_l1Cur_fitting.f k s0_0 t1104 t1105 a1).bind fun bt1106 => (some (bt1106.1, bt1106.2.1, bt1106.2.2.1, bt1106.2.2.2))) = some (r1, r2, r3, r4) := by rw [if_pos rfl] at H; exact H
   clear H; have H := H1; clear H1; replace H := zay.mp H; obtain ⟨⟨t1106, t1109, t1112, t1113⟩, A60, H⟩ := H
   replace H : (some (t1106, t1109, t1112, t1113)) = some (r1, r2, r3, r4) := H
   have A6 := zad A60; clear A60; simp only [zbl, zbp] at H
   obtain ⟨rfl, rfl, rfl, rfl⟩ := H
   go_enter Try.func127, Try.ntmps127
   go_wp2_with (first | (go_at_call 109; (with_reducible refine (spec_l1Cur_list.calls k g s0_0 s0_1 s0_2 a1 t1098 t1101 t1102 w0 _ ?side1 ?side2 A3.out).mono ?_); (case side1 => repeat (first | (with_reducible first | exact HI0.out | apply zcg | apply zch | apply zci | apply zcn | apply zco) | exact HI0.out)); (case side2 => repeat (first | (with_reducible first | exact HB.out | apply zag | apply zae | apply zaf | refine zah ?_ (zcl HI0.out)) | exact HB.out)); rintro e w7 ⟨v1099, rfl, ho0, hi, hb, hk⟩; have n0_ := zad (zbu ho0 (keep_size (w := w) (g := g) (row := none) (taae))); have n1_ := zad (zbs (taae) hk (.inl rfl)); have n2_ := zad (hb); have n3_ := zad (hi); clear HK HB HI0; have HO1100 := n0_; have HK := n1_; have HB := n2_; have HI0 := n3_; clear n0_ n1_ n2_ n3_; (try clear hb); (try clear hb2); (try clear hk); (try clear hi); (try clear ho0)) | (go_at_call 89; (with_reducible refine (spec_l1Cur_one.calls g s0_0 t1101 t1102 8 true t1104 t1105 w0 _ ?side1 ?side2 A4.out).mono ?_); (case side1 => repeat (first | (with_reducible first | exact HI0.out | apply zcg | apply zch | apply zci | apply zcn | apply zco) | exact HI0.out)); (case side2 => repeat (first | (with_reducible first | exact HB.out | apply zag | apply zae | apply zaf | refine zah ?_ (zcl HI0.out)) | exact HB.out)); rintro e w8 ⟨rfl, hi, hb, hk⟩; have n0_ := zad (zbq (zbr (zcj (show IsS75 w0 _ g s0_0 t1101 t1102 from by exact taes) (taas) (by decide)) hk (fun _ h => h.2)) (fun _ h => h.1)); have n1_ := zad (zbs (taae) hk (.inl rfl)); have n2_ := zad (hb); have n3_ := zad (hi); clear HO1100 HK HB HI0; have HO1100 := n0_; have HK := n1_; have HB := n2_; have HI0 := n3_; clear n0_ n1_ n2_ n3_; (try clear hb); (try clear hb2); (try clear hk); (try clear hi)) | (go_at_call 87; (with_reducible refine (spec_l1Cur_fitting.calls k g s0_0 t1104 t1105 a1 t1106 t1109 t1112 t1113 w0 _ ?side1 ?side2 A6.out).mono ?_); (case side1 => repeat (first | (with_reducible first | exact HI0.out | apply zcg | apply zch | apply zci | apply zcn | apply zco) | exact HI0.out)); (case side2 => repeat (first | (with_reducible first | exact HB.out | apply zag | apply zae | apply zaf | refine zah ?_ (zcl HI0.out)) | exact HB.out)); rintro e w9 ⟨v1107, v1110, rfl, ho0, ho1, hi, hb, hk⟩; have n0_ := zad (zbq (Kd.R_told (Kd.R_told (Kd.R_oldK (zcj (show IsS75 w0 _ g s0_0 t1104 t1105 from by exact taes) (taas) (by decide)) hk) (zcd ho0)) (zcd ho1)) (fun _ h_ => h_.1)); have n1_ := zad (zbu (zcc ho0 (zce (taas))) (keep_size (w := w) (g := g) (row := none) (taae))); have n2_ := zad (zbu (zcc ho1 (zce (taas))) (keep_size (w := w) (g := g) (row := none) (taae))); have n3_ := zad (zbs (taae) hk (.inl rfl)); have n4_ := zad (hb); have n5_ := zad (hi); clear HO1100 HK HB HI0; have HO1100 := n0_; have HO1108 := n1_; have HO1111 := n2_; have HK := n3_; have HB := n4_; have HI0 := n5_; clear n0_ n1_ n2_ n3_ n4_ n5_; (try clear hb); (try clear hb2); (try clear hk); (try clear hi); (try clear ho0); (try clear ho1)))
   repeat (go_quiet (first | (go_at_call 109; (with_reducible refine (spec_l1Cur_list.calls k g s0_0 s0_1 s0_2 a1 t1098 t1101 t1102 w0 _ ?side1 ?side2 A3.out).mono ?_); (case side1 => repeat (first | (with_reducible first | exact HI0.out | apply zcg | apply zch | apply zci | apply zcn | apply zco) | exact HI0.out)); (case side2 => repeat (first | (with_reducible first | exact HB.out | apply zag | apply zae | apply zaf | refine zah ?_ (zcl HI0.out)) | exact HB.out)); rintro e w7 ⟨v1099, rfl, ho0, hi, hb, hk⟩; have n0_ := zad (zbu ho0 (keep_size (w := w) (g := g) (row := none) (taae))); have n1_ := zad (zbs (taae) hk (.inl rfl)); have n2_ := zad (hb); have n3_ := zad (hi); clear HK HB HI0; have HO1100 := n0_; have HK := n1_; have HB := n2_; have HI0 := n3_; clear n0_ n1_ n2_ n3_; (try clear hb); (try clear hb2); (try clear hk); (try clear hi); (try clear ho0)) | (go_at_call 89; (with_reducible refine (spec_l1Cur_one.calls g s0_0 t1101 t1102 8 true t1104 t1105 w0 _ ?side1 ?side2 A4.out).mono ?_); (case side1 => repeat (first | (with_reducible first | exact HI0.out | apply zcg | apply zch | apply zci | apply zcn | apply zco) | exact HI0.out)); (case side2 => repeat (first | (with_reducible first | exact HB.out | apply zag | apply zae | apply zaf | refine zah ?_ (zcl HI0.out)) | exact HB.out)); rintro e w8 ⟨rfl, hi, hb, hk⟩; have n0_ := zad (zbq (zbr (zcj (show IsS75 w0 _ g s0_0 t1101 t1102 from by exact taes) (taas) (by decide)) hk (fun _ h => h.2)) (fun _ h => h.1)); have n1_ := zad (zbs (taae) hk (.inl rfl)); have n2_ := zad (hb); have n3_ := zad (hi); clear HO1100 HK HB HI0; have HO1100 := n0_; have HK := n1_; have HB := n2_; have HI0 := n3_; clear n0_ n1_ n2_ n3_; (try clear hb); (try clear hb2); (try clear hk); (try clear hi)) | (go_at_call 87; (with_reducible refine (spec_l1Cur_fitting.calls k g s0_0 t1104 t1105 a1 t1106 t1109 t1112 t1113 w0 _ ?side1 ?side2 A6.out).mono ?_); (case side1 => repeat (first | (with_reducible first | exact HI0.out | apply zcg | apply zch | apply zci | apply zcn | apply zco) | exact HI0.out)); (case side2 => repeat (first | (with_reducible first | exact HB.out | apply zag | apply zae | apply zaf | refine zah ?_ (zcl HI0.out)) | exact HB.out)); rintro e w9 ⟨v1107, v1110, rfl, ho0, ho1, hi, hb, hk⟩; have n0_ := zad (zbq (Kd.R_told (Kd.R_told (Kd.R_oldK (zcj (show IsS75 w0 _ g s0_0 t1104 t1105 from by exact taes) (taas) (by decide)) hk) (zcd ho0)) (zcd ho1)) (fun _ h_ => h_.1)); have n1_ := zad (zbu (zcc ho0 (zce (taas))) (keep_size (w := w) (g := g) (row := none) (taae))); have n2_ := zad (zbu (zcc ho1 (zce (taas))) (keep_size (w := w) (g := g) (row := none) (taae))); have n3_ := zad (zbs (taae) hk (.inl rfl)); have n4_ := zad (hb); have n5_ := zad (hi); clear HO1100 HK HB HI0; have HO1100 := n0_; have HO1108 := n1_; have HO1111 := n2_; have HK := n3_; have HB := n4_; have HI0 := n5_; clear n0_ n1_ n2_ n3_ n4_ n5_; (try clear hb); (try clear hb2); (try clear hk); (try clear hi); (try clear ho0); (try clear ho1))); try go_wp2_with (first | (go_at_call 109; (with_reducible refine (spec_l1Cur_list.calls k g s0_0 s0_1 s0_2 a1 t1098 t1101 t1102 w0 _ ?side1 ?side2 A3.out).mono ?_); (case side1 => repeat (first | (with_reducible first | exact HI0.out | apply zcg | apply zch | apply zci | apply zcn | apply zco) | exact HI0.out)); (case side2 => repeat (first | (with_reducible first | exact HB.out | apply zag | apply zae | apply zaf | refine zah ?_ (zcl HI0.out)) | exact HB.out)); rintro e w7 ⟨v1099, rfl, ho0, hi, hb, hk⟩; have n0_ := zad (zbu ho0 (keep_size (w := w) (g := g) (row := none) (taae))); have n1_ := zad (zbs (taae) hk (.inl rfl)); have n2_ := zad (hb); have n3_ := zad (hi); clear HK HB HI0; have HO1100 := n0_; have HK := n1_; have HB := n2_; have HI0 := n3_; clear n0_ n1_ n2_ n3_; (try clear hb); (try clear hb2); (try clear hk); (try clear hi); (try clear ho0)) | (go_at_call 89; (with_reducible refine (spec_l1Cur_one.calls g s0_0 t1101 t1102 8 true t1104 t1105 w0 _ ?side1 ?side2 A4.out).mono ?_); (case side1 => repeat (first | (with_reducible first | exact HI0.out | apply zcg | apply zch | apply zci | apply zcn | apply zco) | exact HI0.out)); (case side2 => repeat (first | (with_reducible first | exact HB.out | apply zag | apply zae | apply zaf | refine zah ?_ (zcl HI0.out)) | exact HB.out)); rintro e w8 ⟨rfl, hi, hb, hk⟩; have n0_ := zad (zbq (zbr (zcj (show IsS75 w0 _ g s0_0 t1101 t1102 from by exact taes) (taas) (by decide)) hk (fun _ h => h.2)) (fun _ h => h.1)); have n1_ := zad (zbs (taae) hk (.inl rfl)); have n2_ := zad (hb); have n3_ := zad (hi); clear HO1100 HK HB HI0; have HO1100 := n0_; have HK := n1_; have HB := n2_; have HI0 := n3_; clear n0_ n1_ n2_ n3_; (try clear hb); (try clear hb2); (try clear hk); (try clear hi)) | (go_at_call 87; (with_reducible refine (spec_l1Cur_fitting.calls k g s0_0 t1104 t1105 a1 t1106 t1109 t1112 t1113 w0 _ ?side1 ?side2 A6.out).mono ?_); (case side1 => repeat (first | (with_reducible first | exact HI0.out | apply zcg | apply zch | apply zci | apply zcn | apply zco) | exact HI0.out)); (case side2 => repeat (first | (with_reducible first | exact HB.out | apply zag | apply zae | apply zaf | refine zah ?_ (zcl HI0.out)) | exact HB.out)); rintro e w9 ⟨v1107, v1110, rfl, ho0, ho1, hi, hb, hk⟩; have n0_ := zad (zbq (Kd.R_told (Kd.R_told (Kd.R_oldK (zcj (show IsS75 w0 _ g s0_0 t1104 t1105 from by exact taes) (taas) (by decide)) hk) (zcd ho0)) (zcd ho1)) (fun _ h_ => h_.1)); have n1_ := zad (zbu (zcc ho0 (zce (taas))) (keep_size (w := w) (g := g) (row := none) (taae))); have n2_ := zad (zbu (zcc ho1 (zce (taas))) (keep_size (w := w) (g := g) (row := none) (taae))); have n3_ := zad (zbs (taae) hk (.inl rfl)); have n4_ := zad (hb); have n5_ := zad (hi); clear HO1100 HK HB HI0; have HO1100 := n0_; have HO1108 := n1_; have HO1111 := n2_; have HK := n3_; have HB := n4_; have HI0 := n5_; clear n0_ n1_ n2_ n3_ n4_ n5_; (try clear hb); (try clear hb2); (try clear hk); (try clear hi); (try clear ho0); (try clear ho1))))
   go_ret2
   exact ⟨_, _, taah, by (with_reducible repeat (first | apply zai | apply zaj | apply zak)); exact zbq HO1108.out (fun _ hk => hk.1), by (with_reducible repeat (first | apply zai | apply zaj | apply zak)); exact zbq HO1111.out (fun _ hk => hk.1), taaf, taal, taae⟩
 · replace c5 := zbg.mpr c5
   subst c5; have H1 : ((spec_l1Own.f t1098).bind fun t1114 => ((spec_l1Cur_pick.f s0_0 t1104 t1105 9).bind fun bt1117 => (spec_l1Cur_majorized.l0 k t1098 t1114 bt1117.1 s0_0 bt1117.2.1 bt1117.2.2))) = some (r1, r2, r3, r4) := by rw [if_neg (show ¬ (false = true) by decide)] at H; exact H
   clear H; have H := H1; clear H1; replace H := zay.mp H; obtain ⟨t1114, A100, H⟩ := H
   replace H : ((spec_l1Cur_pick.f s0_0 t1104 t1105 9).bind fun bt1117 => (spec_l1Cur_majorized.l0 k t1098 t1114 bt1117.1 s0_0 bt1117.2.1 bt1117.2.2)) = some (r1, r2, r3, r4) := H
   have A10 := zad A100; clear A100; replace H := zay.mp H; obtain ⟨⟨t1117, t1118, t1119⟩, A110, H⟩ := H
   replace H : (spec_l1Cur_majorized.l0 k t1098 t1114 t1117 s0_0 t1118 t1119) = some (r1, r2, r3, r4) := H
   have A11 := zad A110; clear A110; have H' := zad H
   clear H; go_enter Try.func127, Try.ntmps127
   go_wp2_with (first | (go_at_call 109; (with_reducible refine (spec_l1Cur_list.calls k g s0_0 s0_1 s0_2 a1 t1098 t1101 t1102 w0 _ ?side1 ?side2 A3.out).mono ?_); (case side1 => repeat (first | (with_reducible first | exact HI0.out | apply zcg | apply zch | apply zci | apply zcn | apply zco) | exact HI0.out)); (case side2 => repeat (first | (with_reducible first | exact HB.out | apply zag | apply zae | apply zaf | refine zah ?_ (zcl HI0.out)) | exact HB.out)); rintro e w12 ⟨v1099, rfl, ho0, hi, hb, hk⟩; have n0_ := zad (zbu ho0 (keep_size (w := w) (g := g) (row := none) (taae))); have n1_ := zad (zbs (taae) hk (.inl rfl)); have n2_ := zad (hb); have n3_ := zad (hi); clear HK HB HI0; have HO1100 := n0_; have HK := n1_; have HB := n2_; have HI0 := n3_; clear n0_ n1_ n2_ n3_; (try clear hb); (try clear hb2); (try clear hk); (try clear hi); (try clear ho0)) | (go_at_call 89; (with_reducible refine (spec_l1Cur_one.calls g s0_0 t1101 t1102 8 false t1104 t1105 w0 _ ?side1 ?side2 A4.out).mono ?_); (case side1 => repeat (first | (with_reducible first | exact HI0.out | apply zcg | apply zch | apply zci | apply zcn | apply zco) | exact HI0.out)); (case side2 => repeat (first | (with_reducible first | exact HB.out | apply zag | apply zae | apply zaf | refine zah ?_ (zcl HI0.out)) | exact HB.out)); rintro e w13 ⟨rfl, hi, hb, hk⟩; have n0_ := zad (zbq (zbr (zcj (show IsS75 w0 _ g s0_0 t1101 t1102 from by exact taes) (taas) (by decide)) hk (fun _ h => h.2)) (fun _ h => h.1)); have n1_ := zad (zbs (taae) hk (.inl rfl)); have n2_ := zad (hb); have n3_ := zad (hi); clear HO1100 HK HB HI0; have HO1100 := n0_; have HK := n1_; have HB := n2_; have HI0 := n3_; clear n0_ n1_ n2_ n3_; (try clear hb); (try clear hb2); (try clear hk); (try clear hi); obtain ⟨Ao14, co14, eo14⟩ := zbv HO1100.out; subst eo14) | (go_at_call 111; (with_reducible refine (spec_l1Own.calls _ _ t1098 t1114 _ ?side1 ?side2 A10.out).mono ?_); (case side1 => repeat (first | exact (zbd HO1100.out).2.2 | (with_reducible refine zal ?_ _) | (with_reducible refine zam ?_ _) | (with_reducible refine zan ?_))); (case side2 => exact (zbd HO1100.out).2.1); rintro e w15 ⟨v1115, rfl, ho0, hb⟩; have n0_ := zad (zcb (taas) (zcd ho0) hb); have n1_ := zad (zbu (zcc ho0 (zce (taas))) (keep_size (w := w) (g := g) (row := none) (taae))); have n2_ := zad (IsS75.below (taaf) hb); have n3_ := zad (zbs (taae) (KeepBut.of_below hb g none) (.inl rfl)); have n4_ := zad (zbe (taal) hb); clear HO1100 HI0 HK HB; have HO1100 := n0_; have HO1116 := n1_; have HI0 := n2_; have HK := n3_; have HB := n4_; clear n0_ n1_ n2_ n3_ n4_; (try clear hb); (try clear hb2); (try clear hk); (try clear hi); (try clear ho0)) | (go_at_call 80; (with_reducible refine (spec_l1Cur_pick.calls g s0_0 t1104 t1105 9 t1117 t1118 t1119 w0 _ ?side1 ?side2 A11.out).mono ?_); (case side1 => repeat (first | (with_reducible first | exact HI0.out | apply zcg | apply zch | apply zci | apply zcn | apply zco) | exact HI0.out)); (case side2 => repeat (first | (with_reducible first | exact HB.out | apply zag | apply zae | apply zaf | refine zah ?_ (zcl HI0.out)) | exact HB.out)); rintro e w16 ⟨rfl, hi, hb, hk⟩; have n0_ := zad (zbq (zbr (zcj (show IsS75 w0 _ g s0_0 t1104 t1105 from by exact taes) (taas) (by decide)) hk (fun _ h => h.2)) (fun _ h => h.1)); have n1_ := zad (zbq (zbr (zcj (show IsS75 w0 _ g s0_0 t1104 t1105 from by exact taes) (tadj) (by decide)) hk (fun _ h => h.2)) (fun _ h => h.1)); have n2_ := zad (zbs (taae) hk (.inl rfl)); have n3_ := zad (hb); have n4_ := zad (hi); clear HO1100 HO1116 HK HB HI0; have HO1100 := n0_; have HO1116 := n1_; have HK := n2_; have HB := n3_; have HI0 := n4_; clear n0_ n1_ n2_ n3_ n4_; (try clear hb); (try clear hb2); (try clear hk); (try clear hi)))
   repeat (go_quiet (first | (go_at_call 109; (with_reducible refine (spec_l1Cur_list.calls k g s0_0 s0_1 s0_2 a1 t1098 t1101 t1102 w0 _ ?side1 ?side2 A3.out).mono ?_); (case side1 => repeat (first | (with_reducible first | exact HI0.out | apply zcg | apply zch | apply zci | apply zcn | apply zco) | exact HI0.out)); (case side2 => repeat (first | (with_reducible first | exact HB.out | apply zag | apply zae | apply zaf | refine zah ?_ (zcl HI0.out)) | exact HB.out)); rintro e w12 ⟨v1099, rfl, ho0, hi, hb, hk⟩; have n0_ := zad (zbu ho0 (keep_size (w := w) (g := g) (row := none) (taae))); have n1_ := zad (zbs (taae) hk (.inl rfl)); have n2_ := zad (hb); have n3_ := zad (hi); clear HK HB HI0; have HO1100 := n0_; have HK := n1_; have HB := n2_; have HI0 := n3_; clear n0_ n1_ n2_ n3_; (try clear hb); (try clear hb2); (try clear hk); (try clear hi); (try clear ho0)) | (go_at_call 89; (with_reducible refine (spec_l1Cur_one.calls g s0_0 t1101 t1102 8 false t1104 t1105 w0 _ ?side1 ?side2 A4.out).mono ?_); (case side1 => repeat (first | (with_reducible first | exact HI0.out | apply zcg | apply zch | apply zci | apply zcn | apply zco) | exact HI0.out)); (case side2 => repeat (first | (with_reducible first | exact HB.out | apply zag | apply zae | apply zaf | refine zah ?_ (zcl HI0.out)) | exact HB.out)); rintro e w13 ⟨rfl, hi, hb, hk⟩; have n0_ := zad (zbq (zbr (zcj (show IsS75 w0 _ g s0_0 t1101 t1102 from by exact taes) (taas) (by decide)) hk (fun _ h => h.2)) (fun _ h => h.1)); have n1_ := zad (zbs (taae) hk (.inl rfl)); have n2_ := zad (hb); have n3_ := zad (hi); clear HO1100 HK HB HI0; have HO1100 := n0_; have HK := n1_; have HB := n2_; have HI0 := n3_; clear n0_ n1_ n2_ n3_; (try clear hb); (try clear hb2); (try clear hk); (try clear hi); obtain ⟨Ao14, co14, eo14⟩ := zbv HO1100.out; subst eo14) | (go_at_call 111; (with_reducible refine (spec_l1Own.calls _ _ t1098 t1114 _ ?side1 ?side2 A10.out).mono ?_); (case side1 => repeat (first | exact (zbd HO1100.out).2.2 | (with_reducible refine zal ?_ _) | (with_reducible refine zam ?_ _) | (with_reducible refine zan ?_))); (case side2 => exact (zbd HO1100.out).2.1); rintro e w15 ⟨v1115, rfl, ho0, hb⟩; have n0_ := zad (zcb (taas) (zcd ho0) hb); have n1_ := zad (zbu (zcc ho0 (zce (taas))) (keep_size (w := w) (g := g) (row := none) (taae))); have n2_ := zad (IsS75.below (taaf) hb); have n3_ := zad (zbs (taae) (KeepBut.of_below hb g none) (.inl rfl)); have n4_ := zad (zbe (taal) hb); clear HO1100 HI0 HK HB; have HO1100 := n0_; have HO1116 := n1_; have HI0 := n2_; have HK := n3_; have HB := n4_; clear n0_ n1_ n2_ n3_ n4_; (try clear hb); (try clear hb2); (try clear hk); (try clear hi); (try clear ho0)) | (go_at_call 80; (with_reducible refine (spec_l1Cur_pick.calls g s0_0 t1104 t1105 9 t1117 t1118 t1119 w0 _ ?side1 ?side2 A11.out).mono ?_); (case side1 => repeat (first | (with_reducible first | exact HI0.out | apply zcg | apply zch | apply zci | apply zcn | apply zco) | exact HI0.out)); (case side2 => repeat (first | (with_reducible first | exact HB.out | apply zag | apply zae | apply zaf | refine zah ?_ (zcl HI0.out)) | exact HB.out)); rintro e w16 ⟨rfl, hi, hb, hk⟩; have n0_ := zad (zbq (zbr (zcj (show IsS75 w0 _ g s0_0 t1104 t1105 from by exact taes) (taas) (by decide)) hk (fun _ h => h.2)) (fun _ h => h.1)); have n1_ := zad (zbq (zbr (zcj (show IsS75 w0 _ g s0_0 t1104 t1105 from by exact taes) (tadj) (by decide)) hk (fun _ h => h.2)) (fun _ h => h.1)); have n2_ := zad (zbs (taae) hk (.inl rfl)); have n3_ := zad (hb); have n4_ := zad (hi); clear HO1100 HO1116 HK HB HI0; have HO1100 := n0_; have HO1116 := n1_; have HK := n2_; have HB := n3_; have HI0 := n4_; clear n0_ n1_ n2_ n3_ n4_; (try clear hb); (try clear hb2); (try clear hk); (try clear hi))); try go_wp2_with (first | (go_at_call 109; (with_reducible refine (spec_l1Cur_list.calls k g s0_0 s0_1 s0_2 a1 t1098 t1101 t1102 w0 _ ?side1 ?side2 A3.out).mono ?_); (case side1 => repeat (first | (with_reducible first | exact HI0.out | apply zcg | apply zch | apply zci | apply zcn | apply zco) | exact HI0.out)); (case side2 => repeat (first | (with_reducible first | exact HB.out | apply zag | apply zae | apply zaf | refine zah ?_ (zcl HI0.out)) | exact HB.out)); rintro e w12 ⟨v1099, rfl, ho0, hi, hb, hk⟩; have n0_ := zad (zbu ho0 (keep_size (w := w) (g := g) (row := none) (taae))); have n1_ := zad (zbs (taae) hk (.inl rfl)); have n2_ := zad (hb); have n3_ := zad (hi); clear HK HB HI0; have HO1100 := n0_; have HK := n1_; have HB := n2_; have HI0 := n3_; clear n0_ n1_ n2_ n3_; (try clear hb); (try clear hb2); (try clear hk); (try clear hi); (try clear ho0)) | (go_at_call 89; (with_reducible refine (spec_l1Cur_one.calls g s0_0 t1101 t1102 8 false t1104 t1105 w0 _ ?side1 ?side2 A4.out).mono ?_); (case side1 => repeat (first | (with_reducible first | exact HI0.out | apply zcg | apply zch | apply zci | apply zcn | apply zco) | exact HI0.out)); (case side2 => repeat (first | (with_reducible first | exact HB.out | apply zag | apply zae | apply zaf | refine zah ?_ (zcl HI0.out)) | exact HB.out)); rintro e w13 ⟨rfl, hi, hb, hk⟩; have n0_ := zad (zbq (zbr (zcj (show IsS75 w0 _ g s0_0 t1101 t1102 from by exact taes) (taas) (by decide)) hk (fun _ h => h.2)) (fun _ h => h.1)); have n1_ := zad (zbs (taae) hk (.inl rfl)); have n2_ := zad (hb); have n3_ := zad (hi); clear HO1100 HK HB HI0; have HO1100 := n0_; have HK := n1_; have HB := n2_; have HI0 := n3_; clear n0_ n1_ n2_ n3_; (try clear hb); (try clear hb2); (try clear hk); (try clear hi); obtain ⟨Ao14, co14, eo14⟩ := zbv HO1100.out; subst eo14) | (go_at_call 111; (with_reducible refine (spec_l1Own.calls _ _ t1098 t1114 _ ?side1 ?side2 A10.out).mono ?_); (case side1 => repeat (first | exact (zbd HO1100.out).2.2 | (with_reducible refine zal ?_ _) | (with_reducible refine zam ?_ _) | (with_reducible refine zan ?_))); (case side2 => exact (zbd HO1100.out).2.1); rintro e w15 ⟨v1115, rfl, ho0, hb⟩; have n0_ := zad (zcb (taas) (zcd ho0) hb); have n1_ := zad (zbu (zcc ho0 (zce (taas))) (keep_size (w := w) (g := g) (row := none) (taae))); have n2_ := zad (IsS75.below (taaf) hb); have n3_ := zad (zbs (taae) (KeepBut.of_below hb g none) (.inl rfl)); have n4_ := zad (zbe (taal) hb); clear HO1100 HI0 HK HB; have HO1100 := n0_; have HO1116 := n1_; have HI0 := n2_; have HK := n3_; have HB := n4_; clear n0_ n1_ n2_ n3_ n4_; (try clear hb); (try clear hb2); (try clear hk); (try clear hi); (try clear ho0)) | (go_at_call 80; (with_reducible refine (spec_l1Cur_pick.calls g s0_0 t1104 t1105 9 t1117 t1118 t1119 w0 _ ?side1 ?side2 A11.out).mono ?_); (case side1 => repeat (first | (with_reducible first | exact HI0.out | apply zcg | apply zch | apply zci | apply zcn | apply zco) | exact HI0.out)); (case side2 => repeat (first | (with_reducible first | exact HB.out | apply zag | apply zae | apply zaf | refine zah ?_ (zcl HI0.out)) | exact HB.out)); rintro e w16 ⟨rfl, hi, hb, hk⟩; have n0_ := zad (zbq (zbr (zcj (show IsS75 w0 _ g s0_0 t1104 t1105 from by exact taes) (taas) (by decide)) hk (fun _ h => h.2)) (fun _ h => h.1)); have n1_ := zad (zbq (zbr (zcj (show IsS75 w0 _ g s0_0 t1104 t1105 from by exact taes) (tadj) (by decide)) hk (fun _ h => h.2)) (fun _ h => h.1)); have n2_ := zad (zbs (taae) hk (.inl rfl)); have n3_ := zad (hb); have n4_ := zad (hi); clear HO1100 HO1116 HK HB HI0; have HO1100 := n0_; have HO1116 := n1_; have HK := n2_; have HB := n3_; have HI0 := n4_; clear n0_ n1_ n2_ n3_ n4_; (try clear hb); (try clear hb2); (try clear hk); (try clear hi))))
   go_loopg [8] k (fun kq v8 w' => ∃ (x7_1 : List Int) (x8_1 : Int) (x1001_1 : Int) (x1002_1 : Int), v8 = .int .i64 x8_1 ∧ Aside0 (spec_l1Cur_majorized.l0 kq t1098 x7_1 x8_1 s0_0 x1001_1 x1002_1 = some (r1, r2, r3, r4)) ∧ Aside0 (kq ≤ k) ∧ Aside0 (Kd.R (Kd.int .i64) 3 w' w.heap.size (fun k_ => some k_ ≠ (v1115 : Value).ownBlock) (.slice Ao14 t1098.length co14) t1098) ∧ Aside0 (Kd.R (Kd.int .i64) 3 w' w.heap.size (fun k_ => some k_ ≠ ((.slice Ao14 t1098.length co14) : Value).ownBlock) v1115 x7_1) ∧ Aside0 (IsS75 w0 w' g s0_0 x1001_1 x1002_1) ∧ Aside0 (KeepBut w w' g none) ∧ Aside0 (Below w0.heap.size w0 w'))
   case atStart => exact ⟨(t1114), (t1117), (t1118), (t1119), (taag), H', ⟨zcf _⟩, ⟨by (with_reducible repeat (first | apply zai | apply zaj | apply zak)); exact zbq HO1100.out (fun _ hk => hk.2)⟩, ⟨by (with_reducible repeat (first | apply zai | apply zaj | apply zak)); exact zbq HO1116.out (fun _ hk => hk.2)⟩, ⟨taaf⟩, ⟨taae⟩, ⟨taal⟩⟩
   case round =>
    clear H'
    try clear c1
    try clear p2
    try clear c5
    try clear c12
    obtain ⟨x7_1, x8_1, x1001_1, x1002_1, rfl, HA, HK1, HO_6, HO_7, HI0, HK, HB⟩ := hrel
    cases gk with
    | zero => exact absurd HA.out (by simp [spec_l1Cur_majorized.l0])
    | succ k1 =>
     have H := HA.out
     clear HA; simp only [spec_l1Cur_majorized.l0] at H
     have HC17 := zad H; clear H; go_upto_region 6 with (fail)
     repeat (go_quiet (fail); go_upto_region 6 with (fail))
     go_cut [31] (fun v31 wc => ∃ (kq : Nat) (x31_16 : Bool), v31 = .bool x31_16 ∧ Aside0 (spec_l1Cur_majorized.j1 kq t1098 x7_1 x8_1 x31_16 s0_0 x1001_1 x1002_1 = some (r1, r2, r3, r4)) ∧ Aside0 (kq ≤ k1) ∧ Aside0 (Kd.R (Kd.int .i64) 3 wc w.heap.size (fun k_ => some k_ ≠ (v1115 : Value).ownBlock) (.slice Ao14 t1098.length co14) t1098) ∧ Aside0 (Kd.R (Kd.int .i64) 3 wc w.heap.size (fun k_ => some k_ ≠ ((.slice Ao14 t1098.length co14) : Value).ownBlock) v1115 x7_1) ∧ Aside0 (IsS75 w0 wc g s0_0 x1001_1 x1002_1) ∧ Aside0 (KeepBut w wc g none) ∧ Aside0 (Below w0.heap.size w0 wc))
     case first =>
      have H := HC17.out
      clear HC17; by_cases c18 : x8_1 > 0
      · rw [if_pos c18] at H
        have c18b0 : decide (0 < x8_1) = true := zba c18
        clear c18; (first | rw [c18b0] | (simp only [zbw, zbx]; rw [c18b0]) | skip)
        have H' := zad H
        clear H; obtain ⟨Ao19, co19, eo19⟩ := zbv HO_7.out
        subst eo19; go_wp2
        repeat (go_quiet (fail); try go_wp2)
        go_meet
        case rel => exact ⟨_, (decide ((x7_1.length : Int) > 1)), (taag), H', ⟨by have := HK1.out; first | omega | exact zcf _⟩, ⟨taaj⟩, ⟨taai⟩, ⟨taaf⟩, ⟨taae⟩, ⟨taal⟩⟩
      · rw [if_neg c18] at H
        have c18b0 : decide (0 < x8_1) = false := zbh c18
        clear c18; (first | rw [c18b0] | (simp only [zbw, zbx]; rw [c18b0]) | skip)
        have H' := zad H
        clear H; go_wp2
        repeat (go_quiet (fail); try go_wp2)
        go_meet
        case rel => exact ⟨_, (false), (taag), H', ⟨by have := HK1.out; first | omega | exact zcf _⟩, ⟨taaj⟩, ⟨taai⟩, ⟨taaf⟩, ⟨taae⟩, ⟨taal⟩⟩
     case rest =>
      clear HC17; try clear c1
      try clear p2
      try clear c5
      try clear c12
      try clear c18
      try clear c18b0
      try clear p2
      obtain ⟨kq, x31_16, rfl, HA, HJ16, HO_6, HO_7, HI0, HK, HB⟩ := hcut
      cases kq with
      | zero => exact absurd HA.out (by simp [spec_l1Cur_majorized.j1])
      | succ kj16 =>
       have H := HA.out
       clear HA; simp only [spec_l1Cur_majorized.j1] at H
       by_cases c20 : x31_16 = true
       · subst c20
         have H1 : ((spec_l1Cur_pick.f s0_0 x1001_1 x1002_1 (x7_1.length : Int)).bind fun bt1120 => ((spec_l1Cur_pick.f s0_0 bt1120.2.1 bt1120.2.2 (x7_1.length : Int)).bind fun bt1123 => (if 0 ≤ bt1120.1 then (if bt1120.1 < (x7_1.length : Int) then (if 0 ≤ bt1123.1 then (if bt1123.1 < (x7_1.length : Int) then (if (rd x7_1 bt1120.1) ≥ (wrap64 ((rd x7_1 bt1123.1) + 2)) then ((some (x7_1.set (bt1120.1 : Int).toNat (wrap64 ((rd x7_1 bt1120.1) - 1)) : List Int)).bind fun y1129 => (spec_l1Cur_majorized.l0 kj16 t1098 (y1129.set (bt1123.1 : Int).toNat (wrap64 ((rd y1129 bt1123.1) + 1))) (wrap64 (x8_1 - 1)) s0_0 bt1123.2.1 bt1123.2.2)) else (spec_l1Cur_majorized.l0 kj16 t1098 x7_1 (wrap64 (x8_1 - 1)) s0_0 bt1123.2.1 bt1123.2.2)) else (none)) else (none)) else (none)) else (none)))) = some (r1, r2, r3, r4) := by rw [if_pos rfl] at H; exact H
         clear H; have H := H1; clear H1; replace H := zay.mp H; obtain ⟨⟨t1120, t1121, t1122⟩, A210, H⟩ := H
         replace H : ((spec_l1Cur_pick.f s0_0 t1121 t1122 (x7_1.length : Int)).bind fun bt1123 => (if 0 ≤ t1120 then (if t1120 < (x7_1.length : Int) then (if 0 ≤ bt1123.1 then (if bt1123.1 < (x7_1.length : Int) then (if (rd x7_1 t1120) ≥ (wrap64 ((rd x7_1 bt1123.1) + 2)) then ((some (x7_1.set (t1120 : Int).toNat (wrap64 ((rd x7_1 t1120) - 1)) : List Int)).bind fun y1129 => (spec_l1Cur_majorized.l0 kj16 t1098 (y1129.set (bt1123.1 : Int).toNat (wrap64 ((rd y1129 bt1123.1) + 1))) (wrap64 (x8_1 - 1)) s0_0 bt1123.2.1 bt1123.2.2)) else (spec_l1Cur_majorized.l0 kj16 t1098 x7_1 (wrap64 (x8_1 - 1)) s0_0 bt1123.2.1 bt1123.2.2)) else (none)) else (none)) else (none)) else (none))) = some (r1, r2, r3, r4) := H
         have A21 := zad A210; clear A210; replace H := zay.mp H; obtain ⟨⟨t1123, t1124, t1125⟩, A220, H⟩ := H
         replace H : (if 0 ≤ t1120 then (if t1120 < (x7_1.length : Int) then (if 0 ≤ t1123 then (if t1123 < (x7_1.length : Int) then (if (rd x7_1 t1120) ≥ (wrap64 ((rd x7_1 t1123) + 2)) then ((some (x7_1.set (t1120 : Int).toNat (wrap64 ((rd x7_1 t1120) - 1)) : List Int)).bind fun y1129 => (spec_l1Cur_majorized.l0 kj16 t1098 (y1129.set (t1123 : Int).toNat (wrap64 ((rd y1129 t1123) + 1))) (wrap64 (x8_1 - 1)) s0_0 t1124 t1125)) else (spec_l1Cur_majorized.l0 kj16 t1098 x7_1 (wrap64 (x8_1 - 1)) s0_0 t1124 t1125)) else (none)) else (none)) else (none)) else (none)) = some (r1, r2, r3, r4) := H
         have A22 := zad A220; clear A220; by_cases c23 : 0 ≤ t1120
         · rw [if_pos c23] at H
           have c23b0 : decide (0 ≤ t1120) = true := zba c23
           clear c23; by_cases c24 : t1120 < (x7_1.length : Int)
           · rw [if_pos c24] at H
             have c24b0 : decide (t1120 < (x7_1.length : Int)) = true := zba c24
             clear c24; by_cases c25 : 0 ≤ t1123
             · rw [if_pos c25] at H
               have c25b0 : decide (0 ≤ t1123) = true := zba c25
               clear c25; by_cases c26 : t1123 < (x7_1.length : Int)
               · rw [if_pos c26] at H
                 have c26b0 : decide (t1123 < (x7_1.length : Int)) = true := zba c26
                 clear c26; by_cases c27 : (rd x7_1 t1120) ≥ (wrap64 ((rd x7_1 t1123) + 2))
                 · rw [if_pos c27] at H
                   have c27b0 : decide ((wrap64 ((rd x7_1 t1123) + 2)) ≤ (rd x7_1 t1120)) = true := zba c27
                   clear c27; obtain ⟨y1129, hy1129⟩ : ∃ y_ : List Int, y_ = (x7_1.set (t1120 : Int).toNat (wrap64 ((rd x7_1 t1120) - 1))) := ⟨_, rfl⟩
                   replace H : (spec_l1Cur_majorized.l0 kj16 t1098 (y1129.set (t1123 : Int).toNat (wrap64 ((rd y1129 t1123) + 1))) (wrap64 (x8_1 - 1)) s0_0 t1124 t1125) = some (r1, r2, r3, r4) := by first | (rw [hy1129]; with_reducible exact H) | (have H2_ := (zbb _ _).symm.trans H; rw [hy1129]; with_reducible exact H2_) | (have H2_ := (zbb _ _).symm.trans H; with_reducible exact H2_) | with_reducible exact H | (rw [hy1129]; exact H) | exact H
                   have Ny1129 := zad hy1129; clear hy1129; obtain ⟨y1131, hy1131⟩ : ∃ y_ : List Int, y_ = (y1129.set (t1123 : Int).toNat (wrap64 ((rd y1129 t1123) + 1))) := ⟨_, rfl⟩
                   replace H : (spec_l1Cur_majorized.l0 kj16 t1098 y1131 (wrap64 (x8_1 - 1)) s0_0 t1124 t1125) = some (r1, r2, r3, r4) := by first | (rw [hy1131]; with_reducible exact H) | (have H2_ := (zbb _ _).symm.trans H; rw [hy1131]; with_reducible exact H2_) | (have H2_ := (zbb _ _).symm.trans H; with_reducible exact H2_) | with_reducible exact H | (rw [hy1131]; exact H) | exact H
                   have Ny1131 := zad hy1131; clear hy1131; have H' := zad H
                   clear H; obtain ⟨Ao30, co30, eo30⟩ := zbv HO_7.out
                   subst eo30; go_wp2_with (first | (go_at_call 80; (with_reducible refine (spec_l1Cur_pick.calls g s0_0 x1001_1 x1002_1 (x7_1.length : Int) t1120 t1121 t1122 w0 _ ?side1 ?side2 A21.out).mono ?_); (case side1 => repeat (first | (with_reducible first | exact HI0.out | apply zcg | apply zch | apply zci | apply zcn | apply zco) | exact HI0.out)); (case side2 => repeat (first | (with_reducible first | exact HB.out | apply zag | apply zae | apply zaf | refine zah ?_ (zcl HI0.out)) | exact HB.out)); rintro e w31 ⟨rfl, hi, hb, hk⟩; have n0_ := zad (zbq (zbr (zcj (show IsS75 w0 _ g s0_0 x1001_1 x1002_1 from by exact taes) (taaj) (by decide)) hk (fun _ h => h.2)) (fun _ h => h.1)); have n1_ := zad (zbq (zbr (zcj (show IsS75 w0 _ g s0_0 x1001_1 x1002_1 from by exact taes) (taai) (by decide)) hk (fun _ h => h.2)) (fun _ h => h.1)); have n2_ := zad (zbs (taae) hk (.inl rfl)); have n3_ := zad (hb); have n4_ := zad (hi); clear HO_6 HO_7 HK HB HI0; have HO_6 := n0_; have HO_7 := n1_; have HK := n2_; have HB := n3_; have HI0 := n4_; clear n0_ n1_ n2_ n3_ n4_; (try clear hb); (try clear hb2); (try clear hk); (try clear hi)) | (go_at_call 80; (with_reducible refine (spec_l1Cur_pick.calls g s0_0 t1121 t1122 (x7_1.length : Int) t1123 t1124 t1125 w0 _ ?side1 ?side2 A22.out).mono ?_); (case side1 => repeat (first | (with_reducible first | exact HI0.out | apply zcg | apply zch | apply zci | apply zcn | apply zco) | exact HI0.out)); (case side2 => repeat (first | (with_reducible first | exact HB.out | apply zag | apply zae | apply zaf | refine zah ?_ (zcl HI0.out)) | exact HB.out)); rintro e w32 ⟨rfl, hi, hb, hk⟩; have n0_ := zad (zbq (zbr (zcj (show IsS75 w0 _ g s0_0 t1121 t1122 from by exact taes) (taaj) (by decide)) hk (fun _ h => h.2)) (fun _ h => h.1)); have n1_ := zad (zbq (zbr (zcj (show IsS75 w0 _ g s0_0 t1121 t1122 from by exact taes) (taai) (by decide)) hk (fun _ h => h.2)) (fun _ h => h.1)); have n2_ := zad (zbs (taae) hk (.inl rfl)); have n3_ := zad (hb); have n4_ := zad (hi); clear HO_6 HO_7 HK HB HI0; have HO_6 := n0_; have HO_7 := n1_; have HK := n2_; have HB := n3_; have HI0 := n4_; clear n0_ n1_ n2_ n3_ n4_; (try clear hb); (try clear hb2); (try clear hk); (try clear hi); have p1126 : 0 ≤ (t1120 : Int) := zas (taab); have q1126 : t1120 < (x7_1.length : Int) := zas (taab); obtain ⟨ad1126, e1126, hx1126_0⟩ := zca (zbd HO_7.out).2.2 t1120 p1126 q1126; cases e1126; replace p1126 := eq_true p1126; replace q1126 := eq_true q1126; have p1127 : 0 ≤ (t1123 : Int) := zas (taab); have q1127 : t1123 < (x7_1.length : Int) := zas (taab); obtain ⟨ad1127, e1127, hx1127_0⟩ := zca (zbd HO_7.out).2.2 t1123 p1127 q1127; obtain rfl : ad1126 = ad1127 := (by injection e1127); replace p1127 := eq_true p1127; replace q1127 := eq_true q1127; have p1128 : 0 ≤ (t1120 : Int) := zas (taab); have q1128 : t1120 < (x7_1.length : Int) := zas (taab); obtain ⟨ad1128, e1128, hx1128_0⟩ := zca (zbd HO_7.out).2.2 t1120 p1128 q1128; obtain rfl : ad1126 = ad1128 := (by injection e1128); replace p1128 := eq_true p1128; replace q1128 := eq_true q1128; have p28 : 0 ≤ (t1120 : Int) := zas (taab); have q28 : (t1120 : Int) < ((x7_1.length : Int) : Int) := zas (taab); obtain ⟨go28, co28, eo28, gb28, gl28, cl28, HG28⟩ := Kd.R_form HO_7.out (by omega); (first | cases eo28 | (injection eo28 with ea_ en_ ec_; (first | subst ea_ | (injection ea_ with ea_; subst ea_)); subst ec_; clear en_)); have GB28 := zad gb28; have GG28 := zad HG28; clear gb28 gl28 HG28; (first | simp only [add_plain] at hx1126_0 | skip); (first | simp only [add_plain] at hx1127_0 | skip); (first | simp only [add_plain] at hx1128_0 | skip); obtain ⟨hx28_0, hf28_0⟩ := Kd.R_celln 0 HO_7.out (t1120 : Int) p28 q28; replace p28 := eq_true p28; replace q28 := eq_true q28; obtain ⟨hy33_, hz33_⟩ := Kd.R_celln 0 HO_7.out (t1120 : Int) (zas (taab)) (zas (taab)); have HP33 := Kd.R_putg HO_7.out (t1120 : Int) (wrap64 ((rd x7_1 t1120) - 1))) | ((with_reducible refine gate_store (t := 3) (p := 57) rfl ?_); (try (rw [drewN_self w32]; generalize hq_ : World.drewN w32 _ = w32; have n0_ := zad (Kd.R_at hq_ HO_6.out); have n1_ := zad (Kd.R_at hq_ HO_7.out); have n2_ := zad (IsS75.at_ hq_ HI0.out); have n3_ := zad (keep_at hq_ HK.out); have n4_ := zad (below_at hq_ HB.out); clear hq_ HO_6 HO_7 HI0 HK HB; have HO_6 := n0_; have HO_7 := n1_; have HI0 := n2_; have HK := n3_; have HB := n4_; clear n0_ n1_ n2_ n3_ n4_; (try (obtain ⟨hy33_, hz33_⟩ := Kd.R_celln 0 HO_7.out (t1120 : Int) (zas (taab)) (zas (taab)))); (try (have HP33 := Kd.R_putg HO_7.out (t1120 : Int) (wrap64 ((rd x7_1 t1120) - 1)))))); refine store_event (t := 3) (p := 57) (v := ?vo_w34) (w1 := (w32.setCell ⟨go28, (t1120 : Int).toNat, none⟩ (.int .i64 (wrap64 ((rd x7_1 t1120) - 1))))) ?hg ?ho ?hn ?hr ?_; (case ho => rfl); (case hg => rfl); (case hn => rfl); (case hr => first | (go_simp; done) | (go_simp; rfl)); intro w34 hw; have hg : w32.grownBy w34 (some go28) := (by rw [hw]; exact HP33.2); have hp_ : Kd.R (Kd.int .i64) 3 w34 w.heap.size (fun k_ => some k_ ≠ (.slice Ao14 t1098.length co14 : Value).ownBlock) (.slice (some ⟨go28, 0, none⟩) x7_1.length co30) y1129 := (by rw [hw, Ny1129.out]; exact HP33.1); clear HP33; have n0_ := zad (Kd.R_after (v := (.slice (some ⟨go28, 0, none⟩) x7_1.length co30)) (v1 := (.slice (some ⟨go28, 0, none⟩) x7_1.length co30)) (ok := (fun _ => True)) (tacb) hg (.inl rfl)); have n1_ := zad (hp_); have n2_ := zad (IsS75.grown (taaf) hg (zck HI0.out HO_7.out (by decide))); have n3_ := zad ((by rw [hw]; exact zah (HB.out) (Nat.le_trans HL.out GB28.out) : Below w0.heap.size w0 w34)); have n4_ := zad (zbs (taae) (KeepBut.of_grown hg g) (Kd.R_base2 HO_7.out)); clear HO_6 HO_7 HI0 HB HK; have HO_6 := n0_; have HO_7 := n1_; have HI0 := n2_; have HB := n3_; have HK := n4_; clear n0_ n1_ n2_ n3_ n4_ hg hw hp_; have p1130 : 0 ≤ (t1123 : Int) := zas (taab); have q1130 : t1123 < (y1129.length : Int) := (by have h_ : (t1123 : Int) < ((x7_1.length : Int) : Int) := zas (taab); first | (have e_ := (zbd HO_7.out).1; omega) | simpa only [Ny1129.out, List.length_set] using h_); have ql1130 : ((t1123 : Int) < ((x7_1.length : Int) : Int)) = True := eq_true (zas (taab)); obtain ⟨ad1130, e1130, hx1130_0⟩ := zca (zbd HO_7.out).2.2 t1123 p1130 q1130; obtain rfl : (⟨go28, 0, none⟩ : Addr) = ad1130 := (by injection e1130); (first | simp only [add_plain] at hx1130_0 | simp only [add_at] at hx1130_0 | simp only [Addr.add, Nat.zero_add] at hx1130_0 | skip); replace p1130 := eq_true p1130; replace q1130 := eq_true q1130; have p29 : 0 ≤ (t1123 : Int) := zas (taab); have q29 : (t1123 : Int) < ((x7_1.length : Int) : Int) := zas (taab); obtain ⟨hx29_0, hf29_0⟩ := Kd.R_celln 0 HO_7.out (t1123 : Int) p29 q29; replace p29 := eq_true p29; replace q29 := eq_true q29; obtain ⟨hy35_, hz35_⟩ := Kd.R_celln 0 HO_7.out (t1123 : Int) (zas (taab)) (zas (taab)); have HP35 := Kd.R_putg HO_7.out (t1123 : Int) (wrap64 ((rd y1129 t1123) + 1))) | ((with_reducible refine gate_store (t := 3) (p := 63) rfl ?_); (try (rw [drewN_self w34]; generalize hq_ : World.drewN w34 _ = w34; have n0_ := zad (Kd.R_at hq_ HO_6.out); have n1_ := zad (Kd.R_at hq_ HO_7.out); have n2_ := zad (IsS75.at_ hq_ HI0.out); have n3_ := zad (keep_at hq_ HK.out); have n4_ := zad (below_at hq_ HB.out); clear hq_ HO_6 HO_7 HI0 HK HB; have HO_6 := n0_; have HO_7 := n1_; have HI0 := n2_; have HK := n3_; have HB := n4_; clear n0_ n1_ n2_ n3_ n4_; (try (obtain ⟨hy35_, hz35_⟩ := Kd.R_celln 0 HO_7.out (t1123 : Int) (zas (taab)) (zas (taab)))); (try (have HP35 := Kd.R_putg HO_7.out (t1123 : Int) (wrap64 ((rd y1129 t1123) + 1)))))); refine store_event (t := 3) (p := 63) (v := ?vo_w36) (w1 := (w34.setCell ⟨go28, (t1123 : Int).toNat, none⟩ (.int .i64 (wrap64 ((rd y1129 t1123) + 1))))) ?hg ?ho ?hn ?hr ?_; (case ho => rfl); (case hg => rfl); (case hn => rfl); (case hr => first | (go_simp; done) | (go_simp; rfl)); intro w36 hw; have hg : w34.grownBy w36 (some go28) := (by rw [hw]; exact HP35.2); have hp_ : Kd.R (Kd.int .i64) 3 w36 w.heap.size (fun k_ => some k_ ≠ (.slice Ao14 t1098.length co14 : Value).ownBlock) (.slice (some ⟨go28, 0, none⟩) x7_1.length co30) y1131 := (by rw [hw, Ny1131.out]; exact HP35.1); clear HP35; have n0_ := zad (Kd.R_after (v := (.slice (some ⟨go28, 0, none⟩) x7_1.length co30)) (v1 := (.slice (some ⟨go28, 0, none⟩) x7_1.length co30)) (ok := (fun _ => True)) (taaj) hg (.inl rfl)); have n1_ := zad (hp_); have n2_ := zad (IsS75.grown (taaf) hg (zck HI0.out HO_7.out (by decide))); have n3_ := zad ((by rw [hw]; exact zah (HB.out) (Nat.le_trans HL.out GB28.out) : Below w0.heap.size w0 w36)); have n4_ := zad (zbs (taae) (KeepBut.of_grown hg g) (Kd.R_base2 HO_7.out)); clear HO_6 HO_7 HI0 HB HK; have HO_6 := n0_; have HO_7 := n1_; have HI0 := n2_; have HB := n3_; have HK := n4_; clear n0_ n1_ n2_ n3_ n4_ hg hw hp_))
                   repeat (go_quiet (first | (go_at_call 80; (with_reducible refine (spec_l1Cur_pick.calls g s0_0 x1001_1 x1002_1 (x7_1.length : Int) t1120 t1121 t1122 w0 _ ?side1 ?side2 A21.out).mono ?_); (case side1 => repeat (first | (with_reducible first | exact HI0.out | apply zcg | apply zch | apply zci | apply zcn | apply zco) | exact HI0.out)); (case side2 => repeat (first | (with_reducible first | exact HB.out | apply zag | apply zae | apply zaf | refine zah ?_ (zcl HI0.out)) | exact HB.out)); rintro e w31 ⟨rfl, hi, hb, hk⟩; have n0_ := zad (zbq (zbr (zcj (show IsS75 w0 _ g s0_0 x1001_1 x1002_1 from by exact taes) (taaj) (by decide)) hk (fun _ h => h.2)) (fun _ h => h.1)); have n1_ := zad (zbq (zbr (zcj (show IsS75 w0 _ g s0_0 x1001_1 x1002_1 from by exact taes) (taai) (by decide)) hk (fun _ h => h.2)) (fun _ h => h.1)); have n2_ := zad (zbs (taae) hk (.inl rfl)); have n3_ := zad (hb); have n4_ := zad (hi); clear HO_6 HO_7 HK HB HI0; have HO_6 := n0_; have HO_7 := n1_; have HK := n2_; have HB := n3_; have HI0 := n4_; clear n0_ n1_ n2_ n3_ n4_; (try clear hb); (try clear hb2); (try clear hk); (try clear hi)) | (go_at_call 80; (with_reducible refine (spec_l1Cur_pick.calls g s0_0 t1121 t1122 (x7_1.length : Int) t1123 t1124 t1125 w0 _ ?side1 ?side2 A22.out).mono ?_); (case side1 => repeat (first | (with_reducible first | exact HI0.out | apply zcg | apply zch | apply zci | apply zcn | apply zco) | exact HI0.out)); (case side2 => repeat (first | (with_reducible first | exact HB.out | apply zag | apply zae | apply zaf | refine zah ?_ (zcl HI0.out)) | exact HB.out)); rintro e w32 ⟨rfl, hi, hb, hk⟩; have n0_ := zad (zbq (zbr (zcj (show IsS75 w0 _ g s0_0 t1121 t1122 from by exact taes) (taaj) (by decide)) hk (fun _ h => h.2)) (fun _ h => h.1)); have n1_ := zad (zbq (zbr (zcj (show IsS75 w0 _ g s0_0 t1121 t1122 from by exact taes) (taai) (by decide)) hk (fun _ h => h.2)) (fun _ h => h.1)); have n2_ := zad (zbs (taae) hk (.inl rfl)); have n3_ := zad (hb); have n4_ := zad (hi); clear HO_6 HO_7 HK HB HI0; have HO_6 := n0_; have HO_7 := n1_; have HK := n2_; have HB := n3_; have HI0 := n4_; clear n0_ n1_ n2_ n3_ n4_; (try clear hb); (try clear hb2); (try clear hk); (try clear hi); have p1126 : 0 ≤ (t1120 : Int) := zas (taab); have q1126 : t1120 < (x7_1.length : Int) := zas (taab); obtain ⟨ad1126, e1126, hx1126_0⟩ := zca (zbd HO_7.out).2.2 t1120 p1126 q1126; cases e1126; replace p1126 := eq_true p1126; replace q1126 := eq_true q1126; have p1127 : 0 ≤ (t1123 : Int) := zas (taab); have q1127 : t1123 < (x7_1.length : Int) := zas (taab); obtain ⟨ad1127, e1127, hx1127_0⟩ := zca (zbd HO_7.out).2.2 t1123 p1127 q1127; obtain rfl : ad1126 = ad1127 := (by injection e1127); replace p1127 := eq_true p1127; replace q1127 := eq_true q1127; have p1128 : 0 ≤ (t1120 : Int) := zas (taab); have q1128 : t1120 < (x7_1.length : Int) := zas (taab); obtain ⟨ad1128, e1128, hx1128_0⟩ := zca (zbd HO_7.out).2.2 t1120 p1128 q1128; obtain rfl : ad1126 = ad1128 := (by injection e1128); replace p1128 := eq_true p1128; replace q1128 := eq_true q1128; have p28 : 0 ≤ (t1120 : Int) := zas (taab); have q28 : (t1120 : Int) < ((x7_1.length : Int) : Int) := zas (taab); obtain ⟨go28, co28, eo28, gb28, gl28, cl28, HG28⟩ := Kd.R_form HO_7.out (by omega); (first | cases eo28 | (injection eo28 with ea_ en_ ec_; (first | subst ea_ | (injection ea_ with ea_; subst ea_)); subst ec_; clear en_)); have GB28 := zad gb28; have GG28 := zad HG28; clear gb28 gl28 HG28; (first | simp only [add_plain] at hx1126_0 | skip); (first | simp only [add_plain] at hx1127_0 | skip); (first | simp only [add_plain] at hx1128_0 | skip); obtain ⟨hx28_0, hf28_0⟩ := Kd.R_celln 0 HO_7.out (t1120 : Int) p28 q28; replace p28 := eq_true p28; replace q28 := eq_true q28; obtain ⟨hy33_, hz33_⟩ := Kd.R_celln 0 HO_7.out (t1120 : Int) (zas (taab)) (zas (taab)); have HP33 := Kd.R_putg HO_7.out (t1120 : Int) (wrap64 ((rd x7_1 t1120) - 1))) | ((with_reducible refine gate_store (t := 3) (p := 57) rfl ?_); (try (rw [drewN_self w32]; generalize hq_ : World.drewN w32 _ = w32; have n0_ := zad (Kd.R_at hq_ HO_6.out); have n1_ := zad (Kd.R_at hq_ HO_7.out); have n2_ := zad (IsS75.at_ hq_ HI0.out); have n3_ := zad (keep_at hq_ HK.out); have n4_ := zad (below_at hq_ HB.out); clear hq_ HO_6 HO_7 HI0 HK HB; have HO_6 := n0_; have HO_7 := n1_; have HI0 := n2_; have HK := n3_; have HB := n4_; clear n0_ n1_ n2_ n3_ n4_; (try (obtain ⟨hy33_, hz33_⟩ := Kd.R_celln 0 HO_7.out (t1120 : Int) (zas (taab)) (zas (taab)))); (try (have HP33 := Kd.R_putg HO_7.out (t1120 : Int) (wrap64 ((rd x7_1 t1120) - 1)))))); refine store_event (t := 3) (p := 57) (v := ?vo_w34) (w1 := (w32.setCell ⟨go28, (t1120 : Int).toNat, none⟩ (.int .i64 (wrap64 ((rd x7_1 t1120) - 1))))) ?hg ?ho ?hn ?hr ?_; (case ho => rfl); (case hg => rfl); (case hn => rfl); (case hr => first | (go_simp; done) | (go_simp; rfl)); intro w34 hw; have hg : w32.grownBy w34 (some go28) := (by rw [hw]; exact HP33.2); have hp_ : Kd.R (Kd.int .i64) 3 w34 w.heap.size (fun k_ => some k_ ≠ (.slice Ao14 t1098.length co14 : Value).ownBlock) (.slice (some ⟨go28, 0, none⟩) x7_1.length co30) y1129 := (by rw [hw, Ny1129.out]; exact HP33.1); clear HP33; have n0_ := zad (Kd.R_after (v := (.slice (some ⟨go28, 0, none⟩) x7_1.length co30)) (v1 := (.slice (some ⟨go28, 0, none⟩) x7_1.length co30)) (ok := (fun _ => True)) (tacb) hg (.inl rfl)); have n1_ := zad (hp_); have n2_ := zad (IsS75.grown (taaf) hg (zck HI0.out HO_7.out (by decide))); have n3_ := zad ((by rw [hw]; exact zah (HB.out) (Nat.le_trans HL.out GB28.out) : Below w0.heap.size w0 w34)); have n4_ := zad (zbs (taae) (KeepBut.of_grown hg g) (Kd.R_base2 HO_7.out)); clear HO_6 HO_7 HI0 HB HK; have HO_6 := n0_; have HO_7 := n1_; have HI0 := n2_; have HB := n3_; have HK := n4_; clear n0_ n1_ n2_ n3_ n4_ hg hw hp_; have p1130 : 0 ≤ (t1123 : Int) := zas (taab); have q1130 : t1123 < (y1129.length : Int) := (by have h_ : (t1123 : Int) < ((x7_1.length : Int) : Int) := zas (taab); first | (have e_ := (zbd HO_7.out).1; omega) | simpa only [Ny1129.out, List.length_set] using h_); have ql1130 : ((t1123 : Int) < ((x7_1.length : Int) : Int)) = True := eq_true (zas (taab)); obtain ⟨ad1130, e1130, hx1130_0⟩ := zca (zbd HO_7.out).2.2 t1123 p1130 q1130; obtain rfl : (⟨go28, 0, none⟩ : Addr) = ad1130 := (by injection e1130); (first | simp only [add_plain] at hx1130_0 | simp only [add_at] at hx1130_0 | simp only [Addr.add, Nat.zero_add] at hx1130_0 | skip); replace p1130 := eq_true p1130; replace q1130 := eq_true q1130; have p29 : 0 ≤ (t1123 : Int) := zas (taab); have q29 : (t1123 : Int) < ((x7_1.length : Int) : Int) := zas (taab); obtain ⟨hx29_0, hf29_0⟩ := Kd.R_celln 0 HO_7.out (t1123 : Int) p29 q29; replace p29 := eq_true p29; replace q29 := eq_true q29; obtain ⟨hy35_, hz35_⟩ := Kd.R_celln 0 HO_7.out (t1123 : Int) (zas (taab)) (zas (taab)); have HP35 := Kd.R_putg HO_7.out (t1123 : Int) (wrap64 ((rd y1129 t1123) + 1))) | ((with_reducible refine gate_store (t := 3) (p := 63) rfl ?_); (try (rw [drewN_self w34]; generalize hq_ : World.drewN w34 _ = w34; have n0_ := zad (Kd.R_at hq_ HO_6.out); have n1_ := zad (Kd.R_at hq_ HO_7.out); have n2_ := zad (IsS75.at_ hq_ HI0.out); have n3_ := zad (keep_at hq_ HK.out); have n4_ := zad (below_at hq_ HB.out); clear hq_ HO_6 HO_7 HI0 HK HB; have HO_6 := n0_; have HO_7 := n1_; have HI0 := n2_; have HK := n3_; have HB := n4_; clear n0_ n1_ n2_ n3_ n4_; (try (obtain ⟨hy35_, hz35_⟩ := Kd.R_celln 0 HO_7.out (t1123 : Int) (zas (taab)) (zas (taab)))); (try (have HP35 := Kd.R_putg HO_7.out (t1123 : Int) (wrap64 ((rd y1129 t1123) + 1)))))); refine store_event (t := 3) (p := 63) (v := ?vo_w36) (w1 := (w34.setCell ⟨go28, (t1123 : Int).toNat, none⟩ (.int .i64 (wrap64 ((rd y1129 t1123) + 1))))) ?hg ?ho ?hn ?hr ?_; (case ho => rfl); (case hg => rfl); (case hn => rfl); (case hr => first | (go_simp; done) | (go_simp; rfl)); intro w36 hw; have hg : w34.grownBy w36 (some go28) := (by rw [hw]; exact HP35.2); have hp_ : Kd.R (Kd.int .i64) 3 w36 w.heap.size (fun k_ => some k_ ≠ (.slice Ao14 t1098.length co14 : Value).ownBlock) (.slice (some ⟨go28, 0, none⟩) x7_1.length co30) y1131 := (by rw [hw, Ny1131.out]; exact HP35.1); clear HP35; have n0_ := zad (Kd.R_after (v := (.slice (some ⟨go28, 0, none⟩) x7_1.length co30)) (v1 := (.slice (some ⟨go28, 0, none⟩) x7_1.length co30)) (ok := (fun _ => True)) (taaj) hg (.inl rfl)); have n1_ := zad (hp_); have n2_ := zad (IsS75.grown (taaf) hg (zck HI0.out HO_7.out (by decide))); have n3_ := zad ((by rw [hw]; exact zah (HB.out) (Nat.le_trans HL.out GB28.out) : Below w0.heap.size w0 w36)); have n4_ := zad (zbs (taae) (KeepBut.of_grown hg g) (Kd.R_base2 HO_7.out)); clear HO_6 HO_7 HI0 HB HK; have HO_6 := n0_; have HO_7 := n1_; have HI0 := n2_; have HB := n3_; have HK := n4_; clear n0_ n1_ n2_ n3_ n4_ hg hw hp_)); try go_wp2_with (first | (go_at_call 80; (with_reducible refine (spec_l1Cur_pick.calls g s0_0 x1001_1 x1002_1 (x7_1.length : Int) t1120 t1121 t1122 w0 _ ?side1 ?side2 A21.out).mono ?_); (case side1 => repeat (first | (with_reducible first | exact HI0.out | apply zcg | apply zch | apply zci | apply zcn | apply zco) | exact HI0.out)); (case side2 => repeat (first | (with_reducible first | exact HB.out | apply zag | apply zae | apply zaf | refine zah ?_ (zcl HI0.out)) | exact HB.out)); rintro e w31 ⟨rfl, hi, hb, hk⟩; have n0_ := zad (zbq (zbr (zcj (show IsS75 w0 _ g s0_0 x1001_1 x1002_1 from by exact taes) (taaj) (by decide)) hk (fun _ h => h.2)) (fun _ h => h.1)); have n1_ := zad (zbq (zbr (zcj (show IsS75 w0 _ g s0_0 x1001_1 x1002_1 from by exact taes) (taai) (by decide)) hk (fun _ h => h.2)) (fun _ h => h.1)); have n2_ := zad (zbs (taae) hk (.inl rfl)); have n3_ := zad (hb); have n4_ := zad (hi); clear HO_6 HO_7 HK HB HI0; have HO_6 := n0_; have HO_7 := n1_; have HK := n2_; have HB := n3_; have HI0 := n4_; clear n0_ n1_ n2_ n3_ n4_; (try clear hb); (try clear hb2); (try clear hk); (try clear hi)) | (go_at_call 80; (with_reducible refine (spec_l1Cur_pick.calls g s0_0 t1121 t1122 (x7_1.length : Int) t1123 t1124 t1125 w0 _ ?side1 ?side2 A22.out).mono ?_); (case side1 => repeat (first | (with_reducible first | exact HI0.out | apply zcg | apply zch | apply zci | apply zcn | apply zco) | exact HI0.out)); (case side2 => repeat (first | (with_reducible first | exact HB.out | apply zag | apply zae | apply zaf | refine zah ?_ (zcl HI0.out)) | exact HB.out)); rintro e w32 ⟨rfl, hi, hb, hk⟩; have n0_ := zad (zbq (zbr (zcj (show IsS75 w0 _ g s0_0 t1121 t1122 from by exact taes) (taaj) (by decide)) hk (fun _ h => h.2)) (fun _ h => h.1)); have n1_ := zad (zbq (zbr (zcj (show IsS75 w0 _ g s0_0 t1121 t1122 from by exact taes) (taai) (by decide)) hk (fun _ h => h.2)) (fun _ h => h.1)); have n2_ := zad (zbs (taae) hk (.inl rfl)); have n3_ := zad (hb); have n4_ := zad (hi); clear HO_6 HO_7 HK HB HI0; have HO_6 := n0_; have HO_7 := n1_; have HK := n2_; have HB := n3_; have HI0 := n4_; clear n0_ n1_ n2_ n3_ n4_; (try clear hb); (try clear hb2); (try clear hk); (try clear hi); have p1126 : 0 ≤ (t1120 : Int) := zas (taab); have q1126 : t1120 < (x7_1.length : Int) := zas (taab); obtain ⟨ad1126, e1126, hx1126_0⟩ := zca (zbd HO_7.out).2.2 t1120 p1126 q1126; cases e1126; replace p1126 := eq_true p1126; replace q1126 := eq_true q1126; have p1127 : 0 ≤ (t1123 : Int) := zas (taab); have q1127 : t1123 < (x7_1.length : Int) := zas (taab); obtain ⟨ad1127, e1127, hx1127_0⟩ := zca (zbd HO_7.out).2.2 t1123 p1127 q1127; obtain rfl : ad1126 = ad1127 := (by injection e1127); replace p1127 := eq_true p1127; replace q1127 := eq_true q1127; have p1128 : 0 ≤ (t1120 : Int) := zas (taab); have q1128 : t1120 < (x7_1.length : Int) := zas (taab); obtain ⟨ad1128, e1128, hx1128_0⟩ := zca (zbd HO_7.out).2.2 t1120 p1128 q1128; obtain rfl : ad1126 = ad1128 := (by injection e1128); replace p1128 := eq_true p1128; replace q1128 := eq_true q1128; have p28 : 0 ≤ (t1120 : Int) := zas (taab); have q28 : (t1120 : Int) < ((x7_1.length : Int) : Int) := zas (taab); obtain ⟨go28, co28, eo28, gb28, gl28, cl28, HG28⟩ := Kd.R_form HO_7.out (by omega); (first | cases eo28 | (injection eo28 with ea_ en_ ec_; (first | subst ea_ | (injection ea_ with ea_; subst ea_)); subst ec_; clear en_)); have GB28 := zad gb28; have GG28 := zad HG28; clear gb28 gl28 HG28; (first | simp only [add_plain] at hx1126_0 | skip); (first | simp only [add_plain] at hx1127_0 | skip); (first | simp only [add_plain] at hx1128_0 | skip); obtain ⟨hx28_0, hf28_0⟩ := Kd.R_celln 0 HO_7.out (t1120 : Int) p28 q28; replace p28 := eq_true p28; replace q28 := eq_true q28; obtain ⟨hy33_, hz33_⟩ := Kd.R_celln 0 HO_7.out (t1120 : Int) (zas (taab)) (zas (taab)); have HP33 := Kd.R_putg HO_7.out (t1120 : Int) (wrap64 ((rd x7_1 t1120) - 1))) | ((with_reducible refine gate_store (t := 3) (p := 57) rfl ?_); (try (rw [drewN_self w32]; generalize hq_ : World.drewN w32 _ = w32; have n0_ := zad (Kd.R_at hq_ HO_6.out); have n1_ := zad (Kd.R_at hq_ HO_7.out); have n2_ := zad (IsS75.at_ hq_ HI0.out); have n3_ := zad (keep_at hq_ HK.out); have n4_ := zad (below_at hq_ HB.out); clear hq_ HO_6 HO_7 HI0 HK HB; have HO_6 := n0_; have HO_7 := n1_; have HI0 := n2_; have HK := n3_; have HB := n4_; clear n0_ n1_ n2_ n3_ n4_; (try (obtain ⟨hy33_, hz33_⟩ := Kd.R_celln 0 HO_7.out (t1120 : Int) (zas (taab)) (zas (taab)))); (try (have HP33 := Kd.R_putg HO_7.out (t1120 : Int) (wrap64 ((rd x7_1 t1120) - 1)))))); refine store_event (t := 3) (p := 57) (v := ?vo_w34) (w1 := (w32.setCell ⟨go28, (t1120 : Int).toNat, none⟩ (.int .i64 (wrap64 ((rd x7_1 t1120) - 1))))) ?hg ?ho ?hn ?hr ?_; (case ho => rfl); (case hg => rfl); (case hn => rfl); (case hr => first | (go_simp; done) | (go_simp; rfl)); intro w34 hw; have hg : w32.grownBy w34 (some go28) := (by rw [hw]; exact HP33.2); have hp_ : Kd.R (Kd.int .i64) 3 w34 w.heap.size (fun k_ => some k_ ≠ (.slice Ao14 t1098.length co14 : Value).ownBlock) (.slice (some ⟨go28, 0, none⟩) x7_1.length co30) y1129 := (by rw [hw, Ny1129.out]; exact HP33.1); clear HP33; have n0_ := zad (Kd.R_after (v := (.slice (some ⟨go28, 0, none⟩) x7_1.length co30)) (v1 := (.slice (some ⟨go28, 0, none⟩) x7_1.length co30)) (ok := (fun _ => True)) (tacb) hg (.inl rfl)); have n1_ := zad (hp_); have n2_ := zad (IsS75.grown (taaf) hg (zck HI0.out HO_7.out (by decide))); have n3_ := zad ((by rw [hw]; exact zah (HB.out) (Nat.le_trans HL.out GB28.out) : Below w0.heap.size w0 w34)); have n4_ := zad (zbs (taae) (KeepBut.of_grown hg g) (Kd.R_base2 HO_7.out)); clear HO_6 HO_7 HI0 HB HK; have HO_6 := n0_; have HO_7 := n1_; have HI0 := n2_; have HB := n3_; have HK := n4_; clear n0_ n1_ n2_ n3_ n4_ hg hw hp_; have p1130 : 0 ≤ (t1123 : Int) := zas (taab); have q1130 : t1123 < (y1129.length : Int) := (by have h_ : (t1123 : Int) < ((x7_1.length : Int) : Int) := zas (taab); first | (have e_ := (zbd HO_7.out).1; omega) | simpa only [Ny1129.out, List.length_set] using h_); have ql1130 : ((t1123 : Int) < ((x7_1.length : Int) : Int)) = True := eq_true (zas (taab)); obtain ⟨ad1130, e1130, hx1130_0⟩ := zca (zbd HO_7.out).2.2 t1123 p1130 q1130; obtain rfl : (⟨go28, 0, none⟩ : Addr) = ad1130 := (by injection e1130); (first | simp only [add_plain] at hx1130_0 | simp only [add_at] at hx1130_0 | simp only [Addr.add, Nat.zero_add] at hx1130_0 | skip); replace p1130 := eq_true p1130; replace q1130 := eq_true q1130; have p29 : 0 ≤ (t1123 : Int) := zas (taab); have q29 : (t1123 : Int) < ((x7_1.length : Int) : Int) := zas (taab); obtain ⟨hx29_0, hf29_0⟩ := Kd.R_celln 0 HO_7.out (t1123 : Int) p29 q29; replace p29 := eq_true p29; replace q29 := eq_true q29; obtain ⟨hy35_, hz35_⟩ := Kd.R_celln 0 HO_7.out (t1123 : Int) (zas (taab)) (zas (taab)); have HP35 := Kd.R_putg HO_7.out (t1123 : Int) (wrap64 ((rd y1129 t1123) + 1))) | ((with_reducible refine gate_store (t := 3) (p := 63) rfl ?_); (try (rw [drewN_self w34]; generalize hq_ : World.drewN w34 _ = w34; have n0_ := zad (Kd.R_at hq_ HO_6.out); have n1_ := zad (Kd.R_at hq_ HO_7.out); have n2_ := zad (IsS75.at_ hq_ HI0.out); have n3_ := zad (keep_at hq_ HK.out); have n4_ := zad (below_at hq_ HB.out); clear hq_ HO_6 HO_7 HI0 HK HB; have HO_6 := n0_; have HO_7 := n1_; have HI0 := n2_; have HK := n3_; have HB := n4_; clear n0_ n1_ n2_ n3_ n4_; (try (obtain ⟨hy35_, hz35_⟩ := Kd.R_celln 0 HO_7.out (t1123 : Int) (zas (taab)) (zas (taab)))); (try (have HP35 := Kd.R_putg HO_7.out (t1123 : Int) (wrap64 ((rd y1129 t1123) + 1)))))); refine store_event (t := 3) (p := 63) (v := ?vo_w36) (w1 := (w34.setCell ⟨go28, (t1123 : Int).toNat, none⟩ (.int .i64 (wrap64 ((rd y1129 t1123) + 1))))) ?hg ?ho ?hn ?hr ?_; (case ho => rfl); (case hg => rfl); (case hn => rfl); (case hr => first | (go_simp; done) | (go_simp; rfl)); intro w36 hw; have hg : w34.grownBy w36 (some go28) := (by rw [hw]; exact HP35.2); have hp_ : Kd.R (Kd.int .i64) 3 w36 w.heap.size (fun k_ => some k_ ≠ (.slice Ao14 t1098.length co14 : Value).ownBlock) (.slice (some ⟨go28, 0, none⟩) x7_1.length co30) y1131 := (by rw [hw, Ny1131.out]; exact HP35.1); clear HP35; have n0_ := zad (Kd.R_after (v := (.slice (some ⟨go28, 0, none⟩) x7_1.length co30)) (v1 := (.slice (some ⟨go28, 0, none⟩) x7_1.length co30)) (ok := (fun _ => True)) (taaj) hg (.inl rfl)); have n1_ := zad (hp_); have n2_ := zad (IsS75.grown (taaf) hg (zck HI0.out HO_7.out (by decide))); have n3_ := zad ((by rw [hw]; exact zah (HB.out) (Nat.le_trans HL.out GB28.out) : Below w0.heap.size w0 w36)); have n4_ := zad (zbs (taae) (KeepBut.of_grown hg g) (Kd.R_base2 HO_7.out)); clear HO_6 HO_7 HI0 HB HK; have HO_6 := n0_; have HO_7 := n1_; have HI0 := n2_; have HB := n3_; have HK := n4_; clear n0_ n1_ n2_ n3_ n4_ hg hw hp_)))
                   go_roundg kj16
                   case measure => have := HK1.out; have := HJ16.out; omega
                   case rel => exact ⟨(y1131), (wrap64 (x8_1 - 1)), (t1124), (t1125), (taag), H', ⟨tabu⟩, ⟨tadi⟩, ⟨taai⟩, ⟨taaf⟩, ⟨taae⟩, ⟨taal⟩⟩
                 · rw [if_neg c27] at H
                   have c27b0 : decide ((wrap64 ((rd x7_1 t1123) + 2)) ≤ (rd x7_1 t1120)) = false := zbh c27
                   clear c27; have H' := zad H
                   clear H; obtain ⟨Ao37, co37, eo37⟩ := zbv HO_7.out
                   subst eo37; go_wp2_with (first | (go_at_call 80; (with_reducible refine (spec_l1Cur_pick.calls g s0_0 x1001_1 x1002_1 (x7_1.length : Int) t1120 t1121 t1122 w0 _ ?side1 ?side2 A21.out).mono ?_); (case side1 => repeat (first | (with_reducible first | exact HI0.out | apply zcg | apply zch | apply zci | apply zcn | apply zco) | exact HI0.out)); (case side2 => repeat (first | (with_reducible first | exact HB.out | apply zag | apply zae | apply zaf | refine zah ?_ (zcl HI0.out)) | exact HB.out)); rintro e w38 ⟨rfl, hi, hb, hk⟩; have n0_ := zad (zbq (zbr (zcj (show IsS75 w0 _ g s0_0 x1001_1 x1002_1 from by exact taes) (taaj) (by decide)) hk (fun _ h => h.2)) (fun _ h => h.1)); have n1_ := zad (zbq (zbr (zcj (show IsS75 w0 _ g s0_0 x1001_1 x1002_1 from by exact taes) (taai) (by decide)) hk (fun _ h => h.2)) (fun _ h => h.1)); have n2_ := zad (zbs (taae) hk (.inl rfl)); have n3_ := zad (hb); have n4_ := zad (hi); clear HO_6 HO_7 HK HB HI0; have HO_6 := n0_; have HO_7 := n1_; have HK := n2_; have HB := n3_; have HI0 := n4_; clear n0_ n1_ n2_ n3_ n4_; (try clear hb); (try clear hb2); (try clear hk); (try clear hi)) | (go_at_call 80; (with_reducible refine (spec_l1Cur_pick.calls g s0_0 t1121 t1122 (x7_1.length : Int) t1123 t1124 t1125 w0 _ ?side1 ?side2 A22.out).mono ?_); (case side1 => repeat (first | (with_reducible first | exact HI0.out | apply zcg | apply zch | apply zci | apply zcn | apply zco) | exact HI0.out)); (case side2 => repeat (first | (with_reducible first | exact HB.out | apply zag | apply zae | apply zaf | refine zah ?_ (zcl HI0.out)) | exact HB.out)); rintro e w39 ⟨rfl, hi, hb, hk⟩; have n0_ := zad (zbq (zbr (zcj (show IsS75 w0 _ g s0_0 t1121 t1122 from by exact taes) (taaj) (by decide)) hk (fun _ h => h.2)) (fun _ h => h.1)); have n1_ := zad (zbq (zbr (zcj (show IsS75 w0 _ g s0_0 t1121 t1122 from by exact taes) (taai) (by decide)) hk (fun _ h => h.2)) (fun _ h => h.1)); have n2_ := zad (zbs (taae) hk (.inl rfl)); have n3_ := zad (hb); have n4_ := zad (hi); clear HO_6 HO_7 HK HB HI0; have HO_6 := n0_; have HO_7 := n1_; have HK := n2_; have HB := n3_; have HI0 := n4_; clear n0_ n1_ n2_ n3_ n4_; (try clear hb); (try clear hb2); (try clear hk); (try clear hi); have p1126 : 0 ≤ (t1120 : Int) := zas (taab); have q1126 : t1120 < (x7_1.length : Int) := zas (taab); obtain ⟨ad1126, e1126, hx1126_0⟩ := zca (zbd HO_7.out).2.2 t1120 p1126 q1126; cases e1126; replace p1126 := eq_true p1126; replace q1126 := eq_true q1126; have p1127 : 0 ≤ (t1123 : Int) := zas (taab); have q1127 : t1123 < (x7_1.length : Int) := zas (taab); obtain ⟨ad1127, e1127, hx1127_0⟩ := zca (zbd HO_7.out).2.2 t1123 p1127 q1127; obtain rfl : ad1126 = ad1127 := (by injection e1127); replace p1127 := eq_true p1127; replace q1127 := eq_true q1127))
                   repeat (go_quiet (first | (go_at_call 80; (with_reducible refine (spec_l1Cur_pick.calls g s0_0 x1001_1 x1002_1 (x7_1.length : Int) t1120 t1121 t1122 w0 _ ?side1 ?side2 A21.out).mono ?_); (case side1 => repeat (first | (with_reducible first | exact HI0.out | apply zcg | apply zch | apply zci | apply zcn | apply zco) | exact HI0.out)); (case side2 => repeat (first | (with_reducible first | exact HB.out | apply zag | apply zae | apply zaf | refine zah ?_ (zcl HI0.out)) | exact HB.out)); rintro e w38 ⟨rfl, hi, hb, hk⟩; have n0_ := zad (zbq (zbr (zcj (show IsS75 w0 _ g s0_0 x1001_1 x1002_1 from by exact taes) (taaj) (by decide)) hk (fun _ h => h.2)) (fun _ h => h.1)); have n1_ := zad (zbq (zbr (zcj (show IsS75 w0 _ g s0_0 x1001_1 x1002_1 from by exact taes) (taai) (by decide)) hk (fun _ h => h.2)) (fun _ h => h.1)); have n2_ := zad (zbs (taae) hk (.inl rfl)); have n3_ := zad (hb); have n4_ := zad (hi); clear HO_6 HO_7 HK HB HI0; have HO_6 := n0_; have HO_7 := n1_; have HK := n2_; have HB := n3_; have HI0 := n4_; clear n0_ n1_ n2_ n3_ n4_; (try clear hb); (try clear hb2); (try clear hk); (try clear hi)) | (go_at_call 80; (with_reducible refine (spec_l1Cur_pick.calls g s0_0 t1121 t1122 (x7_1.length : Int) t1123 t1124 t1125 w0 _ ?side1 ?side2 A22.out).mono ?_); (case side1 => repeat (first | (with_reducible first | exact HI0.out | apply zcg | apply zch | apply zci | apply zcn | apply zco) | exact HI0.out)); (case side2 => repeat (first | (with_reducible first | exact HB.out | apply zag | apply zae | apply zaf | refine zah ?_ (zcl HI0.out)) | exact HB.out)); rintro e w39 ⟨rfl, hi, hb, hk⟩; have n0_ := zad (zbq (zbr (zcj (show IsS75 w0 _ g s0_0 t1121 t1122 from by exact taes) (taaj) (by decide)) hk (fun _ h => h.2)) (fun _ h => h.1)); have n1_ := zad (zbq (zbr (zcj (show IsS75 w0 _ g s0_0 t1121 t1122 from by exact taes) (taai) (by decide)) hk (fun _ h => h.2)) (fun _ h => h.1)); have n2_ := zad (zbs (taae) hk (.inl rfl)); have n3_ := zad (hb); have n4_ := zad (hi); clear HO_6 HO_7 HK HB HI0; have HO_6 := n0_; have HO_7 := n1_; have HK := n2_; have HB := n3_; have HI0 := n4_; clear n0_ n1_ n2_ n3_ n4_; (try clear hb); (try clear hb2); (try clear hk); (try clear hi); have p1126 : 0 ≤ (t1120 : Int) := zas (taab); have q1126 : t1120 < (x7_1.length : Int) := zas (taab); obtain ⟨ad1126, e1126, hx1126_0⟩ := zca (zbd HO_7.out).2.2 t1120 p1126 q1126; cases e1126; replace p1126 := eq_true p1126; replace q1126 := eq_true q1126; have p1127 : 0 ≤ (t1123 : Int) := zas (taab); have q1127 : t1123 < (x7_1.length : Int) := zas (taab); obtain ⟨ad1127, e1127, hx1127_0⟩ := zca (zbd HO_7.out).2.2 t1123 p1127 q1127; obtain rfl : ad1126 = ad1127 := (by injection e1127); replace p1127 := eq_true p1127; replace q1127 := eq_true q1127)); try go_wp2_with (first | (go_at_call 80; (with_reducible refine (spec_l1Cur_pick.calls g s0_0 x1001_1 x1002_1 (x7_1.length : Int) t1120 t1121 t1122 w0 _ ?side1 ?side2 A21.out).mono ?_); (case side1 => repeat (first | (with_reducible first | exact HI0.out | apply zcg | apply zch | apply zci | apply zcn | apply zco) | exact HI0.out)); (case side2 => repeat (first | (with_reducible first | exact HB.out | apply zag | apply zae | apply zaf | refine zah ?_ (zcl HI0.out)) | exact HB.out)); rintro e w38 ⟨rfl, hi, hb, hk⟩; have n0_ := zad (zbq (zbr (zcj (show IsS75 w0 _ g s0_0 x1001_1 x1002_1 from by exact taes) (taaj) (by decide)) hk (fun _ h => h.2)) (fun _ h => h.1)); have n1_ := zad (zbq (zbr (zcj (show IsS75 w0 _ g s0_0 x1001_1 x1002_1 from by exact taes) (taai) (by decide)) hk (fun _ h => h.2)) (fun _ h => h.1)); have n2_ := zad (zbs (taae) hk (.inl rfl)); have n3_ := zad (hb); have n4_ := zad (hi); clear HO_6 HO_7 HK HB HI0; have HO_6 := n0_; have HO_7 := n1_; have HK := n2_; have HB := n3_; have HI0 := n4_; clear n0_ n1_ n2_ n3_ n4_; (try clear hb); (try clear hb2); (try clear hk); (try clear hi)) | (go_at_call 80; (with_reducible refine (spec_l1Cur_pick.calls g s0_0 t1121 t1122 (x7_1.length : Int) t1123 t1124 t1125 w0 _ ?side1 ?side2 A22.out).mono ?_); (case side1 => repeat (first | (with_reducible first | exact HI0.out | apply zcg | apply zch | apply zci | apply zcn | apply zco) | exact HI0.out)); (case side2 => repeat (first | (with_reducible first | exact HB.out | apply zag | apply zae | apply zaf | refine zah ?_ (zcl HI0.out)) | exact HB.out)); rintro e w39 ⟨rfl, hi, hb, hk⟩; have n0_ := zad (zbq (zbr (zcj (show IsS75 w0 _ g s0_0 t1121 t1122 from by exact taes) (taaj) (by decide)) hk (fun _ h => h.2)) (fun _ h => h.1)); have n1_ := zad (zbq (zbr (zcj (show IsS75 w0 _ g s0_0 t1121 t1122 from by exact taes) (taai) (by decide)) hk (fun _ h => h.2)) (fun _ h => h.1)); have n2_ := zad (zbs (taae) hk (.inl rfl)); have n3_ := zad (hb); have n4_ := zad (hi); clear HO_6 HO_7 HK HB HI0; have HO_6 := n0_; have HO_7 := n1_; have HK := n2_; have HB := n3_; have HI0 := n4_; clear n0_ n1_ n2_ n3_ n4_; (try clear hb); (try clear hb2); (try clear hk); (try clear hi); have p1126 : 0 ≤ (t1120 : Int) := zas (taab); have q1126 : t1120 < (x7_1.length : Int) := zas (taab); obtain ⟨ad1126, e1126, hx1126_0⟩ := zca (zbd HO_7.out).2.2 t1120 p1126 q1126; cases e1126; replace p1126 := eq_true p1126; replace q1126 := eq_true q1126; have p1127 : 0 ≤ (t1123 : Int) := zas (taab); have q1127 : t1123 < (x7_1.length : Int) := zas (taab); obtain ⟨ad1127, e1127, hx1127_0⟩ := zca (zbd HO_7.out).2.2 t1123 p1127 q1127; obtain rfl : ad1126 = ad1127 := (by injection e1127); replace p1127 := eq_true p1127; replace q1127 := eq_true q1127)))
                   go_roundg kj16
                   case measure => have := HK1.out; have := HJ16.out; omega
                   case rel => exact ⟨(x7_1), (wrap64 (x8_1 - 1)), (t1124), (t1125), (taag), H', ⟨tabu⟩, ⟨taaj⟩, ⟨taai⟩, ⟨taaf⟩, ⟨taae⟩, ⟨taal⟩⟩
               · rw [if_neg c26] at H
                 exact absurd H (taac)
             · rw [if_neg c25] at H
               exact absurd H (taac)
           · rw [if_neg c24] at H
             exact absurd H (taac)
         · rw [if_neg c23] at H
           exact absurd H (taac)
       · replace c20 := zbg.mpr c20
         subst c20; have H1 : (some (x7_1, t1098, x1001_1, x1002_1)) = some (r1, r2, r3, r4) := by rw [if_neg (show ¬ (false = true) by decide)] at H; exact H
         clear H; have H := H1; clear H1; simp only [zbl, zbp] at H
         obtain ⟨rfl, rfl, rfl, rfl⟩ := H
         go_wp2
         repeat (go_quiet (fail); try go_wp2)
         go_ret2
         exact ⟨_, _, taah, taai, taaj, taaf, taal, taae⟩
def spec_liSum.l0 : Nat → Int → List Int → Int → Int → Option (Int)
 | 0, _, _, _, _ => none
 | k + 1, x3, x6, x7, x8 => if x8 < x7 then (if 0 ≤ x8 then (if x8 < (x6.length : Int) then (spec_liSum.l0 k (wrap64 (x3 + (rd x6 x8))) x6 x7 (wrap64 (x8 + 1))) else (none)) else (none)) else (some x3)
def spec_liSum.f (k : Nat) (l0 : List Int) : Option (Int) := spec_liSum.l0 k 0 l0 (l0.length : Int) 0
theorem spec_liSum.calls (k : Nat) (A0 : Option Addr) (c0 : Nat) (l0 : List Int) (r : Int) (w : World) (hr0 : Kd.C (Kd.int .i64) w A0 l0.length l0) (hc0 : l0.length ≤ c0) (h : spec_liSum.f k l0 = some r) :
 Calls Try.prog 138 #[.slice A0 l0.length c0] w fun e w' => e = .returned (.int .i64 r) ∧ Drawn0 w w' := by
 have HR0 := zad hr0; have HC0 := zad hc0; clear hr0 hc0; have H : (spec_liSum.l0 k 0 l0 (l0.length : Int) 0) = some r := h
 clear h; have H' := zad H
 clear H; go_enter Try.func138, Try.ntmps138
 go_wp2
 go_loopg [3, 8] k (fun kq v3 v8 w' => ∃ (x3_1 : Int) (x8_1 : Int), v3 = .int .i64 x3_1 ∧ v8 = .int .i64 x8_1 ∧ Aside0 (spec_liSum.l0 kq x3_1 l0 (l0.length : Int) x8_1 = some r) ∧ Aside0 (kq ≤ k) ∧ Drawn0 w w')
 case atStart => exact ⟨(0), (0), (taag), (taag), H', ⟨zcf _⟩, taak⟩
 case round =>
  clear H'
  try clear c1
  obtain ⟨x3_1, x8_1, rfl, rfl, HA, HK1, ⟨m1, rfl⟩⟩ := hrel
  cases gk with
  | zero => exact absurd HA.out (by simp [spec_liSum.l0])
  | succ k1 =>
   have H := HA.out
   clear HA; simp only [spec_liSum.l0] at H
   by_cases c2 : x8_1 < (l0.length : Int)
   · rw [if_pos c2] at H
     have c2b0 : decide (x8_1 < (l0.length : Int)) = true := zba c2
     clear c2; by_cases c3 : 0 ≤ x8_1
     · rw [if_pos c3] at H
       have c3b0 : decide (0 ≤ x8_1) = true := zba c3
       clear c3; by_cases c4 : x8_1 < (l0.length : Int)
       · rw [if_pos c4] at H
         have c4b0 : decide (x8_1 < (l0.length : Int)) = true := zba c4
         clear c4; have H' := zad H
         clear H; have p808 : 0 ≤ (x8_1 : Int) := zas (taab)
         have q808 : x8_1 < (l0.length : Int) := zas (taab)
         obtain ⟨ad808, e808, hx808_0⟩ := zca HR0.out x8_1 p808 q808
         cases e808
         replace p808 := eq_true p808
         replace q808 := eq_true q808
         go_wp2
         go_roundg k1
         case measure => have := HK1.out; omega
         case rel => exact ⟨(wrap64 (x3_1 + (rd l0 x8_1))), (wrap64 (x8_1 + 1)), (taag), (taag), H', ⟨taau⟩, taak⟩
       · rw [if_neg c4] at H
         exact absurd H (taac)
     · rw [if_neg c3] at H
       exact absurd H (taac)
   · rw [if_neg c2] at H
     have c2b0 : decide (x8_1 < (l0.length : Int)) = false := zbh c2
     clear c2; obtain rfl := zbc H
     go_wp2
     go_ret
     exact ⟨taag, taak⟩
def spec_liFit.f (k : Nat) (l0 : List Int) (l1 : List Int) : Option (Bool) := if (l0.length : Int) = (l1.length : Int) then ((spec_liSum.f k l0).bind fun t809 => ((spec_liSum.f k l1).bind fun t810 => (some (t809 == t810)))) else (some false)
theorem spec_liFit.calls (k : Nat) (A0 : Option Addr) (c0 : Nat) (l0 : List Int) (A1 : Option Addr) (c1 : Nat) (l1 : List Int) (r : Bool) (w : World) (hr0 : Kd.C (Kd.int .i64) w A0 l0.length l0) (hc0 : l0.length ≤ c0) (hr1 : Kd.C (Kd.int .i64) w A1 l1.length l1) (hc1 : l1.length ≤ c1) (h : spec_liFit.f k l0 l1 = some r) :
 Calls Try.prog 114 #[.slice A0 l0.length c0, .slice A1 l1.length c1] w fun e w' => e = .returned (.bool r) ∧ Drawn0 w w' := by
 have HR0 := zad hr0; have HC0 := zad hc0; clear hr0 hc0; have HR1 := zad hr1; have HC1 := zad hc1; clear hr1 hc1; have H : (if (l0.length : Int) = (l1.length : Int) then ((spec_liSum.f k l0).bind fun t809 => ((spec_liSum.f k l1).bind fun t810 => (some (t809 == t810)))) else (some false)) = some r := h
 clear h; by_cases c3 : (l0.length : Int) = (l1.length : Int)
 · rw [if_pos c3] at H
   have c3b0 : ((l0.length : Int) == (l1.length : Int)) = true := beq_iff_eq.mpr c3
   have c3b1 : ((l0.length : Int) != (l1.length : Int)) = false := bne_eq_false_iff_eq.mpr c3
   have c3b2 : (l0.length == l1.length) = true := by first | simpa using c3 | (simp at c3 ⊢; omega)
   clear c3; replace H := zay.mp H; obtain ⟨t809, A40, H⟩ := H
   replace H : ((spec_liSum.f k l1).bind fun t810 => (some (t809 == t810))) = some r := H
   have A4 := zad A40; clear A40; replace H := zay.mp H; obtain ⟨t810, A50, H⟩ := H
   replace H : (some (t809 == t810)) = some r := H
   have A5 := zad A50; clear A50; obtain rfl := zbc H
   go_enter Try.func114, Try.ntmps114
   go_wp2_with (first | (go_at_call 138; (with_reducible refine (spec_liSum.calls k _ _ l0 t809 _ ?side1 ?side2 A4.out).mono ?_); (case side1 => repeat (first | exact HR0.out | (with_reducible refine zal ?_ _) | (with_reducible refine zam ?_ _) | (with_reducible refine zan ?_))); (case side2 => exact HC0.out); rintro e w' ⟨rfl, ⟨nd, rfl⟩⟩) | (go_at_call 138; (with_reducible refine (spec_liSum.calls k _ _ l1 t810 _ ?side1 ?side2 A5.out).mono ?_); (case side1 => repeat (first | exact HR1.out | (with_reducible refine zal ?_ _) | (with_reducible refine zam ?_ _) | (with_reducible refine zan ?_))); (case side2 => exact HC1.out); rintro e w' ⟨rfl, ⟨nd, rfl⟩⟩))
   go_ret
   exact ⟨taag, taak⟩
 · rw [if_neg c3] at H
   have c3b0 : ((l0.length : Int) == (l1.length : Int)) = false := zbo.mpr c3
   have c3b1 : ((l0.length : Int) != (l1.length : Int)) = true := bne_iff_ne.mpr c3
   have c3b2 : (l0.length == l1.length) = false := by first | simpa using c3 | (simp at c3 ⊢; omega)
   obtain rfl := zbc H
   go_enter Try.func114, Try.ntmps114
   go_wp2
   go_ret
   exact ⟨taag, taak⟩
def spec_liSums.l0 : Nat → List Int → Int → List Int → Int → Int → Option (List Int)
 | 0, _, _, _, _, _ => none
 | k + 1, x3, x4, x7, x8, x9 => if x9 < x8 then (if 0 ≤ x9 then (if x9 < (x7.length : Int) then (if x3.length < 17592186044416 then (spec_liSums.l0 k (x3 ++ [wrap64 (x4 + (rd x7 x9))]) (wrap64 (x4 + (rd x7 x9))) x7 x8 (wrap64 (x9 + 1))) else (none)) else (none)) else (none)) else (some x3)
def spec_liSums.f (k : Nat) (l0 : List Int) : Option (List Int) := spec_liSums.l0 k ([] : List Int) 0 l0 (l0.length : Int) 0
theorem spec_liSums.calls (k : Nat) (A0 : Option Addr) (c0 : Nat) (l0 : List Int) (r : List Int) (w : World) (hr0 : Kd.C (Kd.int .i64) w A0 l0.length l0) (hc0 : l0.length ≤ c0) (h : spec_liSums.f k l0 = some r) :
 Calls Try.prog 150 #[.slice A0 l0.length c0] w fun e w' => ∃ v0_ : Value, e = .returned (v0_) ∧ Kd.R (Kd.int .i64) 3 w' w.heap.size (fun _ => True) v0_ r ∧ Below w.heap.size w w' := by
 have HR0 := zad hr0; have HC0 := zad hc0; clear hr0 hc0; have HB := zad (Below.refl w.heap.size w)
 have H : (spec_liSums.l0 k ([] : List Int) 0 l0 (l0.length : Int) 0) = some r := h
 clear h; have H' := zad H
 clear H; go_enter Try.func150, Try.ntmps150
 go_wp2
 go_loopg [3, 4, 9] k (fun kq v3 v4 v9 w' => ∃ (x3_1 : List Int) (x4_1 : Int) (x9_1 : Int), v4 = .int .i64 x4_1 ∧ v9 = .int .i64 x9_1 ∧ Aside0 (spec_liSums.l0 kq x3_1 x4_1 l0 (l0.length : Int) x9_1 = some r) ∧ Aside0 (kq ≤ k) ∧ Aside0 (Kd.R (Kd.int .i64) 3 w' w.heap.size (fun _ => True) v3 x3_1) ∧ Aside0 (Below w.heap.size w w'))
 case atStart => exact ⟨(([] : List Int)), (0), (0), (taag), (taag), H', ⟨zcf _⟩, ⟨tabl⟩, ⟨taaa⟩⟩
 case round =>
  clear H'
  try clear c1
  obtain ⟨x3_1, x4_1, x9_1, rfl, rfl, HA, HK1, HO_3, HB⟩ := hrel
  cases gk with
  | zero => exact absurd HA.out (by simp [spec_liSums.l0])
  | succ k1 =>
   have H := HA.out
   clear HA; simp only [spec_liSums.l0] at H
   by_cases c2 : x9_1 < (l0.length : Int)
   · rw [if_pos c2] at H
     have c2b0 : decide (x9_1 < (l0.length : Int)) = true := zba c2
     clear c2; by_cases c3 : 0 ≤ x9_1
     · rw [if_pos c3] at H
       have c3b0 : decide (0 ≤ x9_1) = true := zba c3
       clear c3; by_cases c4 : x9_1 < (l0.length : Int)
       · rw [if_pos c4] at H
         have c4b0 : decide (x9_1 < (l0.length : Int)) = true := zba c4
         clear c4; by_cases c5 : x3_1.length < 17592186044416
         · rw [if_pos c5] at H
           have LMc5 := zad c5; clear c5; obtain ⟨y812, hy812⟩ : ∃ y_ : List Int, y_ = (x3_1 ++ [wrap64 (x4_1 + (rd l0 x9_1))]) := ⟨_, rfl⟩
           replace H : (spec_liSums.l0 k1 y812 (wrap64 (x4_1 + (rd l0 x9_1))) l0 (l0.length : Int) (wrap64 (x9_1 + 1))) = some r := by first | (rw [hy812]; with_reducible exact H) | (have H2_ := (zbb _ _).symm.trans H; rw [hy812]; with_reducible exact H2_) | (have H2_ := (zbb _ _).symm.trans H; with_reducible exact H2_) | with_reducible exact H | (rw [hy812]; exact H) | exact H
           have Ny812 := zad hy812; clear hy812; have H' := zad H
           clear H; have p811 : 0 ≤ (x9_1 : Int) := zas (taab)
           have q811 : x9_1 < (l0.length : Int) := zas (taab)
           obtain ⟨ad811, e811, hx811_0⟩ := zca HR0.out x9_1 p811 q811
           cases e811
           replace hx811_0 := (HB.out.cell (zaz w _ hx811_0)).trans hx811_0
           replace p811 := eq_true p811
           replace q811 := eq_true q811
           go_wp2_with (first | ((with_reducible refine gate_builtin (b := .append) (xs := #[.tmp 16, .tmp 18]) rfl ?_); at_builtin; refine Kd.R_append (Kd.int .i64) (w0 := w) w.heap.size rfl (.tmp 16) (.tmp 18) 26 3 (.int .i64 0) 8 rfl Try.underlying26 info3 rfl (by decide) (by omega) u3 x3_1 (wrap64 (x4_1 + (rd l0 x9_1))) [.int .i64 (wrap64 (x4_1 + (rd l0 x9_1)))] (fun _ => True) (fun _ => False) rfl rfl ?aP (fun _ hk => hk.elim) ?aF ?aO ?aB ?aS ?aL ?_; (case aP => exact rfl); (case aB => exact (taaa)); (case aF => exact (fun _ _ => trivial)); (case aO => exact (taap)); (case aS => exact (zbk (taaa))); (case aL => have := LMc5.out; omega); intro v813 w6 ho hb hg hat; rw [← Ny812.out] at ho; have n0_ := zad (hb); have n1_ := zad (ho); clear HB HO_3; have HB := n0_; have HO814 := n1_; clear n0_ n1_ ho hb hg hat))
           go_roundg k1
           case measure => have := HK1.out; omega
           case rel => exact ⟨(y812), (wrap64 (x4_1 + (rd l0 x9_1))), (wrap64 (x9_1 + 1)), (taag), (taag), H', ⟨taau⟩, ⟨by (with_reducible repeat (first | apply zai | apply zaj | apply zak)); exact HO814.out⟩, ⟨taaa⟩⟩
         · rw [if_neg c5] at H
           exact absurd H (taac)
       · rw [if_neg c4] at H
         exact absurd H (taac)
     · rw [if_neg c3] at H
       exact absurd H (taac)
   · rw [if_neg c2] at H
     have c2b0 : decide (x9_1 < (l0.length : Int)) = false := zbh c2
     clear c2; obtain rfl := zbc H
     go_wp2
     go_ret
     exact ⟨_, taah, taap, taaa⟩
def spec_liPartial.f (k : Nat) (l0 : List Int) : Option (List Int) := (spec_liRank.f k l0).bind fun t815 => ((spec_liSums.f k t815).bind fun t818 => (some t818))
theorem spec_liPartial.calls (k : Nat) (A0 : Option Addr) (c0 : Nat) (l0 : List Int) (r : List Int) (w : World) (hr0 : Kd.C (Kd.int .i64) w A0 l0.length l0) (hc0 : l0.length ≤ c0) (h : spec_liPartial.f k l0 = some r) :
 Calls Try.prog 123 #[.slice A0 l0.length c0] w fun e w' => ∃ v0_ : Value, e = .returned (v0_) ∧ Kd.R (Kd.int .i64) 3 w' w.heap.size (fun _ => True) v0_ r ∧ Below w.heap.size w w' := by
 have HR0 := zad hr0; have HC0 := zad hc0; clear hr0 hc0; have HB := zad (Below.refl w.heap.size w)
 have H : ((spec_liRank.f k l0).bind fun t815 => ((spec_liSums.f k t815).bind fun t818 => (some t818))) = some r := h
 clear h; replace H := zay.mp H; obtain ⟨t815, A20, H⟩ := H
 replace H : ((spec_liSums.f k t815).bind fun t818 => (some t818)) = some r := H
 have A2 := zad A20; clear A20; replace H := zay.mp H; obtain ⟨t818, A30, H⟩ := H
 replace H : (some t818) = some r := H
 have A3 := zad A30; clear A30; obtain rfl := zbc H
 go_enter Try.func123, Try.ntmps123
 go_wp2_with (first | ((with_reducible refine zbf (f := 108) rfl ?_); refine zbn (some 4) rfl rfl Try.func108 (by kernel_rfl) rfl #[.slice A0 l0.length c0] rfl (taad) ?_; (with_reducible refine (spec_liRank.calls k _ _ l0 t815 _ ?side1 ?side2 A2.out).mono ?_); (case side1 => repeat (first | exact HR0.out | (with_reducible refine zal ?_ _) | (with_reducible refine zam ?_ _) | (with_reducible refine zan ?_))); (case side2 => exact HC0.out); rintro e w4 ⟨v816, rfl, ho0, hb⟩; refine ⟨_, rfl, ?_⟩; have n0_ := zad (zbu ho0 (zbk (taaa))); have n1_ := zad (zbe (taaa) hb); clear HB; have HO817 := n0_; have HB := n1_; clear n0_ n1_; (try clear hb); (try clear hb2); (try clear hk); (try clear hi); (try clear ho0); obtain ⟨Ao5, co5, eo5⟩ := zbv HO817.out; subst eo5) | ((with_reducible refine zbf (f := 150) rfl ?_); refine zbn (some 5) rfl rfl Try.func150 (by kernel_rfl) rfl #[.slice Ao5 t815.length co5] rfl (taad) ?_; (with_reducible refine (spec_liSums.calls k _ _ t815 t818 _ ?side1 ?side2 A3.out).mono ?_); (case side1 => repeat (first | exact (zbd HO817.out).2.2 | (with_reducible refine zal ?_ _) | (with_reducible refine zam ?_ _) | (with_reducible refine zan ?_))); (case side2 => exact (zbd HO817.out).2.1); rintro e w6 ⟨v819, rfl, ho0, hb⟩; refine ⟨_, rfl, ?_⟩; have n0_ := zad (zcb (by (with_reducible repeat (first | apply zai | apply zaj | apply zak)); exact HO817.out) (zcd ho0) hb); have n1_ := zad (zbu (zcc ho0 (zce (by (with_reducible repeat (first | apply zai | apply zaj | apply zak)); exact HO817.out))) (zbk (taaa))); have n2_ := zad (zbe (taaa) hb); clear HO817 HB; have HO817 := n0_; have HO820 := n1_; have HB := n2_; clear n0_ n1_ n2_; (try clear hb); (try clear hb2); (try clear hk); (try clear hi); (try clear ho0)))
 go_ret
 exact ⟨_, taah, by (with_reducible repeat (first | apply zai | apply zaj | apply zak)); exact zbq HO820.out (fun _ hk => trivial), taaa⟩
def spec_liOver.l0 : Nat → List Int → List Int → Int → Int → Option (Int)
 | 0, _, _, _, _ => none
 | k + 1, x5, x6, x13, x14 => if x14 < x13 then (if 0 ≤ x14 then (if x14 < (x5.length : Int) then (if x14 < (x6.length : Int) then (if (rd x5 x14) > (rd x6 x14) then (some (wrap64 (x14 + 1))) else (spec_liOver.l0 k x5 x6 x13 (wrap64 (x14 + 1)))) else (none)) else (none)) else (none)) else (some 0)
def spec_liOver.f (k : Nat) (l0 : List Int) (l1 : List Int) : Option (Int) := (spec_liPartial.f k l0).bind fun t821 => ((spec_liPartial.f k l1).bind fun t824 => (spec_liOver.l0 k t821 t824 (t821.length : Int) 0))
theorem spec_liOver.calls (k : Nat) (A0 : Option Addr) (c0 : Nat) (l0 : List Int) (A1 : Option Addr) (c1 : Nat) (l1 : List Int) (r : Int) (w : World) (hr0 : Kd.C (Kd.int .i64) w A0 l0.length l0) (hc0 : l0.length ≤ c0) (hr1 : Kd.C (Kd.int .i64) w A1 l1.length l1) (hc1 : l1.length ≤ c1) (h : spec_liOver.f k l0 l1 = some r) :
 Calls Try.prog 115 #[.slice A0 l0.length c0, .slice A1 l1.length c1] w fun e w' => e = .returned (.int .i64 r) ∧ Below w.heap.size w w' := by
 have HR0 := zad hr0; have HC0 := zad hc0; clear hr0 hc0; have HR1 := zad hr1; have HC1 := zad hc1; clear hr1 hc1; have HB := zad (Below.refl w.heap.size w)
 have H : ((spec_liPartial.f k l0).bind fun t821 => ((spec_liPartial.f k l1).bind fun t824 => (spec_liOver.l0 k t821 t824 (t821.length : Int) 0))) = some r := h
 clear h; replace H := zay.mp H; obtain ⟨t821, A30, H⟩ := H
 replace H : ((spec_liPartial.f k l1).bind fun t824 => (spec_liOver.l0 k t821 t824 (t821.length : Int) 0)) = some r := H
 have A3 := zad A30; clear A30; replace H := zay.mp H; obtain ⟨t824, A40, H⟩ := H
 replace H : (spec_liOver.l0 k t821 t824 (t821.length : Int) 0) = some r := H
 have A4 := zad A40; clear A40; have H' := zad H
 clear H; go_enter Try.func115, Try.ntmps115
 go_wp2_with (first | (go_at_call 123; (with_reducible refine (spec_liPartial.calls k _ _ l0 t821 _ ?side1 ?side2 A3.out).mono ?_); (case side1 => repeat (first | exact HR0.out | (with_reducible refine zal ?_ _) | (with_reducible refine zam ?_ _) | (with_reducible refine zan ?_))); (case side2 => exact HC0.out); rintro e w5 ⟨v822, rfl, ho0, hb⟩; have n0_ := zad (zbu ho0 (zbk (taaa))); have n1_ := zad (zbe (taaa) hb); clear HB; have HO823 := n0_; have HB := n1_; clear n0_ n1_; (try clear hb); (try clear hb2); (try clear hk); (try clear hi); (try clear ho0)) | (go_at_call 123; (with_reducible refine (spec_liPartial.calls k _ _ l1 t824 _ ?side1 ?side2 A4.out).mono ?_); (case side1 => repeat (first | exact (Kd.C_below HR1.out HB.out) | (with_reducible refine zal ?_ _) | (with_reducible refine zam ?_ _) | (with_reducible refine zan ?_))); (case side2 => exact HC1.out); rintro e w6 ⟨v825, rfl, ho0, hb⟩; have n0_ := zad (zcb (tabw) (zcd ho0) hb); have n1_ := zad (zbu (zcc ho0 (zce (tabw))) (zbk (taaa))); have n2_ := zad (zbe (taaa) hb); clear HO823 HB; have HO823 := n0_; have HO826 := n1_; have HB := n2_; clear n0_ n1_ n2_; (try clear hb); (try clear hb2); (try clear hk); (try clear hi); (try clear ho0); obtain ⟨Ao7, co7, eo7⟩ := zbv HO823.out; subst eo7))
 repeat (go_quiet (first | (go_at_call 123; (with_reducible refine (spec_liPartial.calls k _ _ l0 t821 _ ?side1 ?side2 A3.out).mono ?_); (case side1 => repeat (first | exact HR0.out | (with_reducible refine zal ?_ _) | (with_reducible refine zam ?_ _) | (with_reducible refine zan ?_))); (case side2 => exact HC0.out); rintro e w5 ⟨v822, rfl, ho0, hb⟩; have n0_ := zad (zbu ho0 (zbk (taaa))); have n1_ := zad (zbe (taaa) hb); clear HB; have HO823 := n0_; have HB := n1_; clear n0_ n1_; (try clear hb); (try clear hb2); (try clear hk); (try clear hi); (try clear ho0)) | (go_at_call 123; (with_reducible refine (spec_liPartial.calls k _ _ l1 t824 _ ?side1 ?side2 A4.out).mono ?_); (case side1 => repeat (first | exact (Kd.C_below HR1.out HB.out) | (with_reducible refine zal ?_ _) | (with_reducible refine zam ?_ _) | (with_reducible refine zan ?_))); (case side2 => exact HC1.out); rintro e w6 ⟨v825, rfl, ho0, hb⟩; have n0_ := zad (zcb (tabw) (zcd ho0) hb); have n1_ := zad (zbu (zcc ho0 (zce (tabw))) (zbk (taaa))); have n2_ := zad (zbe (taaa) hb); clear HO823 HB; have HO823 := n0_; have HO826 := n1_; have HB := n2_; clear n0_ n1_ n2_; (try clear hb); (try clear hb2); (try clear hk); (try clear hi); (try clear ho0); obtain ⟨Ao7, co7, eo7⟩ := zbv HO823.out; subst eo7)); try go_wp2_with (first | (go_at_call 123; (with_reducible refine (spec_liPartial.calls k _ _ l0 t821 _ ?side1 ?side2 A3.out).mono ?_); (case side1 => repeat (first | exact HR0.out | (with_reducible refine zal ?_ _) | (with_reducible refine zam ?_ _) | (with_reducible refine zan ?_))); (case side2 => exact HC0.out); rintro e w5 ⟨v822, rfl, ho0, hb⟩; have n0_ := zad (zbu ho0 (zbk (taaa))); have n1_ := zad (zbe (taaa) hb); clear HB; have HO823 := n0_; have HB := n1_; clear n0_ n1_; (try clear hb); (try clear hb2); (try clear hk); (try clear hi); (try clear ho0)) | (go_at_call 123; (with_reducible refine (spec_liPartial.calls k _ _ l1 t824 _ ?side1 ?side2 A4.out).mono ?_); (case side1 => repeat (first | exact (Kd.C_below HR1.out HB.out) | (with_reducible refine zal ?_ _) | (with_reducible refine zam ?_ _) | (with_reducible refine zan ?_))); (case side2 => exact HC1.out); rintro e w6 ⟨v825, rfl, ho0, hb⟩; have n0_ := zad (zcb (tabw) (zcd ho0) hb); have n1_ := zad (zbu (zcc ho0 (zce (tabw))) (zbk (taaa))); have n2_ := zad (zbe (taaa) hb); clear HO823 HB; have HO823 := n0_; have HO826 := n1_; have HB := n2_; clear n0_ n1_ n2_; (try clear hb); (try clear hb2); (try clear hk); (try clear hi); (try clear ho0); obtain ⟨Ao7, co7, eo7⟩ := zbv HO823.out; subst eo7)))
 go_loopg [14] k (fun kq v14 w' => ∃ (x14_1 : Int), v14 = .int .i64 x14_1 ∧ Aside0 (spec_liOver.l0 kq t821 t824 (t821.length : Int) x14_1 = some r) ∧ Aside0 (kq ≤ k) ∧ Aside0 (Kd.R (Kd.int .i64) 3 w' w.heap.size (fun k_ => some k_ ≠ (v825 : Value).ownBlock) (.slice Ao7 t821.length co7) t821) ∧ Aside0 (Kd.R (Kd.int .i64) 3 w' w.heap.size (fun k_ => some k_ ≠ ((.slice Ao7 t821.length co7) : Value).ownBlock) v825 t824) ∧ Aside0 (Below w.heap.size w w'))
 case atStart => exact ⟨(0), (taag), H', ⟨zcf _⟩, ⟨by (with_reducible repeat (first | apply zai | apply zaj | apply zak)); exact zbq HO823.out (fun _ hk => hk.2)⟩, ⟨by (with_reducible repeat (first | apply zai | apply zaj | apply zak)); exact zbq HO826.out (fun _ hk => hk.2)⟩, ⟨taaa⟩⟩
 case round =>
  clear H'
  try clear c1
  try clear p2
  obtain ⟨x14_1, rfl, HA, HK1, HO_5, HO_6, HB⟩ := hrel
  cases gk with
  | zero => exact absurd HA.out (by simp [spec_liOver.l0])
  | succ k1 =>
   have H := HA.out
   clear HA; simp only [spec_liOver.l0] at H
   by_cases c8 : x14_1 < (t821.length : Int)
   · rw [if_pos c8] at H
     have c8b0 : decide (x14_1 < (t821.length : Int)) = true := zba c8
     clear c8; by_cases c9 : 0 ≤ x14_1
     · rw [if_pos c9] at H
       have c9b0 : decide (0 ≤ x14_1) = true := zba c9
       clear c9; by_cases c10 : x14_1 < (t821.length : Int)
       · rw [if_pos c10] at H
         have c10b0 : decide (x14_1 < (t821.length : Int)) = true := zba c10
         clear c10; by_cases c11 : x14_1 < (t824.length : Int)
         · rw [if_pos c11] at H
           have c11b0 : decide (x14_1 < (t824.length : Int)) = true := zba c11
           clear c11; by_cases c12 : (rd t821 x14_1) > (rd t824 x14_1)
           · rw [if_pos c12] at H
             have c12b0 : decide ((rd t824 x14_1) < (rd t821 x14_1)) = true := zba c12
             clear c12; obtain rfl := zbc H
             have p827 : 0 ≤ (x14_1 : Int) := zas (taab)
             have q827 : x14_1 < (t821.length : Int) := zas (taab)
             obtain ⟨ad827, e827, hx827_0⟩ := zca (zbd HO_5.out).2.2 x14_1 p827 q827
             cases e827
             replace p827 := eq_true p827
             replace q827 := eq_true q827
             obtain ⟨Ao13, co13, eo13⟩ := zbv HO_6.out
             subst eo13; have p828 : 0 ≤ (x14_1 : Int) := zas (taab)
             have q828 : x14_1 < (t824.length : Int) := zas (taab)
             obtain ⟨ad828, e828, hx828_0⟩ := zca (zbd HO_6.out).2.2 x14_1 p828 q828
             cases e828
             replace p828 := eq_true p828
             replace q828 := eq_true q828
             go_wp2
             repeat (go_quiet (fail); try go_wp2)
             go_ret
             exact ⟨taah, taaa⟩
           · rw [if_neg c12] at H
             have c12b0 : decide ((rd t824 x14_1) < (rd t821 x14_1)) = false := zbh c12
             clear c12; have H' := zad H
             clear H; have p827 : 0 ≤ (x14_1 : Int) := zas (taab)
             have q827 : x14_1 < (t821.length : Int) := zas (taab)
             obtain ⟨ad827, e827, hx827_0⟩ := zca (zbd HO_5.out).2.2 x14_1 p827 q827
             cases e827
             replace p827 := eq_true p827
             replace q827 := eq_true q827
             obtain ⟨Ao14, co14, eo14⟩ := zbv HO_6.out
             subst eo14; have p828 : 0 ≤ (x14_1 : Int) := zas (taab)
             have q828 : x14_1 < (t824.length : Int) := zas (taab)
             obtain ⟨ad828, e828, hx828_0⟩ := zca (zbd HO_6.out).2.2 x14_1 p828 q828
             cases e828
             replace p828 := eq_true p828
             replace q828 := eq_true q828
             go_wp2
             repeat (go_quiet (fail); try go_wp2)
             go_roundg k1
             case measure => have := HK1.out; omega
             case rel => exact ⟨(wrap64 (x14_1 + 1)), (taag), H', ⟨taau⟩, ⟨taao⟩, ⟨taaj⟩, ⟨taaa⟩⟩
         · rw [if_neg c11] at H
           exact absurd H (taac)
       · rw [if_neg c10] at H
         exact absurd H (taac)
     · rw [if_neg c9] at H
       exact absurd H (taac)
   · rw [if_neg c8] at H
     have c8b0 : decide (x14_1 < (t821.length : Int)) = false := zbh c8
     clear c8; obtain rfl := zbc H
     go_wp2
     repeat (go_quiet (fail); try go_wp2)
     go_ret
     exact ⟨taah, taaa⟩
def spec_liBelow.f (k : Nat) (l0 : List Int) (l1 : List Int) : Option (Bool) := (spec_liFit.f k l0 l1).bind fun t834 => (if t834 = true then ((spec_liOver.f k l0 l1).bind fun t835 => (some (t835 == 0))) else (some false))
theorem spec_liBelow.calls (k : Nat) (A0 : Option Addr) (c0 : Nat) (l0 : List Int) (A1 : Option Addr) (c1 : Nat) (l1 : List Int) (r : Bool) (w : World) (hr0 : Kd.C (Kd.int .i64) w A0 l0.length l0) (hc0 : l0.length ≤ c0) (hr1 : Kd.C (Kd.int .i64) w A1 l1.length l1) (hc1 : l1.length ≤ c1) (h : spec_liBelow.f k l0 l1 = some r) :
 Calls Try.prog 117 #[.slice A0 l0.length c0, .slice A1 l1.length c1] w fun e w' => e = .returned (.bool r) ∧ Below w.heap.size w w' := by
 have HR0 := zad hr0; have HC0 := zad hc0; clear hr0 hc0; have HR1 := zad hr1; have HC1 := zad hc1; clear hr1 hc1; have HB := zad (Below.refl w.heap.size w)
 have H : ((spec_liFit.f k l0 l1).bind fun t834 => (if t834 = true then ((spec_liOver.f k l0 l1).bind fun t835 => (some (t835 == 0))) else (some false))) = some r := h
 clear h; replace H := zay.mp H; obtain ⟨t834, A30, H⟩ := H
 replace H : (if t834 = true then ((spec_liOver.f k l0 l1).bind fun t835 => (some (t835 == 0))) else (some false)) = some r := H
 have A3 := zad A30; clear A30; by_cases c4 : t834 = true
 · subst c4
   have H1 : ((spec_liOver.f k l0 l1).bind fun t835 => (some (t835 == 0))) = some r := by rw [if_pos rfl] at H; exact H
   clear H; have H := H1; clear H1; replace H := zay.mp H; obtain ⟨t835, A50, H⟩ := H
   replace H : (some (t835 == 0)) = some r := H
   have A5 := zad A50; clear A50; obtain rfl := zbc H
   go_enter Try.func117, Try.ntmps117
   go_wp2_with (first | ((with_reducible refine zbf (f := 114) rfl ?_); refine zbn (some 7) rfl rfl Try.func114 (by kernel_rfl) rfl #[.slice A0 l0.length c0, .slice A1 l1.length c1] rfl (taad) ?_; (with_reducible refine (spec_liFit.calls k _ _ l0 _ _ l1 true _ ?side1 ?side2 ?side3 ?side4 A3.out).mono ?_); (case side1 => repeat (first | exact HR0.out | (with_reducible refine zal ?_ _) | (with_reducible refine zam ?_ _) | (with_reducible refine zan ?_))); (case side2 => exact HC0.out); (case side3 => repeat (first | exact HR1.out | (with_reducible refine zal ?_ _) | (with_reducible refine zam ?_ _) | (with_reducible refine zan ?_))); (case side4 => exact HC1.out); rintro e w' ⟨rfl, ⟨nd, rfl⟩⟩; refine ⟨_, rfl, ?_⟩) | (go_at_call 115; (with_reducible refine (spec_liOver.calls k _ _ l0 _ _ l1 t835 _ ?side1 ?side2 ?side3 ?side4 A5.out).mono ?_); (case side1 => repeat (first | exact HR0.out | (with_reducible refine zal ?_ _) | (with_reducible refine zam ?_ _) | (with_reducible refine zan ?_))); (case side2 => exact HC0.out); (case side3 => repeat (first | exact HR1.out | (with_reducible refine zal ?_ _) | (with_reducible refine zam ?_ _) | (with_reducible refine zan ?_))); (case side4 => exact HC1.out); rintro e w6 ⟨rfl, hb⟩; have n0_ := zad (zbe (taaa) hb); clear HB; have HB := n0_; clear n0_; (try clear hb); (try clear hb2); (try clear hk); (try clear hi)))
   go_ret
   exact ⟨taah, taaa⟩
 · replace c4 := zbg.mpr c4
   subst c4; have H1 : (some false) = some r := by rw [if_neg (show ¬ (false = true) by decide)] at H; exact H
   clear H; have H := H1; clear H1; obtain rfl := zbc H
   go_enter Try.func117, Try.ntmps117
   go_wp2_with (first | ((with_reducible refine zbf (f := 114) rfl ?_); refine zbn (some 7) rfl rfl Try.func114 (by kernel_rfl) rfl #[.slice A0 l0.length c0, .slice A1 l1.length c1] rfl (taad) ?_; (with_reducible refine (spec_liFit.calls k _ _ l0 _ _ l1 false _ ?side1 ?side2 ?side3 ?side4 A3.out).mono ?_); (case side1 => exact taeu); (case side2 => exact HC0.out); (case side3 => exact taey); (case side4 => exact HC1.out); rintro e w' ⟨rfl, ⟨nd, rfl⟩⟩; refine ⟨_, rfl, ?_⟩))
   go_ret
   exact ⟨taah, taaa⟩
def spec_giLists.f (k : Nat) (l0 : List Int) (l1 : List Int) : Option (Bool) := (spec_liGood.f k l0).bind fun t1186 => (if t1186 = true then ((spec_liGood.f k l1).bind fun t1187 => (if t1187 = true then ((spec_liBelow.f k l0 l1).bind fun t1188 => (some t1188)) else (some false))) else (some false))
theorem spec_giLists.calls (k : Nat) (A0 : Option Addr) (c0 : Nat) (l0 : List Int) (A1 : Option Addr) (c1 : Nat) (l1 : List Int) (r : Bool) (w : World) (hr0 : Kd.C (Kd.int .i64) w A0 l0.length l0) (hc0 : l0.length ≤ c0) (hr1 : Kd.C (Kd.int .i64) w A1 l1.length l1) (hc1 : l1.length ≤ c1) (h : spec_giLists.f k l0 l1 = some r) :
 Calls Try.prog 130 #[.slice A0 l0.length c0, .slice A1 l1.length c1] w fun e w' => e = .returned (.bool r) ∧ Below w.heap.size w w' := by
 have HR0 := zad hr0; have HC0 := zad hc0; clear hr0 hc0; have HR1 := zad hr1; have HC1 := zad hc1; clear hr1 hc1; have HB := zad (Below.refl w.heap.size w)
 have H : ((spec_liGood.f k l0).bind fun t1186 => (if t1186 = true then ((spec_liGood.f k l1).bind fun t1187 => (if t1187 = true then ((spec_liBelow.f k l0 l1).bind fun t1188 => (some t1188)) else (some false))) else (some false))) = some r := h
 clear h; replace H := zay.mp H; obtain ⟨t1186, A30, H⟩ := H
 replace H : (if t1186 = true then ((spec_liGood.f k l1).bind fun t1187 => (if t1187 = true then ((spec_liBelow.f k l0 l1).bind fun t1188 => (some t1188)) else (some false))) else (some false)) = some r := H
 have A3 := zad A30; clear A30; by_cases c4 : t1186 = true
 · subst c4
   have H1 : ((spec_liGood.f k l1).bind fun t1187 => (if t1187 = true then ((spec_liBelow.f k l0 l1).bind fun t1188 => (some t1188)) else (some false))) = some r := by rw [if_pos rfl] at H; exact H
   clear H; have H := H1; clear H1; replace H := zay.mp H; obtain ⟨t1187, A50, H⟩ := H
   replace H : (if t1187 = true then ((spec_liBelow.f k l0 l1).bind fun t1188 => (some t1188)) else (some false)) = some r := H
   have A5 := zad A50; clear A50; by_cases c6 : t1187 = true
   · subst c6
     have H1 : ((spec_liBelow.f k l0 l1).bind fun t1188 => (some t1188)) = some r := by rw [if_pos rfl] at H; exact H
     clear H; have H := H1; clear H1; replace H := zay.mp H; obtain ⟨t1188, A70, H⟩ := H
     replace H : (some t1188) = some r := H
     have A7 := zad A70; clear A70; obtain rfl := zbc H
     go_enter Try.func130, Try.ntmps130
     go_wp2_with (first | ((with_reducible refine zbf (f := 94) rfl ?_); refine zbn (some 6) rfl rfl Try.func94 (by kernel_rfl) rfl #[.slice A0 l0.length c0] rfl (taad) ?_; (with_reducible refine (spec_liGood.calls k _ _ l0 true _ ?side1 ?side2 A3.out).mono ?_); (case side1 => repeat (first | exact HR0.out | (with_reducible refine zal ?_ _) | (with_reducible refine zam ?_ _) | (with_reducible refine zan ?_))); (case side2 => exact HC0.out); rintro e w' ⟨rfl, ⟨nd, rfl⟩⟩; refine ⟨_, rfl, ?_⟩) | (go_at_call 94; (with_reducible refine (spec_liGood.calls k _ _ l1 true _ ?side1 ?side2 A5.out).mono ?_); (case side1 => repeat (first | exact HR1.out | (with_reducible refine zal ?_ _) | (with_reducible refine zam ?_ _) | (with_reducible refine zan ?_))); (case side2 => exact HC1.out); rintro e w' ⟨rfl, ⟨nd, rfl⟩⟩) | (go_at_call 117; (with_reducible refine (spec_liBelow.calls k _ _ l0 _ _ l1 t1188 _ ?side1 ?side2 ?side3 ?side4 A7.out).mono ?_); (case side1 => repeat (first | exact HR0.out | (with_reducible refine zal ?_ _) | (with_reducible refine zam ?_ _) | (with_reducible refine zan ?_))); (case side2 => exact HC0.out); (case side3 => repeat (first | exact HR1.out | (with_reducible refine zal ?_ _) | (with_reducible refine zam ?_ _) | (with_reducible refine zan ?_))); (case side4 => exact HC1.out); rintro e w8 ⟨rfl, hb⟩; have n0_ := zad (zbe (taaa) hb); clear HB; have HB := n0_; clear n0_; (try clear hb); (try clear hb2); (try clear hk); (try clear hi)))
     go_ret
     exact ⟨taah, taaa⟩
   · replace c6 := zbg.mpr c6
     subst c6; have H1 : (some false) = some r := by rw [if_neg (show ¬ (false = true) by decide)] at H; exact H
     clear H; have H := H1; clear H1; obtain rfl := zbc H
     go_enter Try.func130, Try.ntmps130
     go_wp2_with (first | ((with_reducible refine zbf (f := 94) rfl ?_); refine zbn (some 6) rfl rfl Try.func94 (by kernel_rfl) rfl #[.slice A0 l0.length c0] rfl (taad) ?_; (with_reducible refine (spec_liGood.calls k _ _ l0 true _ ?side1 ?side2 A3.out).mono ?_); (case side1 => repeat (first | exact HR0.out | (with_reducible refine zal ?_ _) | (with_reducible refine zam ?_ _) | (with_reducible refine zan ?_))); (case side2 => exact HC0.out); rintro e w' ⟨rfl, ⟨nd, rfl⟩⟩; refine ⟨_, rfl, ?_⟩) | (go_at_call 94; (with_reducible refine (spec_liGood.calls k _ _ l1 false _ ?side1 ?side2 A5.out).mono ?_); (case side1 => repeat (first | exact HR1.out | (with_reducible refine zal ?_ _) | (with_reducible refine zam ?_ _) | (with_reducible refine zan ?_))); (case side2 => exact HC1.out); rintro e w' ⟨rfl, ⟨nd, rfl⟩⟩))
     go_ret
     exact ⟨taah, taaa⟩
 · replace c4 := zbg.mpr c4
   subst c4; have H1 : (some false) = some r := by rw [if_neg (show ¬ (false = true) by decide)] at H; exact H
   clear H; have H := H1; clear H1; obtain rfl := zbc H
   go_enter Try.func130, Try.ntmps130
   go_wp2_with (first | ((with_reducible refine zbf (f := 94) rfl ?_); refine zbn (some 6) rfl rfl Try.func94 (by kernel_rfl) rfl #[.slice A0 l0.length c0] rfl (taad) ?_; (with_reducible refine (spec_liGood.calls k _ _ l0 false _ ?side1 ?side2 A3.out).mono ?_); (case side1 => exact taeu); (case side2 => exact HC0.out); rintro e w' ⟨rfl, ⟨nd, rfl⟩⟩; refine ⟨_, rfl, ?_⟩))
   go_ret
   exact ⟨taah, taaa⟩
def spec_l1Same.l0 : Nat → List Int → List Int → Int → Int → Option (Bool)
 | 0, _, _, _, _ => none
 | k + 1, x0, x1, x12, x13 => if x13 < x12 then (if 0 ≤ x13 then (if x13 < (x0.length : Int) then (if x13 < (x1.length : Int) then (if (rd x0 x13) = (rd x1 x13) then (spec_l1Same.l0 k x0 x1 x12 (wrap64 (x13 + 1))) else (some false)) else (none)) else (none)) else (none)) else (some true)
def spec_l1Same.f (k : Nat) (l0 : List Int) (l1 : List Int) : Option (Bool) := if (l0.length : Int) = (l1.length : Int) then (spec_l1Same.l0 k l0 l1 (l0.length : Int) 0) else (some false)
theorem spec_l1Same.calls (k : Nat) (A0 : Option Addr) (c0 : Nat) (l0 : List Int) (A1 : Option Addr) (c1 : Nat) (l1 : List Int) (r : Bool) (w : World) (hr0 : Kd.C (Kd.int .i64) w A0 l0.length l0) (hc0 : l0.length ≤ c0) (hr1 : Kd.C (Kd.int .i64) w A1 l1.length l1) (hc1 : l1.length ≤ c1) (h : spec_l1Same.f k l0 l1 = some r) :
 Calls Try.prog 118 #[.slice A0 l0.length c0, .slice A1 l1.length c1] w fun e w' => e = .returned (.bool r) ∧ Drawn0 w w' := by
 have HR0 := zad hr0; have HC0 := zad hc0; clear hr0 hc0; have HR1 := zad hr1; have HC1 := zad hc1; clear hr1 hc1; have H : (if (l0.length : Int) = (l1.length : Int) then (spec_l1Same.l0 k l0 l1 (l0.length : Int) 0) else (some false)) = some r := h
 clear h; by_cases c3 : (l0.length : Int) = (l1.length : Int)
 · rw [if_pos c3] at H
   have c3b0 : ((l0.length : Int) == (l1.length : Int)) = true := beq_iff_eq.mpr c3
   have c3b1 : ((l0.length : Int) != (l1.length : Int)) = false := bne_eq_false_iff_eq.mpr c3
   have c3b2 : (l0.length == l1.length) = true := by first | simpa using c3 | (simp at c3 ⊢; omega)
   clear c3; have H' := zad H
   clear H; go_enter Try.func118, Try.ntmps118
   go_wp2
   repeat (go_quiet (fail); try go_wp2)
   go_loopg [13] k (fun kq v13 w' => ∃ (x13_1 : Int), v13 = .int .i64 x13_1 ∧ Aside0 (spec_l1Same.l0 kq l0 l1 (l0.length : Int) x13_1 = some r) ∧ Aside0 (kq ≤ k) ∧ Drawn0 w w')
   case atStart => exact ⟨(0), (taag), H', ⟨zcf _⟩, taak⟩
   case round =>
    clear H'
    try clear c1
    try clear p2
    try clear c3
    try clear c3b0
    try clear c3b1
    try clear c3b2
    obtain ⟨x13_1, rfl, HA, HK1, ⟨m1, rfl⟩⟩ := hrel
    cases gk with
    | zero => exact absurd HA.out (by simp [spec_l1Same.l0])
    | succ k1 =>
     have H := HA.out
     clear HA; simp only [spec_l1Same.l0] at H
     by_cases c4 : x13_1 < (l0.length : Int)
     · rw [if_pos c4] at H
       have c4b0 : decide (x13_1 < (l0.length : Int)) = true := zba c4
       clear c4; by_cases c5 : 0 ≤ x13_1
       · rw [if_pos c5] at H
         have c5b0 : decide (0 ≤ x13_1) = true := zba c5
         clear c5; by_cases c6 : x13_1 < (l0.length : Int)
         · rw [if_pos c6] at H
           have c6b0 : decide (x13_1 < (l0.length : Int)) = true := zba c6
           clear c6; by_cases c7 : x13_1 < (l1.length : Int)
           · rw [if_pos c7] at H
             have c7b0 : decide (x13_1 < (l1.length : Int)) = true := zba c7
             clear c7; by_cases c8 : (rd l0 x13_1) = (rd l1 x13_1)
             · rw [if_pos c8] at H
               have c8b0 : ((rd l0 x13_1) == (rd l1 x13_1)) = true := beq_iff_eq.mpr c8
               have c8b1 : ((rd l0 x13_1) != (rd l1 x13_1)) = false := bne_eq_false_iff_eq.mpr c8
               clear c8; have H' := zad H
               clear H; have p843 : 0 ≤ (x13_1 : Int) := zas (taab)
               have q843 : x13_1 < (l0.length : Int) := zas (taab)
               obtain ⟨ad843, e843, hx843_0⟩ := zca HR0.out x13_1 p843 q843
               cases e843
               replace p843 := eq_true p843
               replace q843 := eq_true q843
               have p844 : 0 ≤ (x13_1 : Int) := zas (taab)
               have q844 : x13_1 < (l1.length : Int) := zas (taab)
               obtain ⟨ad844, e844, hx844_0⟩ := zca HR1.out x13_1 p844 q844
               cases e844
               replace p844 := eq_true p844
               replace q844 := eq_true q844
               go_wp2
               repeat (go_quiet (fail); try go_wp2)
               go_roundg k1
               case measure => have := HK1.out; omega
               case rel => exact ⟨(wrap64 (x13_1 + 1)), (taag), H', ⟨taau⟩, taak⟩
             · rw [if_neg c8] at H
               have c8b0 : ((rd l0 x13_1) == (rd l1 x13_1)) = false := zbo.mpr c8
               have c8b1 : ((rd l0 x13_1) != (rd l1 x13_1)) = true := bne_iff_ne.mpr c8
               obtain rfl := zbc H
               have p843 : 0 ≤ (x13_1 : Int) := zas (taab)
               have q843 : x13_1 < (l0.length : Int) := zas (taab)
               obtain ⟨ad843, e843, hx843_0⟩ := zca HR0.out x13_1 p843 q843
               cases e843
               replace p843 := eq_true p843
               replace q843 := eq_true q843
               have p844 : 0 ≤ (x13_1 : Int) := zas (taab)
               have q844 : x13_1 < (l1.length : Int) := zas (taab)
               obtain ⟨ad844, e844, hx844_0⟩ := zca HR1.out x13_1 p844 q844
               cases e844
               replace p844 := eq_true p844
               replace q844 := eq_true q844
               go_wp2
               repeat (go_quiet (fail); try go_wp2)
               go_ret
               exact ⟨taag, taak⟩
           · rw [if_neg c7] at H
             exact absurd H (taac)
         · rw [if_neg c6] at H
           exact absurd H (taac)
       · rw [if_neg c5] at H
         exact absurd H (taac)
     · rw [if_neg c4] at H
       have c4b0 : decide (x13_1 < (l0.length : Int)) = false := zbh c4
       clear c4; obtain rfl := zbc H
       go_wp2
       repeat (go_quiet (fail); try go_wp2)
       go_ret
       exact ⟨taag, taak⟩
 · rw [if_neg c3] at H
   have c3b0 : ((l0.length : Int) == (l1.length : Int)) = false := zbo.mpr c3
   have c3b1 : ((l0.length : Int) != (l1.length : Int)) = true := bne_iff_ne.mpr c3
   have c3b2 : (l0.length == l1.length) = false := by first | simpa using c3 | (simp at c3 ⊢; omega)
   obtain rfl := zbc H
   go_enter Try.func118, Try.ntmps118
   go_wp2
   repeat (go_quiet (fail); try go_wp2)
   go_ret
   exact ⟨taag, taak⟩
def spec_l1Least.f (a0 : Int) (a1 : Int) : Option (Int) := if a0 < a1 then (some a0) else (some a1)
theorem spec_l1Least.calls (a0 : Int) (a1 : Int) (r : Int) (w : World) (h : spec_l1Least.f a0 a1 = some r) :
 Calls Try.prog 120 #[.int .i64 a0, .int .i64 a1] w fun e w' => e = .returned (.int .i64 r) ∧ Drawn0 w w' := by
 have H : (if a0 < a1 then (some a0) else (some a1)) = some r := h
 clear h; by_cases c3 : a0 < a1
 · rw [if_pos c3] at H
   have c3b0 : decide (a0 < a1) = true := zba c3
   clear c3; obtain rfl := zbc H
   go_enter Try.func120, Try.ntmps120
   go_wp2
   go_ret
   exact ⟨taag, taak⟩
 · rw [if_neg c3] at H
   have c3b0 : decide (a0 < a1) = false := zbh c3
   clear c3; obtain rfl := zbc H
   go_enter Try.func120, Try.ntmps120
   go_wp2
   go_ret
   exact ⟨taag, taak⟩
mutual
def spec_giNext.l0 : Nat → List Int → List Int → Int → Option (Int × Int × Int)
 | 0, _, _, _ => none
 | k + 1, x0, x1, x5 => if 0 ≤ x5 then (if x5 < (x1.length : Int) then (if x5 < (x0.length : Int) then (if (rd x1 x5) ≥ (rd x0 x5) then (spec_giNext.l0 k x0 x1 (wrap64 (x5 + 1))) else (spec_giNext.l1 k x0 x1 x5 (wrap64 (x5 - 1)))) else (none)) else (none)) else (none)
def spec_giNext.l1 : Nat → List Int → List Int → Int → Int → Option (Int × Int × Int)
 | 0, _, _, _, _ => none
 | k + 1, x0, x1, x5, x6 => if 0 ≤ x6 then (if x6 < (x1.length : Int) then (if x6 < (x0.length : Int) then (if (rd x1 x6) ≤ (rd x0 x6) then (spec_giNext.l1 k x0 x1 x5 (wrap64 (x6 - 1))) else (some (x6, x5, 1))) else (none)) else (none)) else (none)
end
def spec_giNext.f (k : Nat) (l0 : List Int) (l1 : List Int) : Option (Int × Int × Int) := spec_giNext.l0 k l0 l1 0
theorem spec_giNext.calls (k : Nat) (A0 : Option Addr) (c0 : Nat) (l0 : List Int) (A1 : Option Addr) (c1 : Nat) (l1 : List Int) (r1 : Int) (r2 : Int) (r3 : Int) (w : World) (hr0 : Kd.C (Kd.int .i64) w A0 l0.length l0) (hc0 : l0.length ≤ c0) (hr1 : Kd.C (Kd.int .i64) w A1 l1.length l1) (hc1 : l1.length ≤ c1) (h : spec_giNext.f k l0 l1 = some (r1, r2, r3)) :
 Calls Try.prog 153 #[.slice A0 l0.length c0, .slice A1 l1.length c1] w fun e w' => e = .returned (.agg #[.int .i64 r1, .int .i64 r2, .int .i64 r3]) ∧ Below w.heap.size w w' := by
 have hu39 := Try.underlying39
 have HR0 := zad hr0; have HC0 := zad hc0; clear hr0 hc0; have HR1 := zad hr1; have HC1 := zad hc1; clear hr1 hc1; have HB := zad (Below.refl w.heap.size w)
 have H : (spec_giNext.l0 k l0 l1 0) = some (r1, r2, r3) := h
 clear h; have H' := zad H
 clear H; go_enter Try.func153, Try.ntmps153
 go_wp2_with (first | ((with_reducible refine gate_dst (N := 4) rfl ?_); refine box_event ?hg (N := 4) ?hd (cs := #[.int .i64 0, .int .i64 0, .int .i64 0]) (t := 39) ?hr ?_; (case hd => rfl); (case hg => rfl); (case hr => first | (go_simp; done) | (go_simp; rfl)); intro gb1189 hg w3 hbox hb; have n0_ := zad (zbe (taaa) hb); have n1_ := zad (hbox); have n2_ := zad ((taee : w.heap.size ≤ gb1189)); have n3_ := zad ((taee : w.heap.size ≤ gb1189)); clear HB; have HB := n0_; have BK1189 := n1_; have GW1189 := n2_; have GE1189 := n3_; clear n0_ n1_ n2_ n3_ hb hbox hg))
 repeat (go_quiet (first | ((with_reducible refine gate_dst (N := 4) rfl ?_); refine box_event ?hg (N := 4) ?hd (cs := #[.int .i64 0, .int .i64 0, .int .i64 0]) (t := 39) ?hr ?_; (case hd => rfl); (case hg => rfl); (case hr => first | (go_simp; done) | (go_simp; rfl)); intro gb1189 hg w3 hbox hb; have n0_ := zad (zbe (taaa) hb); have n1_ := zad (hbox); have n2_ := zad ((taee : w.heap.size ≤ gb1189)); have n3_ := zad ((taee : w.heap.size ≤ gb1189)); clear HB; have HB := n0_; have BK1189 := n1_; have GW1189 := n2_; have GE1189 := n3_; clear n0_ n1_ n2_ n3_ hb hbox hg)); try go_wp2_with (first | ((with_reducible refine gate_dst (N := 4) rfl ?_); refine box_event ?hg (N := 4) ?hd (cs := #[.int .i64 0, .int .i64 0, .int .i64 0]) (t := 39) ?hr ?_; (case hd => rfl); (case hg => rfl); (case hr => first | (go_simp; done) | (go_simp; rfl)); intro gb1189 hg w3 hbox hb; have n0_ := zad (zbe (taaa) hb); have n1_ := zad (hbox); have n2_ := zad ((taee : w.heap.size ≤ gb1189)); have n3_ := zad ((taee : w.heap.size ≤ gb1189)); clear HB; have HB := n0_; have BK1189 := n1_; have GW1189 := n2_; have GE1189 := n3_; clear n0_ n1_ n2_ n3_ hb hbox hg)))
 go_loopg [5] k (fun kq v5 w' => ∃ (x5_1 : Int), v5 = .int .i64 x5_1 ∧ Aside0 (spec_giNext.l0 kq l0 l1 x5_1 = some (r1, r2, r3)) ∧ Aside0 (kq ≤ k) ∧ Aside0 (w'.heap[gb1189]? = some (.cells #[.int .i64 0, .int .i64 0, .int .i64 0] 39 (0, 0))) ∧ Aside0 (Below w.heap.size w w'))
 case atStart => exact ⟨(0), (taag), H', ⟨zcf _⟩, ⟨tacv⟩, ⟨tacc⟩⟩
 case round =>
  clear H'
  try clear c1
  try clear p2
  obtain ⟨x5_1, rfl, HA, HK1, BK1189, HB⟩ := hrel
  cases gk with
  | zero => exact absurd HA.out (by simp [spec_giNext.l0])
  | succ k1 =>
   have H := HA.out
   clear HA; simp only [spec_giNext.l0] at H
   by_cases c4 : 0 ≤ x5_1
   · rw [if_pos c4] at H
     have c4b0 : decide (0 ≤ x5_1) = true := zba c4
     clear c4; by_cases c5 : x5_1 < (l1.length : Int)
     · rw [if_pos c5] at H
       have c5b0 : decide (x5_1 < (l1.length : Int)) = true := zba c5
       clear c5; by_cases c6 : x5_1 < (l0.length : Int)
       · rw [if_pos c6] at H
         have c6b0 : decide (x5_1 < (l0.length : Int)) = true := zba c6
         clear c6; by_cases c7 : (rd l1 x5_1) ≥ (rd l0 x5_1)
         · rw [if_pos c7] at H
           have c7b0 : decide ((rd l0 x5_1) ≤ (rd l1 x5_1)) = true := zba c7
           clear c7; have H' := zad H
           clear H; have p1190 : 0 ≤ (x5_1 : Int) := zas (taab)
           have q1190 : x5_1 < (l1.length : Int) := zas (taab)
           obtain ⟨ad1190, e1190, hx1190_0⟩ := zca HR1.out x5_1 p1190 q1190
           cases e1190
           replace hx1190_0 := (HB.out.cell (zaz w _ hx1190_0)).trans hx1190_0
           replace p1190 := eq_true p1190
           replace q1190 := eq_true q1190
           have p1191 : 0 ≤ (x5_1 : Int) := zas (taab)
           have q1191 : x5_1 < (l0.length : Int) := zas (taab)
           obtain ⟨ad1191, e1191, hx1191_0⟩ := zca HR0.out x5_1 p1191 q1191
           cases e1191
           replace hx1191_0 := (HB.out.cell (zaz w _ hx1191_0)).trans hx1191_0
           replace p1191 := eq_true p1191
           replace q1191 := eq_true q1191
           go_wp2
           repeat (go_quiet (fail); try go_wp2)
           go_roundg k1
           case measure => have := HK1.out; omega
           case rel => exact ⟨(wrap64 (x5_1 + 1)), (taag), H', ⟨taau⟩, ⟨tacv⟩, ⟨tacc⟩⟩
         · rw [if_neg c7] at H
           have c7b0 : decide ((rd l0 x5_1) ≤ (rd l1 x5_1)) = false := zbh c7
           clear c7; have H' := zad H
           clear H; have p1190 : 0 ≤ (x5_1 : Int) := zas (taab)
           have q1190 : x5_1 < (l1.length : Int) := zas (taab)
           obtain ⟨ad1190, e1190, hx1190_0⟩ := zca HR1.out x5_1 p1190 q1190
           cases e1190
           replace hx1190_0 := (HB.out.cell (zaz w _ hx1190_0)).trans hx1190_0
           replace p1190 := eq_true p1190
           replace q1190 := eq_true q1190
           have p1191 : 0 ≤ (x5_1 : Int) := zas (taab)
           have q1191 : x5_1 < (l0.length : Int) := zas (taab)
           obtain ⟨ad1191, e1191, hx1191_0⟩ := zca HR0.out x5_1 p1191 q1191
           cases e1191
           replace hx1191_0 := (HB.out.cell (zaz w _ hx1191_0)).trans hx1191_0
           replace p1191 := eq_true p1191
           replace q1191 := eq_true q1191
           go_wp2
           repeat (go_quiet (fail); try go_wp2)
           go_loopg [6] k1 (fun kq v6 w' => ∃ (x6_2 : Int), v6 = .int .i64 x6_2 ∧ Aside0 (spec_giNext.l1 kq l0 l1 x5_1 x6_2 = some (r1, r2, r3)) ∧ Aside0 (kq ≤ k1) ∧ Aside0 (w'.heap[gb1189]? = some (.cells #[.int .i64 0, .int .i64 0, .int .i64 0] 39 (0, 0))) ∧ Aside0 (Below w.heap.size w w'))
           case atStart => exact ⟨(wrap64 (x5_1 - 1)), (taag), H', ⟨zcf _⟩, ⟨tacv⟩, ⟨tacc⟩⟩
           case round =>
            clear H'
            try clear c1
            try clear p1
            try clear q1
            try clear hx1
            try clear p2
            try clear c4
            try clear c4b0
            try clear c5
            try clear c5b0
            try clear c6
            try clear c6b0
            try clear p6
            try clear c7
            try clear c7b0
            try clear hx1190_0
            try clear hx1191_0
            try clear p1190
            try clear p1191
            try clear p2
            try clear q1190
            try clear q1191
            obtain ⟨x6_2, rfl, HA, HK2, BK1189, HB⟩ := hrel
            cases gk with
            | zero => exact absurd HA.out (by simp [spec_giNext.l1])
            | succ k2 =>
             have H := HA.out
             clear HA; simp only [spec_giNext.l1] at H
             by_cases c8 : 0 ≤ x6_2
             · rw [if_pos c8] at H
               have c8b0 : decide (0 ≤ x6_2) = true := zba c8
               clear c8; by_cases c9 : x6_2 < (l1.length : Int)
               · rw [if_pos c9] at H
                 have c9b0 : decide (x6_2 < (l1.length : Int)) = true := zba c9
                 clear c9; by_cases c10 : x6_2 < (l0.length : Int)
                 · rw [if_pos c10] at H
                   have c10b0 : decide (x6_2 < (l0.length : Int)) = true := zba c10
                   clear c10; by_cases c11 : (rd l1 x6_2) ≤ (rd l0 x6_2)
                   · rw [if_pos c11] at H
                     have c11b0 : decide ((rd l1 x6_2) ≤ (rd l0 x6_2)) = true := zba c11
                     clear c11; have H' := zad H
                     clear H; have p1192 : 0 ≤ (x6_2 : Int) := zas (taab)
                     have q1192 : x6_2 < (l1.length : Int) := zas (taab)
                     obtain ⟨ad1192, e1192, hx1192_0⟩ := zca HR1.out x6_2 p1192 q1192
                     obtain rfl : ad1190 = ad1192 := (by injection e1192)
                     replace hx1192_0 := (HB.out.cell (zaz w _ hx1192_0)).trans hx1192_0
                     replace p1192 := eq_true p1192
                     replace q1192 := eq_true q1192
                     have p1193 : 0 ≤ (x6_2 : Int) := zas (taab)
                     have q1193 : x6_2 < (l0.length : Int) := zas (taab)
                     obtain ⟨ad1193, e1193, hx1193_0⟩ := zca HR0.out x6_2 p1193 q1193
                     obtain rfl : ad1191 = ad1193 := (by injection e1193)
                     replace hx1193_0 := (HB.out.cell (zaz w _ hx1193_0)).trans hx1193_0
                     replace p1193 := eq_true p1193
                     replace q1193 := eq_true q1193
                     go_wp2
                     repeat (go_quiet (fail); try go_wp2)
                     go_roundg k2
                     case measure => have := HK1.out; have := HK2.out; omega
                     case rel => exact ⟨(wrap64 (x6_2 - 1)), (taag), H', ⟨by have := HK1.out; have := HK2.out; omega⟩, ⟨tacv⟩, ⟨tacc⟩⟩
                   · rw [if_neg c11] at H
                     have c11b0 : decide ((rd l1 x6_2) ≤ (rd l0 x6_2)) = false := zbh c11
                     clear c11; simp only [zbl, zbp] at H
                     obtain ⟨rfl, rfl, rfl⟩ := H
                     have p1192 : 0 ≤ (x6_2 : Int) := zas (taab)
                     have q1192 : x6_2 < (l1.length : Int) := zas (taab)
                     obtain ⟨ad1192, e1192, hx1192_0⟩ := zca HR1.out x6_2 p1192 q1192
                     obtain rfl : ad1190 = ad1192 := (by injection e1192)
                     replace hx1192_0 := (HB.out.cell (zaz w _ hx1192_0)).trans hx1192_0
                     replace p1192 := eq_true p1192
                     replace q1192 := eq_true q1192
                     have p1193 : 0 ≤ (x6_2 : Int) := zas (taab)
                     have q1193 : x6_2 < (l0.length : Int) := zas (taab)
                     obtain ⟨ad1193, e1193, hx1193_0⟩ := zca HR0.out x6_2 p1193 q1193
                     obtain rfl : ad1191 = ad1193 := (by injection e1193)
                     replace hx1193_0 := (HB.out.cell (zaz w _ hx1193_0)).trans hx1193_0
                     replace p1193 := eq_true p1193
                     replace q1193 := eq_true q1193
                     have hcz12_0 : wr.cell? ⟨gb1189, 0, none⟩ = some (.int .i64 0) := (zbi BK1189.out 0).trans rfl
                     have hcz12_1 : wr.cell? ⟨gb1189, 1, none⟩ = some (.int .i64 0) := (zbi BK1189.out 1).trans rfl
                     have hcz12_2 : wr.cell? ⟨gb1189, 2, none⟩ = some (.int .i64 0) := (zbi BK1189.out 2).trans rfl
                     have hfz12_0 := zbj BK1189.out 0
                     have hfz12_1 := zbj BK1189.out 1
                     have hfz12_2 := zbj BK1189.out 2
                     go_wp2
                     repeat (go_quiet (fail); try go_wp2)
                     refine bodyPost_ret (results_cell_row rfl _ _ gb1189 39 #[.int .i64 x6_2, .int .i64 x5_1, .int .i64 1] (0, 0) _ rfl (by (with_reducible repeat (first | refine blk_drewN ?_ _ | refine blk_drew ?_ | refine blk_alloc ?_ _)); refine blk_put (cs := #[.int .i64 x6_2, .int .i64 x5_1, .int .i64 0]) ?_ 2 _ rfl; (with_reducible repeat (first | refine blk_drewN ?_ _ | refine blk_drew ?_ | refine blk_alloc ?_ _)); refine blk_put (cs := #[.int .i64 x6_2, .int .i64 0, .int .i64 0]) ?_ 1 _ rfl; (with_reducible repeat (first | refine blk_drewN ?_ _ | refine blk_drew ?_ | refine blk_alloc ?_ _)); refine blk_put (cs := #[.int .i64 0, .int .i64 0, .int .i64 0]) ?_ 0 _ rfl; (with_reducible repeat (first | refine blk_drewN ?_ _ | refine blk_drew ?_ | refine blk_alloc ?_ _)); exact BK1189.out) Try.underlying39 rfl (by kernel_rfl)) rfl ?_
                     exact ⟨taah, tacc⟩
                 · rw [if_neg c10] at H
                   exact absurd H (taac)
               · rw [if_neg c9] at H
                 exact absurd H (taac)
             · rw [if_neg c8] at H
               exact absurd H (taac)
       · rw [if_neg c6] at H
         exact absurd H (taac)
     · rw [if_neg c5] at H
       exact absurd H (taac)
   · rw [if_neg c4] at H
     exact absurd H (taac)
def spec_giPath.l0 : Nat → Bool → List Int → List Int → List (S39) → Option ((List (S39)))
 | 0, _, _, _, _ => none
 | k + 1, x2, x7, x8, x9 => (spec_l1Same.f k x7 x8).bind fun t1200 => (if t1200 = true then (some x9) else ((spec_giNext.f k x7 x8).bind fun bt1201 => (if x2 = true then (if 0 ≤ bt1201.1 then (if bt1201.1 < (x8.length : Int) then (if bt1201.1 < (x7.length : Int) then (if 0 ≤ bt1201.2.1 then (if bt1201.2.1 < (x7.length : Int) then (if bt1201.2.1 < (x8.length : Int) then ((spec_l1Least.f (wrap64 ((rd x8 bt1201.1) - (rd x7 bt1201.1))) (wrap64 ((rd x7 bt1201.2.1) - (rd x8 bt1201.2.1)))).bind fun t1209 => (if x9.length < 5864062014805 then ((spec_giDo.f x8 bt1201.1 bt1201.2.1 t1209).bind fun t1213 => ((spec_liRank.f k t1213).bind fun t1216 => (spec_giPath.l0 k x2 x7 t1216 (x9 ++ [(⟨bt1201.1, bt1201.2.1, t1209⟩ : S39)])))) else (none))) else (none)) else (none)) else (none)) else (none)) else (none)) else (none)) else (if x9.length < 5864062014805 then ((spec_giDo.f x8 bt1201.1 bt1201.2.1 bt1201.2.2).bind fun t1222 => ((spec_liRank.f k t1222).bind fun t1225 => (spec_giPath.l0 k x2 x7 t1225 (x9 ++ [(⟨bt1201.1, bt1201.2.1, bt1201.2.2⟩ : S39)])))) else (none)))))
def spec_giPath.f (k : Nat) (l0 : List Int) (l1 : List Int) (a2 : Bool) : Option ((List (S39))) := (spec_liRank.f k l0).bind fun t1194 => ((spec_liRank.f k l1).bind fun t1197 => (spec_giPath.l0 k a2 t1194 t1197 ([] : List (S39))))
def spec_giPath.T6 : Bool × List (List Nat × List Nat) := (true, [([], []), ([], []), ([1], [1]), ([0, 2], [0, 2]), ([3], [3]), ([], []), ([], []), ([6], [6]), ([5, 7], [5, 7]), ([8], [8]), ([4, 9], [4, 9]), ([], []), ([], []), ([12], [12]), ([11, 13], [11, 13]), ([14], [14]), ([], []), ([], []), ([17], [17]), ([16, 18], [16, 18]), ([19], [19]), ([15, 20], [15, 20]), ([10, 21], [10, 21]), ([0, 1, 2, 3, 4, 5, 6, 7, 8, 9, 10, 11, 12, 13, 14, 15, 16, 17, 18, 19, 20, 21, 22], []), ([23, 22, 22, 0, 1, 2, 3, 4, 5, 6, 7, 8, 9, 10, 11, 12, 13, 14, 15, 16, 17, 18, 19, 20, 21, 22], [22, 23])])
def spec_giPath.B6 : List Nat := [0, 0, 2, 7, 15, 0, 0, 64, 224, 480, 1023, 0, 0, 4096, 14336, 30720, 0, 0, 131072, 458752, 983040, 2095104, 4194303, 8388607, 16777215]
theorem spec_giPath.tab6 : rtab .any (opsOf Try.f131 6) = spec_giPath.T6 := by kernel_rfl
theorem spec_giPath.bits6 : waitsOk spec_giPath.T6.2 spec_giPath.B6 = true := by kernel_rfl
theorem spec_giPath.calls (k : Nat) (A0 : Option Addr) (c0 : Nat) (l0 : List Int) (A1 : Option Addr) (c1 : Nat) (l1 : List Int) (a2 : Bool) (r : List (S39)) (w : World) (hr0 : Kd.C (Kd.int .i64) w A0 l0.length l0) (hc0 : l0.length ≤ c0) (hr1 : Kd.C (Kd.int .i64) w A1 l1.length l1) (hc1 : l1.length ≤ c1) (h : spec_giPath.f k l0 l1 a2 = some r) :
 Calls Try.prog 131 #[.slice A0 l0.length c0, .slice A1 l1.length c1, .bool a2] w fun e w' => ∃ v0_ : Value, e = .returned (v0_) ∧ Kd.R k39 39 w' w.heap.size (fun _ => True) v0_ r ∧ Below w.heap.size w w' := by
 have hu39 := Try.underlying39
 have HR0 := zad hr0; have HC0 := zad hc0; clear hr0 hc0; have HR1 := zad hr1; have HC1 := zad hc1; clear hr1 hc1; have HB := zad (Below.refl w.heap.size w)
 have H : ((spec_liRank.f k l0).bind fun t1194 => ((spec_liRank.f k l1).bind fun t1197 => (spec_giPath.l0 k a2 t1194 t1197 ([] : List (S39))))) = some r := h
 clear h; replace H := zay.mp H; obtain ⟨t1194, A40, H⟩ := H
 replace H : ((spec_liRank.f k l1).bind fun t1197 => (spec_giPath.l0 k a2 t1194 t1197 ([] : List (S39)))) = some r := H
 have A4 := zad A40; clear A40; replace H := zay.mp H; obtain ⟨t1197, A50, H⟩ := H
 replace H : (spec_giPath.l0 k a2 t1194 t1197 ([] : List (S39))) = some r := H
 have A5 := zad A50; clear A50; have H' := zad H
 clear H; go_enter Try.func131, Try.ntmps131
 go_wp2_with (first | ((with_reducible refine zbf (f := 108) rfl ?_); refine zbn (some 12) rfl rfl Try.func108 (by kernel_rfl) rfl #[.slice A0 l0.length c0] rfl (taad) ?_; (with_reducible refine (spec_liRank.calls k _ _ l0 t1194 _ ?side1 ?side2 A4.out).mono ?_); (case side1 => repeat (first | exact HR0.out | (with_reducible refine zal ?_ _) | (with_reducible refine zam ?_ _) | (with_reducible refine zan ?_))); (case side2 => exact HC0.out); rintro e w6 ⟨v1195, rfl, ho0, hb⟩; refine ⟨_, rfl, ?_⟩; have n0_ := zad (zbu ho0 (zbk (taaa))); have n1_ := zad (zbe (taaa) hb); clear HB; have HO1196 := n0_; have HB := n1_; clear n0_ n1_; (try clear hb); (try clear hb2); (try clear hk); (try clear hi); (try clear ho0)) | ((with_reducible refine zbf (f := 108) rfl ?_); refine zbn (some 14) rfl rfl Try.func108 (by kernel_rfl) rfl #[.slice A1 l1.length c1] rfl (taad) ?_; (with_reducible refine (spec_liRank.calls k _ _ l1 t1197 _ ?side1 ?side2 A5.out).mono ?_); (case side1 => repeat (first | exact (Kd.C_below HR1.out HB.out) | (with_reducible refine zal ?_ _) | (with_reducible refine zam ?_ _) | (with_reducible refine zan ?_))); (case side2 => exact HC1.out); rintro e w7 ⟨v1198, rfl, ho0, hb⟩; refine ⟨_, rfl, ?_⟩; have n0_ := zad (zcb (by (with_reducible repeat (first | apply zai | apply zaj | apply zak)); exact HO1196.out) (zcd ho0) hb); have n1_ := zad (zbu (zcc ho0 (zce (by (with_reducible repeat (first | apply zai | apply zaj | apply zak)); exact HO1196.out))) (zbk (taaa))); have n2_ := zad (zbe (taaa) hb); clear HO1196 HB; have HO1196 := n0_; have HO1199 := n1_; have HB := n2_; clear n0_ n1_ n2_; (try clear hb); (try clear hb2); (try clear hk); (try clear hi); (try clear ho0)))
 go_loopg [8, 9] k (fun kq v8 v9 w' => ∃ (x8_1 : List Int) (x9_1 : List (S39)), Aside0 (spec_giPath.l0 kq a2 t1194 x8_1 x9_1 = some r) ∧ Aside0 (kq ≤ k) ∧ Aside0 (Kd.R (Kd.int .i64) 3 w' w.heap.size (fun k_ => some k_ ≠ (v8 : Value).ownBlock) v1195 t1194) ∧ Aside0 (Kd.R (Kd.int .i64) 3 w' w.heap.size (fun k_ => some k_ ≠ (v1195 : Value).ownBlock) v8 x8_1) ∧ Aside0 (Kd.R k39 39 w' w.heap.size (fun _ => True) v9 x9_1) ∧ Aside0 (Below w.heap.size w w'))
 case atStart => exact ⟨(t1197), (([] : List (S39))), H', ⟨zcf _⟩, ⟨by (with_reducible repeat (first | apply zai | apply zaj | apply zak)); exact zbq HO1196.out (fun _ hk => hk.2)⟩, ⟨by (with_reducible repeat (first | apply zai | apply zaj | apply zak)); exact zbq HO1199.out (fun _ hk => hk.2)⟩, ⟨tabl⟩, ⟨taaa⟩⟩
 case round =>
  clear H'
  try clear c1
  try clear p2
  obtain ⟨x8_1, x9_1, HA, HK1, HO_7, HO_8, HO_9, HB⟩ := hrel
  cases gk with
  | zero => exact absurd HA.out (by simp [spec_giPath.l0])
  | succ k1 =>
   have H := HA.out
   clear HA; simp only [spec_giPath.l0] at H
   replace H := zay.mp H; obtain ⟨t1200, A80, H⟩ := H
   replace H : (if t1200 = true then (some x9_1) else ((spec_giNext.f k1 t1194 x8_1).bind fun bt1201 => (if a2 = true then (if 0 ≤ bt1201.1 then (if bt1201.1 < (x8_1.length : Int) then (if bt1201.1 < (t1194.length : Int) then (if 0 ≤ bt1201.2.1 then (if bt1201.2.1 < (t1194.length : Int) then (if bt1201.2.1 < (x8_1.length : Int) then ((spec_l1Least.f (wrap64 ((rd x8_1 bt1201.1) - (rd t1194 bt1201.1))) (wrap64 ((rd t1194 bt1201.2.1) - (rd x8_1 bt1201.2.1)))).bind fun t1209 => (if x9_1.length < 5864062014805 then ((spec_giDo.f x8_1 bt1201.1 bt1201.2.1 t1209).bind fun t1213 => ((spec_liRank.f k1 t1213).bind fun t1216 => (spec_giPath.l0 k1 a2 t1194 t1216 (x9_1 ++ [(⟨bt1201.1, bt1201.2.1, t1209⟩ : S39)])))) else (none))) else (none)) else (none)) else (none)) else (none)) else (none)) else (none)) else (if x9_1.length < 5864062014805 then ((spec_giDo.f x8_1 bt1201.1 bt1201.2.1 bt1201.2.2).bind fun t1222 => ((spec_liRank.f k1 t1222).bind fun t1225 => (spec_giPath.l0 k1 a2 t1194 t1225 (x9_1 ++ [(⟨bt1201.1, bt1201.2.1, bt1201.2.2⟩ : S39)])))) else (none))))) = some r := H
   have A8 := zad A80; clear A80; by_cases c9 : t1200 = true
   · subst c9
     have H1 : (some x9_1) = some r := by rw [if_pos rfl] at H; exact H
     clear H; have H := H1; clear H1; obtain rfl := zbc H
     obtain ⟨Ao10, co10, eo10⟩ := zbv HO_7.out
     subst eo10; obtain ⟨Ao11, co11, eo11⟩ := zbv HO_8.out
     subst eo11; go_wp2_with (first | ((with_reducible refine zbf (f := 118) rfl ?_); refine zbn (some 17) rfl rfl Try.func118 (by kernel_rfl) rfl #[.slice Ao10 t1194.length co10, .slice Ao11 x8_1.length co11] rfl (taad) ?_; (with_reducible refine (spec_l1Same.calls k1 _ _ t1194 _ _ x8_1 true _ ?side1 ?side2 ?side3 ?side4 A8.out).mono ?_); (case side1 => repeat (first | exact (zbd HO_7.out).2.2 | (with_reducible refine zal ?_ _) | (with_reducible refine zam ?_ _) | (with_reducible refine zan ?_))); (case side2 => exact (zbd HO_7.out).2.1); (case side3 => repeat (first | exact (zbd HO_8.out).2.2 | (with_reducible refine zal ?_ _) | (with_reducible refine zam ?_ _) | (with_reducible refine zan ?_))); (case side4 => exact (zbd HO_8.out).2.1); rintro e w' ⟨rfl, ⟨nd, rfl⟩⟩; refine ⟨_, rfl, ?_⟩))
     go_ret
     exact ⟨_, taah, tabf, taaa⟩
   · replace c9 := zbg.mpr c9
     subst c9; have H1 : ((spec_giNext.f k1 t1194 x8_1).bind fun bt1201 => (if a2 = true then (if 0 ≤ bt1201.1 then (if bt1201.1 < (x8_1.length : Int) then (if bt1201.1 < (t1194.length : Int) then (if 0 ≤ bt1201.2.1 then (if bt1201.2.1 < (t1194.length : Int) then (if bt1201.2.1 < (x8_1.length : Int) then ((spec_l1Least.f (wrap64 ((rd x8_1 bt1201.1) - (rd t1194 bt1201.1))) (wrap64 ((rd t1194 bt1201.2.1) - (rd x8_1 bt1201.2.1)))).bind fun t1209 => (if x9_1.length < 5864062014805 then ((spec_giDo.f x8_1 bt1201.1 bt1201.2.1 t1209).bind fun t1213 => ((spec_liRank.f k1 t1213).bind fun t1216 => (spec_giPath.l0 k1 a2 t1194 t1216 (x9_1 ++ [(⟨bt1201.1, bt1201.2.1, t1209⟩ : S39)])))) else (none))) else (none)) else (none)) else (none)) else (none)) else (none)) else (none)) else (if x9_1.length < 5864062014805 then ((spec_giDo.f x8_1 bt1201.1 bt1201.2.1 bt1201.2.2).bind fun t1222 => ((spec_liRank.f k1 t1222).bind fun t1225 => (spec_giPath.l0 k1 a2 t1194 t1225 (x9_1 ++ [(⟨bt1201.1, bt1201.2.1, bt1201.2.2⟩ : S39)])))) else (none)))) = some r := by rw [if_neg (show ¬ (false = true) by decide)] at H; exact H
     clear H; have H := H1; clear H1; replace H := zay.mp H; obtain ⟨⟨t1201, t1202, t1203⟩, A120, H⟩ := H
     replace H : (if a2 = true then (if 0 ≤ t1201 then (if t1201 < (x8_1.length : Int) then (if t1201 < (t1194.length : Int) then (if 0 ≤ t1202 then (if t1202 < (t1194.length : Int) then (if t1202 < (x8_1.length : Int) then ((spec_l1Least.f (wrap64 ((rd x8_1 t1201) - (rd t1194 t1201))) (wrap64 ((rd t1194 t1202) - (rd x8_1 t1202)))).bind fun t1209 => (if x9_1.length < 5864062014805 then ((spec_giDo.f x8_1 t1201 t1202 t1209).bind fun t1213 => ((spec_liRank.f k1 t1213).bind fun t1216 => (spec_giPath.l0 k1 a2 t1194 t1216 (x9_1 ++ [(⟨t1201, t1202, t1209⟩ : S39)])))) else (none))) else (none)) else (none)) else (none)) else (none)) else (none)) else (none)) else (if x9_1.length < 5864062014805 then ((spec_giDo.f x8_1 t1201 t1202 t1203).bind fun t1222 => ((spec_liRank.f k1 t1222).bind fun t1225 => (spec_giPath.l0 k1 a2 t1194 t1225 (x9_1 ++ [(⟨t1201, t1202, t1203⟩ : S39)])))) else (none))) = some r := H
     have A12 := zad A120; clear A120; by_cases c13 : a2 = true
     · subst c13
       have H1 : (if 0 ≤ t1201 then (if t1201 < (x8_1.length : Int) then (if t1201 < (t1194.length : Int) then (if 0 ≤ t1202 then (if t1202 < (t1194.length : Int) then (if t1202 < (x8_1.length : Int) then ((spec_l1Least.f (wrap64 ((rd x8_1 t1201) - (rd t1194 t1201))) (wrap64 ((rd t1194 t1202) - (rd x8_1 t1202)))).bind fun t1209 => (if x9_1.length < 5864062014805 then ((spec_giDo.f x8_1 t1201 t1202 t1209).bind fun t1213 => ((spec_liRank.f k1 t1213).bind fun t1216 => (spec_giPath.l0 k1 true t1194 t1216 (x9_1 ++ [(⟨t1201, t1202, t1209⟩ : S39)])))) else (none))) else (none)) else (none)) else (none)) else (none)) else (none)) else (none)) = some r := by rw [if_pos rfl] at H; exact H
       clear H; have H := H1; clear H1; by_cases c14 : 0 ≤ t1201
       · rw [if_pos c14] at H
         have c14b0 : decide (0 ≤ t1201) = true := zba c14
         clear c14; by_cases c15 : t1201 < (x8_1.length : Int)
         · rw [if_pos c15] at H
           have c15b0 : decide (t1201 < (x8_1.length : Int)) = true := zba c15
           clear c15; by_cases c16 : t1201 < (t1194.length : Int)
           · rw [if_pos c16] at H
             have c16b0 : decide (t1201 < (t1194.length : Int)) = true := zba c16
             clear c16; by_cases c17 : 0 ≤ t1202
             · rw [if_pos c17] at H
               have c17b0 : decide (0 ≤ t1202) = true := zba c17
               clear c17; by_cases c18 : t1202 < (t1194.length : Int)
               · rw [if_pos c18] at H
                 have c18b0 : decide (t1202 < (t1194.length : Int)) = true := zba c18
                 clear c18; by_cases c19 : t1202 < (x8_1.length : Int)
                 · rw [if_pos c19] at H
                   have c19b0 : decide (t1202 < (x8_1.length : Int)) = true := zba c19
                   clear c19; replace H := zay.mp H; obtain ⟨t1209, A200, H⟩ := H
                   replace H : (if x9_1.length < 5864062014805 then ((spec_giDo.f x8_1 t1201 t1202 t1209).bind fun t1213 => ((spec_liRank.f k1 t1213).bind fun t1216 => (spec_giPath.l0 k1 true t1194 t1216 (x9_1 ++ [(⟨t1201, t1202, t1209⟩ : S39)])))) else (none)) = some r := H
                   have A20 := zad A200; clear A200; by_cases c21 : x9_1.length < 5864062014805
                   · rw [if_pos c21] at H
                     have LMc21 := zad c21; clear c21; obtain ⟨y1210, hy1210⟩ : ∃ y_ : List (S39), y_ = (x9_1 ++ [(⟨t1201, t1202, t1209⟩ : S39)]) := ⟨_, rfl⟩
                     replace H : ((spec_giDo.f x8_1 t1201 t1202 t1209).bind fun t1213 => ((spec_liRank.f k1 t1213).bind fun t1216 => (spec_giPath.l0 k1 true t1194 t1216 y1210))) = some r := by first | (rw [hy1210]; with_reducible exact H) | (have H2_ := (zbb _ _).symm.trans H; rw [hy1210]; with_reducible exact H2_) | (have H2_ := (zbb _ _).symm.trans H; with_reducible exact H2_) | with_reducible exact H | (rw [hy1210]; exact H) | exact H
                     have Ny1210 := zad hy1210; clear hy1210; replace H := zay.mp H; obtain ⟨t1213, A220, H⟩ := H
                     replace H : ((spec_liRank.f k1 t1213).bind fun t1216 => (spec_giPath.l0 k1 true t1194 t1216 y1210)) = some r := H
                     have A22 := zad A220; clear A220; replace H := zay.mp H; obtain ⟨t1216, A230, H⟩ := H
                     replace H : (spec_giPath.l0 k1 true t1194 t1216 y1210) = some r := H
                     have A23 := zad A230; clear A230; have H' := zad H
                     clear H; obtain ⟨Ao24, co24, eo24⟩ := zbv HO_7.out
                     subst eo24; obtain ⟨Ao25, co25, eo25⟩ := zbv HO_8.out
                     subst eo25; try go_wp2_with (first | ((with_reducible refine zbf (f := 118) rfl ?_); refine zbn (some 17) rfl rfl Try.func118 (by kernel_rfl) rfl #[.slice Ao24 t1194.length co24, .slice Ao25 x8_1.length co25] rfl (taad) ?_; (with_reducible refine (spec_l1Same.calls k1 _ _ t1194 _ _ x8_1 false _ ?side1 ?side2 ?side3 ?side4 A8.out).mono ?_); (case side1 => repeat (first | exact (zbd HO_7.out).2.2 | (with_reducible refine zal ?_ _) | (with_reducible refine zam ?_ _) | (with_reducible refine zan ?_))); (case side2 => exact (zbd HO_7.out).2.1); (case side3 => repeat (first | exact (zbd HO_8.out).2.2 | (with_reducible refine zal ?_ _) | (with_reducible refine zam ?_ _) | (with_reducible refine zan ?_))); (case side4 => exact (zbd HO_8.out).2.1); rintro e w' ⟨rfl, ⟨nd, rfl⟩⟩; refine ⟨_, rfl, ?_⟩; (try (rw [drewN_self wr]; generalize hq_ : World.drewN wr _ = wr; have n0_ : Aside0 (Kd.R (Kd.int .i64) 3 wr w.heap.size (fun k_ => some k_ ≠ (.slice Ao25 x8_1.length co25 : Value).ownBlock) (.slice Ao24 t1194.length co24) t1194) := ⟨by rw [← hq_]; exact (taai)⟩; have n1_ : Aside0 (Kd.R (Kd.int .i64) 3 wr w.heap.size (fun k_ => some k_ ≠ (.slice Ao24 t1194.length co24 : Value).ownBlock) (.slice Ao25 x8_1.length co25) x8_1) := ⟨by rw [← hq_]; exact (taan)⟩; have n2_ : Aside0 (Kd.R k39 39 wr w.heap.size (fun _ => True) u9 x9_1) := ⟨by rw [← hq_]; exact (tabf)⟩; have n3_ : Aside0 (Below w.heap.size w wr) := ⟨by rw [← hq_]; exact (taaa)⟩; clear HO_7 HO_8 HO_9 HB hq_; have HO_7 := n0_; have HO_8 := n1_; have HO_9 := n2_; have HB := n3_; clear n0_ n1_ n2_ n3_))) | ((with_reducible refine zbf (f := 153) rfl ?_); refine zbn (some 21) rfl rfl Try.func153 (by kernel_rfl) rfl #[.slice Ao24 t1194.length co24, .slice Ao25 x8_1.length co25] rfl (taad) ?_; (with_reducible refine (spec_giNext.calls k1 _ _ t1194 _ _ x8_1 t1201 t1202 t1203 _ ?side1 ?side2 ?side3 ?side4 A12.out).mono ?_); (case side1 => repeat (first | exact (zbd HO_7.out).2.2 | (with_reducible refine zal ?_ _) | (with_reducible refine zam ?_ _) | (with_reducible refine zan ?_))); (case side2 => exact (zbd HO_7.out).2.1); (case side3 => repeat (first | exact (zbd HO_8.out).2.2 | (with_reducible refine zal ?_ _) | (with_reducible refine zam ?_ _) | (with_reducible refine zan ?_))); (case side4 => exact (zbd HO_8.out).2.1); rintro e w26 ⟨rfl, hb⟩; refine ⟨_, rfl, ?_⟩; have n0_ := zad (zbt (taai) hb); have n1_ := zad (zbt (taan) hb); have n2_ := zad (zbt (tabf) hb); have n3_ := zad (zbe (taaa) hb); clear HO_7 HO_8 HO_9 HB; have HO_7 := n0_; have HO_8 := n1_; have HO_9 := n2_; have HB := n3_; clear n0_ n1_ n2_ n3_; (try clear hb); (try clear hb2); (try clear hk); (try clear hi)) | ((with_reducible refine gate_dst (N := 10) rfl ?_); refine box_event ?hg (N := 10) ?hd (cs := #[.int .i64 0, .int .i64 0, .int .i64 0]) (t := 39) ?hr ?_; (case hd => rfl); (case hg => rfl); (case hr => first | (go_simp; done) | (go_simp; rfl)); intro gb1204 hg w27 hbox hb; have n0_ := zad (zbt (taai) hb); have n1_ := zad (zbt (taan) hb); have n2_ := zad (zbt (Kd.R_elderB (tabf) gb1204 (Nat.le_of_eq hg.symm)) hb); have n3_ := zad (zbe (taaa) hb); have n4_ := zad (hbox); have n5_ := zad ((taee : w.heap.size ≤ gb1204)); have n6_ := zad ((taee : w.heap.size ≤ gb1204)); clear HO_7 HO_8 HO_9 HB; have HO_7 := n0_; have HO_8 := n1_; have HO_9 := n2_; have HB := n3_; have BK1204 := n4_; have GW1204 := n5_; have GE1204 := n6_; clear n0_ n1_ n2_ n3_ n4_ n5_ n6_ hb hbox hg; have hcz28_0 : w27.cell? ⟨gb1204, 0, none⟩ = some (.int .i64 0) := (zbi BK1204.out 0).trans rfl; have hcz28_1 : w27.cell? ⟨gb1204, 1, none⟩ = some (.int .i64 0) := (zbi BK1204.out 1).trans rfl; have hcz28_2 : w27.cell? ⟨gb1204, 2, none⟩ = some (.int .i64 0) := (zbi BK1204.out 2).trans rfl; have hfz28_0 := zbj BK1204.out 0; have hfz28_1 := zbj BK1204.out 1; have hfz28_2 := zbj BK1204.out 2))
                     have n0_ : Aside0 (Kd.R (Kd.int .i64) 3 (((w27.setCell ⟨gb1204, 0, none⟩ (.int .i64 t1201)).setCell ⟨gb1204, 1, none⟩ (.int .i64 t1202)).setCell ⟨gb1204, 2, none⟩ (.int .i64 t1203)) w.heap.size (fun k_ => some k_ ≠ (.slice Ao25 x8_1.length co25 : Value).ownBlock) (.slice Ao24 t1194.length co24) t1194) := ⟨by (with_reducible repeat (first | apply zai | apply zaj | apply zak)); exact zbq (Kd.R_far (p := ⟨gb1204, 2, none⟩) (Kd.R_far (p := ⟨gb1204, 1, none⟩) (Kd.R_far (p := ⟨gb1204, 0, none⟩) (Kd.R_types HO_7.out BK1204.out (by decide)) (fun _ hk => hk.2) (.int .i64 t1201)) (fun _ hk => hk.2) (.int .i64 t1202)) (fun _ hk => hk.2) (.int .i64 t1203)) (fun _ hk => hk.1)⟩
                     have n1_ : Aside0 (Kd.R (Kd.int .i64) 3 (((w27.setCell ⟨gb1204, 0, none⟩ (.int .i64 t1201)).setCell ⟨gb1204, 1, none⟩ (.int .i64 t1202)).setCell ⟨gb1204, 2, none⟩ (.int .i64 t1203)) w.heap.size (fun k_ => some k_ ≠ (.slice Ao24 t1194.length co24 : Value).ownBlock) (.slice Ao25 x8_1.length co25) x8_1) := ⟨by (with_reducible repeat (first | apply zai | apply zaj | apply zak)); exact zbq (Kd.R_far (p := ⟨gb1204, 2, none⟩) (Kd.R_far (p := ⟨gb1204, 1, none⟩) (Kd.R_far (p := ⟨gb1204, 0, none⟩) (Kd.R_types HO_8.out BK1204.out (by decide)) (fun _ hk => hk.2) (.int .i64 t1201)) (fun _ hk => hk.2) (.int .i64 t1202)) (fun _ hk => hk.2) (.int .i64 t1203)) (fun _ hk => hk.1)⟩
                     have n2_ : Aside0 (Kd.R k39 39 (((w27.setCell ⟨gb1204, 0, none⟩ (.int .i64 t1201)).setCell ⟨gb1204, 1, none⟩ (.int .i64 t1202)).setCell ⟨gb1204, 2, none⟩ (.int .i64 t1203)) w.heap.size (fun k_ => k_ ≠ gb1204) u9 x9_1) := ⟨tadu⟩
                     have n3_ : Aside0 ((((w27.setCell ⟨gb1204, 0, none⟩ (.int .i64 t1201)).setCell ⟨gb1204, 1, none⟩ (.int .i64 t1202)).setCell ⟨gb1204, 2, none⟩ (.int .i64 t1203)).heap[gb1204]? = some (.cells #[.int .i64 t1201, .int .i64 t1202, .int .i64 t1203] 39 (0, 0))) := ⟨tadk⟩
                     have n4_ : Aside0 (Below w.heap.size w (((w27.setCell ⟨gb1204, 0, none⟩ (.int .i64 t1201)).setCell ⟨gb1204, 1, none⟩ (.int .i64 t1202)).setCell ⟨gb1204, 2, none⟩ (.int .i64 t1203))) := ⟨taax⟩
                     (try clear HO_7); (try clear HO_8); (try clear HO_9); (try clear BK1204); (try clear HB); generalize (((w27.setCell ⟨gb1204, 0, none⟩ (.int .i64 t1201)).setCell ⟨gb1204, 1, none⟩ (.int .i64 t1202)).setCell ⟨gb1204, 2, none⟩ (.int .i64 t1203)) = w29 at n0_ n1_ n2_ n3_ n4_ ⊢
                     have HO_7 := n0_; have HO_8 := n1_; have HO_9 := n2_; have BK1204 := n3_; have HB := n4_; clear n0_ n1_ n2_ n3_ n4_; have n0_ := zad (zak HO_7.out)
                     have n1_ := zad (zak HO_8.out)
                     have n2_ := zad (zak HO_9.out)
                     have n3_ := zad (blk_drew BK1204.out)
                     have n4_ := zad (zaf HB.out)
                     clear HO_7 HO_8 HO_9 BK1204 HB; have HO_7 := n0_; have HO_8 := n1_; have HO_9 := n2_; have BK1204 := n3_; have HB := n4_; clear n0_ n1_ n2_ n3_ n4_; have p1205 : 0 ≤ (t1201 : Int) := zas (taab)
                     have q1205 : t1201 < (x8_1.length : Int) := zas (taab)
                     obtain ⟨ad1205, e1205, hx1205_0⟩ := zca (zbd HO_8.out).2.2 t1201 p1205 q1205
                     cases e1205
                     replace p1205 := eq_true p1205
                     replace q1205 := eq_true q1205
                     have p1206 : 0 ≤ (t1201 : Int) := zas (taab)
                     have q1206 : t1201 < (t1194.length : Int) := zas (taab)
                     obtain ⟨ad1206, e1206, hx1206_0⟩ := zca (zbd HO_7.out).2.2 t1201 p1206 q1206
                     cases e1206
                     replace p1206 := eq_true p1206
                     replace q1206 := eq_true q1206
                     have p1207 : 0 ≤ (t1202 : Int) := zas (taab)
                     have q1207 : t1202 < (t1194.length : Int) := zas (taab)
                     obtain ⟨ad1207, e1207, hx1207_0⟩ := zca (zbd HO_7.out).2.2 t1202 p1207 q1207
                     obtain rfl : ad1206 = ad1207 := (by injection e1207)
                     replace p1207 := eq_true p1207
                     replace q1207 := eq_true q1207
                     have p1208 : 0 ≤ (t1202 : Int) := zas (taab)
                     have q1208 : t1202 < (x8_1.length : Int) := zas (taab)
                     obtain ⟨ad1208, e1208, hx1208_0⟩ := zca (zbd HO_8.out).2.2 t1202 p1208 q1208
                     obtain rfl : ad1205 = ad1208 := (by injection e1208)
                     replace p1208 := eq_true p1208
                     replace q1208 := eq_true q1208
                     refine start_ (n := 25) (S := fun w' => w'.cell? ⟨gb1204, 0, none⟩ = some (.int .i64 t1201) ∧ w'.cell? ⟨gb1204, 1, none⟩ = some (.int .i64 t1202) ∧ w'.cell? ⟨gb1204, 2, none⟩ = some (.int .i64 t1203) ∧ w'.cell? (ad1205.add (t1201).toNat) = some (.int .i64 (rd x8_1 t1201)) ∧ w'.cell? (ad1206.add (t1201).toNat) = some (.int .i64 (rd t1194 t1201)) ∧ w'.cell? (ad1206.add (t1202).toNat) = some (.int .i64 (rd t1194 t1202)) ∧ w'.cell? (ad1205.add (t1202).toNat) = some (.int .i64 (rd x8_1 t1202))) (ds := [24]) #[false, false, false, false, false, false, false, false, false, false, false, false, false, false, false, false, false, false, false, false, false, false, false, false, false] (by kernel_rfl) rfl rfl ⟨(zbi BK1204.out 0).trans rfl, (zbi BK1204.out 1).trans rfl, (zbi BK1204.out 2).trans rfl, hx1205_0, hx1206_0, hx1207_0, hx1208_0⟩ (fun hHeld => ?_); refine with_tabW spec_giPath.tab6 spec_giPath.bits6 (fun HT_ HW_ => ?_)
                     generalize w29.drew = w30 at HO_7 HO_8 HO_9 BK1204 HB hx1205_0 hx1206_0 hx1207_0 hx1208_0 hHeld ⊢
                     refine pure_ (i := 0) (N := some 23) (v := ?_) (a' := ?_) tafq rfl rfl (zby HT_.out (by kernel_rfl)) (fun _ _ _ h => h) (Or.inl ⟨by rfl, ?_⟩) ?_ ?_
                     rotate_left
                     · intro w'
                       go_simp; with_reducible rfl
                     rotate_left
                     · simp only [Act.put, zaa, zab, zac, zbw, zbx]
                       rfl
                     refine pure_ (i := 1) (N := some 24) (v := ?_) (a' := ?_) tafr rfl rfl (zby HT_.out (by kernel_rfl)) (fun _ _ _ h => h) (Or.inl ⟨by rfl, ?_⟩) ?_ ?_
                     rotate_left
                     · intro w'
                       go_simp; with_reducible rfl
                     rotate_left
                     · simp only [Act.put, zaa, zab, zac, zbw, zbx]
                       rfl
                     refine pure_ (i := 5) (N := some 28) (v := ?_) (a' := ?_) #[true, true, false, false, false, true, false, false, false, false, false, false, false, false, false, false, false, false, false, false, false, false, false, false, false] rfl rfl (zby HT_.out (by kernel_rfl)) (fun _ _ _ h => h) (Or.inl ⟨by rfl, ?_⟩) ?_ ?_
                     rotate_left
                     · intro w'
                       go_simp; with_reducible rfl
                     rotate_left
                     · simp only [Act.put, zaa, zab, zac, zbw, zbx]
                       rfl
                     refine pure_ (i := 6) (N := some 29) (v := ?_) (a' := ?_) #[true, true, false, false, false, true, true, false, false, false, false, false, false, false, false, false, false, false, false, false, false, false, false, false, false] rfl rfl (zby HT_.out (by kernel_rfl)) (fun _ _ _ h => h) (Or.inl ⟨by rfl, ?_⟩) ?_ ?_
                     rotate_left
                     · intro w'
                       go_simp; with_reducible rfl
                     rotate_left
                     · simp only [Act.put, zaa, zab, zac, zbw, zbx]
                       rfl
                     refine pure_ (i := 11) (N := some 34) (v := ?_) (a' := ?_) #[true, true, false, false, false, true, true, false, false, false, false, true, false, false, false, false, false, false, false, false, false, false, false, false, false] rfl rfl (zby HT_.out (by kernel_rfl)) (fun _ _ _ h => h) (Or.inl ⟨by rfl, ?_⟩) ?_ ?_
                     rotate_left
                     · intro w'
                       go_simp; with_reducible rfl
                     rotate_left
                     · simp only [Act.put, zaa, zab, zac, zbw, zbx]
                       rfl
                     refine pure_ (i := 12) (N := some 35) (v := ?_) (a' := ?_) #[true, true, false, false, false, true, true, false, false, false, false, true, true, false, false, false, false, false, false, false, false, false, false, false, false] rfl rfl (zby HT_.out (by kernel_rfl)) (fun _ _ _ h => h) (Or.inl ⟨by rfl, ?_⟩) ?_ ?_
                     rotate_left
                     · intro w'
                       go_simp; with_reducible rfl
                     rotate_left
                     · simp only [Act.put, zaa, zab, zac, zbw, zbx]
                       rfl
                     refine pure_ (i := 16) (N := some 39) (v := ?_) (a' := ?_) #[true, true, false, false, false, true, true, false, false, false, false, true, true, false, false, false, true, false, false, false, false, false, false, false, false] rfl rfl (zby HT_.out (by kernel_rfl)) (fun _ _ _ h => h) (Or.inl ⟨by rfl, ?_⟩) ?_ ?_
                     rotate_left
                     · intro w'
                       go_simp; with_reducible rfl
                     rotate_left
                     · simp only [Act.put, zaa, zab, zac, zbw, zbx]
                       rfl
                     refine pure_ (i := 17) (N := some 40) (v := ?_) (a' := ?_) #[true, true, false, false, false, true, true, false, false, false, false, true, true, false, false, false, true, true, false, false, false, false, false, false, false] rfl rfl (zby HT_.out (by kernel_rfl)) (fun _ _ _ h => h) (Or.inl ⟨by rfl, ?_⟩) ?_ ?_
                     rotate_left
                     · intro w'
                       go_simp; with_reducible rfl
                     rotate_left
                     · simp only [Act.put, zaa, zab, zac, zbw, zbx]
                       rfl
                     refine take_ (i := 2) (N := some 25) (v := ?_) (a' := ?_) #[true, true, true, false, false, true, true, false, false, false, false, true, true, false, false, false, true, true, false, false, false, false, false, false, false] rfl rfl (zbz HT_.out HW_.out (by kernel_rfl)) (fun _ _ _ h => h) (Or.inl ⟨by rfl, ?_⟩) hHeld ?_ ?_
                     rotate_left
                     · rintro w' ⟨s0, s1, s2, s3, s4, s5, s6⟩
                       go_simp; with_reducible rfl
                     rotate_left
                     · simp only [Act.put, zaa, zab, zac, zbw, zbx]
                       rfl
                     refine pure_ (i := 3) (N := some 26) (v := ?_) (a' := ?_) #[true, true, true, true, false, true, true, false, false, false, false, true, true, false, false, false, true, true, false, false, false, false, false, false, false] rfl rfl (zby HT_.out (by kernel_rfl)) (fun _ _ _ h => h) (Or.inl ⟨by rfl, ?_⟩) ?_ ?_
                     rotate_left
                     · intro w'
                       go_simp; with_reducible rfl
                     rotate_left
                     · simp only [Act.put, zaa, zab, zac, zbw, zbx]
                       rfl
                     refine take_ (i := 4) (N := some 27) (v := ?_) (a' := ?_) #[true, true, true, true, true, true, true, false, false, false, false, true, true, false, false, false, true, true, false, false, false, false, false, false, false] rfl rfl (zbz HT_.out HW_.out (by kernel_rfl)) (fun _ _ _ h => h) (Or.inl ⟨by rfl, ?_⟩) hHeld ?_ ?_
                     rotate_left
                     · rintro w' ⟨s0, s1, s2, s3, s4, s5, s6⟩
                       go_simp; with_reducible rfl
                     rotate_left
                     · simp only [Act.put, zaa, zab, zac, zbw, zbx]
                       rfl
                     refine take_ (i := 7) (N := some 30) (v := ?_) (a' := ?_) #[true, true, true, true, true, true, true, true, false, false, false, true, true, false, false, false, true, true, false, false, false, false, false, false, false] rfl rfl (zbz HT_.out HW_.out (by kernel_rfl)) (fun _ _ _ h => h) (Or.inl ⟨by rfl, ?_⟩) hHeld ?_ ?_
                     rotate_left
                     · rintro w' ⟨s0, s1, s2, s3, s4, s5, s6⟩
                       go_simp; with_reducible rfl
                     rotate_left
                     · simp only [Act.put, zaa, zab, zac, zbw, zbx]
                       rfl
                     refine pure_ (i := 8) (N := some 31) (v := ?_) (a' := ?_) #[true, true, true, true, true, true, true, true, true, false, false, true, true, false, false, false, true, true, false, false, false, false, false, false, false] rfl rfl (zby HT_.out (by kernel_rfl)) (fun _ _ _ h => h) (Or.inl ⟨by rfl, ?_⟩) ?_ ?_
                     rotate_left
                     · intro w'
                       go_simp; with_reducible rfl
                     rotate_left
                     · simp only [Act.put, zaa, zab, zac, zbw, zbx]
                       rfl
                     refine take_ (i := 9) (N := some 32) (v := ?_) (a' := ?_) #[true, true, true, true, true, true, true, true, true, true, false, true, true, false, false, false, true, true, false, false, false, false, false, false, false] rfl rfl (zbz HT_.out HW_.out (by kernel_rfl)) (fun _ _ _ h => h) (Or.inl ⟨by rfl, ?_⟩) hHeld ?_ ?_
                     rotate_left
                     · rintro w' ⟨s0, s1, s2, s3, s4, s5, s6⟩
                       go_simp; with_reducible rfl
                     rotate_left
                     · simp only [Act.put, zaa, zab, zac, zbw, zbx]
                       rfl
                     refine pure_ (i := 10) (N := some 33) (v := ?_) (a' := ?_) #[true, true, true, true, true, true, true, true, true, true, true, true, true, false, false, false, true, true, false, false, false, false, false, false, false] rfl rfl (zby HT_.out (by kernel_rfl)) (fun _ _ _ h => h) (Or.inl ⟨by rfl, ?_⟩) ?_ ?_
                     rotate_left
                     · intro w'
                       go_simp; with_reducible rfl
                     rotate_left
                     · simp only [Act.put, zaa, zab, zac, zbw, zbx]
                       rfl
                     refine take_ (i := 13) (N := some 36) (v := ?_) (a' := ?_) #[true, true, true, true, true, true, true, true, true, true, true, true, true, true, false, false, true, true, false, false, false, false, false, false, false] rfl rfl (zbz HT_.out HW_.out (by kernel_rfl)) (fun _ _ _ h => h) (Or.inl ⟨by rfl, ?_⟩) hHeld ?_ ?_
                     rotate_left
                     · rintro w' ⟨s0, s1, s2, s3, s4, s5, s6⟩
                       go_simp; with_reducible rfl
                     rotate_left
                     · simp only [Act.put, zaa, zab, zac, zbw, zbx]
                       rfl
                     refine pure_ (i := 14) (N := some 37) (v := ?_) (a' := ?_) tage rfl rfl (zby HT_.out (by kernel_rfl)) (fun _ _ _ h => h) (Or.inl ⟨by rfl, ?_⟩) ?_ ?_
                     rotate_left
                     · intro w'
                       go_simp; with_reducible rfl
                     rotate_left
                     · simp only [Act.put, zaa, zab, zac, zbw, zbx]
                       rfl
                     refine take_ (i := 15) (N := some 38) (v := ?_) (a' := ?_) tagf rfl rfl (zbz HT_.out HW_.out (by kernel_rfl)) (fun _ _ _ h => h) (Or.inl ⟨by rfl, ?_⟩) hHeld ?_ ?_
                     rotate_left
                     · rintro w' ⟨s0, s1, s2, s3, s4, s5, s6⟩
                       go_simp; with_reducible rfl
                     rotate_left
                     · simp only [Act.put, zaa, zab, zac, zbw, zbx]
                       rfl
                     refine take_ (i := 18) (N := some 41) (v := ?_) (a' := ?_) tagg rfl rfl (zbz HT_.out HW_.out (by kernel_rfl)) (fun _ _ _ h => h) (Or.inl ⟨by rfl, ?_⟩) hHeld ?_ ?_
                     rotate_left
                     · rintro w' ⟨s0, s1, s2, s3, s4, s5, s6⟩
                       go_simp; with_reducible rfl
                     rotate_left
                     · simp only [Act.put, zaa, zab, zac, zbw, zbx]
                       rfl
                     refine pure_ (i := 19) (N := some 42) (v := ?_) (a' := ?_) tagh rfl rfl (zby HT_.out (by kernel_rfl)) (fun _ _ _ h => h) (Or.inl ⟨by rfl, ?_⟩) ?_ ?_
                     rotate_left
                     · intro w'
                       go_simp; with_reducible rfl
                     rotate_left
                     · simp only [Act.put, zaa, zab, zac, zbw, zbx]
                       rfl
                     refine take_ (i := 20) (N := some 43) (v := ?_) (a' := ?_) tagi rfl rfl (zbz HT_.out HW_.out (by kernel_rfl)) (fun _ _ _ h => h) (Or.inl ⟨by rfl, ?_⟩) hHeld ?_ ?_
                     rotate_left
                     · rintro w' ⟨s0, s1, s2, s3, s4, s5, s6⟩
                       go_simp; with_reducible rfl
                     rotate_left
                     · simp only [Act.put, zaa, zab, zac, zbw, zbx]
                       rfl
                     refine pure_ (i := 21) (N := some 44) (v := ?_) (a' := ?_) tagj rfl rfl (zby HT_.out (by kernel_rfl)) (fun _ _ _ h => h) (Or.inl ⟨by rfl, ?_⟩) ?_ ?_
                     rotate_left
                     · intro w'
                       go_simp; with_reducible rfl
                     rotate_left
                     · simp only [Act.put, zaa, zab, zac, zbw, zbx]
                       rfl
                     refine one_ (i := 22) (N := some 45) #[true, true, true, true, true, true, true, true, true, true, true, true, true, true, true, true, true, true, true, true, true, true, true, false, false] rfl rfl (one_of HT_.out (by kernel_rfl)) (by decide) (fun K hK => ?_)
                     refine goes_ Try.func120 (by kernel_rfl) rfl #[.int .i64 (wrap64 ((rd x8_1 t1201) - (rd t1194 t1201))), .int .i64 (wrap64 ((rd t1194 t1202) - (rd x8_1 t1202)))] (by rfl) rfl rfl (taad) ?_
                     with_reducible refine (spec_l1Least.calls (wrap64 ((rd x8_1 t1201) - (rd t1194 t1201))) (wrap64 ((rd t1194 t1202) - (rd x8_1 t1202))) t1209 _ A20.out).mono ?_
                     rintro e w' ⟨rfl, ⟨nd, rfl⟩⟩
                     refine ⟨_, rfl, ?_⟩
                     refine hK.out _ _ ⟨(zbi BK1204.out 0).trans rfl, (zbi BK1204.out 1).trans rfl, (zbi BK1204.out 2).trans rfl, hHeld.2.2.2.1, hHeld.2.2.2.2.1, hHeld.2.2.2.2.2.1, hHeld.2.2.2.2.2.2⟩ (fun hHeld => ?_)
                     clear hK K; refine norm_ (a' := ?_) ?_ ?_
                     rotate_left
                     · show Act.put _ (some 45) _ = _
                       simp only [Act.put, zaa, zab, zac, zbw, zbx]
                       rfl
                     refine pure_ (i := 23) (N := some 46) (v := ?_) (a' := ?_) tagl rfl rfl (zby HT_.out (by kernel_rfl)) (fun _ _ _ h => h) (Or.inl ⟨by rfl, ?_⟩) ?_ ?_
                     rotate_left
                     · intro w'
                       go_simp; with_reducible rfl
                     rotate_left
                     · simp only [Act.put, zaa, zab, zac, zbw, zbx]
                       rfl
                     refine last_ (i := 24) (N := none) #[true, true, true, true, true, true, true, true, true, true, true, true, true, true, true, true, true, true, true, true, true, true, true, true, true] rfl rfl (one_of HT_.out (by kernel_rfl)) (by decide) (fun K hK => ?_)
                     have hs31 : w30.cell? ⟨gb1204, 2, none⟩ = some (.int .i64 t1203) := (zbi BK1204.out 2).trans rfl
                     have hfs31 := zbj BK1204.out 2
                     refine skip_ (w1 := ?_) (by rfl) rfl ?_ ?_
                     rotate_left
                     · go_simp
                       rfl
                     refine hK.out _ _ ?_
                     clear hK K; refine done_ (done_of HT_.out (by kernel_rfl)) ?_
                     have hcz32_0 : w30.cell? ⟨gb1204, 0, none⟩ = some (.int .i64 t1201) := (zbi BK1204.out 0).trans rfl
                     have hcz32_1 : w30.cell? ⟨gb1204, 1, none⟩ = some (.int .i64 t1202) := (zbi BK1204.out 1).trans rfl
                     have hcz32_2 : w30.cell? ⟨gb1204, 2, none⟩ = some (.int .i64 t1203) := (zbi BK1204.out 2).trans rfl
                     have hfz32_0 := zbj BK1204.out 0
                     have hfz32_1 := zbj BK1204.out 1
                     have hfz32_2 := zbj BK1204.out 2
                     try go_wp2_with (first | ((with_reducible refine gate_builtin (b := .append) (xs := #[.tmp 47, .tmp 49]) rfl ?_); at_builtin; refine Kd.R_append k39 (w0 := w) w.heap.size rfl (.tmp 47) (.tmp 49) 58 39 (.agg #[(.int .i64 0), (.int .i64 0), (.int .i64 0)]) 24 rfl Try.underlying58 info39 rfl (by decide) (by omega) u9 x9_1 (⟨t1201, t1202, t1209⟩ : S39) [.int .i64 t1201, .int .i64 t1202, .int .i64 t1209] (fun k_ => k_ ≠ gb1204) (fun _ => False) rfl (by first | (go_simp; done) | (go_simp; rfl)) ?aP (fun _ hk => hk.elim) ?aF ?aO ?aB ?aS ?aL ?_; (case aP => exact k39_mkM _ _ _ (⟨t1201, t1202, t1209⟩ : S39)); (case aB => exact (taax)); (case aF => exact (fun k_ hk => Kd.freshB (g := gb1204) (o := .cells #[.int .i64 t1201, .int .i64 t1202, .int .i64 t1209] 39 (0, 0)) (tadv) k_ hk)); (case aO => exact (by (with_reducible repeat (first | apply zai | apply zaj | apply zak)); exact zbq (Kd.R_far (p := ⟨gb1204, 2, none⟩) (zbq HO_9.out (fun k_ hk => (⟨hk, hk⟩ : _ ∧ k_ ≠ gb1204))) (fun _ hk => hk.2) (.int .i64 t1209)) (fun _ hk => hk.1))); (case aS => exact (zbk (taax))); (case aL => have := LMc21.out; omega); intro v1211 w33 ho hb hg hat; rw [← Ny1210.out] at ho; have n0_ := zad (Kd.R_over' (by (with_reducible repeat (first | apply zai | apply zaj | apply zak)); exact (zbq (Kd.R_far (p := ⟨gb1204, 2, none⟩) (Kd.R_types HO_7.out BK1204.out (by decide)) (fun _ hk => hk.2) (.int .i64 t1209)) (fun _ h_ => h_.1))) (Kd.R_typed (tadw)) (by decide) hg); have n1_ := zad (Kd.R_over' (by (with_reducible repeat (first | apply zai | apply zaj | apply zak)); exact (zbq (Kd.R_far (p := ⟨gb1204, 2, none⟩) (Kd.R_types HO_8.out BK1204.out (by decide)) (fun _ hk => hk.2) (.int .i64 t1209)) (fun _ h_ => h_.1))) (Kd.R_typed (tadw)) (by decide) hg); have n2_ := zad (blk_grown (g := gb1204) (o := .cells #[.int .i64 t1201, .int .i64 t1202, .int .i64 t1209] 39 (0, 0)) (tadv) hg (Kd.R_away HO_9.out (fun _ hk => hk))); have n3_ := zad (hb); have n4_ := zad (ho); clear HO_7 HO_8 BK1204 HB HO_9; have HO_7 := n0_; have HO_8 := n1_; have BK1204 := n2_; have HB := n3_; have HO1212 := n4_; clear n0_ n1_ n2_ n3_ n4_ ho hb hg hat; have hcz34_0 : w33.cell? ⟨gb1204, 0, none⟩ = some (.int .i64 t1201) := (zbi BK1204.out 0).trans rfl; have hcz34_1 : w33.cell? ⟨gb1204, 1, none⟩ = some (.int .i64 t1202) := (zbi BK1204.out 1).trans rfl; have hcz34_2 : w33.cell? ⟨gb1204, 2, none⟩ = some (.int .i64 t1209) := (zbi BK1204.out 2).trans rfl; have hfz34_0 := zbj BK1204.out 0; have hfz34_1 := zbj BK1204.out 1; have hfz34_2 := zbj BK1204.out 2) | ((with_reducible refine zbf (f := 101) rfl ?_); refine zbn (some 53) rfl rfl Try.func101 (by kernel_rfl) rfl #[.slice (some ad1205) x8_1.length co25, .agg #[.int .i64 t1201, .int .i64 t1202, .int .i64 t1209]] rfl (taad) ?_; (with_reducible refine (spec_giDo.calls _ _ x8_1 t1201 t1202 t1209 t1213 _ ?side1 ?side2 A22.out).mono ?_); (case side1 => repeat (first | exact (zbd HO_8.out).2.2 | (with_reducible refine zal ?_ _) | (with_reducible refine zam ?_ _) | (with_reducible refine zan ?_))); (case side2 => exact (zbd HO_8.out).2.1); rintro e w35 ⟨v1214, rfl, ho0, hb⟩; refine ⟨_, rfl, ?_⟩; have n0_ := zad (zcb (taai) (zcd ho0) hb); have n1_ := zad (zcb (taan) (zcd ho0) hb); have n2_ := zad (zbt (by (with_reducible repeat (first | apply zai | apply zaj | apply zak)); exact HO1212.out) hb); have n3_ := zad (zbu (zcc (zcc ho0 (zce (taai))) (zce (taan))) (zbk (taax))); have n4_ := zad (blk_below (g := gb1204) (o := .cells #[.int .i64 t1201, .int .i64 t1202, .int .i64 t1209] 39 (0, 0)) (tacw) hb); have n5_ := zad (zbe (taax) hb); clear HO_7 HO_8 HO1212 BK1204 HB; have HO_7 := n0_; have HO_8 := n1_; have HO1212 := n2_; have HO1215 := n3_; have BK1204 := n4_; have HB := n5_; clear n0_ n1_ n2_ n3_ n4_ n5_; (try clear hb); (try clear hb2); (try clear hk); (try clear hi); (try clear ho0); obtain ⟨Ao36, co36, eo36⟩ := zbv HO1215.out; subst eo36) | ((with_reducible refine zbf (f := 108) rfl ?_); refine zbn (some 54) rfl rfl Try.func108 (by kernel_rfl) rfl #[.slice Ao36 t1213.length co36] rfl (taad) ?_; (with_reducible refine (spec_liRank.calls k1 _ _ t1213 t1216 _ ?side1 ?side2 A23.out).mono ?_); (case side1 => repeat (first | exact (zbd HO1215.out).2.2 | (with_reducible refine zal ?_ _) | (with_reducible refine zam ?_ _) | (with_reducible refine zan ?_))); (case side2 => exact (zbd HO1215.out).2.1); rintro e w37 ⟨v1217, rfl, ho0, hb⟩; refine ⟨_, rfl, ?_⟩; have n0_ := zad (zcb (taai) (zcd ho0) hb); have n1_ := zad (zcb (taan) (zcd ho0) hb); have n2_ := zad (zbt (by (with_reducible repeat (first | apply zai | apply zaj | apply zak)); exact HO1212.out) hb); have n3_ := zad (zcb (by (with_reducible repeat (first | apply zai | apply zaj | apply zak)); exact HO1215.out) (zcd ho0) hb); have n4_ := zad (zbu (zcc (zcc (zcc ho0 (zce (taai))) (zce (taan))) (zce (by (with_reducible repeat (first | apply zai | apply zaj | apply zak)); exact HO1215.out))) (zbk (taax))); have n5_ := zad (blk_below (g := gb1204) (o := .cells #[.int .i64 t1201, .int .i64 t1202, .int .i64 t1209] 39 (0, 0)) (tacw) hb); have n6_ := zad (zbe (taax) hb); clear HO_7 HO_8 HO1212 HO1215 BK1204 HB; have HO_7 := n0_; have HO_8 := n1_; have HO1212 := n2_; have HO1215 := n3_; have HO1218 := n4_; have BK1204 := n5_; have HB := n6_; clear n0_ n1_ n2_ n3_ n4_ n5_ n6_; (try clear hb); (try clear hb2); (try clear hk); (try clear hi); (try clear ho0)))
                     go_roundg k1
                     case measure => have := HK1.out; omega
                     case rel => exact ⟨(t1216), (y1210), H', ⟨taau⟩, ⟨by (with_reducible repeat (first | apply zai | apply zaj | apply zak)); exact zbq HO_7.out (fun _ hk => hk.2)⟩, ⟨by (with_reducible repeat (first | apply zai | apply zaj | apply zak)); exact zbq HO1218.out (fun _ hk => hk.1.1.2)⟩, ⟨by (with_reducible repeat (first | apply zai | apply zaj | apply zak)); exact zbq HO1212.out (fun _ hk => trivial)⟩, ⟨taax⟩⟩
                   · rw [if_neg c21] at H
                     exact absurd H (taac)
                 · rw [if_neg c19] at H
                   exact absurd H (taac)
               · rw [if_neg c18] at H
                 exact absurd H (taac)
             · rw [if_neg c17] at H
               exact absurd H (taac)
           · rw [if_neg c16] at H
             exact absurd H (taac)
         · rw [if_neg c15] at H
           exact absurd H (taac)
       · rw [if_neg c14] at H
         exact absurd H (taac)
     · replace c13 := zbg.mpr c13
       subst c13; have H1 : (if x9_1.length < 5864062014805 then ((spec_giDo.f x8_1 t1201 t1202 t1203).bind fun t1222 => ((spec_liRank.f k1 t1222).bind fun t1225 => (spec_giPath.l0 k1 false t1194 t1225 (x9_1 ++ [(⟨t1201, t1202, t1203⟩ : S39)])))) else (none)) = some r := by rw [if_neg (show ¬ (false = true) by decide)] at H; exact H
       clear H; have H := H1; clear H1; by_cases c38 : x9_1.length < 5864062014805
       · rw [if_pos c38] at H
         have LMc38 := zad c38; clear c38; obtain ⟨y1219, hy1219⟩ : ∃ y_ : List (S39), y_ = (x9_1 ++ [(⟨t1201, t1202, t1203⟩ : S39)]) := ⟨_, rfl⟩
         replace H : ((spec_giDo.f x8_1 t1201 t1202 t1203).bind fun t1222 => ((spec_liRank.f k1 t1222).bind fun t1225 => (spec_giPath.l0 k1 false t1194 t1225 y1219))) = some r := by first | (rw [hy1219]; with_reducible exact H) | (have H2_ := (zbb _ _).symm.trans H; rw [hy1219]; with_reducible exact H2_) | (have H2_ := (zbb _ _).symm.trans H; with_reducible exact H2_) | with_reducible exact H | (rw [hy1219]; exact H) | exact H
         have Ny1219 := zad hy1219; clear hy1219; replace H := zay.mp H; obtain ⟨t1222, A390, H⟩ := H
         replace H : ((spec_liRank.f k1 t1222).bind fun t1225 => (spec_giPath.l0 k1 false t1194 t1225 y1219)) = some r := H
         have A39 := zad A390; clear A390; replace H := zay.mp H; obtain ⟨t1225, A400, H⟩ := H
         replace H : (spec_giPath.l0 k1 false t1194 t1225 y1219) = some r := H
         have A40 := zad A400; clear A400; have H' := zad H
         clear H; obtain ⟨Ao41, co41, eo41⟩ := zbv HO_7.out
         subst eo41; obtain ⟨Ao42, co42, eo42⟩ := zbv HO_8.out
         subst eo42; go_wp2_with (first | ((with_reducible refine zbf (f := 118) rfl ?_); refine zbn (some 17) rfl rfl Try.func118 (by kernel_rfl) rfl #[.slice Ao41 t1194.length co41, .slice Ao42 x8_1.length co42] rfl (taad) ?_; (with_reducible refine (spec_l1Same.calls k1 _ _ t1194 _ _ x8_1 false _ ?side1 ?side2 ?side3 ?side4 A8.out).mono ?_); (case side1 => repeat (first | exact (zbd HO_7.out).2.2 | (with_reducible refine zal ?_ _) | (with_reducible refine zam ?_ _) | (with_reducible refine zan ?_))); (case side2 => exact (zbd HO_7.out).2.1); (case side3 => repeat (first | exact (zbd HO_8.out).2.2 | (with_reducible refine zal ?_ _) | (with_reducible refine zam ?_ _) | (with_reducible refine zan ?_))); (case side4 => exact (zbd HO_8.out).2.1); rintro e w' ⟨rfl, ⟨nd, rfl⟩⟩; refine ⟨_, rfl, ?_⟩; (try (rw [drewN_self wr]; generalize hq_ : World.drewN wr _ = wr; have n0_ : Aside0 (Kd.R (Kd.int .i64) 3 wr w.heap.size (fun k_ => some k_ ≠ (.slice Ao42 x8_1.length co42 : Value).ownBlock) (.slice Ao41 t1194.length co41) t1194) := ⟨by rw [← hq_]; exact (taai)⟩; have n1_ : Aside0 (Kd.R (Kd.int .i64) 3 wr w.heap.size (fun k_ => some k_ ≠ (.slice Ao41 t1194.length co41 : Value).ownBlock) (.slice Ao42 x8_1.length co42) x8_1) := ⟨by rw [← hq_]; exact (taan)⟩; have n2_ : Aside0 (Kd.R k39 39 wr w.heap.size (fun _ => True) u9 x9_1) := ⟨by rw [← hq_]; exact (tabf)⟩; have n3_ : Aside0 (Below w.heap.size w wr) := ⟨by rw [← hq_]; exact (taaa)⟩; clear HO_7 HO_8 HO_9 HB hq_; have HO_7 := n0_; have HO_8 := n1_; have HO_9 := n2_; have HB := n3_; clear n0_ n1_ n2_ n3_))) | ((with_reducible refine zbf (f := 153) rfl ?_); refine zbn (some 21) rfl rfl Try.func153 (by kernel_rfl) rfl #[.slice Ao41 t1194.length co41, .slice Ao42 x8_1.length co42] rfl (taad) ?_; (with_reducible refine (spec_giNext.calls k1 _ _ t1194 _ _ x8_1 t1201 t1202 t1203 _ ?side1 ?side2 ?side3 ?side4 A12.out).mono ?_); (case side1 => repeat (first | exact (zbd HO_7.out).2.2 | (with_reducible refine zal ?_ _) | (with_reducible refine zam ?_ _) | (with_reducible refine zan ?_))); (case side2 => exact (zbd HO_7.out).2.1); (case side3 => repeat (first | exact (zbd HO_8.out).2.2 | (with_reducible refine zal ?_ _) | (with_reducible refine zam ?_ _) | (with_reducible refine zan ?_))); (case side4 => exact (zbd HO_8.out).2.1); rintro e w43 ⟨rfl, hb⟩; refine ⟨_, rfl, ?_⟩; have n0_ := zad (zbt (taai) hb); have n1_ := zad (zbt (taan) hb); have n2_ := zad (zbt (tabf) hb); have n3_ := zad (zbe (taaa) hb); clear HO_7 HO_8 HO_9 HB; have HO_7 := n0_; have HO_8 := n1_; have HO_9 := n2_; have HB := n3_; clear n0_ n1_ n2_ n3_; (try clear hb); (try clear hb2); (try clear hk); (try clear hi)) | ((with_reducible refine gate_dst (N := 10) rfl ?_); refine box_event ?hg (N := 10) ?hd (cs := #[.int .i64 0, .int .i64 0, .int .i64 0]) (t := 39) ?hr ?_; (case hd => rfl); (case hg => rfl); (case hr => first | (go_simp; done) | (go_simp; rfl)); intro gb1204 hg w44 hbox hb; have n0_ := zad (zbt (taai) hb); have n1_ := zad (zbt (taan) hb); have n2_ := zad (zbt (Kd.R_elderB (tabf) gb1204 (Nat.le_of_eq hg.symm)) hb); have n3_ := zad (zbe (taaa) hb); have n4_ := zad (hbox); have n5_ := zad ((taee : w.heap.size ≤ gb1204)); have n6_ := zad ((taee : w.heap.size ≤ gb1204)); clear HO_7 HO_8 HO_9 HB; have HO_7 := n0_; have HO_8 := n1_; have HO_9 := n2_; have HB := n3_; have BK1204 := n4_; have GW1204 := n5_; have GE1204 := n6_; clear n0_ n1_ n2_ n3_ n4_ n5_ n6_ hb hbox hg; have hcz45_0 : w44.cell? ⟨gb1204, 0, none⟩ = some (.int .i64 0) := (zbi BK1204.out 0).trans rfl; have hcz45_1 : w44.cell? ⟨gb1204, 1, none⟩ = some (.int .i64 0) := (zbi BK1204.out 1).trans rfl; have hcz45_2 : w44.cell? ⟨gb1204, 2, none⟩ = some (.int .i64 0) := (zbi BK1204.out 2).trans rfl; have hfz45_0 := zbj BK1204.out 0; have hfz45_1 := zbj BK1204.out 1; have hfz45_2 := zbj BK1204.out 2) | ((with_reducible refine gate_builtin (b := .append) (xs := #[.tmp 47, .tmp 49]) rfl ?_); at_builtin; refine Kd.R_append k39 (w0 := w) w.heap.size rfl (.tmp 47) (.tmp 49) 58 39 (.agg #[(.int .i64 0), (.int .i64 0), (.int .i64 0)]) 24 rfl Try.underlying58 info39 rfl (by decide) (by omega) u9 x9_1 (⟨t1201, t1202, t1203⟩ : S39) [.int .i64 t1201, .int .i64 t1202, .int .i64 t1203] (fun k_ => k_ ≠ gb1204) (fun _ => False) rfl (by first | (go_simp; done) | (go_simp; rfl)) ?aP (fun _ hk => hk.elim) ?aF ?aO ?aB ?aS ?aL ?_; (case aP => exact k39_mkM _ _ _ (⟨t1201, t1202, t1203⟩ : S39)); (case aB => exact (taax)); (case aF => exact (fun k_ hk => Kd.freshB (g := gb1204) (o := .cells #[.int .i64 t1201, .int .i64 t1202, .int .i64 t1203] 39 (0, 0)) (tadk) k_ hk)); (case aO => exact (tadu)); (case aS => exact (zbk (taax))); (case aL => have := LMc38.out; omega); intro v1220 w46 ho hb hg hat; rw [← Ny1219.out] at ho; have n0_ := zad (Kd.R_over' (by (with_reducible repeat (first | apply zai | apply zaj | apply zak)); exact (zbq (Kd.R_far (p := ⟨gb1204, 2, none⟩) (Kd.R_far (p := ⟨gb1204, 1, none⟩) (Kd.R_far (p := ⟨gb1204, 0, none⟩) (Kd.R_types HO_7.out BK1204.out (by decide)) (fun _ hk => hk.2) (.int .i64 t1201)) (fun _ hk => hk.2) (.int .i64 t1202)) (fun _ hk => hk.2) (.int .i64 t1203)) (fun _ h_ => h_.1))) (Kd.R_typed (tadx)) (by decide) hg); have n1_ := zad (Kd.R_over' (by (with_reducible repeat (first | apply zai | apply zaj | apply zak)); exact (zbq (Kd.R_far (p := ⟨gb1204, 2, none⟩) (Kd.R_far (p := ⟨gb1204, 1, none⟩) (Kd.R_far (p := ⟨gb1204, 0, none⟩) (Kd.R_types HO_8.out BK1204.out (by decide)) (fun _ hk => hk.2) (.int .i64 t1201)) (fun _ hk => hk.2) (.int .i64 t1202)) (fun _ hk => hk.2) (.int .i64 t1203)) (fun _ h_ => h_.1))) (Kd.R_typed (tadx)) (by decide) hg); have n2_ := zad (blk_grown (g := gb1204) (o := .cells #[.int .i64 t1201, .int .i64 t1202, .int .i64 t1203] 39 (0, 0)) (tadk) hg (Kd.R_away HO_9.out (fun _ hk => hk.2))); have n3_ := zad (hb); have n4_ := zad (ho); clear HO_7 HO_8 BK1204 HB HO_9; have HO_7 := n0_; have HO_8 := n1_; have BK1204 := n2_; have HB := n3_; have HO1221 := n4_; clear n0_ n1_ n2_ n3_ n4_ ho hb hg hat; have hcz47_0 : w46.cell? ⟨gb1204, 0, none⟩ = some (.int .i64 t1201) := (zbi BK1204.out 0).trans rfl; have hcz47_1 : w46.cell? ⟨gb1204, 1, none⟩ = some (.int .i64 t1202) := (zbi BK1204.out 1).trans rfl; have hcz47_2 : w46.cell? ⟨gb1204, 2, none⟩ = some (.int .i64 t1203) := (zbi BK1204.out 2).trans rfl; have hfz47_0 := zbj BK1204.out 0; have hfz47_1 := zbj BK1204.out 1; have hfz47_2 := zbj BK1204.out 2) | ((with_reducible refine zbf (f := 101) rfl ?_); refine zbn (some 53) rfl rfl Try.func101 (by kernel_rfl) rfl #[.slice Ao42 x8_1.length co42, .agg #[.int .i64 t1201, .int .i64 t1202, .int .i64 t1203]] rfl (taad) ?_; (with_reducible refine (spec_giDo.calls _ _ x8_1 t1201 t1202 t1203 t1222 _ ?side1 ?side2 A39.out).mono ?_); (case side1 => repeat (first | exact (zbd HO_8.out).2.2 | (with_reducible refine zal ?_ _) | (with_reducible refine zam ?_ _) | (with_reducible refine zan ?_))); (case side2 => exact (zbd HO_8.out).2.1); rintro e w48 ⟨v1223, rfl, ho0, hb⟩; refine ⟨_, rfl, ?_⟩; have n0_ := zad (zcb (taai) (zcd ho0) hb); have n1_ := zad (zcb (taan) (zcd ho0) hb); have n2_ := zad (zbt (by (with_reducible repeat (first | apply zai | apply zaj | apply zak)); exact HO1221.out) hb); have n3_ := zad (zbu (zcc (zcc ho0 (zce (taai))) (zce (taan))) (zbk (taax))); have n4_ := zad (blk_below (g := gb1204) (o := .cells #[.int .i64 t1201, .int .i64 t1202, .int .i64 t1203] 39 (0, 0)) (tacw) hb); have n5_ := zad (zbe (taax) hb); clear HO_7 HO_8 HO1221 BK1204 HB; have HO_7 := n0_; have HO_8 := n1_; have HO1221 := n2_; have HO1224 := n3_; have BK1204 := n4_; have HB := n5_; clear n0_ n1_ n2_ n3_ n4_ n5_; (try clear hb); (try clear hb2); (try clear hk); (try clear hi); (try clear ho0); obtain ⟨Ao49, co49, eo49⟩ := zbv HO1224.out; subst eo49) | ((with_reducible refine zbf (f := 108) rfl ?_); refine zbn (some 54) rfl rfl Try.func108 (by kernel_rfl) rfl #[.slice Ao49 t1222.length co49] rfl (taad) ?_; (with_reducible refine (spec_liRank.calls k1 _ _ t1222 t1225 _ ?side1 ?side2 A40.out).mono ?_); (case side1 => repeat (first | exact (zbd HO1224.out).2.2 | (with_reducible refine zal ?_ _) | (with_reducible refine zam ?_ _) | (with_reducible refine zan ?_))); (case side2 => exact (zbd HO1224.out).2.1); rintro e w50 ⟨v1226, rfl, ho0, hb⟩; refine ⟨_, rfl, ?_⟩; have n0_ := zad (zcb (taai) (zcd ho0) hb); have n1_ := zad (zcb (taan) (zcd ho0) hb); have n2_ := zad (zbt (by (with_reducible repeat (first | apply zai | apply zaj | apply zak)); exact HO1221.out) hb); have n3_ := zad (zcb (by (with_reducible repeat (first | apply zai | apply zaj | apply zak)); exact HO1224.out) (zcd ho0) hb); have n4_ := zad (zbu (zcc (zcc (zcc ho0 (zce (taai))) (zce (taan))) (zce (by (with_reducible repeat (first | apply zai | apply zaj | apply zak)); exact HO1224.out))) (zbk (taax))); have n5_ := zad (blk_below (g := gb1204) (o := .cells #[.int .i64 t1201, .int .i64 t1202, .int .i64 t1203] 39 (0, 0)) (tacw) hb); have n6_ := zad (zbe (taax) hb); clear HO_7 HO_8 HO1221 HO1224 BK1204 HB; have HO_7 := n0_; have HO_8 := n1_; have HO1221 := n2_; have HO1224 := n3_; have HO1227 := n4_; have BK1204 := n5_; have HB := n6_; clear n0_ n1_ n2_ n3_ n4_ n5_ n6_; (try clear hb); (try clear hb2); (try clear hk); (try clear hi); (try clear ho0)))
         go_roundg k1
         case measure => have := HK1.out; omega
         case rel => exact ⟨(t1225), (y1219), H', ⟨taau⟩, ⟨by (with_reducible repeat (first | apply zai | apply zaj | apply zak)); exact zbq HO_7.out (fun _ hk => hk.2)⟩, ⟨by (with_reducible repeat (first | apply zai | apply zaj | apply zak)); exact zbq HO1227.out (fun _ hk => hk.1.1.2)⟩, ⟨by (with_reducible repeat (first | apply zai | apply zaj | apply zak)); exact zbq HO1221.out (fun _ hk => trivial)⟩, ⟨taax⟩⟩
       · rw [if_neg c38] at H
         exact absurd H (taac)
def spec_l1Most.f (a0 : Int) (a1 : Int) : Option (Int) := if a0 > a1 then (some a0) else (some a1)
theorem spec_l1Most.calls (a0 : Int) (a1 : Int) (r : Int) (w : World) (h : spec_l1Most.f a0 a1 = some r) :
 Calls Try.prog 91 #[.int .i64 a0, .int .i64 a1] w fun e w' => e = .returned (.int .i64 r) ∧ Drawn0 w w' := by
 have H : (if a0 > a1 then (some a0) else (some a1)) = some r := h
 clear h; by_cases c3 : a0 > a1
 · rw [if_pos c3] at H
   have c3b0 : decide (a1 < a0) = true := zba c3
   clear c3; obtain rfl := zbc H
   go_enter Try.func91, Try.ntmps91
   go_wp2
   go_ret
   exact ⟨taag, taak⟩
 · rw [if_neg c3] at H
   have c3b0 : decide (a1 < a0) = false := zbh c3
   clear c3; obtain rfl := zbc H
   go_enter Try.func91, Try.ntmps91
   go_wp2
   go_ret
   exact ⟨taag, taak⟩
end Go.Proofs.Ytnlimjejllakoaa.A
