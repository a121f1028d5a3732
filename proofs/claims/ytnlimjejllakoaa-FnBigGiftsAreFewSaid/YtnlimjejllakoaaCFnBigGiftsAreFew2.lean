/- What the law FnBigGiftsAreFew reaches, part 2: Lean functions with the same answers as the Go functions, the proofs that the Go code comes to these answers, and lemmas about them; no condition beyond those that each theorem names. -/
import Derived.Test.YtnlimjejllakoaaCFnBigGiftsAreFeww1
import Derived.Lib.SliceRun
import Derived.Shelf.SlSortCmp.NoneTotal
import Derived.Shelf.SlGeneric
import Derived.Ground.SlsfProg
import Derived.Test.YtnlimjejllakoaaProg
import Derived.Test.YtnlimjejllakoaaCFnBigGiftsAreFew1
set_option linter.unusedVariables false
set_option linter.unusedSimpArgs false
namespace Go.Proofs.Ytnlimjejllakoaa.A
open Go.RowKit Go.Proofs.YtnlimjejllakoaaW.PrintWords Go.Proofs.YtnlimjejllakoaaW.PrintLast Go.Proofs.YtnlimjejllakoaaW.PrintMore
attribute [local go_sem] max2_int min2_int max_two min_two max_three min_three max_four min_four
mutual
def spec_l1Cur_majorized.l0 : Nat → List Int → List Int → Int → List Int → Int → Int → Option (List Int × List Int × Int × Int)
 | 0, _, _, _, _, _, _ => none
 | k + 1, x6, x7, x8, x1000, x1001, x1002 => if x8 > 0 then (spec_l1Cur_majorized.j1 k x6 x7 x8 (decide ((x7.length : Int) > 1)) x1000 x1001 x1002) else (spec_l1Cur_majorized.j1 k x6 x7 x8 false x1000 x1001 x1002)
def spec_l1Cur_majorized.j1 : Nat → List Int → List Int → Int → Bool → List Int → Int → Int → Option (List Int × List Int × Int × Int)
 | 0, _, _, _, _, _, _, _ => none
 | k + 1, x6, x7, x8, x31, x1000, x1001, x1002 => if x31 = true then ((spec_l1Cur_pick.f x1000 x1001 x1002 (x7.length : Int)).bind fun bt1120 => ((spec_l1Cur_pick.f x1000 bt1120.2.1 bt1120.2.2 (x7.length : Int)).bind fun bt1123 => (if 0 ≤ bt1120.1 then (if bt1120.1 < (x7.length : Int) then (if 0 ≤ bt1123.1 then (if bt1123.1 < (x7.length : Int) then (if (rd x7 bt1120.1) ≥ (wrap64 ((rd x7 bt1123.1) + 2)) then ((some (x7.set (bt1120.1 : Int).toNat (wrap64 ((rd x7 bt1120.1) - 1)) : List Int)).bind fun y1129 => (spec_l1Cur_majorized.l0 k x6 (y1129.set (bt1123.1 : Int).toNat (wrap64 ((rd y1129 bt1123.1) + 1))) (wrap64 (x8 - 1)) x1000 bt1123.2.1 bt1123.2.2)) else (spec_l1Cur_majorized.l0 k x6 x7 (wrap64 (x8 - 1)) x1000 bt1123.2.1 bt1123.2.2)) else (none)) else (none)) else (none)) else (none)))) else (some (x7, x6, x1001, x1002))
end
def spec_l1Cur_majorized.f (k : Nat) (s0_0 : List Int) (s0_1 : Int) (s0_2 : Int) (a1 : Int) : Option (List Int × List Int × Int × Int) := (spec_l1Cur_list.f k s0_0 s0_1 s0_2 a1).bind fun bt1098 => ((spec_l1Cur_one.f s0_0 bt1098.2.1 bt1098.2.2 8).bind fun bt1103 => (if bt1103.1 = true then ((spec_l1Cur_fitting.f k s0_0 bt1103.2.1 bt1103.2.2 a1).bind fun bt1106 => (some (bt1106.1, bt1106.2.1, bt1106.2.2.1, bt1106.2.2.2))) else ((spec_l1Own.f bt1098.1).bind fun t1114 => ((spec_l1Cur_pick.f s0_0 bt1103.2.1 bt1103.2.2 9).bind fun bt1117 => (spec_l1Cur_majorized.l0 k bt1098.1 t1114 bt1117.1 s0_0 bt1117.2.1 bt1117.2.2)))))
set_option maxHeartbeats 8000000 in
set_option maxRecDepth 100000 in
theorem spec_l1Cur_majorized.calls (k : Nat) (g : Nat) (s0_0 : List Int) (s0_1 : Int) (s0_2 : Int) (a1 : Int) (r1 : List Int) (r2 : List Int) (r3 : Int) (r4 : Int) (w0 w : World) (hI : IsS75 w0 w g s0_0 s0_1 s0_2) (hB : Below w0.heap.size w0 w) (h : spec_l1Cur_majorized.f k s0_0 s0_1 s0_2 a1 = some (r1, r2, r3, r4)) :
 Calls Try.prog 127 #[.pointer (some ⟨g, 0, none⟩), .int .i64 a1] w fun e w' => ∃ v0_ v1_ : Value, e = .returned (.tuple #[v0_, v1_]) ∧ Kd.R (Kd.int .i64) 3 w' w.heap.size (fun k_ => some k_ ≠ (v1_ : Value).ownBlock) v0_ r1 ∧ Kd.R (Kd.int .i64) 3 w' w.heap.size (fun k_ => some k_ ≠ (v0_ : Value).ownBlock) v1_ r2 ∧ IsS75 w0 w' g s0_0 r3 r4 ∧ Below w0.heap.size w0 w' ∧ KeepBut w w' g none := by
 have HI0 := zad hI
 have HK := zad (KeepBut.refl w g none)
 have HL := zad hB.size
 clear hI
 have HW0 := zad hB.size
 have HB := zad hB
 clear hB
 have H : ((spec_l1Cur_list.f k s0_0 s0_1 s0_2 a1).bind fun bt1098 => ((spec_l1Cur_one.f s0_0 bt1098.2.1 bt1098.2.2 8).bind fun bt1103 => (if bt1103.1 = true then ((spec_l1Cur_fitting.f k s0_0 bt1103.2.1 bt1103.2.2 a1).bind fun bt1106 => (some (bt1106.1, bt1106.2.1, bt1106.2.2.1, bt1106.2.2.2))) else ((spec_l1Own.f bt1098.1).bind fun t1114 => ((spec_l1Cur_pick.f s0_0 bt1103.2.1 bt1103.2.2 9).bind fun bt1117 => (spec_l1Cur_majorized.l0 k bt1098.1 t1114 bt1117.1 s0_0 bt1117.2.1 bt1117.2.2)))))) = some (r1, r2, r3, r4) := h
 clear h
 replace H := Option.bind_eq_some_iff.mp H
 obtain ⟨⟨t1098, t1101, t1102⟩, A30, H⟩ := H
 replace H : ((spec_l1Cur_one.f s0_0 t1101 t1102 8).bind fun bt1103 => (if bt1103.1 = true then ((spec_l1Cur_fitting.f k s0_0 bt1103.2.1 bt1103.2.2 a1).bind fun bt1106 => (some (bt1106.1, bt1106.2.1, bt1106.2.2.1, bt1106.2.2.2))) else ((spec_l1Own.f t1098).bind fun t1114 => ((spec_l1Cur_pick.f s0_0 bt1103.2.1 bt1103.2.2 9).bind fun bt1117 => (spec_l1Cur_majorized.l0 k t1098 t1114 bt1117.1 s0_0 bt1117.2.1 bt1117.2.2))))) = some (r1, r2, r3, r4) := H
 have A3 := zad A30
 clear A30
 replace H := Option.bind_eq_some_iff.mp H
 obtain ⟨⟨t1103, t1104, t1105⟩, A40, H⟩ := H
 replace H : (if t1103 = true then ((spec_l1Cur_fitting.f k s0_0 t1104 t1105 a1).bind fun bt1106 => (some (bt1106.1, bt1106.2.1, bt1106.2.2.1, bt1106.2.2.2))) else ((spec_l1Own.f t1098).bind fun t1114 => ((spec_l1Cur_pick.f s0_0 t1104 t1105 9).bind fun bt1117 => (spec_l1Cur_majorized.l0 k t1098 t1114 bt1117.1 s0_0 bt1117.2.1 bt1117.2.2)))) = some (r1, r2, r3, r4) := H
 have A4 := zad A40
 clear A40
 by_cases c5 : t1103 = true
 · subst c5
   have H1 : ((spec_l1Cur_fitting.f k s0_0 t1104 t1105 a1).bind fun bt1106 => (some (bt1106.1, bt1106.2.1, bt1106.2.2.1, bt1106.2.2.2))) = some (r1, r2, r3, r4) := by rw [if_pos rfl] at H; exact H
   clear H
   have H := H1
   clear H1
   replace H := Option.bind_eq_some_iff.mp H
   obtain ⟨⟨t1106, t1109, t1112, t1113⟩, A60, H⟩ := H
   replace H : (some (t1106, t1109, t1112, t1113)) = some (r1, r2, r3, r4) := H
   have A6 := zad A60
   clear A60
   simp only [Option.some.injEq, Prod.mk.injEq] at H
   obtain ⟨rfl, rfl, rfl, rfl⟩ := H
   go_enter Try.func127, Try.ntmps127
   go_wp2_with (first | (go_at_call 109; (with_reducible refine (spec_l1Cur_list.calls k g s0_0 s0_1 s0_2 a1 t1098 t1101 t1102 w0 _ ?side1 ?side2 A3.out).mono ?_); (case side1 => repeat (first | (with_reducible first | exact HI0.out | apply zbb | apply zbc | apply zbd | apply zbg | apply zbh) | exact HI0.out)); (case side2 => repeat (first | (with_reducible first | exact HB.out | apply zag | apply zae | apply zaf | refine zah ?_ (zbf HI0.out)) | exact HB.out)); rintro e w7 ⟨v1099, rfl, ho0, hi, hb, hk⟩; have n0_ := zad (Kd.R_lower ho0 (keep_size (w := w) (g := g) (row := none) (by repeat (first | (with_reducible first | exact HK.out | apply zao | apply zap | apply zaq | apply zar) | exact HK.out)))); have n1_ := zad (KeepBut.trans (by repeat (first | (with_reducible first | exact HK.out | apply zao | apply zap | apply zaq | apply zar) | exact HK.out)) hk (.inl rfl)); have n2_ := zad (hb); have n3_ := zad (hi); clear HK; clear HB; clear HI0; have HO1100 := n0_; have HK := n1_; have HB := n2_; have HI0 := n3_; clear n0_ n1_ n2_ n3_; (try clear hb); (try clear hb2); (try clear hk); (try clear hi); (try clear ho0)) | (go_at_call 89; (with_reducible refine (spec_l1Cur_one.calls g s0_0 t1101 t1102 8 true t1104 t1105 w0 _ ?side1 ?side2 A4.out).mono ?_); (case side1 => repeat (first | (with_reducible first | exact HI0.out | apply zbb | apply zbc | apply zbd | apply zbg | apply zbh) | exact HI0.out)); (case side2 => repeat (first | (with_reducible first | exact HB.out | apply zag | apply zae | apply zaf | refine zah ?_ (zbf HI0.out)) | exact HB.out)); rintro e w8 ⟨rfl, hi, hb, hk⟩; have n0_ := zad (Kd.R_mono (Kd.R_keep (zbe (show IsS75 w0 _ g s0_0 t1101 t1102 from by repeat (first | (with_reducible first | exact HI0.out | apply zbb | apply zbc | apply zbd | apply zbg | apply zbh) | exact HI0.out)) (by (with_reducible repeat (first | apply zai | apply zaj | apply zak)); exact HO1100.out) (by decide)) hk (fun _ h => h.2)) (fun _ h => h.1)); have n1_ := zad (KeepBut.trans (by repeat (first | (with_reducible first | exact HK.out | apply zao | apply zap | apply zaq | apply zar) | exact HK.out)) hk (.inl rfl)); have n2_ := zad (hb); have n3_ := zad (hi); clear HO1100; clear HK; clear HB; clear HI0; have HO1100 := n0_; have HK := n1_; have HB := n2_; have HI0 := n3_; clear n0_ n1_ n2_ n3_; (try clear hb); (try clear hb2); (try clear hk); (try clear hi)) | (go_at_call 87; (with_reducible refine (spec_l1Cur_fitting.calls k g s0_0 t1104 t1105 a1 t1106 t1109 t1112 t1113 w0 _ ?side1 ?side2 A6.out).mono ?_); (case side1 => repeat (first | (with_reducible first | exact HI0.out | apply zbb | apply zbc | apply zbd | apply zbg | apply zbh) | exact HI0.out)); (case side2 => repeat (first | (with_reducible first | exact HB.out | apply zag | apply zae | apply zaf | refine zah ?_ (zbf HI0.out)) | exact HB.out)); rintro e w9 ⟨v1107, v1110, rfl, ho0, ho1, hi, hb, hk⟩; have n0_ := zad (Kd.R_mono (Kd.R_told (Kd.R_told (Kd.R_oldK (zbe (show IsS75 w0 _ g s0_0 t1104 t1105 from by repeat (first | (with_reducible first | exact HI0.out | apply zbb | apply zbc | apply zbd | apply zbg | apply zbh) | exact HI0.out)) (by (with_reducible repeat (first | apply zai | apply zaj | apply zak)); exact HO1100.out) (by decide)) hk) (Kd.R_base ho0)) (Kd.R_base ho1)) (fun _ h_ => h_.1)); have n1_ := zad (Kd.R_lower (Kd.R_new' ho0 (Kd.R_lt (by (with_reducible repeat (first | apply zai | apply zaj | apply zak)); exact HO1100.out))) (keep_size (w := w) (g := g) (row := none) (by repeat (first | (with_reducible first | exact HK.out | apply zao | apply zap | apply zaq | apply zar) | exact HK.out)))); have n2_ := zad (Kd.R_lower (Kd.R_new' ho1 (Kd.R_lt (by (with_reducible repeat (first | apply zai | apply zaj | apply zak)); exact HO1100.out))) (keep_size (w := w) (g := g) (row := none) (by repeat (first | (with_reducible first | exact HK.out | apply zao | apply zap | apply zaq | apply zar) | exact HK.out)))); have n3_ := zad (KeepBut.trans (by repeat (first | (with_reducible first | exact HK.out | apply zao | apply zap | apply zaq | apply zar) | exact HK.out)) hk (.inl rfl)); have n4_ := zad (hb); have n5_ := zad (hi); clear HO1100; clear HK; clear HB; clear HI0; have HO1100 := n0_; have HO1108 := n1_; have HO1111 := n2_; have HK := n3_; have HB := n4_; have HI0 := n5_; clear n0_ n1_ n2_ n3_ n4_ n5_; (try clear hb); (try clear hb2); (try clear hk); (try clear hi); (try clear ho0); (try clear ho1)))
   repeat (go_quiet (first | (go_at_call 109; (with_reducible refine (spec_l1Cur_list.calls k g s0_0 s0_1 s0_2 a1 t1098 t1101 t1102 w0 _ ?side1 ?side2 A3.out).mono ?_); (case side1 => repeat (first | (with_reducible first | exact HI0.out | apply zbb | apply zbc | apply zbd | apply zbg | apply zbh) | exact HI0.out)); (case side2 => repeat (first | (with_reducible first | exact HB.out | apply zag | apply zae | apply zaf | refine zah ?_ (zbf HI0.out)) | exact HB.out)); rintro e w7 ⟨v1099, rfl, ho0, hi, hb, hk⟩; have n0_ := zad (Kd.R_lower ho0 (keep_size (w := w) (g := g) (row := none) (by repeat (first | (with_reducible first | exact HK.out | apply zao | apply zap | apply zaq | apply zar) | exact HK.out)))); have n1_ := zad (KeepBut.trans (by repeat (first | (with_reducible first | exact HK.out | apply zao | apply zap | apply zaq | apply zar) | exact HK.out)) hk (.inl rfl)); have n2_ := zad (hb); have n3_ := zad (hi); clear HK; clear HB; clear HI0; have HO1100 := n0_; have HK := n1_; have HB := n2_; have HI0 := n3_; clear n0_ n1_ n2_ n3_; (try clear hb); (try clear hb2); (try clear hk); (try clear hi); (try clear ho0)) | (go_at_call 89; (with_reducible refine (spec_l1Cur_one.calls g s0_0 t1101 t1102 8 true t1104 t1105 w0 _ ?side1 ?side2 A4.out).mono ?_); (case side1 => repeat (first | (with_reducible first | exact HI0.out | apply zbb | apply zbc | apply zbd | apply zbg | apply zbh) | exact HI0.out)); (case side2 => repeat (first | (with_reducible first | exact HB.out | apply zag | apply zae | apply zaf | refine zah ?_ (zbf HI0.out)) | exact HB.out)); rintro e w8 ⟨rfl, hi, hb, hk⟩; have n0_ := zad (Kd.R_mono (Kd.R_keep (zbe (show IsS75 w0 _ g s0_0 t1101 t1102 from by repeat (first | (with_reducible first | exact HI0.out | apply zbb | apply zbc | apply zbd | apply zbg | apply zbh) | exact HI0.out)) (by (with_reducible repeat (first | apply zai | apply zaj | apply zak)); exact HO1100.out) (by decide)) hk (fun _ h => h.2)) (fun _ h => h.1)); have n1_ := zad (KeepBut.trans (by repeat (first | (with_reducible first | exact HK.out | apply zao | apply zap | apply zaq | apply zar) | exact HK.out)) hk (.inl rfl)); have n2_ := zad (hb); have n3_ := zad (hi); clear HO1100; clear HK; clear HB; clear HI0; have HO1100 := n0_; have HK := n1_; have HB := n2_; have HI0 := n3_; clear n0_ n1_ n2_ n3_; (try clear hb); (try clear hb2); (try clear hk); (try clear hi)) | (go_at_call 87; (with_reducible refine (spec_l1Cur_fitting.calls k g s0_0 t1104 t1105 a1 t1106 t1109 t1112 t1113 w0 _ ?side1 ?side2 A6.out).mono ?_); (case side1 => repeat (first | (with_reducible first | exact HI0.out | apply zbb | apply zbc | apply zbd | apply zbg | apply zbh) | exact HI0.out)); (case side2 => repeat (first | (with_reducible first | exact HB.out | apply zag | apply zae | apply zaf | refine zah ?_ (zbf HI0.out)) | exact HB.out)); rintro e w9 ⟨v1107, v1110, rfl, ho0, ho1, hi, hb, hk⟩; have n0_ := zad (Kd.R_mono (Kd.R_told (Kd.R_told (Kd.R_oldK (zbe (show IsS75 w0 _ g s0_0 t1104 t1105 from by repeat (first | (with_reducible first | exact HI0.out | apply zbb | apply zbc | apply zbd | apply zbg | apply zbh) | exact HI0.out)) (by (with_reducible repeat (first | apply zai | apply zaj | apply zak)); exact HO1100.out) (by decide)) hk) (Kd.R_base ho0)) (Kd.R_base ho1)) (fun _ h_ => h_.1)); have n1_ := zad (Kd.R_lower (Kd.R_new' ho0 (Kd.R_lt (by (with_reducible repeat (first | apply zai | apply zaj | apply zak)); exact HO1100.out))) (keep_size (w := w) (g := g) (row := none) (by repeat (first | (with_reducible first | exact HK.out | apply zao | apply zap | apply zaq | apply zar) | exact HK.out)))); have n2_ := zad (Kd.R_lower (Kd.R_new' ho1 (Kd.R_lt (by (with_reducible repeat (first | apply zai | apply zaj | apply zak)); exact HO1100.out))) (keep_size (w := w) (g := g) (row := none) (by repeat (first | (with_reducible first | exact HK.out | apply zao | apply zap | apply zaq | apply zar) | exact HK.out)))); have n3_ := zad (KeepBut.trans (by repeat (first | (with_reducible first | exact HK.out | apply zao | apply zap | apply zaq | apply zar) | exact HK.out)) hk (.inl rfl)); have n4_ := zad (hb); have n5_ := zad (hi); clear HO1100; clear HK; clear HB; clear HI0; have HO1100 := n0_; have HO1108 := n1_; have HO1111 := n2_; have HK := n3_; have HB := n4_; have HI0 := n5_; clear n0_ n1_ n2_ n3_ n4_ n5_; (try clear hb); (try clear hb2); (try clear hk); (try clear hi); (try clear ho0); (try clear ho1))); try go_wp2_with (first | (go_at_call 109; (with_reducible refine (spec_l1Cur_list.calls k g s0_0 s0_1 s0_2 a1 t1098 t1101 t1102 w0 _ ?side1 ?side2 A3.out).mono ?_); (case side1 => repeat (first | (with_reducible first | exact HI0.out | apply zbb | apply zbc | apply zbd | apply zbg | apply zbh) | exact HI0.out)); (case side2 => repeat (first | (with_reducible first | exact HB.out | apply zag | apply zae | apply zaf | refine zah ?_ (zbf HI0.out)) | exact HB.out)); rintro e w7 ⟨v1099, rfl, ho0, hi, hb, hk⟩; have n0_ := zad (Kd.R_lower ho0 (keep_size (w := w) (g := g) (row := none) (by repeat (first | (with_reducible first | exact HK.out | apply zao | apply zap | apply zaq | apply zar) | exact HK.out)))); have n1_ := zad (KeepBut.trans (by repeat (first | (with_reducible first | exact HK.out | apply zao | apply zap | apply zaq | apply zar) | exact HK.out)) hk (.inl rfl)); have n2_ := zad (hb); have n3_ := zad (hi); clear HK; clear HB; clear HI0; have HO1100 := n0_; have HK := n1_; have HB := n2_; have HI0 := n3_; clear n0_ n1_ n2_ n3_; (try clear hb); (try clear hb2); (try clear hk); (try clear hi); (try clear ho0)) | (go_at_call 89; (with_reducible refine (spec_l1Cur_one.calls g s0_0 t1101 t1102 8 true t1104 t1105 w0 _ ?side1 ?side2 A4.out).mono ?_); (case side1 => repeat (first | (with_reducible first | exact HI0.out | apply zbb | apply zbc | apply zbd | apply zbg | apply zbh) | exact HI0.out)); (case side2 => repeat (first | (with_reducible first | exact HB.out | apply zag | apply zae | apply zaf | refine zah ?_ (zbf HI0.out)) | exact HB.out)); rintro e w8 ⟨rfl, hi, hb, hk⟩; have n0_ := zad (Kd.R_mono (Kd.R_keep (zbe (show IsS75 w0 _ g s0_0 t1101 t1102 from by repeat (first | (with_reducible first | exact HI0.out | apply zbb | apply zbc | apply zbd | apply zbg | apply zbh) | exact HI0.out)) (by (with_reducible repeat (first | apply zai | apply zaj | apply zak)); exact HO1100.out) (by decide)) hk (fun _ h => h.2)) (fun _ h => h.1)); have n1_ := zad (KeepBut.trans (by repeat (first | (with_reducible first | exact HK.out | apply zao | apply zap | apply zaq | apply zar) | exact HK.out)) hk (.inl rfl)); have n2_ := zad (hb); have n3_ := zad (hi); clear HO1100; clear HK; clear HB; clear HI0; have HO1100 := n0_; have HK := n1_; have HB := n2_; have HI0 := n3_; clear n0_ n1_ n2_ n3_; (try clear hb); (try clear hb2); (try clear hk); (try clear hi)) | (go_at_call 87; (with_reducible refine (spec_l1Cur_fitting.calls k g s0_0 t1104 t1105 a1 t1106 t1109 t1112 t1113 w0 _ ?side1 ?side2 A6.out).mono ?_); (case side1 => repeat (first | (with_reducible first | exact HI0.out | apply zbb | apply zbc | apply zbd | apply zbg | apply zbh) | exact HI0.out)); (case side2 => repeat (first | (with_reducible first | exact HB.out | apply zag | apply zae | apply zaf | refine zah ?_ (zbf HI0.out)) | exact HB.out)); rintro e w9 ⟨v1107, v1110, rfl, ho0, ho1, hi, hb, hk⟩; have n0_ := zad (Kd.R_mono (Kd.R_told (Kd.R_told (Kd.R_oldK (zbe (show IsS75 w0 _ g s0_0 t1104 t1105 from by repeat (first | (with_reducible first | exact HI0.out | apply zbb | apply zbc | apply zbd | apply zbg | apply zbh) | exact HI0.out)) (by (with_reducible repeat (first | apply zai | apply zaj | apply zak)); exact HO1100.out) (by decide)) hk) (Kd.R_base ho0)) (Kd.R_base ho1)) (fun _ h_ => h_.1)); have n1_ := zad (Kd.R_lower (Kd.R_new' ho0 (Kd.R_lt (by (with_reducible repeat (first | apply zai | apply zaj | apply zak)); exact HO1100.out))) (keep_size (w := w) (g := g) (row := none) (by repeat (first | (with_reducible first | exact HK.out | apply zao | apply zap | apply zaq | apply zar) | exact HK.out)))); have n2_ := zad (Kd.R_lower (Kd.R_new' ho1 (Kd.R_lt (by (with_reducible repeat (first | apply zai | apply zaj | apply zak)); exact HO1100.out))) (keep_size (w := w) (g := g) (row := none) (by repeat (first | (with_reducible first | exact HK.out | apply zao | apply zap | apply zaq | apply zar) | exact HK.out)))); have n3_ := zad (KeepBut.trans (by repeat (first | (with_reducible first | exact HK.out | apply zao | apply zap | apply zaq | apply zar) | exact HK.out)) hk (.inl rfl)); have n4_ := zad (hb); have n5_ := zad (hi); clear HO1100; clear HK; clear HB; clear HI0; have HO1100 := n0_; have HO1108 := n1_; have HO1111 := n2_; have HK := n3_; have HB := n4_; have HI0 := n5_; clear n0_ n1_ n2_ n3_ n4_ n5_; (try clear hb); (try clear hb2); (try clear hk); (try clear hi); (try clear ho0); (try clear ho1))))
   go_ret2
   exact ⟨_, _, by first | rfl | (simp [errW_none, errW_some] <;> rfl) | (simp [*, errW_none, errW_some] <;> rfl), by (with_reducible repeat (first | apply zai | apply zaj | apply zak)); exact Kd.R_mono HO1108.out (fun _ hk => hk.1), by (with_reducible repeat (first | apply zai | apply zaj | apply zak)); exact Kd.R_mono HO1111.out (fun _ hk => hk.1), by repeat (first | (with_reducible first | exact HI0.out | apply zbb | apply zbc | apply zbd | apply zbg | apply zbh) | exact HI0.out), by repeat (first | (with_reducible first | exact HB.out | apply zag | apply zae | apply zaf | refine zah ?_ (zbf HI0.out)) | exact HB.out), by repeat (first | (with_reducible first | exact HK.out | apply zao | apply zap | apply zaq | apply zar) | exact HK.out)⟩
 · replace c5 := Bool.eq_false_iff.mpr c5
   subst c5
   have H1 : ((spec_l1Own.f t1098).bind fun t1114 => ((spec_l1Cur_pick.f s0_0 t1104 t1105 9).bind fun bt1117 => (spec_l1Cur_majorized.l0 k t1098 t1114 bt1117.1 s0_0 bt1117.2.1 bt1117.2.2))) = some (r1, r2, r3, r4) := by rw [if_neg (show ¬ (false = true) by decide)] at H; exact H
   clear H
   have H := H1
   clear H1
   replace H := Option.bind_eq_some_iff.mp H
   obtain ⟨t1114, A100, H⟩ := H
   replace H : ((spec_l1Cur_pick.f s0_0 t1104 t1105 9).bind fun bt1117 => (spec_l1Cur_majorized.l0 k t1098 t1114 bt1117.1 s0_0 bt1117.2.1 bt1117.2.2)) = some (r1, r2, r3, r4) := H
   have A10 := zad A100
   clear A100
   replace H := Option.bind_eq_some_iff.mp H
   obtain ⟨⟨t1117, t1118, t1119⟩, A110, H⟩ := H
   replace H : (spec_l1Cur_majorized.l0 k t1098 t1114 t1117 s0_0 t1118 t1119) = some (r1, r2, r3, r4) := H
   have A11 := zad A110
   clear A110
   have H' := zad H
   clear H
   go_enter Try.func127, Try.ntmps127
   go_wp2_with (first | (go_at_call 109; (with_reducible refine (spec_l1Cur_list.calls k g s0_0 s0_1 s0_2 a1 t1098 t1101 t1102 w0 _ ?side1 ?side2 A3.out).mono ?_); (case side1 => repeat (first | (with_reducible first | exact HI0.out | apply zbb | apply zbc | apply zbd | apply zbg | apply zbh) | exact HI0.out)); (case side2 => repeat (first | (with_reducible first | exact HB.out | apply zag | apply zae | apply zaf | refine zah ?_ (zbf HI0.out)) | exact HB.out)); rintro e w12 ⟨v1099, rfl, ho0, hi, hb, hk⟩; have n0_ := zad (Kd.R_lower ho0 (keep_size (w := w) (g := g) (row := none) (by repeat (first | (with_reducible first | exact HK.out | apply zao | apply zap | apply zaq | apply zar) | exact HK.out)))); have n1_ := zad (KeepBut.trans (by repeat (first | (with_reducible first | exact HK.out | apply zao | apply zap | apply zaq | apply zar) | exact HK.out)) hk (.inl rfl)); have n2_ := zad (hb); have n3_ := zad (hi); clear HK; clear HB; clear HI0; have HO1100 := n0_; have HK := n1_; have HB := n2_; have HI0 := n3_; clear n0_ n1_ n2_ n3_; (try clear hb); (try clear hb2); (try clear hk); (try clear hi); (try clear ho0)) | (go_at_call 89; (with_reducible refine (spec_l1Cur_one.calls g s0_0 t1101 t1102 8 false t1104 t1105 w0 _ ?side1 ?side2 A4.out).mono ?_); (case side1 => repeat (first | (with_reducible first | exact HI0.out | apply zbb | apply zbc | apply zbd | apply zbg | apply zbh) | exact HI0.out)); (case side2 => repeat (first | (with_reducible first | exact HB.out | apply zag | apply zae | apply zaf | refine zah ?_ (zbf HI0.out)) | exact HB.out)); rintro e w13 ⟨rfl, hi, hb, hk⟩; have n0_ := zad (Kd.R_mono (Kd.R_keep (zbe (show IsS75 w0 _ g s0_0 t1101 t1102 from by repeat (first | (with_reducible first | exact HI0.out | apply zbb | apply zbc | apply zbd | apply zbg | apply zbh) | exact HI0.out)) (by (with_reducible repeat (first | apply zai | apply zaj | apply zak)); exact HO1100.out) (by decide)) hk (fun _ h => h.2)) (fun _ h => h.1)); have n1_ := zad (KeepBut.trans (by repeat (first | (with_reducible first | exact HK.out | apply zao | apply zap | apply zaq | apply zar) | exact HK.out)) hk (.inl rfl)); have n2_ := zad (hb); have n3_ := zad (hi); clear HO1100; clear HK; clear HB; clear HI0; have HO1100 := n0_; have HK := n1_; have HB := n2_; have HI0 := n3_; clear n0_ n1_ n2_ n3_; (try clear hb); (try clear hb2); (try clear hk); (try clear hi); obtain ⟨Ao14, co14, eo14⟩ := Kd.R_slice HO1100.out; subst eo14) | (go_at_call 111; (with_reducible refine (spec_l1Own.calls _ _ t1098 t1114 _ ?side1 ?side2 A10.out).mono ?_); (case side1 => repeat (first | exact (Kd.R_reads' HO1100.out).2.2 | (with_reducible refine zal ?_ _) | (with_reducible refine zam ?_ _) | (with_reducible refine zan ?_))); (case side2 => exact (Kd.R_reads' HO1100.out).2.1); rintro e w15 ⟨v1115, rfl, ho0, hb⟩; have n0_ := zad (Kd.R_elder' (by (with_reducible repeat (first | apply zai | apply zaj | apply zak)); exact HO1100.out) (Kd.R_base ho0) hb); have n1_ := zad (Kd.R_lower (Kd.R_new' ho0 (Kd.R_lt (by (with_reducible repeat (first | apply zai | apply zaj | apply zak)); exact HO1100.out))) (keep_size (w := w) (g := g) (row := none) (by repeat (first | (with_reducible first | exact HK.out | apply zao | apply zap | apply zaq | apply zar) | exact HK.out)))); have n2_ := zad (IsS75.below (by repeat (first | (with_reducible first | exact HI0.out | apply zbb | apply zbc | apply zbd | apply zbg | apply zbh) | exact HI0.out)) hb); have n3_ := zad (KeepBut.trans (by repeat (first | (with_reducible first | exact HK.out | apply zao | apply zap | apply zaq | apply zar) | exact HK.out)) (KeepBut.of_below hb g none) (.inl rfl)); have n4_ := zad (below_step (by repeat (first | (with_reducible first | exact HB.out | apply zag | apply zae | apply zaf | refine zah ?_ (zbf HI0.out)) | exact HB.out)) hb); clear HO1100; clear HI0; clear HK; clear HB; have HO1100 := n0_; have HO1116 := n1_; have HI0 := n2_; have HK := n3_; have HB := n4_; clear n0_ n1_ n2_ n3_ n4_; (try clear hb); (try clear hb2); (try clear hk); (try clear hi); (try clear ho0)) | (go_at_call 80; (with_reducible refine (spec_l1Cur_pick.calls g s0_0 t1104 t1105 9 t1117 t1118 t1119 w0 _ ?side1 ?side2 A11.out).mono ?_); (case side1 => repeat (first | (with_reducible first | exact HI0.out | apply zbb | apply zbc | apply zbd | apply zbg | apply zbh) | exact HI0.out)); (case side2 => repeat (first | (with_reducible first | exact HB.out | apply zag | apply zae | apply zaf | refine zah ?_ (zbf HI0.out)) | exact HB.out)); rintro e w16 ⟨rfl, hi, hb, hk⟩; have n0_ := zad (Kd.R_mono (Kd.R_keep (zbe (show IsS75 w0 _ g s0_0 t1104 t1105 from by repeat (first | (with_reducible first | exact HI0.out | apply zbb | apply zbc | apply zbd | apply zbg | apply zbh) | exact HI0.out)) (by (with_reducible repeat (first | apply zai | apply zaj | apply zak)); exact HO1100.out) (by decide)) hk (fun _ h => h.2)) (fun _ h => h.1)); have n1_ := zad (Kd.R_mono (Kd.R_keep (zbe (show IsS75 w0 _ g s0_0 t1104 t1105 from by repeat (first | (with_reducible first | exact HI0.out | apply zbb | apply zbc | apply zbd | apply zbg | apply zbh) | exact HI0.out)) (by (with_reducible repeat (first | apply zai | apply zaj | apply zak)); exact HO1116.out) (by decide)) hk (fun _ h => h.2)) (fun _ h => h.1)); have n2_ := zad (KeepBut.trans (by repeat (first | (with_reducible first | exact HK.out | apply zao | apply zap | apply zaq | apply zar) | exact HK.out)) hk (.inl rfl)); have n3_ := zad (hb); have n4_ := zad (hi); clear HO1100; clear HO1116; clear HK; clear HB; clear HI0; have HO1100 := n0_; have HO1116 := n1_; have HK := n2_; have HB := n3_; have HI0 := n4_; clear n0_ n1_ n2_ n3_ n4_; (try clear hb); (try clear hb2); (try clear hk); (try clear hi)))
   repeat (go_quiet (first | (go_at_call 109; (with_reducible refine (spec_l1Cur_list.calls k g s0_0 s0_1 s0_2 a1 t1098 t1101 t1102 w0 _ ?side1 ?side2 A3.out).mono ?_); (case side1 => repeat (first | (with_reducible first | exact HI0.out | apply zbb | apply zbc | apply zbd | apply zbg | apply zbh) | exact HI0.out)); (case side2 => repeat (first | (with_reducible first | exact HB.out | apply zag | apply zae | apply zaf | refine zah ?_ (zbf HI0.out)) | exact HB.out)); rintro e w12 ⟨v1099, rfl, ho0, hi, hb, hk⟩; have n0_ := zad (Kd.R_lower ho0 (keep_size (w := w) (g := g) (row := none) (by repeat (first | (with_reducible first | exact HK.out | apply zao | apply zap | apply zaq | apply zar) | exact HK.out)))); have n1_ := zad (KeepBut.trans (by repeat (first | (with_reducible first | exact HK.out | apply zao | apply zap | apply zaq | apply zar) | exact HK.out)) hk (.inl rfl)); have n2_ := zad (hb); have n3_ := zad (hi); clear HK; clear HB; clear HI0; have HO1100 := n0_; have HK := n1_; have HB := n2_; have HI0 := n3_; clear n0_ n1_ n2_ n3_; (try clear hb); (try clear hb2); (try clear hk); (try clear hi); (try clear ho0)) | (go_at_call 89; (with_reducible refine (spec_l1Cur_one.calls g s0_0 t1101 t1102 8 false t1104 t1105 w0 _ ?side1 ?side2 A4.out).mono ?_); (case side1 => repeat (first | (with_reducible first | exact HI0.out | apply zbb | apply zbc | apply zbd | apply zbg | apply zbh) | exact HI0.out)); (case side2 => repeat (first | (with_reducible first | exact HB.out | apply zag | apply zae | apply zaf | refine zah ?_ (zbf HI0.out)) | exact HB.out)); rintro e w13 ⟨rfl, hi, hb, hk⟩; have n0_ := zad (Kd.R_mono (Kd.R_keep (zbe (show IsS75 w0 _ g s0_0 t1101 t1102 from by repeat (first | (with_reducible first | exact HI0.out | apply zbb | apply zbc | apply zbd | apply zbg | apply zbh) | exact HI0.out)) (by (with_reducible repeat (first | apply zai | apply zaj | apply zak)); exact HO1100.out) (by decide)) hk (fun _ h => h.2)) (fun _ h => h.1)); have n1_ := zad (KeepBut.trans (by repeat (first | (with_reducible first | exact HK.out | apply zao | apply zap | apply zaq | apply zar) | exact HK.out)) hk (.inl rfl)); have n2_ := zad (hb); have n3_ := zad (hi); clear HO1100; clear HK; clear HB; clear HI0; have HO1100 := n0_; have HK := n1_; have HB := n2_; have HI0 := n3_; clear n0_ n1_ n2_ n3_; (try clear hb); (try clear hb2); (try clear hk); (try clear hi); obtain ⟨Ao14, co14, eo14⟩ := Kd.R_slice HO1100.out; subst eo14) | (go_at_call 111; (with_reducible refine (spec_l1Own.calls _ _ t1098 t1114 _ ?side1 ?side2 A10.out).mono ?_); (case side1 => repeat (first | exact (Kd.R_reads' HO1100.out).2.2 | (with_reducible refine zal ?_ _) | (with_reducible refine zam ?_ _) | (with_reducible refine zan ?_))); (case side2 => exact (Kd.R_reads' HO1100.out).2.1); rintro e w15 ⟨v1115, rfl, ho0, hb⟩; have n0_ := zad (Kd.R_elder' (by (with_reducible repeat (first | apply zai | apply zaj | apply zak)); exact HO1100.out) (Kd.R_base ho0) hb); have n1_ := zad (Kd.R_lower (Kd.R_new' ho0 (Kd.R_lt (by (with_reducible repeat (first | apply zai | apply zaj | apply zak)); exact HO1100.out))) (keep_size (w := w) (g := g) (row := none) (by repeat (first | (with_reducible first | exact HK.out | apply zao | apply zap | apply zaq | apply zar) | exact HK.out)))); have n2_ := zad (IsS75.below (by repeat (first | (with_reducible first | exact HI0.out | apply zbb | apply zbc | apply zbd | apply zbg | apply zbh) | exact HI0.out)) hb); have n3_ := zad (KeepBut.trans (by repeat (first | (with_reducible first | exact HK.out | apply zao | apply zap | apply zaq | apply zar) | exact HK.out)) (KeepBut.of_below hb g none) (.inl rfl)); have n4_ := zad (below_step (by repeat (first | (with_reducible first | exact HB.out | apply zag | apply zae | apply zaf | refine zah ?_ (zbf HI0.out)) | exact HB.out)) hb); clear HO1100; clear HI0; clear HK; clear HB; have HO1100 := n0_; have HO1116 := n1_; have HI0 := n2_; have HK := n3_; have HB := n4_; clear n0_ n1_ n2_ n3_ n4_; (try clear hb); (try clear hb2); (try clear hk); (try clear hi); (try clear ho0)) | (go_at_call 80; (with_reducible refine (spec_l1Cur_pick.calls g s0_0 t1104 t1105 9 t1117 t1118 t1119 w0 _ ?side1 ?side2 A11.out).mono ?_); (case side1 => repeat (first | (with_reducible first | exact HI0.out | apply zbb | apply zbc | apply zbd | apply zbg | apply zbh) | exact HI0.out)); (case side2 => repeat (first | (with_reducible first | exact HB.out | apply zag | apply zae | apply zaf | refine zah ?_ (zbf HI0.out)) | exact HB.out)); rintro e w16 ⟨rfl, hi, hb, hk⟩; have n0_ := zad (Kd.R_mono (Kd.R_keep (zbe (show IsS75 w0 _ g s0_0 t1104 t1105 from by repeat (first | (with_reducible first | exact HI0.out | apply zbb | apply zbc | apply zbd | apply zbg | apply zbh) | exact HI0.out)) (by (with_reducible repeat (first | apply zai | apply zaj | apply zak)); exact HO1100.out) (by decide)) hk (fun _ h => h.2)) (fun _ h => h.1)); have n1_ := zad (Kd.R_mono (Kd.R_keep (zbe (show IsS75 w0 _ g s0_0 t1104 t1105 from by repeat (first | (with_reducible first | exact HI0.out | apply zbb | apply zbc | apply zbd | apply zbg | apply zbh) | exact HI0.out)) (by (with_reducible repeat (first | apply zai | apply zaj | apply zak)); exact HO1116.out) (by decide)) hk (fun _ h => h.2)) (fun _ h => h.1)); have n2_ := zad (KeepBut.trans (by repeat (first | (with_reducible first | exact HK.out | apply zao | apply zap | apply zaq | apply zar) | exact HK.out)) hk (.inl rfl)); have n3_ := zad (hb); have n4_ := zad (hi); clear HO1100; clear HO1116; clear HK; clear HB; clear HI0; have HO1100 := n0_; have HO1116 := n1_; have HK := n2_; have HB := n3_; have HI0 := n4_; clear n0_ n1_ n2_ n3_ n4_; (try clear hb); (try clear hb2); (try clear hk); (try clear hi))); try go_wp2_with (first | (go_at_call 109; (with_reducible refine (spec_l1Cur_list.calls k g s0_0 s0_1 s0_2 a1 t1098 t1101 t1102 w0 _ ?side1 ?side2 A3.out).mono ?_); (case side1 => repeat (first | (with_reducible first | exact HI0.out | apply zbb | apply zbc | apply zbd | apply zbg | apply zbh) | exact HI0.out)); (case side2 => repeat (first | (with_reducible first | exact HB.out | apply zag | apply zae | apply zaf | refine zah ?_ (zbf HI0.out)) | exact HB.out)); rintro e w12 ⟨v1099, rfl, ho0, hi, hb, hk⟩; have n0_ := zad (Kd.R_lower ho0 (keep_size (w := w) (g := g) (row := none) (by repeat (first | (with_reducible first | exact HK.out | apply zao | apply zap | apply zaq | apply zar) | exact HK.out)))); have n1_ := zad (KeepBut.trans (by repeat (first | (with_reducible first | exact HK.out | apply zao | apply zap | apply zaq | apply zar) | exact HK.out)) hk (.inl rfl)); have n2_ := zad (hb); have n3_ := zad (hi); clear HK; clear HB; clear HI0; have HO1100 := n0_; have HK := n1_; have HB := n2_; have HI0 := n3_; clear n0_ n1_ n2_ n3_; (try clear hb); (try clear hb2); (try clear hk); (try clear hi); (try clear ho0)) | (go_at_call 89; (with_reducible refine (spec_l1Cur_one.calls g s0_0 t1101 t1102 8 false t1104 t1105 w0 _ ?side1 ?side2 A4.out).mono ?_); (case side1 => repeat (first | (with_reducible first | exact HI0.out | apply zbb | apply zbc | apply zbd | apply zbg | apply zbh) | exact HI0.out)); (case side2 => repeat (first | (with_reducible first | exact HB.out | apply zag | apply zae | apply zaf | refine zah ?_ (zbf HI0.out)) | exact HB.out)); rintro e w13 ⟨rfl, hi, hb, hk⟩; have n0_ := zad (Kd.R_mono (Kd.R_keep (zbe (show IsS75 w0 _ g s0_0 t1101 t1102 from by repeat (first | (with_reducible first | exact HI0.out | apply zbb | apply zbc | apply zbd | apply zbg | apply zbh) | exact HI0.out)) (by (with_reducible repeat (first | apply zai | apply zaj | apply zak)); exact HO1100.out) (by decide)) hk (fun _ h => h.2)) (fun _ h => h.1)); have n1_ := zad (KeepBut.trans (by repeat (first | (with_reducible first | exact HK.out | apply zao | apply zap | apply zaq | apply zar) | exact HK.out)) hk (.inl rfl)); have n2_ := zad (hb); have n3_ := zad (hi); clear HO1100; clear HK; clear HB; clear HI0; have HO1100 := n0_; have HK := n1_; have HB := n2_; have HI0 := n3_; clear n0_ n1_ n2_ n3_; (try clear hb); (try clear hb2); (try clear hk); (try clear hi); obtain ⟨Ao14, co14, eo14⟩ := Kd.R_slice HO1100.out; subst eo14) | (go_at_call 111; (with_reducible refine (spec_l1Own.calls _ _ t1098 t1114 _ ?side1 ?side2 A10.out).mono ?_); (case side1 => repeat (first | exact (Kd.R_reads' HO1100.out).2.2 | (with_reducible refine zal ?_ _) | (with_reducible refine zam ?_ _) | (with_reducible refine zan ?_))); (case side2 => exact (Kd.R_reads' HO1100.out).2.1); rintro e w15 ⟨v1115, rfl, ho0, hb⟩; have n0_ := zad (Kd.R_elder' (by (with_reducible repeat (first | apply zai | apply zaj | apply zak)); exact HO1100.out) (Kd.R_base ho0) hb); have n1_ := zad (Kd.R_lower (Kd.R_new' ho0 (Kd.R_lt (by (with_reducible repeat (first | apply zai | apply zaj | apply zak)); exact HO1100.out))) (keep_size (w := w) (g := g) (row := none) (by repeat (first | (with_reducible first | exact HK.out | apply zao | apply zap | apply zaq | apply zar) | exact HK.out)))); have n2_ := zad (IsS75.below (by repeat (first | (with_reducible first | exact HI0.out | apply zbb | apply zbc | apply zbd | apply zbg | apply zbh) | exact HI0.out)) hb); have n3_ := zad (KeepBut.trans (by repeat (first | (with_reducible first | exact HK.out | apply zao | apply zap | apply zaq | apply zar) | exact HK.out)) (KeepBut.of_below hb g none) (.inl rfl)); have n4_ := zad (below_step (by repeat (first | (with_reducible first | exact HB.out | apply zag | apply zae | apply zaf | refine zah ?_ (zbf HI0.out)) | exact HB.out)) hb); clear HO1100; clear HI0; clear HK; clear HB; have HO1100 := n0_; have HO1116 := n1_; have HI0 := n2_; have HK := n3_; have HB := n4_; clear n0_ n1_ n2_ n3_ n4_; (try clear hb); (try clear hb2); (try clear hk); (try clear hi); (try clear ho0)) | (go_at_call 80; (with_reducible refine (spec_l1Cur_pick.calls g s0_0 t1104 t1105 9 t1117 t1118 t1119 w0 _ ?side1 ?side2 A11.out).mono ?_); (case side1 => repeat (first | (with_reducible first | exact HI0.out | apply zbb | apply zbc | apply zbd | apply zbg | apply zbh) | exact HI0.out)); (case side2 => repeat (first | (with_reducible first | exact HB.out | apply zag | apply zae | apply zaf | refine zah ?_ (zbf HI0.out)) | exact HB.out)); rintro e w16 ⟨rfl, hi, hb, hk⟩; have n0_ := zad (Kd.R_mono (Kd.R_keep (zbe (show IsS75 w0 _ g s0_0 t1104 t1105 from by repeat (first | (with_reducible first | exact HI0.out | apply zbb | apply zbc | apply zbd | apply zbg | apply zbh) | exact HI0.out)) (by (with_reducible repeat (first | apply zai | apply zaj | apply zak)); exact HO1100.out) (by decide)) hk (fun _ h => h.2)) (fun _ h => h.1)); have n1_ := zad (Kd.R_mono (Kd.R_keep (zbe (show IsS75 w0 _ g s0_0 t1104 t1105 from by repeat (first | (with_reducible first | exact HI0.out | apply zbb | apply zbc | apply zbd | apply zbg | apply zbh) | exact HI0.out)) (by (with_reducible repeat (first | apply zai | apply zaj | apply zak)); exact HO1116.out) (by decide)) hk (fun _ h => h.2)) (fun _ h => h.1)); have n2_ := zad (KeepBut.trans (by repeat (first | (with_reducible first | exact HK.out | apply zao | apply zap | apply zaq | apply zar) | exact HK.out)) hk (.inl rfl)); have n3_ := zad (hb); have n4_ := zad (hi); clear HO1100; clear HO1116; clear HK; clear HB; clear HI0; have HO1100 := n0_; have HO1116 := n1_; have HK := n2_; have HB := n3_; have HI0 := n4_; clear n0_ n1_ n2_ n3_ n4_; (try clear hb); (try clear hb2); (try clear hk); (try clear hi))))
   go_loopg [8] k (fun kq v8 w' => ∃ (x7_1 : List Int) (x8_1 : Int) (x1001_1 : Int) (x1002_1 : Int), v8 = .int .i64 x8_1 ∧ Aside0 (spec_l1Cur_majorized.l0 kq t1098 x7_1 x8_1 s0_0 x1001_1 x1002_1 = some (r1, r2, r3, r4)) ∧ Aside0 (kq ≤ k) ∧ Aside0 (Kd.R (Kd.int .i64) 3 w' w.heap.size (fun k_ => some k_ ≠ (v1115 : Value).ownBlock) (.slice Ao14 t1098.length co14) t1098) ∧ Aside0 (Kd.R (Kd.int .i64) 3 w' w.heap.size (fun k_ => some k_ ≠ ((.slice Ao14 t1098.length co14) : Value).ownBlock) v1115 x7_1) ∧ Aside0 (IsS75 w0 w' g s0_0 x1001_1 x1002_1) ∧ Aside0 (KeepBut w w' g none) ∧ Aside0 (Below w0.heap.size w0 w'))
   case atStart => exact ⟨(t1114), (t1117), (t1118), (t1119), (by first | rfl | (simp; done) | (simp [*]; done)), H', ⟨Nat.le_refl _⟩, ⟨by (with_reducible repeat (first | apply zai | apply zaj | apply zak)); exact Kd.R_mono HO1100.out (fun _ hk => hk.2)⟩, ⟨by (with_reducible repeat (first | apply zai | apply zaj | apply zak)); exact Kd.R_mono HO1116.out (fun _ hk => hk.2)⟩, ⟨by repeat (first | (with_reducible first | exact HI0.out | apply zbb | apply zbc | apply zbd | apply zbg | apply zbh) | exact HI0.out)⟩, ⟨by repeat (first | (with_reducible first | exact HK.out | apply zao | apply zap | apply zaq | apply zar) | exact HK.out)⟩, ⟨by repeat (first | (with_reducible first | exact HB.out | apply zag | apply zae | apply zaf | refine zah ?_ (zbf HI0.out)) | exact HB.out)⟩⟩
   case round =>
    clear H'
    try clear c1
    try clear p2
    try clear c5
    try clear c12
    obtain ⟨x7_1, x8_1, x1001_1, x1002_1, rfl, HA, HK1, HO_6, HO_7, HI0, HK, HB⟩ := hrel
    cases gk with
    | zero => exact absurd HA.out (by simp [spec_l1Cur_majorized.l0])
    | succ k1 =>
     have H := HA.out
     clear HA
     simp only [spec_l1Cur_majorized.l0] at H
     have HC17 := zad H
     clear H
     go_upto_region 6 with (fail)
     repeat (go_quiet (fail); go_upto_region 6 with (fail))
     go_cut [31] (fun v31 wc => ∃ (kq : Nat) (x31_16 : Bool), v31 = .bool x31_16 ∧ Aside0 (spec_l1Cur_majorized.j1 kq t1098 x7_1 x8_1 x31_16 s0_0 x1001_1 x1002_1 = some (r1, r2, r3, r4)) ∧ Aside0 (kq ≤ k1) ∧ Aside0 (Kd.R (Kd.int .i64) 3 wc w.heap.size (fun k_ => some k_ ≠ (v1115 : Value).ownBlock) (.slice Ao14 t1098.length co14) t1098) ∧ Aside0 (Kd.R (Kd.int .i64) 3 wc w.heap.size (fun k_ => some k_ ≠ ((.slice Ao14 t1098.length co14) : Value).ownBlock) v1115 x7_1) ∧ Aside0 (IsS75 w0 wc g s0_0 x1001_1 x1002_1) ∧ Aside0 (KeepBut w wc g none) ∧ Aside0 (Below w0.heap.size w0 wc))
     case first =>
      have H := HC17.out
      clear HC17
      by_cases c18 : x8_1 > 0
      · rw [if_pos c18] at H
        have c18b0 : decide (0 < x8_1) = true := zaz c18
        clear c18
        (first | rw [c18b0] | (simp only [i64_w, i32_w]; rw [c18b0]) | skip)
        have H' := zad H
        clear H
        obtain ⟨Ao19, co19, eo19⟩ := Kd.R_slice HO_7.out
        subst eo19
        go_wp2
        repeat (go_quiet (fail); try go_wp2)
        go_meet
        case rel => exact ⟨_, (decide ((x7_1.length : Int) > 1)), (by first | rfl | (simp; done) | (simp [*]; done)), H', ⟨by have := HK1.out; first | omega | exact Nat.le_refl _⟩, ⟨by (with_reducible repeat (first | apply zai | apply zaj | apply zak)); exact HO_6.out⟩, ⟨by (with_reducible repeat (first | apply zai | apply zaj | apply zak)); exact HO_7.out⟩, ⟨by repeat (first | (with_reducible first | exact HI0.out | apply zbb | apply zbc | apply zbd | apply zbg | apply zbh) | exact HI0.out)⟩, ⟨by repeat (first | (with_reducible first | exact HK.out | apply zao | apply zap | apply zaq | apply zar) | exact HK.out)⟩, ⟨by repeat (first | (with_reducible first | exact HB.out | apply zag | apply zae | apply zaf | refine zah ?_ (zbf HI0.out)) | exact HB.out)⟩⟩
      · rw [if_neg c18] at H
        have c18b0 : decide (0 < x8_1) = false := decide_eq_false c18
        clear c18
        (first | rw [c18b0] | (simp only [i64_w, i32_w]; rw [c18b0]) | skip)
        have H' := zad H
        clear H
        go_wp2
        repeat (go_quiet (fail); try go_wp2)
        go_meet
        case rel => exact ⟨_, (false), (by first | rfl | (simp; done) | (simp [*]; done)), H', ⟨by have := HK1.out; first | omega | exact Nat.le_refl _⟩, ⟨by (with_reducible repeat (first | apply zai | apply zaj | apply zak)); exact HO_6.out⟩, ⟨by (with_reducible repeat (first | apply zai | apply zaj | apply zak)); exact HO_7.out⟩, ⟨by repeat (first | (with_reducible first | exact HI0.out | apply zbb | apply zbc | apply zbd | apply zbg | apply zbh) | exact HI0.out)⟩, ⟨by repeat (first | (with_reducible first | exact HK.out | apply zao | apply zap | apply zaq | apply zar) | exact HK.out)⟩, ⟨by repeat (first | (with_reducible first | exact HB.out | apply zag | apply zae | apply zaf | refine zah ?_ (zbf HI0.out)) | exact HB.out)⟩⟩
     case rest =>
      clear HC17
      try clear c1
      try clear p2
      try clear c5
      try clear c12
      try clear c18
      try clear c18b0
      try clear p2
      obtain ⟨kq, x31_16, rfl, HA, HJ16, HO_6, HO_7, HI0, HK, HB⟩ := hcut
      cases kq with
      | zero => exact absurd HA.out (by simp [spec_l1Cur_majorized.j1])
      | succ kj16 =>
       have H := HA.out
       clear HA
       simp only [spec_l1Cur_majorized.j1] at H
       by_cases c20 : x31_16 = true
       · subst c20
         have H1 : ((spec_l1Cur_pick.f s0_0 x1001_1 x1002_1 (x7_1.length : Int)).bind fun bt1120 => ((spec_l1Cur_pick.f s0_0 bt1120.2.1 bt1120.2.2 (x7_1.length : Int)).bind fun bt1123 => (if 0 ≤ bt1120.1 then (if bt1120.1 < (x7_1.length : Int) then (if 0 ≤ bt1123.1 then (if bt1123.1 < (x7_1.length : Int) then (if (rd x7_1 bt1120.1) ≥ (wrap64 ((rd x7_1 bt1123.1) + 2)) then ((some (x7_1.set (bt1120.1 : Int).toNat (wrap64 ((rd x7_1 bt1120.1) - 1)) : List Int)).bind fun y1129 => (spec_l1Cur_majorized.l0 kj16 t1098 (y1129.set (bt1123.1 : Int).toNat (wrap64 ((rd y1129 bt1123.1) + 1))) (wrap64 (x8_1 - 1)) s0_0 bt1123.2.1 bt1123.2.2)) else (spec_l1Cur_majorized.l0 kj16 t1098 x7_1 (wrap64 (x8_1 - 1)) s0_0 bt1123.2.1 bt1123.2.2)) else (none)) else (none)) else (none)) else (none)))) = some (r1, r2, r3, r4) := by rw [if_pos rfl] at H; exact H
         clear H
         have H := H1
         clear H1
         replace H := Option.bind_eq_some_iff.mp H
         obtain ⟨⟨t1120, t1121, t1122⟩, A210, H⟩ := H
         replace H : ((spec_l1Cur_pick.f s0_0 t1121 t1122 (x7_1.length : Int)).bind fun bt1123 => (if 0 ≤ t1120 then (if t1120 < (x7_1.length : Int) then (if 0 ≤ bt1123.1 then (if bt1123.1 < (x7_1.length : Int) then (if (rd x7_1 t1120) ≥ (wrap64 ((rd x7_1 bt1123.1) + 2)) then ((some (x7_1.set (t1120 : Int).toNat (wrap64 ((rd x7_1 t1120) - 1)) : List Int)).bind fun y1129 => (spec_l1Cur_majorized.l0 kj16 t1098 (y1129.set (bt1123.1 : Int).toNat (wrap64 ((rd y1129 bt1123.1) + 1))) (wrap64 (x8_1 - 1)) s0_0 bt1123.2.1 bt1123.2.2)) else (spec_l1Cur_majorized.l0 kj16 t1098 x7_1 (wrap64 (x8_1 - 1)) s0_0 bt1123.2.1 bt1123.2.2)) else (none)) else (none)) else (none)) else (none))) = some (r1, r2, r3, r4) := H
         have A21 := zad A210
         clear A210
         replace H := Option.bind_eq_some_iff.mp H
         obtain ⟨⟨t1123, t1124, t1125⟩, A220, H⟩ := H
         replace H : (if 0 ≤ t1120 then (if t1120 < (x7_1.length : Int) then (if 0 ≤ t1123 then (if t1123 < (x7_1.length : Int) then (if (rd x7_1 t1120) ≥ (wrap64 ((rd x7_1 t1123) + 2)) then ((some (x7_1.set (t1120 : Int).toNat (wrap64 ((rd x7_1 t1120) - 1)) : List Int)).bind fun y1129 => (spec_l1Cur_majorized.l0 kj16 t1098 (y1129.set (t1123 : Int).toNat (wrap64 ((rd y1129 t1123) + 1))) (wrap64 (x8_1 - 1)) s0_0 t1124 t1125)) else (spec_l1Cur_majorized.l0 kj16 t1098 x7_1 (wrap64 (x8_1 - 1)) s0_0 t1124 t1125)) else (none)) else (none)) else (none)) else (none)) = some (r1, r2, r3, r4) := H
         have A22 := zad A220
         clear A220
         by_cases c23 : 0 ≤ t1120
         · rw [if_pos c23] at H
           have c23b0 : decide (0 ≤ t1120) = true := zaz c23
           clear c23
           by_cases c24 : t1120 < (x7_1.length : Int)
           · rw [if_pos c24] at H
             have c24b0 : decide (t1120 < (x7_1.length : Int)) = true := zaz c24
             clear c24
             by_cases c25 : 0 ≤ t1123
             · rw [if_pos c25] at H
               have c25b0 : decide (0 ≤ t1123) = true := zaz c25
               clear c25
               by_cases c26 : t1123 < (x7_1.length : Int)
               · rw [if_pos c26] at H
                 have c26b0 : decide (t1123 < (x7_1.length : Int)) = true := zaz c26
                 clear c26
                 by_cases c27 : (rd x7_1 t1120) ≥ (wrap64 ((rd x7_1 t1123) + 2))
                 · rw [if_pos c27] at H
                   have c27b0 : decide ((wrap64 ((rd x7_1 t1123) + 2)) ≤ (rd x7_1 t1120)) = true := zaz c27
                   clear c27
                   obtain ⟨y1129, hy1129⟩ : ∃ y_ : List Int, y_ = (x7_1.set (t1120 : Int).toNat (wrap64 ((rd x7_1 t1120) - 1))) := ⟨_, rfl⟩
                   replace H : (spec_l1Cur_majorized.l0 kj16 t1098 (y1129.set (t1123 : Int).toNat (wrap64 ((rd y1129 t1123) + 1))) (wrap64 (x8_1 - 1)) s0_0 t1124 t1125) = some (r1, r2, r3, r4) := by first | (rw [hy1129]; with_reducible exact H) | (have H2_ := (Option.bind_some _ _).symm.trans H; rw [hy1129]; with_reducible exact H2_) | (have H2_ := (Option.bind_some _ _).symm.trans H; with_reducible exact H2_) | with_reducible exact H | (rw [hy1129]; exact H) | exact H
                   have Ny1129 := zad hy1129
                   clear hy1129
                   obtain ⟨y1131, hy1131⟩ : ∃ y_ : List Int, y_ = (y1129.set (t1123 : Int).toNat (wrap64 ((rd y1129 t1123) + 1))) := ⟨_, rfl⟩
                   replace H : (spec_l1Cur_majorized.l0 kj16 t1098 y1131 (wrap64 (x8_1 - 1)) s0_0 t1124 t1125) = some (r1, r2, r3, r4) := by first | (rw [hy1131]; with_reducible exact H) | (have H2_ := (Option.bind_some _ _).symm.trans H; rw [hy1131]; with_reducible exact H2_) | (have H2_ := (Option.bind_some _ _).symm.trans H; with_reducible exact H2_) | with_reducible exact H | (rw [hy1131]; exact H) | exact H
                   have Ny1131 := zad hy1131
                   clear hy1131
                   have H' := zad H
                   clear H
                   obtain ⟨Ao30, co30, eo30⟩ := Kd.R_slice HO_7.out
                   subst eo30
                   go_wp2_with (first | (go_at_call 80; (with_reducible refine (spec_l1Cur_pick.calls g s0_0 x1001_1 x1002_1 (x7_1.length : Int) t1120 t1121 t1122 w0 _ ?side1 ?side2 A21.out).mono ?_); (case side1 => repeat (first | (with_reducible first | exact HI0.out | apply zbb | apply zbc | apply zbd | apply zbg | apply zbh) | exact HI0.out)); (case side2 => repeat (first | (with_reducible first | exact HB.out | apply zag | apply zae | apply zaf | refine zah ?_ (zbf HI0.out)) | exact HB.out)); rintro e w31 ⟨rfl, hi, hb, hk⟩; have n0_ := zad (Kd.R_mono (Kd.R_keep (zbe (show IsS75 w0 _ g s0_0 x1001_1 x1002_1 from by repeat (first | (with_reducible first | exact HI0.out | apply zbb | apply zbc | apply zbd | apply zbg | apply zbh) | exact HI0.out)) (by (with_reducible repeat (first | apply zai | apply zaj | apply zak)); exact HO_6.out) (by decide)) hk (fun _ h => h.2)) (fun _ h => h.1)); have n1_ := zad (Kd.R_mono (Kd.R_keep (zbe (show IsS75 w0 _ g s0_0 x1001_1 x1002_1 from by repeat (first | (with_reducible first | exact HI0.out | apply zbb | apply zbc | apply zbd | apply zbg | apply zbh) | exact HI0.out)) (by (with_reducible repeat (first | apply zai | apply zaj | apply zak)); exact HO_7.out) (by decide)) hk (fun _ h => h.2)) (fun _ h => h.1)); have n2_ := zad (KeepBut.trans (by repeat (first | (with_reducible first | exact HK.out | apply zao | apply zap | apply zaq | apply zar) | exact HK.out)) hk (.inl rfl)); have n3_ := zad (hb); have n4_ := zad (hi); clear HO_6; clear HO_7; clear HK; clear HB; clear HI0; have HO_6 := n0_; have HO_7 := n1_; have HK := n2_; have HB := n3_; have HI0 := n4_; clear n0_ n1_ n2_ n3_ n4_; (try clear hb); (try clear hb2); (try clear hk); (try clear hi)) | (go_at_call 80; (with_reducible refine (spec_l1Cur_pick.calls g s0_0 t1121 t1122 (x7_1.length : Int) t1123 t1124 t1125 w0 _ ?side1 ?side2 A22.out).mono ?_); (case side1 => repeat (first | (with_reducible first | exact HI0.out | apply zbb | apply zbc | apply zbd | apply zbg | apply zbh) | exact HI0.out)); (case side2 => repeat (first | (with_reducible first | exact HB.out | apply zag | apply zae | apply zaf | refine zah ?_ (zbf HI0.out)) | exact HB.out)); rintro e w32 ⟨rfl, hi, hb, hk⟩; have n0_ := zad (Kd.R_mono (Kd.R_keep (zbe (show IsS75 w0 _ g s0_0 t1121 t1122 from by repeat (first | (with_reducible first | exact HI0.out | apply zbb | apply zbc | apply zbd | apply zbg | apply zbh) | exact HI0.out)) (by (with_reducible repeat (first | apply zai | apply zaj | apply zak)); exact HO_6.out) (by decide)) hk (fun _ h => h.2)) (fun _ h => h.1)); have n1_ := zad (Kd.R_mono (Kd.R_keep (zbe (show IsS75 w0 _ g s0_0 t1121 t1122 from by repeat (first | (with_reducible first | exact HI0.out | apply zbb | apply zbc | apply zbd | apply zbg | apply zbh) | exact HI0.out)) (by (with_reducible repeat (first | apply zai | apply zaj | apply zak)); exact HO_7.out) (by decide)) hk (fun _ h => h.2)) (fun _ h => h.1)); have n2_ := zad (KeepBut.trans (by repeat (first | (with_reducible first | exact HK.out | apply zao | apply zap | apply zaq | apply zar) | exact HK.out)) hk (.inl rfl)); have n3_ := zad (hb); have n4_ := zad (hi); clear HO_6; clear HO_7; clear HK; clear HB; clear HI0; have HO_6 := n0_; have HO_7 := n1_; have HK := n2_; have HB := n3_; have HI0 := n4_; clear n0_ n1_ n2_ n3_ n4_; (try clear hb); (try clear hb2); (try clear hk); (try clear hi); have p1126 : 0 ≤ (t1120 : Int) := zas (by first | (with_reducible assumption) | assumption); have q1126 : t1120 < (x7_1.length : Int) := zas (by first | (with_reducible assumption) | assumption); obtain ⟨ad1126, e1126, hx1126_0⟩ := Kd.at_int (Kd.R_reads' HO_7.out).2.2 t1120 p1126 q1126; cases e1126; replace p1126 := eq_true p1126; replace q1126 := eq_true q1126; have p1127 : 0 ≤ (t1123 : Int) := zas (by first | (with_reducible assumption) | assumption); have q1127 : t1123 < (x7_1.length : Int) := zas (by first | (with_reducible assumption) | assumption); obtain ⟨ad1127, e1127, hx1127_0⟩ := Kd.at_int (Kd.R_reads' HO_7.out).2.2 t1123 p1127 q1127; obtain rfl : ad1126 = ad1127 := (by injection e1127); replace p1127 := eq_true p1127; replace q1127 := eq_true q1127; have p1128 : 0 ≤ (t1120 : Int) := zas (by first | (with_reducible assumption) | assumption); have q1128 : t1120 < (x7_1.length : Int) := zas (by first | (with_reducible assumption) | assumption); obtain ⟨ad1128, e1128, hx1128_0⟩ := Kd.at_int (Kd.R_reads' HO_7.out).2.2 t1120 p1128 q1128; obtain rfl : ad1126 = ad1128 := (by injection e1128); replace p1128 := eq_true p1128; replace q1128 := eq_true q1128; have p28 : 0 ≤ (t1120 : Int) := zas (by first | (with_reducible assumption) | assumption); have q28 : (t1120 : Int) < ((x7_1.length : Int) : Int) := zas (by first | (with_reducible assumption) | assumption); obtain ⟨go28, co28, eo28, gb28, gl28, cl28, HG28⟩ := Kd.R_form HO_7.out (by omega); (first | cases eo28 | (injection eo28 with ea_ en_ ec_; (first | subst ea_ | (injection ea_ with ea_; subst ea_)); subst ec_; clear en_)); have GB28 := zad gb28; have GG28 := zad HG28; clear gb28 gl28 HG28; (first | simp only [add_plain] at hx1126_0 | skip); (first | simp only [add_plain] at hx1127_0 | skip); (first | simp only [add_plain] at hx1128_0 | skip); obtain ⟨hx28_0, hf28_0⟩ := Kd.R_celln 0 HO_7.out (t1120 : Int) p28 q28; replace p28 := eq_true p28; replace q28 := eq_true q28; obtain ⟨hy33_, hz33_⟩ := Kd.R_celln 0 HO_7.out (t1120 : Int) (zas (by first | (with_reducible assumption) | assumption)) (zas (by first | (with_reducible assumption) | assumption)); have HP33 := Kd.R_putg HO_7.out (t1120 : Int) (wrap64 ((rd x7_1 t1120) - 1))) | ((with_reducible refine gate_store (t := 3) (p := 57) rfl ?_); (try (rw [drewN_self w32]; generalize hq_ : World.drewN w32 _ = w32; have n0_ := zad (Kd.R_at hq_ HO_6.out); have n1_ := zad (Kd.R_at hq_ HO_7.out); have n2_ := zad (IsS75.at_ hq_ HI0.out); have n3_ := zad (keep_at hq_ HK.out); have n4_ := zad (below_at hq_ HB.out); clear hq_ HO_6 HO_7 HI0 HK HB; have HO_6 := n0_; have HO_7 := n1_; have HI0 := n2_; have HK := n3_; have HB := n4_; clear n0_ n1_ n2_ n3_ n4_; (try (obtain ⟨hy33_, hz33_⟩ := Kd.R_celln 0 HO_7.out (t1120 : Int) (zas (by first | (with_reducible assumption) | assumption)) (zas (by first | (with_reducible assumption) | assumption)))); (try (have HP33 := Kd.R_putg HO_7.out (t1120 : Int) (wrap64 ((rd x7_1 t1120) - 1)))))); refine store_event (t := 3) (p := 57) (v := ?vo_w34) (w1 := (w32.setCell ⟨go28, (t1120 : Int).toNat, none⟩ (.int .i64 (wrap64 ((rd x7_1 t1120) - 1))))) ?hg ?ho ?hn ?hr ?_; (case ho => rfl); (case hg => rfl); (case hn => rfl); (case hr => first | (go_simp; done) | (go_simp; rfl)); intro w34 hw; have hg : w32.grownBy w34 (some go28) := (by rw [hw]; exact HP33.2); have hp_ : Kd.R (Kd.int .i64) 3 w34 w.heap.size (fun k_ => some k_ ≠ (.slice Ao14 t1098.length co14 : Value).ownBlock) (.slice (some ⟨go28, 0, none⟩) x7_1.length co30) y1129 := (by rw [hw, Ny1129.out]; exact HP33.1); clear HP33; have n0_ := zad (Kd.R_after (v := (.slice (some ⟨go28, 0, none⟩) x7_1.length co30)) (v1 := (.slice (some ⟨go28, 0, none⟩) x7_1.length co30)) (ok := (fun _ => True)) (by (with_reducible repeat (first | apply zai | apply zaj | apply zak)); exact Kd.R_mono HO_6.out (fun _ hk => ⟨trivial, hk⟩)) hg (.inl rfl)); have n1_ := zad (hp_); have n2_ := zad (IsS75.grown (by repeat (first | (with_reducible first | exact HI0.out | apply zbb | apply zbc | apply zbd | apply zbg | apply zbh) | exact HI0.out)) hg (IsS75.own_ne HI0.out HO_7.out (by decide))); have n3_ := zad ((by rw [hw]; exact zah (HB.out) (Nat.le_trans HL.out GB28.out) : Below w0.heap.size w0 w34)); have n4_ := zad (KeepBut.trans (by repeat (first | (with_reducible first | exact HK.out | apply zao | apply zap | apply zaq | apply zar) | exact HK.out)) (KeepBut.of_grown hg g) (Kd.R_base2 HO_7.out)); clear HO_6; clear HO_7; clear HI0; clear HB; clear HK; have HO_6 := n0_; have HO_7 := n1_; have HI0 := n2_; have HB := n3_; have HK := n4_; clear n0_ n1_ n2_ n3_ n4_; clear hg hw hp_; have p1130 : 0 ≤ (t1123 : Int) := zas (by first | (with_reducible assumption) | assumption); have q1130 : t1123 < (y1129.length : Int) := (by have h_ : (t1123 : Int) < ((x7_1.length : Int) : Int) := zas (by first | (with_reducible assumption) | assumption); first | (have e_ := (Kd.R_reads' HO_7.out).1; omega) | simpa only [Ny1129.out, List.length_set] using h_); have ql1130 : ((t1123 : Int) < ((x7_1.length : Int) : Int)) = True := eq_true (zas (by first | (with_reducible assumption) | assumption)); obtain ⟨ad1130, e1130, hx1130_0⟩ := Kd.at_int (Kd.R_reads' HO_7.out).2.2 t1123 p1130 q1130; obtain rfl : (⟨go28, 0, none⟩ : Addr) = ad1130 := (by injection e1130); (first | simp only [add_plain] at hx1130_0 | simp only [add_at] at hx1130_0 | simp only [Addr.add, Nat.zero_add] at hx1130_0 | skip); replace p1130 := eq_true p1130; replace q1130 := eq_true q1130; have p29 : 0 ≤ (t1123 : Int) := zas (by first | (with_reducible assumption) | assumption); have q29 : (t1123 : Int) < ((x7_1.length : Int) : Int) := zas (by first | (with_reducible assumption) | assumption); obtain ⟨hx29_0, hf29_0⟩ := Kd.R_celln 0 HO_7.out (t1123 : Int) p29 q29; replace p29 := eq_true p29; replace q29 := eq_true q29; obtain ⟨hy35_, hz35_⟩ := Kd.R_celln 0 HO_7.out (t1123 : Int) (zas (by first | (with_reducible assumption) | assumption)) (zas (by first | (with_reducible assumption) | assumption)); have HP35 := Kd.R_putg HO_7.out (t1123 : Int) (wrap64 ((rd y1129 t1123) + 1))) | ((with_reducible refine gate_store (t := 3) (p := 63) rfl ?_); (try (rw [drewN_self w34]; generalize hq_ : World.drewN w34 _ = w34; have n0_ := zad (Kd.R_at hq_ HO_6.out); have n1_ := zad (Kd.R_at hq_ HO_7.out); have n2_ := zad (IsS75.at_ hq_ HI0.out); have n3_ := zad (keep_at hq_ HK.out); have n4_ := zad (below_at hq_ HB.out); clear hq_ HO_6 HO_7 HI0 HK HB; have HO_6 := n0_; have HO_7 := n1_; have HI0 := n2_; have HK := n3_; have HB := n4_; clear n0_ n1_ n2_ n3_ n4_; (try (obtain ⟨hy35_, hz35_⟩ := Kd.R_celln 0 HO_7.out (t1123 : Int) (zas (by first | (with_reducible assumption) | assumption)) (zas (by first | (with_reducible assumption) | assumption)))); (try (have HP35 := Kd.R_putg HO_7.out (t1123 : Int) (wrap64 ((rd y1129 t1123) + 1)))))); refine store_event (t := 3) (p := 63) (v := ?vo_w36) (w1 := (w34.setCell ⟨go28, (t1123 : Int).toNat, none⟩ (.int .i64 (wrap64 ((rd y1129 t1123) + 1))))) ?hg ?ho ?hn ?hr ?_; (case ho => rfl); (case hg => rfl); (case hn => rfl); (case hr => first | (go_simp; done) | (go_simp; rfl)); intro w36 hw; have hg : w34.grownBy w36 (some go28) := (by rw [hw]; exact HP35.2); have hp_ : Kd.R (Kd.int .i64) 3 w36 w.heap.size (fun k_ => some k_ ≠ (.slice Ao14 t1098.length co14 : Value).ownBlock) (.slice (some ⟨go28, 0, none⟩) x7_1.length co30) y1131 := (by rw [hw, Ny1131.out]; exact HP35.1); clear HP35; have n0_ := zad (Kd.R_after (v := (.slice (some ⟨go28, 0, none⟩) x7_1.length co30)) (v1 := (.slice (some ⟨go28, 0, none⟩) x7_1.length co30)) (ok := (fun _ => True)) (by (with_reducible repeat (first | apply zai | apply zaj | apply zak)); exact HO_6.out) hg (.inl rfl)); have n1_ := zad (hp_); have n2_ := zad (IsS75.grown (by repeat (first | (with_reducible first | exact HI0.out | apply zbb | apply zbc | apply zbd | apply zbg | apply zbh) | exact HI0.out)) hg (IsS75.own_ne HI0.out HO_7.out (by decide))); have n3_ := zad ((by rw [hw]; exact zah (HB.out) (Nat.le_trans HL.out GB28.out) : Below w0.heap.size w0 w36)); have n4_ := zad (KeepBut.trans (by repeat (first | (with_reducible first | exact HK.out | apply zao | apply zap | apply zaq | apply zar) | exact HK.out)) (KeepBut.of_grown hg g) (Kd.R_base2 HO_7.out)); clear HO_6; clear HO_7; clear HI0; clear HB; clear HK; have HO_6 := n0_; have HO_7 := n1_; have HI0 := n2_; have HB := n3_; have HK := n4_; clear n0_ n1_ n2_ n3_ n4_; clear hg hw hp_))
                   repeat (go_quiet (first | (go_at_call 80; (with_reducible refine (spec_l1Cur_pick.calls g s0_0 x1001_1 x1002_1 (x7_1.length : Int) t1120 t1121 t1122 w0 _ ?side1 ?side2 A21.out).mono ?_); (case side1 => repeat (first | (with_reducible first | exact HI0.out | apply zbb | apply zbc | apply zbd | apply zbg | apply zbh) | exact HI0.out)); (case side2 => repeat (first | (with_reducible first | exact HB.out | apply zag | apply zae | apply zaf | refine zah ?_ (zbf HI0.out)) | exact HB.out)); rintro e w31 ⟨rfl, hi, hb, hk⟩; have n0_ := zad (Kd.R_mono (Kd.R_keep (zbe (show IsS75 w0 _ g s0_0 x1001_1 x1002_1 from by repeat (first | (with_reducible first | exact HI0.out | apply zbb | apply zbc | apply zbd | apply zbg | apply zbh) | exact HI0.out)) (by (with_reducible repeat (first | apply zai | apply zaj | apply zak)); exact HO_6.out) (by decide)) hk (fun _ h => h.2)) (fun _ h => h.1)); have n1_ := zad (Kd.R_mono (Kd.R_keep (zbe (show IsS75 w0 _ g s0_0 x1001_1 x1002_1 from by repeat (first | (with_reducible first | exact HI0.out | apply zbb | apply zbc | apply zbd | apply zbg | apply zbh) | exact HI0.out)) (by (with_reducible repeat (first | apply zai | apply zaj | apply zak)); exact HO_7.out) (by decide)) hk (fun _ h => h.2)) (fun _ h => h.1)); have n2_ := zad (KeepBut.trans (by repeat (first | (with_reducible first | exact HK.out | apply zao | apply zap | apply zaq | apply zar) | exact HK.out)) hk (.inl rfl)); have n3_ := zad (hb); have n4_ := zad (hi); clear HO_6; clear HO_7; clear HK; clear HB; clear HI0; have HO_6 := n0_; have HO_7 := n1_; have HK := n2_; have HB := n3_; have HI0 := n4_; clear n0_ n1_ n2_ n3_ n4_; (try clear hb); (try clear hb2); (try clear hk); (try clear hi)) | (go_at_call 80; (with_reducible refine (spec_l1Cur_pick.calls g s0_0 t1121 t1122 (x7_1.length : Int) t1123 t1124 t1125 w0 _ ?side1 ?side2 A22.out).mono ?_); (case side1 => repeat (first | (with_reducible first | exact HI0.out | apply zbb | apply zbc | apply zbd | apply zbg | apply zbh) | exact HI0.out)); (case side2 => repeat (first | (with_reducible first | exact HB.out | apply zag | apply zae | apply zaf | refine zah ?_ (zbf HI0.out)) | exact HB.out)); rintro e w32 ⟨rfl, hi, hb, hk⟩; have n0_ := zad (Kd.R_mono (Kd.R_keep (zbe (show IsS75 w0 _ g s0_0 t1121 t1122 from by repeat (first | (with_reducible first | exact HI0.out | apply zbb | apply zbc | apply zbd | apply zbg | apply zbh) | exact HI0.out)) (by (with_reducible repeat (first | apply zai | apply zaj | apply zak)); exact HO_6.out) (by decide)) hk (fun _ h => h.2)) (fun _ h => h.1)); have n1_ := zad (Kd.R_mono (Kd.R_keep (zbe (show IsS75 w0 _ g s0_0 t1121 t1122 from by repeat (first | (with_reducible first | exact HI0.out | apply zbb | apply zbc | apply zbd | apply zbg | apply zbh) | exact HI0.out)) (by (with_reducible repeat (first | apply zai | apply zaj | apply zak)); exact HO_7.out) (by decide)) hk (fun _ h => h.2)) (fun _ h => h.1)); have n2_ := zad (KeepBut.trans (by repeat (first | (with_reducible first | exact HK.out | apply zao | apply zap | apply zaq | apply zar) | exact HK.out)) hk (.inl rfl)); have n3_ := zad (hb); have n4_ := zad (hi); clear HO_6; clear HO_7; clear HK; clear HB; clear HI0; have HO_6 := n0_; have HO_7 := n1_; have HK := n2_; have HB := n3_; have HI0 := n4_; clear n0_ n1_ n2_ n3_ n4_; (try clear hb); (try clear hb2); (try clear hk); (try clear hi); have p1126 : 0 ≤ (t1120 : Int) := zas (by first | (with_reducible assumption) | assumption); have q1126 : t1120 < (x7_1.length : Int) := zas (by first | (with_reducible assumption) | assumption); obtain ⟨ad1126, e1126, hx1126_0⟩ := Kd.at_int (Kd.R_reads' HO_7.out).2.2 t1120 p1126 q1126; cases e1126; replace p1126 := eq_true p1126; replace q1126 := eq_true q1126; have p1127 : 0 ≤ (t1123 : Int) := zas (by first | (with_reducible assumption) | assumption); have q1127 : t1123 < (x7_1.length : Int) := zas (by first | (with_reducible assumption) | assumption); obtain ⟨ad1127, e1127, hx1127_0⟩ := Kd.at_int (Kd.R_reads' HO_7.out).2.2 t1123 p1127 q1127; obtain rfl : ad1126 = ad1127 := (by injection e1127); replace p1127 := eq_true p1127; replace q1127 := eq_true q1127; have p1128 : 0 ≤ (t1120 : Int) := zas (by first | (with_reducible assumption) | assumption); have q1128 : t1120 < (x7_1.length : Int) := zas (by first | (with_reducible assumption) | assumption); obtain ⟨ad1128, e1128, hx1128_0⟩ := Kd.at_int (Kd.R_reads' HO_7.out).2.2 t1120 p1128 q1128; obtain rfl : ad1126 = ad1128 := (by injection e1128); replace p1128 := eq_true p1128; replace q1128 := eq_true q1128; have p28 : 0 ≤ (t1120 : Int) := zas (by first | (with_reducible assumption) | assumption); have q28 : (t1120 : Int) < ((x7_1.length : Int) : Int) := zas (by first | (with_reducible assumption) | assumption); obtain ⟨go28, co28, eo28, gb28, gl28, cl28, HG28⟩ := Kd.R_form HO_7.out (by omega); (first | cases eo28 | (injection eo28 with ea_ en_ ec_; (first | subst ea_ | (injection ea_ with ea_; subst ea_)); subst ec_; clear en_)); have GB28 := zad gb28; have GG28 := zad HG28; clear gb28 gl28 HG28; (first | simp only [add_plain] at hx1126_0 | skip); (first | simp only [add_plain] at hx1127_0 | skip); (first | simp only [add_plain] at hx1128_0 | skip); obtain ⟨hx28_0, hf28_0⟩ := Kd.R_celln 0 HO_7.out (t1120 : Int) p28 q28; replace p28 := eq_true p28; replace q28 := eq_true q28; obtain ⟨hy33_, hz33_⟩ := Kd.R_celln 0 HO_7.out (t1120 : Int) (zas (by first | (with_reducible assumption) | assumption)) (zas (by first | (with_reducible assumption) | assumption)); have HP33 := Kd.R_putg HO_7.out (t1120 : Int) (wrap64 ((rd x7_1 t1120) - 1))) | ((with_reducible refine gate_store (t := 3) (p := 57) rfl ?_); (try (rw [drewN_self w32]; generalize hq_ : World.drewN w32 _ = w32; have n0_ := zad (Kd.R_at hq_ HO_6.out); have n1_ := zad (Kd.R_at hq_ HO_7.out); have n2_ := zad (IsS75.at_ hq_ HI0.out); have n3_ := zad (keep_at hq_ HK.out); have n4_ := zad (below_at hq_ HB.out); clear hq_ HO_6 HO_7 HI0 HK HB; have HO_6 := n0_; have HO_7 := n1_; have HI0 := n2_; have HK := n3_; have HB := n4_; clear n0_ n1_ n2_ n3_ n4_; (try (obtain ⟨hy33_, hz33_⟩ := Kd.R_celln 0 HO_7.out (t1120 : Int) (zas (by first | (with_reducible assumption) | assumption)) (zas (by first | (with_reducible assumption) | assumption)))); (try (have HP33 := Kd.R_putg HO_7.out (t1120 : Int) (wrap64 ((rd x7_1 t1120) - 1)))))); refine store_event (t := 3) (p := 57) (v := ?vo_w34) (w1 := (w32.setCell ⟨go28, (t1120 : Int).toNat, none⟩ (.int .i64 (wrap64 ((rd x7_1 t1120) - 1))))) ?hg ?ho ?hn ?hr ?_; (case ho => rfl); (case hg => rfl); (case hn => rfl); (case hr => first | (go_simp; done) | (go_simp; rfl)); intro w34 hw; have hg : w32.grownBy w34 (some go28) := (by rw [hw]; exact HP33.2); have hp_ : Kd.R (Kd.int .i64) 3 w34 w.heap.size (fun k_ => some k_ ≠ (.slice Ao14 t1098.length co14 : Value).ownBlock) (.slice (some ⟨go28, 0, none⟩) x7_1.length co30) y1129 := (by rw [hw, Ny1129.out]; exact HP33.1); clear HP33; have n0_ := zad (Kd.R_after (v := (.slice (some ⟨go28, 0, none⟩) x7_1.length co30)) (v1 := (.slice (some ⟨go28, 0, none⟩) x7_1.length co30)) (ok := (fun _ => True)) (by (with_reducible repeat (first | apply zai | apply zaj | apply zak)); exact Kd.R_mono HO_6.out (fun _ hk => ⟨trivial, hk⟩)) hg (.inl rfl)); have n1_ := zad (hp_); have n2_ := zad (IsS75.grown (by repeat (first | (with_reducible first | exact HI0.out | apply zbb | apply zbc | apply zbd | apply zbg | apply zbh) | exact HI0.out)) hg (IsS75.own_ne HI0.out HO_7.out (by decide))); have n3_ := zad ((by rw [hw]; exact zah (HB.out) (Nat.le_trans HL.out GB28.out) : Below w0.heap.size w0 w34)); have n4_ := zad (KeepBut.trans (by repeat (first | (with_reducible first | exact HK.out | apply zao | apply zap | apply zaq | apply zar) | exact HK.out)) (KeepBut.of_grown hg g) (Kd.R_base2 HO_7.out)); clear HO_6; clear HO_7; clear HI0; clear HB; clear HK; have HO_6 := n0_; have HO_7 := n1_; have HI0 := n2_; have HB := n3_; have HK := n4_; clear n0_ n1_ n2_ n3_ n4_; clear hg hw hp_; have p1130 : 0 ≤ (t1123 : Int) := zas (by first | (with_reducible assumption) | assumption); have q1130 : t1123 < (y1129.length : Int) := (by have h_ : (t1123 : Int) < ((x7_1.length : Int) : Int) := zas (by first | (with_reducible assumption) | assumption); first | (have e_ := (Kd.R_reads' HO_7.out).1; omega) | simpa only [Ny1129.out, List.length_set] using h_); have ql1130 : ((t1123 : Int) < ((x7_1.length : Int) : Int)) = True := eq_true (zas (by first | (with_reducible assumption) | assumption)); obtain ⟨ad1130, e1130, hx1130_0⟩ := Kd.at_int (Kd.R_reads' HO_7.out).2.2 t1123 p1130 q1130; obtain rfl : (⟨go28, 0, none⟩ : Addr) = ad1130 := (by injection e1130); (first | simp only [add_plain] at hx1130_0 | simp only [add_at] at hx1130_0 | simp only [Addr.add, Nat.zero_add] at hx1130_0 | skip); replace p1130 := eq_true p1130; replace q1130 := eq_true q1130; have p29 : 0 ≤ (t1123 : Int) := zas (by first | (with_reducible assumption) | assumption); have q29 : (t1123 : Int) < ((x7_1.length : Int) : Int) := zas (by first | (with_reducible assumption) | assumption); obtain ⟨hx29_0, hf29_0⟩ := Kd.R_celln 0 HO_7.out (t1123 : Int) p29 q29; replace p29 := eq_true p29; replace q29 := eq_true q29; obtain ⟨hy35_, hz35_⟩ := Kd.R_celln 0 HO_7.out (t1123 : Int) (zas (by first | (with_reducible assumption) | assumption)) (zas (by first | (with_reducible assumption) | assumption)); have HP35 := Kd.R_putg HO_7.out (t1123 : Int) (wrap64 ((rd y1129 t1123) + 1))) | ((with_reducible refine gate_store (t := 3) (p := 63) rfl ?_); (try (rw [drewN_self w34]; generalize hq_ : World.drewN w34 _ = w34; have n0_ := zad (Kd.R_at hq_ HO_6.out); have n1_ := zad (Kd.R_at hq_ HO_7.out); have n2_ := zad (IsS75.at_ hq_ HI0.out); have n3_ := zad (keep_at hq_ HK.out); have n4_ := zad (below_at hq_ HB.out); clear hq_ HO_6 HO_7 HI0 HK HB; have HO_6 := n0_; have HO_7 := n1_; have HI0 := n2_; have HK := n3_; have HB := n4_; clear n0_ n1_ n2_ n3_ n4_; (try (obtain ⟨hy35_, hz35_⟩ := Kd.R_celln 0 HO_7.out (t1123 : Int) (zas (by first | (with_reducible assumption) | assumption)) (zas (by first | (with_reducible assumption) | assumption)))); (try (have HP35 := Kd.R_putg HO_7.out (t1123 : Int) (wrap64 ((rd y1129 t1123) + 1)))))); refine store_event (t := 3) (p := 63) (v := ?vo_w36) (w1 := (w34.setCell ⟨go28, (t1123 : Int).toNat, none⟩ (.int .i64 (wrap64 ((rd y1129 t1123) + 1))))) ?hg ?ho ?hn ?hr ?_; (case ho => rfl); (case hg => rfl); (case hn => rfl); (case hr => first | (go_simp; done) | (go_simp; rfl)); intro w36 hw; have hg : w34.grownBy w36 (some go28) := (by rw [hw]; exact HP35.2); have hp_ : Kd.R (Kd.int .i64) 3 w36 w.heap.size (fun k_ => some k_ ≠ (.slice Ao14 t1098.length co14 : Value).ownBlock) (.slice (some ⟨go28, 0, none⟩) x7_1.length co30) y1131 := (by rw [hw, Ny1131.out]; exact HP35.1); clear HP35; have n0_ := zad (Kd.R_after (v := (.slice (some ⟨go28, 0, none⟩) x7_1.length co30)) (v1 := (.slice (some ⟨go28, 0, none⟩) x7_1.length co30)) (ok := (fun _ => True)) (by (with_reducible repeat (first | apply zai | apply zaj | apply zak)); exact HO_6.out) hg (.inl rfl)); have n1_ := zad (hp_); have n2_ := zad (IsS75.grown (by repeat (first | (with_reducible first | exact HI0.out | apply zbb | apply zbc | apply zbd | apply zbg | apply zbh) | exact HI0.out)) hg (IsS75.own_ne HI0.out HO_7.out (by decide))); have n3_ := zad ((by rw [hw]; exact zah (HB.out) (Nat.le_trans HL.out GB28.out) : Below w0.heap.size w0 w36)); have n4_ := zad (KeepBut.trans (by repeat (first | (with_reducible first | exact HK.out | apply zao | apply zap | apply zaq | apply zar) | exact HK.out)) (KeepBut.of_grown hg g) (Kd.R_base2 HO_7.out)); clear HO_6; clear HO_7; clear HI0; clear HB; clear HK; have HO_6 := n0_; have HO_7 := n1_; have HI0 := n2_; have HB := n3_; have HK := n4_; clear n0_ n1_ n2_ n3_ n4_; clear hg hw hp_)); try go_wp2_with (first | (go_at_call 80; (with_reducible refine (spec_l1Cur_pick.calls g s0_0 x1001_1 x1002_1 (x7_1.length : Int) t1120 t1121 t1122 w0 _ ?side1 ?side2 A21.out).mono ?_); (case side1 => repeat (first | (with_reducible first | exact HI0.out | apply zbb | apply zbc | apply zbd | apply zbg | apply zbh) | exact HI0.out)); (case side2 => repeat (first | (with_reducible first | exact HB.out | apply zag | apply zae | apply zaf | refine zah ?_ (zbf HI0.out)) | exact HB.out)); rintro e w31 ⟨rfl, hi, hb, hk⟩; have n0_ := zad (Kd.R_mono (Kd.R_keep (zbe (show IsS75 w0 _ g s0_0 x1001_1 x1002_1 from by repeat (first | (with_reducible first | exact HI0.out | apply zbb | apply zbc | apply zbd | apply zbg | apply zbh) | exact HI0.out)) (by (with_reducible repeat (first | apply zai | apply zaj | apply zak)); exact HO_6.out) (by decide)) hk (fun _ h => h.2)) (fun _ h => h.1)); have n1_ := zad (Kd.R_mono (Kd.R_keep (zbe (show IsS75 w0 _ g s0_0 x1001_1 x1002_1 from by repeat (first | (with_reducible first | exact HI0.out | apply zbb | apply zbc | apply zbd | apply zbg | apply zbh) | exact HI0.out)) (by (with_reducible repeat (first | apply zai | apply zaj | apply zak)); exact HO_7.out) (by decide)) hk (fun _ h => h.2)) (fun _ h => h.1)); have n2_ := zad (KeepBut.trans (by repeat (first | (with_reducible first | exact HK.out | apply zao | apply zap | apply zaq | apply zar) | exact HK.out)) hk (.inl rfl)); have n3_ := zad (hb); have n4_ := zad (hi); clear HO_6; clear HO_7; clear HK; clear HB; clear HI0; have HO_6 := n0_; have HO_7 := n1_; have HK := n2_; have HB := n3_; have HI0 := n4_; clear n0_ n1_ n2_ n3_ n4_; (try clear hb); (try clear hb2); (try clear hk); (try clear hi)) | (go_at_call 80; (with_reducible refine (spec_l1Cur_pick.calls g s0_0 t1121 t1122 (x7_1.length : Int) t1123 t1124 t1125 w0 _ ?side1 ?side2 A22.out).mono ?_); (case side1 => repeat (first | (with_reducible first | exact HI0.out | apply zbb | apply zbc | apply zbd | apply zbg | apply zbh) | exact HI0.out)); (case side2 => repeat (first | (with_reducible first | exact HB.out | apply zag | apply zae | apply zaf | refine zah ?_ (zbf HI0.out)) | exact HB.out)); rintro e w32 ⟨rfl, hi, hb, hk⟩; have n0_ := zad (Kd.R_mono (Kd.R_keep (zbe (show IsS75 w0 _ g s0_0 t1121 t1122 from by repeat (first | (with_reducible first | exact HI0.out | apply zbb | apply zbc | apply zbd | apply zbg | apply zbh) | exact HI0.out)) (by (with_reducible repeat (first | apply zai | apply zaj | apply zak)); exact HO_6.out) (by decide)) hk (fun _ h => h.2)) (fun _ h => h.1)); have n1_ := zad (Kd.R_mono (Kd.R_keep (zbe (show IsS75 w0 _ g s0_0 t1121 t1122 from by repeat (first | (with_reducible first | exact HI0.out | apply zbb | apply zbc | apply zbd | apply zbg | apply zbh) | exact HI0.out)) (by (with_reducible repeat (first | apply zai | apply zaj | apply zak)); exact HO_7.out) (by decide)) hk (fun _ h => h.2)) (fun _ h => h.1)); have n2_ := zad (KeepBut.trans (by repeat (first | (with_reducible first | exact HK.out | apply zao | apply zap | apply zaq | apply zar) | exact HK.out)) hk (.inl rfl)); have n3_ := zad (hb); have n4_ := zad (hi); clear HO_6; clear HO_7; clear HK; clear HB; clear HI0; have HO_6 := n0_; have HO_7 := n1_; have HK := n2_; have HB := n3_; have HI0 := n4_; clear n0_ n1_ n2_ n3_ n4_; (try clear hb); (try clear hb2); (try clear hk); (try clear hi); have p1126 : 0 ≤ (t1120 : Int) := zas (by first | (with_reducible assumption) | assumption); have q1126 : t1120 < (x7_1.length : Int) := zas (by first | (with_reducible assumption) | assumption); obtain ⟨ad1126, e1126, hx1126_0⟩ := Kd.at_int (Kd.R_reads' HO_7.out).2.2 t1120 p1126 q1126; cases e1126; replace p1126 := eq_true p1126; replace q1126 := eq_true q1126; have p1127 : 0 ≤ (t1123 : Int) := zas (by first | (with_reducible assumption) | assumption); have q1127 : t1123 < (x7_1.length : Int) := zas (by first | (with_reducible assumption) | assumption); obtain ⟨ad1127, e1127, hx1127_0⟩ := Kd.at_int (Kd.R_reads' HO_7.out).2.2 t1123 p1127 q1127; obtain rfl : ad1126 = ad1127 := (by injection e1127); replace p1127 := eq_true p1127; replace q1127 := eq_true q1127; have p1128 : 0 ≤ (t1120 : Int) := zas (by first | (with_reducible assumption) | assumption); have q1128 : t1120 < (x7_1.length : Int) := zas (by first | (with_reducible assumption) | assumption); obtain ⟨ad1128, e1128, hx1128_0⟩ := Kd.at_int (Kd.R_reads' HO_7.out).2.2 t1120 p1128 q1128; obtain rfl : ad1126 = ad1128 := (by injection e1128); replace p1128 := eq_true p1128; replace q1128 := eq_true q1128; have p28 : 0 ≤ (t1120 : Int) := zas (by first | (with_reducible assumption) | assumption); have q28 : (t1120 : Int) < ((x7_1.length : Int) : Int) := zas (by first | (with_reducible assumption) | assumption); obtain ⟨go28, co28, eo28, gb28, gl28, cl28, HG28⟩ := Kd.R_form HO_7.out (by omega); (first | cases eo28 | (injection eo28 with ea_ en_ ec_; (first | subst ea_ | (injection ea_ with ea_; subst ea_)); subst ec_; clear en_)); have GB28 := zad gb28; have GG28 := zad HG28; clear gb28 gl28 HG28; (first | simp only [add_plain] at hx1126_0 | skip); (first | simp only [add_plain] at hx1127_0 | skip); (first | simp only [add_plain] at hx1128_0 | skip); obtain ⟨hx28_0, hf28_0⟩ := Kd.R_celln 0 HO_7.out (t1120 : Int) p28 q28; replace p28 := eq_true p28; replace q28 := eq_true q28; obtain ⟨hy33_, hz33_⟩ := Kd.R_celln 0 HO_7.out (t1120 : Int) (zas (by first | (with_reducible assumption) | assumption)) (zas (by first | (with_reducible assumption) | assumption)); have HP33 := Kd.R_putg HO_7.out (t1120 : Int) (wrap64 ((rd x7_1 t1120) - 1))) | ((with_reducible refine gate_store (t := 3) (p := 57) rfl ?_); (try (rw [drewN_self w32]; generalize hq_ : World.drewN w32 _ = w32; have n0_ := zad (Kd.R_at hq_ HO_6.out); have n1_ := zad (Kd.R_at hq_ HO_7.out); have n2_ := zad (IsS75.at_ hq_ HI0.out); have n3_ := zad (keep_at hq_ HK.out); have n4_ := zad (below_at hq_ HB.out); clear hq_ HO_6 HO_7 HI0 HK HB; have HO_6 := n0_; have HO_7 := n1_; have HI0 := n2_; have HK := n3_; have HB := n4_; clear n0_ n1_ n2_ n3_ n4_; (try (obtain ⟨hy33_, hz33_⟩ := Kd.R_celln 0 HO_7.out (t1120 : Int) (zas (by first | (with_reducible assumption) | assumption)) (zas (by first | (with_reducible assumption) | assumption)))); (try (have HP33 := Kd.R_putg HO_7.out (t1120 : Int) (wrap64 ((rd x7_1 t1120) - 1)))))); refine store_event (t := 3) (p := 57) (v := ?vo_w34) (w1 := (w32.setCell ⟨go28, (t1120 : Int).toNat, none⟩ (.int .i64 (wrap64 ((rd x7_1 t1120) - 1))))) ?hg ?ho ?hn ?hr ?_; (case ho => rfl); (case hg => rfl); (case hn => rfl); (case hr => first | (go_simp; done) | (go_simp; rfl)); intro w34 hw; have hg : w32.grownBy w34 (some go28) := (by rw [hw]; exact HP33.2); have hp_ : Kd.R (Kd.int .i64) 3 w34 w.heap.size (fun k_ => some k_ ≠ (.slice Ao14 t1098.length co14 : Value).ownBlock) (.slice (some ⟨go28, 0, none⟩) x7_1.length co30) y1129 := (by rw [hw, Ny1129.out]; exact HP33.1); clear HP33; have n0_ := zad (Kd.R_after (v := (.slice (some ⟨go28, 0, none⟩) x7_1.length co30)) (v1 := (.slice (some ⟨go28, 0, none⟩) x7_1.length co30)) (ok := (fun _ => True)) (by (with_reducible repeat (first | apply zai | apply zaj | apply zak)); exact Kd.R_mono HO_6.out (fun _ hk => ⟨trivial, hk⟩)) hg (.inl rfl)); have n1_ := zad (hp_); have n2_ := zad (IsS75.grown (by repeat (first | (with_reducible first | exact HI0.out | apply zbb | apply zbc | apply zbd | apply zbg | apply zbh) | exact HI0.out)) hg (IsS75.own_ne HI0.out HO_7.out (by decide))); have n3_ := zad ((by rw [hw]; exact zah (HB.out) (Nat.le_trans HL.out GB28.out) : Below w0.heap.size w0 w34)); have n4_ := zad (KeepBut.trans (by repeat (first | (with_reducible first | exact HK.out | apply zao | apply zap | apply zaq | apply zar) | exact HK.out)) (KeepBut.of_grown hg g) (Kd.R_base2 HO_7.out)); clear HO_6; clear HO_7; clear HI0; clear HB; clear HK; have HO_6 := n0_; have HO_7 := n1_; have HI0 := n2_; have HB := n3_; have HK := n4_; clear n0_ n1_ n2_ n3_ n4_; clear hg hw hp_; have p1130 : 0 ≤ (t1123 : Int) := zas (by first | (with_reducible assumption) | assumption); have q1130 : t1123 < (y1129.length : Int) := (by have h_ : (t1123 : Int) < ((x7_1.length : Int) : Int) := zas (by first | (with_reducible assumption) | assumption); first | (have e_ := (Kd.R_reads' HO_7.out).1; omega) | simpa only [Ny1129.out, List.length_set] using h_); have ql1130 : ((t1123 : Int) < ((x7_1.length : Int) : Int)) = True := eq_true (zas (by first | (with_reducible assumption) | assumption)); obtain ⟨ad1130, e1130, hx1130_0⟩ := Kd.at_int (Kd.R_reads' HO_7.out).2.2 t1123 p1130 q1130; obtain rfl : (⟨go28, 0, none⟩ : Addr) = ad1130 := (by injection e1130); (first | simp only [add_plain] at hx1130_0 | simp only [add_at] at hx1130_0 | simp only [Addr.add, Nat.zero_add] at hx1130_0 | skip); replace p1130 := eq_true p1130; replace q1130 := eq_true q1130; have p29 : 0 ≤ (t1123 : Int) := zas (by first | (with_reducible assumption) | assumption); have q29 : (t1123 : Int) < ((x7_1.length : Int) : Int) := zas (by first | (with_reducible assumption) | assumption); obtain ⟨hx29_0, hf29_0⟩ := Kd.R_celln 0 HO_7.out (t1123 : Int) p29 q29; replace p29 := eq_true p29; replace q29 := eq_true q29; obtain ⟨hy35_, hz35_⟩ := Kd.R_celln 0 HO_7.out (t1123 : Int) (zas (by first | (with_reducible assumption) | assumption)) (zas (by first | (with_reducible assumption) | assumption)); have HP35 := Kd.R_putg HO_7.out (t1123 : Int) (wrap64 ((rd y1129 t1123) + 1))) | ((with_reducible refine gate_store (t := 3) (p := 63) rfl ?_); (try (rw [drewN_self w34]; generalize hq_ : World.drewN w34 _ = w34; have n0_ := zad (Kd.R_at hq_ HO_6.out); have n1_ := zad (Kd.R_at hq_ HO_7.out); have n2_ := zad (IsS75.at_ hq_ HI0.out); have n3_ := zad (keep_at hq_ HK.out); have n4_ := zad (below_at hq_ HB.out); clear hq_ HO_6 HO_7 HI0 HK HB; have HO_6 := n0_; have HO_7 := n1_; have HI0 := n2_; have HK := n3_; have HB := n4_; clear n0_ n1_ n2_ n3_ n4_; (try (obtain ⟨hy35_, hz35_⟩ := Kd.R_celln 0 HO_7.out (t1123 : Int) (zas (by first | (with_reducible assumption) | assumption)) (zas (by first | (with_reducible assumption) | assumption)))); (try (have HP35 := Kd.R_putg HO_7.out (t1123 : Int) (wrap64 ((rd y1129 t1123) + 1)))))); refine store_event (t := 3) (p := 63) (v := ?vo_w36) (w1 := (w34.setCell ⟨go28, (t1123 : Int).toNat, none⟩ (.int .i64 (wrap64 ((rd y1129 t1123) + 1))))) ?hg ?ho ?hn ?hr ?_; (case ho => rfl); (case hg => rfl); (case hn => rfl); (case hr => first | (go_simp; done) | (go_simp; rfl)); intro w36 hw; have hg : w34.grownBy w36 (some go28) := (by rw [hw]; exact HP35.2); have hp_ : Kd.R (Kd.int .i64) 3 w36 w.heap.size (fun k_ => some k_ ≠ (.slice Ao14 t1098.length co14 : Value).ownBlock) (.slice (some ⟨go28, 0, none⟩) x7_1.length co30) y1131 := (by rw [hw, Ny1131.out]; exact HP35.1); clear HP35; have n0_ := zad (Kd.R_after (v := (.slice (some ⟨go28, 0, none⟩) x7_1.length co30)) (v1 := (.slice (some ⟨go28, 0, none⟩) x7_1.length co30)) (ok := (fun _ => True)) (by (with_reducible repeat (first | apply zai | apply zaj | apply zak)); exact HO_6.out) hg (.inl rfl)); have n1_ := zad (hp_); have n2_ := zad (IsS75.grown (by repeat (first | (with_reducible first | exact HI0.out | apply zbb | apply zbc | apply zbd | apply zbg | apply zbh) | exact HI0.out)) hg (IsS75.own_ne HI0.out HO_7.out (by decide))); have n3_ := zad ((by rw [hw]; exact zah (HB.out) (Nat.le_trans HL.out GB28.out) : Below w0.heap.size w0 w36)); have n4_ := zad (KeepBut.trans (by repeat (first | (with_reducible first | exact HK.out | apply zao | apply zap | apply zaq | apply zar) | exact HK.out)) (KeepBut.of_grown hg g) (Kd.R_base2 HO_7.out)); clear HO_6; clear HO_7; clear HI0; clear HB; clear HK; have HO_6 := n0_; have HO_7 := n1_; have HI0 := n2_; have HB := n3_; have HK := n4_; clear n0_ n1_ n2_ n3_ n4_; clear hg hw hp_)))
                   go_roundg kj16
                   case measure => have := HK1.out; have := HJ16.out; omega
                   case rel => exact ⟨(y1131), (wrap64 (x8_1 - 1)), (t1124), (t1125), (by first | rfl | (simp; done) | (simp [*]; done)), H', ⟨by have := HK1.out; have := HJ16.out; omega⟩, ⟨by (with_reducible repeat (first | apply zai | apply zaj | apply zak)); exact Kd.R_mono HO_6.out (fun _ hk => hk.2)⟩, ⟨by (with_reducible repeat (first | apply zai | apply zaj | apply zak)); exact HO_7.out⟩, ⟨by repeat (first | (with_reducible first | exact HI0.out | apply zbb | apply zbc | apply zbd | apply zbg | apply zbh) | exact HI0.out)⟩, ⟨by repeat (first | (with_reducible first | exact HK.out | apply zao | apply zap | apply zaq | apply zar) | exact HK.out)⟩, ⟨by repeat (first | (with_reducible first | exact HB.out | apply zag | apply zae | apply zaf | refine zah ?_ (zbf HI0.out)) | exact HB.out)⟩⟩
                 · rw [if_neg c27] at H
                   have c27b0 : decide ((wrap64 ((rd x7_1 t1123) + 2)) ≤ (rd x7_1 t1120)) = false := decide_eq_false c27
                   clear c27
                   have H' := zad H
                   clear H
                   obtain ⟨Ao37, co37, eo37⟩ := Kd.R_slice HO_7.out
                   subst eo37
                   go_wp2_with (first | (go_at_call 80; (with_reducible refine (spec_l1Cur_pick.calls g s0_0 x1001_1 x1002_1 (x7_1.length : Int) t1120 t1121 t1122 w0 _ ?side1 ?side2 A21.out).mono ?_); (case side1 => repeat (first | (with_reducible first | exact HI0.out | apply zbb | apply zbc | apply zbd | apply zbg | apply zbh) | exact HI0.out)); (case side2 => repeat (first | (with_reducible first | exact HB.out | apply zag | apply zae | apply zaf | refine zah ?_ (zbf HI0.out)) | exact HB.out)); rintro e w38 ⟨rfl, hi, hb, hk⟩; have n0_ := zad (Kd.R_mono (Kd.R_keep (zbe (show IsS75 w0 _ g s0_0 x1001_1 x1002_1 from by repeat (first | (with_reducible first | exact HI0.out | apply zbb | apply zbc | apply zbd | apply zbg | apply zbh) | exact HI0.out)) (by (with_reducible repeat (first | apply zai | apply zaj | apply zak)); exact HO_6.out) (by decide)) hk (fun _ h => h.2)) (fun _ h => h.1)); have n1_ := zad (Kd.R_mono (Kd.R_keep (zbe (show IsS75 w0 _ g s0_0 x1001_1 x1002_1 from by repeat (first | (with_reducible first | exact HI0.out | apply zbb | apply zbc | apply zbd | apply zbg | apply zbh) | exact HI0.out)) (by (with_reducible repeat (first | apply zai | apply zaj | apply zak)); exact HO_7.out) (by decide)) hk (fun _ h => h.2)) (fun _ h => h.1)); have n2_ := zad (KeepBut.trans (by repeat (first | (with_reducible first | exact HK.out | apply zao | apply zap | apply zaq | apply zar) | exact HK.out)) hk (.inl rfl)); have n3_ := zad (hb); have n4_ := zad (hi); clear HO_6; clear HO_7; clear HK; clear HB; clear HI0; have HO_6 := n0_; have HO_7 := n1_; have HK := n2_; have HB := n3_; have HI0 := n4_; clear n0_ n1_ n2_ n3_ n4_; (try clear hb); (try clear hb2); (try clear hk); (try clear hi)) | (go_at_call 80; (with_reducible refine (spec_l1Cur_pick.calls g s0_0 t1121 t1122 (x7_1.length : Int) t1123 t1124 t1125 w0 _ ?side1 ?side2 A22.out).mono ?_); (case side1 => repeat (first | (with_reducible first | exact HI0.out | apply zbb | apply zbc | apply zbd | apply zbg | apply zbh) | exact HI0.out)); (case side2 => repeat (first | (with_reducible first | exact HB.out | apply zag | apply zae | apply zaf | refine zah ?_ (zbf HI0.out)) | exact HB.out)); rintro e w39 ⟨rfl, hi, hb, hk⟩; have n0_ := zad (Kd.R_mono (Kd.R_keep (zbe (show IsS75 w0 _ g s0_0 t1121 t1122 from by repeat (first | (with_reducible first | exact HI0.out | apply zbb | apply zbc | apply zbd | apply zbg | apply zbh) | exact HI0.out)) (by (with_reducible repeat (first | apply zai | apply zaj | apply zak)); exact HO_6.out) (by decide)) hk (fun _ h => h.2)) (fun _ h => h.1)); have n1_ := zad (Kd.R_mono (Kd.R_keep (zbe (show IsS75 w0 _ g s0_0 t1121 t1122 from by repeat (first | (with_reducible first | exact HI0.out | apply zbb | apply zbc | apply zbd | apply zbg | apply zbh) | exact HI0.out)) (by (with_reducible repeat (first | apply zai | apply zaj | apply zak)); exact HO_7.out) (by decide)) hk (fun _ h => h.2)) (fun _ h => h.1)); have n2_ := zad (KeepBut.trans (by repeat (first | (with_reducible first | exact HK.out | apply zao | apply zap | apply zaq | apply zar) | exact HK.out)) hk (.inl rfl)); have n3_ := zad (hb); have n4_ := zad (hi); clear HO_6; clear HO_7; clear HK; clear HB; clear HI0; have HO_6 := n0_; have HO_7 := n1_; have HK := n2_; have HB := n3_; have HI0 := n4_; clear n0_ n1_ n2_ n3_ n4_; (try clear hb); (try clear hb2); (try clear hk); (try clear hi); have p1126 : 0 ≤ (t1120 : Int) := zas (by first | (with_reducible assumption) | assumption); have q1126 : t1120 < (x7_1.length : Int) := zas (by first | (with_reducible assumption) | assumption); obtain ⟨ad1126, e1126, hx1126_0⟩ := Kd.at_int (Kd.R_reads' HO_7.out).2.2 t1120 p1126 q1126; cases e1126; replace p1126 := eq_true p1126; replace q1126 := eq_true q1126; have p1127 : 0 ≤ (t1123 : Int) := zas (by first | (with_reducible assumption) | assumption); have q1127 : t1123 < (x7_1.length : Int) := zas (by first | (with_reducible assumption) | assumption); obtain ⟨ad1127, e1127, hx1127_0⟩ := Kd.at_int (Kd.R_reads' HO_7.out).2.2 t1123 p1127 q1127; obtain rfl : ad1126 = ad1127 := (by injection e1127); replace p1127 := eq_true p1127; replace q1127 := eq_true q1127))
                   repeat (go_quiet (first | (go_at_call 80; (with_reducible refine (spec_l1Cur_pick.calls g s0_0 x1001_1 x1002_1 (x7_1.length : Int) t1120 t1121 t1122 w0 _ ?side1 ?side2 A21.out).mono ?_); (case side1 => repeat (first | (with_reducible first | exact HI0.out | apply zbb | apply zbc | apply zbd | apply zbg | apply zbh) | exact HI0.out)); (case side2 => repeat (first | (with_reducible first | exact HB.out | apply zag | apply zae | apply zaf | refine zah ?_ (zbf HI0.out)) | exact HB.out)); rintro e w38 ⟨rfl, hi, hb, hk⟩; have n0_ := zad (Kd.R_mono (Kd.R_keep (zbe (show IsS75 w0 _ g s0_0 x1001_1 x1002_1 from by repeat (first | (with_reducible first | exact HI0.out | apply zbb | apply zbc | apply zbd | apply zbg | apply zbh) | exact HI0.out)) (by (with_reducible repeat (first | apply zai | apply zaj | apply zak)); exact HO_6.out) (by decide)) hk (fun _ h => h.2)) (fun _ h => h.1)); have n1_ := zad (Kd.R_mono (Kd.R_keep (zbe (show IsS75 w0 _ g s0_0 x1001_1 x1002_1 from by repeat (first | (with_reducible first | exact HI0.out | apply zbb | apply zbc | apply zbd | apply zbg | apply zbh) | exact HI0.out)) (by (with_reducible repeat (first | apply zai | apply zaj | apply zak)); exact HO_7.out) (by decide)) hk (fun _ h => h.2)) (fun _ h => h.1)); have n2_ := zad (KeepBut.trans (by repeat (first | (with_reducible first | exact HK.out | apply zao | apply zap | apply zaq | apply zar) | exact HK.out)) hk (.inl rfl)); have n3_ := zad (hb); have n4_ := zad (hi); clear HO_6; clear HO_7; clear HK; clear HB; clear HI0; have HO_6 := n0_; have HO_7 := n1_; have HK := n2_; have HB := n3_; have HI0 := n4_; clear n0_ n1_ n2_ n3_ n4_; (try clear hb); (try clear hb2); (try clear hk); (try clear hi)) | (go_at_call 80; (with_reducible refine (spec_l1Cur_pick.calls g s0_0 t1121 t1122 (x7_1.length : Int) t1123 t1124 t1125 w0 _ ?side1 ?side2 A22.out).mono ?_); (case side1 => repeat (first | (with_reducible first | exact HI0.out | apply zbb | apply zbc | apply zbd | apply zbg | apply zbh) | exact HI0.out)); (case side2 => repeat (first | (with_reducible first | exact HB.out | apply zag | apply zae | apply zaf | refine zah ?_ (zbf HI0.out)) | exact HB.out)); rintro e w39 ⟨rfl, hi, hb, hk⟩; have n0_ := zad (Kd.R_mono (Kd.R_keep (zbe (show IsS75 w0 _ g s0_0 t1121 t1122 from by repeat (first | (with_reducible first | exact HI0.out | apply zbb | apply zbc | apply zbd | apply zbg | apply zbh) | exact HI0.out)) (by (with_reducible repeat (first | apply zai | apply zaj | apply zak)); exact HO_6.out) (by decide)) hk (fun _ h => h.2)) (fun _ h => h.1)); have n1_ := zad (Kd.R_mono (Kd.R_keep (zbe (show IsS75 w0 _ g s0_0 t1121 t1122 from by repeat (first | (with_reducible first | exact HI0.out | apply zbb | apply zbc | apply zbd | apply zbg | apply zbh) | exact HI0.out)) (by (with_reducible repeat (first | apply zai | apply zaj | apply zak)); exact HO_7.out) (by decide)) hk (fun _ h => h.2)) (fun _ h => h.1)); have n2_ := zad (KeepBut.trans (by repeat (first | (with_reducible first | exact HK.out | apply zao | apply zap | apply zaq | apply zar) | exact HK.out)) hk (.inl rfl)); have n3_ := zad (hb); have n4_ := zad (hi); clear HO_6; clear HO_7; clear HK; clear HB; clear HI0; have HO_6 := n0_; have HO_7 := n1_; have HK := n2_; have HB := n3_; have HI0 := n4_; clear n0_ n1_ n2_ n3_ n4_; (try clear hb); (try clear hb2); (try clear hk); (try clear hi); have p1126 : 0 ≤ (t1120 : Int) := zas (by first | (with_reducible assumption) | assumption); have q1126 : t1120 < (x7_1.length : Int) := zas (by first | (with_reducible assumption) | assumption); obtain ⟨ad1126, e1126, hx1126_0⟩ := Kd.at_int (Kd.R_reads' HO_7.out).2.2 t1120 p1126 q1126; cases e1126; replace p1126 := eq_true p1126; replace q1126 := eq_true q1126; have p1127 : 0 ≤ (t1123 : Int) := zas (by first | (with_reducible assumption) | assumption); have q1127 : t1123 < (x7_1.length : Int) := zas (by first | (with_reducible assumption) | assumption); obtain ⟨ad1127, e1127, hx1127_0⟩ := Kd.at_int (Kd.R_reads' HO_7.out).2.2 t1123 p1127 q1127; obtain rfl : ad1126 = ad1127 := (by injection e1127); replace p1127 := eq_true p1127; replace q1127 := eq_true q1127)); try go_wp2_with (first | (go_at_call 80; (with_reducible refine (spec_l1Cur_pick.calls g s0_0 x1001_1 x1002_1 (x7_1.length : Int) t1120 t1121 t1122 w0 _ ?side1 ?side2 A21.out).mono ?_); (case side1 => repeat (first | (with_reducible first | exact HI0.out | apply zbb | apply zbc | apply zbd | apply zbg | apply zbh) | exact HI0.out)); (case side2 => repeat (first | (with_reducible first | exact HB.out | apply zag | apply zae | apply zaf | refine zah ?_ (zbf HI0.out)) | exact HB.out)); rintro e w38 ⟨rfl, hi, hb, hk⟩; have n0_ := zad (Kd.R_mono (Kd.R_keep (zbe (show IsS75 w0 _ g s0_0 x1001_1 x1002_1 from by repeat (first | (with_reducible first | exact HI0.out | apply zbb | apply zbc | apply zbd | apply zbg | apply zbh) | exact HI0.out)) (by (with_reducible repeat (first | apply zai | apply zaj | apply zak)); exact HO_6.out) (by decide)) hk (fun _ h => h.2)) (fun _ h => h.1)); have n1_ := zad (Kd.R_mono (Kd.R_keep (zbe (show IsS75 w0 _ g s0_0 x1001_1 x1002_1 from by repeat (first | (with_reducible first | exact HI0.out | apply zbb | apply zbc | apply zbd | apply zbg | apply zbh) | exact HI0.out)) (by (with_reducible repeat (first | apply zai | apply zaj | apply zak)); exact HO_7.out) (by decide)) hk (fun _ h => h.2)) (fun _ h => h.1)); have n2_ := zad (KeepBut.trans (by repeat (first | (with_reducible first | exact HK.out | apply zao | apply zap | apply zaq | apply zar) | exact HK.out)) hk (.inl rfl)); have n3_ := zad (hb); have n4_ := zad (hi); clear HO_6; clear HO_7; clear HK; clear HB; clear HI0; have HO_6 := n0_; have HO_7 := n1_; have HK := n2_; have HB := n3_; have HI0 := n4_; clear n0_ n1_ n2_ n3_ n4_; (try clear hb); (try clear hb2); (try clear hk); (try clear hi)) | (go_at_call 80; (with_reducible refine (spec_l1Cur_pick.calls g s0_0 t1121 t1122 (x7_1.length : Int) t1123 t1124 t1125 w0 _ ?side1 ?side2 A22.out).mono ?_); (case side1 => repeat (first | (with_reducible first | exact HI0.out | apply zbb | apply zbc | apply zbd | apply zbg | apply zbh) | exact HI0.out)); (case side2 => repeat (first | (with_reducible first | exact HB.out | apply zag | apply zae | apply zaf | refine zah ?_ (zbf HI0.out)) | exact HB.out)); rintro e w39 ⟨rfl, hi, hb, hk⟩; have n0_ := zad (Kd.R_mono (Kd.R_keep (zbe (show IsS75 w0 _ g s0_0 t1121 t1122 from by repeat (first | (with_reducible first | exact HI0.out | apply zbb | apply zbc | apply zbd | apply zbg | apply zbh) | exact HI0.out)) (by (with_reducible repeat (first | apply zai | apply zaj | apply zak)); exact HO_6.out) (by decide)) hk (fun _ h => h.2)) (fun _ h => h.1)); have n1_ := zad (Kd.R_mono (Kd.R_keep (zbe (show IsS75 w0 _ g s0_0 t1121 t1122 from by repeat (first | (with_reducible first | exact HI0.out | apply zbb | apply zbc | apply zbd | apply zbg | apply zbh) | exact HI0.out)) (by (with_reducible repeat (first | apply zai | apply zaj | apply zak)); exact HO_7.out) (by decide)) hk (fun _ h => h.2)) (fun _ h => h.1)); have n2_ := zad (KeepBut.trans (by repeat (first | (with_reducible first | exact HK.out | apply zao | apply zap | apply zaq | apply zar) | exact HK.out)) hk (.inl rfl)); have n3_ := zad (hb); have n4_ := zad (hi); clear HO_6; clear HO_7; clear HK; clear HB; clear HI0; have HO_6 := n0_; have HO_7 := n1_; have HK := n2_; have HB := n3_; have HI0 := n4_; clear n0_ n1_ n2_ n3_ n4_; (try clear hb); (try clear hb2); (try clear hk); (try clear hi); have p1126 : 0 ≤ (t1120 : Int) := zas (by first | (with_reducible assumption) | assumption); have q1126 : t1120 < (x7_1.length : Int) := zas (by first | (with_reducible assumption) | assumption); obtain ⟨ad1126, e1126, hx1126_0⟩ := Kd.at_int (Kd.R_reads' HO_7.out).2.2 t1120 p1126 q1126; cases e1126; replace p1126 := eq_true p1126; replace q1126 := eq_true q1126; have p1127 : 0 ≤ (t1123 : Int) := zas (by first | (with_reducible assumption) | assumption); have q1127 : t1123 < (x7_1.length : Int) := zas (by first | (with_reducible assumption) | assumption); obtain ⟨ad1127, e1127, hx1127_0⟩ := Kd.at_int (Kd.R_reads' HO_7.out).2.2 t1123 p1127 q1127; obtain rfl : ad1126 = ad1127 := (by injection e1127); replace p1127 := eq_true p1127; replace q1127 := eq_true q1127)))
                   go_roundg kj16
                   case measure => have := HK1.out; have := HJ16.out; omega
                   case rel => exact ⟨(x7_1), (wrap64 (x8_1 - 1)), (t1124), (t1125), (by first | rfl | (simp; done) | (simp [*]; done)), H', ⟨by have := HK1.out; have := HJ16.out; omega⟩, ⟨by (with_reducible repeat (first | apply zai | apply zaj | apply zak)); exact HO_6.out⟩, ⟨by (with_reducible repeat (first | apply zai | apply zaj | apply zak)); exact HO_7.out⟩, ⟨by repeat (first | (with_reducible first | exact HI0.out | apply zbb | apply zbc | apply zbd | apply zbg | apply zbh) | exact HI0.out)⟩, ⟨by repeat (first | (with_reducible first | exact HK.out | apply zao | apply zap | apply zaq | apply zar) | exact HK.out)⟩, ⟨by repeat (first | (with_reducible first | exact HB.out | apply zag | apply zae | apply zaf | refine zah ?_ (zbf HI0.out)) | exact HB.out)⟩⟩
               · rw [if_neg c26] at H
                 exact absurd H (by simp)
             · rw [if_neg c25] at H
               exact absurd H (by simp)
           · rw [if_neg c24] at H
             exact absurd H (by simp)
         · rw [if_neg c23] at H
           exact absurd H (by simp)
       · replace c20 := Bool.eq_false_iff.mpr c20
         subst c20
         have H1 : (some (x7_1, t1098, x1001_1, x1002_1)) = some (r1, r2, r3, r4) := by rw [if_neg (show ¬ (false = true) by decide)] at H; exact H
         clear H
         have H := H1
         clear H1
         simp only [Option.some.injEq, Prod.mk.injEq] at H
         obtain ⟨rfl, rfl, rfl, rfl⟩ := H
         go_wp2
         repeat (go_quiet (fail); try go_wp2)
         go_ret2
         exact ⟨_, _, by first | rfl | (simp [errW_none, errW_some] <;> rfl) | (simp [*, errW_none, errW_some] <;> rfl), by (with_reducible repeat (first | apply zai | apply zaj | apply zak)); exact HO_7.out, by (with_reducible repeat (first | apply zai | apply zaj | apply zak)); exact HO_6.out, by repeat (first | (with_reducible first | exact HI0.out | apply zbb | apply zbc | apply zbd | apply zbg | apply zbh) | exact HI0.out), by repeat (first | (with_reducible first | exact HB.out | apply zag | apply zae | apply zaf | refine zah ?_ (zbf HI0.out)) | exact HB.out), by repeat (first | (with_reducible first | exact HK.out | apply zao | apply zap | apply zaq | apply zar) | exact HK.out)⟩
def spec_DrawBigGifts.f (k : Nat) (l0 : List Int) : Option (List Int × List Int) := (spec_l1Cur_majorized.f k l0 0 0 25).bind fun bt1133 => (some (bt1133.1, bt1133.2.1))
set_option maxHeartbeats 8000000 in
set_option maxRecDepth 100000 in
theorem spec_DrawBigGifts.calls (k : Nat) (A0 : Option Addr) (c0 : Nat) (l0 : List Int) (r1 : List Int) (r2 : List Int) (w : World) (hr0 : Kd.C (Kd.int .u8) w A0 l0.length l0) (hc0 : l0.length ≤ c0) (h : spec_DrawBigGifts.f k l0 = some (r1, r2)) :
 Calls Try.prog 58 #[.slice A0 l0.length c0] w fun e w' => ∃ v0_ v1_ : Value, e = .returned (.tuple #[v0_, v1_]) ∧ Kd.R (Kd.int .i64) 3 w' w.heap.size (fun k_ => some k_ ≠ (v1_ : Value).ownBlock) v0_ r1 ∧ Kd.R (Kd.int .i64) 3 w' w.heap.size (fun k_ => some k_ ≠ (v0_ : Value).ownBlock) v1_ r2 ∧ Below w.heap.size w w' := by
 have hu75 := Try.underlying75
 have HR0 := zad hr0
 have HC0 := zad hc0
 clear hr0 hc0
 have HB := zad (Below.refl w.heap.size w)
 have H : ((spec_l1Cur_majorized.f k l0 0 0 25).bind fun bt1133 => (some (bt1133.1, bt1133.2.1))) = some (r1, r2) := h
 clear h
 replace H := Option.bind_eq_some_iff.mp H
 obtain ⟨⟨t1133, t1136, t1139, t1140⟩, A20, H⟩ := H
 replace H : (some (t1133, t1136)) = some (r1, r2) := H
 have A2 := zad A20
 clear A20
 simp only [Option.some.injEq, Prod.mk.injEq] at H
 obtain ⟨rfl, rfl⟩ := H
 go_enter Try.func58, Try.ntmps58
 go_wp2_with (first | ((with_reducible refine gate_dst (N := 7) rfl ?_); refine box_event ?hg (N := 7) ?hd (cs := #[.slice A0 l0.length c0, .int .i64 0, .int .u64 0]) (t := 75) ?hr ?_; (case hd => rfl); (case hg => rfl); (case hr => first | (go_simp; done) | (go_simp; rfl)); intro gb1132 hg w3 hbox hb; have n0_ := zad (below_step (by repeat (first | (with_reducible first | exact HB.out | apply zag | apply zae | apply zaf) | exact HB.out)) hb); have n1_ := zad ((show IsS75 w w3 gb1132 l0 0 0 from ⟨_, _, hbox, (by rw [hg]; exact (below_size (by repeat (first | (with_reducible first | exact HB.out | apply zag | apply zae | apply zaf) | exact HB.out)))), HR0.out⟩)); clear HB; have HB := n0_; have HI1132 := n1_; clear n0_ n1_; clear hb hbox hg) | ((with_reducible refine gate_callee (f := 127) rfl ?_); refine goesL_ (some 9) rfl rfl Try.func127 (by kernel_rfl) rfl #[.pointer (some ⟨gb1132, 0, none⟩), .int .i64 25] rfl (by (try simp only [zat, zau, zav]); first | done | rfl | (simp only [zaw, zax]; rfl)) ?_; (with_reducible refine (spec_l1Cur_majorized.calls k gb1132 l0 0 0 25 t1133 t1136 t1139 t1140 w _ ?side1 ?side2 A2.out).mono ?_); (case side1 => repeat (first | (with_reducible first | exact HI1132.out | apply zbb | apply zbc | apply zbd | apply zbg | apply zbh) | exact HI1132.out)); (case side2 => repeat (first | (with_reducible first | exact HB.out | apply zag | apply zae | apply zaf | refine zah ?_ (zbf HI1132.out)) | exact HB.out)); rintro e w4 ⟨v1134, v1137, rfl, ho0, ho1, hi, hb, hk⟩; refine ⟨_, rfl, ?_⟩; have n0_ := zad (Kd.R_lower ho0 (below_size (by repeat (first | (with_reducible first | exact HB.out | apply zag | apply zae | apply zaf | refine zah ?_ (zbf HI1132.out)) | exact HB.out)))); have n1_ := zad (Kd.R_lower ho1 (below_size (by repeat (first | (with_reducible first | exact HB.out | apply zag | apply zae | apply zaf | refine zah ?_ (zbf HI1132.out)) | exact HB.out)))); have n2_ := zad (hb); have n3_ := zad (hi); clear HB; clear HI1132; have HO1135 := n0_; have HO1138 := n1_; have HB := n2_; have HI1132 := n3_; clear n0_ n1_ n2_ n3_; (try clear hb); (try clear hb2); (try clear hk); (try clear hi); (try clear ho0); (try clear ho1)))
 go_ret2
 exact ⟨_, _, by first | rfl | (simp [errW_none, errW_some] <;> rfl) | (simp [*, errW_none, errW_some] <;> rfl), by (with_reducible repeat (first | apply zai | apply zaj | apply zak)); exact HO1135.out, by (with_reducible repeat (first | apply zai | apply zaj | apply zak)); exact HO1138.out, by repeat (first | (with_reducible first | exact HB.out | apply zag | apply zae | apply zaf | refine zah ?_ (zbf HI1132.out)) | exact HB.out)⟩
def impl_within.f (a0 : Int) (a1 : Int) (a2 : Int) : Option (Bool) := if a0 ≥ a1 then (some (decide (a0 ≤ a2))) else (some false)
set_option maxHeartbeats 8000000 in
set_option maxRecDepth 100000 in
theorem impl_within.calls (a0 : Int) (a1 : Int) (a2 : Int) (r : Bool) (w : World) (h : impl_within.f a0 a1 a2 = some r) :
 Calls Try.prog 83 #[.int .i64 a0, .int .i64 a1, .int .i64 a2] w fun e w' => e = .returned (.bool r) ∧ Drawn0 w w' := by
 have H : (if a0 ≥ a1 then (some (decide (a0 ≤ a2))) else (some false)) = some r := h
 clear h
 by_cases c4 : a0 ≥ a1
 · rw [if_pos c4] at H
   have c4b0 : decide (a1 ≤ a0) = true := zaz c4
   clear c4
   obtain rfl := Option.some.inj H
   go_enter Try.func83, Try.ntmps83
   go_wp2
   go_ret
   exact ⟨by first | rfl | (simp; done) | (simp [*]; done), by repeat (first | exact Drawn0.refl _ | apply Drawn0.step)⟩
 · rw [if_neg c4] at H
   have c4b0 : decide (a1 ≤ a0) = false := decide_eq_false c4
   clear c4
   obtain rfl := Option.some.inj H
   go_enter Try.func83, Try.ntmps83
   go_wp2
   go_ret
   exact ⟨by first | rfl | (simp; done) | (simp [*]; done), by repeat (first | exact Drawn0.refl _ | apply Drawn0.step)⟩
def impl_allWithin.l0 : Nat → Int → Int → List Int → Int → Int → Option (Bool)
 | 0, _, _, _, _, _ => none
 | k + 1, x1, x2, x9, x10, x11 => if x11 < x10 then (if 0 ≤ x11 then (if x11 < (x9.length : Int) then ((impl_within.f (rd x9 x11) x1 x2).bind fun t158 => (if t158 = true then (impl_allWithin.l0 k x1 x2 x9 x10 (wrap64 (x11 + 1))) else (some false))) else (none)) else (none)) else (some true)
def impl_allWithin.f (k : Nat) (l0 : List Int) (a1 : Int) (a2 : Int) : Option (Bool) := impl_allWithin.l0 k a1 a2 l0 (l0.length : Int) 0
set_option maxHeartbeats 8000000 in
set_option maxRecDepth 100000 in
theorem impl_allWithin.calls (k : Nat) (A0 : Option Addr) (c0 : Nat) (l0 : List Int) (a1 : Int) (a2 : Int) (r : Bool) (w : World) (hr0 : Kd.C (Kd.int .i64) w A0 l0.length l0) (hc0 : l0.length ≤ c0) (h : impl_allWithin.f k l0 a1 a2 = some r) :
 Calls Try.prog 86 #[.slice A0 l0.length c0, .int .i64 a1, .int .i64 a2] w fun e w' => e = .returned (.bool r) ∧ Drawn0 w w' := by
 have HR0 := zad hr0
 have HC0 := zad hc0
 clear hr0 hc0
 have H : (impl_allWithin.l0 k a1 a2 l0 (l0.length : Int) 0) = some r := h
 clear h
 have H' := zad H
 clear H
 go_enter Try.func86, Try.ntmps86
 go_wp2
 go_loopg [11] k (fun kq v11 w' => ∃ (x11_1 : Int), v11 = .int .i64 x11_1 ∧ Aside0 (impl_allWithin.l0 kq a1 a2 l0 (l0.length : Int) x11_1 = some r) ∧ Aside0 (kq ≤ k) ∧ Drawn0 w w')
 case atStart => exact ⟨(0), (by first | rfl | (simp; done) | (simp [*]; done)), H', ⟨Nat.le_refl _⟩, by repeat (first | exact Drawn0.refl _ | apply Drawn0.step)⟩
 case round =>
  clear H'
  try clear p2
  obtain ⟨x11_1, rfl, HA, HK1, ⟨m1, rfl⟩⟩ := hrel
  cases gk with
  | zero => exact absurd HA.out (by simp [impl_allWithin.l0])
  | succ k1 =>
   have H := HA.out
   clear HA
   simp only [impl_allWithin.l0] at H
   by_cases c4 : x11_1 < (l0.length : Int)
   · rw [if_pos c4] at H
     have c4b0 : decide (x11_1 < (l0.length : Int)) = true := zaz c4
     clear c4
     by_cases c5 : 0 ≤ x11_1
     · rw [if_pos c5] at H
       have c5b0 : decide (0 ≤ x11_1) = true := zaz c5
       clear c5
       by_cases c6 : x11_1 < (l0.length : Int)
       · rw [if_pos c6] at H
         have c6b0 : decide (x11_1 < (l0.length : Int)) = true := zaz c6
         clear c6
         replace H := Option.bind_eq_some_iff.mp H
         obtain ⟨t158, A70, H⟩ := H
         replace H : (if t158 = true then (impl_allWithin.l0 k1 a1 a2 l0 (l0.length : Int) (wrap64 (x11_1 + 1))) else (some false)) = some r := H
         have A7 := zad A70
         clear A70
         by_cases c8 : t158 = true
         · subst c8
           have H1 : (impl_allWithin.l0 k1 a1 a2 l0 (l0.length : Int) (wrap64 (x11_1 + 1))) = some r := by rw [if_pos rfl] at H; exact H
           clear H
           have H := H1
           clear H1
           have H' := zad H
           clear H
           have p157 : 0 ≤ (x11_1 : Int) := zas (by first | (with_reducible assumption) | assumption)
           have q157 : x11_1 < (l0.length : Int) := zas (by first | (with_reducible assumption) | assumption)
           obtain ⟨ad157, e157, hx157_0⟩ := Kd.at_int HR0.out x11_1 p157 q157
           cases e157
           replace p157 := eq_true p157
           replace q157 := eq_true q157
           go_wp2_with (first | ((with_reducible refine gate_callee (f := 83) rfl ?_); refine goesL_ (some 18) rfl rfl Try.func83 (by kernel_rfl) rfl #[.int .i64 (rd l0 x11_1), .int .i64 a1, .int .i64 a2] rfl (by (try simp only [zat, zau, zav]); first | done | rfl | (simp only [zaw, zax]; rfl)) ?_; (with_reducible refine (impl_within.calls (rd l0 x11_1) a1 a2 true _ A7.out).mono ?_); rintro e w' ⟨rfl, ⟨nd, rfl⟩⟩; refine ⟨_, rfl, ?_⟩))
           go_roundg k1
           case measure => have := HK1.out; omega
           case rel => exact ⟨(wrap64 (x11_1 + 1)), (by first | rfl | (simp; done) | (simp [*]; done)), H', ⟨by have := HK1.out; omega⟩, by repeat (first | exact Drawn0.refl _ | apply Drawn0.step)⟩
         · replace c8 := Bool.eq_false_iff.mpr c8
           subst c8
           have H1 : (some false) = some r := by rw [if_neg (show ¬ (false = true) by decide)] at H; exact H
           clear H
           have H := H1
           clear H1
           obtain rfl := Option.some.inj H
           have p157 : 0 ≤ (x11_1 : Int) := zas (by first | (with_reducible assumption) | assumption)
           have q157 : x11_1 < (l0.length : Int) := zas (by first | (with_reducible assumption) | assumption)
           obtain ⟨ad157, e157, hx157_0⟩ := Kd.at_int HR0.out x11_1 p157 q157
           cases e157
           replace p157 := eq_true p157
           replace q157 := eq_true q157
           go_wp2_with (first | ((with_reducible refine gate_callee (f := 83) rfl ?_); refine goesL_ (some 18) rfl rfl Try.func83 (by kernel_rfl) rfl #[.int .i64 (rd l0 x11_1), .int .i64 a1, .int .i64 a2] rfl (by (try simp only [zat, zau, zav]); first | done | rfl | (simp only [zaw, zax]; rfl)) ?_; (with_reducible refine (impl_within.calls (rd l0 x11_1) a1 a2 false _ A7.out).mono ?_); rintro e w' ⟨rfl, ⟨nd, rfl⟩⟩; refine ⟨_, rfl, ?_⟩))
           go_ret
           exact ⟨by first | rfl | (simp; done) | (simp [*]; done), by repeat (first | exact Drawn0.refl _ | apply Drawn0.step)⟩
       · rw [if_neg c6] at H
         exact absurd H (by simp)
     · rw [if_neg c5] at H
       exact absurd H (by simp)
   · rw [if_neg c4] at H
     have c4b0 : decide (x11_1 < (l0.length : Int)) = false := decide_eq_false c4
     clear c4
     obtain rfl := Option.some.inj H
     go_wp2
     go_ret
     exact ⟨by first | rfl | (simp; done) | (simp [*]; done), by repeat (first | exact Drawn0.refl _ | apply Drawn0.step)⟩
def impl_IsList.f (k : Nat) (l0 : List Int) : Option (Bool) := (impl_within.f (l0.length : Int) 1 8).bind fun t159 => (if t159 = true then ((impl_allWithin.f k l0 0 60).bind fun t160 => (some t160)) else (some false))
set_option maxHeartbeats 8000000 in
set_option maxRecDepth 100000 in
theorem impl_IsList.calls (k : Nat) (A0 : Option Addr) (c0 : Nat) (l0 : List Int) (r : Bool) (w : World) (hr0 : Kd.C (Kd.int .i64) w A0 l0.length l0) (hc0 : l0.length ≤ c0) (h : impl_IsList.f k l0 = some r) :
 Calls Try.prog 19 #[.slice A0 l0.length c0] w fun e w' => e = .returned (.bool r) ∧ Drawn0 w w' := by
 have HR0 := zad hr0
 have HC0 := zad hc0
 clear hr0 hc0
 have H : ((impl_within.f (l0.length : Int) 1 8).bind fun t159 => (if t159 = true then ((impl_allWithin.f k l0 0 60).bind fun t160 => (some t160)) else (some false))) = some r := h
 clear h
 replace H := Option.bind_eq_some_iff.mp H
 obtain ⟨t159, A20, H⟩ := H
 replace H : (if t159 = true then ((impl_allWithin.f k l0 0 60).bind fun t160 => (some t160)) else (some false)) = some r := H
 have A2 := zad A20
 clear A20
 by_cases c3 : t159 = true
 · subst c3
   have H1 : ((impl_allWithin.f k l0 0 60).bind fun t160 => (some t160)) = some r := by rw [if_pos rfl] at H; exact H
   clear H
   have H := H1
   clear H1
   replace H := Option.bind_eq_some_iff.mp H
   obtain ⟨t160, A40, H⟩ := H
   replace H : (some t160) = some r := H
   have A4 := zad A40
   clear A40
   obtain rfl := Option.some.inj H
   go_enter Try.func19, Try.ntmps19
   go_wp2_with (first | ((with_reducible refine gate_callee (f := 83) rfl ?_); refine goesL_ (some 5) rfl rfl Try.func83 (by kernel_rfl) rfl #[.int .i64 (l0.length : Int), .int .i64 1, .int .i64 8] rfl (by (try simp only [zat, zau, zav]); first | done | rfl | (simp only [zaw, zax]; rfl)) ?_; (with_reducible refine (impl_within.calls (l0.length : Int) 1 8 true _ A2.out).mono ?_); rintro e w' ⟨rfl, ⟨nd, rfl⟩⟩; refine ⟨_, rfl, ?_⟩) | (go_at_call 86; (with_reducible refine (impl_allWithin.calls k _ _ l0 0 60 t160 _ ?side1 ?side2 A4.out).mono ?_); (case side1 => repeat (first | exact HR0.out | (with_reducible refine zal ?_ _) | (with_reducible refine zam ?_ _) | (with_reducible refine zan ?_))); (case side2 => exact HC0.out); rintro e w' ⟨rfl, ⟨nd, rfl⟩⟩))
   go_ret
   exact ⟨by first | rfl | (simp; done) | (simp [*]; done), by repeat (first | exact Drawn0.refl _ | apply Drawn0.step)⟩
 · replace c3 := Bool.eq_false_iff.mpr c3
   subst c3
   have H1 : (some false) = some r := by rw [if_neg (show ¬ (false = true) by decide)] at H; exact H
   clear H
   have H := H1
   clear H1
   obtain rfl := Option.some.inj H
   go_enter Try.func19, Try.ntmps19
   go_wp2_with (first | ((with_reducible refine gate_callee (f := 83) rfl ?_); refine goesL_ (some 5) rfl rfl Try.func83 (by kernel_rfl) rfl #[.int .i64 (l0.length : Int), .int .i64 1, .int .i64 8] rfl (by (try simp only [zat, zau, zav]); first | done | rfl | (simp only [zaw, zax]; rfl)) ?_; (with_reducible refine (impl_within.calls (l0.length : Int) 1 8 false _ A2.out).mono ?_); rintro e w' ⟨rfl, ⟨nd, rfl⟩⟩; refine ⟨_, rfl, ?_⟩))
   go_ret
   exact ⟨by first | rfl | (simp; done) | (simp [*]; done), by repeat (first | exact Drawn0.refl _ | apply Drawn0.step)⟩
def impl_areLists.f (k : Nat) (l0 : List Int) (l1 : List Int) : Option (Bool) := (impl_IsList.f k l0).bind fun t262 => (if t262 = true then ((impl_IsList.f k l1).bind fun t263 => (some t263)) else (some false))
set_option maxHeartbeats 8000000 in
set_option maxRecDepth 100000 in
theorem impl_areLists.calls (k : Nat) (A0 : Option Addr) (c0 : Nat) (l0 : List Int) (A1 : Option Addr) (c1 : Nat) (l1 : List Int) (r : Bool) (w : World) (hr0 : Kd.C (Kd.int .i64) w A0 l0.length l0) (hc0 : l0.length ≤ c0) (hr1 : Kd.C (Kd.int .i64) w A1 l1.length l1) (hc1 : l1.length ≤ c1) (h : impl_areLists.f k l0 l1 = some r) :
 Calls Try.prog 107 #[.slice A0 l0.length c0, .slice A1 l1.length c1] w fun e w' => e = .returned (.bool r) ∧ Drawn0 w w' := by
 have HR0 := zad hr0
 have HC0 := zad hc0
 clear hr0 hc0
 have HR1 := zad hr1
 have HC1 := zad hc1
 clear hr1 hc1
 have H : ((impl_IsList.f k l0).bind fun t262 => (if t262 = true then ((impl_IsList.f k l1).bind fun t263 => (some t263)) else (some false))) = some r := h
 clear h
 replace H := Option.bind_eq_some_iff.mp H
 obtain ⟨t262, A30, H⟩ := H
 replace H : (if t262 = true then ((impl_IsList.f k l1).bind fun t263 => (some t263)) else (some false)) = some r := H
 have A3 := zad A30
 clear A30
 by_cases c4 : t262 = true
 · subst c4
   have H1 : ((impl_IsList.f k l1).bind fun t263 => (some t263)) = some r := by rw [if_pos rfl] at H; exact H
   clear H
   have H := H1
   clear H1
   replace H := Option.bind_eq_some_iff.mp H
   obtain ⟨t263, A50, H⟩ := H
   replace H : (some t263) = some r := H
   have A5 := zad A50
   clear A50
   obtain rfl := Option.some.inj H
   go_enter Try.func107, Try.ntmps107
   go_wp2_with (first | ((with_reducible refine gate_callee (f := 19) rfl ?_); refine goesL_ (some 6) rfl rfl Try.func19 (by kernel_rfl) rfl #[.slice A0 l0.length c0] rfl (by (try simp only [zat, zau, zav]); first | done | rfl | (simp only [zaw, zax]; rfl)) ?_; (with_reducible refine (impl_IsList.calls k _ _ l0 true _ ?side1 ?side2 A3.out).mono ?_); (case side1 => repeat (first | exact HR0.out | (with_reducible refine zal ?_ _) | (with_reducible refine zam ?_ _) | (with_reducible refine zan ?_))); (case side2 => exact HC0.out); rintro e w' ⟨rfl, ⟨nd, rfl⟩⟩; refine ⟨_, rfl, ?_⟩) | (go_at_call 19; (with_reducible refine (impl_IsList.calls k _ _ l1 t263 _ ?side1 ?side2 A5.out).mono ?_); (case side1 => repeat (first | exact HR1.out | (with_reducible refine zal ?_ _) | (with_reducible refine zam ?_ _) | (with_reducible refine zan ?_))); (case side2 => exact HC1.out); rintro e w' ⟨rfl, ⟨nd, rfl⟩⟩))
   go_ret
   exact ⟨by first | rfl | (simp; done) | (simp [*]; done), by repeat (first | exact Drawn0.refl _ | apply Drawn0.step)⟩
 · replace c4 := Bool.eq_false_iff.mpr c4
   subst c4
   have H1 : (some false) = some r := by rw [if_neg (show ¬ (false = true) by decide)] at H; exact H
   clear H
   have H := H1
   clear H1
   obtain rfl := Option.some.inj H
   go_enter Try.func107, Try.ntmps107
   go_wp2_with (first | ((with_reducible refine gate_callee (f := 19) rfl ?_); refine goesL_ (some 6) rfl rfl Try.func19 (by kernel_rfl) rfl #[.slice A0 l0.length c0] rfl (by (try simp only [zat, zau, zav]); first | done | rfl | (simp only [zaw, zax]; rfl)) ?_; (with_reducible refine (impl_IsList.calls k _ _ l0 false _ ?side1 ?side2 A3.out).mono ?_); (case side1 => repeat (first | exact HR0.out | (with_reducible refine zal ?_ _) | (with_reducible refine zam ?_ _) | (with_reducible refine zan ?_))); (case side2 => exact HC0.out); rintro e w' ⟨rfl, ⟨nd, rfl⟩⟩; refine ⟨_, rfl, ?_⟩))
   go_ret
   exact ⟨by first | rfl | (simp; done) | (simp [*]; done), by repeat (first | exact Drawn0.refl _ | apply Drawn0.step)⟩
def impl_total.l0 : Nat → Int → List Int → Int → Int → Option (Int)
 | 0, _, _, _, _ => none
 | k + 1, x3, x6, x7, x8 => if x8 < x7 then (if 0 ≤ x8 then (if x8 < (x6.length : Int) then (impl_total.l0 k (wrap64 (x3 + (rd x6 x8))) x6 x7 (wrap64 (x8 + 1))) else (none)) else (none)) else (some x3)
def impl_total.f (k : Nat) (l0 : List Int) : Option (Int) := impl_total.l0 k 0 l0 (l0.length : Int) 0
set_option maxHeartbeats 8000000 in
set_option maxRecDepth 100000 in
theorem impl_total.calls (k : Nat) (A0 : Option Addr) (c0 : Nat) (l0 : List Int) (r : Int) (w : World) (hr0 : Kd.C (Kd.int .i64) w A0 l0.length l0) (hc0 : l0.length ≤ c0) (h : impl_total.f k l0 = some r) :
 Calls Try.prog 125 #[.slice A0 l0.length c0] w fun e w' => e = .returned (.int .i64 r) ∧ Drawn0 w w' := by
 have HR0 := zad hr0
 have HC0 := zad hc0
 clear hr0 hc0
 have H : (impl_total.l0 k 0 l0 (l0.length : Int) 0) = some r := h
 clear h
 have H' := zad H
 clear H
 go_enter Try.func125, Try.ntmps125
 go_wp2
 go_loopg [3, 8] k (fun kq v3 v8 w' => ∃ (x3_1 : Int) (x8_1 : Int), v3 = .int .i64 x3_1 ∧ v8 = .int .i64 x8_1 ∧ Aside0 (impl_total.l0 kq x3_1 l0 (l0.length : Int) x8_1 = some r) ∧ Aside0 (kq ≤ k) ∧ Drawn0 w w')
 case atStart => exact ⟨(0), (0), (by first | rfl | (simp; done) | (simp [*]; done)), (by first | rfl | (simp; done) | (simp [*]; done)), H', ⟨Nat.le_refl _⟩, by repeat (first | exact Drawn0.refl _ | apply Drawn0.step)⟩
 case round =>
  clear H'
  try clear c1
  obtain ⟨x3_1, x8_1, rfl, rfl, HA, HK1, ⟨m1, rfl⟩⟩ := hrel
  cases gk with
  | zero => exact absurd HA.out (by simp [impl_total.l0])
  | succ k1 =>
   have H := HA.out
   clear HA
   simp only [impl_total.l0] at H
   by_cases c2 : x8_1 < (l0.length : Int)
   · rw [if_pos c2] at H
     have c2b0 : decide (x8_1 < (l0.length : Int)) = true := zaz c2
     clear c2
     by_cases c3 : 0 ≤ x8_1
     · rw [if_pos c3] at H
       have c3b0 : decide (0 ≤ x8_1) = true := zaz c3
       clear c3
       by_cases c4 : x8_1 < (l0.length : Int)
       · rw [if_pos c4] at H
         have c4b0 : decide (x8_1 < (l0.length : Int)) = true := zaz c4
         clear c4
         have H' := zad H
         clear H
         have p264 : 0 ≤ (x8_1 : Int) := zas (by first | (with_reducible assumption) | assumption)
         have q264 : x8_1 < (l0.length : Int) := zas (by first | (with_reducible assumption) | assumption)
         obtain ⟨ad264, e264, hx264_0⟩ := Kd.at_int HR0.out x8_1 p264 q264
         cases e264
         replace p264 := eq_true p264
         replace q264 := eq_true q264
         go_wp2
         go_roundg k1
         case measure => have := HK1.out; omega
         case rel => exact ⟨(wrap64 (x3_1 + (rd l0 x8_1))), (wrap64 (x8_1 + 1)), (by first | rfl | (simp; done) | (simp [*]; done)), (by first | rfl | (simp; done) | (simp [*]; done)), H', ⟨by have := HK1.out; omega⟩, by repeat (first | exact Drawn0.refl _ | apply Drawn0.step)⟩
       · rw [if_neg c4] at H
         exact absurd H (by simp)
     · rw [if_neg c3] at H
       exact absurd H (by simp)
   · rw [if_neg c2] at H
     have c2b0 : decide (x8_1 < (l0.length : Int)) = false := decide_eq_false c2
     clear c2
     obtain rfl := Option.some.inj H
     go_wp2
     go_ret
     exact ⟨by first | rfl | (simp; done) | (simp [*]; done), by repeat (first | exact Drawn0.refl _ | apply Drawn0.step)⟩
def impl_doFit.f (k : Nat) (l0 : List Int) (l1 : List Int) : Option (Bool) := if (l0.length : Int) = (l1.length : Int) then ((impl_total.f k l0).bind fun t265 => ((impl_total.f k l1).bind fun t266 => (some (t265 == t266)))) else (some false)
set_option maxHeartbeats 8000000 in
set_option maxRecDepth 100000 in
theorem impl_doFit.calls (k : Nat) (A0 : Option Addr) (c0 : Nat) (l0 : List Int) (A1 : Option Addr) (c1 : Nat) (l1 : List Int) (r : Bool) (w : World) (hr0 : Kd.C (Kd.int .i64) w A0 l0.length l0) (hc0 : l0.length ≤ c0) (hr1 : Kd.C (Kd.int .i64) w A1 l1.length l1) (hc1 : l1.length ≤ c1) (h : impl_doFit.f k l0 l1 = some r) :
 Calls Try.prog 112 #[.slice A0 l0.length c0, .slice A1 l1.length c1] w fun e w' => e = .returned (.bool r) ∧ Drawn0 w w' := by
 have HR0 := zad hr0
 have HC0 := zad hc0
 clear hr0 hc0
 have HR1 := zad hr1
 have HC1 := zad hc1
 clear hr1 hc1
 have H : (if (l0.length : Int) = (l1.length : Int) then ((impl_total.f k l0).bind fun t265 => ((impl_total.f k l1).bind fun t266 => (some (t265 == t266)))) else (some false)) = some r := h
 clear h
 by_cases c3 : (l0.length : Int) = (l1.length : Int)
 · rw [if_pos c3] at H
   have c3b0 : ((l0.length : Int) == (l1.length : Int)) = true := beq_iff_eq.mpr c3
   have c3b1 : ((l0.length : Int) != (l1.length : Int)) = false := bne_eq_false_iff_eq.mpr c3
   have c3b2 : (l0.length == l1.length) = true := by first | simpa using c3 | (simp at c3 ⊢; omega)
   clear c3
   replace H := Option.bind_eq_some_iff.mp H
   obtain ⟨t265, A40, H⟩ := H
   replace H : ((impl_total.f k l1).bind fun t266 => (some (t265 == t266))) = some r := H
   have A4 := zad A40
   clear A40
   replace H := Option.bind_eq_some_iff.mp H
   obtain ⟨t266, A50, H⟩ := H
   replace H : (some (t265 == t266)) = some r := H
   have A5 := zad A50
   clear A50
   obtain rfl := Option.some.inj H
   go_enter Try.func112, Try.ntmps112
   go_wp2_with (first | (go_at_call 125; (with_reducible refine (impl_total.calls k _ _ l0 t265 _ ?side1 ?side2 A4.out).mono ?_); (case side1 => repeat (first | exact HR0.out | (with_reducible refine zal ?_ _) | (with_reducible refine zam ?_ _) | (with_reducible refine zan ?_))); (case side2 => exact HC0.out); rintro e w' ⟨rfl, ⟨nd, rfl⟩⟩) | (go_at_call 125; (with_reducible refine (impl_total.calls k _ _ l1 t266 _ ?side1 ?side2 A5.out).mono ?_); (case side1 => repeat (first | exact HR1.out | (with_reducible refine zal ?_ _) | (with_reducible refine zam ?_ _) | (with_reducible refine zan ?_))); (case side2 => exact HC1.out); rintro e w' ⟨rfl, ⟨nd, rfl⟩⟩))
   go_ret
   exact ⟨by first | rfl | (simp; done) | (simp [*]; done), by repeat (first | exact Drawn0.refl _ | apply Drawn0.step)⟩
 · rw [if_neg c3] at H
   have c3b0 : ((l0.length : Int) == (l1.length : Int)) = false := beq_eq_false_iff_ne.mpr c3
   have c3b1 : ((l0.length : Int) != (l1.length : Int)) = true := bne_iff_ne.mpr c3
   have c3b2 : (l0.length == l1.length) = false := by first | simpa using c3 | (simp at c3 ⊢; omega)
   obtain rfl := Option.some.inj H
   go_enter Try.func112, Try.ntmps112
   go_wp2
   go_ret
   exact ⟨by first | rfl | (simp; done) | (simp [*]; done), by repeat (first | exact Drawn0.refl _ | apply Drawn0.step)⟩
def slices_Clone_int_int.f (l0 : List Int) : Option (List Int) := if l0.length ≤ 17592186044416 then some l0 else none
set_option maxHeartbeats 2000000 in
set_option maxRecDepth 100000 in
theorem slices_Clone_int_int.calls (A0 : Option Addr) (c0 : Nat) (l0 : List Int) (r : List Int) (w : World) (hr0 : Kd.C (Kd.int .i64) w A0 l0.length l0) (hc0 : l0.length ≤ c0) (h : slices_Clone_int_int.f l0 = some r) :
 Calls Try.prog 146 #[.slice A0 l0.length c0] w fun e w' => ∃ v0_ : Value, e = .returned (v0_) ∧ Kd.R (Kd.int .i64) 3 w' w.heap.size (fun _ => True) v0_ r ∧ Below w.heap.size w w' := by
 have hl : l0.length ≤ 17592186044416 ∧ l0 = r := by
  unfold slices_Clone_int_int.f at h
  by_cases c : l0.length ≤ 17592186044416
  · rw [if_pos c] at h
    exact ⟨c, Option.some.inj h⟩
  · rw [if_neg c] at h
    cases h
 clear h
 obtain ⟨hl, rfl⟩ := hl
 have hn := (Kd.reads_of_C (d := (0 : Int)) (h1 := fun _ => rfl) hr0).2.2
 clear hr0
 have q := fun (w : World) (a : Option Addr) (n c n' c' : Nat) => Lib.run_eql_slice_nil (P := Try.prog) w 26 3 a n c n' c' Try.underlying26
 cases A0 with
 | none =>
  have e0 : l0 = [] := by
   cases l0 with
   | nil => rfl
   | cons x t =>
    obtain ⟨ad, e', _⟩ := hn (by simp)
    cases e'
  subst e0
  clear hn
  go_enter Try.func146, Try.ntmps146
  go_wp2
  go_ret
  exact ⟨_, rfl, Kd.R_nil _ _ _ _ _, Below.refl _ _⟩
 | some ad =>
  have HC : Aside0 (∀ j u, (encs (Value.int .i64) l0)[j]? = some u → w.cell? (ad.add j) = some u) := ⟨by
   intro j u hj
   have hjl : j < l0.length := by
    have := (List.getElem?_eq_some_iff.1 hj).1
    rwa [encs_length] at this
   obtain ⟨ad', e', hcell⟩ := hn (by omega)
   cases e'
   rw [encs_get (d := (0 : Int)) l0 j hjl] at hj
   injection hj with hj
   rw [← hj]
   exact hcell j hjl⟩
  clear hn
  obtain ⟨i0, hi, hzz⟩ := Option.map_eq_some_iff.1 info3
  simp only [Prod.mk.injEq] at hzz
  obtain ⟨hz0, hz1, hz2⟩ := hzz
  have Hl := zad hl
  have Hc := zad hc0
  clear hl hc0
  go_enter Try.func146, Try.ntmps146
  go_wp2_with (at_builtin; refine wpList_append_own _ rfl _ _ 26 rfl w.heap.size 3 i0 (.int .i64 0) 1 8 Try.underlying26 hi hz0 hz1 hz2 rfl (by decide) _ _ _ rfl (World.ownsRow_made w #[] 0 (Nat.le_refl _) (Nat.zero_le _) (by simp)) ad l0.length c0 (encs (Value.int .i64) l0) rfl ?qc1 ?qc2 ?qc3 ?qc4 ?qc5 ?qc6 ?_)
  case qc1 => rw [encs_length, Nat.mul_one]
  case qc2 =>
   intro j u hj
   exact Lib.cell?_alloc_some _ (HC.out j u hj)
  case qc3 =>
   intro u hu
   obtain ⟨x, _, rfl⟩ := List.mem_map.1 hu
   rfl
  case qc4 =>
   have := Hl.out
   unfold maxLen
   omega
  case qc5 =>
   have := Hl.out
   omega
  case qc6 => simp
  intro v' w1 hown hgrow hnil
  go_wp2
  go_ret
  refine ⟨v', rfl, ?_, ?_⟩
  · refine Kd.R_of_own ?_ (fun _ _ => trivial)
    simpa using hown
  · exact ((Below.refl _ w).alloc (Nat.le_refl _) _).grown hgrow (by simp) (by intro k hk; simp [Value.ownBlock] at hk; omega)
section
open Go.Shelf Go.Lib Go.Sort
theorem heap_sorted {α : Type} [Inhabited α] (enc : α → Value) (w : World) (blk off m : Nat) (d : Array α) (os : Array Obj) (k : Nat) (hk : k < w.heap.size) :
 (sortWorld enc w blk off m d os).heap[k]? = if blk = k then (w.heap[k]?).map (onCells (putCells enc off d)) else w.heap[k]? := by
 have h1 : (sortWorld enc w blk off m d os).heap = (w.heap.modify blk (onCells (putCells enc off d))) ++ os := rfl
 rw [h1, Array.getElem?_append_left (by rw [Array.size_modify]; exact hk), Array.getElem?_modify]
theorem size_sorted {α : Type} [Inhabited α] (enc : α → Value) (w : World) (blk off m : Nat) (d : Array α) (os : Array Obj) : w.heap.size ≤ (sortWorld enc w blk off m d os).heap.size := by
 have h1 : (sortWorld enc w blk off m d os).heap = (w.heap.modify blk (onCells (putCells enc off d))) ++ os := rfl
 rw [h1, Array.size_append, Array.size_modify]
 omega
theorem below_sorted {α : Type} [Inhabited α] (enc : α → Value) {w w1 : World} (hb : Below w.heap.size w w1) {blk off m : Nat} (d : Array α) (os : Array Obj) (hg : w.heap.size ≤ blk) : Below w.heap.size w (sortWorld enc w1 blk off m d os) := by
 refine ⟨hb.os, hb.tape, hb.output, Nat.le_trans hb.size (size_sorted _ _ _ _ _ _ _), fun k hk => ?_⟩
 rw [heap_sorted _ _ _ _ _ _ _ _ (Nat.lt_of_lt_of_le hk hb.size), if_neg (by omega)]
 exact hb.block k hk
theorem putCells_take {α : Type} [Inhabited α] (enc : α → Value) (d : Array α) (cur : Array Value) (h : d.size ≤ cur.size) : (putCells enc 0 d cur).toList.take d.size = d.toList.map enc := by
 apply List.ext_getElem?
 intro i
 by_cases hi : i < d.size
 · rw [List.getElem?_take_of_lt hi, List.getElem?_map, Array.getElem?_toList, Array.getElem?_toList, Array.getElem?_eq_getElem hi]
   unfold putCells
   rw [Array.getElem?_mapIdx, Array.getElem?_eq_getElem (show i < cur.size by omega)]
   simp [hi, getElem!_pos]
 · rw [List.getElem?_eq_none (by rw [zax]; omega), List.getElem?_eq_none (by simp; omega)]
theorem own_sorted {α : Type} [Inhabited α] (enc : α → Value) {w1 : World} {base e n g cap m : Nat} {cur : Array Value} (d : Array α) (os : Array Obj) (hb : base ≤ g) (hh : w1.heap[g]? = some (.cells cur e (0, 0))) (hn : n ≤ cap) (hc : cap ≤ maxLen) (hs : cur.size = cap * 1) (hd : d.size = n) :
 (sortWorld enc w1 g 0 m d os).ownsRow base e 1 (.slice (some ⟨g, 0, none⟩) n cap) n (d.toList.map enc) := by
 have hg : g < w1.heap.size := (Array.getElem?_eq_some_iff.1 hh).1
 refine ⟨by simp [hd], .inr ⟨g, cap, putCells enc 0 d cur, rfl, hb, ?_, hn, hc, ?_, ?_⟩⟩
 · rw [heap_sorted _ _ _ _ _ _ _ _ hg, if_pos rfl, hh]
   rfl
 · unfold putCells
   rw [Array.size_mapIdx]
   exact hs
 · rw [Nat.mul_one, ← hd]
   exact putCells_take enc d cur (by omega)
theorem holds_own {α : Type} [Inhabited α] (enc : α → Value) {w1 : World} {e n g cap : Nat} {cur : Array Value} (d : Array α) (hh : w1.heap[g]? = some (.cells cur e (0, 0))) (hn : n ≤ cap) (hs : cur.size = cap * 1) (hd : d.size = n) (ht : cur.toList.take (n * 1) = d.toList.map enc) : Holds enc w1 g 0 d := by
 intro j hj
 have h1 : (cur.toList.take (n * 1))[j]? = (d.toList.map enc)[j]? := by rw [ht]
 rw [List.getElem?_take_of_lt (by omega), List.getElem?_map, Array.getElem?_toList, Array.getElem?_toList, Array.getElem?_eq_getElem hj] at h1
 rw [Nat.zero_add]
 refine ⟨?_, blk_frozen hh j⟩
 rw [blk_cell hh j, h1, getElem!_pos d j hj]
 rfl
end
end Go.Proofs.Ytnlimjejllakoaa.A
/-
  DERIVED: THE SHELF's CONTRACTS AT THIS DUMP, IN PLAIN WORDS (tools/lay-plain.mjs out of 'YtnlimjejllakoaaShelf.lean', which tools/lay-shelf.mjs wrote): THE SAME DECLARATIONS UNDER THE SAME NAMES: 'import', 'namespace', 'open', 'def', 'theorem' AND NOTHING ELSE: no command of the shelf's: FOR A HAND-IN. Each laying: the table of numbers ('.._ren') and one theorem, a field a fact of the dump's own or the kernel's comparison; each contract: ONE APPLICATION.
-/
namespace Go.Proofs
open Go.Shelf
def Try.sortL_ren : Go.Shelf.Ren := ⟨fun | 6 => 147 | 15 => 158 | 14 => 157 | 28 => 167 | 29 => 168 | 20 => 159 | 21 => 160 | 22 => 161 | 23 => 162 | 24 => 163 | 25 => 164 | 26 => 165 | 27 => 166 | 46 => 169 | 47 => 170 | 48 => 171 | 49 => 172 | 50 => 173 | 57 => 174 | n => n, fun | 22 => 26 | 24 => 3 | 25 => 84 | 3 => 3 | 39 => 106 | 0 => 0 | 53 => 117 | 55 => 73 | 4 => 4 | 46 => 111 | 45 => 110 | 50 => 42 | 5 => 5 | 9 => 9 | 66 => 119 | 70 => 123 | 76 => 125 | 77 => 24 | n => n, fun | n => n⟩
theorem Try.sortL : Go.Proofs.SlLaysF.n6 Try.prog Try.sortL_ren := {
 mixed := by kernel_rfl
 f6 := ⟨Try.f147.name, by decide, Try.func147.trans (congrArg some (by kernel_rfl))⟩
 f14 := ⟨Try.f157.name, by decide, Try.func157.trans (congrArg some (by kernel_rfl))⟩
 f15 := Try.func158.trans (congrArg some (by kernel_rfl))
 f20 := ⟨Try.f159.name, by decide, Try.func159.trans (congrArg some (by kernel_rfl))⟩
 f21 := ⟨Try.f160.name, by decide, Try.func160.trans (congrArg some (by kernel_rfl))⟩
 f22 := ⟨Try.f161.name, by decide, Try.func161.trans (congrArg some (by kernel_rfl))⟩
 f23 := ⟨Try.f162.name, by decide, Try.func162.trans (congrArg some (by kernel_rfl))⟩
 f24 := ⟨Try.f163.name, by decide, Try.func163.trans (congrArg some (by kernel_rfl))⟩
 f25 := ⟨Try.f164.name, by decide, Try.func164.trans (congrArg some (by kernel_rfl))⟩
 f26 := ⟨Try.f165.name, by decide, Try.func165.trans (congrArg some (by kernel_rfl))⟩
 f27 := ⟨Try.f166.name, by decide, Try.func166.trans (congrArg some (by kernel_rfl))⟩
 f28 := Try.func167.trans (congrArg some (by kernel_rfl))
 f29 := Try.func168.trans (congrArg some (by kernel_rfl))
 f46 := ⟨Try.f169.name, by decide, Try.func169.trans (congrArg some (by kernel_rfl))⟩
 f47 := Try.func170.trans (congrArg some (by kernel_rfl))
 f48 := Try.func171.trans (congrArg some (by kernel_rfl))
 f49 := ⟨Try.f172.name, by decide, Try.func172.trans (congrArg some (by kernel_rfl))⟩
 f50 := ⟨Try.f173.name, by decide, Try.func173.trans (congrArg some (by kernel_rfl))⟩
 f57 := ⟨Try.f174.name, by decide, Try.func174.trans (congrArg some (by kernel_rfl))⟩
 t0 := Try.underlying0
 a0 := Try.isAgg0
 z0 := Try.sizeOf0
 v0 := Try.zeroValue0
 t3 := Try.underlying3
 a3 := Try.isAgg3
 z3 := Try.sizeOf3
 v3 := Try.zeroValue3
 t4 := Try.underlying4
 a4 := Try.isAgg4
 z4 := Try.sizeOf4
 v4 := Try.zeroValue4
 t5 := Try.underlying5
 a5 := Try.isAgg5
 z5 := Try.sizeOf5
 v5 := Try.zeroValue5
 t9 := Try.underlying9
 a9 := Try.isAgg9
 z9 := Try.sizeOf9
 v9 := Try.zeroValue9
 t22 := Try.underlying26
 a22 := Try.isAgg26
 z22 := Try.sizeOf26
 v22 := Try.zeroValue26
 a24 := Try.isAgg3
 z24 := Try.sizeOf3
 t25 := Try.underlying84
 a25 := Try.isAgg84
 z25 := Try.sizeOf84
 v25 := Try.zeroValue84
 t39 := Try.underlying106
 a39 := Try.isAgg106
 z39 := Try.sizeOf106
 v39 := Try.zeroValue106
 t45 := Try.underlying110
 a45 := Try.isAgg110
 z45 := Try.sizeOf110
 v45 := Try.zeroValue110
 t46 := Try.underlying111
 a46 := Try.isAgg111
 z46 := Try.sizeOf111
 v46 := Try.zeroValue111
 t50 := Try.underlying42
 a50 := Try.isAgg42
 z50 := Try.sizeOf42
 v50 := Try.zeroValue42
 t53 := Try.underlying117
 a53 := Try.isAgg117
 z53 := Try.sizeOf117
 v53 := Try.zeroValue117
 t55 := Try.underlying73
 a55 := Try.isAgg73
 z55 := Try.sizeOf73
 v55 := Try.zeroValue73
 t66 := Try.underlying119
 a66 := Try.isAgg119
 z66 := Try.sizeOf119
 v66 := Try.zeroValue119
 t70 := Try.underlying123
 a70 := Try.isAgg123
 z70 := Try.sizeOf123
 v70 := Try.zeroValue123
 t76 := Try.underlying125
 a76 := Try.isAgg125
 z76 := Try.sizeOf125
 v76 := Try.zeroValue125
 t77 := Try.underlying24
 a77 := Try.isAgg24
 z77 := Try.sizeOf24
 v77 := Try.zeroValue24 }
end Go.Proofs

namespace Go.Proofs.Ytnlimjejllakoaa.A
open Go.RowKit Go.Proofs.YtnlimjejllakoaaW.PrintWords Go.Proofs.YtnlimjejllakoaaW.PrintLast Go.Proofs.YtnlimjejllakoaaW.PrintMore
attribute [local go_sem] max2_int min2_int max_two min_two max_three min_three max_four min_four
section
open Go.Shelf Go.Lib Go.Sort
def descL (l : List Int) : List Int := l.mergeSort fun x y => decide (y ≤ x)
def smallL (l : List Int) : Bool := decide (l.length ≤ 1000000) && l.all fun x => decide (0 ≤ x ∧ x ≤ 1000000)
def impl_ranking.f (l0 : List Int) : Option (List Int) := if smallL l0 = true then some (descL l0) else none
abbrev SmallI : Type := { x : Int // 0 ≤ x ∧ x ≤ 1000000 }
instance : Inhabited SmallI := ⟨⟨0, by omega, by omega⟩⟩
def encI (x : SmallI) : Value := .int .i64 x.1
def cfI (x y : SmallI) : Int := y.1 - x.1
theorem ltI (x y : SmallI) : ltOf cfI x y = decide (y.1 < x.1) := by
 unfold ltOf cfI
 by_cases h : y.1 < x.1
 · simp [h]
   omega
 · simp [h]
   omega
theorem swoI : SWO (ltOf cfI) where
 irrefl x := by rw [ltI]; simp
 trans x y z h1 h2 := by rw [ltI] at *; simp at *; omega
 ntrans x y z h1 h2 := by rw [ltI] at *; simp at *; omega
theorem totI (x y : SmallI) (h1 : ltOf cfI x y = false) (h2 : ltOf cfI y x = false) : x = y := by
 rw [ltI] at *
 simp at *
 exact Subtype.ext (by omega)
theorem geI : (fun x y : SmallI => !ltOf cfI y x) = fun x y => decide (y.1 ≤ x.1) := by
 funext x y
 rw [ltI]
 by_cases h : y.1 ≤ x.1
 · have h' : ¬ x.1 < y.1 := by omega
   simp [h, h']
 · have h' : x.1 < y.1 := by omega
   simp [h, h']
set_option maxHeartbeats 1000000 in
theorem ranking_cmp (x y : SmallI) (W : World) : Calls Try.prog 148 #[encI x, encI y] W fun e w' => e = .returned (.int .i64 (cfI x y)) ∧ ∃ q, w' = W.drewN q := by
 obtain ⟨x, hx0, hx1⟩ := x
 obtain ⟨y, hy0, hy1⟩ := y
 unfold encI cfI
 go_enter Try.func148, Try.ntmps148
 go_wp2
 go_ret
 exact ⟨rfl, 0, rfl⟩
theorem attach_enc (l : List Int) (h : ∀ x ∈ l, 0 ≤ x ∧ x ≤ 1000000) : (l.attachWith (fun x => 0 ≤ x ∧ x ≤ 1000000) h).map encI = encs (Value.int .i64) l := by
 unfold encs
 rw [show encI = (Value.int .i64) ∘ Subtype.val from rfl, ← List.map_map, List.attachWith_map_subtype_val]
theorem descL_attach (l : List Int) (h : ∀ x ∈ l, 0 ≤ x ∧ x ≤ 1000000) : ((l.attachWith (fun x => 0 ≤ x ∧ x ≤ 1000000) h).mergeSort fun x y => decide (y.1 ≤ x.1)).map encI = encs (Value.int .i64) (descL l) := by
 have h1 : ((l.attachWith (fun x => 0 ≤ x ∧ x ≤ 1000000) h).mergeSort fun x y => decide (y.1 ≤ x.1)).map Subtype.val = descL l := by
  unfold descL
  rw [List.map_mergeSort (s := fun x y => decide (y ≤ x)) (fun a _ b _ => rfl), List.attachWith_map_subtype_val]
 unfold encs
 rw [← h1, List.map_map]
 rfl
set_option maxHeartbeats 2000000 in
set_option maxRecDepth 100000 in
theorem impl_ranking.calls (A0 : Option Addr) (c0 : Nat) (l0 : List Int) (r : List Int) (w : World) (hr0 : Kd.C (Kd.int .i64) w A0 l0.length l0) (hc0 : l0.length ≤ c0) (h : impl_ranking.f l0 = some r) :
 Calls Try.prog 88 #[.slice A0 l0.length c0] w fun e w' => ∃ v0_ : Value, e = .returned (v0_) ∧ Kd.R (Kd.int .i64) 3 w' w.heap.size (fun _ => True) v0_ r ∧ Below w.heap.size w w' := by
 have hl : smallL l0 = true ∧ descL l0 = r := by
  unfold impl_ranking.f at h
  by_cases c : smallL l0 = true
  · rw [if_pos c] at h
    exact ⟨c, Option.some.inj h⟩
  · rw [if_neg c] at h
    cases h
 clear h
 obtain ⟨hs, rfl⟩ := hl
 unfold smallL at hs
 simp only [Bool.and_eq_true, decide_eq_true_eq, List.all_eq_true] at hs
 obtain ⟨hl, hall⟩ := hs
 have HCl := zad (slices_Clone_int_int.calls A0 c0 l0 l0 w hr0 hc0 (by unfold slices_Clone_int_int.f; rw [if_pos (by omega)]))
 have Hall := zad hall
 have Hl := zad hl
 clear hall hl hr0 hc0
 have eg : ∀ args w, (callFunc 148 args).run Try.prog w = .ok (.enter 148 args) w := enters_of Try.func148 (by kernel_rfl) rfl
 have Heg := zad eg
 clear eg
 go_enter Try.func88, Try.ntmps88
 go_wp2_with fail
 refine HCl.out.mono ?_
 rintro e w1 ⟨v, rfl, hR, hb⟩
 have ho := Kd.own_of_R hR
 clear hR HCl
 have Hb := zad hb
 clear hb
 obtain ⟨hlen', hcase⟩ := ho
 rcases hcase with ⟨rfl, h0⟩ | ⟨g, cap, cur, rfl, hg, hh, hnc, hcm, hcs, htake⟩
 · have hnil : l0 = [] := List.length_eq_zero_iff.1 h0
   subst hnil
   clear h0 hlen' Hall Hl
   have hS := AnyF.slices_SortFunc_none (P := Try.prog) (ρ := Try.sortL_ren) { Try.sortL with } none 0 (.func (.func 148) #[] #[]) w1
   change Calls Try.prog 147 _ _ _ at hS
   have HS := zad hS
   clear hS
   go_wp2_with fail
   refine HS.out.mono ?_
   rintro e w2 ⟨rfl, rfl⟩
   go_wp2
   go_ret
   exact ⟨_, rfl, by unfold descL; simp only [List.mergeSort]; exact Kd.R_nil _ _ _ _ _, Hb.out⟩
 · have hd : (l0.attachWith (fun x => 0 ≤ x ∧ x ≤ 1000000) Hall.out).toArray.size = l0.length := by simp
   have hH := holds_own encI (l0.attachWith (fun x => 0 ≤ x ∧ x ≤ 1000000) Hall.out).toArray hh hnc hcs hd (by
    rw [htake, List.toList_toArray, attach_enc])
   have hS := Any.slices_SortFunc_total Try.sortL encI (fun _ => rfl) cfI swoI 148 #[] g 0 cap (l0.attachWith (fun x => 0 ≤ x ∧ x ≤ 1000000) Hall.out).toArray w1 Heg.out
    (CmpReads.lays (fun _ _ _ _ x y => ranking_cmp x y _)) hH (Array.getElem?_eq_some_iff.1 hh).1 (by have := Hl.out; rw [hd]; omega) totI
   rw [geI, hd] at hS
   change Calls Try.prog 147 _ _ _ at hS
   have HS := zad hS
   have HF : Aside0 (∀ m os, Kd.R (Kd.int .i64) 3 (sortWorld encI w1 g 0 m ((l0.attachWith (fun x => 0 ≤ x ∧ x ≤ 1000000) Hall.out).mergeSort fun x y => decide (y.1 ≤ x.1)).toArray os) w.heap.size (fun _ => True) (.slice (some ⟨g, 0, none⟩) l0.length cap) (descL l0) ∧ Below w.heap.size w (sortWorld encI w1 g 0 m ((l0.attachWith (fun x => 0 ≤ x ∧ x ≤ 1000000) Hall.out).mergeSort fun x y => decide (y.1 ≤ x.1)).toArray os)) := ⟨fun m os => by
    refine ⟨?_, below_sorted encI Hb.out _ os hg⟩
    have hdl : (descL l0).length = l0.length := List.length_mergeSort l0
    have ho := own_sorted encI (m := m) ((l0.attachWith (fun x => 0 ≤ x ∧ x ≤ 1000000) Hall.out).mergeSort fun x y => decide (y.1 ≤ x.1)).toArray os hg hh hnc hcm hcs (by simp [List.length_mergeSort])
    rw [List.toList_toArray, descL_attach] at ho
    exact Kd.R_of_own (by rw [hdl]; exact ho) (fun _ _ => trivial)⟩
   clear hS hH hd hh hnc hcm hcs htake hlen' hg
   go_wp2_with fail
   refine HS.out.mono ?_
   rintro e w2 ⟨rfl, n, os, rfl⟩
   have hF := HF.out n os
   have HF2 := zad hF
   clear hF
   generalize sortWorld encI w1 g 0 n ((l0.attachWith (fun x => 0 ≤ x ∧ x ≤ 1000000) Hall.out).mergeSort fun x y => decide (y.1 ≤ x.1)).toArray os = w2 at HF2 ⊢
   go_wp2
   go_ret
   exact ⟨_, rfl, HF2.out.1, HF2.out.2⟩
end
def impl_partial.l0 : Nat → List Int → Int → List Int → Int → Int → Option (List Int)
 | 0, _, _, _, _, _ => none
 | k + 1, x3, x4, x9, x10, x11 => if x11 < x10 then (if 0 ≤ x11 then (if x11 < (x9.length : Int) then (if x3.length < 17592186044416 then (impl_partial.l0 k (x3 ++ [wrap64 (x4 + (rd x9 x11))]) (wrap64 (x4 + (rd x9 x11))) x9 x10 (wrap64 (x11 + 1))) else (none)) else (none)) else (none)) else (some x3)
def impl_partial.f (k : Nat) (l0 : List Int) : Option (List Int) := (impl_ranking.f l0).bind fun t270 => (impl_partial.l0 k (([] : List Int)) 0 t270 (t270.length : Int) 0)
set_option maxHeartbeats 8000000 in
set_option maxRecDepth 100000 in
theorem impl_partial.calls (k : Nat) (A0 : Option Addr) (c0 : Nat) (l0 : List Int) (r : List Int) (w : World) (hr0 : Kd.C (Kd.int .i64) w A0 l0.length l0) (hc0 : l0.length ≤ c0) (h : impl_partial.f k l0 = some r) :
 Calls Try.prog 119 #[.slice A0 l0.length c0] w fun e w' => ∃ v0_ : Value, e = .returned (v0_) ∧ Kd.R (Kd.int .i64) 3 w' w.heap.size (fun _ => True) v0_ r ∧ Below w.heap.size w w' := by
 have HR0 := zad hr0
 have HC0 := zad hc0
 clear hr0 hc0
 have HB := zad (Below.refl w.heap.size w)
 have H : ((impl_ranking.f l0).bind fun t270 => (impl_partial.l0 k (([] : List Int)) 0 t270 (t270.length : Int) 0)) = some r := h
 clear h
 obtain ⟨y267, hy267⟩ : ∃ y_ : List Int, y_ = (([] : List Int)) := ⟨_, rfl⟩
 replace H : ((impl_ranking.f l0).bind fun t270 => (impl_partial.l0 k y267 0 t270 (t270.length : Int) 0)) = some r := by first | (rw [hy267]; with_reducible exact H) | (have H2_ := (Option.bind_some _ _).symm.trans H; rw [hy267]; with_reducible exact H2_) | (have H2_ := (Option.bind_some _ _).symm.trans H; with_reducible exact H2_) | with_reducible exact H | (rw [hy267]; exact H) | exact H
 have Ny267 := zad hy267
 clear hy267
 replace H := Option.bind_eq_some_iff.mp H
 obtain ⟨t270, A20, H⟩ := H
 replace H : (impl_partial.l0 k y267 0 t270 (t270.length : Int) 0) = some r := H
 have A2 := zad A20
 clear A20
 have H' := zad H
 clear H
 go_enter Try.func119, Try.ntmps119
 go_wp2_with (first | ((with_reducible refine gate_dst (N := 7) rfl ?_); refine Kd.R_lit (Kd.int .i64) _ 3 ?hg (N := 7) ?hd (xs := ([] : List Int)) (inner := []) (ok := fun _ => True) (okp := fun _ => True) ?hr ?hp (fun _ hk => hk) trivial (Below.refl _ _) (Nat.le_refl _) (by simp) ?_; (case hd => rfl); (case hg => rfl); (case hr => first | (go_simp; done) | (go_simp; rfl)); (case hp => exact (Reps.none _ _)); intro v268 w3 ho4 hb hg_ hnew_; clear hg_ hnew_; (first | rw [← Ny267.out] at ho4 | (simp only [Int.reduceToNat] at ho4; rw [← Ny267.out] at ho4)); have n0_ := zad (Kd.R_lower ho4 (below_size (by repeat (first | (with_reducible first | exact HB.out | apply zag | apply zae | apply zaf) | exact HB.out)))); have n1_ := zad (below_step (by repeat (first | (with_reducible first | exact HB.out | apply zag | apply zae | apply zaf) | exact HB.out)) hb); clear HB; have HO269 := n0_; have HB := n1_; clear n0_ n1_; clear hb ho4) | ((with_reducible refine gate_callee (f := 88) rfl ?_); refine goesL_ (some 9) rfl rfl Try.func88 (by kernel_rfl) rfl #[.slice A0 l0.length c0] rfl (by (try simp only [zat, zau, zav]); first | done | rfl | (simp only [zaw, zax]; rfl)) ?_; (with_reducible refine (impl_ranking.calls _ _ l0 t270 _ ?side1 ?side2 A2.out).mono ?_); (case side1 => repeat (first | exact (Kd.C_below HR0.out HB.out) | (with_reducible refine zal ?_ _) | (with_reducible refine zam ?_ _) | (with_reducible refine zan ?_))); (case side2 => exact HC0.out); rintro e w5 ⟨v271, rfl, ho0, hb⟩; refine ⟨_, rfl, ?_⟩; have n0_ := zad (Kd.R_elder' (by (with_reducible repeat (first | apply zai | apply zaj | apply zak)); exact HO269.out) (Kd.R_base ho0) hb); have n1_ := zad (Kd.R_lower (Kd.R_new' ho0 (Kd.R_lt (by (with_reducible repeat (first | apply zai | apply zaj | apply zak)); exact HO269.out))) (below_size (by repeat (first | (with_reducible first | exact HB.out | apply zag | apply zae | apply zaf) | exact HB.out)))); have n2_ := zad (below_step (by repeat (first | (with_reducible first | exact HB.out | apply zag | apply zae | apply zaf) | exact HB.out)) hb); clear HO269; clear HB; have HO269 := n0_; have HO272 := n1_; have HB := n2_; clear n0_ n1_ n2_; (try clear hb); (try clear hb2); (try clear hk); (try clear hi); (try clear ho0); obtain ⟨Ao6, co6, eo6⟩ := Kd.R_slice HO272.out; subst eo6))
 go_loopg [3, 4, 11] k (fun kq v3 v4 v11 w' => ∃ (x3_1 : List Int) (x4_1 : Int) (x11_1 : Int), v4 = .int .i64 x4_1 ∧ v11 = .int .i64 x11_1 ∧ Aside0 (impl_partial.l0 kq x3_1 x4_1 t270 (t270.length : Int) x11_1 = some r) ∧ Aside0 (kq ≤ k) ∧ Aside0 (Kd.R (Kd.int .i64) 3 w' w.heap.size (fun k_ => some k_ ≠ ((.slice Ao6 t270.length co6) : Value).ownBlock) v3 x3_1) ∧ Aside0 (Kd.R (Kd.int .i64) 3 w' w.heap.size (fun k_ => some k_ ≠ (v3 : Value).ownBlock) (.slice Ao6 t270.length co6) t270) ∧ Aside0 (Below w.heap.size w w'))
 case atStart => exact ⟨(y267), (0), (0), (by first | rfl | (simp; done) | (simp [*]; done)), (by first | rfl | (simp; done) | (simp [*]; done)), H', ⟨Nat.le_refl _⟩, ⟨by (with_reducible repeat (first | apply zai | apply zaj | apply zak)); exact Kd.R_mono HO269.out (fun _ hk => hk.2)⟩, ⟨by (with_reducible repeat (first | apply zai | apply zaj | apply zak)); exact Kd.R_mono HO272.out (fun _ hk => hk.2)⟩, ⟨by repeat (first | (with_reducible first | exact HB.out | apply zag | apply zae | apply zaf) | exact HB.out)⟩⟩
 case round =>
  clear H'
  try clear c1
  try clear p2
  obtain ⟨x3_1, x4_1, x11_1, rfl, rfl, HA, HK1, HO_3, HO_9, HB⟩ := hrel
  cases gk with
  | zero => exact absurd HA.out (by simp [impl_partial.l0])
  | succ k1 =>
   have H := HA.out
   clear HA
   simp only [impl_partial.l0] at H
   by_cases c7 : x11_1 < (t270.length : Int)
   · rw [if_pos c7] at H
     have c7b0 : decide (x11_1 < (t270.length : Int)) = true := zaz c7
     clear c7
     by_cases c8 : 0 ≤ x11_1
     · rw [if_pos c8] at H
       have c8b0 : decide (0 ≤ x11_1) = true := zaz c8
       clear c8
       by_cases c9 : x11_1 < (t270.length : Int)
       · rw [if_pos c9] at H
         have c9b0 : decide (x11_1 < (t270.length : Int)) = true := zaz c9
         clear c9
         by_cases c10 : x3_1.length < 17592186044416
         · rw [if_pos c10] at H
           have LMc10 := zad c10
           clear c10
           obtain ⟨y274, hy274⟩ : ∃ y_ : List Int, y_ = (x3_1 ++ [wrap64 (x4_1 + (rd t270 x11_1))]) := ⟨_, rfl⟩
           replace H : (impl_partial.l0 k1 y274 (wrap64 (x4_1 + (rd t270 x11_1))) t270 (t270.length : Int) (wrap64 (x11_1 + 1))) = some r := by first | (rw [hy274]; with_reducible exact H) | (have H2_ := (Option.bind_some _ _).symm.trans H; rw [hy274]; with_reducible exact H2_) | (have H2_ := (Option.bind_some _ _).symm.trans H; with_reducible exact H2_) | with_reducible exact H | (rw [hy274]; exact H) | exact H
           have Ny274 := zad hy274
           clear hy274
           have H' := zad H
           clear H
           have p273 : 0 ≤ (x11_1 : Int) := zas (by first | (with_reducible assumption) | assumption)
           have q273 : x11_1 < (t270.length : Int) := zas (by first | (with_reducible assumption) | assumption)
           obtain ⟨ad273, e273, hx273_0⟩ := Kd.at_int (Kd.R_reads' HO_9.out).2.2 x11_1 p273 q273
           cases e273
           replace p273 := eq_true p273
           replace q273 := eq_true q273
           go_wp2_with (first | ((with_reducible refine gate_builtin (b := .append) (xs := #[.tmp 18, .tmp 20]) rfl ?_); at_builtin; refine Kd.R_append (Kd.int .i64) (w0 := w) w.heap.size rfl (.tmp 18) (.tmp 20) 26 3 (.int .i64 0) 8 rfl Try.underlying26 info3 rfl (by decide) (by omega) u3 x3_1 (wrap64 (x4_1 + (rd t270 x11_1))) [.int .i64 (wrap64 (x4_1 + (rd t270 x11_1)))] (fun k_ => some k_ ≠ (.slice (some ad273) t270.length co6 : Value).ownBlock) (fun _ => False) rfl rfl ?aP (fun _ hk => hk.elim) ?aF ?aO ?aB ?aS ?aL ?_; (case aP => exact rfl); (case aB => exact (by repeat (first | (with_reducible first | exact HB.out | apply zag | apply zae | apply zaf) | exact HB.out))); (case aF => exact (fun k_ hk => Kd.fresh' (Kd.R_lt (by (with_reducible repeat (first | apply zai | apply zaj | apply zak)); exact HO_9.out)) k_ hk)); (case aO => exact (by (with_reducible repeat (first | apply zai | apply zaj | apply zak)); exact HO_3.out)); (case aS => exact (below_size (by repeat (first | (with_reducible first | exact HB.out | apply zag | apply zae | apply zaf) | exact HB.out)))); (case aL => have := LMc10.out; omega); intro v275 w11 ho hb hg hat; rw [← Ny274.out] at ho; have n0_ := zad (Kd.R_after (ok := (fun _ => True)) (by (with_reducible repeat (first | apply zai | apply zaj | apply zak)); exact Kd.R_mono HO_9.out (fun _ hk => ⟨trivial, hk⟩)) hg hat); have n1_ := zad (hb); have n2_ := zad (ho); clear HO_9; clear HB; clear HO_3; have HO_9 := n0_; have HB := n1_; have HO276 := n2_; clear n0_ n1_ n2_; clear ho hb hg hat))
           go_roundg k1
           case measure => have := HK1.out; omega
           case rel => exact ⟨(y274), (wrap64 (x4_1 + (rd t270 x11_1))), (wrap64 (x11_1 + 1)), (by first | rfl | (simp; done) | (simp [*]; done)), (by first | rfl | (simp; done) | (simp [*]; done)), H', ⟨by have := HK1.out; omega⟩, ⟨by (with_reducible repeat (first | apply zai | apply zaj | apply zak)); exact HO276.out⟩, ⟨by (with_reducible repeat (first | apply zai | apply zaj | apply zak)); exact Kd.R_mono HO_9.out (fun _ hk => hk.2)⟩, ⟨by repeat (first | (with_reducible first | exact HB.out | apply zag | apply zae | apply zaf) | exact HB.out)⟩⟩
         · rw [if_neg c10] at H
           exact absurd H (by simp)
       · rw [if_neg c9] at H
         exact absurd H (by simp)
     · rw [if_neg c8] at H
       exact absurd H (by simp)
   · rw [if_neg c7] at H
     have c7b0 : decide (x11_1 < (t270.length : Int)) = false := decide_eq_false c7
     clear c7
     obtain rfl := Option.some.inj H
     go_wp2
     go_ret
     exact ⟨_, by first | rfl | (simp [errW_none, errW_some] <;> rfl) | (simp [*, errW_none, errW_some] <;> rfl), by (with_reducible repeat (first | apply zai | apply zaj | apply zak)); exact Kd.R_mono HO_3.out (fun _ hk => trivial), by repeat (first | (with_reducible first | exact HB.out | apply zag | apply zae | apply zaf) | exact HB.out)⟩
def impl_refused.l0 : Nat → List Int → List Int → Int → Int → Option (Int)
 | 0, _, _, _, _ => none
 | k + 1, x5, x11, x12, x13 => if x13 < x12 then (if 0 ≤ x13 then (if x13 < (x11.length : Int) then (if x13 < (x5.length : Int) then (if (rd x11 x13) > (rd x5 x13) then (some (wrap64 (x13 + 1))) else (impl_refused.l0 k x5 x11 x12 (wrap64 (x13 + 1)))) else (none)) else (none)) else (none)) else (some 0)
def impl_refused.f (k : Nat) (l0 : List Int) (l1 : List Int) : Option (Int) := (impl_partial.f k l1).bind fun t277 => ((impl_partial.f k l0).bind fun t280 => (impl_refused.l0 k t277 t280 (t280.length : Int) 0))
set_option maxHeartbeats 8000000 in
set_option maxRecDepth 100000 in
theorem impl_refused.calls (k : Nat) (A0 : Option Addr) (c0 : Nat) (l0 : List Int) (A1 : Option Addr) (c1 : Nat) (l1 : List Int) (r : Int) (w : World) (hr0 : Kd.C (Kd.int .i64) w A0 l0.length l0) (hc0 : l0.length ≤ c0) (hr1 : Kd.C (Kd.int .i64) w A1 l1.length l1) (hc1 : l1.length ≤ c1) (h : impl_refused.f k l0 l1 = some r) :
 Calls Try.prog 113 #[.slice A0 l0.length c0, .slice A1 l1.length c1] w fun e w' => e = .returned (.int .i64 r) ∧ Below w.heap.size w w' := by
 have HR0 := zad hr0
 have HC0 := zad hc0
 clear hr0 hc0
 have HR1 := zad hr1
 have HC1 := zad hc1
 clear hr1 hc1
 have HB := zad (Below.refl w.heap.size w)
 have H : ((impl_partial.f k l1).bind fun t277 => ((impl_partial.f k l0).bind fun t280 => (impl_refused.l0 k t277 t280 (t280.length : Int) 0))) = some r := h
 clear h
 replace H := Option.bind_eq_some_iff.mp H
 obtain ⟨t277, A30, H⟩ := H
 replace H : ((impl_partial.f k l0).bind fun t280 => (impl_refused.l0 k t277 t280 (t280.length : Int) 0)) = some r := H
 have A3 := zad A30
 clear A30
 replace H := Option.bind_eq_some_iff.mp H
 obtain ⟨t280, A40, H⟩ := H
 replace H : (impl_refused.l0 k t277 t280 (t280.length : Int) 0) = some r := H
 have A4 := zad A40
 clear A40
 have H' := zad H
 clear H
 go_enter Try.func113, Try.ntmps113
 go_wp2_with (first | ((with_reducible refine gate_callee (f := 119) rfl ?_); refine goesL_ (some 9) rfl rfl Try.func119 (by kernel_rfl) rfl #[.slice A1 l1.length c1] rfl (by (try simp only [zat, zau, zav]); first | done | rfl | (simp only [zaw, zax]; rfl)) ?_; (with_reducible refine (impl_partial.calls k _ _ l1 t277 _ ?side1 ?side2 A3.out).mono ?_); (case side1 => repeat (first | exact HR1.out | (with_reducible refine zal ?_ _) | (with_reducible refine zam ?_ _) | (with_reducible refine zan ?_))); (case side2 => exact HC1.out); rintro e w5 ⟨v278, rfl, ho0, hb⟩; refine ⟨_, rfl, ?_⟩; have n0_ := zad (Kd.R_lower ho0 (below_size (by repeat (first | (with_reducible first | exact HB.out | apply zag | apply zae | apply zaf) | exact HB.out)))); have n1_ := zad (below_step (by repeat (first | (with_reducible first | exact HB.out | apply zag | apply zae | apply zaf) | exact HB.out)) hb); clear HB; have HO279 := n0_; have HB := n1_; clear n0_ n1_; (try clear hb); (try clear hb2); (try clear hk); (try clear hi); (try clear ho0)) | ((with_reducible refine gate_callee (f := 119) rfl ?_); refine goesL_ (some 11) rfl rfl Try.func119 (by kernel_rfl) rfl #[.slice A0 l0.length c0] rfl (by (try simp only [zat, zau, zav]); first | done | rfl | (simp only [zaw, zax]; rfl)) ?_; (with_reducible refine (impl_partial.calls k _ _ l0 t280 _ ?side1 ?side2 A4.out).mono ?_); (case side1 => repeat (first | exact (Kd.C_below HR0.out HB.out) | (with_reducible refine zal ?_ _) | (with_reducible refine zam ?_ _) | (with_reducible refine zan ?_))); (case side2 => exact HC0.out); rintro e w6 ⟨v281, rfl, ho0, hb⟩; refine ⟨_, rfl, ?_⟩; have n0_ := zad (Kd.R_elder' (by (with_reducible repeat (first | apply zai | apply zaj | apply zak)); exact HO279.out) (Kd.R_base ho0) hb); have n1_ := zad (Kd.R_lower (Kd.R_new' ho0 (Kd.R_lt (by (with_reducible repeat (first | apply zai | apply zaj | apply zak)); exact HO279.out))) (below_size (by repeat (first | (with_reducible first | exact HB.out | apply zag | apply zae | apply zaf) | exact HB.out)))); have n2_ := zad (below_step (by repeat (first | (with_reducible first | exact HB.out | apply zag | apply zae | apply zaf) | exact HB.out)) hb); clear HO279; clear HB; have HO279 := n0_; have HO282 := n1_; have HB := n2_; clear n0_ n1_ n2_; (try clear hb); (try clear hb2); (try clear hk); (try clear hi); (try clear ho0); obtain ⟨Ao7, co7, eo7⟩ := Kd.R_slice HO282.out; subst eo7))
 go_loopg [13] k (fun kq v13 w' => ∃ (x13_1 : Int), v13 = .int .i64 x13_1 ∧ Aside0 (impl_refused.l0 kq t277 t280 (t280.length : Int) x13_1 = some r) ∧ Aside0 (kq ≤ k) ∧ Aside0 (Kd.R (Kd.int .i64) 3 w' w.heap.size (fun k_ => some k_ ≠ ((.slice Ao7 t280.length co7) : Value).ownBlock) v278 t277) ∧ Aside0 (Kd.R (Kd.int .i64) 3 w' w.heap.size (fun k_ => some k_ ≠ (v278 : Value).ownBlock) (.slice Ao7 t280.length co7) t280) ∧ Aside0 (Below w.heap.size w w'))
 case atStart => exact ⟨(0), (by first | rfl | (simp; done) | (simp [*]; done)), H', ⟨Nat.le_refl _⟩, ⟨by (with_reducible repeat (first | apply zai | apply zaj | apply zak)); exact Kd.R_mono HO279.out (fun _ hk => hk.2)⟩, ⟨by (with_reducible repeat (first | apply zai | apply zaj | apply zak)); exact Kd.R_mono HO282.out (fun _ hk => hk.2)⟩, ⟨by repeat (first | (with_reducible first | exact HB.out | apply zag | apply zae | apply zaf) | exact HB.out)⟩⟩
 case round =>
  clear H'
  try clear c1
  try clear p2
  obtain ⟨x13_1, rfl, HA, HK1, HO_5, HO_11, HB⟩ := hrel
  cases gk with
  | zero => exact absurd HA.out (by simp [impl_refused.l0])
  | succ k1 =>
   have H := HA.out
   clear HA
   simp only [impl_refused.l0] at H
   by_cases c8 : x13_1 < (t280.length : Int)
   · rw [if_pos c8] at H
     have c8b0 : decide (x13_1 < (t280.length : Int)) = true := zaz c8
     clear c8
     by_cases c9 : 0 ≤ x13_1
     · rw [if_pos c9] at H
       have c9b0 : decide (0 ≤ x13_1) = true := zaz c9
       clear c9
       by_cases c10 : x13_1 < (t280.length : Int)
       · rw [if_pos c10] at H
         have c10b0 : decide (x13_1 < (t280.length : Int)) = true := zaz c10
         clear c10
         by_cases c11 : x13_1 < (t277.length : Int)
         · rw [if_pos c11] at H
           have c11b0 : decide (x13_1 < (t277.length : Int)) = true := zaz c11
           clear c11
           by_cases c12 : (rd t280 x13_1) > (rd t277 x13_1)
           · rw [if_pos c12] at H
             have c12b0 : decide ((rd t277 x13_1) < (rd t280 x13_1)) = true := zaz c12
             clear c12
             obtain rfl := Option.some.inj H
             have p283 : 0 ≤ (x13_1 : Int) := zas (by first | (with_reducible assumption) | assumption)
             have q283 : x13_1 < (t280.length : Int) := zas (by first | (with_reducible assumption) | assumption)
             obtain ⟨ad283, e283, hx283_0⟩ := Kd.at_int (Kd.R_reads' HO_11.out).2.2 x13_1 p283 q283
             cases e283
             replace p283 := eq_true p283
             replace q283 := eq_true q283
             obtain ⟨Ao13, co13, eo13⟩ := Kd.R_slice HO_5.out
             subst eo13
             have p284 : 0 ≤ (x13_1 : Int) := zas (by first | (with_reducible assumption) | assumption)
             have q284 : x13_1 < (t277.length : Int) := zas (by first | (with_reducible assumption) | assumption)
             obtain ⟨ad284, e284, hx284_0⟩ := Kd.at_int (Kd.R_reads' HO_5.out).2.2 x13_1 p284 q284
             cases e284
             replace p284 := eq_true p284
             replace q284 := eq_true q284
             go_wp2
             go_ret
             exact ⟨by first | rfl | (simp [errW_none, errW_some] <;> rfl) | (simp [*, errW_none, errW_some] <;> rfl), by repeat (first | (with_reducible first | exact HB.out | apply zag | apply zae | apply zaf) | exact HB.out)⟩
           · rw [if_neg c12] at H
             have c12b0 : decide ((rd t277 x13_1) < (rd t280 x13_1)) = false := decide_eq_false c12
             clear c12
             have H' := zad H
             clear H
             have p283 : 0 ≤ (x13_1 : Int) := zas (by first | (with_reducible assumption) | assumption)
             have q283 : x13_1 < (t280.length : Int) := zas (by first | (with_reducible assumption) | assumption)
             obtain ⟨ad283, e283, hx283_0⟩ := Kd.at_int (Kd.R_reads' HO_11.out).2.2 x13_1 p283 q283
             cases e283
             replace p283 := eq_true p283
             replace q283 := eq_true q283
             obtain ⟨Ao14, co14, eo14⟩ := Kd.R_slice HO_5.out
             subst eo14
             have p284 : 0 ≤ (x13_1 : Int) := zas (by first | (with_reducible assumption) | assumption)
             have q284 : x13_1 < (t277.length : Int) := zas (by first | (with_reducible assumption) | assumption)
             obtain ⟨ad284, e284, hx284_0⟩ := Kd.at_int (Kd.R_reads' HO_5.out).2.2 x13_1 p284 q284
             cases e284
             replace p284 := eq_true p284
             replace q284 := eq_true q284
             go_wp2
             go_roundg k1
             case measure => have := HK1.out; omega
             case rel => exact ⟨(wrap64 (x13_1 + 1)), (by first | rfl | (simp; done) | (simp [*]; done)), H', ⟨by have := HK1.out; omega⟩, ⟨by (with_reducible repeat (first | apply zai | apply zaj | apply zak)); exact HO_5.out⟩, ⟨by (with_reducible repeat (first | apply zai | apply zaj | apply zak)); exact HO_11.out⟩, ⟨by repeat (first | (with_reducible first | exact HB.out | apply zag | apply zae | apply zaf) | exact HB.out)⟩⟩
         · rw [if_neg c11] at H
           exact absurd H (by simp)
       · rw [if_neg c10] at H
         exact absurd H (by simp)
     · rw [if_neg c9] at H
       exact absurd H (by simp)
   · rw [if_neg c8] at H
     have c8b0 : decide (x13_1 < (t280.length : Int)) = false := decide_eq_false c8
     clear c8
     obtain rfl := Option.some.inj H
     go_wp2
     go_ret
     exact ⟨by first | rfl | (simp [errW_none, errW_some] <;> rfl) | (simp [*, errW_none, errW_some] <;> rfl), by repeat (first | (with_reducible first | exact HB.out | apply zag | apply zae | apply zaf) | exact HB.out)⟩
def impl_isMajorized.f (k : Nat) (l0 : List Int) (l1 : List Int) : Option (Bool) := (impl_doFit.f k l0 l1).bind fun t285 => (if t285 = true then ((impl_refused.f k l0 l1).bind fun t286 => (some (t286 == 0))) else (some false))
set_option maxHeartbeats 8000000 in
set_option maxRecDepth 100000 in
theorem impl_isMajorized.calls (k : Nat) (A0 : Option Addr) (c0 : Nat) (l0 : List Int) (A1 : Option Addr) (c1 : Nat) (l1 : List Int) (r : Bool) (w : World) (hr0 : Kd.C (Kd.int .i64) w A0 l0.length l0) (hc0 : l0.length ≤ c0) (hr1 : Kd.C (Kd.int .i64) w A1 l1.length l1) (hc1 : l1.length ≤ c1) (h : impl_isMajorized.f k l0 l1 = some r) :
 Calls Try.prog 116 #[.slice A0 l0.length c0, .slice A1 l1.length c1] w fun e w' => e = .returned (.bool r) ∧ Below w.heap.size w w' := by
 have HR0 := zad hr0
 have HC0 := zad hc0
 clear hr0 hc0
 have HR1 := zad hr1
 have HC1 := zad hc1
 clear hr1 hc1
 have HB := zad (Below.refl w.heap.size w)
 have H : ((impl_doFit.f k l0 l1).bind fun t285 => (if t285 = true then ((impl_refused.f k l0 l1).bind fun t286 => (some (t286 == 0))) else (some false))) = some r := h
 clear h
 replace H := Option.bind_eq_some_iff.mp H
 obtain ⟨t285, A30, H⟩ := H
 replace H : (if t285 = true then ((impl_refused.f k l0 l1).bind fun t286 => (some (t286 == 0))) else (some false)) = some r := H
 have A3 := zad A30
 clear A30
 by_cases c4 : t285 = true
 · subst c4
   have H1 : ((impl_refused.f k l0 l1).bind fun t286 => (some (t286 == 0))) = some r := by rw [if_pos rfl] at H; exact H
   clear H
   have H := H1
   clear H1
   replace H := Option.bind_eq_some_iff.mp H
   obtain ⟨t286, A50, H⟩ := H
   replace H : (some (t286 == 0)) = some r := H
   have A5 := zad A50
   clear A50
   obtain rfl := Option.some.inj H
   go_enter Try.func116, Try.ntmps116
   go_wp2_with (first | ((with_reducible refine gate_callee (f := 112) rfl ?_); refine goesL_ (some 7) rfl rfl Try.func112 (by kernel_rfl) rfl #[.slice A0 l0.length c0, .slice A1 l1.length c1] rfl (by (try simp only [zat, zau, zav]); first | done | rfl | (simp only [zaw, zax]; rfl)) ?_; (with_reducible refine (impl_doFit.calls k _ _ l0 _ _ l1 true _ ?side1 ?side2 ?side3 ?side4 A3.out).mono ?_); (case side1 => repeat (first | exact HR0.out | (with_reducible refine zal ?_ _) | (with_reducible refine zam ?_ _) | (with_reducible refine zan ?_))); (case side2 => exact HC0.out); (case side3 => repeat (first | exact HR1.out | (with_reducible refine zal ?_ _) | (with_reducible refine zam ?_ _) | (with_reducible refine zan ?_))); (case side4 => exact HC1.out); rintro e w' ⟨rfl, ⟨nd, rfl⟩⟩; refine ⟨_, rfl, ?_⟩) | (go_at_call 113; (with_reducible refine (impl_refused.calls k _ _ l0 _ _ l1 t286 _ ?side1 ?side2 ?side3 ?side4 A5.out).mono ?_); (case side1 => repeat (first | exact HR0.out | (with_reducible refine zal ?_ _) | (with_reducible refine zam ?_ _) | (with_reducible refine zan ?_))); (case side2 => exact HC0.out); (case side3 => repeat (first | exact HR1.out | (with_reducible refine zal ?_ _) | (with_reducible refine zam ?_ _) | (with_reducible refine zan ?_))); (case side4 => exact HC1.out); rintro e w6 ⟨rfl, hb⟩; have n0_ := zad (below_step (by repeat (first | (with_reducible first | exact HB.out | apply zag | apply zae | apply zaf) | exact HB.out)) hb); clear HB; have HB := n0_; clear n0_; (try clear hb); (try clear hb2); (try clear hk); (try clear hi)))
   go_ret
   exact ⟨by first | rfl | (simp [errW_none, errW_some] <;> rfl) | (simp [*, errW_none, errW_some] <;> rfl), by repeat (first | (with_reducible first | exact HB.out | apply zag | apply zae | apply zaf) | exact HB.out)⟩
 · replace c4 := Bool.eq_false_iff.mpr c4
   subst c4
   have H1 : (some false) = some r := by rw [if_neg (show ¬ (false = true) by decide)] at H; exact H
   clear H
   have H := H1
   clear H1
   obtain rfl := Option.some.inj H
   go_enter Try.func116, Try.ntmps116
   go_wp2_with (first | ((with_reducible refine gate_callee (f := 112) rfl ?_); refine goesL_ (some 7) rfl rfl Try.func112 (by kernel_rfl) rfl #[.slice A0 l0.length c0, .slice A1 l1.length c1] rfl (by (try simp only [zat, zau, zav]); first | done | rfl | (simp only [zaw, zax]; rfl)) ?_; (with_reducible refine (impl_doFit.calls k _ _ l0 _ _ l1 false _ ?side1 ?side2 ?side3 ?side4 A3.out).mono ?_); (case side1 => repeat (first | exact HR0.out | (with_reducible refine zal ?_ _) | (with_reducible refine zam ?_ _) | (with_reducible refine zan ?_))); (case side2 => exact HC0.out); (case side3 => repeat (first | exact HR1.out | (with_reducible refine zal ?_ _) | (with_reducible refine zam ?_ _) | (with_reducible refine zan ?_))); (case side4 => exact HC1.out); rintro e w' ⟨rfl, ⟨nd, rfl⟩⟩; refine ⟨_, rfl, ?_⟩))
   go_ret
   exact ⟨by first | rfl | (simp [errW_none, errW_some] <;> rfl) | (simp [*, errW_none, errW_some] <;> rfl), by repeat (first | (with_reducible first | exact HB.out | apply zag | apply zae | apply zaf) | exact HB.out)⟩
def impl_isBetween.f (k : Nat) (l0 : List Int) (l1 : List Int) : Option (Bool) := (impl_areLists.f k l0 l1).bind fun t1141 => (if t1141 = true then ((impl_isMajorized.f k l0 l1).bind fun t1142 => (some t1142)) else (some false))
set_option maxHeartbeats 8000000 in
set_option maxRecDepth 100000 in
theorem impl_isBetween.calls (k : Nat) (A0 : Option Addr) (c0 : Nat) (l0 : List Int) (A1 : Option Addr) (c1 : Nat) (l1 : List Int) (r : Bool) (w : World) (hr0 : Kd.C (Kd.int .i64) w A0 l0.length l0) (hc0 : l0.length ≤ c0) (hr1 : Kd.C (Kd.int .i64) w A1 l1.length l1) (hc1 : l1.length ≤ c1) (h : impl_isBetween.f k l0 l1 = some r) :
 Calls Try.prog 128 #[.slice A0 l0.length c0, .slice A1 l1.length c1] w fun e w' => e = .returned (.bool r) ∧ Below w.heap.size w w' := by
 have HR0 := zad hr0
 have HC0 := zad hc0
 clear hr0 hc0
 have HR1 := zad hr1
 have HC1 := zad hc1
 clear hr1 hc1
 have HB := zad (Below.refl w.heap.size w)
 have H : ((impl_areLists.f k l0 l1).bind fun t1141 => (if t1141 = true then ((impl_isMajorized.f k l0 l1).bind fun t1142 => (some t1142)) else (some false))) = some r := h
 clear h
 replace H := Option.bind_eq_some_iff.mp H
 obtain ⟨t1141, A30, H⟩ := H
 replace H : (if t1141 = true then ((impl_isMajorized.f k l0 l1).bind fun t1142 => (some t1142)) else (some false)) = some r := H
 have A3 := zad A30
 clear A30
 by_cases c4 : t1141 = true
 · subst c4
   have H1 : ((impl_isMajorized.f k l0 l1).bind fun t1142 => (some t1142)) = some r := by rw [if_pos rfl] at H; exact H
   clear H
   have H := H1
   clear H1
   replace H := Option.bind_eq_some_iff.mp H
   obtain ⟨t1142, A50, H⟩ := H
   replace H : (some t1142) = some r := H
   have A5 := zad A50
   clear A50
   obtain rfl := Option.some.inj H
   go_enter Try.func128, Try.ntmps128
   go_wp2_with (first | ((with_reducible refine gate_callee (f := 107) rfl ?_); refine goesL_ (some 7) rfl rfl Try.func107 (by kernel_rfl) rfl #[.slice A0 l0.length c0, .slice A1 l1.length c1] rfl (by (try simp only [zat, zau, zav]); first | done | rfl | (simp only [zaw, zax]; rfl)) ?_; (with_reducible refine (impl_areLists.calls k _ _ l0 _ _ l1 true _ ?side1 ?side2 ?side3 ?side4 A3.out).mono ?_); (case side1 => repeat (first | exact HR0.out | (with_reducible refine zal ?_ _) | (with_reducible refine zam ?_ _) | (with_reducible refine zan ?_))); (case side2 => exact HC0.out); (case side3 => repeat (first | exact HR1.out | (with_reducible refine zal ?_ _) | (with_reducible refine zam ?_ _) | (with_reducible refine zan ?_))); (case side4 => exact HC1.out); rintro e w' ⟨rfl, ⟨nd, rfl⟩⟩; refine ⟨_, rfl, ?_⟩) | (go_at_call 116; (with_reducible refine (impl_isMajorized.calls k _ _ l0 _ _ l1 t1142 _ ?side1 ?side2 ?side3 ?side4 A5.out).mono ?_); (case side1 => repeat (first | exact HR0.out | (with_reducible refine zal ?_ _) | (with_reducible refine zam ?_ _) | (with_reducible refine zan ?_))); (case side2 => exact HC0.out); (case side3 => repeat (first | exact HR1.out | (with_reducible refine zal ?_ _) | (with_reducible refine zam ?_ _) | (with_reducible refine zan ?_))); (case side4 => exact HC1.out); rintro e w6 ⟨rfl, hb⟩; have n0_ := zad (below_step (by repeat (first | (with_reducible first | exact HB.out | apply zag | apply zae | apply zaf) | exact HB.out)) hb); clear HB; have HB := n0_; clear n0_; (try clear hb); (try clear hb2); (try clear hk); (try clear hi)))
   go_ret
   exact ⟨by first | rfl | (simp [errW_none, errW_some] <;> rfl) | (simp [*, errW_none, errW_some] <;> rfl), by repeat (first | (with_reducible first | exact HB.out | apply zag | apply zae | apply zaf) | exact HB.out)⟩
 · replace c4 := Bool.eq_false_iff.mpr c4
   subst c4
   have H1 : (some false) = some r := by rw [if_neg (show ¬ (false = true) by decide)] at H; exact H
   clear H
   have H := H1
   clear H1
   obtain rfl := Option.some.inj H
   go_enter Try.func128, Try.ntmps128
   go_wp2_with (first | ((with_reducible refine gate_callee (f := 107) rfl ?_); refine goesL_ (some 7) rfl rfl Try.func107 (by kernel_rfl) rfl #[.slice A0 l0.length c0, .slice A1 l1.length c1] rfl (by (try simp only [zat, zau, zav]); first | done | rfl | (simp only [zaw, zax]; rfl)) ?_; (with_reducible refine (impl_areLists.calls k _ _ l0 _ _ l1 false _ ?side1 ?side2 ?side3 ?side4 A3.out).mono ?_); (case side1 => repeat (first | exact HR0.out | (with_reducible refine zal ?_ _) | (with_reducible refine zam ?_ _) | (with_reducible refine zan ?_))); (case side2 => exact HC0.out); (case side3 => repeat (first | exact HR1.out | (with_reducible refine zal ?_ _) | (with_reducible refine zam ?_ _) | (with_reducible refine zan ?_))); (case side4 => exact HC1.out); rintro e w' ⟨rfl, ⟨nd, rfl⟩⟩; refine ⟨_, rfl, ?_⟩))
   go_ret
   exact ⟨by first | rfl | (simp [errW_none, errW_some] <;> rfl) | (simp [*, errW_none, errW_some] <;> rfl), by repeat (first | (with_reducible first | exact HB.out | apply zag | apply zae | apply zaf) | exact HB.out)⟩
def impl_given.f (l0 : List Int) (a1_0 : Int) (a1_1 : Int) (a1_2 : Int) : Option (List Int) := (slices_Clone_int_int.f l0).bind fun t531 => (if 0 ≤ a1_0 then (if a1_0 < (t531.length : Int) then ((some (t531.set (a1_0 : Int).toNat (wrap64 ((rd t531 a1_0) - a1_2)) : List Int)).bind fun y535 => (if 0 ≤ a1_1 then (if a1_1 < (t531.length : Int) then (some (y535.set (a1_1 : Int).toNat (wrap64 ((rd y535 a1_1) + a1_2)))) else (none)) else (none))) else (none)) else (none))
def impl_given.T2 : Bool × List (List Nat × List Nat) := (true, [([], []), ([], []), ([1], [1]), ([0, 2], [0, 2]), ([3], [3]), ([], []), ([5], [5]), ([4, 6], [4, 6]), ([0, 2, 0, 1, 2, 3, 4, 5, 6, 7], [0, 2]), ([8, 7, 0, 1, 2, 3, 4, 5, 6, 7], [7, 8])])
def impl_given.B2 : List Nat := [0, 0, 2, 7, 15, 0, 32, 127, 255, 511]
theorem impl_given.tab2 : rtab .any (opsOf Try.f105 2) = impl_given.T2 := by kernel_rfl
theorem impl_given.bits2 : waitsOk impl_given.T2.2 impl_given.B2 = true := by kernel_rfl
def impl_given.T3 : Bool × List (List Nat × List Nat) := (true, [([], []), ([], []), ([1], [1]), ([0, 2], [0, 2]), ([3], [3]), ([], []), ([5], [5]), ([4, 6], [4, 6]), ([0, 2, 0, 1, 2, 3, 4, 5, 6, 7], [0, 2]), ([8, 7, 0, 1, 2, 3, 4, 5, 6, 7], [7, 8])])
def impl_given.B3 : List Nat := [0, 0, 2, 7, 15, 0, 32, 127, 255, 511]
theorem impl_given.tab3 : rtab .any (opsOf Try.f105 3) = impl_given.T3 := by kernel_rfl
theorem impl_given.bits3 : waitsOk impl_given.T3.2 impl_given.B3 = true := by kernel_rfl
set_option maxHeartbeats 8000000 in
set_option maxRecDepth 100000 in
theorem impl_given.calls (A0 : Option Addr) (c0 : Nat) (l0 : List Int) (a1_0 : Int) (a1_1 : Int) (a1_2 : Int) (r : List Int) (w : World) (hr0 : Kd.C (Kd.int .i64) w A0 l0.length l0) (hc0 : l0.length ≤ c0) (h : impl_given.f l0 a1_0 a1_1 a1_2 = some r) :
 Calls Try.prog 105 #[.slice A0 l0.length c0, .agg #[.int .i64 a1_0, .int .i64 a1_1, .int .i64 a1_2]] w fun e w' => ∃ v0_ : Value, e = .returned (v0_) ∧ Kd.R (Kd.int .i64) 3 w' w.heap.size (fun _ => True) v0_ r ∧ Below w.heap.size w w' := by
 have hu39 := Try.underlying39
 have HR0 := zad hr0
 have HC0 := zad hc0
 clear hr0 hc0
 have HB := zad (Below.refl w.heap.size w)
 have H : ((slices_Clone_int_int.f l0).bind fun t531 => (if 0 ≤ a1_0 then (if a1_0 < (t531.length : Int) then ((some (t531.set (a1_0 : Int).toNat (wrap64 ((rd t531 a1_0) - a1_2)) : List Int)).bind fun y535 => (if 0 ≤ a1_1 then (if a1_1 < (t531.length : Int) then (some (y535.set (a1_1 : Int).toNat (wrap64 ((rd y535 a1_1) + a1_2)))) else (none)) else (none))) else (none)) else (none))) = some r := h
 clear h
 replace H := Option.bind_eq_some_iff.mp H
 obtain ⟨t531, A30, H⟩ := H
 replace H : (if 0 ≤ a1_0 then (if a1_0 < (t531.length : Int) then ((some (t531.set (a1_0 : Int).toNat (wrap64 ((rd t531 a1_0) - a1_2)) : List Int)).bind fun y535 => (if 0 ≤ a1_1 then (if a1_1 < (t531.length : Int) then (some (y535.set (a1_1 : Int).toNat (wrap64 ((rd y535 a1_1) + a1_2)))) else (none)) else (none))) else (none)) else (none)) = some r := H
 have A3 := zad A30
 clear A30
 by_cases c4 : 0 ≤ a1_0
 · rw [if_pos c4] at H
   have c4b0 : decide (0 ≤ a1_0) = true := zaz c4
   clear c4
   by_cases c5 : a1_0 < (t531.length : Int)
   · rw [if_pos c5] at H
     have c5b0 : decide (a1_0 < (t531.length : Int)) = true := zaz c5
     clear c5
     obtain ⟨y535, hy535⟩ : ∃ y_ : List Int, y_ = (t531.set (a1_0 : Int).toNat (wrap64 ((rd t531 a1_0) - a1_2))) := ⟨_, rfl⟩
     replace H : (if 0 ≤ a1_1 then (if a1_1 < (t531.length : Int) then (some (y535.set (a1_1 : Int).toNat (wrap64 ((rd y535 a1_1) + a1_2)))) else (none)) else (none)) = some r := by first | (rw [hy535]; with_reducible exact H) | (have H2_ := (Option.bind_some _ _).symm.trans H; rw [hy535]; with_reducible exact H2_) | (have H2_ := (Option.bind_some _ _).symm.trans H; with_reducible exact H2_) | with_reducible exact H | (rw [hy535]; exact H) | exact H
     have Ny535 := zad hy535
     clear hy535
     by_cases c7 : 0 ≤ a1_1
     · rw [if_pos c7] at H
       have c7b0 : decide (0 ≤ a1_1) = true := zaz c7
       clear c7
       by_cases c8 : a1_1 < (t531.length : Int)
       · rw [if_pos c8] at H
         have c8b0 : decide (a1_1 < (t531.length : Int)) = true := zaz c8
         clear c8
         obtain ⟨y537, hy537⟩ : ∃ y_ : List Int, y_ = (y535.set (a1_1 : Int).toNat (wrap64 ((rd y535 a1_1) + a1_2))) := ⟨_, rfl⟩
         replace H : (some y537) = some r := by first | (rw [hy537]; with_reducible exact H) | (have H2_ := (Option.bind_some _ _).symm.trans H; rw [hy537]; with_reducible exact H2_) | (have H2_ := (Option.bind_some _ _).symm.trans H; with_reducible exact H2_) | with_reducible exact H | (rw [hy537]; exact H) | exact H
         have Ny537 := zad hy537
         clear hy537
         obtain rfl := Option.some.inj H
         go_enter Try.func105, Try.ntmps105
         try go_wp2_with (first | ((with_reducible refine gate_dst (N := 3) rfl ?_); refine box_event ?hg (N := 3) ?hd (cs := #[.int .i64 a1_0, .int .i64 a1_1, .int .i64 a1_2]) (t := 39) ?hr ?_; (case hd => rfl); (case hg => rfl); (case hr => first | (go_simp; done) | (go_simp; rfl)); intro gb530 hg w10 hbox hb; have n0_ := zad (below_step (by repeat (first | (with_reducible first | exact HB.out | apply zag | apply zae | apply zaf) | exact HB.out)) hb); have n1_ := zad (hbox); have n2_ := zad ((by rw [hg]; exact (below_size (by repeat (first | (with_reducible first | exact HB.out | apply zag | apply zae | apply zaf) | exact HB.out))) : w.heap.size ≤ gb530)); have n3_ := zad ((by rw [hg]; exact (below_size (by repeat (first | (with_reducible first | exact HB.out | apply zag | apply zae | apply zaf) | exact HB.out))) : w.heap.size ≤ gb530)); clear HB; have HB := n0_; have BK530 := n1_; have GW530 := n2_; have GE530 := n3_; clear n0_ n1_ n2_ n3_; clear hb hbox hg) | ((with_reducible refine gate_callee (f := 146) rfl ?_); refine goesL_ (some 7) rfl rfl Try.func146 (by kernel_rfl) rfl #[.slice A0 l0.length c0] rfl (by (try simp only [zat, zau, zav]); first | done | rfl | (simp only [zaw, zax]; rfl)) ?_; (with_reducible refine (slices_Clone_int_int.calls _ _ l0 t531 _ ?side1 ?side2 A3.out).mono ?_); (case side1 => repeat (first | exact (Kd.C_below HR0.out HB.out) | (with_reducible refine zal ?_ _) | (with_reducible refine zam ?_ _) | (with_reducible refine zan ?_))); (case side2 => exact HC0.out); rintro e w11 ⟨v532, rfl, ho0, hb⟩; refine ⟨_, rfl, ?_⟩; have n0_ := zad (Kd.R_lower ho0 (below_size (by repeat (first | (with_reducible first | exact HB.out | apply zag | apply zae | apply zaf | refine zah ?_ GE530.out) | exact HB.out)))); have n1_ := zad (blk_below (g := gb530) (o := .cells #[.int .i64 a1_0, .int .i64 a1_1, .int .i64 a1_2] 39 (0, 0)) (by (with_reducible repeat (first | refine blk_drewN ?_ _ | refine blk_drew ?_ | refine blk_alloc ?_ _)); exact BK530.out) hb); have n2_ := zad (below_step (by repeat (first | (with_reducible first | exact HB.out | apply zag | apply zae | apply zaf | refine zah ?_ GE530.out) | exact HB.out)) hb); clear BK530; clear HB; have HO533 := n0_; have BK530 := n1_; have HB := n2_; clear n0_ n1_ n2_; (try clear hb); (try clear hb2); (try clear hk); (try clear hi); (try clear ho0)))
         have n0_ := zad (zak HO533.out)
         have n1_ := zad (blk_drew BK530.out)
         have n2_ := zad (zaf HB.out)
         clear HO533
         clear BK530
         clear HB
         have HO533 := n0_
         have BK530 := n1_
         have HB := n2_
         clear n0_ n1_ n2_
         obtain ⟨Ao13, co13, eo13⟩ := Kd.R_slice HO533.out
         (first | subst eo13 | (injection eo13 with f1_ f2_ f3_; have f4_ := f1_.symm; have f5_ := f3_.symm; clear f1_ f2_ f3_; subst f4_; subst f5_))
         have p534 : 0 ≤ (a1_0 : Int) := zas (by first | (with_reducible assumption) | assumption)
         have q534 : a1_0 < (t531.length : Int) := zas (by first | (with_reducible assumption) | assumption)
         obtain ⟨ad534, e534, hx534_0⟩ := Kd.at_int (Kd.R_reads' HO533.out).2.2 a1_0 p534 q534
         cases e534
         replace p534 := eq_true p534
         replace q534 := eq_true q534
         have p6 : 0 ≤ (a1_0 : Int) := zas (by first | (with_reducible assumption) | assumption)
         have q6 : (a1_0 : Int) < ((t531.length : Int) : Int) := zas (by first | (with_reducible assumption) | assumption)
         obtain ⟨go6, co6, eo6, gb6, gl6, cl6, HG6⟩ := Kd.R_form HO533.out (by omega)
         (first | cases eo6 | (injection eo6 with ea_ en_ ec_; (first | subst ea_ | (injection ea_ with ea_; subst ea_)); subst ec_; clear en_))
         have GB6 := zad gb6
         have GG6 := zad HG6
         clear gb6 gl6 HG6
         (first | simp only [add_plain] at hx534_0 | skip)
         obtain ⟨hx6_0, hf6_0⟩ := Kd.R_celln 0 HO533.out (a1_0 : Int) p6 q6
         replace p6 := eq_true p6
         replace q6 := eq_true q6
         have HP14 := Kd.R_putn HO533.out (a1_0 : Int) (wrap64 ((rd t531 a1_0) - a1_2))
         rw [← Ny535.out] at HP14
         have HQ14 := zad HP14
         clear HP14
         refine start_ (n := 10) (S := fun w' => w'.cell? ⟨gb530, 0, none⟩ = some (.int .i64 a1_0) ∧ w'.cell? ⟨gb530, 1, none⟩ = some (.int .i64 a1_1) ∧ w'.cell? ⟨gb530, 2, none⟩ = some (.int .i64 a1_2) ∧ w'.cell? ⟨go6, (a1_0).toNat, none⟩ = some (.int .i64 (rd t531 a1_0))) (ds := [9]) #[false, false, false, false, false, false, false, false, false, false] (by kernel_rfl) rfl rfl ⟨(blk_cell BK530.out 0).trans rfl, (blk_cell BK530.out 1).trans rfl, (blk_cell BK530.out 2).trans rfl, hx534_0⟩ (fun hHeld => ?_); refine with_tabW impl_given.tab2 impl_given.bits2 (fun HT_ HW_ => ?_)
         generalize w11.drew = w12 at HO533 BK530 HB GG6 HQ14 hf6_0 hx534_0 hx6_0 hHeld ⊢
         refine pure_ (i := 0) (N := some 8) (v := ?_) (a' := ?_) #[true, false, false, false, false, false, false, false, false, false] rfl rfl (any_of HT_.out (by kernel_rfl)) (fun _ _ _ h => h) (Or.inl ⟨by rfl, ?_⟩) ?_ ?_
         rotate_left
         · intro w'
           go_simp
           with_reducible rfl
         rotate_left
         · simp only [Act.put, zaa, zab, zac, i64_w, i32_w]
           rfl
         refine pure_ (i := 1) (N := some 9) (v := ?_) (a' := ?_) #[true, true, false, false, false, false, false, false, false, false] rfl rfl (any_of HT_.out (by kernel_rfl)) (fun _ _ _ h => h) (Or.inl ⟨by rfl, ?_⟩) ?_ ?_
         rotate_left
         · intro w'
           go_simp
           with_reducible rfl
         rotate_left
         · simp only [Act.put, zaa, zab, zac, i64_w, i32_w]
           rfl
         refine pure_ (i := 5) (N := some 13) (v := ?_) (a' := ?_) #[true, true, false, false, false, true, false, false, false, false] rfl rfl (any_of HT_.out (by kernel_rfl)) (fun _ _ _ h => h) (Or.inl ⟨by rfl, ?_⟩) ?_ ?_
         rotate_left
         · intro w'
           go_simp
           with_reducible rfl
         rotate_left
         · simp only [Act.put, zaa, zab, zac, i64_w, i32_w]
           rfl
         refine take_ (i := 2) (N := some 10) (v := ?_) (a' := ?_) #[true, true, true, false, false, true, false, false, false, false] rfl rfl (take_ofW HT_.out HW_.out (by kernel_rfl)) (fun _ _ _ h => h) (Or.inl ⟨by rfl, ?_⟩) hHeld ?_ ?_
         rotate_left
         · rintro w' ⟨s0, s1, s2, s3⟩
           go_simp
           with_reducible rfl
         rotate_left
         · simp only [Act.put, zaa, zab, zac, i64_w, i32_w]
           rfl
         refine pure_ (i := 3) (N := some 11) (v := ?_) (a' := ?_) #[true, true, true, true, false, true, false, false, false, false] rfl rfl (any_of HT_.out (by kernel_rfl)) (fun _ _ _ h => h) (Or.inl ⟨by rfl, ?_⟩) ?_ ?_
         rotate_left
         · intro w'
           go_simp
           with_reducible rfl
         rotate_left
         · simp only [Act.put, zaa, zab, zac, i64_w, i32_w]
           rfl
         refine take_ (i := 4) (N := some 12) (v := ?_) (a' := ?_) #[true, true, true, true, true, true, false, false, false, false] rfl rfl (take_ofW HT_.out HW_.out (by kernel_rfl)) (fun _ _ _ h => h) (Or.inl ⟨by rfl, ?_⟩) hHeld ?_ ?_
         rotate_left
         · rintro w' ⟨s0, s1, s2, s3⟩
           go_simp
           with_reducible rfl
         rotate_left
         · simp only [Act.put, zaa, zab, zac, i64_w, i32_w]
           rfl
         refine take_ (i := 6) (N := some 14) (v := ?_) (a' := ?_) #[true, true, true, true, true, true, true, false, false, false] rfl rfl (take_ofW HT_.out HW_.out (by kernel_rfl)) (fun _ _ _ h => h) (Or.inl ⟨by rfl, ?_⟩) hHeld ?_ ?_
         rotate_left
         · rintro w' ⟨s0, s1, s2, s3⟩
           go_simp
           with_reducible rfl
         rotate_left
         · simp only [Act.put, zaa, zab, zac, i64_w, i32_w]
           rfl
         refine pure_ (i := 7) (N := some 15) (v := ?_) (a' := ?_) #[true, true, true, true, true, true, true, true, false, false] rfl rfl (any_of HT_.out (by kernel_rfl)) (fun _ _ _ h => h) (Or.inl ⟨by rfl, ?_⟩) ?_ ?_
         rotate_left
         · intro w'
           go_simp
           with_reducible rfl
         rotate_left
         · simp only [Act.put, zaa, zab, zac, i64_w, i32_w]
           rfl
         refine pure_ (i := 8) (N := some 16) (v := ?_) (a' := ?_) #[true, true, true, true, true, true, true, true, true, false] rfl rfl (any_of HT_.out (by kernel_rfl)) (fun _ _ _ h => h) (Or.inl ⟨by rfl, ?_⟩) ?_ ?_
         rotate_left
         · intro w'
           go_simp
           with_reducible rfl
         rotate_left
         · simp only [Act.put, zaa, zab, zac, i64_w, i32_w]
           rfl
         refine last_ (i := 9) (N := none) #[true, true, true, true, true, true, true, true, true, true] rfl rfl (one_of HT_.out (by kernel_rfl)) (by decide) (fun K hK => ?_)
         refine skip_ (w1 := ?_) (by rfl) rfl ?_ ?_
         rotate_left
         · go_simp
           rfl
         refine hK.out _ _ ?_
         clear hK K
         refine done_ (done_of HT_.out (by kernel_rfl)) ?_
         try go_wp2
         have n0_ : Aside0 (Kd.R (Kd.int .i64) 3 (w12.setCell ⟨go6, (a1_0 : Int).toNat, none⟩ (.int .i64 (wrap64 ((rd t531 a1_0) - a1_2)))) w.heap.size (fun _ => True) (.slice (some ⟨go6, 0, none⟩) t531.length co13) y535) := ⟨by (with_reducible repeat (first | apply zai | apply zaj | apply zak)); exact HQ14.out⟩
         have n1_ : Aside0 ((w12.setCell ⟨go6, (a1_0 : Int).toNat, none⟩ (.int .i64 (wrap64 ((rd t531 a1_0) - a1_2)))).heap[gb530]? = some (.cells #[.int .i64 a1_0, .int .i64 a1_1, .int .i64 a1_2] 39 (0, 0))) := ⟨by (with_reducible repeat (first | refine blk_drewN ?_ _ | refine blk_drew ?_ | refine blk_alloc ?_ _)); refine blk_far ?_ (by have h_ := Kd.R_ne HO533.out BK530.out (by decide); intro e_; exact h_ (by rw [e_]; rfl)) _; (with_reducible repeat (first | refine blk_drewN ?_ _ | refine blk_drew ?_ | refine blk_alloc ?_ _)); exact BK530.out⟩
         have n2_ : Aside0 (Below w.heap.size w (w12.setCell ⟨go6, (a1_0 : Int).toNat, none⟩ (.int .i64 (wrap64 ((rd t531 a1_0) - a1_2))))) := ⟨by repeat (first | (with_reducible first | exact HB.out | apply zag | apply zae | apply zaf | refine zah ?_ GB6.out | refine zah ?_ GE530.out) | exact HB.out)⟩
         (try clear HO533)
         (try clear BK530)
         (try clear HB)
         generalize (w12.setCell ⟨go6, (a1_0 : Int).toNat, none⟩ (.int .i64 (wrap64 ((rd t531 a1_0) - a1_2)))) = w15 at n0_ n1_ n2_ ⊢
         have HO533 := n0_
         have BK530 := n1_
         have HB := n2_
         clear n0_ n1_ n2_
         have n0_ := zad (zak HO533.out)
         have n1_ := zad (blk_drew BK530.out)
         have n2_ := zad (zaf HB.out)
         clear HO533
         clear BK530
         clear HB
         have HO533 := n0_
         have BK530 := n1_
         have HB := n2_
         clear n0_ n1_ n2_
         have p536 : 0 ≤ (a1_1 : Int) := zas (by first | (with_reducible assumption) | assumption)
         have q536 : a1_1 < (y535.length : Int) := (by have h_ : (a1_1 : Int) < ((t531.length : Int) : Int) := zas (by first | (with_reducible assumption) | assumption); first | (have e_ := (Kd.R_reads' HO533.out).1; omega) | simpa only [Ny535.out, List.length_set] using h_)
         have ql536 : ((a1_1 : Int) < ((t531.length : Int) : Int)) = True := eq_true (zas (by first | (with_reducible assumption) | assumption))
         obtain ⟨ad536, e536, hx536_0⟩ := Kd.at_int (Kd.R_reads' HO533.out).2.2 a1_1 p536 q536
         obtain rfl : (⟨go6, 0, none⟩ : Addr) = ad536 := (by injection e536)
         (first | simp only [add_plain] at hx536_0 | simp only [add_at] at hx536_0 | simp only [Addr.add, Nat.zero_add] at hx536_0 | skip)
         replace p536 := eq_true p536
         replace q536 := eq_true q536
         have p9 : 0 ≤ (a1_1 : Int) := zas (by first | (with_reducible assumption) | assumption)
         have q9 : (a1_1 : Int) < ((t531.length : Int) : Int) := zas (by first | (with_reducible assumption) | assumption)
         obtain ⟨hx9_0, hf9_0⟩ := Kd.R_celln 0 HO533.out (a1_1 : Int) p9 q9
         replace p9 := eq_true p9
         replace q9 := eq_true q9
         have HP17 := Kd.R_putn HO533.out (a1_1 : Int) (wrap64 ((rd y535 a1_1) + a1_2))
         rw [← Ny537.out] at HP17
         have HQ17 := zad HP17
         clear HP17
         refine start_ (n := 10) (S := fun w' => w'.cell? ⟨gb530, 0, none⟩ = some (.int .i64 a1_0) ∧ w'.cell? ⟨gb530, 1, none⟩ = some (.int .i64 a1_1) ∧ w'.cell? ⟨gb530, 2, none⟩ = some (.int .i64 a1_2) ∧ w'.cell? ⟨go6, (a1_1).toNat, none⟩ = some (.int .i64 (rd y535 a1_1))) (ds := [9]) #[false, false, false, false, false, false, false, false, false, false] (by kernel_rfl) rfl rfl ⟨(blk_cell BK530.out 0).trans rfl, (blk_cell BK530.out 1).trans rfl, (blk_cell BK530.out 2).trans rfl, hx536_0⟩ (fun hHeld => ?_); refine with_tabW impl_given.tab3 impl_given.bits3 (fun HT_ HW_ => ?_)
         generalize w15.drew = w16 at HO533 BK530 HB HQ14 HQ17 hf9_0 hx536_0 hx9_0 hHeld ⊢
         refine pure_ (i := 0) (N := some 17) (v := ?_) (a' := ?_) #[true, false, false, false, false, false, false, false, false, false] rfl rfl (any_of HT_.out (by kernel_rfl)) (fun _ _ _ h => h) (Or.inl ⟨by rfl, ?_⟩) ?_ ?_
         rotate_left
         · intro w'
           go_simp
           with_reducible rfl
         rotate_left
         · simp only [Act.put, zaa, zab, zac, i64_w, i32_w]
           rfl
         refine pure_ (i := 1) (N := some 18) (v := ?_) (a' := ?_) #[true, true, false, false, false, false, false, false, false, false] rfl rfl (any_of HT_.out (by kernel_rfl)) (fun _ _ _ h => h) (Or.inl ⟨by rfl, ?_⟩) ?_ ?_
         rotate_left
         · intro w'
           go_simp
           with_reducible rfl
         rotate_left
         · simp only [Act.put, zaa, zab, zac, i64_w, i32_w]
           rfl
         refine pure_ (i := 5) (N := some 22) (v := ?_) (a' := ?_) #[true, true, false, false, false, true, false, false, false, false] rfl rfl (any_of HT_.out (by kernel_rfl)) (fun _ _ _ h => h) (Or.inl ⟨by rfl, ?_⟩) ?_ ?_
         rotate_left
         · intro w'
           go_simp
           with_reducible rfl
         rotate_left
         · simp only [Act.put, zaa, zab, zac, i64_w, i32_w]
           rfl
         refine take_ (i := 2) (N := some 19) (v := ?_) (a' := ?_) #[true, true, true, false, false, true, false, false, false, false] rfl rfl (take_ofW HT_.out HW_.out (by kernel_rfl)) (fun _ _ _ h => h) (Or.inl ⟨by rfl, ?_⟩) hHeld ?_ ?_
         rotate_left
         · rintro w' ⟨s0, s1, s2, s3⟩
           go_simp
           with_reducible rfl
         rotate_left
         · simp only [Act.put, zaa, zab, zac, i64_w, i32_w]
           rfl
         refine pure_ (i := 3) (N := some 20) (v := ?_) (a' := ?_) #[true, true, true, true, false, true, false, false, false, false] rfl rfl (any_of HT_.out (by kernel_rfl)) (fun _ _ _ h => h) (Or.inl ⟨by rfl, ?_⟩) ?_ ?_
         rotate_left
         · intro w'
           go_simp
           with_reducible rfl
         rotate_left
         · simp only [Act.put, zaa, zab, zac, i64_w, i32_w]
           rfl
         refine take_ (i := 4) (N := some 21) (v := ?_) (a' := ?_) #[true, true, true, true, true, true, false, false, false, false] rfl rfl (take_ofW HT_.out HW_.out (by kernel_rfl)) (fun _ _ _ h => h) (Or.inl ⟨by rfl, ?_⟩) hHeld ?_ ?_
         rotate_left
         · rintro w' ⟨s0, s1, s2, s3⟩
           go_simp
           with_reducible rfl
         rotate_left
         · simp only [Act.put, zaa, zab, zac, i64_w, i32_w]
           rfl
         refine take_ (i := 6) (N := some 23) (v := ?_) (a' := ?_) #[true, true, true, true, true, true, true, false, false, false] rfl rfl (take_ofW HT_.out HW_.out (by kernel_rfl)) (fun _ _ _ h => h) (Or.inl ⟨by rfl, ?_⟩) hHeld ?_ ?_
         rotate_left
         · rintro w' ⟨s0, s1, s2, s3⟩
           go_simp
           with_reducible rfl
         rotate_left
         · simp only [Act.put, zaa, zab, zac, i64_w, i32_w]
           rfl
         refine pure_ (i := 7) (N := some 24) (v := ?_) (a' := ?_) #[true, true, true, true, true, true, true, true, false, false] rfl rfl (any_of HT_.out (by kernel_rfl)) (fun _ _ _ h => h) (Or.inl ⟨by rfl, ?_⟩) ?_ ?_
         rotate_left
         · intro w'
           go_simp
           with_reducible rfl
         rotate_left
         · simp only [Act.put, zaa, zab, zac, i64_w, i32_w]
           rfl
         refine pure_ (i := 8) (N := some 25) (v := ?_) (a' := ?_) #[true, true, true, true, true, true, true, true, true, false] rfl rfl (any_of HT_.out (by kernel_rfl)) (fun _ _ _ h => h) (Or.inl ⟨by rfl, ?_⟩) ?_ ?_
         rotate_left
         · intro w'
           go_simp
           with_reducible rfl
         rotate_left
         · simp only [Act.put, zaa, zab, zac, i64_w, i32_w]
           rfl
         refine last_ (i := 9) (N := none) #[true, true, true, true, true, true, true, true, true, true] rfl rfl (one_of HT_.out (by kernel_rfl)) (by decide) (fun K hK => ?_)
         refine skip_ (w1 := ?_) (by rfl) rfl ?_ ?_
         rotate_left
         · go_simp
           rfl
         refine hK.out _ _ ?_
         clear hK K
         refine done_ (done_of HT_.out (by kernel_rfl)) ?_
         try go_wp2
         go_ret
         exact ⟨_, by first | rfl | (simp [errW_none, errW_some] <;> rfl) | (simp [*, errW_none, errW_some] <;> rfl), by (with_reducible repeat (first | apply zai | apply zaj | apply zak)); exact HQ17.out, by repeat (first | (with_reducible first | exact HB.out | apply zag | apply zae | apply zaf | refine zah ?_ GB6.out | refine zah ?_ GE530.out) | exact HB.out)⟩
       · rw [if_neg c8] at H
         exact absurd H (by simp)
     · rw [if_neg c7] at H
       exact absurd H (by simp)
   · rw [if_neg c5] at H
     exact absurd H (by simp)
 · rw [if_neg c4] at H
   exact absurd H (by simp)
def slices_Equal_int_int.l0 : Nat → List Int → List Int → Int → Int → Option (Bool)
 | 0, _, _, _, _ => none
 | k + 1, x0, x1, x12, x13 => if x13 < x12 then (if 0 ≤ x13 then (if x13 < (x0.length : Int) then (if x13 < (x1.length : Int) then (if (rd x0 x13) = (rd x1 x13) then (slices_Equal_int_int.l0 k x0 x1 x12 (wrap64 (x13 + 1))) else (some false)) else (none)) else (none)) else (none)) else (some true)
def slices_Equal_int_int.f (k : Nat) (l0 : List Int) (l1 : List Int) : Option (Bool) := if (l0.length : Int) = (l1.length : Int) then (slices_Equal_int_int.l0 k l0 l1 (l0.length : Int) 0) else (some false)
set_option maxHeartbeats 8000000 in
set_option maxRecDepth 100000 in
theorem slices_Equal_int_int.calls (k : Nat) (A0 : Option Addr) (c0 : Nat) (l0 : List Int) (A1 : Option Addr) (c1 : Nat) (l1 : List Int) (r : Bool) (w : World) (hr0 : Kd.C (Kd.int .i64) w A0 l0.length l0) (hc0 : l0.length ≤ c0) (hr1 : Kd.C (Kd.int .i64) w A1 l1.length l1) (hc1 : l1.length ≤ c1) (h : slices_Equal_int_int.f k l0 l1 = some r) :
 Calls Try.prog 135 #[.slice A0 l0.length c0, .slice A1 l1.length c1] w fun e w' => e = .returned (.bool r) ∧ Drawn0 w w' := by
 have HR0 := zad hr0
 have HC0 := zad hc0
 clear hr0 hc0
 have HR1 := zad hr1
 have HC1 := zad hc1
 clear hr1 hc1
 have H : (if (l0.length : Int) = (l1.length : Int) then (slices_Equal_int_int.l0 k l0 l1 (l0.length : Int) 0) else (some false)) = some r := h
 clear h
 by_cases c3 : (l0.length : Int) = (l1.length : Int)
 · rw [if_pos c3] at H
   have c3b0 : ((l0.length : Int) == (l1.length : Int)) = true := beq_iff_eq.mpr c3
   have c3b1 : ((l0.length : Int) != (l1.length : Int)) = false := bne_eq_false_iff_eq.mpr c3
   have c3b2 : (l0.length == l1.length) = true := by first | simpa using c3 | (simp at c3 ⊢; omega)
   clear c3
   have H' := zad H
   clear H
   go_enter Try.func135, Try.ntmps135
   go_wp2
   repeat (go_quiet (fail); try go_wp2)
   go_loopg [13] k (fun kq v13 w' => ∃ (x13_1 : Int), v13 = .int .i64 x13_1 ∧ Aside0 (slices_Equal_int_int.l0 kq l0 l1 (l0.length : Int) x13_1 = some r) ∧ Aside0 (kq ≤ k) ∧ Drawn0 w w')
   case atStart => exact ⟨(0), (by first | rfl | (simp; done) | (simp [*]; done)), H', ⟨Nat.le_refl _⟩, by repeat (first | exact Drawn0.refl _ | apply Drawn0.step)⟩
   case round =>
    clear H'
    try clear c1
    try clear p2
    try clear c3
    try clear c3b0
    try clear c3b1
    try clear c3b2
    obtain ⟨x13_1, rfl, HA, HK1, ⟨m1, rfl⟩⟩ := hrel
    cases gk with
    | zero => exact absurd HA.out (by simp [slices_Equal_int_int.l0])
    | succ k1 =>
     have H := HA.out
     clear HA
     simp only [slices_Equal_int_int.l0] at H
     by_cases c4 : x13_1 < (l0.length : Int)
     · rw [if_pos c4] at H
       have c4b0 : decide (x13_1 < (l0.length : Int)) = true := zaz c4
       clear c4
       by_cases c5 : 0 ≤ x13_1
       · rw [if_pos c5] at H
         have c5b0 : decide (0 ≤ x13_1) = true := zaz c5
         clear c5
         by_cases c6 : x13_1 < (l0.length : Int)
         · rw [if_pos c6] at H
           have c6b0 : decide (x13_1 < (l0.length : Int)) = true := zaz c6
           clear c6
           by_cases c7 : x13_1 < (l1.length : Int)
           · rw [if_pos c7] at H
             have c7b0 : decide (x13_1 < (l1.length : Int)) = true := zaz c7
             clear c7
             by_cases c8 : (rd l0 x13_1) = (rd l1 x13_1)
             · rw [if_pos c8] at H
               have c8b0 : ((rd l0 x13_1) == (rd l1 x13_1)) = true := beq_iff_eq.mpr c8
               have c8b1 : ((rd l0 x13_1) != (rd l1 x13_1)) = false := bne_eq_false_iff_eq.mpr c8
               clear c8
               have H' := zad H
               clear H
               have p1143 : 0 ≤ (x13_1 : Int) := zas (by first | (with_reducible assumption) | assumption)
               have q1143 : x13_1 < (l0.length : Int) := zas (by first | (with_reducible assumption) | assumption)
               obtain ⟨ad1143, e1143, hx1143_0⟩ := Kd.at_int HR0.out x13_1 p1143 q1143
               cases e1143
               replace p1143 := eq_true p1143
               replace q1143 := eq_true q1143
               have p1144 : 0 ≤ (x13_1 : Int) := zas (by first | (with_reducible assumption) | assumption)
               have q1144 : x13_1 < (l1.length : Int) := zas (by first | (with_reducible assumption) | assumption)
               obtain ⟨ad1144, e1144, hx1144_0⟩ := Kd.at_int HR1.out x13_1 p1144 q1144
               cases e1144
               replace p1144 := eq_true p1144
               replace q1144 := eq_true q1144
               go_wp2
               repeat (go_quiet (fail); try go_wp2)
               go_roundg k1
               case measure => have := HK1.out; omega
               case rel => exact ⟨(wrap64 (x13_1 + 1)), (by first | rfl | (simp; done) | (simp [*]; done)), H', ⟨by have := HK1.out; omega⟩, by repeat (first | exact Drawn0.refl _ | apply Drawn0.step)⟩
             · rw [if_neg c8] at H
               have c8b0 : ((rd l0 x13_1) == (rd l1 x13_1)) = false := beq_eq_false_iff_ne.mpr c8
               have c8b1 : ((rd l0 x13_1) != (rd l1 x13_1)) = true := bne_iff_ne.mpr c8
               obtain rfl := Option.some.inj H
               have p1143 : 0 ≤ (x13_1 : Int) := zas (by first | (with_reducible assumption) | assumption)
               have q1143 : x13_1 < (l0.length : Int) := zas (by first | (with_reducible assumption) | assumption)
               obtain ⟨ad1143, e1143, hx1143_0⟩ := Kd.at_int HR0.out x13_1 p1143 q1143
               cases e1143
               replace p1143 := eq_true p1143
               replace q1143 := eq_true q1143
               have p1144 : 0 ≤ (x13_1 : Int) := zas (by first | (with_reducible assumption) | assumption)
               have q1144 : x13_1 < (l1.length : Int) := zas (by first | (with_reducible assumption) | assumption)
               obtain ⟨ad1144, e1144, hx1144_0⟩ := Kd.at_int HR1.out x13_1 p1144 q1144
               cases e1144
               replace p1144 := eq_true p1144
               replace q1144 := eq_true q1144
               go_wp2
               repeat (go_quiet (fail); try go_wp2)
               go_ret
               exact ⟨by first | rfl | (simp; done) | (simp [*]; done), by repeat (first | exact Drawn0.refl _ | apply Drawn0.step)⟩
           · rw [if_neg c7] at H
             exact absurd H (by simp)
         · rw [if_neg c6] at H
           exact absurd H (by simp)
       · rw [if_neg c5] at H
         exact absurd H (by simp)
     · rw [if_neg c4] at H
       have c4b0 : decide (x13_1 < (l0.length : Int)) = false := decide_eq_false c4
       clear c4
       obtain rfl := Option.some.inj H
       go_wp2
       repeat (go_quiet (fail); try go_wp2)
       go_ret
       exact ⟨by first | rfl | (simp; done) | (simp [*]; done), by repeat (first | exact Drawn0.refl _ | apply Drawn0.step)⟩
 · rw [if_neg c3] at H
   have c3b0 : ((l0.length : Int) == (l1.length : Int)) = false := beq_eq_false_iff_ne.mpr c3
   have c3b1 : ((l0.length : Int) != (l1.length : Int)) = true := bne_iff_ne.mpr c3
   have c3b2 : (l0.length == l1.length) = false := by first | simpa using c3 | (simp at c3 ⊢; omega)
   obtain rfl := Option.some.inj H
   go_enter Try.func135, Try.ntmps135
   go_wp2
   repeat (go_quiet (fail); try go_wp2)
   go_ret
   exact ⟨by first | rfl | (simp; done) | (simp [*]; done), by repeat (first | exact Drawn0.refl _ | apply Drawn0.step)⟩
end Go.Proofs.Ytnlimjejllakoaa.A
