/- What the law FnAcceptedGiftPaths reaches, part 4: Lean functions with the same answers as the Go functions, the proofs that the Go code comes to these answers, and lemmas about them; no condition beyond those that each theorem names. -/
import Derived.Test.YtnlimjejllakoaaCFnAcceptedGiftPathsw1
import Derived.Test.YtnlimjejllakoaaCFnAcceptedGiftPaths1
import Derived.Test.YtnlimjejllakoaaCFnAcceptedGiftPaths2
import Derived.Test.YtnlimjejllakoaaCFnAcceptedGiftPaths3
set_option linter.unusedVariables false
set_option linter.unusedSimpArgs false
set_option maxHeartbeats 8000000
set_option maxRecDepth 100000
namespace Go.Proofs.Ytnlimjejllakoaa.A
open Go.RowKit Go.Proofs.YtnlimjejllakoaaW.PrintWords Go.Proofs.YtnlimjejllakoaaW.PrintLast Go.Proofs.YtnlimjejllakoaaW.PrintMore
attribute [local go_sem] max2_int min2_int max_two min_two max_three min_three max_four min_four
def spec_l1Cur_gift.f (s0_0 : List Int) (s0_1 : Int) (s0_2 : Int) (l1 : List Int) : Option (Int × Int × Int × Int × Int) := (spec_l1Most.f 1 (l1.length : Int)).bind fun t432 => ((spec_l1Cur_pick.f s0_0 s0_1 s0_2 t432).bind fun bt433 => ((spec_l1Cur_pick.f s0_0 bt433.2.1 bt433.2.2 t432).bind fun bt436 => ((spec_l1Cur_pick.f s0_0 bt436.2.1 bt436.2.2 3).bind fun bt439 => ((spec_l1Cur_pick.f s0_0 bt439.2.1 bt439.2.2 12).bind fun bt443 => (if bt443.1 = 0 then ((spec_l1Cur_among.f s0_0 bt443.2.1 bt443.2.2 (([(-1), 0, 60, 61] : List Int))).bind fun bt449 => (some (bt433.1, bt436.1, bt449.1, bt449.2.1, bt449.2.2))) else (if bt443.1 = 1 then ((spec_l1Cur_among.f s0_0 bt443.2.1 bt443.2.2 (([(-1), t432, bt433.1] : List Int))).bind fun bt455 => (some (bt433.1, bt455.1, wrap64 (1 + bt439.1), bt455.2.1, bt455.2.2))) else (some (bt433.1, bt436.1, wrap64 (1 + bt439.1), bt443.2.1, bt443.2.2))))))))
theorem spec_l1Cur_gift.calls (g : Nat) (s0_0 : List Int) (s0_1 : Int) (s0_2 : Int) (A1 : Option Addr) (c1 : Nat) (l1 : List Int) (r1 : Int) (r2 : Int) (r3 : Int) (r4 : Int) (r5 : Int) (w0 w : World) (hI : IsS75 w0 w g s0_0 s0_1 s0_2) (hB : Below w0.heap.size w0 w) (hr1 : Kd.C (Kd.int .i64) w A1 l1.length l1) (hc1 : l1.length ≤ c1) (hf1 : ∀ ad, A1 = some ad → 0 < l1.length → ad.block ≠ g) (h : spec_l1Cur_gift.f s0_0 s0_1 s0_2 l1 = some (r1, r2, r3, r4, r5)) :
 Calls Try.prog 97 #[.pointer (some ⟨g, 0, none⟩), .slice A1 l1.length c1] w fun e w' => e = .returned (.agg #[.int .i64 r1, .int .i64 r2, .int .i64 r3]) ∧ IsS75 w0 w' g s0_0 r4 r5 ∧ Below w0.heap.size w0 w' ∧ KeepBut w w' g none := by
 have hu39 := Try.underlying39
 have HR1 := zad hr1; have HC1 := zad hc1; clear hr1 hc1; have HI0 := zad hI; have HK := zad (KeepBut.refl w g none)
 have HL := zad hB.size; clear hI; have HW0 := zad hB.size; have HB := zad hB; clear hB; have H : ((spec_l1Most.f 1 (l1.length : Int)).bind fun t432 => ((spec_l1Cur_pick.f s0_0 s0_1 s0_2 t432).bind fun bt433 => ((spec_l1Cur_pick.f s0_0 bt433.2.1 bt433.2.2 t432).bind fun bt436 => ((spec_l1Cur_pick.f s0_0 bt436.2.1 bt436.2.2 3).bind fun bt439 => ((spec_l1Cur_pick.f s0_0 bt439.2.1 bt439.2.2 12).bind fun bt443 => (if bt443.1 = 0 then ((spec_l1Cur_among.f s0_0 bt443.2.1 bt443.2.2 (([(-1), 0, 60, 61] : List Int))).bind fun bt449 => (some (bt433.1, bt436.1, bt449.1, bt449.2.1, bt449.2.2))) else (if bt443.1 = 1 then ((spec_l1Cur_among.f s0_0 bt443.2.1 bt443.2.2 (([(-1), t432, bt433.1] : List Int))).bind fun bt455 => (some (bt433.1, bt455.1, wrap64 (1 + bt439.1), bt455.2.1, bt455.2.2))) else (some (bt433.1, bt436.1, wrap64 (1 + bt439.1), bt443.2.1, bt443.2.2))))))))) = some (r1, r2, r3, r4, r5) := h
 clear h; replace H := zay.mp H; obtain ⟨t432, A30, H⟩ := H
 replace H : ((spec_l1Cur_pick.f s0_0 s0_1 s0_2 t432).bind fun bt433 => ((spec_l1Cur_pick.f s0_0 bt433.2.1 bt433.2.2 t432).bind fun bt436 => ((spec_l1Cur_pick.f s0_0 bt436.2.1 bt436.2.2 3).bind fun bt439 => ((spec_l1Cur_pick.f s0_0 bt439.2.1 bt439.2.2 12).bind fun bt443 => (if bt443.1 = 0 then ((spec_l1Cur_among.f s0_0 bt443.2.1 bt443.2.2 (([(-1), 0, 60, 61] : List Int))).bind fun bt449 => (some (bt433.1, bt436.1, bt449.1, bt449.2.1, bt449.2.2))) else (if bt443.1 = 1 then ((spec_l1Cur_among.f s0_0 bt443.2.1 bt443.2.2 (([(-1), t432, bt433.1] : List Int))).bind fun bt455 => (some (bt433.1, bt455.1, wrap64 (1 + bt439.1), bt455.2.1, bt455.2.2))) else (some (bt433.1, bt436.1, wrap64 (1 + bt439.1), bt443.2.1, bt443.2.2)))))))) = some (r1, r2, r3, r4, r5) := H
 have A3 := zad A30; clear A30; replace H := zay.mp H; obtain ⟨⟨t433, t434, t435⟩, A40, H⟩ := H
 replace H : ((spec_l1Cur_pick.f s0_0 t434 t435 t432).bind fun bt436 => ((spec_l1Cur_pick.f s0_0 bt436.2.1 bt436.2.2 3).bind fun bt439 => ((spec_l1Cur_pick.f s0_0 bt439.2.1 bt439.2.2 12).bind fun bt443 => (if bt443.1 = 0 then ((spec_l1Cur_among.f s0_0 bt443.2.1 bt443.2.2 (([(-1), 0, 60, 61] : List Int))).bind fun bt449 => (some (t433, bt436.1, bt449.1, bt449.2.1, bt449.2.2))) else (if bt443.1 = 1 then ((spec_l1Cur_among.f s0_0 bt443.2.1 bt443.2.2 (([(-1), t432, t433] : List Int))).bind fun bt455 => (some (t433, bt455.1, wrap64 (1 + bt439.1), bt455.2.1, bt455.2.2))) else (some (t433, bt436.1, wrap64 (1 + bt439.1), bt443.2.1, bt443.2.2))))))) = some (r1, r2, r3, r4, r5) := H
 have A4 := zad A40; clear A40; replace H := zay.mp H; obtain ⟨⟨t436, t437, t438⟩, A50, H⟩ := H
 replace H : ((spec_l1Cur_pick.f s0_0 t437 t438 3).bind fun bt439 => ((spec_l1Cur_pick.f s0_0 bt439.2.1 bt439.2.2 12).bind fun bt443 => (if bt443.1 = 0 then ((spec_l1Cur_among.f s0_0 bt443.2.1 bt443.2.2 (([(-1), 0, 60, 61] : List Int))).bind fun bt449 => (some (t433, t436, bt449.1, bt449.2.1, bt449.2.2))) else (if bt443.1 = 1 then ((spec_l1Cur_among.f s0_0 bt443.2.1 bt443.2.2 (([(-1), t432, t433] : List Int))).bind fun bt455 => (some (t433, bt455.1, wrap64 (1 + bt439.1), bt455.2.1, bt455.2.2))) else (some (t433, t436, wrap64 (1 + bt439.1), bt443.2.1, bt443.2.2)))))) = some (r1, r2, r3, r4, r5) := H
 have A5 := zad A50; clear A50; replace H := zay.mp H; obtain ⟨⟨t439, t440, t441⟩, A60, H⟩ := H
 replace H : ((spec_l1Cur_pick.f s0_0 t440 t441 12).bind fun bt443 => (if bt443.1 = 0 then ((spec_l1Cur_among.f s0_0 bt443.2.1 bt443.2.2 (([(-1), 0, 60, 61] : List Int))).bind fun bt449 => (some (t433, t436, bt449.1, bt449.2.1, bt449.2.2))) else (if bt443.1 = 1 then ((spec_l1Cur_among.f s0_0 bt443.2.1 bt443.2.2 (([(-1), t432, t433] : List Int))).bind fun bt455 => (some (t433, bt455.1, wrap64 (1 + t439), bt455.2.1, bt455.2.2))) else (some (t433, t436, wrap64 (1 + t439), bt443.2.1, bt443.2.2))))) = some (r1, r2, r3, r4, r5) := H
 have A6 := zad A60; clear A60; replace H := zay.mp H; obtain ⟨⟨t443, t444, t445⟩, A70, H⟩ := H
 replace H : (if t443 = 0 then ((spec_l1Cur_among.f s0_0 t444 t445 (([(-1), 0, 60, 61] : List Int))).bind fun bt449 => (some (t433, t436, bt449.1, bt449.2.1, bt449.2.2))) else (if t443 = 1 then ((spec_l1Cur_among.f s0_0 t444 t445 (([(-1), t432, t433] : List Int))).bind fun bt455 => (some (t433, bt455.1, wrap64 (1 + t439), bt455.2.1, bt455.2.2))) else (some (t433, t436, wrap64 (1 + t439), t444, t445)))) = some (r1, r2, r3, r4, r5) := H
 have A7 := zad A70; clear A70; by_cases c8 : t443 = 0
 · rw [if_pos c8] at H
   have c8b0 : (t443 == 0) = true := beq_iff_eq.mpr c8
   have c8b1 : (t443 != 0) = false := bne_eq_false_iff_eq.mpr c8
   clear c8; obtain ⟨y446, hy446⟩ : ∃ y_ : List Int, y_ = (([(-1), 0, 60, 61] : List Int)) := ⟨_, rfl⟩
   replace H : ((spec_l1Cur_among.f s0_0 t444 t445 y446).bind fun bt449 => (some (t433, t436, bt449.1, bt449.2.1, bt449.2.2))) = some (r1, r2, r3, r4, r5) := by first | (rw [hy446]; with_reducible exact H) | (have H2_ := (zbb _ _).symm.trans H; rw [hy446]; with_reducible exact H2_) | (have H2_ := (zbb _ _).symm.trans H; with_reducible exact H2_) | with_reducible exact H | (rw [hy446]; exact H) | exact H
   have Ny446 := zad hy446; clear hy446; replace H := zay.mp H; obtain ⟨⟨t449, t450, t451⟩, A90, H⟩ := H
   replace H : (some (t433, t436, t449, t450, t451)) = some (r1, r2, r3, r4, r5) := H
   have A9 := zad A90; clear A90; simp only [zbl, zbp] at H
   obtain ⟨rfl, rfl, rfl, rfl, rfl⟩ := H
   go_enter Try.func97, Try.ntmps97
   go_wp2_with (first | ((with_reducible refine gate_dst (N := 4) rfl ?_); refine box_event ?hg (N := 4) ?hd (cs := #[.int .i64 0, .int .i64 0, .int .i64 0]) (t := 39) ?hr ?_; (case hd => rfl); (case hg => rfl); (case hr => first | (go_simp; done) | (go_simp; rfl)); intro gb431 hg w10 hbox hb; have n0_ := zad (IsS75.below (taaf) hb); have n1_ := zad (zbs (taae) (KeepBut.of_below hb g none) (.inl rfl)); have n2_ := zad (zbe (taal) hb); have n3_ := zad (hbox); have n4_ := zad ((taeg : w.heap.size ≤ gb431)); have n5_ := zad ((Nat.le_trans HW0.out (taeg : w.heap.size ≤ gb431) : w0.heap.size ≤ gb431)); have n6_ := zad ((taei : g ≠ gb431)); have n7_ := zad ((taej : gb431 ≠ g)); clear HI0 HK HB; have HI0 := n0_; have HK := n1_; have HB := n2_; have BK431 := n3_; have GW431 := n4_; have GE431 := n5_; have NB0_431 := n6_; have NB431_0 := n7_; clear n0_ n1_ n2_ n3_ n4_ n5_ n6_ n7_ hb hbox hg) | ((with_reducible refine zbf (f := 91) rfl ?_); refine zbn (some 9) rfl rfl Try.func91 (by kernel_rfl) rfl #[.int .i64 1, .int .i64 (l1.length : Int)] rfl (taad) ?_; (with_reducible refine (spec_l1Most.calls 1 (l1.length : Int) t432 _ A3.out).mono ?_); rintro e w' ⟨rfl, ⟨nd, rfl⟩⟩; refine ⟨_, rfl, ?_⟩; (try (rw [drewN_self w10]; generalize hq_ : World.drewN w10 _ = w10; have n0_ : Aside0 (w10.heap[gb431]? = some (.cells #[.int .i64 0, .int .i64 0, .int .i64 0] 39 (0, 0))) := ⟨by rw [← hq_]; exact (taaq)⟩; have n1_ : Aside0 (IsS75 w0 w10 g s0_0 s0_1 s0_2) := ⟨by rw [← hq_]; exact (taba)⟩; have n2_ : Aside0 (KeepBut w w10 g none) := ⟨by rw [← hq_]; exact (taat)⟩; have n3_ : Aside0 (Below w0.heap.size w0 w10) := ⟨by rw [← hq_]; exact (tabx)⟩; clear BK431 HI0 HK HB hq_; have BK431 := n0_; have HI0 := n1_; have HK := n2_; have HB := n3_; clear n0_ n1_ n2_ n3_))) | ((with_reducible refine zbf (f := 80) rfl ?_); refine zbn (some 12) rfl rfl Try.func80 (by kernel_rfl) rfl #[.pointer (some ⟨g, 0, none⟩), .int .i64 t432] rfl (taad) ?_; (with_reducible refine (spec_l1Cur_pick.calls g s0_0 s0_1 s0_2 t432 t433 t434 t435 w0 _ ?side1 ?side2 A4.out).mono ?_); (case side1 => repeat (first | (with_reducible first | exact HI0.out | apply zcg | apply zch | apply zci | apply zcn | apply zco | refine zcm ?_ NB0_431.out _) | exact HI0.out)); (case side2 => repeat (first | (with_reducible first | exact HB.out | apply zag | apply zae | apply zaf | refine zah ?_ (zcl HI0.out) | refine zah ?_ GE431.out) | exact HB.out)); rintro e w11 ⟨rfl, hi, hb, hk⟩; refine ⟨_, rfl, ?_⟩; have n0_ := zad (KeepBut.blk hk (g' := gb431) (o := .cells #[.int .i64 0, .int .i64 0, .int .i64 0] 39 (0, 0)) (taaq) NB431_0.out (taac)); have n1_ := zad (zbs (taat) hk (.inl rfl)); have n2_ := zad (hb); have n3_ := zad (hi); clear BK431 HK HB HI0; have BK431 := n0_; have HK := n1_; have HB := n2_; have HI0 := n3_; clear n0_ n1_ n2_ n3_; (try clear hb); (try clear hb2); (try clear hk); (try clear hi)) | ((with_reducible refine zbf (f := 80) rfl ?_); refine zbn (some 15) rfl rfl Try.func80 (by kernel_rfl) rfl #[.pointer (some ⟨g, 0, none⟩), .int .i64 t432] rfl (taad) ?_; (with_reducible refine (spec_l1Cur_pick.calls g s0_0 t434 t435 t432 t436 t437 t438 w0 _ ?side1 ?side2 A5.out).mono ?_); (case side1 => repeat (first | (with_reducible first | exact HI0.out | apply zcg | apply zch | apply zci | apply zcn | apply zco | refine zcm ?_ NB0_431.out _) | exact HI0.out)); (case side2 => repeat (first | (with_reducible first | exact HB.out | apply zag | apply zae | apply zaf | refine zah ?_ (zcl HI0.out) | refine zah ?_ GE431.out) | exact HB.out)); rintro e w12 ⟨rfl, hi, hb, hk⟩; refine ⟨_, rfl, ?_⟩; have n0_ := zad (KeepBut.blk hk (g' := gb431) (o := .cells #[.int .i64 0, .int .i64 0, .int .i64 0] 39 (0, 0)) (taaq) NB431_0.out (taac)); have n1_ := zad (zbs (taat) hk (.inl rfl)); have n2_ := zad (hb); have n3_ := zad (hi); clear BK431 HK HB HI0; have BK431 := n0_; have HK := n1_; have HB := n2_; have HI0 := n3_; clear n0_ n1_ n2_ n3_; (try clear hb); (try clear hb2); (try clear hk); (try clear hi)) | ((with_reducible refine zbf (f := 80) rfl ?_); refine zbn (some 17) rfl rfl Try.func80 (by kernel_rfl) rfl #[.pointer (some ⟨g, 0, none⟩), .int .i64 3] rfl (taad) ?_; (with_reducible refine (spec_l1Cur_pick.calls g s0_0 t437 t438 3 t439 t440 t441 w0 _ ?side1 ?side2 A6.out).mono ?_); (case side1 => repeat (first | (with_reducible first | exact HI0.out | apply zcg | apply zch | apply zci | apply zcn | apply zco | refine zcm ?_ NB0_431.out _) | exact HI0.out)); (case side2 => repeat (first | (with_reducible first | exact HB.out | apply zag | apply zae | apply zaf | refine zah ?_ (zcl HI0.out) | refine zah ?_ GE431.out) | exact HB.out)); rintro e w13 ⟨rfl, hi, hb, hk⟩; refine ⟨_, rfl, ?_⟩; have n0_ := zad (KeepBut.blk hk (g' := gb431) (o := .cells #[.int .i64 0, .int .i64 0, .int .i64 0] 39 (0, 0)) (taaq) NB431_0.out (taac)); have n1_ := zad (zbs (taat) hk (.inl rfl)); have n2_ := zad (hb); have n3_ := zad (hi); clear BK431 HK HB HI0; have BK431 := n0_; have HK := n1_; have HB := n2_; have HI0 := n3_; clear n0_ n1_ n2_ n3_; (try clear hb); (try clear hb2); (try clear hk); (try clear hi)) | ((with_reducible refine gate_dst (N := 6) rfl ?_); refine box_event ?hg (N := 6) ?hd (cs := #[.int .i64 0, .int .i64 0, .int .i64 0]) (t := 39) ?hr ?_; (case hd => rfl); (case hg => rfl); (case hr => first | (go_simp; done) | (go_simp; rfl)); intro gb442 hg w14 hbox hb; have n0_ := zad (IsS75.below (taba) hb); have n1_ := zad (blk_below (g := gb431) (o := .cells #[.int .i64 0, .int .i64 0, .int .i64 0] 39 (0, 0)) (taaq) hb); have n2_ := zad (zbs (taat) (KeepBut.of_below hb g none) (.inl rfl)); have n3_ := zad (zbe (tabx) hb); have n4_ := zad (hbox); have n5_ := zad ((taeh : w.heap.size ≤ gb442)); have n6_ := zad ((Nat.le_trans HW0.out (taeh : w.heap.size ≤ gb442) : w0.heap.size ≤ gb442)); have n7_ := zad ((taek : gb431 ≠ gb442)); have n8_ := zad ((tael : gb442 ≠ gb431)); have n9_ := zad ((taem : g ≠ gb442)); have n10_ := zad ((taen : gb442 ≠ g)); clear HI0 BK431 HK HB; have HI0 := n0_; have BK431 := n1_; have HK := n2_; have HB := n3_; have BK442 := n4_; have GW442 := n5_; have GE442 := n6_; have NB431_442 := n7_; have NB442_431 := n8_; have NB0_442 := n9_; have NB442_0 := n10_; clear n0_ n1_ n2_ n3_ n4_ n5_ n6_ n7_ n8_ n9_ n10_ hb hbox hg; have hnb15 := NB442_431.out; have hnc15 := NB431_442.out; have hnb16 := NB442_0.out; have hnc16 := NB0_442.out; have hcz17_0 : w14.cell? ⟨gb442, 0, none⟩ = some (.int .i64 0) := (zbi BK442.out 0).trans rfl; have hcz17_1 : w14.cell? ⟨gb442, 1, none⟩ = some (.int .i64 0) := (zbi BK442.out 1).trans rfl; have hcz17_2 : w14.cell? ⟨gb442, 2, none⟩ = some (.int .i64 0) := (zbi BK442.out 2).trans rfl; have hfz17_0 := zbj BK442.out 0; have hfz17_1 := zbj BK442.out 1; have hfz17_2 := zbj BK442.out 2) | ((with_reducible refine zbf (f := 80) rfl ?_); refine zbn (some 21) rfl rfl Try.func80 (by kernel_rfl) rfl #[.pointer (some ⟨g, 0, none⟩), .int .i64 12] rfl (taad) ?_; (with_reducible refine (spec_l1Cur_pick.calls g s0_0 t440 t441 12 t443 t444 t445 w0 _ ?side1 ?side2 A7.out).mono ?_); (case side1 => repeat (first | (with_reducible first | exact HI0.out | apply zcg | apply zch | apply zci | apply zcn | apply zco | refine zcm ?_ NB0_431.out _ | refine zcm ?_ NB0_442.out _) | exact HI0.out)); (case side2 => repeat (first | (with_reducible first | exact HB.out | apply zag | apply zae | apply zaf | refine zah ?_ (zcl HI0.out) | refine zah ?_ GE431.out | refine zah ?_ GE442.out) | exact HB.out)); rintro e w18 ⟨rfl, hi, hb, hk⟩; refine ⟨_, rfl, ?_⟩; have n0_ := zad (KeepBut.blk hk (g' := gb431) (o := .cells #[.int .i64 0, .int .i64 0, .int .i64 0] 39 (0, 0)) (tadl) NB431_0.out (taac)); have n1_ := zad (KeepBut.blk hk (g' := gb442) (o := .cells #[.int .i64 t433, .int .i64 t436, .int .i64 (wrap64 (1 + t439))] 39 (0, 0)) (tadm) NB442_0.out (taac)); have n2_ := zad (zbs (tabb) hk (.inl rfl)); have n3_ := zad (hb); have n4_ := zad (hi); clear BK431 BK442 HK HB HI0; have BK431 := n0_; have BK442 := n1_; have HK := n2_; have HB := n3_; have HI0 := n4_; clear n0_ n1_ n2_ n3_ n4_; (try clear hb); (try clear hb2); (try clear hk); (try clear hi)) | ((with_reducible refine gate_dst (N := 25) rfl ?_); refine Kd.R_lit (Kd.int .i64) _ 3 ?hg (N := 25) ?hd (xs := ([(-1), 0, 60, 61] : List Int)) (inner := [.int .i64 (-1), .int .i64 0, .int .i64 60, .int .i64 61]) (ok := fun _ => True) (okp := fun _ => True) ?hr ?hp (fun _ hk => hk) trivial (Below.refl _ _) (zcf _) (taac) ?_; (case hd => rfl); (case hg => rfl); (case hr => first | (go_simp; done) | (go_simp; rfl)); (case hp => exact (Reps.one (show Kd.M (Kd.int .i64) _ _ _ (-1) [.int .i64 (-1)] from rfl) (Reps.one (show Kd.M (Kd.int .i64) _ _ _ 0 [.int .i64 0] from rfl) (Reps.one (show Kd.M (Kd.int .i64) _ _ _ 60 [.int .i64 60] from rfl) (Reps.one (show Kd.M (Kd.int .i64) _ _ _ 61 [.int .i64 61] from rfl) (Reps.none _ _)))))); intro v447 w19 ho20 hb hg_ hnew_; clear hg_ hnew_; (first | rw [← Ny446.out] at ho20 | (simp only [Int.reduceToNat] at ho20; rw [← Ny446.out] at ho20)); have n0_ := zad (zbu ho20 (keep_size (w := w) (g := g) (row := none) (tabb))); have n1_ := zad (IsS75.below (tabn) hb); have n2_ := zad (blk_below (g := gb431) (o := .cells #[.int .i64 0, .int .i64 0, .int .i64 0] 39 (0, 0)) (taaq) hb); have n3_ := zad (blk_below (g := gb442) (o := .cells #[.int .i64 t433, .int .i64 t436, .int .i64 (wrap64 (1 + t439))] 39 (0, 0)) (tacx) hb); have n4_ := zad (zbs (tabb) (KeepBut.of_below hb g none) (.inl rfl)); have n5_ := zad (zbe (tacd) hb); clear HI0 BK431 BK442 HK HB; have HO448 := n0_; have HI0 := n1_; have BK431 := n2_; have BK442 := n3_; have HK := n4_; have HB := n5_; clear n0_ n1_ n2_ n3_ n4_ n5_ hb ho20; obtain ⟨Ao21, co21, eo21⟩ := zbv HO448.out; subst eo21) | ((with_reducible refine zbf (f := 81) rfl ?_); refine zbn (some 26) rfl rfl Try.func81 (by kernel_rfl) rfl #[.pointer (some ⟨g, 0, none⟩), .slice Ao21 y446.length co21] rfl (taad) ?_; (with_reducible refine (spec_l1Cur_among.calls g s0_0 t444 t445 _ _ y446 t449 t450 t451 w0 _ ?side1 ?side2 ?side3 ?side4 ?side5 A9.out).mono ?_); (case side1 => repeat (first | (with_reducible first | exact HI0.out | apply zcg | apply zch | apply zci | apply zcn | apply zco | refine zcm ?_ NB0_431.out _ | refine zcm ?_ NB0_442.out _) | exact HI0.out)); (case side2 => repeat (first | (with_reducible first | exact HB.out | apply zag | apply zae | apply zaf | refine zah ?_ (zcl HI0.out) | refine zah ?_ GE431.out | refine zah ?_ GE442.out) | exact HB.out)); (case side3 => repeat (first | exact (zbd HO448.out).2.2 | (with_reducible refine zal ?_ _) | (with_reducible refine zam ?_ _) | (with_reducible refine zan ?_))); (case side4 => exact (zbd HO448.out).2.1); (case side5 => exact far_slice (zck HI0.out HO448.out (by decide))); rintro e w22 ⟨rfl, hi, hb, hk⟩; refine ⟨_, rfl, ?_⟩; have n0_ := zad (KeepBut.blk hk (g' := gb431) (o := .cells #[.int .i64 0, .int .i64 0, .int .i64 0] 39 (0, 0)) (taaq) NB431_0.out (taac)); have n1_ := zad (KeepBut.blk hk (g' := gb442) (o := .cells #[.int .i64 t433, .int .i64 t436, .int .i64 (wrap64 (1 + t439))] 39 (0, 0)) (tacx) NB442_0.out (taac)); have n2_ := zad (zbq (zbr (zcj (show IsS75 w0 _ g s0_0 t444 t445 from by exact tabn) (by (with_reducible repeat (first | apply zai | apply zaj | apply zak)); exact HO448.out) (by decide)) hk (fun _ h => h.2)) (fun _ h => h.1)); have n3_ := zad (zbs (tabb) hk (.inl rfl)); have n4_ := zad (hb); have n5_ := zad (hi); clear BK431 BK442 HO448 HK HB HI0; have BK431 := n0_; have BK442 := n1_; have HO448 := n2_; have HK := n3_; have HB := n4_; have HI0 := n5_; clear n0_ n1_ n2_ n3_ n4_ n5_; (try clear hb); (try clear hb2); (try clear hk); (try clear hi); have hcz23_0 : w22.cell? ⟨gb442, 0, none⟩ = some (.int .i64 t433) := (zbi BK442.out 0).trans rfl; have hcz23_1 : w22.cell? ⟨gb442, 1, none⟩ = some (.int .i64 t436) := (zbi BK442.out 1).trans rfl; have hcz23_2 : w22.cell? ⟨gb442, 2, none⟩ = some (.int .i64 (wrap64 (1 + t439))) := (zbi BK442.out 2).trans rfl; have hfz23_0 := zbj BK442.out 0; have hfz23_1 := zbj BK442.out 1; have hfz23_2 := zbj BK442.out 2; have hnb24 := NB431_0.out; have hnc24 := NB0_431.out; have hcz25_0 : w22.cell? ⟨gb431, 0, none⟩ = some (.int .i64 0) := (zbi BK431.out 0).trans rfl; have hcz25_1 : w22.cell? ⟨gb431, 1, none⟩ = some (.int .i64 0) := (zbi BK431.out 1).trans rfl; have hcz25_2 : w22.cell? ⟨gb431, 2, none⟩ = some (.int .i64 0) := (zbi BK431.out 2).trans rfl; have hfz25_0 := zbj BK431.out 0; have hfz25_1 := zbj BK431.out 1; have hfz25_2 := zbj BK431.out 2))
   refine bodyPost_ret (results_cell_row rfl _ _ gb431 39 #[.int .i64 t433, .int .i64 t436, .int .i64 t449] (0, 0) _ rfl (by (with_reducible repeat (first | refine blk_drewN ?_ _ | refine blk_drew ?_ | refine blk_alloc ?_ _)); refine blk_put (cs := #[.int .i64 t433, .int .i64 t436, .int .i64 0]) ?_ 2 _ rfl; (with_reducible repeat (first | refine blk_drewN ?_ _ | refine blk_drew ?_ | refine blk_alloc ?_ _)); refine blk_put (cs := #[.int .i64 t433, .int .i64 0, .int .i64 0]) ?_ 1 _ rfl; (with_reducible repeat (first | refine blk_drewN ?_ _ | refine blk_drew ?_ | refine blk_alloc ?_ _)); refine blk_put (cs := #[.int .i64 0, .int .i64 0, .int .i64 0]) ?_ 0 _ rfl; (with_reducible repeat (first | refine blk_drewN ?_ _ | refine blk_drew ?_ | refine blk_alloc ?_ _)); refine blk_far ?_ NB431_442.out _; (with_reducible repeat (first | refine blk_drewN ?_ _ | refine blk_drew ?_ | refine blk_alloc ?_ _)); exact BK431.out) Try.underlying39 rfl (by kernel_rfl)) rfl ?_
   exact ⟨taah, tabn, tacd, tabb⟩
 · rw [if_neg c8] at H
   have c8b0 : (t443 == 0) = false := zbo.mpr c8
   have c8b1 : (t443 != 0) = true := bne_iff_ne.mpr c8
   by_cases c26 : t443 = 1
   · rw [if_pos c26] at H
     have c26b0 : (t443 == 1) = true := beq_iff_eq.mpr c26
     have c26b1 : (t443 != 1) = false := bne_eq_false_iff_eq.mpr c26
     clear c26; obtain ⟨y452, hy452⟩ : ∃ y_ : List Int, y_ = (([(-1), t432, t433] : List Int)) := ⟨_, rfl⟩
     replace H : ((spec_l1Cur_among.f s0_0 t444 t445 y452).bind fun bt455 => (some (t433, bt455.1, wrap64 (1 + t439), bt455.2.1, bt455.2.2))) = some (r1, r2, r3, r4, r5) := by first | (rw [hy452]; with_reducible exact H) | (have H2_ := (zbb _ _).symm.trans H; rw [hy452]; with_reducible exact H2_) | (have H2_ := (zbb _ _).symm.trans H; with_reducible exact H2_) | with_reducible exact H | (rw [hy452]; exact H) | exact H
     have Ny452 := zad hy452; clear hy452; replace H := zay.mp H; obtain ⟨⟨t455, t456, t457⟩, A270, H⟩ := H
     replace H : (some (t433, t455, wrap64 (1 + t439), t456, t457)) = some (r1, r2, r3, r4, r5) := H
     have A27 := zad A270; clear A270; simp only [zbl, zbp] at H
     obtain ⟨rfl, rfl, rfl, rfl, rfl⟩ := H
     go_enter Try.func97, Try.ntmps97
     go_wp2_with (first | ((with_reducible refine gate_dst (N := 4) rfl ?_); refine box_event ?hg (N := 4) ?hd (cs := #[.int .i64 0, .int .i64 0, .int .i64 0]) (t := 39) ?hr ?_; (case hd => rfl); (case hg => rfl); (case hr => first | (go_simp; done) | (go_simp; rfl)); intro gb431 hg w28 hbox hb; have n0_ := zad (IsS75.below (taaf) hb); have n1_ := zad (zbs (taae) (KeepBut.of_below hb g none) (.inl rfl)); have n2_ := zad (zbe (taal) hb); have n3_ := zad (hbox); have n4_ := zad ((taeg : w.heap.size ≤ gb431)); have n5_ := zad ((Nat.le_trans HW0.out (taeg : w.heap.size ≤ gb431) : w0.heap.size ≤ gb431)); have n6_ := zad ((taei : g ≠ gb431)); have n7_ := zad ((taej : gb431 ≠ g)); clear HI0 HK HB; have HI0 := n0_; have HK := n1_; have HB := n2_; have BK431 := n3_; have GW431 := n4_; have GE431 := n5_; have NB0_431 := n6_; have NB431_0 := n7_; clear n0_ n1_ n2_ n3_ n4_ n5_ n6_ n7_ hb hbox hg) | ((with_reducible refine zbf (f := 91) rfl ?_); refine zbn (some 9) rfl rfl Try.func91 (by kernel_rfl) rfl #[.int .i64 1, .int .i64 (l1.length : Int)] rfl (taad) ?_; (with_reducible refine (spec_l1Most.calls 1 (l1.length : Int) t432 _ A3.out).mono ?_); rintro e w' ⟨rfl, ⟨nd, rfl⟩⟩; refine ⟨_, rfl, ?_⟩; (try (rw [drewN_self w28]; generalize hq_ : World.drewN w28 _ = w28; have n0_ : Aside0 (w28.heap[gb431]? = some (.cells #[.int .i64 0, .int .i64 0, .int .i64 0] 39 (0, 0))) := ⟨by rw [← hq_]; exact (taaq)⟩; have n1_ : Aside0 (IsS75 w0 w28 g s0_0 s0_1 s0_2) := ⟨by rw [← hq_]; exact (taba)⟩; have n2_ : Aside0 (KeepBut w w28 g none) := ⟨by rw [← hq_]; exact (taat)⟩; have n3_ : Aside0 (Below w0.heap.size w0 w28) := ⟨by rw [← hq_]; exact (tabx)⟩; clear BK431 HI0 HK HB hq_; have BK431 := n0_; have HI0 := n1_; have HK := n2_; have HB := n3_; clear n0_ n1_ n2_ n3_))) | ((with_reducible refine zbf (f := 80) rfl ?_); refine zbn (some 12) rfl rfl Try.func80 (by kernel_rfl) rfl #[.pointer (some ⟨g, 0, none⟩), .int .i64 t432] rfl (taad) ?_; (with_reducible refine (spec_l1Cur_pick.calls g s0_0 s0_1 s0_2 t432 t433 t434 t435 w0 _ ?side1 ?side2 A4.out).mono ?_); (case side1 => repeat (first | (with_reducible first | exact HI0.out | apply zcg | apply zch | apply zci | apply zcn | apply zco | refine zcm ?_ NB0_431.out _) | exact HI0.out)); (case side2 => repeat (first | (with_reducible first | exact HB.out | apply zag | apply zae | apply zaf | refine zah ?_ (zcl HI0.out) | refine zah ?_ GE431.out) | exact HB.out)); rintro e w29 ⟨rfl, hi, hb, hk⟩; refine ⟨_, rfl, ?_⟩; have n0_ := zad (KeepBut.blk hk (g' := gb431) (o := .cells #[.int .i64 0, .int .i64 0, .int .i64 0] 39 (0, 0)) (taaq) NB431_0.out (taac)); have n1_ := zad (zbs (taat) hk (.inl rfl)); have n2_ := zad (hb); have n3_ := zad (hi); clear BK431 HK HB HI0; have BK431 := n0_; have HK := n1_; have HB := n2_; have HI0 := n3_; clear n0_ n1_ n2_ n3_; (try clear hb); (try clear hb2); (try clear hk); (try clear hi)) | ((with_reducible refine zbf (f := 80) rfl ?_); refine zbn (some 15) rfl rfl Try.func80 (by kernel_rfl) rfl #[.pointer (some ⟨g, 0, none⟩), .int .i64 t432] rfl (taad) ?_; (with_reducible refine (spec_l1Cur_pick.calls g s0_0 t434 t435 t432 t436 t437 t438 w0 _ ?side1 ?side2 A5.out).mono ?_); (case side1 => repeat (first | (with_reducible first | exact HI0.out | apply zcg | apply zch | apply zci | apply zcn | apply zco | refine zcm ?_ NB0_431.out _) | exact HI0.out)); (case side2 => repeat (first | (with_reducible first | exact HB.out | apply zag | apply zae | apply zaf | refine zah ?_ (zcl HI0.out) | refine zah ?_ GE431.out) | exact HB.out)); rintro e w30 ⟨rfl, hi, hb, hk⟩; refine ⟨_, rfl, ?_⟩; have n0_ := zad (KeepBut.blk hk (g' := gb431) (o := .cells #[.int .i64 0, .int .i64 0, .int .i64 0] 39 (0, 0)) (taaq) NB431_0.out (taac)); have n1_ := zad (zbs (taat) hk (.inl rfl)); have n2_ := zad (hb); have n3_ := zad (hi); clear BK431 HK HB HI0; have BK431 := n0_; have HK := n1_; have HB := n2_; have HI0 := n3_; clear n0_ n1_ n2_ n3_; (try clear hb); (try clear hb2); (try clear hk); (try clear hi)) | ((with_reducible refine zbf (f := 80) rfl ?_); refine zbn (some 17) rfl rfl Try.func80 (by kernel_rfl) rfl #[.pointer (some ⟨g, 0, none⟩), .int .i64 3] rfl (taad) ?_; (with_reducible refine (spec_l1Cur_pick.calls g s0_0 t437 t438 3 t439 t440 t441 w0 _ ?side1 ?side2 A6.out).mono ?_); (case side1 => repeat (first | (with_reducible first | exact HI0.out | apply zcg | apply zch | apply zci | apply zcn | apply zco | refine zcm ?_ NB0_431.out _) | exact HI0.out)); (case side2 => repeat (first | (with_reducible first | exact HB.out | apply zag | apply zae | apply zaf | refine zah ?_ (zcl HI0.out) | refine zah ?_ GE431.out) | exact HB.out)); rintro e w31 ⟨rfl, hi, hb, hk⟩; refine ⟨_, rfl, ?_⟩; have n0_ := zad (KeepBut.blk hk (g' := gb431) (o := .cells #[.int .i64 0, .int .i64 0, .int .i64 0] 39 (0, 0)) (taaq) NB431_0.out (taac)); have n1_ := zad (zbs (taat) hk (.inl rfl)); have n2_ := zad (hb); have n3_ := zad (hi); clear BK431 HK HB HI0; have BK431 := n0_; have HK := n1_; have HB := n2_; have HI0 := n3_; clear n0_ n1_ n2_ n3_; (try clear hb); (try clear hb2); (try clear hk); (try clear hi)) | ((with_reducible refine gate_dst (N := 6) rfl ?_); refine box_event ?hg (N := 6) ?hd (cs := #[.int .i64 0, .int .i64 0, .int .i64 0]) (t := 39) ?hr ?_; (case hd => rfl); (case hg => rfl); (case hr => first | (go_simp; done) | (go_simp; rfl)); intro gb442 hg w32 hbox hb; have n0_ := zad (IsS75.below (taba) hb); have n1_ := zad (blk_below (g := gb431) (o := .cells #[.int .i64 0, .int .i64 0, .int .i64 0] 39 (0, 0)) (taaq) hb); have n2_ := zad (zbs (taat) (KeepBut.of_below hb g none) (.inl rfl)); have n3_ := zad (zbe (tabx) hb); have n4_ := zad (hbox); have n5_ := zad ((taeh : w.heap.size ≤ gb442)); have n6_ := zad ((Nat.le_trans HW0.out (taeh : w.heap.size ≤ gb442) : w0.heap.size ≤ gb442)); have n7_ := zad ((taek : gb431 ≠ gb442)); have n8_ := zad ((tael : gb442 ≠ gb431)); have n9_ := zad ((taem : g ≠ gb442)); have n10_ := zad ((taen : gb442 ≠ g)); clear HI0 BK431 HK HB; have HI0 := n0_; have BK431 := n1_; have HK := n2_; have HB := n3_; have BK442 := n4_; have GW442 := n5_; have GE442 := n6_; have NB431_442 := n7_; have NB442_431 := n8_; have NB0_442 := n9_; have NB442_0 := n10_; clear n0_ n1_ n2_ n3_ n4_ n5_ n6_ n7_ n8_ n9_ n10_ hb hbox hg; have hnb33 := NB442_431.out; have hnc33 := NB431_442.out; have hnb34 := NB442_0.out; have hnc34 := NB0_442.out; have hcz35_0 : w32.cell? ⟨gb442, 0, none⟩ = some (.int .i64 0) := (zbi BK442.out 0).trans rfl; have hcz35_1 : w32.cell? ⟨gb442, 1, none⟩ = some (.int .i64 0) := (zbi BK442.out 1).trans rfl; have hcz35_2 : w32.cell? ⟨gb442, 2, none⟩ = some (.int .i64 0) := (zbi BK442.out 2).trans rfl; have hfz35_0 := zbj BK442.out 0; have hfz35_1 := zbj BK442.out 1; have hfz35_2 := zbj BK442.out 2) | ((with_reducible refine zbf (f := 80) rfl ?_); refine zbn (some 21) rfl rfl Try.func80 (by kernel_rfl) rfl #[.pointer (some ⟨g, 0, none⟩), .int .i64 12] rfl (taad) ?_; (with_reducible refine (spec_l1Cur_pick.calls g s0_0 t440 t441 12 t443 t444 t445 w0 _ ?side1 ?side2 A7.out).mono ?_); (case side1 => repeat (first | (with_reducible first | exact HI0.out | apply zcg | apply zch | apply zci | apply zcn | apply zco | refine zcm ?_ NB0_431.out _ | refine zcm ?_ NB0_442.out _) | exact HI0.out)); (case side2 => repeat (first | (with_reducible first | exact HB.out | apply zag | apply zae | apply zaf | refine zah ?_ (zcl HI0.out) | refine zah ?_ GE431.out | refine zah ?_ GE442.out) | exact HB.out)); rintro e w36 ⟨rfl, hi, hb, hk⟩; refine ⟨_, rfl, ?_⟩; have n0_ := zad (KeepBut.blk hk (g' := gb431) (o := .cells #[.int .i64 0, .int .i64 0, .int .i64 0] 39 (0, 0)) (tadl) NB431_0.out (taac)); have n1_ := zad (KeepBut.blk hk (g' := gb442) (o := .cells #[.int .i64 t433, .int .i64 t436, .int .i64 (wrap64 (1 + t439))] 39 (0, 0)) (tadm) NB442_0.out (taac)); have n2_ := zad (zbs (tabb) hk (.inl rfl)); have n3_ := zad (hb); have n4_ := zad (hi); clear BK431 BK442 HK HB HI0; have BK431 := n0_; have BK442 := n1_; have HK := n2_; have HB := n3_; have HI0 := n4_; clear n0_ n1_ n2_ n3_ n4_; (try clear hb); (try clear hb2); (try clear hk); (try clear hi); have hcz37_0 : w36.cell? ⟨gb442, 0, none⟩ = some (.int .i64 t433) := (zbi BK442.out 0).trans rfl; have hcz37_1 : w36.cell? ⟨gb442, 1, none⟩ = some (.int .i64 t436) := (zbi BK442.out 1).trans rfl; have hcz37_2 : w36.cell? ⟨gb442, 2, none⟩ = some (.int .i64 (wrap64 (1 + t439))) := (zbi BK442.out 2).trans rfl; have hfz37_0 := zbj BK442.out 0; have hfz37_1 := zbj BK442.out 1; have hfz37_2 := zbj BK442.out 2) | ((with_reducible refine gate_dst (N := 34) rfl ?_); refine Kd.R_lit (Kd.int .i64) _ 3 ?hg (N := 34) ?hd (xs := ([(-1), t432, t433] : List Int)) (inner := [.int .i64 (-1), .int .i64 t432, .int .i64 t433]) (ok := fun _ => True) (okp := fun _ => True) ?hr ?hp (fun _ hk => hk) trivial (Below.refl _ _) (zcf _) (taac) ?_; (case hd => rfl); (case hg => rfl); (case hr => first | (go_simp; done) | (go_simp; rfl)); (case hp => exact (Reps.one (show Kd.M (Kd.int .i64) _ _ _ (-1) [.int .i64 (-1)] from rfl) (Reps.one (show Kd.M (Kd.int .i64) _ _ _ t432 [.int .i64 t432] from rfl) (Reps.one (show Kd.M (Kd.int .i64) _ _ _ t433 [.int .i64 t433] from rfl) (Reps.none _ _))))); intro v453 w38 ho39 hb hg_ hnew_; clear hg_ hnew_; (first | rw [← Ny452.out] at ho39 | (simp only [Int.reduceToNat] at ho39; rw [← Ny452.out] at ho39)); have n0_ := zad (zbu ho39 (keep_size (w := w) (g := g) (row := none) (tabb))); have n1_ := zad (IsS75.below (tabn) hb); have n2_ := zad (blk_below (g := gb431) (o := .cells #[.int .i64 0, .int .i64 0, .int .i64 0] 39 (0, 0)) (taaq) hb); have n3_ := zad (blk_below (g := gb442) (o := .cells #[.int .i64 t433, .int .i64 t436, .int .i64 (wrap64 (1 + t439))] 39 (0, 0)) (tacx) hb); have n4_ := zad (zbs (tabb) (KeepBut.of_below hb g none) (.inl rfl)); have n5_ := zad (zbe (tacd) hb); clear HI0 BK431 BK442 HK HB; have HO454 := n0_; have HI0 := n1_; have BK431 := n2_; have BK442 := n3_; have HK := n4_; have HB := n5_; clear n0_ n1_ n2_ n3_ n4_ n5_ hb ho39; obtain ⟨Ao40, co40, eo40⟩ := zbv HO454.out; subst eo40) | ((with_reducible refine zbf (f := 81) rfl ?_); refine zbn (some 35) rfl rfl Try.func81 (by kernel_rfl) rfl #[.pointer (some ⟨g, 0, none⟩), .slice Ao40 y452.length co40] rfl (taad) ?_; (with_reducible refine (spec_l1Cur_among.calls g s0_0 t444 t445 _ _ y452 t455 t456 t457 w0 _ ?side1 ?side2 ?side3 ?side4 ?side5 A27.out).mono ?_); (case side1 => repeat (first | (with_reducible first | exact HI0.out | apply zcg | apply zch | apply zci | apply zcn | apply zco | refine zcm ?_ NB0_431.out _ | refine zcm ?_ NB0_442.out _) | exact HI0.out)); (case side2 => repeat (first | (with_reducible first | exact HB.out | apply zag | apply zae | apply zaf | refine zah ?_ (zcl HI0.out) | refine zah ?_ GE431.out | refine zah ?_ GE442.out) | exact HB.out)); (case side3 => repeat (first | exact (zbd HO454.out).2.2 | (with_reducible refine zal ?_ _) | (with_reducible refine zam ?_ _) | (with_reducible refine zan ?_))); (case side4 => exact (zbd HO454.out).2.1); (case side5 => exact far_slice (zck HI0.out HO454.out (by decide))); rintro e w41 ⟨rfl, hi, hb, hk⟩; refine ⟨_, rfl, ?_⟩; have n0_ := zad (KeepBut.blk hk (g' := gb431) (o := .cells #[.int .i64 0, .int .i64 0, .int .i64 0] 39 (0, 0)) (taaq) NB431_0.out (taac)); have n1_ := zad (KeepBut.blk hk (g' := gb442) (o := .cells #[.int .i64 t433, .int .i64 t436, .int .i64 (wrap64 (1 + t439))] 39 (0, 0)) (tacx) NB442_0.out (taac)); have n2_ := zad (zbq (zbr (zcj (show IsS75 w0 _ g s0_0 t444 t445 from by exact tabn) (by (with_reducible repeat (first | apply zai | apply zaj | apply zak)); exact HO454.out) (by decide)) hk (fun _ h => h.2)) (fun _ h => h.1)); have n3_ := zad (zbs (tabb) hk (.inl rfl)); have n4_ := zad (hb); have n5_ := zad (hi); clear BK431 BK442 HO454 HK HB HI0; have BK431 := n0_; have BK442 := n1_; have HO454 := n2_; have HK := n3_; have HB := n4_; have HI0 := n5_; clear n0_ n1_ n2_ n3_ n4_ n5_; (try clear hb); (try clear hb2); (try clear hk); (try clear hi); have hcz42_0 : w41.cell? ⟨gb442, 0, none⟩ = some (.int .i64 t433) := (zbi BK442.out 0).trans rfl; have hcz42_1 : w41.cell? ⟨gb442, 1, none⟩ = some (.int .i64 t436) := (zbi BK442.out 1).trans rfl; have hcz42_2 : w41.cell? ⟨gb442, 2, none⟩ = some (.int .i64 (wrap64 (1 + t439))) := (zbi BK442.out 2).trans rfl; have hfz42_0 := zbj BK442.out 0; have hfz42_1 := zbj BK442.out 1; have hfz42_2 := zbj BK442.out 2; have hnb43 := NB431_0.out; have hnc43 := NB0_431.out; have hcz44_0 : w41.cell? ⟨gb431, 0, none⟩ = some (.int .i64 0) := (zbi BK431.out 0).trans rfl; have hcz44_1 : w41.cell? ⟨gb431, 1, none⟩ = some (.int .i64 0) := (zbi BK431.out 1).trans rfl; have hcz44_2 : w41.cell? ⟨gb431, 2, none⟩ = some (.int .i64 0) := (zbi BK431.out 2).trans rfl; have hfz44_0 := zbj BK431.out 0; have hfz44_1 := zbj BK431.out 1; have hfz44_2 := zbj BK431.out 2))
     refine bodyPost_ret (results_cell_row rfl _ _ gb431 39 #[.int .i64 t433, .int .i64 t455, .int .i64 (wrap64 (1 + t439))] (0, 0) _ rfl (by (with_reducible repeat (first | refine blk_drewN ?_ _ | refine blk_drew ?_ | refine blk_alloc ?_ _)); refine blk_put (cs := #[.int .i64 t433, .int .i64 t455, .int .i64 0]) ?_ 2 _ rfl; (with_reducible repeat (first | refine blk_drewN ?_ _ | refine blk_drew ?_ | refine blk_alloc ?_ _)); refine blk_put (cs := #[.int .i64 t433, .int .i64 0, .int .i64 0]) ?_ 1 _ rfl; (with_reducible repeat (first | refine blk_drewN ?_ _ | refine blk_drew ?_ | refine blk_alloc ?_ _)); refine blk_put (cs := #[.int .i64 0, .int .i64 0, .int .i64 0]) ?_ 0 _ rfl; (with_reducible repeat (first | refine blk_drewN ?_ _ | refine blk_drew ?_ | refine blk_alloc ?_ _)); refine blk_far ?_ NB431_442.out _; (with_reducible repeat (first | refine blk_drewN ?_ _ | refine blk_drew ?_ | refine blk_alloc ?_ _)); exact BK431.out) Try.underlying39 rfl (by kernel_rfl)) rfl ?_
     exact ⟨taah, tabn, tacd, tabb⟩
   · rw [if_neg c26] at H
     have c26b0 : (t443 == 1) = false := zbo.mpr c26
     have c26b1 : (t443 != 1) = true := bne_iff_ne.mpr c26
     simp only [zbl, zbp] at H
     obtain ⟨rfl, rfl, rfl, rfl, rfl⟩ := H
     go_enter Try.func97, Try.ntmps97
     go_wp2_with (first | ((with_reducible refine gate_dst (N := 4) rfl ?_); refine box_event ?hg (N := 4) ?hd (cs := #[.int .i64 0, .int .i64 0, .int .i64 0]) (t := 39) ?hr ?_; (case hd => rfl); (case hg => rfl); (case hr => first | (go_simp; done) | (go_simp; rfl)); intro gb431 hg w45 hbox hb; have n0_ := zad (IsS75.below (taaf) hb); have n1_ := zad (zbs (taae) (KeepBut.of_below hb g none) (.inl rfl)); have n2_ := zad (zbe (taal) hb); have n3_ := zad (hbox); have n4_ := zad ((taeg : w.heap.size ≤ gb431)); have n5_ := zad ((Nat.le_trans HW0.out (taeg : w.heap.size ≤ gb431) : w0.heap.size ≤ gb431)); have n6_ := zad ((taei : g ≠ gb431)); have n7_ := zad ((taej : gb431 ≠ g)); clear HI0 HK HB; have HI0 := n0_; have HK := n1_; have HB := n2_; have BK431 := n3_; have GW431 := n4_; have GE431 := n5_; have NB0_431 := n6_; have NB431_0 := n7_; clear n0_ n1_ n2_ n3_ n4_ n5_ n6_ n7_ hb hbox hg) | ((with_reducible refine zbf (f := 91) rfl ?_); refine zbn (some 9) rfl rfl Try.func91 (by kernel_rfl) rfl #[.int .i64 1, .int .i64 (l1.length : Int)] rfl (taad) ?_; (with_reducible refine (spec_l1Most.calls 1 (l1.length : Int) t432 _ A3.out).mono ?_); rintro e w' ⟨rfl, ⟨nd, rfl⟩⟩; refine ⟨_, rfl, ?_⟩; (try (rw [drewN_self w45]; generalize hq_ : World.drewN w45 _ = w45; have n0_ : Aside0 (w45.heap[gb431]? = some (.cells #[.int .i64 0, .int .i64 0, .int .i64 0] 39 (0, 0))) := ⟨by rw [← hq_]; exact (taaq)⟩; have n1_ : Aside0 (IsS75 w0 w45 g s0_0 s0_1 s0_2) := ⟨by rw [← hq_]; exact (taba)⟩; have n2_ : Aside0 (KeepBut w w45 g none) := ⟨by rw [← hq_]; exact (taat)⟩; have n3_ : Aside0 (Below w0.heap.size w0 w45) := ⟨by rw [← hq_]; exact (tabx)⟩; clear BK431 HI0 HK HB hq_; have BK431 := n0_; have HI0 := n1_; have HK := n2_; have HB := n3_; clear n0_ n1_ n2_ n3_))) | ((with_reducible refine zbf (f := 80) rfl ?_); refine zbn (some 12) rfl rfl Try.func80 (by kernel_rfl) rfl #[.pointer (some ⟨g, 0, none⟩), .int .i64 t432] rfl (taad) ?_; (with_reducible refine (spec_l1Cur_pick.calls g s0_0 s0_1 s0_2 t432 t433 t434 t435 w0 _ ?side1 ?side2 A4.out).mono ?_); (case side1 => repeat (first | (with_reducible first | exact HI0.out | apply zcg | apply zch | apply zci | apply zcn | apply zco | refine zcm ?_ NB0_431.out _) | exact HI0.out)); (case side2 => repeat (first | (with_reducible first | exact HB.out | apply zag | apply zae | apply zaf | refine zah ?_ (zcl HI0.out) | refine zah ?_ GE431.out) | exact HB.out)); rintro e w46 ⟨rfl, hi, hb, hk⟩; refine ⟨_, rfl, ?_⟩; have n0_ := zad (KeepBut.blk hk (g' := gb431) (o := .cells #[.int .i64 0, .int .i64 0, .int .i64 0] 39 (0, 0)) (taaq) NB431_0.out (taac)); have n1_ := zad (zbs (taat) hk (.inl rfl)); have n2_ := zad (hb); have n3_ := zad (hi); clear BK431 HK HB HI0; have BK431 := n0_; have HK := n1_; have HB := n2_; have HI0 := n3_; clear n0_ n1_ n2_ n3_; (try clear hb); (try clear hb2); (try clear hk); (try clear hi)) | ((with_reducible refine zbf (f := 80) rfl ?_); refine zbn (some 15) rfl rfl Try.func80 (by kernel_rfl) rfl #[.pointer (some ⟨g, 0, none⟩), .int .i64 t432] rfl (taad) ?_; (with_reducible refine (spec_l1Cur_pick.calls g s0_0 t434 t435 t432 t436 t437 t438 w0 _ ?side1 ?side2 A5.out).mono ?_); (case side1 => repeat (first | (with_reducible first | exact HI0.out | apply zcg | apply zch | apply zci | apply zcn | apply zco | refine zcm ?_ NB0_431.out _) | exact HI0.out)); (case side2 => repeat (first | (with_reducible first | exact HB.out | apply zag | apply zae | apply zaf | refine zah ?_ (zcl HI0.out) | refine zah ?_ GE431.out) | exact HB.out)); rintro e w47 ⟨rfl, hi, hb, hk⟩; refine ⟨_, rfl, ?_⟩; have n0_ := zad (KeepBut.blk hk (g' := gb431) (o := .cells #[.int .i64 0, .int .i64 0, .int .i64 0] 39 (0, 0)) (taaq) NB431_0.out (taac)); have n1_ := zad (zbs (taat) hk (.inl rfl)); have n2_ := zad (hb); have n3_ := zad (hi); clear BK431 HK HB HI0; have BK431 := n0_; have HK := n1_; have HB := n2_; have HI0 := n3_; clear n0_ n1_ n2_ n3_; (try clear hb); (try clear hb2); (try clear hk); (try clear hi)) | ((with_reducible refine zbf (f := 80) rfl ?_); refine zbn (some 17) rfl rfl Try.func80 (by kernel_rfl) rfl #[.pointer (some ⟨g, 0, none⟩), .int .i64 3] rfl (taad) ?_; (with_reducible refine (spec_l1Cur_pick.calls g s0_0 t437 t438 3 t439 t440 t441 w0 _ ?side1 ?side2 A6.out).mono ?_); (case side1 => repeat (first | (with_reducible first | exact HI0.out | apply zcg | apply zch | apply zci | apply zcn | apply zco | refine zcm ?_ NB0_431.out _) | exact HI0.out)); (case side2 => repeat (first | (with_reducible first | exact HB.out | apply zag | apply zae | apply zaf | refine zah ?_ (zcl HI0.out) | refine zah ?_ GE431.out) | exact HB.out)); rintro e w48 ⟨rfl, hi, hb, hk⟩; refine ⟨_, rfl, ?_⟩; have n0_ := zad (KeepBut.blk hk (g' := gb431) (o := .cells #[.int .i64 0, .int .i64 0, .int .i64 0] 39 (0, 0)) (taaq) NB431_0.out (taac)); have n1_ := zad (zbs (taat) hk (.inl rfl)); have n2_ := zad (hb); have n3_ := zad (hi); clear BK431 HK HB HI0; have BK431 := n0_; have HK := n1_; have HB := n2_; have HI0 := n3_; clear n0_ n1_ n2_ n3_; (try clear hb); (try clear hb2); (try clear hk); (try clear hi)) | ((with_reducible refine gate_dst (N := 6) rfl ?_); refine box_event ?hg (N := 6) ?hd (cs := #[.int .i64 0, .int .i64 0, .int .i64 0]) (t := 39) ?hr ?_; (case hd => rfl); (case hg => rfl); (case hr => first | (go_simp; done) | (go_simp; rfl)); intro gb442 hg w49 hbox hb; have n0_ := zad (IsS75.below (taba) hb); have n1_ := zad (blk_below (g := gb431) (o := .cells #[.int .i64 0, .int .i64 0, .int .i64 0] 39 (0, 0)) (taaq) hb); have n2_ := zad (zbs (taat) (KeepBut.of_below hb g none) (.inl rfl)); have n3_ := zad (zbe (tabx) hb); have n4_ := zad (hbox); have n5_ := zad ((taeh : w.heap.size ≤ gb442)); have n6_ := zad ((Nat.le_trans HW0.out (taeh : w.heap.size ≤ gb442) : w0.heap.size ≤ gb442)); have n7_ := zad ((taek : gb431 ≠ gb442)); have n8_ := zad ((tael : gb442 ≠ gb431)); have n9_ := zad ((taem : g ≠ gb442)); have n10_ := zad ((taen : gb442 ≠ g)); clear HI0 BK431 HK HB; have HI0 := n0_; have BK431 := n1_; have HK := n2_; have HB := n3_; have BK442 := n4_; have GW442 := n5_; have GE442 := n6_; have NB431_442 := n7_; have NB442_431 := n8_; have NB0_442 := n9_; have NB442_0 := n10_; clear n0_ n1_ n2_ n3_ n4_ n5_ n6_ n7_ n8_ n9_ n10_ hb hbox hg; have hnb50 := NB442_431.out; have hnc50 := NB431_442.out; have hnb51 := NB442_0.out; have hnc51 := NB0_442.out; have hcz52_0 : w49.cell? ⟨gb442, 0, none⟩ = some (.int .i64 0) := (zbi BK442.out 0).trans rfl; have hcz52_1 : w49.cell? ⟨gb442, 1, none⟩ = some (.int .i64 0) := (zbi BK442.out 1).trans rfl; have hcz52_2 : w49.cell? ⟨gb442, 2, none⟩ = some (.int .i64 0) := (zbi BK442.out 2).trans rfl; have hfz52_0 := zbj BK442.out 0; have hfz52_1 := zbj BK442.out 1; have hfz52_2 := zbj BK442.out 2) | ((with_reducible refine zbf (f := 80) rfl ?_); refine zbn (some 21) rfl rfl Try.func80 (by kernel_rfl) rfl #[.pointer (some ⟨g, 0, none⟩), .int .i64 12] rfl (taad) ?_; (with_reducible refine (spec_l1Cur_pick.calls g s0_0 t440 t441 12 t443 t444 t445 w0 _ ?side1 ?side2 A7.out).mono ?_); (case side1 => repeat (first | (with_reducible first | exact HI0.out | apply zcg | apply zch | apply zci | apply zcn | apply zco | refine zcm ?_ NB0_431.out _ | refine zcm ?_ NB0_442.out _) | exact HI0.out)); (case side2 => repeat (first | (with_reducible first | exact HB.out | apply zag | apply zae | apply zaf | refine zah ?_ (zcl HI0.out) | refine zah ?_ GE431.out | refine zah ?_ GE442.out) | exact HB.out)); rintro e w53 ⟨rfl, hi, hb, hk⟩; refine ⟨_, rfl, ?_⟩; have n0_ := zad (KeepBut.blk hk (g' := gb431) (o := .cells #[.int .i64 0, .int .i64 0, .int .i64 0] 39 (0, 0)) (tadl) NB431_0.out (taac)); have n1_ := zad (KeepBut.blk hk (g' := gb442) (o := .cells #[.int .i64 t433, .int .i64 t436, .int .i64 (wrap64 (1 + t439))] 39 (0, 0)) (tadm) NB442_0.out (taac)); have n2_ := zad (zbs (tabb) hk (.inl rfl)); have n3_ := zad (hb); have n4_ := zad (hi); clear BK431 BK442 HK HB HI0; have BK431 := n0_; have BK442 := n1_; have HK := n2_; have HB := n3_; have HI0 := n4_; clear n0_ n1_ n2_ n3_ n4_; (try clear hb); (try clear hb2); (try clear hk); (try clear hi); have hcz54_0 : w53.cell? ⟨gb442, 0, none⟩ = some (.int .i64 t433) := (zbi BK442.out 0).trans rfl; have hcz54_1 : w53.cell? ⟨gb442, 1, none⟩ = some (.int .i64 t436) := (zbi BK442.out 1).trans rfl; have hcz54_2 : w53.cell? ⟨gb442, 2, none⟩ = some (.int .i64 (wrap64 (1 + t439))) := (zbi BK442.out 2).trans rfl; have hfz54_0 := zbj BK442.out 0; have hfz54_1 := zbj BK442.out 1; have hfz54_2 := zbj BK442.out 2; have hnb55 := NB431_0.out; have hnc55 := NB0_431.out; have hcz56_0 : w53.cell? ⟨gb431, 0, none⟩ = some (.int .i64 0) := (zbi BK431.out 0).trans rfl; have hcz56_1 : w53.cell? ⟨gb431, 1, none⟩ = some (.int .i64 0) := (zbi BK431.out 1).trans rfl; have hcz56_2 : w53.cell? ⟨gb431, 2, none⟩ = some (.int .i64 0) := (zbi BK431.out 2).trans rfl; have hfz56_0 := zbj BK431.out 0; have hfz56_1 := zbj BK431.out 1; have hfz56_2 := zbj BK431.out 2))
     refine bodyPost_ret (results_cell_row rfl _ _ gb431 39 #[.int .i64 t433, .int .i64 t436, .int .i64 (wrap64 (1 + t439))] (0, 0) _ rfl (by (with_reducible repeat (first | refine blk_drewN ?_ _ | refine blk_drew ?_ | refine blk_alloc ?_ _)); refine blk_put (cs := #[.int .i64 t433, .int .i64 t436, .int .i64 0]) ?_ 2 _ rfl; (with_reducible repeat (first | refine blk_drewN ?_ _ | refine blk_drew ?_ | refine blk_alloc ?_ _)); refine blk_put (cs := #[.int .i64 t433, .int .i64 0, .int .i64 0]) ?_ 1 _ rfl; (with_reducible repeat (first | refine blk_drewN ?_ _ | refine blk_drew ?_ | refine blk_alloc ?_ _)); refine blk_put (cs := #[.int .i64 0, .int .i64 0, .int .i64 0]) ?_ 0 _ rfl; (with_reducible repeat (first | refine blk_drewN ?_ _ | refine blk_drew ?_ | refine blk_alloc ?_ _)); exact BK431.out) Try.underlying39 rfl (by kernel_rfl)) rfl ?_
     exact ⟨taah, tabn, tacd, tabb⟩
mutual
def spec_DrawIsGiftPath.j0 : Nat → List Int → List Int → List (S39) → List Int → Int → Int → Option (List Int × List Int × (List (S39)))
 | 0, _, _, _, _, _, _ => none
 | k + 1, x6, x7, x8, x1488000, x1488001, x1488002 => (spec_l1Cur_pick.f x1488000 x1488001 x1488002 8).bind fun bt1503 => (if bt1503.1 = 0 then ((spec_l1Cur_gift.f x1488000 bt1503.2.1 bt1503.2.2 x6).bind fun bt1506 => (if x8.length < 5864062014805 then (some (x6, x7, (x8 ++ [(⟨bt1506.1, bt1506.2.1, bt1506.2.2.1⟩ : S39)]))) else (none))) else (if bt1503.1 = 1 then (if (x8.length : Int) > 0 then ((spec_l1Cur_pick.f x1488000 bt1503.2.1 bt1503.2.2 (x8.length : Int)).bind fun bt1514 => ((spec_l1Cur_gift.f x1488000 bt1514.2.1 bt1514.2.2 x6).bind fun bt1517 => (if 0 ≤ bt1514.1 then (if bt1514.1 < (x8.length : Int) then (some (x6, x7, (x8.set (bt1514.1 : Int).toNat (⟨bt1517.1, bt1517.2.1, bt1517.2.2.1⟩ : S39)))) else (none)) else (none)))) else (some (x6, x7, x8))) else (if bt1503.1 = 2 then ((spec_l1Cur_pick.f x1488000 bt1503.2.1 bt1503.2.2 2).bind fun bt1523 => (if 0 ≤ (wrap64 (240 + bt1523.1)) then (if (wrap64 (240 + bt1523.1) : Int).toNat ≤ 11728124029610 then ((some (List.replicate (wrap64 (240 + bt1523.1) : Int).toNat z39 : List (S39))).bind fun y1526 => (spec_DrawIsGiftPath.l0 k x6 x7 y1526 (y1526.length : Int) 0)) else (none)) else (none))) else (some (x6, x7, x8)))))
def spec_DrawIsGiftPath.l0 : Nat → List Int → List Int → List (S39) → Int → Int → Option (List Int × List Int × (List (S39)))
 | 0, _, _, _, _, _ => none
 | k + 1, x6, x7, x8, x57, x58 => if x58 < x57 then (if 0 ≤ x58 then (if x58 < (x8.length : Int) then (spec_DrawIsGiftPath.l0 k x6 x7 (x8.set (x58 : Int).toNat (⟨0, 1, 1⟩ : S39)) x57 (wrap64 (x58 + 1))) else (none)) else (none)) else (some (x6, x7, x8))
end
def spec_DrawIsGiftPath.f (k : Nat) (l0 : List Int) : Option (List Int × List Int × (List (S39))) := (spec_l1Cur_majorized.f k l0 0 0 9).bind fun bt1488 => ((spec_giLists.f k bt1488.1 bt1488.2.1).bind fun t1496 => (if t1496 = true then ((spec_l1Cur_one.f l0 bt1488.2.2.1 bt1488.2.2.2 2).bind fun bt1497 => ((spec_giPath.f k bt1488.1 bt1488.2.1 bt1497.1).bind fun t1500 => (spec_DrawIsGiftPath.j0 k bt1488.1 bt1488.2.1 t1500 l0 bt1497.2.1 bt1497.2.2))) else (spec_DrawIsGiftPath.j0 k bt1488.1 bt1488.2.1 ([] : List (S39)) l0 bt1488.2.2.1 bt1488.2.2.2)))
theorem spec_DrawIsGiftPath.calls (k : Nat) (A0 : Option Addr) (c0 : Nat) (l0 : List Int) (r1 : List Int) (r2 : List Int) (r3 : List (S39)) (w : World) (hr0 : Kd.C (Kd.int .u8) w A0 l0.length l0) (hc0 : l0.length ≤ c0) (h : spec_DrawIsGiftPath.f k l0 = some (r1, r2, r3)) :
 Calls Try.prog 76 #[.slice A0 l0.length c0] w fun e w' => ∃ v0_ v1_ v2_ : Value, e = .returned (.tuple #[v0_, v1_, v2_]) ∧ Kd.R (Kd.int .i64) 3 w' w.heap.size (fun k_ => some k_ ≠ (v1_ : Value).ownBlock) v0_ r1 ∧ Kd.R (Kd.int .i64) 3 w' w.heap.size (fun k_ => some k_ ≠ (v0_ : Value).ownBlock) v1_ r2 ∧ Kd.R k39 39 w' w.heap.size (fun _ => True) v2_ r3 ∧ Below w.heap.size w w' := by
 have hu75 := Try.underlying75
 have hu39 := Try.underlying39
 have HR0 := zad hr0; have HC0 := zad hc0; clear hr0 hc0; have HB := zad (Below.refl w.heap.size w)
 have H : ((spec_l1Cur_majorized.f k l0 0 0 9).bind fun bt1488 => ((spec_giLists.f k bt1488.1 bt1488.2.1).bind fun t1496 => (if t1496 = true then ((spec_l1Cur_one.f l0 bt1488.2.2.1 bt1488.2.2.2 2).bind fun bt1497 => ((spec_giPath.f k bt1488.1 bt1488.2.1 bt1497.1).bind fun t1500 => (spec_DrawIsGiftPath.j0 k bt1488.1 bt1488.2.1 t1500 l0 bt1497.2.1 bt1497.2.2))) else (spec_DrawIsGiftPath.j0 k bt1488.1 bt1488.2.1 ([] : List (S39)) l0 bt1488.2.2.1 bt1488.2.2.2)))) = some (r1, r2, r3) := h
 clear h; replace H := zay.mp H; obtain ⟨⟨t1488, t1491, t1494, t1495⟩, A20, H⟩ := H
 replace H : ((spec_giLists.f k t1488 t1491).bind fun t1496 => (if t1496 = true then ((spec_l1Cur_one.f l0 t1494 t1495 2).bind fun bt1497 => ((spec_giPath.f k t1488 t1491 bt1497.1).bind fun t1500 => (spec_DrawIsGiftPath.j0 k t1488 t1491 t1500 l0 bt1497.2.1 bt1497.2.2))) else (spec_DrawIsGiftPath.j0 k t1488 t1491 ([] : List (S39)) l0 t1494 t1495))) = some (r1, r2, r3) := H
 have A2 := zad A20; clear A20; replace H := zay.mp H; obtain ⟨t1496, A30, H⟩ := H
 replace H : (if t1496 = true then ((spec_l1Cur_one.f l0 t1494 t1495 2).bind fun bt1497 => ((spec_giPath.f k t1488 t1491 bt1497.1).bind fun t1500 => (spec_DrawIsGiftPath.j0 k t1488 t1491 t1500 l0 bt1497.2.1 bt1497.2.2))) else (spec_DrawIsGiftPath.j0 k t1488 t1491 ([] : List (S39)) l0 t1494 t1495)) = some (r1, r2, r3) := H
 have A3 := zad A30; clear A30; have HC4 := zad H; clear H; go_enter Try.func76, Try.ntmps76
 go_upto_if 20 with (first | ((with_reducible refine gate_dst (N := 12) rfl ?_); refine box_event ?hg (N := 12) ?hd (cs := #[.slice A0 l0.length c0, .int .i64 0, .int .u64 0]) (t := 75) ?hr ?_; (case hd => rfl); (case hg => rfl); (case hr => first | (go_simp; done) | (go_simp; rfl)); intro gb1487 hg w5 hbox hb; have n0_ := zad (zbe (taaa) hb); have n1_ := zad ((show IsS75 w w5 gb1487 l0 0 0 from ⟨_, _, hbox, (taee), HR0.out⟩)); clear HB; have HB := n0_; have HI1487 := n1_; clear n0_ n1_ hb hbox hg) | ((with_reducible refine zbf (f := 127) rfl ?_); refine zbn (some 15) rfl rfl Try.func127 (by kernel_rfl) rfl #[.pointer (some ⟨gb1487, 0, none⟩), .int .i64 9] rfl (taad) ?_; (with_reducible refine (spec_l1Cur_majorized.calls k gb1487 l0 0 0 9 t1488 t1491 t1494 t1495 w _ ?side1 ?side2 A2.out).mono ?_); (case side1 => repeat (first | (with_reducible first | exact HI1487.out | apply zcg | apply zch | apply zci | apply zcn | apply zco) | exact HI1487.out)); (case side2 => repeat (first | (with_reducible first | exact HB.out | apply zag | apply zae | apply zaf | refine zah ?_ (zcl HI1487.out)) | exact HB.out)); rintro e w6 ⟨v1489, v1492, rfl, ho0, ho1, hi, hb, hk⟩; refine ⟨_, rfl, ?_⟩; have n0_ := zad (zbu ho0 (zbk (taav))); have n1_ := zad (zbu ho1 (zbk (taav))); have n2_ := zad (hb); have n3_ := zad (hi); clear HB HI1487; have HO1490 := n0_; have HO1493 := n1_; have HB := n2_; have HI1487 := n3_; clear n0_ n1_ n2_ n3_; (try clear hb); (try clear hb2); (try clear hk); (try clear hi); (try clear ho0); (try clear ho1); obtain ⟨Ao7, co7, eo7⟩ := zbv HO1490.out; subst eo7; obtain ⟨Ao8, co8, eo8⟩ := zbv HO1493.out; subst eo8) | ((with_reducible refine zbf (f := 130) rfl ?_); refine zbn (some 20) rfl rfl Try.func130 (by kernel_rfl) rfl #[.slice Ao7 t1488.length co7, .slice Ao8 t1491.length co8] rfl (taad) ?_; (with_reducible refine (spec_giLists.calls k _ _ t1488 _ _ t1491 t1496 _ ?side1 ?side2 ?side3 ?side4 A3.out).mono ?_); (case side1 => repeat (first | exact (zbd HO1490.out).2.2 | (with_reducible refine zal ?_ _) | (with_reducible refine zam ?_ _) | (with_reducible refine zan ?_))); (case side2 => exact (zbd HO1490.out).2.1); (case side3 => repeat (first | exact (zbd HO1493.out).2.2 | (with_reducible refine zal ?_ _) | (with_reducible refine zam ?_ _) | (with_reducible refine zan ?_))); (case side4 => exact (zbd HO1493.out).2.1); rintro e w9 ⟨rfl, hb⟩; refine ⟨_, rfl, ?_⟩; have n0_ := zad (zbt (tace) hb); have n1_ := zad (zbt (tacf) hb); have n2_ := zad (IsS75.below (taam) hb); have n3_ := zad (zbe (taav) hb); clear HO1490 HO1493 HI1487 HB; have HO1490 := n0_; have HO1493 := n1_; have HI1487 := n2_; have HB := n3_; clear n0_ n1_ n2_ n3_; (try clear hb); (try clear hb2); (try clear hk); (try clear hi)))
 (try simp only [Act.put, zaa, zab, zac])
 go_cut [8] (fun v8 wc => ∃ (kq : Nat) (x8_3 : List (S39)) (x1488001_3 : Int) (x1488002_3 : Int), Aside0 (spec_DrawIsGiftPath.j0 kq t1488 t1491 x8_3 l0 x1488001_3 x1488002_3 = some (r1, r2, r3)) ∧ Aside0 (kq ≤ k) ∧ Aside0 (Kd.R (Kd.int .i64) 3 wc w.heap.size (fun k_ => some k_ ≠ ((.slice Ao8 t1491.length co8) : Value).ownBlock) (.slice Ao7 t1488.length co7) t1488) ∧ Aside0 (Kd.R (Kd.int .i64) 3 wc w.heap.size (fun k_ => some k_ ≠ ((.slice Ao7 t1488.length co7) : Value).ownBlock) (.slice Ao8 t1491.length co8) t1491) ∧ Aside0 (Kd.R k39 39 wc w.heap.size (fun _ => True) v8 x8_3) ∧ Aside0 (IsS75 w wc gb1487 l0 x1488001_3 x1488002_3) ∧ Aside0 (Below w.heap.size w wc))
 case first =>
  have H := HC4.out
  clear HC4; by_cases c10 : t1496 = true
  · subst c10
    have H1 : ((spec_l1Cur_one.f l0 t1494 t1495 2).bind fun bt1497 => ((spec_giPath.f k t1488 t1491 bt1497.1).bind fun t1500 => (spec_DrawIsGiftPath.j0 k t1488 t1491 t1500 l0 bt1497.2.1 bt1497.2.2))) = some (r1, r2, r3) := by rw [if_pos rfl] at H; exact H
    clear H; have H := H1; clear H1; replace H := zay.mp H; obtain ⟨⟨t1497, t1498, t1499⟩, A110, H⟩ := H
    replace H : ((spec_giPath.f k t1488 t1491 t1497).bind fun t1500 => (spec_DrawIsGiftPath.j0 k t1488 t1491 t1500 l0 t1498 t1499)) = some (r1, r2, r3) := H
    have A11 := zad A110; clear A110; replace H := zay.mp H; obtain ⟨t1500, A120, H⟩ := H
    replace H : (spec_DrawIsGiftPath.j0 k t1488 t1491 t1500 l0 t1498 t1499) = some (r1, r2, r3) := H
    have A12 := zad A120; clear A120; have H' := zad H
    clear H; go_wp2_with (first | ((with_reducible refine zbf (f := 89) rfl ?_); refine zbn (some 24) rfl rfl Try.func89 (by kernel_rfl) rfl #[.pointer (some ⟨gb1487, 0, none⟩), .int .i64 2] rfl (taad) ?_; (with_reducible refine (spec_l1Cur_one.calls gb1487 l0 t1494 t1495 2 t1497 t1498 t1499 w _ ?side1 ?side2 A11.out).mono ?_); (case side1 => repeat (first | (with_reducible first | exact HI1487.out | apply zcg | apply zch | apply zci | apply zcn | apply zco) | exact HI1487.out)); (case side2 => repeat (first | (with_reducible first | exact HB.out | apply zag | apply zae | apply zaf | refine zah ?_ (zcl HI1487.out)) | exact HB.out)); rintro e w13 ⟨rfl, hi, hb, hk⟩; refine ⟨_, rfl, ?_⟩; have n0_ := zad (zbq (zbr (zcj (show IsS75 w _ gb1487 l0 t1494 t1495 from by exact taet) (tace) (by decide)) hk (fun _ h => h.2)) (fun _ h => h.1)); have n1_ := zad (zbq (zbr (zcj (show IsS75 w _ gb1487 l0 t1494 t1495 from by exact taet) (tacf) (by decide)) hk (fun _ h => h.2)) (fun _ h => h.1)); have n2_ := zad (hb); have n3_ := zad (hi); clear HO1490 HO1493 HB HI1487; have HO1490 := n0_; have HO1493 := n1_; have HB := n2_; have HI1487 := n3_; clear n0_ n1_ n2_ n3_; (try clear hb); (try clear hb2); (try clear hk); (try clear hi)) | ((with_reducible refine zbf (f := 131) rfl ?_); refine zbn (some 25) rfl rfl Try.func131 (by kernel_rfl) rfl #[.slice Ao7 t1488.length co7, .slice Ao8 t1491.length co8, .bool t1497] rfl (taad) ?_; (with_reducible refine (spec_giPath.calls k _ _ t1488 _ _ t1491 t1497 t1500 _ ?side1 ?side2 ?side3 ?side4 A12.out).mono ?_); (case side1 => repeat (first | exact (zbd HO1490.out).2.2 | (with_reducible refine zal ?_ _) | (with_reducible refine zam ?_ _) | (with_reducible refine zan ?_))); (case side2 => exact (zbd HO1490.out).2.1); (case side3 => repeat (first | exact (zbd HO1493.out).2.2 | (with_reducible refine zal ?_ _) | (with_reducible refine zam ?_ _) | (with_reducible refine zan ?_))); (case side4 => exact (zbd HO1493.out).2.1); rintro e w14 ⟨v1501, rfl, ho0, hb⟩; refine ⟨_, rfl, ?_⟩; have n0_ := zad (zbt (tace) hb); have n1_ := zad (zbt (tacf) hb); have n2_ := zad (zbu ho0 (zbk (taav))); have n3_ := zad (IsS75.below (taam) hb); have n4_ := zad (zbe (taav) hb); clear HO1490 HO1493 HI1487 HB; have HO1490 := n0_; have HO1493 := n1_; have HO1502 := n2_; have HI1487 := n3_; have HB := n4_; clear n0_ n1_ n2_ n3_ n4_; (try clear hb); (try clear hb2); (try clear hk); (try clear hi); (try clear ho0)))
    go_meet
    case rel => exact ⟨_, (t1500), (t1498), (t1499), H', ⟨tabd⟩, ⟨tace⟩, ⟨tacf⟩, ⟨by (with_reducible repeat (first | apply zai | apply zaj | apply zak)); exact HO1502.out⟩, ⟨taam⟩, ⟨taav⟩⟩
  · replace c10 := zbg.mpr c10
    subst c10; have H1 : (spec_DrawIsGiftPath.j0 k t1488 t1491 ([] : List (S39)) l0 t1494 t1495) = some (r1, r2, r3) := by rw [if_neg (show ¬ (false = true) by decide)] at H; exact H
    clear H; have H := H1; clear H1; have H' := zad H
    clear H; go_wp2
    go_meet
    case rel => exact ⟨_, (([] : List (S39))), (t1494), (t1495), H', ⟨tabd⟩, ⟨tace⟩, ⟨tacf⟩, ⟨tabl⟩, ⟨taam⟩, ⟨taav⟩⟩
 case rest =>
  clear HC4; try clear c1
  try clear p2
  try clear c7
  try clear c8
  try clear c10
  try clear c12
  try clear c13
  obtain ⟨kq, x8_3, x1488001_3, x1488002_3, HA, HJ3, HO_6, HO_7, HO_8, HI1487, HB⟩ := hcut
  cases kq with
  | zero => exact absurd HA.out (by simp [spec_DrawIsGiftPath.j0])
  | succ kj3 =>
   have H := HA.out
   clear HA; simp only [spec_DrawIsGiftPath.j0] at H
   replace H := zay.mp H; obtain ⟨⟨t1503, t1504, t1505⟩, A150, H⟩ := H
   replace H : (if t1503 = 0 then ((spec_l1Cur_gift.f l0 t1504 t1505 t1488).bind fun bt1506 => (if x8_3.length < 5864062014805 then (some (t1488, t1491, (x8_3 ++ [(⟨bt1506.1, bt1506.2.1, bt1506.2.2.1⟩ : S39)]))) else (none))) else (if t1503 = 1 then (if (x8_3.length : Int) > 0 then ((spec_l1Cur_pick.f l0 t1504 t1505 (x8_3.length : Int)).bind fun bt1514 => ((spec_l1Cur_gift.f l0 bt1514.2.1 bt1514.2.2 t1488).bind fun bt1517 => (if 0 ≤ bt1514.1 then (if bt1514.1 < (x8_3.length : Int) then (some (t1488, t1491, (x8_3.set (bt1514.1 : Int).toNat (⟨bt1517.1, bt1517.2.1, bt1517.2.2.1⟩ : S39)))) else (none)) else (none)))) else (some (t1488, t1491, x8_3))) else (if t1503 = 2 then ((spec_l1Cur_pick.f l0 t1504 t1505 2).bind fun bt1523 => (if 0 ≤ (wrap64 (240 + bt1523.1)) then (if (wrap64 (240 + bt1523.1) : Int).toNat ≤ 11728124029610 then ((some (List.replicate (wrap64 (240 + bt1523.1) : Int).toNat z39 : List (S39))).bind fun y1526 => (spec_DrawIsGiftPath.l0 kj3 t1488 t1491 y1526 (y1526.length : Int) 0)) else (none)) else (none))) else (some (t1488, t1491, x8_3))))) = some (r1, r2, r3) := H
   have A15 := zad A150; clear A150; by_cases c16 : t1503 = 0
   · rw [if_pos c16] at H
     have c16b0 : (t1503 == 0) = true := beq_iff_eq.mpr c16
     have c16b1 : (t1503 != 0) = false := bne_eq_false_iff_eq.mpr c16
     clear c16; replace H := zay.mp H; obtain ⟨⟨t1506, t1507, t1508, t1509, t1510⟩, A170, H⟩ := H
     replace H : (if x8_3.length < 5864062014805 then (some (t1488, t1491, (x8_3 ++ [(⟨t1506, t1507, t1508⟩ : S39)]))) else (none)) = some (r1, r2, r3) := H
     have A17 := zad A170; clear A170; by_cases c18 : x8_3.length < 5864062014805
     · rw [if_pos c18] at H
       have LMc18 := zad c18; clear c18; obtain ⟨y1511, hy1511⟩ : ∃ y_ : List (S39), y_ = (x8_3 ++ [(⟨t1506, t1507, t1508⟩ : S39)]) := ⟨_, rfl⟩
       replace H : (some (t1488, t1491, y1511)) = some (r1, r2, r3) := by first | (rw [hy1511]; with_reducible exact H) | (have H2_ := (zbb _ _).symm.trans H; rw [hy1511]; with_reducible exact H2_) | (have H2_ := (zbb _ _).symm.trans H; with_reducible exact H2_) | with_reducible exact H | (rw [hy1511]; exact H) | exact H
       have Ny1511 := zad hy1511; clear hy1511; simp only [zbl, zbp] at H
       obtain ⟨rfl, rfl, rfl⟩ := H
       go_wp2_with (first | ((with_reducible refine zbf (f := 80) rfl ?_); refine zbn (some 27) rfl rfl Try.func80 (by kernel_rfl) rfl #[.pointer (some ⟨gb1487, 0, none⟩), .int .i64 8] rfl (taad) ?_; (with_reducible refine (spec_l1Cur_pick.calls gb1487 l0 x1488001_3 x1488002_3 8 t1503 t1504 t1505 w _ ?side1 ?side2 A15.out).mono ?_); (case side1 => repeat (first | (with_reducible first | exact HI1487.out | apply zcg | apply zch | apply zci | apply zcn | apply zco) | exact HI1487.out)); (case side2 => repeat (first | (with_reducible first | exact HB.out | apply zag | apply zae | apply zaf | refine zah ?_ (zcl HI1487.out)) | exact HB.out)); rintro e w19 ⟨rfl, hi, hb, hk⟩; refine ⟨_, rfl, ?_⟩; have n0_ := zad (zbq (zbr (zcj (show IsS75 w _ gb1487 l0 x1488001_3 x1488002_3 from by exact taet) (taaj) (by decide)) hk (fun _ h => h.2)) (fun _ h => h.1)); have n1_ := zad (zbq (zbr (zcj (show IsS75 w _ gb1487 l0 x1488001_3 x1488002_3 from by exact taet) (taai) (by decide)) hk (fun _ h => h.2)) (fun _ h => h.1)); have n2_ := zad (zbq (zbr (zcj (show IsS75 w _ gb1487 l0 x1488001_3 x1488002_3 from by exact taet) (taan) (by decide)) hk (fun _ h => h.2)) (fun _ h => h.1)); have n3_ := zad (hb); have n4_ := zad (hi); clear HO_6 HO_7 HO_8 HB HI1487; have HO_6 := n0_; have HO_7 := n1_; have HO_8 := n2_; have HB := n3_; have HI1487 := n4_; clear n0_ n1_ n2_ n3_ n4_; (try clear hb); (try clear hb2); (try clear hk); (try clear hi)) | ((with_reducible refine zbf (f := 97) rfl ?_); refine zbn (some 33) rfl rfl Try.func97 (by kernel_rfl) rfl #[.pointer (some ⟨gb1487, 0, none⟩), .slice Ao7 t1488.length co7] rfl (taad) ?_; (with_reducible refine (spec_l1Cur_gift.calls gb1487 l0 t1504 t1505 _ _ t1488 t1506 t1507 t1508 t1509 t1510 w _ ?side1 ?side2 ?side3 ?side4 ?side5 A17.out).mono ?_); (case side1 => repeat (first | (with_reducible first | exact HI1487.out | apply zcg | apply zch | apply zci | apply zcn | apply zco) | exact HI1487.out)); (case side2 => repeat (first | (with_reducible first | exact HB.out | apply zag | apply zae | apply zaf | refine zah ?_ (zcl HI1487.out)) | exact HB.out)); (case side3 => repeat (first | exact (zbd HO_6.out).2.2 | (with_reducible refine zal ?_ _) | (with_reducible refine zam ?_ _) | (with_reducible refine zan ?_))); (case side4 => exact (zbd HO_6.out).2.1); (case side5 => exact far_slice (zck HI1487.out HO_6.out (by decide))); rintro e w20 ⟨rfl, hi, hb, hk⟩; refine ⟨_, rfl, ?_⟩; have n0_ := zad (zbq (zbr (zcj (show IsS75 w _ gb1487 l0 t1504 t1505 from by exact taet) (taaj) (by decide)) hk (fun _ h => h.2)) (fun _ h => h.1)); have n1_ := zad (zbq (zbr (zcj (show IsS75 w _ gb1487 l0 t1504 t1505 from by exact taet) (taai) (by decide)) hk (fun _ h => h.2)) (fun _ h => h.1)); have n2_ := zad (zbq (zbr (zcj (show IsS75 w _ gb1487 l0 t1504 t1505 from by exact taet) (taan) (by decide)) hk (fun _ h => h.2)) (fun _ h => h.1)); have n3_ := zad (hb); have n4_ := zad (hi); clear HO_6 HO_7 HO_8 HB HI1487; have HO_6 := n0_; have HO_7 := n1_; have HO_8 := n2_; have HB := n3_; have HI1487 := n4_; clear n0_ n1_ n2_ n3_ n4_; (try clear hb); (try clear hb2); (try clear hk); (try clear hi)) | ((with_reducible refine gate_builtin (b := .append) (xs := #[.tmp 30, .tmp 34]) rfl ?_); at_builtin; refine Kd.R_append k39 (w0 := w) w.heap.size rfl (.tmp 30) (.tmp 34) 58 39 (.agg #[(.int .i64 0), (.int .i64 0), (.int .i64 0)]) 24 rfl Try.underlying58 info39 rfl (by decide) (by omega) u8 x8_3 (⟨t1506, t1507, t1508⟩ : S39) [.int .i64 t1506, .int .i64 t1507, .int .i64 t1508] (fun _ => True) (fun _ => False) rfl rfl ?aP (fun _ hk => hk.elim) ?aF ?aO ?aB ?aS ?aL ?_; (case aP => exact k39_mkM _ _ _ (⟨t1506, t1507, t1508⟩ : S39)); (case aB => exact (taav)); (case aF => exact (fun _ _ => trivial)); (case aO => exact (taan)); (case aS => exact (zbk (taav))); (case aL => have := LMc18.out; omega); intro v1512 w21 ho hb hg hat; rw [← Ny1511.out] at ho; have n0_ := zad (Kd.R_over' (taaj) (Kd.R_typed (taan)) (by decide) hg); have n1_ := zad (Kd.R_over' (taai) (Kd.R_typed (taan)) (by decide) hg); have n2_ := zad (IsS75.grown (taam) hg (zck HI1487.out HO_8.out (by decide))); have n3_ := zad (hb); have n4_ := zad (ho); clear HO_6 HO_7 HI1487 HB HO_8; have HO_6 := n0_; have HO_7 := n1_; have HI1487 := n2_; have HB := n3_; have HO1513 := n4_; clear n0_ n1_ n2_ n3_ n4_ ho hb hg hat))
       go_ret3
       exact ⟨_, _, _, taah, taaj, taai, by (with_reducible repeat (first | apply zai | apply zaj | apply zak)); exact HO1513.out, taav⟩
     · rw [if_neg c18] at H
       exact absurd H (taac)
   · rw [if_neg c16] at H
     have c16b0 : (t1503 == 0) = false := zbo.mpr c16
     have c16b1 : (t1503 != 0) = true := bne_iff_ne.mpr c16
     by_cases c22 : t1503 = 1
     · rw [if_pos c22] at H
       have c22b0 : (t1503 == 1) = true := beq_iff_eq.mpr c22
       have c22b1 : (t1503 != 1) = false := bne_eq_false_iff_eq.mpr c22
       clear c22; by_cases c23 : (x8_3.length : Int) > 0
       · rw [if_pos c23] at H
         have c23b0 : decide (0 < (x8_3.length : Int)) = true := zba c23
         have c23b1 : decide (0 < x8_3.length) = true := zba (by omega)
         clear c23; replace H := zay.mp H; obtain ⟨⟨t1514, t1515, t1516⟩, A240, H⟩ := H
         replace H : ((spec_l1Cur_gift.f l0 t1515 t1516 t1488).bind fun bt1517 => (if 0 ≤ t1514 then (if t1514 < (x8_3.length : Int) then (some (t1488, t1491, (x8_3.set (t1514 : Int).toNat (⟨bt1517.1, bt1517.2.1, bt1517.2.2.1⟩ : S39)))) else (none)) else (none))) = some (r1, r2, r3) := H
         have A24 := zad A240; clear A240; replace H := zay.mp H; obtain ⟨⟨t1517, t1518, t1519, t1520, t1521⟩, A250, H⟩ := H
         replace H : (if 0 ≤ t1514 then (if t1514 < (x8_3.length : Int) then (some (t1488, t1491, (x8_3.set (t1514 : Int).toNat (⟨t1517, t1518, t1519⟩ : S39)))) else (none)) else (none)) = some (r1, r2, r3) := H
         have A25 := zad A250; clear A250; by_cases c26 : 0 ≤ t1514
         · rw [if_pos c26] at H
           have c26b0 : decide (0 ≤ t1514) = true := zba c26
           clear c26; by_cases c27 : t1514 < (x8_3.length : Int)
           · rw [if_pos c27] at H
             have c27b0 : decide (t1514 < (x8_3.length : Int)) = true := zba c27
             clear c27; obtain ⟨y1522, hy1522⟩ : ∃ y_ : List (S39), y_ = (x8_3.set (t1514 : Int).toNat (⟨t1517, t1518, t1519⟩ : S39)) := ⟨_, rfl⟩
             replace H : (some (t1488, t1491, y1522)) = some (r1, r2, r3) := by first | (rw [hy1522]; with_reducible exact H) | (have H2_ := (zbb _ _).symm.trans H; rw [hy1522]; with_reducible exact H2_) | (have H2_ := (zbb _ _).symm.trans H; with_reducible exact H2_) | with_reducible exact H | (rw [hy1522]; exact H) | exact H
             have Ny1522 := zad hy1522; clear hy1522; simp only [zbl, zbp] at H
             obtain ⟨rfl, rfl, rfl⟩ := H
             go_wp2_with (first | ((with_reducible refine zbf (f := 80) rfl ?_); refine zbn (some 27) rfl rfl Try.func80 (by kernel_rfl) rfl #[.pointer (some ⟨gb1487, 0, none⟩), .int .i64 8] rfl (taad) ?_; (with_reducible refine (spec_l1Cur_pick.calls gb1487 l0 x1488001_3 x1488002_3 8 t1503 t1504 t1505 w _ ?side1 ?side2 A15.out).mono ?_); (case side1 => repeat (first | (with_reducible first | exact HI1487.out | apply zcg | apply zch | apply zci | apply zcn | apply zco) | exact HI1487.out)); (case side2 => repeat (first | (with_reducible first | exact HB.out | apply zag | apply zae | apply zaf | refine zah ?_ (zcl HI1487.out)) | exact HB.out)); rintro e w29 ⟨rfl, hi, hb, hk⟩; refine ⟨_, rfl, ?_⟩; have n0_ := zad (zbq (zbr (zcj (show IsS75 w _ gb1487 l0 x1488001_3 x1488002_3 from by exact taet) (taaj) (by decide)) hk (fun _ h => h.2)) (fun _ h => h.1)); have n1_ := zad (zbq (zbr (zcj (show IsS75 w _ gb1487 l0 x1488001_3 x1488002_3 from by exact taet) (taai) (by decide)) hk (fun _ h => h.2)) (fun _ h => h.1)); have n2_ := zad (zbq (zbr (zcj (show IsS75 w _ gb1487 l0 x1488001_3 x1488002_3 from by exact taet) (taan) (by decide)) hk (fun _ h => h.2)) (fun _ h => h.1)); have n3_ := zad (hb); have n4_ := zad (hi); clear HO_6 HO_7 HO_8 HB HI1487; have HO_6 := n0_; have HO_7 := n1_; have HO_8 := n2_; have HB := n3_; have HI1487 := n4_; clear n0_ n1_ n2_ n3_ n4_; (try clear hb); (try clear hb2); (try clear hk); (try clear hi); obtain ⟨Ao30, co30, eo30⟩ := zbv HO_8.out; subst eo30) | ((with_reducible refine zbf (f := 80) rfl ?_); refine zbn (some 45) rfl rfl Try.func80 (by kernel_rfl) rfl #[.pointer (some ⟨gb1487, 0, none⟩), .int .i64 (x8_3.length : Int)] rfl (taad) ?_; (with_reducible refine (spec_l1Cur_pick.calls gb1487 l0 t1504 t1505 (x8_3.length : Int) t1514 t1515 t1516 w _ ?side1 ?side2 A24.out).mono ?_); (case side1 => repeat (first | (with_reducible first | exact HI1487.out | apply zcg | apply zch | apply zci | apply zcn | apply zco) | exact HI1487.out)); (case side2 => repeat (first | (with_reducible first | exact HB.out | apply zag | apply zae | apply zaf | refine zah ?_ (zcl HI1487.out)) | exact HB.out)); rintro e w31 ⟨rfl, hi, hb, hk⟩; refine ⟨_, rfl, ?_⟩; have n0_ := zad (zbq (zbr (zcj (show IsS75 w _ gb1487 l0 t1504 t1505 from by exact taet) (taaj) (by decide)) hk (fun _ h => h.2)) (fun _ h => h.1)); have n1_ := zad (zbq (zbr (zcj (show IsS75 w _ gb1487 l0 t1504 t1505 from by exact taet) (taai) (by decide)) hk (fun _ h => h.2)) (fun _ h => h.1)); have n2_ := zad (zbq (zbr (zcj (show IsS75 w _ gb1487 l0 t1504 t1505 from by exact taet) (taan) (by decide)) hk (fun _ h => h.2)) (fun _ h => h.1)); have n3_ := zad (hb); have n4_ := zad (hi); clear HO_6 HO_7 HO_8 HB HI1487; have HO_6 := n0_; have HO_7 := n1_; have HO_8 := n2_; have HB := n3_; have HI1487 := n4_; clear n0_ n1_ n2_ n3_ n4_; (try clear hb); (try clear hb2); (try clear hk); (try clear hi)) | ((with_reducible refine zbf (f := 97) rfl ?_); refine zbn (some 48) rfl rfl Try.func97 (by kernel_rfl) rfl #[.pointer (some ⟨gb1487, 0, none⟩), .slice Ao7 t1488.length co7] rfl (taad) ?_; (with_reducible refine (spec_l1Cur_gift.calls gb1487 l0 t1515 t1516 _ _ t1488 t1517 t1518 t1519 t1520 t1521 w _ ?side1 ?side2 ?side3 ?side4 ?side5 A25.out).mono ?_); (case side1 => repeat (first | (with_reducible first | exact HI1487.out | apply zcg | apply zch | apply zci | apply zcn | apply zco) | exact HI1487.out)); (case side2 => repeat (first | (with_reducible first | exact HB.out | apply zag | apply zae | apply zaf | refine zah ?_ (zcl HI1487.out)) | exact HB.out)); (case side3 => repeat (first | exact (zbd HO_6.out).2.2 | (with_reducible refine zal ?_ _) | (with_reducible refine zam ?_ _) | (with_reducible refine zan ?_))); (case side4 => exact (zbd HO_6.out).2.1); (case side5 => exact far_slice (zck HI1487.out HO_6.out (by decide))); rintro e w32 ⟨rfl, hi, hb, hk⟩; refine ⟨_, rfl, ?_⟩; have n0_ := zad (zbq (zbr (zcj (show IsS75 w _ gb1487 l0 t1515 t1516 from by exact taet) (taaj) (by decide)) hk (fun _ h => h.2)) (fun _ h => h.1)); have n1_ := zad (zbq (zbr (zcj (show IsS75 w _ gb1487 l0 t1515 t1516 from by exact taet) (taai) (by decide)) hk (fun _ h => h.2)) (fun _ h => h.1)); have n2_ := zad (zbq (zbr (zcj (show IsS75 w _ gb1487 l0 t1515 t1516 from by exact taet) (taan) (by decide)) hk (fun _ h => h.2)) (fun _ h => h.1)); have n3_ := zad (hb); have n4_ := zad (hi); clear HO_6 HO_7 HO_8 HB HI1487; have HO_6 := n0_; have HO_7 := n1_; have HO_8 := n2_; have HB := n3_; have HI1487 := n4_; clear n0_ n1_ n2_ n3_ n4_; (try clear hb); (try clear hb2); (try clear hk); (try clear hi); have p28 : 0 ≤ (t1514 : Int) := zas (taab); have q28 : (t1514 : Int) < ((x8_3.length : Int) : Int) := zas (taab); obtain ⟨go28, co28, eo28, gb28, gl28, cl28, HG28⟩ := Kd.R_form HO_8.out (by omega); (first | cases eo28 | (injection eo28 with ea_ en_ ec_; (first | subst ea_ | (injection ea_ with ea_; subst ea_)); subst ec_; clear en_)); have GB28 := zad gb28; have GG28 := zad HG28; clear gb28 gl28 HG28; obtain ⟨ce28, hcl28, hM28, hcc28, hfr28⟩ := Kd.R_elem HO_8.out z39 (t1514 : Int) p28 q28; obtain rfl := k39_openM hM28; have hx28_0 : w32.cell? ⟨go28, (t1514 : Int).toNat * 3, none⟩ = some (.int .i64 ((rd_T39 x8_3 t1514).f0)) := hcc28 0 _ rfl; have hx28_1 : w32.cell? ⟨go28, (t1514 : Int).toNat * 3 + 1, none⟩ = some (.int .i64 ((rd_T39 x8_3 t1514).f1)) := hcc28 1 _ rfl; have hx28_2 : w32.cell? ⟨go28, (t1514 : Int).toNat * 3 + 2, none⟩ = some (.int .i64 ((rd_T39 x8_3 t1514).f2)) := hcc28 2 _ rfl; have hf28_0 : w32.frozen? ⟨go28, (t1514 : Int).toNat * 3, none⟩ = false := hfr28 0; have hf28_1 : w32.frozen? ⟨go28, (t1514 : Int).toNat * 3 + 1, none⟩ = false := hfr28 1; have hf28_2 : w32.frozen? ⟨go28, (t1514 : Int).toNat * 3 + 2, none⟩ = false := hfr28 2; (try clear hcl28); (try clear hcc28); (try clear hfr28); (try clear hM28); replace p28 := eq_true p28; replace q28 := eq_true q28; have HX33 := zad (show Kd.R k39 39 w32 w.heap.size (fun _ => True) (.slice (some ⟨go28, 0, none⟩) x8_3.length co30) x8_3 from (taan)); obtain ⟨ce33, hcl33, hM33, hcc33, hfr33⟩ := Kd.R_elem HX33.out z39 (t1514 : Int) (zas (taab)) (by have h_ : (t1514 : Int) < ((x8_3.length : Int) : Int) := zas (taab); first | exact h_ | (have e_ := (zbd HO_8.out).1; omega) | simpa using h_); obtain rfl := k39_openM hM33; have HP33 := Kd.R_seg HX33.out (t1514 : Int) (zas (taab)) (by have h_ : (t1514 : Int) < ((x8_3.length : Int) : Int) := zas (taab); first | exact h_ | (have e_ := (zbd HO_8.out).1; omega) | simpa using h_) (seg := [.int .i64 t1517, .int .i64 t1518, .int .i64 t1519]) (j := 0) hcl33 hcc33 (show 3 ≤ 3 from by decide) (x' := (⟨t1517, t1518, t1519⟩ : S39)) (k39_mkM _ _ _ (⟨t1517, t1518, t1519⟩ : S39) ) (fun _ hk => hk); have hx33_0 := hcc33 0 _ rfl; (try simp only [show (k39).sz = 3 from rfl, Nat.mul_one, Nat.add_zero] at hx33_0); have hf33_0 := hfr33 0; (try simp only [show (k39).sz = 3 from rfl, Nat.mul_one, Nat.add_zero] at hf33_0); have hx33_1 := hcc33 1 _ rfl; (try simp only [show (k39).sz = 3 from rfl, Nat.mul_one, Nat.add_zero] at hx33_1); have hf33_1 := hfr33 1; (try simp only [show (k39).sz = 3 from rfl, Nat.mul_one, Nat.add_zero] at hf33_1); have hx33_2 := hcc33 2 _ rfl; (try simp only [show (k39).sz = 3 from rfl, Nat.mul_one, Nat.add_zero] at hx33_2); have hf33_2 := hfr33 2; (try simp only [show (k39).sz = 3 from rfl, Nat.mul_one, Nat.add_zero] at hf33_2); (try clear hcl33); (try clear hcc33); (try clear hfr33); (try clear hM33)) | ((with_reducible refine gate_store (t := 39) (p := 49) rfl ?_); refine store_event (t := 39) (p := 49) (v := ?vo_w34) (w1 := (((w32.setCell ⟨go28, (t1514 : Int).toNat * 3, none⟩ (.int .i64 t1517)).setCell ⟨go28, (t1514 : Int).toNat * 3 + 1, none⟩ (.int .i64 t1518)).setCell ⟨go28, (t1514 : Int).toNat * 3 + 2, none⟩ (.int .i64 t1519))) ?hg ?ho ?hn ?hr ?_; (case ho => rfl); (case hg => rfl); (case hn => rfl); (case hr => first | (go_simp; done) | (go_simp; rfl)); intro w34 hw; have hg : w32.grownBy w34 (some go28) := (by rw [hw]; exact HP33.2); have hp_ : Kd.R k39 39 w34 w.heap.size (fun _ => True) (.slice (some ⟨go28, 0, none⟩) x8_3.length co30) y1522 := (by rw [hw, Ny1522.out]; exact HP33.1); clear HP33; have n0_ := zad (Kd.R_over' (v := (.slice (some ⟨go28, 0, none⟩) x8_3.length co30)) (taaj) (Kd.R_typed HO_8.out) (by decide) hg); have n1_ := zad (Kd.R_over' (v := (.slice (some ⟨go28, 0, none⟩) x8_3.length co30)) (taai) (Kd.R_typed HO_8.out) (by decide) hg); have n2_ := zad (hp_); have n3_ := zad (IsS75.grown (taam) hg (zck HI1487.out HO_8.out (by decide))); have n4_ := zad ((by rw [hw]; exact zah (zah (zah (HB.out) GB28.out) GB28.out) GB28.out : Below w.heap.size w w34)); clear HO_6 HO_7 HO_8 HI1487 HB; have HO_6 := n0_; have HO_7 := n1_; have HO_8 := n2_; have HI1487 := n3_; have HB := n4_; clear n0_ n1_ n2_ n3_ n4_ hg hw hp_))
             go_ret3
             exact ⟨_, _, _, taah, taaj, taai, taan, taav⟩
           · rw [if_neg c27] at H
             exact absurd H (taac)
         · rw [if_neg c26] at H
           exact absurd H (taac)
       · rw [if_neg c23] at H
         have c23b0 : decide (0 < (x8_3.length : Int)) = false := zbh c23
         have c23b1 : decide (0 < x8_3.length) = false := zbh (by omega)
         clear c23; simp only [zbl, zbp] at H
         obtain ⟨rfl, rfl, rfl⟩ := H
         go_wp2_with (first | ((with_reducible refine zbf (f := 80) rfl ?_); refine zbn (some 27) rfl rfl Try.func80 (by kernel_rfl) rfl #[.pointer (some ⟨gb1487, 0, none⟩), .int .i64 8] rfl (taad) ?_; (with_reducible refine (spec_l1Cur_pick.calls gb1487 l0 x1488001_3 x1488002_3 8 t1503 t1504 t1505 w _ ?side1 ?side2 A15.out).mono ?_); (case side1 => repeat (first | (with_reducible first | exact HI1487.out | apply zcg | apply zch | apply zci | apply zcn | apply zco) | exact HI1487.out)); (case side2 => repeat (first | (with_reducible first | exact HB.out | apply zag | apply zae | apply zaf | refine zah ?_ (zcl HI1487.out)) | exact HB.out)); rintro e w35 ⟨rfl, hi, hb, hk⟩; refine ⟨_, rfl, ?_⟩; have n0_ := zad (zbq (zbr (zcj (show IsS75 w _ gb1487 l0 x1488001_3 x1488002_3 from by exact taet) (taaj) (by decide)) hk (fun _ h => h.2)) (fun _ h => h.1)); have n1_ := zad (zbq (zbr (zcj (show IsS75 w _ gb1487 l0 x1488001_3 x1488002_3 from by exact taet) (taai) (by decide)) hk (fun _ h => h.2)) (fun _ h => h.1)); have n2_ := zad (zbq (zbr (zcj (show IsS75 w _ gb1487 l0 x1488001_3 x1488002_3 from by exact taet) (taan) (by decide)) hk (fun _ h => h.2)) (fun _ h => h.1)); have n3_ := zad (hb); have n4_ := zad (hi); clear HO_6 HO_7 HO_8 HB HI1487; have HO_6 := n0_; have HO_7 := n1_; have HO_8 := n2_; have HB := n3_; have HI1487 := n4_; clear n0_ n1_ n2_ n3_ n4_; (try clear hb); (try clear hb2); (try clear hk); (try clear hi); obtain ⟨Ao36, co36, eo36⟩ := zbv HO_8.out; subst eo36))
         go_ret3
         exact ⟨_, _, _, taah, taaj, taai, taan, taav⟩
     · rw [if_neg c22] at H
       have c22b0 : (t1503 == 1) = false := zbo.mpr c22
       have c22b1 : (t1503 != 1) = true := bne_iff_ne.mpr c22
       by_cases c37 : t1503 = 2
       · rw [if_pos c37] at H
         have c37b0 : (t1503 == 2) = true := beq_iff_eq.mpr c37
         have c37b1 : (t1503 != 2) = false := bne_eq_false_iff_eq.mpr c37
         clear c37; replace H := zay.mp H; obtain ⟨⟨t1523, t1524, t1525⟩, A380, H⟩ := H
         replace H : (if 0 ≤ (wrap64 (240 + t1523)) then (if (wrap64 (240 + t1523) : Int).toNat ≤ 11728124029610 then ((some (List.replicate (wrap64 (240 + t1523) : Int).toNat z39 : List (S39))).bind fun y1526 => (spec_DrawIsGiftPath.l0 kj3 t1488 t1491 y1526 (y1526.length : Int) 0)) else (none)) else (none)) = some (r1, r2, r3) := H
         have A38 := zad A380; clear A380; obtain ⟨ji39, hji39⟩ : ∃ j_ : Int, (wrap64 (240 + t1523)) = j_ := ⟨_, rfl⟩
         replace H : (if 0 ≤ (ji39) then (if (ji39 : Int).toNat ≤ 11728124029610 then ((some (List.replicate (ji39 : Int).toNat z39 : List (S39))).bind fun y1526 => (spec_DrawIsGiftPath.l0 kj3 t1488 t1491 y1526 (y1526.length : Int) 0)) else (none)) else (none)) = some (r1, r2, r3) := by first | (rw [hji39] at H; exact H) | (simp only [hji39] at H ⊢; exact H)
         (try rw [hji39] at A15)
         (try rw [hji39] at A38)
         have hji39w : (IntKind.i64.wrap (240 + t1523)) = ji39 := (zbw _).trans hji39
         by_cases c40 : 0 ≤ (ji39)
         · rw [if_pos c40] at H
           have c40b0 := eq_true c40; have c40b1 : decide (0 ≤ (ji39)) = true := zba c40
           clear c40; by_cases c41 : (ji39 : Int).toNat ≤ 11728124029610
           · rw [if_pos c41] at H
             have c41b0 := eq_true c41; have c41b1 : decide ((ji39 : Int).toNat ≤ 11728124029610) = true := zba c41
             clear c41; obtain ⟨y1526, hy1526⟩ : ∃ y_ : List (S39), y_ = (List.replicate (ji39 : Int).toNat z39) := ⟨_, rfl⟩
             replace H : (spec_DrawIsGiftPath.l0 kj3 t1488 t1491 y1526 (y1526.length : Int) 0) = some (r1, r2, r3) := by first | (rw [hy1526]; with_reducible exact H) | (have H2_ := (zbb _ _).symm.trans H; rw [hy1526]; with_reducible exact H2_) | (have H2_ := (zbb _ _).symm.trans H; with_reducible exact H2_) | with_reducible exact H | (rw [hy1526]; exact H) | exact H
             have Ny1526 := zad hy1526; clear hy1526; have H' := zad H
             clear H; go_wp2_with (first | ((with_reducible refine zbf (f := 80) rfl ?_); refine zbn (some 27) rfl rfl Try.func80 (by kernel_rfl) rfl #[.pointer (some ⟨gb1487, 0, none⟩), .int .i64 8] rfl (taad) ?_; (with_reducible refine (spec_l1Cur_pick.calls gb1487 l0 x1488001_3 x1488002_3 8 t1503 t1504 t1505 w _ ?side1 ?side2 A15.out).mono ?_); (case side1 => repeat (first | (with_reducible first | exact HI1487.out | apply zcg | apply zch | apply zci | apply zcn | apply zco) | exact HI1487.out)); (case side2 => repeat (first | (with_reducible first | exact HB.out | apply zag | apply zae | apply zaf | refine zah ?_ (zcl HI1487.out)) | exact HB.out)); rintro e w42 ⟨rfl, hi, hb, hk⟩; refine ⟨_, rfl, ?_⟩; have n0_ := zad (zbq (zbr (zcj (show IsS75 w _ gb1487 l0 x1488001_3 x1488002_3 from by exact taet) (taaj) (by decide)) hk (fun _ h => h.2)) (fun _ h => h.1)); have n1_ := zad (zbq (zbr (zcj (show IsS75 w _ gb1487 l0 x1488001_3 x1488002_3 from by exact taet) (taai) (by decide)) hk (fun _ h => h.2)) (fun _ h => h.1)); have n2_ := zad (zbq (zbr (zcj (show IsS75 w _ gb1487 l0 x1488001_3 x1488002_3 from by exact taet) (taan) (by decide)) hk (fun _ h => h.2)) (fun _ h => h.1)); have n3_ := zad (hb); have n4_ := zad (hi); clear HO_6 HO_7 HO_8 HB HI1487; have HO_6 := n0_; have HO_7 := n1_; have HO_8 := n2_; have HB := n3_; have HI1487 := n4_; clear n0_ n1_ n2_ n3_ n4_; (try clear hb); (try clear hb2); (try clear hk); (try clear hi)) | ((with_reducible refine zbf (f := 80) rfl ?_); refine zbn (some 53) rfl rfl Try.func80 (by kernel_rfl) rfl #[.pointer (some ⟨gb1487, 0, none⟩), .int .i64 2] rfl (taad) ?_; (with_reducible refine (spec_l1Cur_pick.calls gb1487 l0 t1504 t1505 2 t1523 t1524 t1525 w _ ?side1 ?side2 A38.out).mono ?_); (case side1 => repeat (first | (with_reducible first | exact HI1487.out | apply zcg | apply zch | apply zci | apply zcn | apply zco) | exact HI1487.out)); (case side2 => repeat (first | (with_reducible first | exact HB.out | apply zag | apply zae | apply zaf | refine zah ?_ (zcl HI1487.out)) | exact HB.out)); rintro e w43 ⟨rfl, hi, hb, hk⟩; refine ⟨_, rfl, ?_⟩; have n0_ := zad (zbq (zbr (zcj (show IsS75 w _ gb1487 l0 t1504 t1505 from by exact taet) (taaj) (by decide)) hk (fun _ h => h.2)) (fun _ h => h.1)); have n1_ := zad (zbq (zbr (zcj (show IsS75 w _ gb1487 l0 t1504 t1505 from by exact taet) (taai) (by decide)) hk (fun _ h => h.2)) (fun _ h => h.1)); have n2_ := zad (zbq (zbr (zcj (show IsS75 w _ gb1487 l0 t1504 t1505 from by exact taet) (taan) (by decide)) hk (fun _ h => h.2)) (fun _ h => h.1)); have n3_ := zad (hb); have n4_ := zad (hi); clear HO_6 HO_7 HO_8 HB HI1487; have HO_6 := n0_; have HO_7 := n1_; have HO_8 := n2_; have HB := n3_; have HI1487 := n4_; clear n0_ n1_ n2_ n3_ n4_; (try clear hb); (try clear hb2); (try clear hk); (try clear hi)) | ((with_reducible refine gate_dst (N := 55) rfl ?_); refine Kd.R_make k39 _ 39 rfl (N := 55) rfl 58 _ _ rfl ji39 rfl rfl Try.underlying58 (.agg #[(.int .i64 0), (.int .i64 0), (.int .i64 0)]) 24 info39 rfl (by decide) (by omega) z39 (ok := fun _ => True) (okp := fun _ => True) (k39_mkM _ _ _ z39 ) (fun _ hk => hk) trivial (zas (taab)) (Nat.le_trans (Nat.mul_le_mul_right _ (zas (taab) : ji39.toNat ≤ 11728124029610)) (by omega)) (Below.refl _ _) (zcf _) ?_; intro v1527 w44 ho45 hb hg_ hnew_; clear hg_ hnew_; (first | rw [← Ny1526.out] at ho45 | (simp only [Int.reduceToNat] at ho45; rw [← Ny1526.out] at ho45)); have n0_ := zad (zbt (taaj) hb); have n1_ := zad (zbt (taai) hb); have n2_ := zad (zcb (taan) (zcd ho45) hb); have n3_ := zad (zbu (zcc ho45 (zce (taan))) (zbk (taav))); have n4_ := zad (IsS75.below (taam) hb); have n5_ := zad (zbe (taav) hb); clear HO_6 HO_7 HO_8 HI1487 HB; have HO_6 := n0_; have HO_7 := n1_; have HO_8 := n2_; have HO1528 := n3_; have HI1487 := n4_; have HB := n5_; clear n0_ n1_ n2_ n3_ n4_ n5_ hb ho45; obtain ⟨Ao46, co46, eo46⟩ := zbv HO1528.out; subst eo46))
             go_loopg [58] kj3 (fun kq v58 w' => ∃ (x8_2 : List (S39)) (x58_2 : Int), v58 = .int .i64 x58_2 ∧ Aside0 (spec_DrawIsGiftPath.l0 kq t1488 t1491 x8_2 (y1526.length : Int) x58_2 = some (r1, r2, r3)) ∧ Aside0 (kq ≤ kj3) ∧ Aside0 (Kd.R (Kd.int .i64) 3 w' w.heap.size (fun k_ => some k_ ≠ ((.slice Ao8 t1491.length co8) : Value).ownBlock) (.slice Ao7 t1488.length co7) t1488) ∧ Aside0 (Kd.R (Kd.int .i64) 3 w' w.heap.size (fun k_ => some k_ ≠ ((.slice Ao7 t1488.length co7) : Value).ownBlock) (.slice Ao8 t1491.length co8) t1491) ∧ Aside0 (Kd.R k39 39 w' w.heap.size (fun _ => True) (.slice Ao46 y1526.length co46) x8_2) ∧ Aside0 (Below w.heap.size w w'))
             case atStart => exact ⟨(y1526), (0), (taag), H', ⟨zcf _⟩, ⟨taaj⟩, ⟨taai⟩, ⟨by (with_reducible repeat (first | apply zai | apply zaj | apply zak)); exact zbq HO1528.out (fun _ hk => trivial)⟩, ⟨taav⟩⟩
             case round =>
              clear H'
              try clear c1
              try clear c2
              try clear p2
              try clear q2
              try clear hx2
              try clear hf2
              try clear c3
              try clear hx3
              try clear hf3
              try clear c4
              try clear p6
              try clear c7
              try clear c8
              try clear c9
              try clear c10
              try clear c12
              try clear c13
              try clear c16
              try clear c16b0
              try clear c16b1
              try clear c18
              try clear c22
              try clear c22b0
              try clear c22b1
              try clear c23
              try clear c23b0
              try clear c23b1
              try clear c26
              try clear c26b0
              try clear c27
              try clear c27b0
              try clear c28
              try clear p28
              try clear q28
              try clear hx28
              try clear hf28
              try clear c33
              try clear hx33
              try clear hf33
              try clear c37
              try clear c37b0
              try clear c37b1
              try clear c40
              try clear c40b0
              try clear c40b1
              try clear c41
              try clear c41b0
              try clear c41b1
              try clear hx28_0
              try clear hx28_1
              try clear hx28_2
              try clear hx33_0
              try clear hx33_1
              try clear hx33_2
              try clear p2
              try clear p28
              try clear q28
              obtain ⟨x8_2, x58_2, rfl, HA, HK2, HO_6, HO_7, HO_8, HB⟩ := hrel
              have hl8_2 := (zbd HO_8.out).1
              rw [hl8_2] at HO_8
              (try simp only [hl8_2])
              (try simp only [hl8_2] at HO_6)
              (try simp only [hl8_2] at HO_7)
              cases gk with
              | zero => exact absurd HA.out (by simp [spec_DrawIsGiftPath.l0])
              | succ k2 =>
               have H := HA.out
               clear HA; simp only [spec_DrawIsGiftPath.l0] at H
               by_cases c47 : x58_2 < (y1526.length : Int)
               · rw [if_pos c47] at H
                 have c47b0 : decide (x58_2 < (y1526.length : Int)) = true := zba c47
                 clear c47; by_cases c48 : 0 ≤ x58_2
                 · rw [if_pos c48] at H
                   have c48b0 : decide (0 ≤ x58_2) = true := zba c48
                   clear c48; by_cases c49 : x58_2 < (x8_2.length : Int)
                   · rw [if_pos c49] at H
                     have c49b0 : decide (x58_2 < (x8_2.length : Int)) = true := zba c49
                     clear c49; obtain ⟨y1529, hy1529⟩ : ∃ y_ : List (S39), y_ = (x8_2.set (x58_2 : Int).toNat (⟨0, 1, 1⟩ : S39)) := ⟨_, rfl⟩
                     replace H : (spec_DrawIsGiftPath.l0 k2 t1488 t1491 y1529 (y1526.length : Int) (wrap64 (x58_2 + 1))) = some (r1, r2, r3) := by first | (rw [hy1529]; with_reducible exact H) | (have H2_ := (zbb _ _).symm.trans H; rw [hy1529]; with_reducible exact H2_) | (have H2_ := (zbb _ _).symm.trans H; with_reducible exact H2_) | with_reducible exact H | (rw [hy1529]; exact H) | exact H
                     have Ny1529 := zad hy1529; clear hy1529; have H' := zad H
                     clear H; have p50 : 0 ≤ (x58_2 : Int) := zas (taab)
                     have q50 : (x58_2 : Int) < ((x8_2.length : Int) : Int) := zas (taab)
                     obtain ⟨go50, co50, eo50, gb50, gl50, cl50, HG50⟩ := Kd.R_form HO_8.out (by omega)
                     (first | cases eo50 | (injection eo50 with ea_ en_ ec_; (first | subst ea_ | (injection ea_ with ea_; subst ea_)); subst ec_; clear en_))
                     have GB50 := zad gb50; have GG50 := zad HG50; clear gb50 gl50 HG50; obtain ⟨ce50, hcl50, hM50, hcc50, hfr50⟩ := Kd.R_elem HO_8.out z39 (x58_2 : Int) p50 q50
                     obtain rfl := k39_openM hM50
                     have hx50_0 : wr.cell? ⟨go50, (x58_2 : Int).toNat * 3, none⟩ = some (.int .i64 ((rd_T39 x8_2 x58_2).f0)) := hcc50 0 _ rfl
                     have hx50_1 : wr.cell? ⟨go50, (x58_2 : Int).toNat * 3 + 1, none⟩ = some (.int .i64 ((rd_T39 x8_2 x58_2).f1)) := hcc50 1 _ rfl
                     have hx50_2 : wr.cell? ⟨go50, (x58_2 : Int).toNat * 3 + 2, none⟩ = some (.int .i64 ((rd_T39 x8_2 x58_2).f2)) := hcc50 2 _ rfl
                     have hf50_0 : wr.frozen? ⟨go50, (x58_2 : Int).toNat * 3, none⟩ = false := hfr50 0
                     have hf50_1 : wr.frozen? ⟨go50, (x58_2 : Int).toNat * 3 + 1, none⟩ = false := hfr50 1
                     have hf50_2 : wr.frozen? ⟨go50, (x58_2 : Int).toNat * 3 + 2, none⟩ = false := hfr50 2
                     (try clear hcl50); (try clear hcc50); (try clear hfr50); (try clear hM50); replace p50 := eq_true p50
                     replace q50 := eq_true q50
                     have HX51 := zad (show Kd.R k39 39 wr w.heap.size (fun _ => True) (.slice (some ⟨go50, 0, none⟩) x8_2.length co46) x8_2 from (taan))
                     obtain ⟨ce51, hcl51, hM51, hcc51, hfr51⟩ := Kd.R_elem HX51.out z39 (x58_2 : Int) (zas (taab)) (by have h_ : (x58_2 : Int) < ((x8_2.length : Int) : Int) := zas (taab); first | exact h_ | (have e_ := (zbd HO_8.out).1; omega) | simpa using h_)
                     obtain rfl := k39_openM hM51
                     have HP51 := Kd.R_seg HX51.out (x58_2 : Int) (zas (taab)) (by have h_ : (x58_2 : Int) < ((x8_2.length : Int) : Int) := zas (taab); first | exact h_ | (have e_ := (zbd HO_8.out).1; omega) | simpa using h_) (seg := [.int .i64 0, .int .i64 1, .int .i64 1]) (j := 0) hcl51 hcc51 (show 3 ≤ 3 from by decide) (x' := (⟨0, 1, 1⟩ : S39)) (k39_mkM _ _ _ (⟨0, 1, 1⟩ : S39) ) (fun _ hk => hk)
                     have hx51_0 := hcc51 0 _ rfl
                     (try simp only [show (k39).sz = 3 from rfl, Nat.mul_one, Nat.add_zero] at hx51_0)
                     have hf51_0 := hfr51 0; (try simp only [show (k39).sz = 3 from rfl, Nat.mul_one, Nat.add_zero] at hf51_0)
                     have hx51_1 := hcc51 1 _ rfl
                     (try simp only [show (k39).sz = 3 from rfl, Nat.mul_one, Nat.add_zero] at hx51_1)
                     have hf51_1 := hfr51 1; (try simp only [show (k39).sz = 3 from rfl, Nat.mul_one, Nat.add_zero] at hf51_1)
                     have hx51_2 := hcc51 2 _ rfl
                     (try simp only [show (k39).sz = 3 from rfl, Nat.mul_one, Nat.add_zero] at hx51_2)
                     have hf51_2 := hfr51 2; (try simp only [show (k39).sz = 3 from rfl, Nat.mul_one, Nat.add_zero] at hf51_2)
                     (try clear hcl51); (try clear hcc51); (try clear hfr51); (try clear hM51); go_wp2_with (first | ((with_reducible refine gate_store (t := 39) (p := 64) rfl ?_); refine store_event (t := 39) (p := 64) (v := ?vo_w52) (w1 := (((wr.setCell ⟨go50, (x58_2 : Int).toNat * 3, none⟩ (.int .i64 0)).setCell ⟨go50, (x58_2 : Int).toNat * 3 + 1, none⟩ (.int .i64 1)).setCell ⟨go50, (x58_2 : Int).toNat * 3 + 2, none⟩ (.int .i64 1))) ?hg ?ho ?hn ?hr ?_; (case ho => rfl); (case hg => rfl); (case hn => rfl); (case hr => first | (go_simp; done) | (go_simp; rfl)); intro w52 hw; have hg : wr.grownBy w52 (some go50) := (by rw [hw]; exact HP51.2); have hp_ : Kd.R k39 39 w52 w.heap.size (fun _ => True) (.slice (some ⟨go50, 0, none⟩) x8_2.length co46) y1529 := (by rw [hw, Ny1529.out]; exact HP51.1); clear HP51; have n0_ := zad (Kd.R_over' (v := (.slice (some ⟨go50, 0, none⟩) x8_2.length co46)) (taaj) (Kd.R_typed HO_8.out) (by decide) hg); have n1_ := zad (Kd.R_over' (v := (.slice (some ⟨go50, 0, none⟩) x8_2.length co46)) (taai) (Kd.R_typed HO_8.out) (by decide) hg); have n2_ := zad (hp_); have n3_ := zad ((by rw [hw]; exact zah (zah (zah (HB.out) GB50.out) GB50.out) GB50.out : Below w.heap.size w w52)); clear HO_6 HO_7 HO_8 HB; have HO_6 := n0_; have HO_7 := n1_; have HO_8 := n2_; have HB := n3_; clear n0_ n1_ n2_ n3_ hg hw hp_))
                     (try simp only [← hl8_2])
                     go_roundg k2
                     case measure => have := HJ3.out; have := HK2.out; omega
                     case rel => exact ⟨(y1529), (wrap64 (x58_2 + 1)), (taag), H', ⟨by have := HJ3.out; have := HK2.out; omega⟩, ⟨by (try simp only [hl8_2]); (with_reducible repeat (first | apply zai | apply zaj | apply zak)); exact HO_6.out⟩, ⟨by (try simp only [hl8_2]); (with_reducible repeat (first | apply zai | apply zaj | apply zak)); exact HO_7.out⟩, ⟨by (try simp only [hl8_2]); (with_reducible repeat (first | apply zai | apply zaj | apply zak)); exact HO_8.out⟩, ⟨taaa⟩⟩
                   · rw [if_neg c49] at H
                     exact absurd H (taac)
                 · rw [if_neg c48] at H
                   exact absurd H (taac)
               · rw [if_neg c47] at H
                 have c47b0 : decide (x58_2 < (y1526.length : Int)) = false := zbh c47
                 clear c47; (try simp only [hl8_2] at c47b0)
                 simp only [zbl, zbp] at H
                 obtain ⟨rfl, rfl, rfl⟩ := H
                 go_wp2
                 go_ret3
                 exact ⟨_, _, _, by first | rfl | (simp [errW_none, errW_some] <;> rfl) | (simp only [← hji39]; first | rfl | (simp [errW_none, errW_some] <;> rfl)) | (simp [*, errW_none, errW_some] <;> rfl), taaj, taai, taan, taaa⟩
           · rw [if_neg c41] at H
             exact absurd H (taac)
         · rw [if_neg c40] at H
           exact absurd H (taac)
       · rw [if_neg c37] at H
         have c37b0 : (t1503 == 2) = false := zbo.mpr c37
         have c37b1 : (t1503 != 2) = true := bne_iff_ne.mpr c37
         simp only [zbl, zbp] at H
         obtain ⟨rfl, rfl, rfl⟩ := H
         go_wp2_with (first | ((with_reducible refine zbf (f := 80) rfl ?_); refine zbn (some 27) rfl rfl Try.func80 (by kernel_rfl) rfl #[.pointer (some ⟨gb1487, 0, none⟩), .int .i64 8] rfl (taad) ?_; (with_reducible refine (spec_l1Cur_pick.calls gb1487 l0 x1488001_3 x1488002_3 8 t1503 t1504 t1505 w _ ?side1 ?side2 A15.out).mono ?_); (case side1 => repeat (first | (with_reducible first | exact HI1487.out | apply zcg | apply zch | apply zci | apply zcn | apply zco) | exact HI1487.out)); (case side2 => repeat (first | (with_reducible first | exact HB.out | apply zag | apply zae | apply zaf | refine zah ?_ (zcl HI1487.out)) | exact HB.out)); rintro e w53 ⟨rfl, hi, hb, hk⟩; refine ⟨_, rfl, ?_⟩; have n0_ := zad (zbq (zbr (zcj (show IsS75 w _ gb1487 l0 x1488001_3 x1488002_3 from by exact taet) (taaj) (by decide)) hk (fun _ h => h.2)) (fun _ h => h.1)); have n1_ := zad (zbq (zbr (zcj (show IsS75 w _ gb1487 l0 x1488001_3 x1488002_3 from by exact taet) (taai) (by decide)) hk (fun _ h => h.2)) (fun _ h => h.1)); have n2_ := zad (zbq (zbr (zcj (show IsS75 w _ gb1487 l0 x1488001_3 x1488002_3 from by exact taet) (taan) (by decide)) hk (fun _ h => h.2)) (fun _ h => h.1)); have n3_ := zad (hb); have n4_ := zad (hi); clear HO_6 HO_7 HO_8 HB HI1487; have HO_6 := n0_; have HO_7 := n1_; have HO_8 := n2_; have HB := n3_; have HI1487 := n4_; clear n0_ n1_ n2_ n3_ n4_; (try clear hb); (try clear hb2); (try clear hk); (try clear hi)))
         go_ret3
         exact ⟨_, _, _, taah, taaj, taai, taan, taav⟩
def spec_giGifts.l0 : Nat → List Int → List (S39) → List (S39) → Int → Int → Option (Bool)
 | 0, _, _, _, _, _ => none
 | k + 1, x0, x1, x7, x8, x9 => if x9 < x8 then (if 0 ≤ x9 then (if x9 < (x7.length : Int) then ((spec_giIs.f x0 ((rd_T39 x7 x9).f0) ((rd_T39 x7 x9).f1) ((rd_T39 x7 x9).f2)).bind fun t1532 => (if t1532 = true then (spec_giGifts.l0 k x0 x1 x7 x8 (wrap64 (x9 + 1))) else (some false))) else (none)) else (none)) else (some (decide ((x1.length : Int) ≤ 240)))
def spec_giGifts.f (k : Nat) (l0 : List Int) (l1 : List (S39)) : Option (Bool) := spec_giGifts.l0 k l0 l1 l1 (l1.length : Int) 0
theorem spec_giGifts.calls (k : Nat) (A0 : Option Addr) (c0 : Nat) (l0 : List Int) (A1 : Option Addr) (c1 : Nat) (l1 : List (S39)) (r : Bool) (w : World) (hr0 : Kd.C (Kd.int .i64) w A0 l0.length l0) (hc0 : l0.length ≤ c0) (hr1 : Kd.C k39 w A1 l1.length l1) (hc1 : l1.length ≤ c1) (h : spec_giGifts.f k l0 l1 = some r) :
 Calls Try.prog 143 #[.slice A0 l0.length c0, .slice A1 l1.length c1] w fun e w' => e = .returned (.bool r) ∧ Below w.heap.size w w' := by
 have hu39 := Try.underlying39
 have HR0 := zad hr0; have HC0 := zad hc0; clear hr0 hc0; have HR1 := zad hr1; have HC1 := zad hc1; clear hr1 hc1; have HB := zad (Below.refl w.heap.size w)
 have H : (spec_giGifts.l0 k l0 l1 l1 (l1.length : Int) 0) = some r := h
 clear h; have H' := zad H
 clear H; go_enter Try.func143, Try.ntmps143
 go_wp2
 go_loopg [9] k (fun kq v9 w' => ∃ (x9_1 : Int), v9 = .int .i64 x9_1 ∧ Aside0 (spec_giGifts.l0 kq l0 l1 l1 (l1.length : Int) x9_1 = some r) ∧ Aside0 (kq ≤ k) ∧ Aside0 (Below w.heap.size w w'))
 case atStart => exact ⟨(0), (taag), H', ⟨zcf _⟩, ⟨taaa⟩⟩
 case round =>
  clear H'
  try clear c1
  try clear p2
  obtain ⟨x9_1, rfl, HA, HK1, HB⟩ := hrel
  cases gk with
  | zero => exact absurd HA.out (by simp [spec_giGifts.l0])
  | succ k1 =>
   have H := HA.out
   clear HA; simp only [spec_giGifts.l0] at H
   by_cases c3 : x9_1 < (l1.length : Int)
   · rw [if_pos c3] at H
     have c3b0 : decide (x9_1 < (l1.length : Int)) = true := zba c3
     clear c3; by_cases c4 : 0 ≤ x9_1
     · rw [if_pos c4] at H
       have c4b0 : decide (0 ≤ x9_1) = true := zba c4
       clear c4; by_cases c5 : x9_1 < (l1.length : Int)
       · rw [if_pos c5] at H
         have c5b0 : decide (x9_1 < (l1.length : Int)) = true := zba c5
         clear c5; replace H := zay.mp H; obtain ⟨t1532, A60, H⟩ := H
         replace H : (if t1532 = true then (spec_giGifts.l0 k1 l0 l1 l1 (l1.length : Int) (wrap64 (x9_1 + 1))) else (some false)) = some r := H
         have A6 := zad A60; clear A60; by_cases c7 : t1532 = true
         · subst c7
           have H1 : (spec_giGifts.l0 k1 l0 l1 l1 (l1.length : Int) (wrap64 (x9_1 + 1))) = some r := by rw [if_pos rfl] at H; exact H
           clear H; have H := H1; clear H1; have H' := zad H
           clear H; have p1530 : 0 ≤ (x9_1 : Int) := zas (taab)
           have q1530 : x9_1 < (l1.length : Int) := zas (taab)
           obtain ⟨ad1530, e1530, hx1530_0, hx1530_1, hx1530_2⟩ := at_T39 HR1.out x9_1 p1530 q1530
           cases e1530
           replace hx1530_0 := (HB.out.cell (zaz w _ hx1530_0)).trans hx1530_0
           replace hx1530_1 := (HB.out.cell (zaz w _ hx1530_1)).trans hx1530_1
           replace hx1530_2 := (HB.out.cell (zaz w _ hx1530_2)).trans hx1530_2
           replace p1530 := eq_true p1530
           replace q1530 := eq_true q1530
           go_wp2_with (first | ((with_reducible refine gate_dst (N := 6) rfl ?_); refine box_event ?hg (N := 6) ?hd (cs := #[.int .i64 0, .int .i64 0, .int .i64 0]) (t := 39) ?hr ?_; (case hd => rfl); (case hg => rfl); (case hr => first | (go_simp; done) | (go_simp; rfl)); intro gb1531 hg w8 hbox hb; have n0_ := zad (zbe (taaa) hb); have n1_ := zad (hbox); have n2_ := zad ((taee : w.heap.size ≤ gb1531)); have n3_ := zad ((taee : w.heap.size ≤ gb1531)); clear HB; have HB := n0_; have BK1531 := n1_; have GW1531 := n2_; have GE1531 := n3_; clear n0_ n1_ n2_ n3_ hb hbox hg; have hcz9_0 : w8.cell? ⟨gb1531, 0, none⟩ = some (.int .i64 0) := (zbi BK1531.out 0).trans rfl; have hcz9_1 : w8.cell? ⟨gb1531, 1, none⟩ = some (.int .i64 0) := (zbi BK1531.out 1).trans rfl; have hcz9_2 : w8.cell? ⟨gb1531, 2, none⟩ = some (.int .i64 0) := (zbi BK1531.out 2).trans rfl; have hfz9_0 := zbj BK1531.out 0; have hfz9_1 := zbj BK1531.out 1; have hfz9_2 := zbj BK1531.out 2) | ((with_reducible refine zbf (f := 103) rfl ?_); refine zbn (some 15) rfl rfl Try.func103 (by kernel_rfl) rfl #[.slice A0 l0.length c0, .agg #[.int .i64 ((rd_T39 l1 x9_1).f0), .int .i64 ((rd_T39 l1 x9_1).f1), .int .i64 ((rd_T39 l1 x9_1).f2)]] rfl (taad) ?_; (with_reducible refine (spec_giIs.calls _ _ l0 ((rd_T39 l1 x9_1).f0) ((rd_T39 l1 x9_1).f1) ((rd_T39 l1 x9_1).f2) true _ ?side1 ?side2 A6.out).mono ?_); (case side1 => exact Kd.C_below HR0.out (taby)); (case side2 => exact HC0.out); rintro e w10 ⟨rfl, hb⟩; refine ⟨_, rfl, ?_⟩; have n0_ := zad (blk_below (g := gb1531) (o := .cells #[.int .i64 ((rd_T39 l1 x9_1).f0), .int .i64 ((rd_T39 l1 x9_1).f1), .int .i64 ((rd_T39 l1 x9_1).f2)] 39 (0, 0)) (tady) hb); have n1_ := zad (zbe (taby) hb); clear BK1531 HB; have BK1531 := n0_; have HB := n1_; clear n0_ n1_; (try clear hb); (try clear hb2); (try clear hk); (try clear hi)))
           go_roundg k1
           case measure => have := HK1.out; omega
           case rel => exact ⟨(wrap64 (x9_1 + 1)), (taag), H', ⟨taau⟩, ⟨taby⟩⟩
         · replace c7 := zbg.mpr c7
           subst c7; have H1 : (some false) = some r := by rw [if_neg (show ¬ (false = true) by decide)] at H; exact H
           clear H; have H := H1; clear H1; obtain rfl := zbc H
           have p1530 : 0 ≤ (x9_1 : Int) := zas (taab)
           have q1530 : x9_1 < (l1.length : Int) := zas (taab)
           obtain ⟨ad1530, e1530, hx1530_0, hx1530_1, hx1530_2⟩ := at_T39 HR1.out x9_1 p1530 q1530
           cases e1530
           replace hx1530_0 := (HB.out.cell (zaz w _ hx1530_0)).trans hx1530_0
           replace hx1530_1 := (HB.out.cell (zaz w _ hx1530_1)).trans hx1530_1
           replace hx1530_2 := (HB.out.cell (zaz w _ hx1530_2)).trans hx1530_2
           replace p1530 := eq_true p1530
           replace q1530 := eq_true q1530
           go_wp2_with (first | ((with_reducible refine gate_dst (N := 6) rfl ?_); refine box_event ?hg (N := 6) ?hd (cs := #[.int .i64 0, .int .i64 0, .int .i64 0]) (t := 39) ?hr ?_; (case hd => rfl); (case hg => rfl); (case hr => first | (go_simp; done) | (go_simp; rfl)); intro gb1531 hg w11 hbox hb; have n0_ := zad (zbe (taaa) hb); have n1_ := zad (hbox); have n2_ := zad ((taee : w.heap.size ≤ gb1531)); have n3_ := zad ((taee : w.heap.size ≤ gb1531)); clear HB; have HB := n0_; have BK1531 := n1_; have GW1531 := n2_; have GE1531 := n3_; clear n0_ n1_ n2_ n3_ hb hbox hg; have hcz12_0 : w11.cell? ⟨gb1531, 0, none⟩ = some (.int .i64 0) := (zbi BK1531.out 0).trans rfl; have hcz12_1 : w11.cell? ⟨gb1531, 1, none⟩ = some (.int .i64 0) := (zbi BK1531.out 1).trans rfl; have hcz12_2 : w11.cell? ⟨gb1531, 2, none⟩ = some (.int .i64 0) := (zbi BK1531.out 2).trans rfl; have hfz12_0 := zbj BK1531.out 0; have hfz12_1 := zbj BK1531.out 1; have hfz12_2 := zbj BK1531.out 2) | ((with_reducible refine zbf (f := 103) rfl ?_); refine zbn (some 15) rfl rfl Try.func103 (by kernel_rfl) rfl #[.slice A0 l0.length c0, .agg #[.int .i64 ((rd_T39 l1 x9_1).f0), .int .i64 ((rd_T39 l1 x9_1).f1), .int .i64 ((rd_T39 l1 x9_1).f2)]] rfl (taad) ?_; (with_reducible refine (spec_giIs.calls _ _ l0 ((rd_T39 l1 x9_1).f0) ((rd_T39 l1 x9_1).f1) ((rd_T39 l1 x9_1).f2) false _ ?side1 ?side2 A6.out).mono ?_); (case side1 => exact Kd.C_below HR0.out (taby)); (case side2 => exact HC0.out); rintro e w13 ⟨rfl, hb⟩; refine ⟨_, rfl, ?_⟩; have n0_ := zad (blk_below (g := gb1531) (o := .cells #[.int .i64 ((rd_T39 l1 x9_1).f0), .int .i64 ((rd_T39 l1 x9_1).f1), .int .i64 ((rd_T39 l1 x9_1).f2)] 39 (0, 0)) (tady) hb); have n1_ := zad (zbe (taby) hb); clear BK1531 HB; have BK1531 := n0_; have HB := n1_; clear n0_ n1_; (try clear hb); (try clear hb2); (try clear hk); (try clear hi)))
           go_ret
           exact ⟨taah, taby⟩
       · rw [if_neg c5] at H
         exact absurd H (taac)
     · rw [if_neg c4] at H
       exact absurd H (taac)
   · rw [if_neg c3] at H
     have c3b0 : decide (x9_1 < (l1.length : Int)) = false := zbh c3
     clear c3; obtain rfl := zbc H
     go_wp2
     go_ret
     exact ⟨taah, taaa⟩
def spec_IsGiftPath.j0 : Nat → List Int → List Int → List (S39) → Bool → Option (Bool × Bool)
 | 0, _, _, _, _ => none
 | k + 1, x0, x1, x2, x29 => if x29 = true then (some (false, false)) else ((spec_giFollow.f x1 x2).bind fun bt1537 => (if bt1537.2 = true then (if 0 ≤ (wrap64 ((bt1537.1.length : Int) - 1)) then (if (wrap64 ((bt1537.1.length : Int) - 1)) < (bt1537.1.length : Int) then ((spec_liRank.f k x0).bind fun t1542 => ((spec_l1Same.f k (rd_L2 bt1537.1 (wrap64 ((bt1537.1.length : Int) - 1))) t1542).bind fun t1545 => (some (t1545, true)))) else (none)) else (none)) else (some (false, true))))
def spec_IsGiftPath.f (k : Nat) (l0 : List Int) (l1 : List Int) (l2 : List (S39)) : Option (Bool × Bool) := (spec_liGood.f k l0).bind fun t1533 => (if t1533 = true then ((spec_liGood.f k l1).bind fun t1534 => (if t1534 = true then ((spec_liFit.f k l0 l1).bind fun t1535 => (if t1535 = true then ((spec_giGifts.f k l1 l2).bind fun t1536 => (spec_IsGiftPath.j0 k l0 l1 l2 (!t1536))) else (spec_IsGiftPath.j0 k l0 l1 l2 true))) else (spec_IsGiftPath.j0 k l0 l1 l2 true))) else (spec_IsGiftPath.j0 k l0 l1 l2 true))
def spec_IsGiftPath.T4 : Bool × List (List Nat × List Nat) := (true, [([], []), ([0], [0]), ([1], [1]), ([1], [1]), ([3, 1], [1, 3]), ([4, 1], [1, 4]), ([2, 5, 1], [1, 2, 5]), ([6, 1], [1, 6]), ([1], [1]), ([8, 1, 1], [1, 8]), ([7, 9, 9, 1], [1, 7, 9]), ([1, 10], [1, 10]), ([11, 10, 0, 1, 2, 3, 4, 5, 6, 7, 8, 9, 10, 11], [11]), ([12, 0, 1, 2, 3, 4, 5, 6, 7, 8, 9, 10, 11, 12], [])])
def spec_IsGiftPath.B4 : List Nat := [0, 1, 3, 3, 11, 27, 63, 127, 3, 259, 1023, 2047, 4095, 8191]
theorem spec_IsGiftPath.tab4 : rtab .any (opsOf Try.f77 4) = spec_IsGiftPath.T4 := by kernel_rfl
theorem spec_IsGiftPath.bits4 : waitsOk spec_IsGiftPath.T4.2 spec_IsGiftPath.B4 = true := by kernel_rfl
theorem spec_IsGiftPath.calls (k : Nat) (A0 : Option Addr) (c0 : Nat) (l0 : List Int) (A1 : Option Addr) (c1 : Nat) (l1 : List Int) (A2 : Option Addr) (c2 : Nat) (l2 : List (S39)) (r1 : Bool) (r2 : Bool) (w : World) (hr0 : Kd.C (Kd.int .i64) w A0 l0.length l0) (hc0 : l0.length ≤ c0) (hr1 : Kd.C (Kd.int .i64) w A1 l1.length l1) (hc1 : l1.length ≤ c1) (hr2 : Kd.C k39 w A2 l2.length l2) (hc2 : l2.length ≤ c2) (h : spec_IsGiftPath.f k l0 l1 l2 = some (r1, r2)) :
 Calls Try.prog 77 #[.slice A0 l0.length c0, .slice A1 l1.length c1, .slice A2 l2.length c2] w fun e w' => e = .returned (.tuple #[.bool r1, .bool r2]) ∧ Below w.heap.size w w' := by
 have HR0 := zad hr0; have HC0 := zad hc0; clear hr0 hc0; have HR1 := zad hr1; have HC1 := zad hc1; clear hr1 hc1; have HR2 := zad hr2; have HC2 := zad hc2; clear hr2 hc2; have HB := zad (Below.refl w.heap.size w)
 have H : ((spec_liGood.f k l0).bind fun t1533 => (if t1533 = true then ((spec_liGood.f k l1).bind fun t1534 => (if t1534 = true then ((spec_liFit.f k l0 l1).bind fun t1535 => (if t1535 = true then ((spec_giGifts.f k l1 l2).bind fun t1536 => (spec_IsGiftPath.j0 k l0 l1 l2 (!t1536))) else (spec_IsGiftPath.j0 k l0 l1 l2 true))) else (spec_IsGiftPath.j0 k l0 l1 l2 true))) else (spec_IsGiftPath.j0 k l0 l1 l2 true))) = some (r1, r2) := h
 clear h; have HC4 := zad H; clear H; go_enter Try.func77, Try.ntmps77
 go_upto_region 1 with (fail)
 go_cut [29] (fun v29 wc => ∃ (kq : Nat) (x29_3 : Bool), v29 = .bool x29_3 ∧ Aside0 (spec_IsGiftPath.j0 kq l0 l1 l2 x29_3 = some (r1, r2)) ∧ Aside0 (kq ≤ k) ∧ Aside0 (Below w.heap.size w wc))
 case first =>
  have H := HC4.out
  clear HC4; replace H := zay.mp H; obtain ⟨t1533, A50, H⟩ := H
  replace H : (if t1533 = true then ((spec_liGood.f k l1).bind fun t1534 => (if t1534 = true then ((spec_liFit.f k l0 l1).bind fun t1535 => (if t1535 = true then ((spec_giGifts.f k l1 l2).bind fun t1536 => (spec_IsGiftPath.j0 k l0 l1 l2 (!t1536))) else (spec_IsGiftPath.j0 k l0 l1 l2 true))) else (spec_IsGiftPath.j0 k l0 l1 l2 true))) else (spec_IsGiftPath.j0 k l0 l1 l2 true)) = some (r1, r2) := H
  have A5 := zad A50; clear A50; by_cases c6 : t1533 = true
  · subst c6
    have H1 : ((spec_liGood.f k l1).bind fun t1534 => (if t1534 = true then ((spec_liFit.f k l0 l1).bind fun t1535 => (if t1535 = true then ((spec_giGifts.f k l1 l2).bind fun t1536 => (spec_IsGiftPath.j0 k l0 l1 l2 (!t1536))) else (spec_IsGiftPath.j0 k l0 l1 l2 true))) else (spec_IsGiftPath.j0 k l0 l1 l2 true))) = some (r1, r2) := by rw [if_pos rfl] at H; exact H
    clear H; have H := H1; clear H1; replace H := zay.mp H; obtain ⟨t1534, A70, H⟩ := H
    replace H : (if t1534 = true then ((spec_liFit.f k l0 l1).bind fun t1535 => (if t1535 = true then ((spec_giGifts.f k l1 l2).bind fun t1536 => (spec_IsGiftPath.j0 k l0 l1 l2 (!t1536))) else (spec_IsGiftPath.j0 k l0 l1 l2 true))) else (spec_IsGiftPath.j0 k l0 l1 l2 true)) = some (r1, r2) := H
    have A7 := zad A70; clear A70; by_cases c8 : t1534 = true
    · subst c8
      have H1 : ((spec_liFit.f k l0 l1).bind fun t1535 => (if t1535 = true then ((spec_giGifts.f k l1 l2).bind fun t1536 => (spec_IsGiftPath.j0 k l0 l1 l2 (!t1536))) else (spec_IsGiftPath.j0 k l0 l1 l2 true))) = some (r1, r2) := by rw [if_pos rfl] at H; exact H
      clear H; have H := H1; clear H1; replace H := zay.mp H; obtain ⟨t1535, A90, H⟩ := H
      replace H : (if t1535 = true then ((spec_giGifts.f k l1 l2).bind fun t1536 => (spec_IsGiftPath.j0 k l0 l1 l2 (!t1536))) else (spec_IsGiftPath.j0 k l0 l1 l2 true)) = some (r1, r2) := H
      have A9 := zad A90; clear A90; by_cases c10 : t1535 = true
      · subst c10
        have H1 : ((spec_giGifts.f k l1 l2).bind fun t1536 => (spec_IsGiftPath.j0 k l0 l1 l2 (!t1536))) = some (r1, r2) := by rw [if_pos rfl] at H; exact H
        clear H; have H := H1; clear H1; replace H := zay.mp H; obtain ⟨t1536, A110, H⟩ := H
        replace H : (spec_IsGiftPath.j0 k l0 l1 l2 (!t1536)) = some (r1, r2) := H
        have A11 := zad A110; clear A110; have H' := zad H
        clear H; go_wp2_with (first | ((with_reducible refine zbf (f := 94) rfl ?_); refine zbn (some 11) rfl rfl Try.func94 (by kernel_rfl) rfl #[.slice A0 l0.length c0] rfl (taad) ?_; (with_reducible refine (spec_liGood.calls k _ _ l0 true _ ?side1 ?side2 A5.out).mono ?_); (case side1 => repeat (first | exact (Kd.C_below HR0.out HB.out) | (with_reducible refine zal ?_ _) | (with_reducible refine zam ?_ _) | (with_reducible refine zan ?_))); (case side2 => exact HC0.out); rintro e w' ⟨rfl, ⟨nd, rfl⟩⟩; refine ⟨_, rfl, ?_⟩) | (go_at_call 94; (with_reducible refine (spec_liGood.calls k _ _ l1 true _ ?side1 ?side2 A7.out).mono ?_); (case side1 => repeat (first | exact (Kd.C_below HR1.out (taaa)) | (with_reducible refine zal ?_ _) | (with_reducible refine zam ?_ _) | (with_reducible refine zan ?_))); (case side2 => exact HC1.out); rintro e w' ⟨rfl, ⟨nd, rfl⟩⟩) | (go_at_call 114; (with_reducible refine (spec_liFit.calls k _ _ l0 _ _ l1 true _ ?side1 ?side2 ?side3 ?side4 A9.out).mono ?_); (case side1 => repeat (first | exact (Kd.C_below HR0.out (taaa)) | (with_reducible refine zal ?_ _) | (with_reducible refine zam ?_ _) | (with_reducible refine zan ?_))); (case side2 => exact HC0.out); (case side3 => repeat (first | exact (Kd.C_below HR1.out (taaa)) | (with_reducible refine zal ?_ _) | (with_reducible refine zam ?_ _) | (with_reducible refine zan ?_))); (case side4 => exact HC1.out); rintro e w' ⟨rfl, ⟨nd, rfl⟩⟩) | (go_at_call 143; (with_reducible refine (spec_giGifts.calls k _ _ l1 _ _ l2 t1536 _ ?side1 ?side2 ?side3 ?side4 A11.out).mono ?_); (case side1 => repeat (first | exact (Kd.C_below HR1.out (taaa)) | (with_reducible refine zal ?_ _) | (with_reducible refine zam ?_ _) | (with_reducible refine zan ?_))); (case side2 => exact HC1.out); (case side3 => repeat (first | exact (Kd.C_below HR2.out (taaa)) | (with_reducible refine zal ?_ _) | (with_reducible refine zam ?_ _) | (with_reducible refine zan ?_))); (case side4 => exact HC2.out); rintro e w12 ⟨rfl, hb⟩; have n0_ := zad (zbe (taaa) hb); clear HB; have HB := n0_; clear n0_; (try clear hb); (try clear hb2); (try clear hk); (try clear hi)))
        go_meet
        case rel => exact ⟨_, (!t1536), (taag), H', ⟨tabd⟩, ⟨taaa⟩⟩
      · replace c10 := zbg.mpr c10
        subst c10; have H1 : (spec_IsGiftPath.j0 k l0 l1 l2 true) = some (r1, r2) := by rw [if_neg (show ¬ (false = true) by decide)] at H; exact H
        clear H; have H := H1; clear H1; have H' := zad H
        clear H; go_wp2_with (first | ((with_reducible refine zbf (f := 94) rfl ?_); refine zbn (some 11) rfl rfl Try.func94 (by kernel_rfl) rfl #[.slice A0 l0.length c0] rfl (taad) ?_; (with_reducible refine (spec_liGood.calls k _ _ l0 true _ ?side1 ?side2 A5.out).mono ?_); (case side1 => repeat (first | exact (Kd.C_below HR0.out HB.out) | (with_reducible refine zal ?_ _) | (with_reducible refine zam ?_ _) | (with_reducible refine zan ?_))); (case side2 => exact HC0.out); rintro e w' ⟨rfl, ⟨nd, rfl⟩⟩; refine ⟨_, rfl, ?_⟩) | (go_at_call 94; (with_reducible refine (spec_liGood.calls k _ _ l1 true _ ?side1 ?side2 A7.out).mono ?_); (case side1 => repeat (first | exact (Kd.C_below HR1.out (taaa)) | (with_reducible refine zal ?_ _) | (with_reducible refine zam ?_ _) | (with_reducible refine zan ?_))); (case side2 => exact HC1.out); rintro e w' ⟨rfl, ⟨nd, rfl⟩⟩) | (go_at_call 114; (with_reducible refine (spec_liFit.calls k _ _ l0 _ _ l1 false _ ?side1 ?side2 ?side3 ?side4 A9.out).mono ?_); (case side1 => repeat (first | exact (Kd.C_below HR0.out (taaa)) | (with_reducible refine zal ?_ _) | (with_reducible refine zam ?_ _) | (with_reducible refine zan ?_))); (case side2 => exact HC0.out); (case side3 => repeat (first | exact (Kd.C_below HR1.out (taaa)) | (with_reducible refine zal ?_ _) | (with_reducible refine zam ?_ _) | (with_reducible refine zan ?_))); (case side4 => exact HC1.out); rintro e w' ⟨rfl, ⟨nd, rfl⟩⟩))
        go_meet
        case rel => exact ⟨_, (true), (taag), H', ⟨tabd⟩, ⟨taaa⟩⟩
    · replace c8 := zbg.mpr c8
      subst c8; have H1 : (spec_IsGiftPath.j0 k l0 l1 l2 true) = some (r1, r2) := by rw [if_neg (show ¬ (false = true) by decide)] at H; exact H
      clear H; have H := H1; clear H1; have H' := zad H
      clear H; go_wp2_with (first | ((with_reducible refine zbf (f := 94) rfl ?_); refine zbn (some 11) rfl rfl Try.func94 (by kernel_rfl) rfl #[.slice A0 l0.length c0] rfl (taad) ?_; (with_reducible refine (spec_liGood.calls k _ _ l0 true _ ?side1 ?side2 A5.out).mono ?_); (case side1 => repeat (first | exact (Kd.C_below HR0.out HB.out) | (with_reducible refine zal ?_ _) | (with_reducible refine zam ?_ _) | (with_reducible refine zan ?_))); (case side2 => exact HC0.out); rintro e w' ⟨rfl, ⟨nd, rfl⟩⟩; refine ⟨_, rfl, ?_⟩) | (go_at_call 94; (with_reducible refine (spec_liGood.calls k _ _ l1 false _ ?side1 ?side2 A7.out).mono ?_); (case side1 => repeat (first | exact (Kd.C_below HR1.out (taaa)) | (with_reducible refine zal ?_ _) | (with_reducible refine zam ?_ _) | (with_reducible refine zan ?_))); (case side2 => exact HC1.out); rintro e w' ⟨rfl, ⟨nd, rfl⟩⟩))
      go_meet
      case rel => exact ⟨_, (true), (taag), H', ⟨tabd⟩, ⟨taaa⟩⟩
  · replace c6 := zbg.mpr c6
    subst c6; have H1 : (spec_IsGiftPath.j0 k l0 l1 l2 true) = some (r1, r2) := by rw [if_neg (show ¬ (false = true) by decide)] at H; exact H
    clear H; have H := H1; clear H1; have H' := zad H
    clear H; go_wp2_with (first | ((with_reducible refine zbf (f := 94) rfl ?_); refine zbn (some 11) rfl rfl Try.func94 (by kernel_rfl) rfl #[.slice A0 l0.length c0] rfl (taad) ?_; (with_reducible refine (spec_liGood.calls k _ _ l0 false _ ?side1 ?side2 A5.out).mono ?_); (case side1 => exact taev); (case side2 => exact HC0.out); rintro e w' ⟨rfl, ⟨nd, rfl⟩⟩; refine ⟨_, rfl, ?_⟩))
    go_meet
    case rel => exact ⟨_, (true), (taag), H', ⟨tabd⟩, ⟨taaa⟩⟩
 case rest =>
  clear HC4; try clear c1
  try clear c2
  try clear p2
  try clear c6
  try clear c7
  try clear c8
  try clear c9
  try clear c10
  obtain ⟨kq, x29_3, rfl, HA, HJ3, HB⟩ := hcut
  cases kq with
  | zero => exact absurd HA.out (by simp [spec_IsGiftPath.j0])
  | succ kj3 =>
   have H := HA.out
   clear HA; simp only [spec_IsGiftPath.j0] at H
   by_cases c13 : x29_3 = true
   · subst c13
     have H1 : (some (false, false)) = some (r1, r2) := by rw [if_pos rfl] at H; exact H
     clear H; have H := H1; clear H1; simp only [zbl, zbp] at H
     obtain ⟨rfl, rfl⟩ := H
     go_wp2
     go_ret2
     exact ⟨taah, taaa⟩
   · replace c13 := zbg.mpr c13
     subst c13; have H1 : ((spec_giFollow.f l1 l2).bind fun bt1537 => (if bt1537.2 = true then (if 0 ≤ (wrap64 ((bt1537.1.length : Int) - 1)) then (if (wrap64 ((bt1537.1.length : Int) - 1)) < (bt1537.1.length : Int) then ((spec_liRank.f kj3 l0).bind fun t1542 => ((spec_l1Same.f kj3 (rd_L2 bt1537.1 (wrap64 ((bt1537.1.length : Int) - 1))) t1542).bind fun t1545 => (some (t1545, true)))) else (none)) else (none)) else (some (false, true)))) = some (r1, r2) := by rw [if_neg (show ¬ (false = true) by decide)] at H; exact H
     clear H; have H := H1; clear H1; replace H := zay.mp H; obtain ⟨⟨t1537, t1538⟩, A140, H⟩ := H
     replace H : (if t1538 = true then (if 0 ≤ (wrap64 ((t1537.length : Int) - 1)) then (if (wrap64 ((t1537.length : Int) - 1)) < (t1537.length : Int) then ((spec_liRank.f kj3 l0).bind fun t1542 => ((spec_l1Same.f kj3 (rd_L2 t1537 (wrap64 ((t1537.length : Int) - 1))) t1542).bind fun t1545 => (some (t1545, true)))) else (none)) else (none)) else (some (false, true))) = some (r1, r2) := H
     have A14 := zad A140; clear A140; by_cases c15 : t1538 = true
     · subst c15
       have H1 : (if 0 ≤ (wrap64 ((t1537.length : Int) - 1)) then (if (wrap64 ((t1537.length : Int) - 1)) < (t1537.length : Int) then ((spec_liRank.f kj3 l0).bind fun t1542 => ((spec_l1Same.f kj3 (rd_L2 t1537 (wrap64 ((t1537.length : Int) - 1))) t1542).bind fun t1545 => (some (t1545, true)))) else (none)) else (none)) = some (r1, r2) := by rw [if_pos rfl] at H; exact H
       clear H; have H := H1; clear H1; obtain ⟨ji16, hji16⟩ : ∃ j_ : Int, (wrap64 ((t1537.length : Int) - 1)) = j_ := ⟨_, rfl⟩
       replace H : (if 0 ≤ (ji16) then (if (ji16) < (t1537.length : Int) then ((spec_liRank.f kj3 l0).bind fun t1542 => ((spec_l1Same.f kj3 (rd_L2 t1537 (ji16)) t1542).bind fun t1545 => (some (t1545, true)))) else (none)) else (none)) = some (r1, r2) := by first | (rw [hji16] at H; exact H) | (simp only [hji16] at H ⊢; exact H)
       (try rw [hji16] at A14)
       have hji16w : (IntKind.i64.wrap ((t1537.length : Int) - 1)) = ji16 := (zbw _).trans hji16
       by_cases c17 : 0 ≤ (ji16)
       · rw [if_pos c17] at H
         have c17b0 : decide (0 ≤ (ji16)) = true := zba c17
         clear c17; by_cases c18 : (ji16) < (t1537.length : Int)
         · rw [if_pos c18] at H
           have c18b0 : decide ((ji16) < (t1537.length : Int)) = true := zba c18
           clear c18; replace H := zay.mp H; obtain ⟨t1542, A190, H⟩ := H
           replace H : ((spec_l1Same.f kj3 (rd_L2 t1537 (ji16)) t1542).bind fun t1545 => (some (t1545, true))) = some (r1, r2) := H
           have A19 := zad A190; clear A190; replace H := zay.mp H; obtain ⟨t1545, A200, H⟩ := H
           replace H : (some (t1545, true)) = some (r1, r2) := H
           have A20 := zad A200; clear A200; simp only [zbl, zbp] at H
           obtain ⟨rfl, rfl⟩ := H
           try go_wp2_with (first | ((with_reducible refine zbf (f := 144) rfl ?_); refine zbn (some 33) rfl rfl Try.func144 (by kernel_rfl) rfl #[.slice A1 l1.length c1, .slice A2 l2.length c2] rfl (taad) ?_; (with_reducible refine (spec_giFollow.calls _ _ l1 _ _ l2 t1537 true _ ?side1 ?side2 ?side3 ?side4 A14.out).mono ?_); (case side1 => exact taff); (case side2 => exact HC1.out); (case side3 => exact tafg); (case side4 => exact HC2.out); rintro e w21 ⟨v1539, rfl, ho0, hb⟩; refine ⟨_, rfl, ?_⟩; have n0_ := zad (Kd.S_lower ho0 (zbk (taaa))); have n1_ := zad (zbe (taaa) hb); clear HB; have HO1540 := n0_; have HB := n1_; clear n0_ n1_; (try clear hb); (try clear hb2); (try clear hk); (try clear hi); (try clear ho0)))
           have n0_ := zad (Kd.S_drew HO1540.out)
           have n1_ := zad (zaf HB.out)
           clear HO1540 HB; have HO1540 := n0_; have HB := n1_; clear n0_ n1_; obtain ⟨Ao23, co23, eo23⟩ := Kd.S_slice HO1540.out
           (first | subst eo23 | (injection eo23 with f1_ f2_ f3_; have f4_ := f1_.symm; have f5_ := f3_.symm; clear f1_ f2_ f3_; subst f4_; subst f5_))
           have p1541 : 0 ≤ ((ji16) : Int) := zas (taab)
           have q1541 : (ji16) < (t1537.length : Int) := zas (taab)
           obtain ⟨ad1541, A1541_0, c1541_0, e1541, hx1541_0, hl1541_0, hi1541_0⟩ := at_L2 (Kd.S_reads' HO1540.out).2.2 (ji16) p1541 q1541
           cases e1541
           obtain ⟨ce1541, hce1541, hMe1541, hcc1541⟩ := Kd.S_get HO1540.out [] (ji16) p1541 (by first | exact q1541 | exact zas (taab) | (have e_ := (Kd.S_reads' HO1540.out).1; omega))
           obtain ⟨ve1541_0, rfl, ge1541_0⟩ := hMe1541
           have hv1541_0 := hcc1541 0 _ rfl
           rw [Nat.add_zero, show ((Kd.slice 3 (Kd.int .i64))).sz = 1 from rfl, Nat.mul_one] at hv1541_0
           replace hv1541_0 := zbc (hv1541_0.symm.trans hx1541_0)
           rw [hv1541_0] at ge1541_0
           have HL1541_0 := zad (show Kd.R (Kd.int .i64) 3 _ _ _ _ (rd_L2 t1537 (ji16)) from ge1541_0)
           clear hv1541_0 ge1541_0 hcc1541 hce1541; have HR1541_0 := zad hi1541_0; have HC1541_0 := zad hl1541_0; clear hi1541_0 hl1541_0; replace p1541 := eq_true p1541
           replace q1541 := eq_true q1541
           refine start_ (n := 14) (S := fun w' => w'.cell? (ad1541.add ((ji16)).toNat) = some (.slice A1541_0 (rd_L2 t1537 (ji16)).length c1541_0)) (ds := []) #[false, false, false, false, false, false, false, false, false, false, false, false, false, false] (by kernel_rfl) rfl rfl (hx1541_0) (fun hHeld => ?_); refine with_tabW spec_IsGiftPath.tab4 spec_IsGiftPath.bits4 (fun HT_ HW_ => ?_)
           generalize w21.drew = w22 at HO1540 HB HL1541_0 HR1541_0 hx1541_0 hHeld ⊢
           refine pure_ (i := 0) (N := some 36) (v := ?_) (a' := ?_) tajf rfl rfl (zby HT_.out (by kernel_rfl)) (fun _ _ _ h => h) (Or.inl ⟨by rfl, ?_⟩) ?_ ?_
           rotate_left
           · intro w'
             go_simp; with_reducible rfl
           rotate_left
           · simp only [Act.put, zaa, zab, zac, zbw, zbx]
             rfl
           refine pure_ (i := 1) (N := some 37) (v := ?_) (a' := ?_) tajg rfl rfl (zby HT_.out (by kernel_rfl)) (fun _ _ _ h => h) (Or.inl ⟨by rfl, ?_⟩) ?_ ?_
           rotate_left
           · intro w'
             go_simp; with_reducible rfl
           rotate_left
           · simp only [Act.put, zaa, zab, zac, zbw, zbx]
             rfl
           refine pure_ (i := 2) (N := some 38) (v := ?_) (a' := ?_) tajh rfl rfl (zby HT_.out (by kernel_rfl)) (fun _ _ _ h => h) (Or.inl ⟨by rfl, ?_⟩) ?_ ?_
           rotate_left
           · intro w'
             go_simp; with_reducible rfl
           rotate_left
           · simp only [Act.put, zaa, zab, zac, zbw, zbx]
             rfl
           refine pure_ (i := 3) (N := some 39) (v := ?_) (a' := ?_) taji rfl rfl (zby HT_.out (by kernel_rfl)) (fun _ _ _ h => h) (Or.inl ⟨by rfl, ?_⟩) ?_ ?_
           rotate_left
           · intro w'
             go_simp; with_reducible rfl
           rotate_left
           · simp only [Act.put, zaa, zab, zac, zbw, zbx]
             rfl
           refine pure_ (i := 4) (N := some 40) (v := ?_) (a' := ?_) tajj rfl rfl (zby HT_.out (by kernel_rfl)) (fun _ _ _ h => h) (Or.inl ⟨by rfl, ?_⟩) ?_ ?_
           rotate_left
           · intro w'
             go_simp; with_reducible rfl
           rotate_left
           · simp only [Act.put, zaa, zab, zac, zbw, zbx]
             rfl
           refine pure_ (i := 5) (N := some 41) (v := ?_) (a' := ?_) tajk rfl rfl (zby HT_.out (by kernel_rfl)) (fun _ _ _ h => h) (Or.inl ⟨by rfl, ?_⟩) ?_ ?_
           rotate_left
           · intro w'
             go_simp; with_reducible rfl
           rotate_left
           · simp only [Act.put, zaa, zab, zac, zbw, zbx]
             rfl
           refine pure_ (i := 6) (N := some 42) (v := ?_) (a' := ?_) tajl rfl rfl (zby HT_.out (by kernel_rfl)) (fun _ _ _ h => h) (Or.inl ⟨by rfl, ?_⟩) ?_ ?_
           rotate_left
           · intro w'
             go_simp; with_reducible rfl
           rotate_left
           · simp only [Act.put, zaa, zab, zac, zbw, zbx]
             rfl
           refine pure_ (i := 8) (N := some 44) (v := ?_) (a' := ?_) #[true, true, true, true, true, true, true, false, true, false, false, false, false, false] rfl rfl (zby HT_.out (by kernel_rfl)) (fun _ _ _ h => h) (Or.inl ⟨by rfl, ?_⟩) ?_ ?_
           rotate_left
           · intro w'
             go_simp; with_reducible rfl
           rotate_left
           · simp only [Act.put, zaa, zab, zac, zbw, zbx]
             rfl
           refine take_ (i := 7) (N := some 43) (v := ?_) (a' := ?_) tajm rfl rfl (zbz HT_.out HW_.out (by kernel_rfl)) (fun _ _ _ h => h) (Or.inl ⟨by rfl, ?_⟩) hHeld ?_ ?_
           rotate_left
           · intro w' s0
             go_simp; with_reducible rfl
           rotate_left
           · simp only [Act.put, zaa, zab, zac, zbw, zbx]
             rfl
           refine one_ (i := 9) (N := some 45) #[true, true, true, true, true, true, true, true, true, true, false, false, false, false] rfl rfl (one_of HT_.out (by kernel_rfl)) (by decide) (fun K hK => ?_)
           refine goes_ Try.func108 (by kernel_rfl) rfl #[.slice A0 l0.length c0] (by rfl) rfl rfl (taad) ?_
           with_reducible refine (spec_liRank.calls kj3 _ _ l0 t1542 _ ?side1 ?side2 A19.out).mono ?_
           (case side1 => exact taev)
           (case side2 => exact HC0.out)
           rintro e w24 ⟨v1543, rfl, ho0, hb⟩
           have HS0_ := (hb.cell (zaz _ _ (hHeld))).trans (hHeld)
           refine ⟨_, rfl, ?_⟩
           have n0_ := zad (Kd.S_elder' (by (with_reducible repeat (first | apply Kd.S_alloc | apply Kd.S_drewN | apply Kd.S_drew)); exact HO1540.out) (zcd ho0) hb)
           have n1_ := zad (zcb (by (with_reducible repeat (first | apply zai | apply zaj | apply zak)); exact HL1541_0.out) (zcd ho0) hb)
           have n2_ := zad (zbu (zcc ho0 (zce (by (with_reducible repeat (first | apply zai | apply zaj | apply zak)); exact HL1541_0.out))) (zbk (taaa)))
           have n3_ := zad (Kd.C_below (tadz) hb)
           have n4_ := zad (zbe (taaa) hb)
           clear HO1540 HL1541_0 HR1541_0 HB; have HO1540 := n0_; have HL1541_0 := n1_; have HO1544 := n2_; have HR1541_0 := n3_; have HB := n4_; clear n0_ n1_ n2_ n3_ n4_; (try clear hb); (try clear hb2); (try clear hk); (try clear hi); (try clear ho0); obtain ⟨Ao25, co25, eo25⟩ := zbv HO1544.out
           (first | subst eo25 | (injection eo25 with f1_ f2_ f3_; have f4_ := f1_.symm; have f5_ := f3_.symm; clear f1_ f2_ f3_; subst f4_; subst f5_))
           refine hK.out _ _ (HS0_) (fun hHeld => ?_)
           clear hK K; refine norm_ (a' := ?_) ?_ ?_
           rotate_left
           · show Act.put _ (some 45) _ = _
             simp only [Act.put, zaa, zab, zac, zbw, zbx]
             rfl
           refine one_ (i := 10) (N := some 46) #[true, true, true, true, true, true, true, true, true, true, true, false, false, false] rfl rfl (one_of HT_.out (by kernel_rfl)) (by decide) (fun K hK => ?_)
           refine goes_ Try.func118 (by kernel_rfl) rfl #[.slice A1541_0 (rd_L2 t1537 (ji16)).length c1541_0, .slice Ao25 t1542.length co25] (by rfl) rfl rfl (by (try simp only [zat, zau, zav]); first | done | (simp only [hji16]; rfl) | rfl | (simp only [zaw, zax]; rfl)) ?_
           with_reducible refine (spec_l1Same.calls kj3 _ _ (rd_L2 t1537 (ji16)) _ _ t1542 t1545 _ ?side1 ?side2 ?side3 ?side4 A20.out).mono ?_
           (case side1 => repeat (first | exact (tadz) | (with_reducible refine zal ?_ _) | (with_reducible refine zam ?_ _) | (with_reducible refine zan ?_)))
           (case side2 => exact HC1541_0.out)
           (case side3 => repeat (first | exact (zbd HO1544.out).2.2 | (with_reducible refine zal ?_ _) | (with_reducible refine zam ?_ _) | (with_reducible refine zan ?_)))
           (case side4 => exact (zbd HO1544.out).2.1)
           rintro e w' ⟨rfl, ⟨nd, rfl⟩⟩
           refine ⟨_, rfl, ?_⟩
           refine hK.out _ _ (hHeld) (fun hHeld => ?_)
           clear hK K; refine norm_ (a' := ?_) ?_ ?_
           rotate_left
           · show Act.put _ (some 46) _ = _
             simp only [Act.put, zaa, zab, zac, zbw, zbx]
             rfl
           refine pure_ (i := 11) (N := some 47) (v := ?_) (a' := ?_) tajn rfl rfl (zby HT_.out (by kernel_rfl)) (fun _ _ _ h => h) (Or.inl ⟨by rfl, ?_⟩) ?_ ?_
           rotate_left
           · intro w'
             go_simp; with_reducible rfl
           rotate_left
           · simp only [Act.put, zaa, zab, zac, zbw, zbx]
             rfl
           refine pure_ (i := 12) (N := some 6) (v := ?_) (a' := ?_) tajo rfl rfl (zby HT_.out (by kernel_rfl)) (fun _ _ _ h => h) (Or.inl ⟨by rfl, ?_⟩) ?_ ?_
           rotate_left
           · intro w'
             go_simp; with_reducible rfl
           rotate_left
           · simp only [Act.put, zaa, zab, zac, zbw, zbx]
             rfl
           refine pure_ (i := 13) (N := some 7) (v := ?_) (a' := ?_) tajp rfl rfl (zby HT_.out (by kernel_rfl)) (fun _ _ _ h => h) (Or.inl ⟨by rfl, ?_⟩) ?_ ?_
           rotate_left
           · intro w'
             go_simp; with_reducible rfl
           rotate_left
           · simp only [Act.put, zaa, zab, zac, zbw, zbx]
             rfl
           refine done_ (done_of HT_.out (by kernel_rfl)) ?_
           try go_wp2
           go_ret2
           exact ⟨by first | rfl | (simp [errW_none, errW_some] <;> rfl) | (simp only [← hji16]; first | rfl | (simp [errW_none, errW_some] <;> rfl)) | (simp [*, errW_none, errW_some] <;> rfl), taaa⟩
         · rw [if_neg c18] at H
           exact absurd H (taac)
       · rw [if_neg c17] at H
         exact absurd H (taac)
     · replace c15 := zbg.mpr c15
       subst c15; have H1 : (some (false, true)) = some (r1, r2) := by rw [if_neg (show ¬ (false = true) by decide)] at H; exact H
       clear H; have H := H1; clear H1; simp only [zbl, zbp] at H
       obtain ⟨rfl, rfl⟩ := H
       try go_wp2_with (first | ((with_reducible refine zbf (f := 144) rfl ?_); refine zbn (some 33) rfl rfl Try.func144 (by kernel_rfl) rfl #[.slice A1 l1.length c1, .slice A2 l2.length c2] rfl (taad) ?_; (with_reducible refine (spec_giFollow.calls _ _ l1 _ _ l2 t1537 false _ ?side1 ?side2 ?side3 ?side4 A14.out).mono ?_); (case side1 => exact taff); (case side2 => exact HC1.out); (case side3 => exact tafg); (case side4 => exact HC2.out); rintro e w26 ⟨v1539, rfl, ho0, hb⟩; refine ⟨_, rfl, ?_⟩; have n0_ := zad (Kd.S_lower ho0 (zbk (taaa))); have n1_ := zad (zbe (taaa) hb); clear HB; have HO1540 := n0_; have HB := n1_; clear n0_ n1_; (try clear hb); (try clear hb2); (try clear hk); (try clear hi); (try clear ho0)))
       have n0_ := zad (Kd.S_drew HO1540.out)
       have n1_ := zad (zaf HB.out)
       clear HO1540 HB; have HO1540 := n0_; have HB := n1_; clear n0_ n1_; refine start_ (n := 14) (S := fun w' => True) (ds := []) #[false, false, false, false, false, false, false, false, false, false, false, false, false, false] (by kernel_rfl) rfl rfl trivial (fun hHeld => ?_); refine with_tabW spec_IsGiftPath.tab4 spec_IsGiftPath.bits4 (fun HT_ HW_ => ?_)
       generalize w26.drew = w27 at HO1540 HB hHeld ⊢
       refine pure_ (i := 0) (N := some 36) (v := ?_) (a' := ?_) tajf rfl rfl (zby HT_.out (by kernel_rfl)) (fun _ _ _ h => h) (Or.inl ⟨by rfl, ?_⟩) ?_ ?_
       rotate_left
       · intro w'
         go_simp; with_reducible rfl
       rotate_left
       · simp only [Act.put, zaa, zab, zac, zbw, zbx]
         rfl
       refine pure_ (i := 1) (N := some 37) (v := ?_) (a' := ?_) tajg rfl rfl (zby HT_.out (by kernel_rfl)) (fun _ _ _ h => h) (Or.inl ⟨by rfl, ?_⟩) ?_ ?_
       rotate_left
       · intro w'
         go_simp; with_reducible rfl
       rotate_left
       · simp only [Act.put, zaa, zab, zac, zbw, zbx]
         rfl
       refine pure_ (i := 2) (N := some 38) (v := undef) (a' := ?_) tajh rfl rfl (zby HT_.out (by kernel_rfl)) (fun _ _ _ h => h) (Or.inr ⟨by rfl, rfl⟩) ?_ ?_
       rotate_left
       · simp only [Act.put, zaa, zab, zac, zbw, zbx]
         rfl
       refine pure_ (i := 3) (N := some 39) (v := undef) (a' := ?_) taji rfl rfl (zby HT_.out (by kernel_rfl)) (fun _ _ _ h => h) (Or.inr ⟨by rfl, rfl⟩) ?_ ?_
       rotate_left
       · simp only [Act.put, zaa, zab, zac, zbw, zbx]
         rfl
       refine pure_ (i := 4) (N := some 40) (v := undef) (a' := ?_) tajj rfl rfl (zby HT_.out (by kernel_rfl)) (fun _ _ _ h => h) (Or.inr ⟨by rfl, rfl⟩) ?_ ?_
       rotate_left
       · simp only [Act.put, zaa, zab, zac, zbw, zbx]
         rfl
       refine pure_ (i := 5) (N := some 41) (v := undef) (a' := ?_) tajk rfl rfl (zby HT_.out (by kernel_rfl)) (fun _ _ _ h => h) (Or.inr ⟨by rfl, rfl⟩) ?_ ?_
       rotate_left
       · simp only [Act.put, zaa, zab, zac, zbw, zbx]
         rfl
       refine pure_ (i := 6) (N := some 42) (v := undef) (a' := ?_) tajl rfl rfl (zby HT_.out (by kernel_rfl)) (fun _ _ _ h => h) (Or.inr ⟨by rfl, rfl⟩) ?_ ?_
       rotate_left
       · simp only [Act.put, zaa, zab, zac, zbw, zbx]
         rfl
       refine pure_ (i := 7) (N := some 43) (v := undef) (a' := ?_) #[true, true, true, true, true, true, true, true, false, false, false, false, false, false] rfl rfl (zby HT_.out (by kernel_rfl)) (fun _ _ _ h => h) (Or.inr ⟨by rfl, rfl⟩) ?_ ?_
       rotate_left
       · simp only [Act.put, zaa, zab, zac, zbw, zbx]
         rfl
       refine pure_ (i := 8) (N := some 44) (v := undef) (a' := ?_) tajm rfl rfl (zby HT_.out (by kernel_rfl)) (fun _ _ _ h => h) (Or.inr ⟨by rfl, rfl⟩) ?_ ?_
       rotate_left
       · simp only [Act.put, zaa, zab, zac, zbw, zbx]
         rfl
       refine pure_ (i := 9) (N := some 45) (v := undef) (a' := ?_) #[true, true, true, true, true, true, true, true, true, true, false, false, false, false] rfl rfl (zby HT_.out (by kernel_rfl)) (fun _ _ _ h => h) (Or.inr ⟨by rfl, rfl⟩) ?_ ?_
       rotate_left
       · simp only [Act.put, zaa, zab, zac, zbw, zbx]
         rfl
       refine pure_ (i := 10) (N := some 46) (v := undef) (a' := ?_) #[true, true, true, true, true, true, true, true, true, true, true, false, false, false] rfl rfl (zby HT_.out (by kernel_rfl)) (fun _ _ _ h => h) (Or.inr ⟨by rfl, rfl⟩) ?_ ?_
       rotate_left
       · simp only [Act.put, zaa, zab, zac, zbw, zbx]
         rfl
       refine pure_ (i := 11) (N := some 47) (v := ?_) (a' := ?_) tajn rfl rfl (zby HT_.out (by kernel_rfl)) (fun _ _ _ h => h) (Or.inl ⟨by rfl, ?_⟩) ?_ ?_
       rotate_left
       · intro w'
         go_simp; with_reducible rfl
       rotate_left
       · simp only [Act.put, zaa, zab, zac, zbw, zbx]
         rfl
       refine pure_ (i := 12) (N := some 6) (v := ?_) (a' := ?_) tajo rfl rfl (zby HT_.out (by kernel_rfl)) (fun _ _ _ h => h) (Or.inl ⟨by rfl, ?_⟩) ?_ ?_
       rotate_left
       · intro w'
         go_simp; with_reducible rfl
       rotate_left
       · simp only [Act.put, zaa, zab, zac, zbw, zbx]
         rfl
       refine pure_ (i := 13) (N := some 7) (v := ?_) (a' := ?_) tajp rfl rfl (zby HT_.out (by kernel_rfl)) (fun _ _ _ h => h) (Or.inl ⟨by rfl, ?_⟩) ?_ ?_
       rotate_left
       · intro w'
         go_simp; with_reducible rfl
       rotate_left
       · simp only [Act.put, zaa, zab, zac, zbw, zbx]
         rfl
       refine done_ (done_of HT_.out (by kernel_rfl)) ?_
       try go_wp2
       go_ret2
       exact ⟨taah, taaa⟩
mutual
def spec_DrawFollowGifts.j0 : Nat → List Int → List Int → Bool → List Int → Int → Int → Option (List Int × (List (S39)))
 | 0, _, _, _, _, _, _ => none
 | k + 1, x5, x6, x24, x1547000, x1547001, x1547002 => if x24 = true then ((spec_l1Cur_one.f x1547000 x1547001 x1547002 2).bind fun bt1559 => ((spec_giPath.f k x5 x6 bt1559.1).bind fun t1562 => (some (x6, t1562)))) else ((spec_l1Cur_pick.f x1547000 x1547001 x1547002 4).bind fun bt1565 => (spec_DrawFollowGifts.l0 k x6 ([] : List (S39)) bt1565.1 x1547000 bt1565.2.1 bt1565.2.2))
def spec_DrawFollowGifts.l0 : Nat → List Int → List (S39) → Int → List Int → Int → Int → Option (List Int × (List (S39)))
 | 0, _, _, _, _, _, _ => none
 | k + 1, x6, x7, x8, x1547000, x1547001, x1547002 => if x8 > 0 then ((spec_l1Cur_gift.f x1547000 x1547001 x1547002 x6).bind fun bt1568 => (if x7.length < 5864062014805 then (spec_DrawFollowGifts.l0 k x6 (x7 ++ [(⟨bt1568.1, bt1568.2.1, bt1568.2.2.1⟩ : S39)]) (wrap64 (x8 - 1)) x1547000 bt1568.2.2.2.1 bt1568.2.2.2.2) else (none))) else (some (x6, x7))
end
def spec_DrawFollowGifts.f (k : Nat) (l0 : List Int) : Option (List Int × (List (S39))) := (spec_l1Cur_majorized.f k l0 0 0 9).bind fun bt1547 => ((spec_giLists.f k bt1547.1 bt1547.2.1).bind fun t1555 => (if t1555 = true then ((spec_l1Cur_one.f l0 bt1547.2.2.1 bt1547.2.2.2 4).bind fun bt1556 => (spec_DrawFollowGifts.j0 k bt1547.1 bt1547.2.1 (!bt1556.1) l0 bt1556.2.1 bt1556.2.2)) else (spec_DrawFollowGifts.j0 k bt1547.1 bt1547.2.1 false l0 bt1547.2.2.1 bt1547.2.2.2)))
theorem spec_DrawFollowGifts.calls (k : Nat) (A0 : Option Addr) (c0 : Nat) (l0 : List Int) (r1 : List Int) (r2 : List (S39)) (w : World) (hr0 : Kd.C (Kd.int .u8) w A0 l0.length l0) (hc0 : l0.length ≤ c0) (h : spec_DrawFollowGifts.f k l0 = some (r1, r2)) :
 Calls Try.prog 78 #[.slice A0 l0.length c0] w fun e w' => ∃ v0_ v1_ : Value, e = .returned (.tuple #[v0_, v1_]) ∧ Kd.R (Kd.int .i64) 3 w' w.heap.size (fun _ => True) v0_ r1 ∧ Kd.R k39 39 w' w.heap.size (fun _ => True) v1_ r2 ∧ Below w.heap.size w w' := by
 have hu75 := Try.underlying75
 have HR0 := zad hr0; have HC0 := zad hc0; clear hr0 hc0; have HB := zad (Below.refl w.heap.size w)
 have H : ((spec_l1Cur_majorized.f k l0 0 0 9).bind fun bt1547 => ((spec_giLists.f k bt1547.1 bt1547.2.1).bind fun t1555 => (if t1555 = true then ((spec_l1Cur_one.f l0 bt1547.2.2.1 bt1547.2.2.2 4).bind fun bt1556 => (spec_DrawFollowGifts.j0 k bt1547.1 bt1547.2.1 (!bt1556.1) l0 bt1556.2.1 bt1556.2.2)) else (spec_DrawFollowGifts.j0 k bt1547.1 bt1547.2.1 false l0 bt1547.2.2.1 bt1547.2.2.2)))) = some (r1, r2) := h
 clear h; replace H := zay.mp H; obtain ⟨⟨t1547, t1550, t1553, t1554⟩, A20, H⟩ := H
 replace H : ((spec_giLists.f k t1547 t1550).bind fun t1555 => (if t1555 = true then ((spec_l1Cur_one.f l0 t1553 t1554 4).bind fun bt1556 => (spec_DrawFollowGifts.j0 k t1547 t1550 (!bt1556.1) l0 bt1556.2.1 bt1556.2.2)) else (spec_DrawFollowGifts.j0 k t1547 t1550 false l0 t1553 t1554))) = some (r1, r2) := H
 have A2 := zad A20; clear A20; have HC3 := zad H; clear H; go_enter Try.func78, Try.ntmps78
 go_upto_region 3 with (first | ((with_reducible refine gate_dst (N := 11) rfl ?_); refine box_event ?hg (N := 11) ?hd (cs := #[.slice A0 l0.length c0, .int .i64 0, .int .u64 0]) (t := 75) ?hr ?_; (case hd => rfl); (case hg => rfl); (case hr => first | (go_simp; done) | (go_simp; rfl)); intro gb1546 hg w4 hbox hb; have n0_ := zad (zbe (taaa) hb); have n1_ := zad ((show IsS75 w w4 gb1546 l0 0 0 from ⟨_, _, hbox, (taee), HR0.out⟩)); clear HB; have HB := n0_; have HI1546 := n1_; clear n0_ n1_ hb hbox hg) | ((with_reducible refine zbf (f := 127) rfl ?_); refine zbn (some 14) rfl rfl Try.func127 (by kernel_rfl) rfl #[.pointer (some ⟨gb1546, 0, none⟩), .int .i64 9] rfl (taad) ?_; (with_reducible refine (spec_l1Cur_majorized.calls k gb1546 l0 0 0 9 t1547 t1550 t1553 t1554 w _ ?side1 ?side2 A2.out).mono ?_); (case side1 => exact tafa); (case side2 => exact tafb); rintro e w5 ⟨v1548, v1551, rfl, ho0, ho1, hi, hb, hk⟩; refine ⟨_, rfl, ?_⟩; have n0_ := zad (zbu ho0 (zbk (taaz))); have n1_ := zad (zbu ho1 (zbk (taaz))); have n2_ := zad (hb); have n3_ := zad (hi); clear HB HI1546; have HO1549 := n0_; have HO1552 := n1_; have HB := n2_; have HI1546 := n3_; clear n0_ n1_ n2_ n3_; (try clear hb); (try clear hb2); (try clear hk); (try clear hi); (try clear ho0); (try clear ho1)))
 (try simp only [Act.put, zaa, zab, zac])
 go_cut [24] (fun v24 wc => ∃ (kq : Nat) (x24_2 : Bool) (x1547001_2 : Int) (x1547002_2 : Int), v24 = .bool x24_2 ∧ Aside0 (spec_DrawFollowGifts.j0 kq t1547 t1550 x24_2 l0 x1547001_2 x1547002_2 = some (r1, r2)) ∧ Aside0 (kq ≤ k) ∧ Aside0 (Kd.R (Kd.int .i64) 3 wc w.heap.size (fun k_ => some k_ ≠ (v1551 : Value).ownBlock) v1548 t1547) ∧ Aside0 (Kd.R (Kd.int .i64) 3 wc w.heap.size (fun k_ => some k_ ≠ (v1548 : Value).ownBlock) v1551 t1550) ∧ Aside0 (IsS75 w wc gb1546 l0 x1547001_2 x1547002_2) ∧ Aside0 (Below w.heap.size w wc))
 case first =>
  have H := HC3.out
  clear HC3; replace H := zay.mp H; obtain ⟨t1555, A60, H⟩ := H
  replace H : (if t1555 = true then ((spec_l1Cur_one.f l0 t1553 t1554 4).bind fun bt1556 => (spec_DrawFollowGifts.j0 k t1547 t1550 (!bt1556.1) l0 bt1556.2.1 bt1556.2.2)) else (spec_DrawFollowGifts.j0 k t1547 t1550 false l0 t1553 t1554)) = some (r1, r2) := H
  have A6 := zad A60; clear A60; by_cases c7 : t1555 = true
  · subst c7
    have H1 : ((spec_l1Cur_one.f l0 t1553 t1554 4).bind fun bt1556 => (spec_DrawFollowGifts.j0 k t1547 t1550 (!bt1556.1) l0 bt1556.2.1 bt1556.2.2)) = some (r1, r2) := by rw [if_pos rfl] at H; exact H
    clear H; have H := H1; clear H1; replace H := zay.mp H; obtain ⟨⟨t1556, t1557, t1558⟩, A80, H⟩ := H
    replace H : (spec_DrawFollowGifts.j0 k t1547 t1550 (!t1556) l0 t1557 t1558) = some (r1, r2) := H
    have A8 := zad A80; clear A80; have H' := zad H
    clear H; obtain ⟨Ao9, co9, eo9⟩ := zbv HO1549.out
    subst eo9; obtain ⟨Ao10, co10, eo10⟩ := zbv HO1552.out
    subst eo10; go_wp2_with (first | ((with_reducible refine zbf (f := 130) rfl ?_); refine zbn (some 19) rfl rfl Try.func130 (by kernel_rfl) rfl #[.slice Ao9 t1547.length co9, .slice Ao10 t1550.length co10] rfl (taad) ?_; (with_reducible refine (spec_giLists.calls k _ _ t1547 _ _ t1550 true _ ?side1 ?side2 ?side3 ?side4 A6.out).mono ?_); (case side1 => repeat (first | exact (zbd HO1549.out).2.2 | (with_reducible refine zal ?_ _) | (with_reducible refine zam ?_ _) | (with_reducible refine zan ?_))); (case side2 => exact (zbd HO1549.out).2.1); (case side3 => repeat (first | exact (zbd HO1552.out).2.2 | (with_reducible refine zal ?_ _) | (with_reducible refine zam ?_ _) | (with_reducible refine zan ?_))); (case side4 => exact (zbd HO1552.out).2.1); rintro e w11 ⟨rfl, hb⟩; refine ⟨_, rfl, ?_⟩; have n0_ := zad (zbt (tacg) hb); have n1_ := zad (zbt (tach) hb); have n2_ := zad (IsS75.below (taaw) hb); have n3_ := zad (zbe (taaz) hb); clear HO1549 HO1552 HI1546 HB; have HO1549 := n0_; have HO1552 := n1_; have HI1546 := n2_; have HB := n3_; clear n0_ n1_ n2_ n3_; (try clear hb); (try clear hb2); (try clear hk); (try clear hi)) | (go_at_call 89; (with_reducible refine (spec_l1Cur_one.calls gb1546 l0 t1553 t1554 4 t1556 t1557 t1558 w _ ?side1 ?side2 A8.out).mono ?_); (case side1 => repeat (first | (with_reducible first | exact HI1546.out | apply zcg | apply zch | apply zci | apply zcn | apply zco) | exact HI1546.out)); (case side2 => repeat (first | (with_reducible first | exact HB.out | apply zag | apply zae | apply zaf | refine zah ?_ (zcl HI1546.out)) | exact HB.out)); rintro e w12 ⟨rfl, hi, hb, hk⟩; have n0_ := zad (zbq (zbr (zcj (show IsS75 w _ gb1546 l0 t1553 t1554 from by exact taaw) (tacg) (by decide)) hk (fun _ h => h.2)) (fun _ h => h.1)); have n1_ := zad (zbq (zbr (zcj (show IsS75 w _ gb1546 l0 t1553 t1554 from by exact taaw) (tach) (by decide)) hk (fun _ h => h.2)) (fun _ h => h.1)); have n2_ := zad (hb); have n3_ := zad (hi); clear HO1549 HO1552 HB HI1546; have HO1549 := n0_; have HO1552 := n1_; have HB := n2_; have HI1546 := n3_; clear n0_ n1_ n2_ n3_; (try clear hb); (try clear hb2); (try clear hk); (try clear hi)))
    go_meet
    case rel => exact ⟨_, (!t1556), (t1557), (t1558), (taag), H', ⟨tabd⟩, ⟨tacg⟩, ⟨tach⟩, ⟨taaw⟩, ⟨taaz⟩⟩
  · replace c7 := zbg.mpr c7
    subst c7; have H1 : (spec_DrawFollowGifts.j0 k t1547 t1550 false l0 t1553 t1554) = some (r1, r2) := by rw [if_neg (show ¬ (false = true) by decide)] at H; exact H
    clear H; have H := H1; clear H1; have H' := zad H
    clear H; obtain ⟨Ao13, co13, eo13⟩ := zbv HO1549.out
    subst eo13; obtain ⟨Ao14, co14, eo14⟩ := zbv HO1552.out
    subst eo14; go_wp2_with (first | ((with_reducible refine zbf (f := 130) rfl ?_); refine zbn (some 19) rfl rfl Try.func130 (by kernel_rfl) rfl #[.slice Ao13 t1547.length co13, .slice Ao14 t1550.length co14] rfl (taad) ?_; (with_reducible refine (spec_giLists.calls k _ _ t1547 _ _ t1550 false _ ?side1 ?side2 ?side3 ?side4 A6.out).mono ?_); (case side1 => repeat (first | exact (zbd HO1549.out).2.2 | (with_reducible refine zal ?_ _) | (with_reducible refine zam ?_ _) | (with_reducible refine zan ?_))); (case side2 => exact (zbd HO1549.out).2.1); (case side3 => repeat (first | exact (zbd HO1552.out).2.2 | (with_reducible refine zal ?_ _) | (with_reducible refine zam ?_ _) | (with_reducible refine zan ?_))); (case side4 => exact (zbd HO1552.out).2.1); rintro e w15 ⟨rfl, hb⟩; refine ⟨_, rfl, ?_⟩; have n0_ := zad (zbt (tacg) hb); have n1_ := zad (zbt (tach) hb); have n2_ := zad (IsS75.below (taaw) hb); have n3_ := zad (zbe (taaz) hb); clear HO1549 HO1552 HI1546 HB; have HO1549 := n0_; have HO1552 := n1_; have HI1546 := n2_; have HB := n3_; clear n0_ n1_ n2_ n3_; (try clear hb); (try clear hb2); (try clear hk); (try clear hi)))
    go_meet
    case rel => exact ⟨_, (false), (t1553), (t1554), (taag), H', ⟨tabd⟩, ⟨tacg⟩, ⟨tach⟩, ⟨taaw⟩, ⟨taaz⟩⟩
 case rest =>
  clear HC3; try clear c1
  try clear p2
  try clear c7
  try clear c12
  try clear c13
  obtain ⟨kq, x24_2, x1547001_2, x1547002_2, rfl, HA, HJ2, HO_5, HO_6, HI1546, HB⟩ := hcut
  cases kq with
  | zero => exact absurd HA.out (by simp [spec_DrawFollowGifts.j0])
  | succ kj2 =>
   have H := HA.out
   clear HA; simp only [spec_DrawFollowGifts.j0] at H
   by_cases c16 : x24_2 = true
   · subst c16
     have H1 : ((spec_l1Cur_one.f l0 x1547001_2 x1547002_2 2).bind fun bt1559 => ((spec_giPath.f kj2 t1547 t1550 bt1559.1).bind fun t1562 => (some (t1550, t1562)))) = some (r1, r2) := by rw [if_pos rfl] at H; exact H
     clear H; have H := H1; clear H1; replace H := zay.mp H; obtain ⟨⟨t1559, t1560, t1561⟩, A170, H⟩ := H
     replace H : ((spec_giPath.f kj2 t1547 t1550 t1559).bind fun t1562 => (some (t1550, t1562))) = some (r1, r2) := H
     have A17 := zad A170; clear A170; replace H := zay.mp H; obtain ⟨t1562, A180, H⟩ := H
     replace H : (some (t1550, t1562)) = some (r1, r2) := H
     have A18 := zad A180; clear A180; simp only [zbl, zbp] at H
     obtain ⟨rfl, rfl⟩ := H
     go_wp2_with (first | ((with_reducible refine zbf (f := 89) rfl ?_); refine zbn (some 29) rfl rfl Try.func89 (by kernel_rfl) rfl #[.pointer (some ⟨gb1546, 0, none⟩), .int .i64 2] rfl (taad) ?_; (with_reducible refine (spec_l1Cur_one.calls gb1546 l0 x1547001_2 x1547002_2 2 t1559 t1560 t1561 w _ ?side1 ?side2 A17.out).mono ?_); (case side1 => repeat (first | (with_reducible first | exact HI1546.out | apply zcg | apply zch | apply zci | apply zcn | apply zco) | exact HI1546.out)); (case side2 => repeat (first | (with_reducible first | exact HB.out | apply zag | apply zae | apply zaf | refine zah ?_ (zcl HI1546.out)) | exact HB.out)); rintro e w19 ⟨rfl, hi, hb, hk⟩; refine ⟨_, rfl, ?_⟩; have n0_ := zad (zbq (zbr (zcj (show IsS75 w _ gb1546 l0 x1547001_2 x1547002_2 from by exact taaw) (taao) (by decide)) hk (fun _ h => h.2)) (fun _ h => h.1)); have n1_ := zad (zbq (zbr (zcj (show IsS75 w _ gb1546 l0 x1547001_2 x1547002_2 from by exact taaw) (taaj) (by decide)) hk (fun _ h => h.2)) (fun _ h => h.1)); have n2_ := zad (hb); have n3_ := zad (hi); clear HO_5 HO_6 HB HI1546; have HO_5 := n0_; have HO_6 := n1_; have HB := n2_; have HI1546 := n3_; clear n0_ n1_ n2_ n3_; (try clear hb); (try clear hb2); (try clear hk); (try clear hi); obtain ⟨Ao20, co20, eo20⟩ := zbv HO_5.out; subst eo20; obtain ⟨Ao21, co21, eo21⟩ := zbv HO_6.out; subst eo21) | ((with_reducible refine zbf (f := 131) rfl ?_); refine zbn (some 30) rfl rfl Try.func131 (by kernel_rfl) rfl #[.slice Ao20 t1547.length co20, .slice Ao21 t1550.length co21, .bool t1559] rfl (taad) ?_; (with_reducible refine (spec_giPath.calls kj2 _ _ t1547 _ _ t1550 t1559 t1562 _ ?side1 ?side2 ?side3 ?side4 A18.out).mono ?_); (case side1 => repeat (first | exact (zbd HO_5.out).2.2 | (with_reducible refine zal ?_ _) | (with_reducible refine zam ?_ _) | (with_reducible refine zan ?_))); (case side2 => exact (zbd HO_5.out).2.1); (case side3 => repeat (first | exact (zbd HO_6.out).2.2 | (with_reducible refine zal ?_ _) | (with_reducible refine zam ?_ _) | (with_reducible refine zan ?_))); (case side4 => exact (zbd HO_6.out).2.1); rintro e w22 ⟨v1563, rfl, ho0, hb⟩; refine ⟨_, rfl, ?_⟩; have n0_ := zad (zbt (taao) hb); have n1_ := zad (zbt (taaj) hb); have n2_ := zad (zbu ho0 (zbk (taaz))); have n3_ := zad (IsS75.below (taaw) hb); have n4_ := zad (zbe (taaz) hb); clear HO_5 HO_6 HI1546 HB; have HO_5 := n0_; have HO_6 := n1_; have HO1564 := n2_; have HI1546 := n3_; have HB := n4_; clear n0_ n1_ n2_ n3_ n4_; (try clear hb); (try clear hb2); (try clear hk); (try clear hi); (try clear ho0)))
     go_ret2
     exact ⟨_, _, taah, by (with_reducible repeat (first | apply zai | apply zaj | apply zak)); exact zbq HO_6.out (fun _ hk => trivial), by (with_reducible repeat (first | apply zai | apply zaj | apply zak)); exact HO1564.out, taaz⟩
   · replace c16 := zbg.mpr c16
     subst c16; have H1 : ((spec_l1Cur_pick.f l0 x1547001_2 x1547002_2 4).bind fun bt1565 => (spec_DrawFollowGifts.l0 kj2 t1550 ([] : List (S39)) bt1565.1 l0 bt1565.2.1 bt1565.2.2)) = some (r1, r2) := by rw [if_neg (show ¬ (false = true) by decide)] at H; exact H
     clear H; have H := H1; clear H1; replace H := zay.mp H; obtain ⟨⟨t1565, t1566, t1567⟩, A230, H⟩ := H
     replace H : (spec_DrawFollowGifts.l0 kj2 t1550 ([] : List (S39)) t1565 l0 t1566 t1567) = some (r1, r2) := H
     have A23 := zad A230; clear A230; have H' := zad H
     clear H; go_wp2_with (first | ((with_reducible refine zbf (f := 80) rfl ?_); refine zbn (some 32) rfl rfl Try.func80 (by kernel_rfl) rfl #[.pointer (some ⟨gb1546, 0, none⟩), .int .i64 4] rfl (taad) ?_; (with_reducible refine (spec_l1Cur_pick.calls gb1546 l0 x1547001_2 x1547002_2 4 t1565 t1566 t1567 w _ ?side1 ?side2 A23.out).mono ?_); (case side1 => exact tafa); (case side2 => exact tafb); rintro e w24 ⟨rfl, hi, hb, hk⟩; refine ⟨_, rfl, ?_⟩; have n0_ := zad (zbq (zbr (zcj (show IsS75 w _ gb1546 l0 x1547001_2 x1547002_2 from by exact taaw) (taao) (by decide)) hk (fun _ h => h.2)) (fun _ h => h.1)); have n1_ := zad (zbq (zbr (zcj (show IsS75 w _ gb1546 l0 x1547001_2 x1547002_2 from by exact taaw) (taaj) (by decide)) hk (fun _ h => h.2)) (fun _ h => h.1)); have n2_ := zad (hb); have n3_ := zad (hi); clear HO_5 HO_6 HB HI1546; have HO_5 := n0_; have HO_6 := n1_; have HB := n2_; have HI1546 := n3_; clear n0_ n1_ n2_ n3_; (try clear hb); (try clear hb2); (try clear hk); (try clear hi)))
     go_loopg [7, 8] kj2 (fun kq v7 v8 w' => ∃ (x7_2 : List (S39)) (x8_2 : Int) (x1547001_2 : Int) (x1547002_2 : Int), v8 = .int .i64 x8_2 ∧ Aside0 (spec_DrawFollowGifts.l0 kq t1550 x7_2 x8_2 l0 x1547001_2 x1547002_2 = some (r1, r2)) ∧ Aside0 (kq ≤ kj2) ∧ Aside0 (Kd.R (Kd.int .i64) 3 w' w.heap.size (fun _ => True) v1551 t1550) ∧ Aside0 (Kd.R k39 39 w' w.heap.size (fun _ => True) v7 x7_2) ∧ Aside0 (IsS75 w w' gb1546 l0 x1547001_2 x1547002_2) ∧ Aside0 (Below w.heap.size w w'))
     case atStart => exact ⟨(([] : List (S39))), (t1565), (t1566), (t1567), (taag), H', ⟨zcf _⟩, ⟨by (with_reducible repeat (first | apply zai | apply zaj | apply zak)); exact zbq HO_6.out (fun _ hk => trivial)⟩, ⟨tabl⟩, ⟨taaw⟩, ⟨taaz⟩⟩
     case round =>
      clear H'
      try clear c1
      try clear p2
      try clear c7
      try clear c8
      try clear c12
      try clear c13
      try clear c16
      try clear p2
      obtain ⟨x7_2, x8_2, x1547001_2, x1547002_2, rfl, HA, HK2, HO_6, HO_7, HI1546, HB⟩ := hrel
      cases gk with
      | zero => exact absurd HA.out (by simp [spec_DrawFollowGifts.l0])
      | succ k2 =>
       have H := HA.out
       clear HA; simp only [spec_DrawFollowGifts.l0] at H
       by_cases c25 : x8_2 > 0
       · rw [if_pos c25] at H
         have c25b0 : decide (0 < x8_2) = true := zba c25
         clear c25; replace H := zay.mp H; obtain ⟨⟨t1568, t1569, t1570, t1571, t1572⟩, A260, H⟩ := H
         replace H : (if x7_2.length < 5864062014805 then (spec_DrawFollowGifts.l0 k2 t1550 (x7_2 ++ [(⟨t1568, t1569, t1570⟩ : S39)]) (wrap64 (x8_2 - 1)) l0 t1571 t1572) else (none)) = some (r1, r2) := H
         have A26 := zad A260; clear A260; by_cases c27 : x7_2.length < 5864062014805
         · rw [if_pos c27] at H
           have LMc27 := zad c27; clear c27; obtain ⟨y1573, hy1573⟩ : ∃ y_ : List (S39), y_ = (x7_2 ++ [(⟨t1568, t1569, t1570⟩ : S39)]) := ⟨_, rfl⟩
           replace H : (spec_DrawFollowGifts.l0 k2 t1550 y1573 (wrap64 (x8_2 - 1)) l0 t1571 t1572) = some (r1, r2) := by first | (rw [hy1573]; with_reducible exact H) | (have H2_ := (zbb _ _).symm.trans H; rw [hy1573]; with_reducible exact H2_) | (have H2_ := (zbb _ _).symm.trans H; with_reducible exact H2_) | with_reducible exact H | (rw [hy1573]; exact H) | exact H
           have Ny1573 := zad hy1573; clear hy1573; have H' := zad H
           clear H; obtain ⟨Ao28, co28, eo28⟩ := zbv HO_6.out
           subst eo28; go_wp2_with (first | ((with_reducible refine zbf (f := 97) rfl ?_); refine zbn (some 40) rfl rfl Try.func97 (by kernel_rfl) rfl #[.pointer (some ⟨gb1546, 0, none⟩), .slice Ao28 t1550.length co28] rfl (taad) ?_; (with_reducible refine (spec_l1Cur_gift.calls gb1546 l0 x1547001_2 x1547002_2 _ _ t1550 t1568 t1569 t1570 t1571 t1572 w _ ?side1 ?side2 ?side3 ?side4 ?side5 A26.out).mono ?_); (case side1 => exact tafa); (case side2 => exact tafb); (case side3 => exact taez); (case side4 => exact (zbd HO_6.out).2.1); (case side5 => exact far_slice (zck HI1546.out HO_6.out (by decide))); rintro e w29 ⟨rfl, hi, hb, hk⟩; refine ⟨_, rfl, ?_⟩; have n0_ := zad (zbq (zbr (zcj (show IsS75 w _ gb1546 l0 x1547001_2 x1547002_2 from by exact taaw) (taaj) (by decide)) hk (fun _ h => h.2)) (fun _ h => h.1)); have n1_ := zad (zbq (zbr (zcj (show IsS75 w _ gb1546 l0 x1547001_2 x1547002_2 from by exact taaw) (taai) (by decide)) hk (fun _ h => h.2)) (fun _ h => h.1)); have n2_ := zad (hb); have n3_ := zad (hi); clear HO_6 HO_7 HB HI1546; have HO_6 := n0_; have HO_7 := n1_; have HB := n2_; have HI1546 := n3_; clear n0_ n1_ n2_ n3_; (try clear hb); (try clear hb2); (try clear hk); (try clear hi)) | ((with_reducible refine gate_builtin (b := .append) (xs := #[.tmp 37, .tmp 41]) rfl ?_); at_builtin; refine Kd.R_append k39 (w0 := w) w.heap.size rfl (.tmp 37) (.tmp 41) 58 39 (.agg #[(.int .i64 0), (.int .i64 0), (.int .i64 0)]) 24 rfl Try.underlying58 info39 rfl (by decide) (by omega) u7 x7_2 (⟨t1568, t1569, t1570⟩ : S39) [.int .i64 t1568, .int .i64 t1569, .int .i64 t1570] (fun _ => True) (fun _ => False) rfl rfl ?aP (fun _ hk => hk.elim) ?aF ?aO ?aB ?aS ?aL ?_; (case aP => exact k39_mkM _ _ _ (⟨t1568, t1569, t1570⟩ : S39)); (case aB => exact (taaz)); (case aF => exact (fun _ _ => trivial)); (case aO => exact (taai)); (case aS => exact (zbk (taaz))); (case aL => have := LMc27.out; omega); intro v1574 w30 ho hb hg hat; rw [← Ny1573.out] at ho; have n0_ := zad (Kd.R_over' (taaj) (Kd.R_typed (taai)) (by decide) hg); have n1_ := zad (IsS75.grown (taaw) hg (zck HI1546.out HO_7.out (by decide))); have n2_ := zad (hb); have n3_ := zad (ho); clear HO_6 HI1546 HB HO_7; have HO_6 := n0_; have HI1546 := n1_; have HB := n2_; have HO1575 := n3_; clear n0_ n1_ n2_ n3_ ho hb hg hat))
           go_roundg k2
           case measure => have := HJ2.out; have := HK2.out; omega
           case rel => exact ⟨(y1573), (wrap64 (x8_2 - 1)), (t1571), (t1572), (taag), H', ⟨by have := HJ2.out; have := HK2.out; omega⟩, ⟨taaj⟩, ⟨by (with_reducible repeat (first | apply zai | apply zaj | apply zak)); exact HO1575.out⟩, ⟨taaw⟩, ⟨taaz⟩⟩
         · rw [if_neg c27] at H
           exact absurd H (taac)
       · rw [if_neg c25] at H
         have c25b0 : decide (0 < x8_2) = false := zbh c25
         clear c25; simp only [zbl, zbp] at H
         obtain ⟨rfl, rfl⟩ := H
         go_wp2
         go_ret2
         exact ⟨_, _, taah, taaj, taai, taaz⟩
def spec_FollowGifts.f (k : Nat) (l0 : List Int) (l1 : List (S39)) : Option ((List (List Int)) × Bool) := (spec_liGood.f k l0).bind fun t1576 => (if t1576 = true then ((spec_giGifts.f k l0 l1).bind fun t1577 => (if t1577 = true then ((spec_giFollow.f l0 l1).bind fun bt1578 => (some (bt1578.1, bt1578.2))) else (some (([] : List (List Int)), false)))) else (some (([] : List (List Int)), false)))
theorem spec_FollowGifts.calls (k : Nat) (A0 : Option Addr) (c0 : Nat) (l0 : List Int) (A1 : Option Addr) (c1 : Nat) (l1 : List (S39)) (r1 : List (List Int)) (r2 : Bool) (w : World) (hr0 : Kd.C (Kd.int .i64) w A0 l0.length l0) (hc0 : l0.length ≤ c0) (hr1 : Kd.C k39 w A1 l1.length l1) (hc1 : l1.length ≤ c1) (h : spec_FollowGifts.f k l0 l1 = some (r1, r2)) :
 Calls Try.prog 79 #[.slice A0 l0.length c0, .slice A1 l1.length c1] w fun e w' => ∃ v0_ : Value, e = .returned (.tuple #[v0_, .bool r2]) ∧ Kd.S (Kd.slice 3 (Kd.int .i64)) 26 w' w.heap.size (fun _ => True) v0_ r1 ∧ Below w.heap.size w w' := by
 have HR0 := zad hr0; have HC0 := zad hc0; clear hr0 hc0; have HR1 := zad hr1; have HC1 := zad hc1; clear hr1 hc1; have HB := zad (Below.refl w.heap.size w)
 have H : ((spec_liGood.f k l0).bind fun t1576 => (if t1576 = true then ((spec_giGifts.f k l0 l1).bind fun t1577 => (if t1577 = true then ((spec_giFollow.f l0 l1).bind fun bt1578 => (some (bt1578.1, bt1578.2))) else (some (([] : List (List Int)), false)))) else (some (([] : List (List Int)), false)))) = some (r1, r2) := h
 clear h; replace H := zay.mp H; obtain ⟨t1576, A30, H⟩ := H
 replace H : (if t1576 = true then ((spec_giGifts.f k l0 l1).bind fun t1577 => (if t1577 = true then ((spec_giFollow.f l0 l1).bind fun bt1578 => (some (bt1578.1, bt1578.2))) else (some (([] : List (List Int)), false)))) else (some (([] : List (List Int)), false))) = some (r1, r2) := H
 have A3 := zad A30; clear A30; by_cases c4 : t1576 = true
 · subst c4
   have H1 : ((spec_giGifts.f k l0 l1).bind fun t1577 => (if t1577 = true then ((spec_giFollow.f l0 l1).bind fun bt1578 => (some (bt1578.1, bt1578.2))) else (some (([] : List (List Int)), false)))) = some (r1, r2) := by rw [if_pos rfl] at H; exact H
   clear H; have H := H1; clear H1; replace H := zay.mp H; obtain ⟨t1577, A50, H⟩ := H
   replace H : (if t1577 = true then ((spec_giFollow.f l0 l1).bind fun bt1578 => (some (bt1578.1, bt1578.2))) else (some (([] : List (List Int)), false))) = some (r1, r2) := H
   have A5 := zad A50; clear A50; by_cases c6 : t1577 = true
   · subst c6
     have H1 : ((spec_giFollow.f l0 l1).bind fun bt1578 => (some (bt1578.1, bt1578.2))) = some (r1, r2) := by rw [if_pos rfl] at H; exact H
     clear H; have H := H1; clear H1; replace H := zay.mp H; obtain ⟨⟨t1578, t1579⟩, A70, H⟩ := H
     replace H : (some (t1578, t1579)) = some (r1, r2) := H
     have A7 := zad A70; clear A70; simp only [zbl, zbp] at H
     obtain ⟨rfl, rfl⟩ := H
     go_enter Try.func79, Try.ntmps79
     go_wp2_with (first | ((with_reducible refine zbf (f := 94) rfl ?_); refine zbn (some 7) rfl rfl Try.func94 (by kernel_rfl) rfl #[.slice A0 l0.length c0] rfl (taad) ?_; (with_reducible refine (spec_liGood.calls k _ _ l0 true _ ?side1 ?side2 A3.out).mono ?_); (case side1 => repeat (first | exact HR0.out | (with_reducible refine zal ?_ _) | (with_reducible refine zam ?_ _) | (with_reducible refine zan ?_))); (case side2 => exact HC0.out); rintro e w' ⟨rfl, ⟨nd, rfl⟩⟩; refine ⟨_, rfl, ?_⟩) | (go_at_call 143; (with_reducible refine (spec_giGifts.calls k _ _ l0 _ _ l1 true _ ?side1 ?side2 ?side3 ?side4 A5.out).mono ?_); (case side1 => repeat (first | exact HR0.out | (with_reducible refine zal ?_ _) | (with_reducible refine zam ?_ _) | (with_reducible refine zan ?_))); (case side2 => exact HC0.out); (case side3 => repeat (first | exact HR1.out | (with_reducible refine zal ?_ _) | (with_reducible refine zam ?_ _) | (with_reducible refine zan ?_))); (case side4 => exact HC1.out); rintro e w8 ⟨rfl, hb⟩; have n0_ := zad (zbe (taaa) hb); clear HB; have HB := n0_; clear n0_; (try clear hb); (try clear hb2); (try clear hk); (try clear hi)) | ((with_reducible refine zbf (f := 144) rfl ?_); refine zbn (some 17) rfl rfl Try.func144 (by kernel_rfl) rfl #[.slice A0 l0.length c0, .slice A1 l1.length c1] rfl (taad) ?_; (with_reducible refine (spec_giFollow.calls _ _ l0 _ _ l1 t1578 t1579 _ ?side1 ?side2 ?side3 ?side4 A7.out).mono ?_); (case side1 => repeat (first | exact (Kd.C_below HR0.out HB.out) | (with_reducible refine zal ?_ _) | (with_reducible refine zam ?_ _) | (with_reducible refine zan ?_))); (case side2 => exact HC0.out); (case side3 => repeat (first | exact (Kd.C_below HR1.out HB.out) | (with_reducible refine zal ?_ _) | (with_reducible refine zam ?_ _) | (with_reducible refine zan ?_))); (case side4 => exact HC1.out); rintro e w9 ⟨v1580, rfl, ho0, hb⟩; refine ⟨_, rfl, ?_⟩; have n0_ := zad (Kd.S_lower ho0 (zbk (taaa))); have n1_ := zad (zbe (taaa) hb); clear HB; have HO1581 := n0_; have HB := n1_; clear n0_ n1_; (try clear hb); (try clear hb2); (try clear hk); (try clear hi); (try clear ho0)))
     go_ret2
     exact ⟨_, taah, by (with_reducible repeat (first | apply Kd.S_alloc | apply Kd.S_drewN | apply Kd.S_drew)); exact HO1581.out, taaa⟩
   · replace c6 := zbg.mpr c6
     subst c6; have H1 : (some (([] : List (List Int)), false)) = some (r1, r2) := by rw [if_neg (show ¬ (false = true) by decide)] at H; exact H
     clear H; have H := H1; clear H1; simp only [zbl, zbp] at H
     obtain ⟨rfl, rfl⟩ := H
     go_enter Try.func79, Try.ntmps79
     go_wp2_with (first | ((with_reducible refine zbf (f := 94) rfl ?_); refine zbn (some 7) rfl rfl Try.func94 (by kernel_rfl) rfl #[.slice A0 l0.length c0] rfl (taad) ?_; (with_reducible refine (spec_liGood.calls k _ _ l0 true _ ?side1 ?side2 A3.out).mono ?_); (case side1 => repeat (first | exact HR0.out | (with_reducible refine zal ?_ _) | (with_reducible refine zam ?_ _) | (with_reducible refine zan ?_))); (case side2 => exact HC0.out); rintro e w' ⟨rfl, ⟨nd, rfl⟩⟩; refine ⟨_, rfl, ?_⟩) | (go_at_call 143; (with_reducible refine (spec_giGifts.calls k _ _ l0 _ _ l1 false _ ?side1 ?side2 ?side3 ?side4 A5.out).mono ?_); (case side1 => repeat (first | exact HR0.out | (with_reducible refine zal ?_ _) | (with_reducible refine zam ?_ _) | (with_reducible refine zan ?_))); (case side2 => exact HC0.out); (case side3 => repeat (first | exact HR1.out | (with_reducible refine zal ?_ _) | (with_reducible refine zam ?_ _) | (with_reducible refine zan ?_))); (case side4 => exact HC1.out); rintro e w10 ⟨rfl, hb⟩; have n0_ := zad (zbe (taaa) hb); clear HB; have HB := n0_; clear n0_; (try clear hb); (try clear hb2); (try clear hk); (try clear hi)))
     go_ret2
     exact ⟨_, taah, tacs, taaa⟩
 · replace c4 := zbg.mpr c4
   subst c4; have H1 : (some (([] : List (List Int)), false)) = some (r1, r2) := by rw [if_neg (show ¬ (false = true) by decide)] at H; exact H
   clear H; have H := H1; clear H1; simp only [zbl, zbp] at H
   obtain ⟨rfl, rfl⟩ := H
   go_enter Try.func79, Try.ntmps79
   go_wp2_with (first | ((with_reducible refine zbf (f := 94) rfl ?_); refine zbn (some 7) rfl rfl Try.func94 (by kernel_rfl) rfl #[.slice A0 l0.length c0] rfl (taad) ?_; (with_reducible refine (spec_liGood.calls k _ _ l0 false _ ?side1 ?side2 A3.out).mono ?_); (case side1 => exact taeu); (case side2 => exact HC0.out); rintro e w' ⟨rfl, ⟨nd, rfl⟩⟩; refine ⟨_, rfl, ?_⟩))
   go_ret2
   exact ⟨_, taah, tacs, taaa⟩
def slices_Equal_int_int.l0 : Nat → List Int → List Int → Int → Int → Option (Bool)
 | 0, _, _, _, _ => none
 | k + 1, x0, x1, x12, x13 => if x13 < x12 then (if 0 ≤ x13 then (if x13 < (x0.length : Int) then (if x13 < (x1.length : Int) then (if (rd x0 x13) = (rd x1 x13) then (slices_Equal_int_int.l0 k x0 x1 x12 (wrap64 (x13 + 1))) else (some false)) else (none)) else (none)) else (none)) else (some true)
def slices_Equal_int_int.f (k : Nat) (l0 : List Int) (l1 : List Int) : Option (Bool) := if (l0.length : Int) = (l1.length : Int) then (slices_Equal_int_int.l0 k l0 l1 (l0.length : Int) 0) else (some false)
theorem slices_Equal_int_int.calls (k : Nat) (A0 : Option Addr) (c0 : Nat) (l0 : List Int) (A1 : Option Addr) (c1 : Nat) (l1 : List Int) (r : Bool) (w : World) (hr0 : Kd.C (Kd.int .i64) w A0 l0.length l0) (hc0 : l0.length ≤ c0) (hr1 : Kd.C (Kd.int .i64) w A1 l1.length l1) (hc1 : l1.length ≤ c1) (h : slices_Equal_int_int.f k l0 l1 = some r) :
 Calls Try.prog 135 #[.slice A0 l0.length c0, .slice A1 l1.length c1] w fun e w' => e = .returned (.bool r) ∧ Drawn0 w w' := by
 have HR0 := zad hr0; have HC0 := zad hc0; clear hr0 hc0; have HR1 := zad hr1; have HC1 := zad hc1; clear hr1 hc1; have H : (if (l0.length : Int) = (l1.length : Int) then (slices_Equal_int_int.l0 k l0 l1 (l0.length : Int) 0) else (some false)) = some r := h
 clear h; by_cases c3 : (l0.length : Int) = (l1.length : Int)
 · rw [if_pos c3] at H
   have c3b0 : ((l0.length : Int) == (l1.length : Int)) = true := beq_iff_eq.mpr c3
   have c3b1 : ((l0.length : Int) != (l1.length : Int)) = false := bne_eq_false_iff_eq.mpr c3
   have c3b2 : (l0.length == l1.length) = true := by first | simpa using c3 | (simp at c3 ⊢; omega)
   clear c3; have H' := zad H
   clear H; go_enter Try.func135, Try.ntmps135
   go_wp2
   repeat (go_quiet (fail); try go_wp2)
   go_loopg [13] k (fun kq v13 w' => ∃ (x13_1 : Int), v13 = .int .i64 x13_1 ∧ Aside0 (slices_Equal_int_int.l0 kq l0 l1 (l0.length : Int) x13_1 = some r) ∧ Aside0 (kq ≤ k) ∧ Drawn0 w w')
   case atStart => exact ⟨(0), (taag), H', ⟨zcf _⟩, taak⟩
   case round =>
    clear H'
    try clear c1
    try clear p2
    try clear c3
    try clear c3b0
    try clear c3b1
    try clear c3b2
    obtain ⟨x13_1, rfl, HA, HK1, ⟨m1, rfl⟩⟩ := hrel
    cases gk with
    | zero => exact absurd HA.out (by simp [slices_Equal_int_int.l0])
    | succ k1 =>
     have H := HA.out
     clear HA; simp only [slices_Equal_int_int.l0] at H
     by_cases c4 : x13_1 < (l0.length : Int)
     · rw [if_pos c4] at H
       have c4b0 : decide (x13_1 < (l0.length : Int)) = true := zba c4
       clear c4; by_cases c5 : 0 ≤ x13_1
       · rw [if_pos c5] at H
         have c5b0 : decide (0 ≤ x13_1) = true := zba c5
         clear c5; by_cases c6 : x13_1 < (l0.length : Int)
         · rw [if_pos c6] at H
           have c6b0 : decide (x13_1 < (l0.length : Int)) = true := zba c6
           clear c6; by_cases c7 : x13_1 < (l1.length : Int)
           · rw [if_pos c7] at H
             have c7b0 : decide (x13_1 < (l1.length : Int)) = true := zba c7
             clear c7; by_cases c8 : (rd l0 x13_1) = (rd l1 x13_1)
             · rw [if_pos c8] at H
               have c8b0 : ((rd l0 x13_1) == (rd l1 x13_1)) = true := beq_iff_eq.mpr c8
               have c8b1 : ((rd l0 x13_1) != (rd l1 x13_1)) = false := bne_eq_false_iff_eq.mpr c8
               clear c8; have H' := zad H
               clear H; have p1143 : 0 ≤ (x13_1 : Int) := zas (taab)
               have q1143 : x13_1 < (l0.length : Int) := zas (taab)
               obtain ⟨ad1143, e1143, hx1143_0⟩ := zca HR0.out x13_1 p1143 q1143
               cases e1143
               replace p1143 := eq_true p1143
               replace q1143 := eq_true q1143
               have p1144 : 0 ≤ (x13_1 : Int) := zas (taab)
               have q1144 : x13_1 < (l1.length : Int) := zas (taab)
               obtain ⟨ad1144, e1144, hx1144_0⟩ := zca HR1.out x13_1 p1144 q1144
               cases e1144
               replace p1144 := eq_true p1144
               replace q1144 := eq_true q1144
               go_wp2
               repeat (go_quiet (fail); try go_wp2)
               go_roundg k1
               case measure => have := HK1.out; omega
               case rel => exact ⟨(wrap64 (x13_1 + 1)), (taag), H', ⟨taau⟩, taak⟩
             · rw [if_neg c8] at H
               have c8b0 : ((rd l0 x13_1) == (rd l1 x13_1)) = false := zbo.mpr c8
               have c8b1 : ((rd l0 x13_1) != (rd l1 x13_1)) = true := bne_iff_ne.mpr c8
               obtain rfl := zbc H
               have p1143 : 0 ≤ (x13_1 : Int) := zas (taab)
               have q1143 : x13_1 < (l0.length : Int) := zas (taab)
               obtain ⟨ad1143, e1143, hx1143_0⟩ := zca HR0.out x13_1 p1143 q1143
               cases e1143
               replace p1143 := eq_true p1143
               replace q1143 := eq_true q1143
               have p1144 : 0 ≤ (x13_1 : Int) := zas (taab)
               have q1144 : x13_1 < (l1.length : Int) := zas (taab)
               obtain ⟨ad1144, e1144, hx1144_0⟩ := zca HR1.out x13_1 p1144 q1144
               cases e1144
               replace p1144 := eq_true p1144
               replace q1144 := eq_true q1144
               go_wp2
               repeat (go_quiet (fail); try go_wp2)
               go_ret
               exact ⟨taag, taak⟩
           · rw [if_neg c7] at H
             exact absurd H (taac)
         · rw [if_neg c6] at H
           exact absurd H (taac)
       · rw [if_neg c5] at H
         exact absurd H (taac)
     · rw [if_neg c4] at H
       have c4b0 : decide (x13_1 < (l0.length : Int)) = false := zbh c4
       clear c4; obtain rfl := zbc H
       go_wp2
       repeat (go_quiet (fail); try go_wp2)
       go_ret
       exact ⟨taag, taak⟩
 · rw [if_neg c3] at H
   have c3b0 : ((l0.length : Int) == (l1.length : Int)) = false := zbo.mpr c3
   have c3b1 : ((l0.length : Int) != (l1.length : Int)) = true := bne_iff_ne.mpr c3
   have c3b2 : (l0.length == l1.length) = false := by first | simpa using c3 | (simp at c3 ⊢; omega)
   obtain rfl := zbc H
   go_enter Try.func135, Try.ntmps135
   go_wp2
   repeat (go_quiet (fail); try go_wp2)
   go_ret
   exact ⟨taag, taak⟩
theorem foldl_add : ∀ (l : List Int) (s : Int), l.foldl (fun s x => s + x) s = s + l.sum
 | [], s => by simp
 | x :: l, s => by
  rw [List.foldl_cons, foldl_add l, List.sum_cons]
  omega
theorem liSum_ev (l : List Int) (h : Sm l) : Ev (fun k => spec_liSum.f k l) l.sum := by
 unfold spec_liSum.f
 have hl := h.1
 have h := ev_fold (xs := l) (g := fun k s i => spec_liSum.l0 k s l (l.length : Int) i) (fun s x => s + x) (fun s i => 0 ≤ s ∧ s ≤ 1000 * (i : Int)) id
  (fun s _ => Ev.succ (by simp only [spec_liSum.l0, if_neg (Int.lt_irrefl _)]; exact Ev.now _))
  (fun i hi s r hs _ hr => Ev.succ (by
   have hb := h.2 _ (List.getElem_mem hi)
   simp only [spec_liSum.l0, if_pos (show (i : Int) < (l.length : Int) by omega), if_pos (show (0 : Int) ≤ (i : Int) by omega), rdn hi, wsucc hi (by omega), w64 (x := s + l[i]) (by omega) (by omega)]
   exact hr))
  (fun i hi s hs => by
   have hb := h.2 _ (List.getElem_mem hi)
   omega) l.length 0 0 (by omega) (by omega)
 rw [List.drop_zero, foldl_add, Int.zero_add] at h
 exact h
theorem total_ev (l : List Int) (h : Sm l) : Ev (fun k => impl_total.f k l) l.sum := by
 unfold impl_total.f
 have hl := h.1
 have h := ev_fold (xs := l) (g := fun k s i => impl_total.l0 k s l (l.length : Int) i) (fun s x => s + x) (fun s i => 0 ≤ s ∧ s ≤ 1000 * (i : Int)) id
  (fun s _ => Ev.succ (by simp only [impl_total.l0, if_neg (Int.lt_irrefl _)]; exact Ev.now _))
  (fun i hi s r hs _ hr => Ev.succ (by
   have hb := h.2 _ (List.getElem_mem hi)
   simp only [impl_total.l0, if_pos (show (i : Int) < (l.length : Int) by omega), if_pos (show (0 : Int) ≤ (i : Int) by omega), rdn hi, wsucc hi (by omega), w64 (x := s + l[i]) (by omega) (by omega)]
   exact hr))
  (fun i hi s hs => by
   have hb := h.2 _ (List.getElem_mem hi)
   omega) l.length 0 0 (by omega) (by omega)
 rw [List.drop_zero, foldl_add, Int.zero_add] at h
 exact h
def fitB (a b : List Int) : Bool := if (a.length : Int) = (b.length : Int) then (a.sum == b.sum) else false
theorem fitB_iff (a b : List Int) : fitB a b = true ↔ a.length = b.length ∧ a.sum = b.sum := by
 unfold fitB
 by_cases h : (a.length : Int) = (b.length : Int)
 · rw [if_pos h, beq_iff_eq]
   exact ⟨fun h' => ⟨by omega, h'⟩, fun h' => h'.2⟩
 · rw [if_neg h]
   exact ⟨fun h' => absurd h' (by decide), fun h' => absurd h'.1 (by omega)⟩
theorem liFit_ev (a b : List Int) (ha : Sm a) (hb : Sm b) : Ev (fun k => spec_liFit.f k a b) (fitB a b) := by
 unfold spec_liFit.f fitB
 exact Ev.ite (fun _ => Ev.bind (liSum_ev a ha) (Ev.bind (liSum_ev b hb) (Ev.now _))) (fun _ => Ev.now _)
theorem doFit_ev (a b : List Int) (ha : Sm a) (hb : Sm b) : Ev (fun k => impl_doFit.f k a b) (fitB a b) := by
 unfold impl_doFit.f fitB
 exact Ev.ite (fun _ => Ev.bind (total_ev a ha) (Ev.bind (total_ev b hb) (Ev.now _))) (fun _ => Ev.now _)
theorem areLists_ev (a b : List Int) (ha : a.length ≤ 1048576) (hb : b.length ≤ 1048576) : Ev (fun k => impl_areLists.f k a b) (if goodL a = true then goodL b else false) := by
 unfold impl_areLists.f
 exact Ev.bind (implIsList_ev a (by omega)) (Ev.ite (fun _ => Ev.bind (implIsList_ev b (by omega)) (Ev.now _)) (fun _ => Ev.now _))
theorem slEqual_l (xs ys : List Int) (hx : xs.length ≤ 9223372036854775807) (hl : xs.length = ys.length) : ∀ (n i : Nat), i + n = xs.length → Ev (fun k => slices_Equal_int_int.l0 k xs ys (xs.length : Int) (i : Int)) (decide (xs.drop i = ys.drop i))
 | 0, i, h => by
  refine Ev.succ ?_
  simp only [slices_Equal_int_int.l0, if_neg (show ¬ (i : Int) < (xs.length : Int) by omega)]
  rw [List.drop_eq_nil_of_le (by omega), List.drop_eq_nil_of_le (by omega)]
  exact Ev.now _
 | n + 1, i, h => by
  have hi : i < xs.length := by omega
  have hj : i < ys.length := by omega
  refine Ev.succ ?_
  simp only [slices_Equal_int_int.l0, if_pos (show (i : Int) < (xs.length : Int) by omega), if_pos (show (i : Int) < (ys.length : Int) by omega), if_pos (show (0 : Int) ≤ (i : Int) by omega), rdn hi, rdn hj, wsucc hi hx]
  rw [List.drop_eq_getElem_cons hi, List.drop_eq_getElem_cons hj]
  by_cases c : xs[i] = ys[i]
  · simp only [c, if_true, List.cons.injEq, true_and]
    exact slEqual_l xs ys hx hl n (i + 1) (by omega)
  · simp only [c, if_false, List.cons.injEq, false_and, decide_false]
    exact Ev.now _
theorem slEqual_ev (xs ys : List Int) (hx : xs.length ≤ 9223372036854775807) : Ev (fun k => slices_Equal_int_int.f k xs ys) (decide (xs = ys)) := by
 unfold slices_Equal_int_int.f
 by_cases h : xs.length = ys.length
 · simp only [if_pos (show (xs.length : Int) = (ys.length : Int) by omega)]
   exact slEqual_l xs ys hx h xs.length 0 (by omega)
 · simp only [if_neg (show ¬ (xs.length : Int) = (ys.length : Int) by omega)]
   rw [zbh (fun e => h (by rw [e]))]
   exact Ev.now _
theorem igp_row (B : Nat) (A0 : Option Addr) (c0 : Nat) (l0 : List Int) (f0 f1 f2 : Int) (W : World) (hl : l0.length ≤ 1048576) (hB : W.cell? ⟨B, 0, none⟩ = some (.slice A0 l0.length c0)) (hr : Kd.C (Kd.int .i64) W A0 l0.length l0) (hc : l0.length ≤ c0) :
 Calls Try.prog 133 #[.agg #[.int .i64 f0, .int .i64 f1, .int .i64 f2], .pointer (some ⟨B, 0, none⟩)] W fun e w' => e = .returned (.bool (!isG l0 f0 f1 f2)) ∧ Below W.heap.size W w' := by
 have HK := zad (isGift_eq l0 f0 f1 f2 hl)
 have HR := zad hr; have HC := zad hc; have HB := zad (Below.refl W.heap.size W)
 generalize isG l0 f0 f1 f2 = b at HK ⊢
 clear hr hc hl; go_enter Try.func133, Try.ntmps133
 go_wp2_with (first | ((with_reducible refine gate_dst (N := 2) rfl ?_); refine box_event ?hg (N := 2) ?hd (cs := #[.int .i64 f0, .int .i64 f1, .int .i64 f2]) (t := 39) ?hr ?_; (case hd => rfl); (case hg => rfl); (case hr => first | (go_simp; done) | (go_simp; rfl)); intro gb hg w8 hbox hb; have hB2 := pw_cell_below hb hB; have BK := zad hbox; have HB2 := zad (zbe (taaa) hb); clear hbox hb hg HB hB; have HB := HB2; clear HB2; have hcz0 : w8.cell? ⟨gb, 0, none⟩ = some (.int .i64 f0) := (zbi BK.out 0).trans rfl; have hcz1 : w8.cell? ⟨gb, 1, none⟩ = some (.int .i64 f1) := (zbi BK.out 1).trans rfl; have hcz2 : w8.cell? ⟨gb, 2, none⟩ = some (.int .i64 f2) := (zbi BK.out 2).trans rfl) | (go_at_call 102; (with_reducible refine (impl_isGift.calls _ _ l0 f0 f1 f2 b _ ?side1 ?side2 HK.out).mono ?_); (case side1 => exact Kd.C_below HR.out (taaa)); (case side2 => exact HC.out); rintro e w1 ⟨rfl, hb⟩; have HB2 := zad (zbe (taaa) hb); clear hb HB; have HB := HB2; clear HB2))
 go_ret
 exact ⟨by first | rfl | simp, taaa⟩
def IdxInv (xs : List S39) (ps : S39 → Bool) (g : Nat) (x8 : Int) : Prop := ∃ i : Nat, x8 = (i : Int) ∧ i ≤ xs.length ∧ xs.length - i ≤ g ∧ ∀ j (h : j < xs.length), j < i → ps xs[j] = false
def SomeIdx (xs : List S39) (ps : S39 → Bool) (W : World) (e : Ending) (w' : World) : Prop := ∃ i : Int, e = .returned (.int .i64 i) ∧ decide (0 ≤ i) = xs.any ps ∧ Below W.heap.size W w'
theorem gift_idx (A : Option Addr) (c : Nat) (xs : List S39) (ps : S39 → Bool) (B : Nat) (W : World) (hbig : xs.length ≤ 1048576) (hr : Kd.C k39 W A xs.length xs) (hcall : ∀ (g : S39) (W' : World), Below W.heap.size W W' → Calls Try.prog 133 #[.agg #[.int .i64 g.f0, .int .i64 g.f1, .int .i64 g.f2], .pointer (some ⟨B, 0, none⟩)] W' fun e w'' => e = .returned (.bool (ps g)) ∧ Below W'.heap.size W' w'') :
 Calls Try.prog 154 #[.slice A xs.length c, .func (.func 133) #[] #[.pointer (some ⟨B, 0, none⟩)]] W (SomeIdx xs ps W) := by
 have HR := zad hr; have HF := zad hcall; have HX := zad hbig; have HB := zad (Below.refl W.heap.size W)
 clear hr hcall hbig; have hu39 := Try.underlying39
 go_enter Try.func154, Try.ntmps154
 go_wp2
 go_loopg [5, 8] xs.length (fun gg _ v8 wr => ∃ x8 : Int, v8 = .int .i64 x8 ∧ Aside0 (IdxInv xs ps gg x8) ∧ Aside0 (Below W.heap.size W wr))
 case atStart => exact ⟨0, rfl, ⟨0, rfl, Nat.zero_le _, by omega, fun j _ hj => absurd hj (Nat.not_lt_zero _)⟩, ⟨taaa⟩⟩
 case round =>
  clear HB; obtain ⟨x8, rfl, HV, HB⟩ := hrel
  obtain ⟨i, hi, hi1, hgm, hpre⟩ := HV.out
  clear HV; have hbig := HX.out
  by_cases hlt : i < xs.length
  · have c3b0 : decide (x8 < (xs.length : Int)) = true := zba (by omega)
    have p1 : 0 ≤ x8 := by omega
    have q1 : x8 < (xs.length : Int) := by omega
    obtain ⟨ad, e1, hx0, hx1, hx2⟩ := at_T39 HR.out x8 p1 q1
    cases e1
    have hrd : rd_T39 xs x8 = xs[i] := by
     unfold rd_T39
     rw [hi, Int.toNat_natCast, List.getD_eq_getElem?_getD, List.getElem?_eq_getElem hlt]
     rfl
    generalize rd_T39 xs x8 = gg at hx0 hx1 hx2 hrd
    have hca := HF.out gg
    cases hq : ps gg with
    | true =>
     have HQ : Aside0 (decide (0 ≤ x8) = xs.any ps) := ⟨by
      rw [zba p1, eq_comm, List.any_eq_true]
      exact ⟨xs[i], List.getElem_mem hlt, by rw [← hrd]; exact hq⟩⟩
     rw [hq] at hca
     have HCA := zad hca; obtain ⟨f0, f1, f2⟩ := gg
     simp only at hx0 hx1 hx2
     replace hx0 := (HB.out.cell (zaz W _ hx0)).trans hx0
     replace hx1 := (HB.out.cell (zaz W _ hx1)).trans hx1
     replace hx2 := (HB.out.cell (zaz W _ hx2)).trans hx2
     replace p1 := eq_true p1
     replace q1 := eq_true q1
     clear hi hi1 hgm hpre hbig hlt hca hq hrd; go_wp2_with (go_at_call 133; refine (HCA.out _ (taaa)).mono ?_; rintro e w' ⟨rfl, hb⟩; have HB2 := zad (zbe (taaa) hb); clear hb HB; have HB := HB2; clear HB2)
     go_ret
     exact ⟨_, rfl, HQ.out, taaa⟩
    | false =>
     have HIN : Aside0 (IdxInv xs ps (xs.length - (i + 1)) (wrap64 (x8 + 1))) := ⟨i + 1, by rw [w64 (by omega) (by omega)]; omega, by omega, zcf _, fun j hj hj2 => by
      by_cases e : j = i
      · subst e
        rw [← hrd]
        exact hq
      · exact hpre j hj (by omega)⟩
     have HM := zad (show xs.length - (i + 1) < gk by omega)
     rw [hq] at hca
     have HCA := zad hca; obtain ⟨f0, f1, f2⟩ := gg
     simp only at hx0 hx1 hx2
     replace hx0 := (HB.out.cell (zaz W _ hx0)).trans hx0
     replace hx1 := (HB.out.cell (zaz W _ hx1)).trans hx1
     replace hx2 := (HB.out.cell (zaz W _ hx2)).trans hx2
     replace p1 := eq_true p1
     replace q1 := eq_true q1
     clear hi hi1 hgm hpre hbig hca hq hrd; go_wp2_with (go_at_call 133; refine (HCA.out _ (taaa)).mono ?_; rintro e w' ⟨rfl, hb⟩; have HB2 := zad (zbe (taaa) hb); clear hb HB; have HB := HB2; clear HB2)
     go_roundg (xs.length - (i + 1))
     case measure => exact HM.out
     case rel => exact ⟨_, (taag), HIN, ⟨taaa⟩⟩
  · have hil : i = xs.length := by omega
    have c3b0 : decide (x8 < (xs.length : Int)) = false := zbh (by omega)
    have HQ : Aside0 (decide (0 ≤ (-1 : Int)) = xs.any ps) := ⟨by
     rw [zbh (by decide), eq_comm, List.any_eq_false]
     intro x hx
     obtain ⟨j, hj, rfl⟩ := List.mem_iff_getElem.1 hx
     rw [hpre j hj (by omega)]
     decide⟩
    clear hi hi1 hgm hpre hbig hlt hil; go_wp2
    go_ret
    exact ⟨_, rfl, HQ.out, taaa⟩
theorem gift_has (A : Option Addr) (c : Nat) (xs : List S39) (ps : S39 → Bool) (B : Nat) (W : World) (hbig : xs.length ≤ 1048576) (hr : Kd.C k39 W A xs.length xs) (hcall : ∀ (g : S39) (W' : World), Below W.heap.size W W' → Calls Try.prog 133 #[.agg #[.int .i64 g.f0, .int .i64 g.f1, .int .i64 g.f2], .pointer (some ⟨B, 0, none⟩)] W' fun e w'' => e = .returned (.bool (ps g)) ∧ Below W'.heap.size W' w'') :
 Calls Try.prog 132 #[.slice A xs.length c, .func (.func 133) #[] #[.pointer (some ⟨B, 0, none⟩)]] W fun e w' => e = .returned (.bool (xs.any ps)) ∧ Below W.heap.size W w' := by
 have HI := zad (gift_idx A c xs ps B W hbig hr hcall)
 clear hbig hr hcall; go_enter Try.func132, Try.ntmps132
 go_wp2_with (go_at_call 154; refine HI.out.mono ?_; rintro e w1 ⟨i, rfl, hi, hb⟩; have HD := zad hi; have HB := zad hb; clear hi hb)
 go_ret
 exact ⟨by first | (rw [← HD.out]; rfl) | (simp [HD.out]) | rfl, HB.out⟩
theorem folM_len {x : List Int} {p : List S39} {M : List (List Int)} (h : foll x p = some M) : M.length = p.length := by
 induction p generalizing x M with
 | nil =>
  have : some [] = some M := h
  obtain rfl := zbc this
  rfl
 | cons g p ih =>
  have e : foll x (g :: p) = if kindB x g.f0 g.f1 g.f2 = true then (foll (stepG x g) p).map (stepG x g :: ·) else none := rfl
  rw [e] at h
  by_cases c : kindB x g.f0 g.f1 g.f2 = true
  · rw [if_pos c] at h
    obtain ⟨N, h1, h2⟩ := Option.map_eq_some_iff.1 h
    rw [← h2, List.length_cons, List.length_cons, ih h1]
  · rw [if_neg c] at h
    cases h
theorem slEqual_ev' (x y : List Int) (hy : y.length ≤ 1000) : Ev (fun k => slices_Equal_int_int.f k x y) (decide (x = y)) := by
 by_cases h : x.length ≤ 1000000
 · exact slEqual_ev x y (by omega)
 · unfold slices_Equal_int_int.f
   simp only [if_neg (show ¬ (x.length : Int) = (y.length : Int) by omega)]
   rw [zbh (fun e => h (by rw [e]; omega))]
   exact Ev.now _
def lastR (L : List (List Int)) : List Int := L.getD (L.length - 1) []
def igpM (a b : List Int) (p : List S39) : Bool × Bool := match foll (descL b) p with
 | some M => (decide (lastR (descL b :: M) = descL a), true)
 | none => (false, true)
def igpR (a b : List Int) (p : List S39) : Bool × Bool := if (if goodL a = true then goodL b else false) = true then (if fitB a b = true then (if (p.length : Int) > 240 then (false, false) else (if (p.any fun g => !isG b g.f0 g.f1 g.f2) = true then (false, false) else igpM a b p)) else (false, false)) else (false, false)
def impl_IsGiftPath.f (l0 : List Int) (l1 : List Int) (l2 : List S39) : Option (Bool × Bool) := if l0.length ≤ 1048576 ∧ l1.length ≤ 1048576 ∧ l2.length ≤ 1048576 then some (igpR l0 l1 l2) else none
def impl_IsGiftPath.T6 : Bool × List (List Nat × List Nat) := (true, [([], []), ([0], [0]), ([1], [1]), ([1], [1]), ([3, 1], [1, 3]), ([4, 1], [1, 4]), ([2, 5, 1], [1, 2, 5]), ([6, 1], [1, 6]), ([1], [1]), ([8, 1, 1], [1, 8]), ([7, 9, 9, 1], [1, 7, 9]), ([1, 10], [1, 10]), ([11, 10, 0, 1, 2, 3, 4, 5, 6, 7, 8, 9, 10, 11], [11]), ([12, 0, 1, 2, 3, 4, 5, 6, 7, 8, 9, 10, 11, 12], [])])
def impl_IsGiftPath.B6 : List Nat := [0, 1, 3, 3, 11, 27, 63, 127, 3, 259, 1023, 2047, 4095, 8191]
theorem impl_IsGiftPath.tab6 : rtab .any (opsOf Try.f63 6) = impl_IsGiftPath.T6 := by kernel_rfl
theorem impl_IsGiftPath.bits6 : waitsOk impl_IsGiftPath.T6.2 impl_IsGiftPath.B6 = true := by kernel_rfl
theorem impl_IsGiftPath.calls (A0 : Option Addr) (c0 : Nat) (l0 : List Int) (A1 : Option Addr) (c1 : Nat) (l1 : List Int) (A2 : Option Addr) (c2 : Nat) (l2 : List S39) (r1 : Bool) (r2 : Bool) (w : World) (hr0 : Kd.C (Kd.int .i64) w A0 l0.length l0) (hc0 : l0.length ≤ c0) (hr1 : Kd.C (Kd.int .i64) w A1 l1.length l1) (hc1 : l1.length ≤ c1) (hr2 : Kd.C k39 w A2 l2.length l2) (hc2 : l2.length ≤ c2) (h : impl_IsGiftPath.f l0 l1 l2 = some (r1, r2)) :
 Calls Try.prog 63 #[.slice A0 l0.length c0, .slice A1 l1.length c1, .slice A2 l2.length c2] w fun e w' => e = .returned (.tuple #[.bool r1, .bool r2]) ∧ Below w.heap.size w w' := by
 unfold impl_IsGiftPath.f at h
 split at h
 next hs =>
  obtain ⟨hs0, hs1, hs2⟩ := hs
  have h := zbc h; obtain ⟨k1, hA⟩ := Ev.get (areLists_ev l0 l1 hs0 hs1)
  have HR0 := zad hr0; have HC0 := zad hc0; have HR1 := zad hr1; have HC1 := zad hc1; have HR2 := zad hr2; have HC2 := zad hc2; have AA := zad hA; have HB0 := zad (Below.refl w.heap.size w)
  have HS0 := zad hs0; have HS1 := zad hs1; have HS2 := zad hs2; clear hr0 hc0 hr1 hc1 hr2 hc2 hA hs0 hs1 hs2; unfold igpR at h
  by_cases a : (if goodL l0 = true then goodL l1 else false) = true
  · rw [if_pos a] at h
    rw [a] at AA
    have hg : goodL l0 = true ∧ goodL l1 = true := by
     by_cases g : goodL l0 = true
     · rw [if_pos g] at a
       exact ⟨g, a⟩
     · rw [if_neg g] at a
       cases a
    obtain ⟨k2, hF⟩ := Ev.get (doFit_ev l0 l1 (good_sm hg.1) (good_sm hg.2))
    have AF := zad hF; clear hF; by_cases f : fitB l0 l1 = true
    · rw [if_pos f] at h
      rw [f] at AF
      by_cases n : (l2.length : Int) > 240
      · rw [if_pos n] at h
        obtain ⟨e1, e2⟩ := Prod.mk.inj h
        subst e1; subst e2; have n1 : decide (240 < (l2.length : Int)) = true := zba n
        have n2 : decide (240 < l2.length) = true := zba (by omega)
        clear a f n h hg; go_enter Try.func63, Try.ntmps63
        go_wp2_with (first | (go_at_call 107; (with_reducible refine (impl_areLists.calls k1 _ _ l0 _ _ l1 true _ ?side1 ?side2 ?side3 ?side4 AA.out).mono ?_); (case side1 => repeat (first | exact HR0.out | (with_reducible refine zal ?_ _) | (with_reducible refine zam ?_ _) | (with_reducible refine zan ?_))); (case side2 => exact HC0.out); (case side3 => repeat (first | exact HR1.out | (with_reducible refine zal ?_ _) | (with_reducible refine zam ?_ _) | (with_reducible refine zan ?_))); (case side4 => exact HC1.out); rintro e w' ⟨rfl, ⟨nd, rfl⟩⟩) | (go_at_call 112; (with_reducible refine (impl_doFit.calls k2 _ _ l0 _ _ l1 true _ ?side1 ?side2 ?side3 ?side4 AF.out).mono ?_); (case side1 => repeat (first | exact HR0.out | (with_reducible refine zal ?_ _) | (with_reducible refine zam ?_ _) | (with_reducible refine zan ?_))); (case side2 => exact HC0.out); (case side3 => repeat (first | exact HR1.out | (with_reducible refine zal ?_ _) | (with_reducible refine zam ?_ _) | (with_reducible refine zan ?_))); (case side4 => exact HC1.out); rintro e w' ⟨rfl, ⟨nd, rfl⟩⟩))
        go_ret2
        exact ⟨rfl, tadn⟩
      · rw [if_neg n] at h
        have n1 : decide (240 < (l2.length : Int)) = false := zbh n
        have n2 : decide (240 < l2.length) = false := zbh (by omega)
        have HCON : Aside0 (∀ q, Calls Try.prog 132 #[.slice A2 l2.length c2, .func (.func 133) #[] #[.pointer (some ⟨w.heap.size, 0, none⟩)]] ((w.alloc (.cells #[.slice A1 l1.length c1] 26)).drewN q) fun e w' => e = .returned (.bool (l2.any fun g => !isG l1 g.f0 g.f1 g.f2)) ∧ Below ((w.alloc (.cells #[.slice A1 l1.length c1] 26)).drewN q).heap.size ((w.alloc (.cells #[.slice A1 l1.length c1] 26)).drewN q) w') := ⟨fun q => gift_has A2 c2 l2 (fun g => !isG l1 g.f0 g.f1 g.f2) w.heap.size _ HS2.out (Kd.C_below HR2.out (zae (zag HB0.out _) q)) (fun g W' hb => igp_row w.heap.size A1 c1 l1 g.f0 g.f1 g.f2 W' HS1.out (pw_cell_below hb (tacy)) (Kd.C_below HR1.out (zbe (zae (zag HB0.out _) q) hb)) HC1.out)⟩
        by_cases g : (l2.any fun g => !isG l1 g.f0 g.f1 g.f2) = true
        · rw [if_pos g] at h
          rw [g] at HCON
          obtain ⟨e1, e2⟩ := Prod.mk.inj h
          subst e1; subst e2; clear a f n h hg g; go_enter Try.func63, Try.ntmps63
          go_wp2_with (first | (go_at_call 107; (with_reducible refine (impl_areLists.calls k1 _ _ l0 _ _ l1 true _ ?side1 ?side2 ?side3 ?side4 AA.out).mono ?_); (case side1 => repeat (first | exact HR0.out | (with_reducible refine zal ?_ _) | (with_reducible refine zam ?_ _) | (with_reducible refine zan ?_))); (case side2 => exact HC0.out); (case side3 => repeat (first | exact HR1.out | (with_reducible refine zal ?_ _) | (with_reducible refine zam ?_ _) | (with_reducible refine zan ?_))); (case side4 => exact HC1.out); rintro e w' ⟨rfl, ⟨nd, rfl⟩⟩) | (go_at_call 112; (with_reducible refine (impl_doFit.calls k2 _ _ l0 _ _ l1 true _ ?side1 ?side2 ?side3 ?side4 AF.out).mono ?_); (case side1 => repeat (first | exact HR0.out | (with_reducible refine zal ?_ _) | (with_reducible refine zam ?_ _) | (with_reducible refine zan ?_))); (case side2 => exact HC0.out); (case side3 => repeat (first | exact HR1.out | (with_reducible refine zal ?_ _) | (with_reducible refine zam ?_ _) | (with_reducible refine zan ?_))); (case side4 => exact HC1.out); rintro e w' ⟨rfl, ⟨nd, rfl⟩⟩) | (go_at_call 132; refine (HCON.out _).mono ?_; rintro e w1 ⟨rfl, hb⟩; have HB := zad (zbe (zae (zag HB0.out _) _) hb); have hcb := pw_cell_below hb (show (World.drewN (w.alloc (.cells #[.slice A1 l1.length c1] 26)) _).cell? ⟨w.heap.size, 0, none⟩ = some (.slice A1 l1.length c1) from by exact tacy); clear hb))
          go_ret2
          exact ⟨rfl, taaa⟩
        · rw [if_neg g] at h
          rw [zbg.2 g] at HCON
          unfold igpM at h
          have hfo : impl_follow.f l1 l2 = some (folA [descL l1] (foll (descL l1) l2) (decide ((l2.length : Int) ≤ 240))) := by
           unfold impl_follow.f
           rw [if_pos ⟨hg.2, HS2.out⟩]
          rw [zba (show (l2.length : Int) ≤ 240 by omega)] at hfo
          have hrk := ranking_eq (good_sm hg.1)
          cases hm : foll (descL l1) l2 with
          | some M =>
           rw [hm] at h hfo
           simp only [folA, List.singleton_append] at h hfo
           obtain ⟨e1, e2⟩ := Prod.mk.inj h
           subst e2; have hlen := folM_len hm; have hpos : 0 < (descL l1 :: M).length := by simp
           have hlen2 : (descL l1 :: M).length ≤ 1048577 := by rw [List.length_cons]; omega
           generalize descL l1 :: M = t1521 at hfo e1 hpos hlen2
           have hsm := (good_sm hg.1).1
           have hdl : (descL l0).length ≤ 1000 := by rw [descL_length]; exact hsm
           generalize descL l0 = t1526 at hrk e1 hdl
           have hj0 : wrap64 ((t1521.length : Int) - 1) = ((t1521.length - 1 : Nat) : Int) := by rw [w64 (by omega) (by omega)]; omega
           have hlr : lastR t1521 = rd_L2 t1521 (wrap64 ((t1521.length : Int) - 1)) := by
            rw [hj0]
            unfold lastR rd_L2
            rw [Int.toNat_natCast]
           rw [hlr] at e1
           obtain ⟨ji16, hji16⟩ : ∃ j_ : Int, (wrap64 ((t1521.length : Int) - 1)) = j_ := ⟨_, rfl⟩
           rw [hji16] at e1 hj0
           have hji16w : (IntKind.i64.wrap ((t1521.length : Int) - 1)) = ji16 := (zbw _).trans hji16
           have c17b0 : decide (0 ≤ (ji16)) = true := zba (by omega)
           have c18b0 : decide ((ji16) < (t1521.length : Int)) = true := zba (by omega)
           obtain ⟨kj3, hE⟩ := Ev.get (slEqual_ev' (rd_L2 t1521 ji16) t1526 hdl)
           rw [e1] at hE
           obtain ⟨t1529, ht⟩ : ∃ t, t = r1 := ⟨_, rfl⟩
           rw [← ht] at hE ⊢
           have A14 := zad hfo; have A19 := zad hrk; have A20 := zad hE; clear a f n h hg g hlr hpos hlen2 hdl hsm hE ht e1 hfo hrk hj0 hlen hm; go_enter Try.func63, Try.ntmps63
           go_wp2_with (first | (go_at_call 107; (with_reducible refine (impl_areLists.calls k1 _ _ l0 _ _ l1 true _ ?side1 ?side2 ?side3 ?side4 AA.out).mono ?_); (case side1 => repeat (first | exact HR0.out | (with_reducible refine zal ?_ _) | (with_reducible refine zam ?_ _) | (with_reducible refine zan ?_))); (case side2 => exact HC0.out); (case side3 => repeat (first | exact HR1.out | (with_reducible refine zal ?_ _) | (with_reducible refine zam ?_ _) | (with_reducible refine zan ?_))); (case side4 => exact HC1.out); rintro e w' ⟨rfl, ⟨nd, rfl⟩⟩) | (go_at_call 112; (with_reducible refine (impl_doFit.calls k2 _ _ l0 _ _ l1 true _ ?side1 ?side2 ?side3 ?side4 AF.out).mono ?_); (case side1 => repeat (first | exact HR0.out | (with_reducible refine zal ?_ _) | (with_reducible refine zam ?_ _) | (with_reducible refine zan ?_))); (case side2 => exact HC0.out); (case side3 => repeat (first | exact HR1.out | (with_reducible refine zal ?_ _) | (with_reducible refine zam ?_ _) | (with_reducible refine zan ?_))); (case side4 => exact HC1.out); rintro e w' ⟨rfl, ⟨nd, rfl⟩⟩) | (go_at_call 132; refine (HCON.out _).mono ?_; rintro e w1 ⟨rfl, hb⟩; have HB := zad (zbe (zae (zag HB0.out _) _) hb); have hcb := pw_cell_below hb (show (World.drewN (w.alloc (.cells #[.slice A1 l1.length c1] 26)) _).cell? ⟨w.heap.size, 0, none⟩ = some (.slice A1 l1.length c1) from by exact tacy); clear hb) | (go_at_call 134; (with_reducible refine (impl_follow.calls _ _ l1 _ _ l2 t1521 true _ ?side1 ?side2 ?side3 ?side4 A14.out).mono ?_); (case side1 => exact Kd.C_below HR1.out (taaa)); (case side2 => exact HC1.out); (case side3 => exact Kd.C_below HR2.out (taaa)); (case side4 => exact HC2.out); rintro e w21 ⟨v1523, rfl, ho0, hb⟩; have n0_ := zad (Kd.S_lower ho0 (zbk (taaa))); have n1_ := zad (zbe (taaa) hb); clear HB; have HO1524 := n0_; have HB := n1_; clear n0_ n1_ hb ho0 hcb))
           have n0_ := zad (Kd.S_drew HO1524.out)
           have n1_ := zad (zaf HB.out)
           clear HO1524 HB; have HO1524 := n0_; have HB := n1_; clear n0_ n1_; obtain ⟨Ao23, co23, eo23⟩ := Kd.S_slice HO1524.out
           (first | subst eo23 | (injection eo23 with f1_ f2_ f3_; have f4_ := f1_.symm; have f5_ := f3_.symm; clear f1_ f2_ f3_; subst f4_; subst f5_))
           have p1525 : 0 ≤ ((ji16) : Int) := zas (taab)
           have q1525 : (ji16) < (t1521.length : Int) := zas (taab)
           obtain ⟨ad1525, A1525_0, c1525_0, e1525, hx1525_0, hl1525_0, hi1525_0⟩ := at_L2 (Kd.S_reads' HO1524.out).2.2 (ji16) p1525 q1525
           cases e1525
           obtain ⟨ce1525, hce1525, hMe1525, hcc1525⟩ := Kd.S_get HO1524.out [] (ji16) p1525 (by first | exact q1525 | exact zas (taab) | (have e_ := (Kd.S_reads' HO1524.out).1; omega))
           obtain ⟨ve1525_0, rfl, ge1525_0⟩ := hMe1525
           have hv1525_0 := hcc1525 0 _ rfl
           rw [Nat.add_zero, show ((Kd.slice 3 (Kd.int .i64))).sz = 1 from rfl, Nat.mul_one] at hv1525_0
           replace hv1525_0 := zbc (hv1525_0.symm.trans hx1525_0)
           rw [hv1525_0] at ge1525_0
           have HL1525_0 := zad (show Kd.R (Kd.int .i64) 3 _ _ _ _ (rd_L2 t1521 (ji16)) from ge1525_0)
           clear hv1525_0 ge1525_0 hcc1525 hce1525; have HR1525_0 := zad hi1525_0; have HC1525_0 := zad hl1525_0; clear hi1525_0 hl1525_0; replace p1525 := eq_true p1525
           replace q1525 := eq_true q1525
           refine start_ (n := 14) (S := fun w' => w'.cell? (ad1525.add ((ji16)).toNat) = some (.slice A1525_0 (rd_L2 t1521 (ji16)).length c1525_0)) (ds := []) #[false, false, false, false, false, false, false, false, false, false, false, false, false, false] (by kernel_rfl) rfl rfl (hx1525_0) (fun hHeld => ?_); refine with_tabW impl_IsGiftPath.tab6 impl_IsGiftPath.bits6 (fun HT_ HW_ => ?_)
           generalize w21.drew = w22 at HO1524 HB HL1525_0 HR1525_0 hx1525_0 hHeld ⊢
           refine pure_ (i := 0) (N := some 34) (v := ?_) (a' := ?_) tajf rfl rfl (zby HT_.out (by kernel_rfl)) (fun _ _ _ h => h) (Or.inl ⟨by rfl, ?_⟩) ?_ ?_
           rotate_left
           · intro w'
             go_simp; with_reducible rfl
           rotate_left
           · simp only [Act.put, zaa, zab, zac, zbw, zbx]
             rfl
           refine pure_ (i := 1) (N := some 35) (v := ?_) (a' := ?_) tajg rfl rfl (zby HT_.out (by kernel_rfl)) (fun _ _ _ h => h) (Or.inl ⟨by rfl, ?_⟩) ?_ ?_
           rotate_left
           · intro w'
             go_simp; with_reducible rfl
           rotate_left
           · simp only [Act.put, zaa, zab, zac, zbw, zbx]
             rfl
           refine pure_ (i := 2) (N := some 36) (v := ?_) (a' := ?_) tajh rfl rfl (zby HT_.out (by kernel_rfl)) (fun _ _ _ h => h) (Or.inl ⟨by rfl, ?_⟩) ?_ ?_
           rotate_left
           · intro w'
             go_simp; with_reducible rfl
           rotate_left
           · simp only [Act.put, zaa, zab, zac, zbw, zbx]
             rfl
           refine pure_ (i := 3) (N := some 37) (v := ?_) (a' := ?_) taji rfl rfl (zby HT_.out (by kernel_rfl)) (fun _ _ _ h => h) (Or.inl ⟨by rfl, ?_⟩) ?_ ?_
           rotate_left
           · intro w'
             go_simp; with_reducible rfl
           rotate_left
           · simp only [Act.put, zaa, zab, zac, zbw, zbx]
             rfl
           refine pure_ (i := 4) (N := some 38) (v := ?_) (a' := ?_) tajj rfl rfl (zby HT_.out (by kernel_rfl)) (fun _ _ _ h => h) (Or.inl ⟨by rfl, ?_⟩) ?_ ?_
           rotate_left
           · intro w'
             go_simp; with_reducible rfl
           rotate_left
           · simp only [Act.put, zaa, zab, zac, zbw, zbx]
             rfl
           refine pure_ (i := 5) (N := some 39) (v := ?_) (a' := ?_) tajk rfl rfl (zby HT_.out (by kernel_rfl)) (fun _ _ _ h => h) (Or.inl ⟨by rfl, ?_⟩) ?_ ?_
           rotate_left
           · intro w'
             go_simp; with_reducible rfl
           rotate_left
           · simp only [Act.put, zaa, zab, zac, zbw, zbx]
             rfl
           refine pure_ (i := 6) (N := some 40) (v := ?_) (a' := ?_) tajl rfl rfl (zby HT_.out (by kernel_rfl)) (fun _ _ _ h => h) (Or.inl ⟨by rfl, ?_⟩) ?_ ?_
           rotate_left
           · intro w'
             go_simp; with_reducible rfl
           rotate_left
           · simp only [Act.put, zaa, zab, zac, zbw, zbx]
             rfl
           refine pure_ (i := 8) (N := some 42) (v := ?_) (a' := ?_) #[true, true, true, true, true, true, true, false, true, false, false, false, false, false] rfl rfl (zby HT_.out (by kernel_rfl)) (fun _ _ _ h => h) (Or.inl ⟨by rfl, ?_⟩) ?_ ?_
           rotate_left
           · intro w'
             go_simp; with_reducible rfl
           rotate_left
           · simp only [Act.put, zaa, zab, zac, zbw, zbx]
             rfl
           refine take_ (i := 7) (N := some 41) (v := ?_) (a' := ?_) tajm rfl rfl (zbz HT_.out HW_.out (by kernel_rfl)) (fun _ _ _ h => h) (Or.inl ⟨by rfl, ?_⟩) hHeld ?_ ?_
           rotate_left
           · intro w' s0
             go_simp; with_reducible rfl
           rotate_left
           · simp only [Act.put, zaa, zab, zac, zbw, zbx]
             rfl
           refine one_ (i := 9) (N := some 43) #[true, true, true, true, true, true, true, true, true, true, false, false, false, false] rfl rfl (one_of HT_.out (by kernel_rfl)) (by decide) (fun K hK => ?_)
           refine goes_ Try.func88 (by kernel_rfl) rfl #[.slice A0 l0.length c0] (by rfl) rfl rfl (taad) ?_
           with_reducible refine (impl_ranking.calls _ _ l0 t1526 _ ?side1 ?side2 A19.out).mono ?_
           (case side1 => exact taev)
           (case side2 => exact HC0.out)
           rintro e w24 ⟨v1527, rfl, ho0, hb⟩
           have HS0_ := (hb.cell (zaz _ _ (hHeld))).trans (hHeld)
           refine ⟨_, rfl, ?_⟩
           have n0_ := zad (Kd.S_elder' (by (with_reducible repeat (first | apply Kd.S_alloc | apply Kd.S_drewN | apply Kd.S_drew)); exact HO1524.out) (zcd ho0) hb)
           have n1_ := zad (zcb (by (with_reducible repeat (first | apply zai | apply zaj | apply zak)); exact HL1525_0.out) (zcd ho0) hb)
           have n2_ := zad (zbu (zcc ho0 (zce (by (with_reducible repeat (first | apply zai | apply zaj | apply zak)); exact HL1525_0.out))) (zbk (taaa)))
           have n3_ := zad (Kd.C_below (taea) hb)
           have n4_ := zad (zbe (taaa) hb)
           clear HO1524 HL1525_0 HR1525_0 HB; have HO1524 := n0_; have HL1525_0 := n1_; have HO1528 := n2_; have HR1525_0 := n3_; have HB := n4_; clear n0_ n1_ n2_ n3_ n4_; (try clear hb); (try clear hb2); (try clear hk); (try clear hi); (try clear ho0); obtain ⟨Ao25, co25, eo25⟩ := zbv HO1528.out
           (first | subst eo25 | (injection eo25 with f1_ f2_ f3_; have f4_ := f1_.symm; have f5_ := f3_.symm; clear f1_ f2_ f3_; subst f4_; subst f5_))
           refine hK.out _ _ (HS0_) (fun hHeld => ?_)
           clear hK K; refine norm_ (a' := ?_) ?_ ?_
           rotate_left
           · show Act.put _ (some 43) _ = _
             simp only [Act.put, zaa, zab, zac, zbw, zbx]
             rfl
           refine one_ (i := 10) (N := some 44) #[true, true, true, true, true, true, true, true, true, true, true, false, false, false] rfl rfl (one_of HT_.out (by kernel_rfl)) (by decide) (fun K hK => ?_)
           refine goes_ Try.func135 (by kernel_rfl) rfl #[.slice A1525_0 (rd_L2 t1521 (ji16)).length c1525_0, .slice Ao25 t1526.length co25] (by rfl) rfl rfl (by (try simp only [zat, zau, zav]); first | done | (simp only [hji16]; rfl) | rfl | (simp only [zaw, zax]; rfl)) ?_
           with_reducible refine (slices_Equal_int_int.calls kj3 _ _ (rd_L2 t1521 (ji16)) _ _ t1526 t1529 _ ?side1 ?side2 ?side3 ?side4 A20.out).mono ?_
           (case side1 => repeat (first | exact (taea) | (with_reducible refine zal ?_ _) | (with_reducible refine zam ?_ _) | (with_reducible refine zan ?_)))
           (case side2 => exact HC1525_0.out)
           (case side3 => repeat (first | exact (zbd HO1528.out).2.2 | (with_reducible refine zal ?_ _) | (with_reducible refine zam ?_ _) | (with_reducible refine zan ?_)))
           (case side4 => exact (zbd HO1528.out).2.1)
           rintro e w' ⟨rfl, ⟨nd, rfl⟩⟩
           refine ⟨_, rfl, ?_⟩
           refine hK.out _ _ (hHeld) (fun hHeld => ?_)
           clear hK K; refine norm_ (a' := ?_) ?_ ?_
           rotate_left
           · show Act.put _ (some 44) _ = _
             simp only [Act.put, zaa, zab, zac, zbw, zbx]
             rfl
           refine pure_ (i := 11) (N := some 45) (v := ?_) (a' := ?_) tajn rfl rfl (zby HT_.out (by kernel_rfl)) (fun _ _ _ h => h) (Or.inl ⟨by rfl, ?_⟩) ?_ ?_
           rotate_left
           · intro w'
             go_simp; with_reducible rfl
           rotate_left
           · simp only [Act.put, zaa, zab, zac, zbw, zbx]
             rfl
           refine pure_ (i := 12) (N := some 6) (v := ?_) (a' := ?_) tajo rfl rfl (zby HT_.out (by kernel_rfl)) (fun _ _ _ h => h) (Or.inl ⟨by rfl, ?_⟩) ?_ ?_
           rotate_left
           · intro w'
             go_simp; with_reducible rfl
           rotate_left
           · simp only [Act.put, zaa, zab, zac, zbw, zbx]
             rfl
           refine pure_ (i := 13) (N := some 7) (v := ?_) (a' := ?_) tajp rfl rfl (zby HT_.out (by kernel_rfl)) (fun _ _ _ h => h) (Or.inl ⟨by rfl, ?_⟩) ?_ ?_
           rotate_left
           · intro w'
             go_simp; with_reducible rfl
           rotate_left
           · simp only [Act.put, zaa, zab, zac, zbw, zbx]
             rfl
           refine done_ (done_of HT_.out (by kernel_rfl)) ?_
           try go_wp2
           go_ret2
           exact ⟨by first | rfl | (simp only [← hji16]; first | rfl | simp) | (simp [*] <;> rfl), taaa⟩
          | none =>
           rw [hm] at h hfo
           simp only [folA] at h hfo
           obtain ⟨e1, e2⟩ := Prod.mk.inj h
           subst e1; subst e2; have A14 := zad hfo; clear a f n h hg g hfo hrk hm; go_enter Try.func63, Try.ntmps63
           go_wp2_with (first | (go_at_call 107; (with_reducible refine (impl_areLists.calls k1 _ _ l0 _ _ l1 true _ ?side1 ?side2 ?side3 ?side4 AA.out).mono ?_); (case side1 => repeat (first | exact HR0.out | (with_reducible refine zal ?_ _) | (with_reducible refine zam ?_ _) | (with_reducible refine zan ?_))); (case side2 => exact HC0.out); (case side3 => repeat (first | exact HR1.out | (with_reducible refine zal ?_ _) | (with_reducible refine zam ?_ _) | (with_reducible refine zan ?_))); (case side4 => exact HC1.out); rintro e w' ⟨rfl, ⟨nd, rfl⟩⟩) | (go_at_call 112; (with_reducible refine (impl_doFit.calls k2 _ _ l0 _ _ l1 true _ ?side1 ?side2 ?side3 ?side4 AF.out).mono ?_); (case side1 => repeat (first | exact HR0.out | (with_reducible refine zal ?_ _) | (with_reducible refine zam ?_ _) | (with_reducible refine zan ?_))); (case side2 => exact HC0.out); (case side3 => repeat (first | exact HR1.out | (with_reducible refine zal ?_ _) | (with_reducible refine zam ?_ _) | (with_reducible refine zan ?_))); (case side4 => exact HC1.out); rintro e w' ⟨rfl, ⟨nd, rfl⟩⟩) | (go_at_call 132; refine (HCON.out _).mono ?_; rintro e w1 ⟨rfl, hb⟩; have HB := zad (zbe (zae (zag HB0.out _) _) hb); have hcb := pw_cell_below hb (show (World.drewN (w.alloc (.cells #[.slice A1 l1.length c1] 26)) _).cell? ⟨w.heap.size, 0, none⟩ = some (.slice A1 l1.length c1) from by exact tacy); clear hb) | (go_at_call 134; (with_reducible refine (impl_follow.calls _ _ l1 _ _ l2 [] false _ ?side1 ?side2 ?side3 ?side4 A14.out).mono ?_); (case side1 => exact Kd.C_below HR1.out (taaa)); (case side2 => exact HC1.out); (case side3 => exact Kd.C_below HR2.out (taaa)); (case side4 => exact HC2.out); rintro e w26 ⟨v1523, rfl, ho0, hb⟩; have n0_ := zad (Kd.S_lower ho0 (zbk (taaa))); have n1_ := zad (zbe (taaa) hb); clear HB; have HO1524 := n0_; have HB := n1_; clear n0_ n1_ hb ho0 hcb))
           have n0_ := zad (Kd.S_drew HO1524.out)
           have n1_ := zad (zaf HB.out)
           clear HO1524 HB; have HO1524 := n0_; have HB := n1_; clear n0_ n1_; refine start_ (n := 14) (S := fun w' => True) (ds := []) #[false, false, false, false, false, false, false, false, false, false, false, false, false, false] (by kernel_rfl) rfl rfl trivial (fun hHeld => ?_); refine with_tabW impl_IsGiftPath.tab6 impl_IsGiftPath.bits6 (fun HT_ HW_ => ?_)
           generalize w26.drew = w27 at HO1524 HB hHeld ⊢
           refine pure_ (i := 0) (N := some 34) (v := ?_) (a' := ?_) tajf rfl rfl (zby HT_.out (by kernel_rfl)) (fun _ _ _ h => h) (Or.inl ⟨by rfl, ?_⟩) ?_ ?_
           rotate_left
           · intro w'
             go_simp; with_reducible rfl
           rotate_left
           · simp only [Act.put, zaa, zab, zac, zbw, zbx]
             rfl
           refine pure_ (i := 1) (N := some 35) (v := ?_) (a' := ?_) tajg rfl rfl (zby HT_.out (by kernel_rfl)) (fun _ _ _ h => h) (Or.inl ⟨by rfl, ?_⟩) ?_ ?_
           rotate_left
           · intro w'
             go_simp; with_reducible rfl
           rotate_left
           · simp only [Act.put, zaa, zab, zac, zbw, zbx]
             rfl
           refine pure_ (i := 2) (N := some 36) (v := undef) (a' := ?_) tajh rfl rfl (zby HT_.out (by kernel_rfl)) (fun _ _ _ h => h) (Or.inr ⟨by rfl, rfl⟩) ?_ ?_
           rotate_left
           · simp only [Act.put, zaa, zab, zac, zbw, zbx]
             rfl
           refine pure_ (i := 3) (N := some 37) (v := undef) (a' := ?_) taji rfl rfl (zby HT_.out (by kernel_rfl)) (fun _ _ _ h => h) (Or.inr ⟨by rfl, rfl⟩) ?_ ?_
           rotate_left
           · simp only [Act.put, zaa, zab, zac, zbw, zbx]
             rfl
           refine pure_ (i := 4) (N := some 38) (v := undef) (a' := ?_) tajj rfl rfl (zby HT_.out (by kernel_rfl)) (fun _ _ _ h => h) (Or.inr ⟨by rfl, rfl⟩) ?_ ?_
           rotate_left
           · simp only [Act.put, zaa, zab, zac, zbw, zbx]
             rfl
           refine pure_ (i := 5) (N := some 39) (v := undef) (a' := ?_) tajk rfl rfl (zby HT_.out (by kernel_rfl)) (fun _ _ _ h => h) (Or.inr ⟨by rfl, rfl⟩) ?_ ?_
           rotate_left
           · simp only [Act.put, zaa, zab, zac, zbw, zbx]
             rfl
           refine pure_ (i := 6) (N := some 40) (v := undef) (a' := ?_) tajl rfl rfl (zby HT_.out (by kernel_rfl)) (fun _ _ _ h => h) (Or.inr ⟨by rfl, rfl⟩) ?_ ?_
           rotate_left
           · simp only [Act.put, zaa, zab, zac, zbw, zbx]
             rfl
           refine pure_ (i := 7) (N := some 41) (v := undef) (a' := ?_) #[true, true, true, true, true, true, true, true, false, false, false, false, false, false] rfl rfl (zby HT_.out (by kernel_rfl)) (fun _ _ _ h => h) (Or.inr ⟨by rfl, rfl⟩) ?_ ?_
           rotate_left
           · simp only [Act.put, zaa, zab, zac, zbw, zbx]
             rfl
           refine pure_ (i := 8) (N := some 42) (v := undef) (a' := ?_) tajm rfl rfl (zby HT_.out (by kernel_rfl)) (fun _ _ _ h => h) (Or.inr ⟨by rfl, rfl⟩) ?_ ?_
           rotate_left
           · simp only [Act.put, zaa, zab, zac, zbw, zbx]
             rfl
           refine pure_ (i := 9) (N := some 43) (v := undef) (a' := ?_) #[true, true, true, true, true, true, true, true, true, true, false, false, false, false] rfl rfl (zby HT_.out (by kernel_rfl)) (fun _ _ _ h => h) (Or.inr ⟨by rfl, rfl⟩) ?_ ?_
           rotate_left
           · simp only [Act.put, zaa, zab, zac, zbw, zbx]
             rfl
           refine pure_ (i := 10) (N := some 44) (v := undef) (a' := ?_) #[true, true, true, true, true, true, true, true, true, true, true, false, false, false] rfl rfl (zby HT_.out (by kernel_rfl)) (fun _ _ _ h => h) (Or.inr ⟨by rfl, rfl⟩) ?_ ?_
           rotate_left
           · simp only [Act.put, zaa, zab, zac, zbw, zbx]
             rfl
           refine pure_ (i := 11) (N := some 45) (v := ?_) (a' := ?_) tajn rfl rfl (zby HT_.out (by kernel_rfl)) (fun _ _ _ h => h) (Or.inl ⟨by rfl, ?_⟩) ?_ ?_
           rotate_left
           · intro w'
             go_simp; with_reducible rfl
           rotate_left
           · simp only [Act.put, zaa, zab, zac, zbw, zbx]
             rfl
           refine pure_ (i := 12) (N := some 6) (v := ?_) (a' := ?_) tajo rfl rfl (zby HT_.out (by kernel_rfl)) (fun _ _ _ h => h) (Or.inl ⟨by rfl, ?_⟩) ?_ ?_
           rotate_left
           · intro w'
             go_simp; with_reducible rfl
           rotate_left
           · simp only [Act.put, zaa, zab, zac, zbw, zbx]
             rfl
           refine pure_ (i := 13) (N := some 7) (v := ?_) (a' := ?_) tajp rfl rfl (zby HT_.out (by kernel_rfl)) (fun _ _ _ h => h) (Or.inl ⟨by rfl, ?_⟩) ?_ ?_
           rotate_left
           · intro w'
             go_simp; with_reducible rfl
           rotate_left
           · simp only [Act.put, zaa, zab, zac, zbw, zbx]
             rfl
           refine done_ (done_of HT_.out (by kernel_rfl)) ?_
           try go_wp2
           go_ret2
           exact ⟨by first | rfl | (simp [*] <;> rfl), taaa⟩
    · rw [if_neg f] at h
      obtain ⟨e1, e2⟩ := Prod.mk.inj h
      subst e1; subst e2; rw [zbg.2 f] at AF
      clear a f h hg; go_enter Try.func63, Try.ntmps63
      go_wp2_with (first | (go_at_call 107; (with_reducible refine (impl_areLists.calls k1 _ _ l0 _ _ l1 true _ ?side1 ?side2 ?side3 ?side4 AA.out).mono ?_); (case side1 => repeat (first | exact HR0.out | (with_reducible refine zal ?_ _) | (with_reducible refine zam ?_ _) | (with_reducible refine zan ?_))); (case side2 => exact HC0.out); (case side3 => repeat (first | exact HR1.out | (with_reducible refine zal ?_ _) | (with_reducible refine zam ?_ _) | (with_reducible refine zan ?_))); (case side4 => exact HC1.out); rintro e w' ⟨rfl, ⟨nd, rfl⟩⟩) | (go_at_call 112; (with_reducible refine (impl_doFit.calls k2 _ _ l0 _ _ l1 false _ ?side1 ?side2 ?side3 ?side4 AF.out).mono ?_); (case side1 => repeat (first | exact HR0.out | (with_reducible refine zal ?_ _) | (with_reducible refine zam ?_ _) | (with_reducible refine zan ?_))); (case side2 => exact HC0.out); (case side3 => repeat (first | exact HR1.out | (with_reducible refine zal ?_ _) | (with_reducible refine zam ?_ _) | (with_reducible refine zan ?_))); (case side4 => exact HC1.out); rintro e w' ⟨rfl, ⟨nd, rfl⟩⟩))
      go_ret2
      exact ⟨rfl, tadn⟩
  · rw [if_neg a] at h
    obtain ⟨e1, e2⟩ := Prod.mk.inj h
    subst e1; subst e2; rw [zbg.2 a] at AA
    clear a h; go_enter Try.func63, Try.ntmps63
    go_wp2_with (first | (go_at_call 107; (with_reducible refine (impl_areLists.calls k1 _ _ l0 _ _ l1 false _ ?side1 ?side2 ?side3 ?side4 AA.out).mono ?_); (case side1 => exact taeu); (case side2 => exact HC0.out); (case side3 => exact taey); (case side4 => exact HC1.out); rintro e w' ⟨rfl, ⟨nd, rfl⟩⟩))
    go_ret2
    exact ⟨rfl, tadn⟩
 next => cases h
end Go.Proofs.Ytnlimjejllakoaa.A
