/- What the law FnGiftPathsExist reaches, part 4: Lean functions with the same answers as the Go functions, the proofs that the Go code comes to these answers, and lemmas about them; no condition beyond those that each theorem names. -/
import Derived.Test.YtnlimjejllakoaaCFnGiftPathsExistw1
import Derived.Test.YtnlimjejllakoaaCFnGiftPathsExist1
import Derived.Test.YtnlimjejllakoaaCFnGiftPathsExist2
import Derived.Test.YtnlimjejllakoaaCFnGiftPathsExist3
set_option linter.unusedVariables false
set_option linter.unusedSimpArgs false
set_option maxHeartbeats 8000000
set_option maxRecDepth 100000
namespace Go.Proofs.Ytnlimjejllakoaa.A
open Go.RowKit Go.Proofs.YtnlimjejllakoaaW.PrintWords Go.Proofs.YtnlimjejllakoaaW.PrintLast Go.Proofs.YtnlimjejllakoaaW.PrintMore
attribute [local go_sem] max2_int min2_int max_two min_two max_three min_three max_four min_four
def spec_giPath.l0 : Nat → Bool → List Int → List Int → List (S39) → Option ((List (S39)))
 | 0, _, _, _, _ => none
 | k + 1, x2, x7, x8, x9 => (spec_l1Same.f k x7 x8).bind fun t1200 => (if t1200 = true then (some x9) else ((spec_giNext.f k x7 x8).bind fun bt1201 => (if x2 = true then (if 0 ≤ bt1201.1 then (if bt1201.1 < (x8.length : Int) then (if bt1201.1 < (x7.length : Int) then (if 0 ≤ bt1201.2.1 then (if bt1201.2.1 < (x7.length : Int) then (if bt1201.2.1 < (x8.length : Int) then ((spec_l1Least.f (wrap64 ((rd x8 bt1201.1) - (rd x7 bt1201.1))) (wrap64 ((rd x7 bt1201.2.1) - (rd x8 bt1201.2.1)))).bind fun t1209 => (if x9.length < 5864062014805 then ((spec_giDo.f x8 bt1201.1 bt1201.2.1 t1209).bind fun t1213 => ((spec_liRank.f k t1213).bind fun t1216 => (spec_giPath.l0 k x2 x7 t1216 (x9 ++ [(⟨bt1201.1, bt1201.2.1, t1209⟩ : S39)])))) else (none))) else (none)) else (none)) else (none)) else (none)) else (none)) else (none)) else (if x9.length < 5864062014805 then ((spec_giDo.f x8 bt1201.1 bt1201.2.1 bt1201.2.2).bind fun t1222 => ((spec_liRank.f k t1222).bind fun t1225 => (spec_giPath.l0 k x2 x7 t1225 (x9 ++ [(⟨bt1201.1, bt1201.2.1, bt1201.2.2⟩ : S39)])))) else (none)))))
def spec_giPath.f (k : Nat) (l0 : List Int) (l1 : List Int) (a2 : Bool) : Option ((List (S39))) := (spec_liRank.f k l0).bind fun t1194 => ((spec_liRank.f k l1).bind fun t1197 => (spec_giPath.l0 k a2 t1194 t1197 ([] : List (S39))))
def spec_giPath.T6 : Bool × List (List Nat × List Nat) := (true, [([], []), ([], []), ([1], [1]), ([0, 2], [0, 2]), ([3], [3]), ([], []), ([], []), ([6], [6]), ([5, 7], [5, 7]), ([8], [8]), ([4, 9], [4, 9]), ([], []), ([], []), ([12], [12]), ([11, 13], [11, 13]), ([14], [14]), ([], []), ([], []), ([17], [17]), ([16, 18], [16, 18]), ([19], [19]), ([15, 20], [15, 20]), ([10, 21], [10, 21]), ([0, 1, 2, 3, 4, 5, 6, 7, 8, 9, 10, 11, 12, 13, 14, 15, 16, 17, 18, 19, 20, 21, 22], []), ([23, 22, 22, 0, 1, 2, 3, 4, 5, 6, 7, 8, 9, 10, 11, 12, 13, 14, 15, 16, 17, 18, 19, 20, 21, 22], [22, 23])])
def spec_giPath.B6 : List Nat := [0, 0, 2, 7, 15, 0, 0, 64, 224, 480, 1023, 0, 0, 4096, 14336, 30720, 0, 0, 131072, 458752, 983040, 2095104, 4194303, 8388607, 16777215]
theorem spec_giPath.tab6 : rtab .any (opsOf Try.f131 6) = spec_giPath.T6 := by kernel_rfl
theorem spec_giPath.bits6 : waitsOk spec_giPath.T6.2 spec_giPath.B6 = true := by kernel_rfl
theorem spec_giPath.calls (k : Nat) (A0 : Option Addr) (c0 : Nat) (l0 : List Int) (A1 : Option Addr) (c1 : Nat) (l1 : List Int) (a2 : Bool) (r : List (S39)) (w : World) (hr0 : Kd.C (Kd.int .i64) w A0 l0.length l0) (hc0 : l0.length ≤ c0) (hr1 : Kd.C (Kd.int .i64) w A1 l1.length l1) (hc1 : l1.length ≤ c1) (h : spec_giPath.f k l0 l1 a2 = some r) :
 Calls Try.prog 131 #[.slice A0 l0.length c0, .slice A1 l1.length c1, .bool a2] w fun e w' => ∃ v0_ : Value, e = .returned (v0_) ∧ Kd.R k39 39 w' w.heap.size (fun _ => True) v0_ r ∧ Below w.heap.size w w' := by
 have hu39 := Try.underlying39
 have HR0 := zad hr0; have HC0 := zad hc0; clear hr0 hc0; have HR1 := zad hr1; have HC1 := zad hc1; clear hr1 hc1; have HB := zad (Below.refl w.heap.size w)
 have H : ((spec_liRank.f k l0).bind fun t1194 => ((spec_liRank.f k l1).bind fun t1197 => (spec_giPath.l0 k a2 t1194 t1197 ([] : List (S39))))) = some r := h
 clear h; replace H := zay.mp H; obtain ⟨t1194, A40, H⟩ := H
 replace H : ((spec_liRank.f k l1).bind fun t1197 => (spec_giPath.l0 k a2 t1194 t1197 ([] : List (S39)))) = some r := H
 have A4 := zad A40; clear A40; replace H := zay.mp H; obtain ⟨t1197, A50, H⟩ := H
 replace H : (spec_giPath.l0 k a2 t1194 t1197 ([] : List (S39))) = some r := H
 have A5 := zad A50; clear A50; have H' := zad H
 clear H; go_enter Try.func131, Try.ntmps131
 go_wp2_with (first | ((with_reducible refine zbh (f := 108) rfl ?_); refine zbp (some 12) rfl rfl Try.func108 (by kernel_rfl) rfl #[.slice A0 l0.length c0] rfl (taad) ?_; (with_reducible refine (spec_liRank.calls k _ _ l0 t1194 _ ?side1 ?side2 A4.out).mono ?_); (case side1 => repeat (first | exact HR0.out | (with_reducible refine zal ?_ _) | (with_reducible refine zam ?_ _) | (with_reducible refine zan ?_))); (case side2 => exact HC0.out); rintro e w6 ⟨v1195, rfl, ho0, hb⟩; refine ⟨_, rfl, ?_⟩; have n0_ := zad (zbw ho0 (zbm (taab))); have n1_ := zad (zbg (taab) hb); clear HB; have HO1196 := n0_; have HB := n1_; clear n0_ n1_; (try clear hb); (try clear hb2); (try clear hk); (try clear hi); (try clear ho0)) | ((with_reducible refine zbh (f := 108) rfl ?_); refine zbp (some 14) rfl rfl Try.func108 (by kernel_rfl) rfl #[.slice A1 l1.length c1] rfl (taad) ?_; (with_reducible refine (spec_liRank.calls k _ _ l1 t1197 _ ?side1 ?side2 A5.out).mono ?_); (case side1 => repeat (first | exact (Kd.C_below HR1.out HB.out) | (with_reducible refine zal ?_ _) | (with_reducible refine zam ?_ _) | (with_reducible refine zan ?_))); (case side2 => exact HC1.out); rintro e w7 ⟨v1198, rfl, ho0, hb⟩; refine ⟨_, rfl, ?_⟩; have n0_ := zad (zcd (taet) (zcf ho0) hb); have n1_ := zad (zbw (zce ho0 (zcg (taet))) (zbm (taab))); have n2_ := zad (zbg (taab) hb); clear HO1196 HB; have HO1196 := n0_; have HO1199 := n1_; have HB := n2_; clear n0_ n1_ n2_; (try clear hb); (try clear hb2); (try clear hk); (try clear hi); (try clear ho0)))
 go_loopg [8, 9] k (fun kq v8 v9 w' => ∃ (x8_1 : List Int) (x9_1 : List (S39)), Aside0 (spec_giPath.l0 kq a2 t1194 x8_1 x9_1 = some r) ∧ Aside0 (kq ≤ k) ∧ Aside0 (Kd.R (Kd.int .i64) 3 w' w.heap.size (fun k_ => some k_ ≠ (v8 : Value).ownBlock) v1195 t1194) ∧ Aside0 (Kd.R (Kd.int .i64) 3 w' w.heap.size (fun k_ => some k_ ≠ (v1195 : Value).ownBlock) v8 x8_1) ∧ Aside0 (Kd.R k39 39 w' w.heap.size (fun _ => True) v9 x9_1) ∧ Aside0 (Below w.heap.size w w'))
 case atStart => exact ⟨(t1197), (([] : List (S39))), H', ⟨zch _⟩, ⟨by (with_reducible repeat (first | apply zai | apply zaj | apply zak)); exact zbs HO1196.out (fun _ hk => hk.2)⟩, ⟨by (with_reducible repeat (first | apply zai | apply zaj | apply zak)); exact zbs HO1199.out (fun _ hk => hk.2)⟩, ⟨tabj⟩, ⟨taab⟩⟩
 case round =>
  clear H'
  try clear c1
  try clear p2
  obtain ⟨x8_1, x9_1, HA, HK1, HO_7, HO_8, HO_9, HB⟩ := hrel
  cases gk with
  | zero => exact absurd HA.out (by simp [spec_giPath.l0])
  | succ k1 =>
   have H := HA.out
   clear HA; simp only [spec_giPath.l0] at H
   replace H := zay.mp H; obtain ⟨t1200, A80, H⟩ := H
   replace H : (if t1200 = true then (some x9_1) else ((spec_giNext.f k1 t1194 x8_1).bind fun bt1201 => (if a2 = true then (if 0 ≤ bt1201.1 then (if bt1201.1 < (x8_1.length : Int) then (if bt1201.1 < (t1194.length : Int) then (if 0 ≤ bt1201.2.1 then (if bt1201.2.1 < (t1194.length : Int) then (if bt1201.2.1 < (x8_1.length : Int) then ((spec_l1Least.f (wrap64 ((rd x8_1 bt1201.1) - (rd t1194 bt1201.1))) (wrap64 ((rd t1194 bt1201.2.1) - (rd x8_1 bt1201.2.1)))).bind fun t1209 => (if x9_1.length < 5864062014805 then ((spec_giDo.f x8_1 bt1201.1 bt1201.2.1 t1209).bind fun t1213 => ((spec_liRank.f k1 t1213).bind fun t1216 => (spec_giPath.l0 k1 a2 t1194 t1216 (x9_1 ++ [(⟨bt1201.1, bt1201.2.1, t1209⟩ : S39)])))) else (none))) else (none)) else (none)) else (none)) else (none)) else (none)) else (none)) else (if x9_1.length < 5864062014805 then ((spec_giDo.f x8_1 bt1201.1 bt1201.2.1 bt1201.2.2).bind fun t1222 => ((spec_liRank.f k1 t1222).bind fun t1225 => (spec_giPath.l0 k1 a2 t1194 t1225 (x9_1 ++ [(⟨bt1201.1, bt1201.2.1, bt1201.2.2⟩ : S39)])))) else (none))))) = some r := H
   have A8 := zad A80; clear A80; by_cases c9 : t1200 = true
   · subst c9
     have H1 : (some x9_1) = some r := by rw [if_pos rfl] at H; exact H
     clear H; have H := H1; clear H1; obtain rfl := zbe H
     obtain ⟨Ao10, co10, eo10⟩ := zbx HO_7.out
     subst eo10; obtain ⟨Ao11, co11, eo11⟩ := zbx HO_8.out
     subst eo11; go_wp2_with (first | ((with_reducible refine zbh (f := 118) rfl ?_); refine zbp (some 17) rfl rfl Try.func118 (by kernel_rfl) rfl #[.slice Ao10 t1194.length co10, .slice Ao11 x8_1.length co11] rfl (taad) ?_; (with_reducible refine (spec_l1Same.calls k1 _ _ t1194 _ _ x8_1 true _ ?side1 ?side2 ?side3 ?side4 A8.out).mono ?_); (case side1 => repeat (first | exact (zbf HO_7.out).2.2 | (with_reducible refine zal ?_ _) | (with_reducible refine zam ?_ _) | (with_reducible refine zan ?_))); (case side2 => exact (zbf HO_7.out).2.1); (case side3 => repeat (first | exact (zbf HO_8.out).2.2 | (with_reducible refine zal ?_ _) | (with_reducible refine zam ?_ _) | (with_reducible refine zan ?_))); (case side4 => exact (zbf HO_8.out).2.1); rintro e w' ⟨rfl, ⟨nd, rfl⟩⟩; refine ⟨_, rfl, ?_⟩))
     go_ret
     exact ⟨_, taaj, tabf, taab⟩
   · replace c9 := zbi.mpr c9
     subst c9; have H1 : ((spec_giNext.f k1 t1194 x8_1).bind fun bt1201 => (if a2 = true then (if 0 ≤ bt1201.1 then (if bt1201.1 < (x8_1.length : Int) then (if bt1201.1 < (t1194.length : Int) then (if 0 ≤ bt1201.2.1 then (if bt1201.2.1 < (t1194.length : Int) then (if bt1201.2.1 < (x8_1.length : Int) then ((spec_l1Least.f (wrap64 ((rd x8_1 bt1201.1) - (rd t1194 bt1201.1))) (wrap64 ((rd t1194 bt1201.2.1) - (rd x8_1 bt1201.2.1)))).bind fun t1209 => (if x9_1.length < 5864062014805 then ((spec_giDo.f x8_1 bt1201.1 bt1201.2.1 t1209).bind fun t1213 => ((spec_liRank.f k1 t1213).bind fun t1216 => (spec_giPath.l0 k1 a2 t1194 t1216 (x9_1 ++ [(⟨bt1201.1, bt1201.2.1, t1209⟩ : S39)])))) else (none))) else (none)) else (none)) else (none)) else (none)) else (none)) else (none)) else (if x9_1.length < 5864062014805 then ((spec_giDo.f x8_1 bt1201.1 bt1201.2.1 bt1201.2.2).bind fun t1222 => ((spec_liRank.f k1 t1222).bind fun t1225 => (spec_giPath.l0 k1 a2 t1194 t1225 (x9_1 ++ [(⟨bt1201.1, bt1201.2.1, bt1201.2.2⟩ : S39)])))) else (none)))) = some r := by rw [if_neg (show ¬ (false = true) by decide)] at H; exact H
     clear H; have H := H1; clear H1; replace H := zay.mp H; obtain ⟨⟨t1201, t1202, t1203⟩, A120, H⟩ := H
     replace H : (if a2 = true then (if 0 ≤ t1201 then (if t1201 < (x8_1.length : Int) then (if t1201 < (t1194.length : Int) then (if 0 ≤ t1202 then (if t1202 < (t1194.length : Int) then (if t1202 < (x8_1.length : Int) then ((spec_l1Least.f (wrap64 ((rd x8_1 t1201) - (rd t1194 t1201))) (wrap64 ((rd t1194 t1202) - (rd x8_1 t1202)))).bind fun t1209 => (if x9_1.length < 5864062014805 then ((spec_giDo.f x8_1 t1201 t1202 t1209).bind fun t1213 => ((spec_liRank.f k1 t1213).bind fun t1216 => (spec_giPath.l0 k1 a2 t1194 t1216 (x9_1 ++ [(⟨t1201, t1202, t1209⟩ : S39)])))) else (none))) else (none)) else (none)) else (none)) else (none)) else (none)) else (none)) else (if x9_1.length < 5864062014805 then ((spec_giDo.f x8_1 t1201 t1202 t1203).bind fun t1222 => ((spec_liRank.f k1 t1222).bind fun t1225 => (spec_giPath.l0 k1 a2 t1194 t1225 (x9_1 ++ [(⟨t1201, t1202, t1203⟩ : S39)])))) else (none))) = some r := H
     have A12 := zad A120; clear A120; by_cases c13 : a2 = true
     · subst c13
       have H1 : (if 0 ≤ t1201 then (if t1201 < (x8_1.length : Int) then (if t1201 < (t1194.length : Int) then (if 0 ≤ t1202 then (if t1202 < (t1194.length : Int) then (if t1202 < (x8_1.length : Int) then ((spec_l1Least.f (wrap64 ((rd x8_1 t1201) - (rd t1194 t1201))) (wrap64 ((rd t1194 t1202) - (rd x8_1 t1202)))).bind fun t1209 => (if x9_1.length < 5864062014805 then ((spec_giDo.f x8_1 t1201 t1202 t1209).bind fun t1213 => ((spec_liRank.f k1 t1213).bind fun t1216 => (spec_giPath.l0 k1 true t1194 t1216 (x9_1 ++ [(⟨t1201, t1202, t1209⟩ : S39)])))) else (none))) else (none)) else (none)) else (none)) else (none)) else (none)) else (none)) = some r := by rw [if_pos rfl] at H; exact H
       clear H; have H := H1; clear H1; by_cases c14 : 0 ≤ t1201
       · rw [if_pos c14] at H
         have c14b0 : decide (0 ≤ t1201) = true := zba c14
         clear c14; by_cases c15 : t1201 < (x8_1.length : Int)
         · rw [if_pos c15] at H
           have c15b0 : decide (t1201 < (x8_1.length : Int)) = true := zba c15
           clear c15; by_cases c16 : t1201 < (t1194.length : Int)
           · rw [if_pos c16] at H
             have c16b0 : decide (t1201 < (t1194.length : Int)) = true := zba c16
             clear c16; by_cases c17 : 0 ≤ t1202
             · rw [if_pos c17] at H
               have c17b0 : decide (0 ≤ t1202) = true := zba c17
               clear c17; by_cases c18 : t1202 < (t1194.length : Int)
               · rw [if_pos c18] at H
                 have c18b0 : decide (t1202 < (t1194.length : Int)) = true := zba c18
                 clear c18; by_cases c19 : t1202 < (x8_1.length : Int)
                 · rw [if_pos c19] at H
                   have c19b0 : decide (t1202 < (x8_1.length : Int)) = true := zba c19
                   clear c19; replace H := zay.mp H; obtain ⟨t1209, A200, H⟩ := H
                   replace H : (if x9_1.length < 5864062014805 then ((spec_giDo.f x8_1 t1201 t1202 t1209).bind fun t1213 => ((spec_liRank.f k1 t1213).bind fun t1216 => (spec_giPath.l0 k1 true t1194 t1216 (x9_1 ++ [(⟨t1201, t1202, t1209⟩ : S39)])))) else (none)) = some r := H
                   have A20 := zad A200; clear A200; by_cases c21 : x9_1.length < 5864062014805
                   · rw [if_pos c21] at H
                     have LMc21 := zad c21; clear c21; obtain ⟨y1210, hy1210⟩ : ∃ y_ : List (S39), y_ = (x9_1 ++ [(⟨t1201, t1202, t1209⟩ : S39)]) := ⟨_, rfl⟩
                     replace H : ((spec_giDo.f x8_1 t1201 t1202 t1209).bind fun t1213 => ((spec_liRank.f k1 t1213).bind fun t1216 => (spec_giPath.l0 k1 true t1194 t1216 y1210))) = some r := by first | (rw [hy1210]; with_reducible exact H) | (have H2_ := (zbd _ _).symm.trans H; rw [hy1210]; with_reducible exact H2_) | (have H2_ := (zbd _ _).symm.trans H; with_reducible exact H2_) | with_reducible exact H | (rw [hy1210]; exact H) | exact H
                     have Ny1210 := zad hy1210; clear hy1210; replace H := zay.mp H; obtain ⟨t1213, A220, H⟩ := H
                     replace H : ((spec_liRank.f k1 t1213).bind fun t1216 => (spec_giPath.l0 k1 true t1194 t1216 y1210)) = some r := H
                     have A22 := zad A220; clear A220; replace H := zay.mp H; obtain ⟨t1216, A230, H⟩ := H
                     replace H : (spec_giPath.l0 k1 true t1194 t1216 y1210) = some r := H
                     have A23 := zad A230; clear A230; have H' := zad H
                     clear H; obtain ⟨Ao24, co24, eo24⟩ := zbx HO_7.out
                     subst eo24; obtain ⟨Ao25, co25, eo25⟩ := zbx HO_8.out
                     subst eo25; try go_wp2_with (first | ((with_reducible refine zbh (f := 118) rfl ?_); refine zbp (some 17) rfl rfl Try.func118 (by kernel_rfl) rfl #[.slice Ao24 t1194.length co24, .slice Ao25 x8_1.length co25] rfl (taad) ?_; (with_reducible refine (spec_l1Same.calls k1 _ _ t1194 _ _ x8_1 false _ ?side1 ?side2 ?side3 ?side4 A8.out).mono ?_); (case side1 => repeat (first | exact (zbf HO_7.out).2.2 | (with_reducible refine zal ?_ _) | (with_reducible refine zam ?_ _) | (with_reducible refine zan ?_))); (case side2 => exact (zbf HO_7.out).2.1); (case side3 => repeat (first | exact (zbf HO_8.out).2.2 | (with_reducible refine zal ?_ _) | (with_reducible refine zam ?_ _) | (with_reducible refine zan ?_))); (case side4 => exact (zbf HO_8.out).2.1); rintro e w' ⟨rfl, ⟨nd, rfl⟩⟩; refine ⟨_, rfl, ?_⟩; (try (rw [drewN_self wr]; generalize hq_ : World.drewN wr _ = wr; have n0_ : Aside0 (Kd.R (Kd.int .i64) 3 wr w.heap.size (fun k_ => some k_ ≠ (.slice Ao25 x8_1.length co25 : Value).ownBlock) (.slice Ao24 t1194.length co24) t1194) := ⟨tafl⟩; have n1_ : Aside0 (Kd.R (Kd.int .i64) 3 wr w.heap.size (fun k_ => some k_ ≠ (.slice Ao24 t1194.length co24 : Value).ownBlock) (.slice Ao25 x8_1.length co25) x8_1) := ⟨by rw [← hq_]; exact (taax)⟩; have n2_ : Aside0 (Kd.R k39 39 wr w.heap.size (fun _ => True) u9 x9_1) := ⟨by rw [← hq_]; exact (tabf)⟩; have n3_ : Aside0 (Below w.heap.size w wr) := ⟨tafm⟩; clear HO_7 HO_8 HO_9 HB hq_; have HO_7 := n0_; have HO_8 := n1_; have HO_9 := n2_; have HB := n3_; clear n0_ n1_ n2_ n3_))) | ((with_reducible refine zbh (f := 153) rfl ?_); refine zbp (some 21) rfl rfl Try.func153 (by kernel_rfl) rfl #[.slice Ao24 t1194.length co24, .slice Ao25 x8_1.length co25] rfl (taad) ?_; (with_reducible refine (spec_giNext.calls k1 _ _ t1194 _ _ x8_1 t1201 t1202 t1203 _ ?side1 ?side2 ?side3 ?side4 A12.out).mono ?_); (case side1 => repeat (first | exact (zbf HO_7.out).2.2 | (with_reducible refine zal ?_ _) | (with_reducible refine zam ?_ _) | (with_reducible refine zan ?_))); (case side2 => exact (zbf HO_7.out).2.1); (case side3 => repeat (first | exact (zbf HO_8.out).2.2 | (with_reducible refine zal ?_ _) | (with_reducible refine zam ?_ _) | (with_reducible refine zan ?_))); (case side4 => exact (zbf HO_8.out).2.1); rintro e w26 ⟨rfl, hb⟩; refine ⟨_, rfl, ?_⟩; have n0_ := zad (zbv (taah) hb); have n1_ := zad (zbv (taax) hb); have n2_ := zad (zbv (tabf) hb); have n3_ := zad (zbg (taab) hb); clear HO_7 HO_8 HO_9 HB; have HO_7 := n0_; have HO_8 := n1_; have HO_9 := n2_; have HB := n3_; clear n0_ n1_ n2_ n3_; (try clear hb); (try clear hb2); (try clear hk); (try clear hi)) | ((with_reducible refine gate_dst (N := 10) rfl ?_); refine box_event ?hg (N := 10) ?hd (cs := #[.int .i64 0, .int .i64 0, .int .i64 0]) (t := 39) ?hr ?_; (case hd => rfl); (case hg => rfl); (case hr => first | (go_simp; done) | (go_simp; rfl)); intro gb1204 hg w27 hbox hb; have n0_ := zad (zbv (taah) hb); have n1_ := zad (zbv (taax) hb); have n2_ := zad (zbv (Kd.R_elderB (tabf) gb1204 (Nat.le_of_eq hg.symm)) hb); have n3_ := zad (zbg (taab) hb); have n4_ := zad (hbox); have n5_ := zad ((tafj : w.heap.size ≤ gb1204)); have n6_ := zad ((tafj : w.heap.size ≤ gb1204)); clear HO_7 HO_8 HO_9 HB; have HO_7 := n0_; have HO_8 := n1_; have HO_9 := n2_; have HB := n3_; have BK1204 := n4_; have GW1204 := n5_; have GE1204 := n6_; clear n0_ n1_ n2_ n3_ n4_ n5_ n6_ hb hbox hg; have hcz28_0 : w27.cell? ⟨gb1204, 0, none⟩ = some (.int .i64 0) := (zbk BK1204.out 0).trans rfl; have hcz28_1 : w27.cell? ⟨gb1204, 1, none⟩ = some (.int .i64 0) := (zbk BK1204.out 1).trans rfl; have hcz28_2 : w27.cell? ⟨gb1204, 2, none⟩ = some (.int .i64 0) := (zbk BK1204.out 2).trans rfl; have hfz28_0 := zbl BK1204.out 0; have hfz28_1 := zbl BK1204.out 1; have hfz28_2 := zbl BK1204.out 2))
                     have n0_ : Aside0 (Kd.R (Kd.int .i64) 3 (((w27.setCell ⟨gb1204, 0, none⟩ (.int .i64 t1201)).setCell ⟨gb1204, 1, none⟩ (.int .i64 t1202)).setCell ⟨gb1204, 2, none⟩ (.int .i64 t1203)) w.heap.size (fun k_ => some k_ ≠ (.slice Ao25 x8_1.length co25 : Value).ownBlock) (.slice Ao24 t1194.length co24) t1194) := ⟨by (with_reducible repeat (first | apply zai | apply zaj | apply zak)); exact zbs (Kd.R_far (p := ⟨gb1204, 2, none⟩) (Kd.R_far (p := ⟨gb1204, 1, none⟩) (Kd.R_far (p := ⟨gb1204, 0, none⟩) (Kd.R_types HO_7.out BK1204.out (by decide)) (fun _ hk => hk.2) (.int .i64 t1201)) (fun _ hk => hk.2) (.int .i64 t1202)) (fun _ hk => hk.2) (.int .i64 t1203)) (fun _ hk => hk.1)⟩
                     have n1_ : Aside0 (Kd.R (Kd.int .i64) 3 (((w27.setCell ⟨gb1204, 0, none⟩ (.int .i64 t1201)).setCell ⟨gb1204, 1, none⟩ (.int .i64 t1202)).setCell ⟨gb1204, 2, none⟩ (.int .i64 t1203)) w.heap.size (fun k_ => some k_ ≠ (.slice Ao24 t1194.length co24 : Value).ownBlock) (.slice Ao25 x8_1.length co25) x8_1) := ⟨by (with_reducible repeat (first | apply zai | apply zaj | apply zak)); exact zbs (Kd.R_far (p := ⟨gb1204, 2, none⟩) (Kd.R_far (p := ⟨gb1204, 1, none⟩) (Kd.R_far (p := ⟨gb1204, 0, none⟩) (Kd.R_types HO_8.out BK1204.out (by decide)) (fun _ hk => hk.2) (.int .i64 t1201)) (fun _ hk => hk.2) (.int .i64 t1202)) (fun _ hk => hk.2) (.int .i64 t1203)) (fun _ hk => hk.1)⟩
                     have n2_ : Aside0 (Kd.R k39 39 (((w27.setCell ⟨gb1204, 0, none⟩ (.int .i64 t1201)).setCell ⟨gb1204, 1, none⟩ (.int .i64 t1202)).setCell ⟨gb1204, 2, none⟩ (.int .i64 t1203)) w.heap.size (fun k_ => k_ ≠ gb1204) u9 x9_1) := ⟨taeu⟩
                     have n3_ : Aside0 ((((w27.setCell ⟨gb1204, 0, none⟩ (.int .i64 t1201)).setCell ⟨gb1204, 1, none⟩ (.int .i64 t1202)).setCell ⟨gb1204, 2, none⟩ (.int .i64 t1203)).heap[gb1204]? = some (.cells #[.int .i64 t1201, .int .i64 t1202, .int .i64 t1203] 39 (0, 0))) := ⟨tadi⟩
                     have n4_ : Aside0 (Below w.heap.size w (((w27.setCell ⟨gb1204, 0, none⟩ (.int .i64 t1201)).setCell ⟨gb1204, 1, none⟩ (.int .i64 t1202)).setCell ⟨gb1204, 2, none⟩ (.int .i64 t1203))) := ⟨taay⟩
                     (try clear HO_7); (try clear HO_8); (try clear HO_9); (try clear BK1204); (try clear HB); generalize (((w27.setCell ⟨gb1204, 0, none⟩ (.int .i64 t1201)).setCell ⟨gb1204, 1, none⟩ (.int .i64 t1202)).setCell ⟨gb1204, 2, none⟩ (.int .i64 t1203)) = w29 at n0_ n1_ n2_ n3_ n4_ ⊢
                     have HO_7 := n0_; have HO_8 := n1_; have HO_9 := n2_; have BK1204 := n3_; have HB := n4_; clear n0_ n1_ n2_ n3_ n4_; have n0_ := zad (zak HO_7.out)
                     have n1_ := zad (zak HO_8.out)
                     have n2_ := zad (zak HO_9.out)
                     have n3_ := zad (blk_drew BK1204.out)
                     have n4_ := zad (zaf HB.out)
                     clear HO_7 HO_8 HO_9 BK1204 HB; have HO_7 := n0_; have HO_8 := n1_; have HO_9 := n2_; have BK1204 := n3_; have HB := n4_; clear n0_ n1_ n2_ n3_ n4_; have p1205 : 0 ≤ (t1201 : Int) := zas (taaa)
                     have q1205 : t1201 < (x8_1.length : Int) := zas (taaa)
                     obtain ⟨ad1205, e1205, hx1205_0⟩ := zcc (zbf HO_8.out).2.2 t1201 p1205 q1205
                     cases e1205
                     replace p1205 := eq_true p1205
                     replace q1205 := eq_true q1205
                     have p1206 : 0 ≤ (t1201 : Int) := zas (taaa)
                     have q1206 : t1201 < (t1194.length : Int) := zas (taaa)
                     obtain ⟨ad1206, e1206, hx1206_0⟩ := zcc (zbf HO_7.out).2.2 t1201 p1206 q1206
                     cases e1206
                     replace p1206 := eq_true p1206
                     replace q1206 := eq_true q1206
                     have p1207 : 0 ≤ (t1202 : Int) := zas (taaa)
                     have q1207 : t1202 < (t1194.length : Int) := zas (taaa)
                     obtain ⟨ad1207, e1207, hx1207_0⟩ := zcc (zbf HO_7.out).2.2 t1202 p1207 q1207
                     obtain rfl : ad1206 = ad1207 := (by injection e1207)
                     replace p1207 := eq_true p1207
                     replace q1207 := eq_true q1207
                     have p1208 : 0 ≤ (t1202 : Int) := zas (taaa)
                     have q1208 : t1202 < (x8_1.length : Int) := zas (taaa)
                     obtain ⟨ad1208, e1208, hx1208_0⟩ := zcc (zbf HO_8.out).2.2 t1202 p1208 q1208
                     obtain rfl : ad1205 = ad1208 := (by injection e1208)
                     replace p1208 := eq_true p1208
                     replace q1208 := eq_true q1208
                     refine start_ (n := 25) (S := fun w' => w'.cell? ⟨gb1204, 0, none⟩ = some (.int .i64 t1201) ∧ w'.cell? ⟨gb1204, 1, none⟩ = some (.int .i64 t1202) ∧ w'.cell? ⟨gb1204, 2, none⟩ = some (.int .i64 t1203) ∧ w'.cell? (ad1205.add (t1201).toNat) = some (.int .i64 (rd x8_1 t1201)) ∧ w'.cell? (ad1206.add (t1201).toNat) = some (.int .i64 (rd t1194 t1201)) ∧ w'.cell? (ad1206.add (t1202).toNat) = some (.int .i64 (rd t1194 t1202)) ∧ w'.cell? (ad1205.add (t1202).toNat) = some (.int .i64 (rd x8_1 t1202))) (ds := [24]) #[false, false, false, false, false, false, false, false, false, false, false, false, false, false, false, false, false, false, false, false, false, false, false, false, false] (by kernel_rfl) rfl rfl ⟨(zbk BK1204.out 0).trans rfl, (zbk BK1204.out 1).trans rfl, (zbk BK1204.out 2).trans rfl, hx1205_0, hx1206_0, hx1207_0, hx1208_0⟩ (fun hHeld => ?_); refine with_tabW spec_giPath.tab6 spec_giPath.bits6 (fun HT_ HW_ => ?_)
                     generalize w29.drew = w30 at HO_7 HO_8 HO_9 BK1204 HB hx1205_0 hx1206_0 hx1207_0 hx1208_0 hHeld ⊢
                     refine pure_ (i := 0) (N := some 23) (v := ?_) (a' := ?_) tagl rfl rfl (zca HT_.out (by kernel_rfl)) (fun _ _ _ h => h) (Or.inl ⟨by rfl, ?_⟩) ?_ ?_
                     rotate_left
                     · intro w'
                       go_simp; with_reducible rfl
                     rotate_left
                     · simp only [Act.put, zaa, zab, zac, zby, zbz]
                       rfl
                     refine pure_ (i := 1) (N := some 24) (v := ?_) (a' := ?_) tagm rfl rfl (zca HT_.out (by kernel_rfl)) (fun _ _ _ h => h) (Or.inl ⟨by rfl, ?_⟩) ?_ ?_
                     rotate_left
                     · intro w'
                       go_simp; with_reducible rfl
                     rotate_left
                     · simp only [Act.put, zaa, zab, zac, zby, zbz]
                       rfl
                     refine pure_ (i := 5) (N := some 28) (v := ?_) (a' := ?_) #[true, true, false, false, false, true, false, false, false, false, false, false, false, false, false, false, false, false, false, false, false, false, false, false, false] rfl rfl (zca HT_.out (by kernel_rfl)) (fun _ _ _ h => h) (Or.inl ⟨by rfl, ?_⟩) ?_ ?_
                     rotate_left
                     · intro w'
                       go_simp; with_reducible rfl
                     rotate_left
                     · simp only [Act.put, zaa, zab, zac, zby, zbz]
                       rfl
                     refine pure_ (i := 6) (N := some 29) (v := ?_) (a' := ?_) #[true, true, false, false, false, true, true, false, false, false, false, false, false, false, false, false, false, false, false, false, false, false, false, false, false] rfl rfl (zca HT_.out (by kernel_rfl)) (fun _ _ _ h => h) (Or.inl ⟨by rfl, ?_⟩) ?_ ?_
                     rotate_left
                     · intro w'
                       go_simp; with_reducible rfl
                     rotate_left
                     · simp only [Act.put, zaa, zab, zac, zby, zbz]
                       rfl
                     refine pure_ (i := 11) (N := some 34) (v := ?_) (a' := ?_) #[true, true, false, false, false, true, true, false, false, false, false, true, false, false, false, false, false, false, false, false, false, false, false, false, false] rfl rfl (zca HT_.out (by kernel_rfl)) (fun _ _ _ h => h) (Or.inl ⟨by rfl, ?_⟩) ?_ ?_
                     rotate_left
                     · intro w'
                       go_simp; with_reducible rfl
                     rotate_left
                     · simp only [Act.put, zaa, zab, zac, zby, zbz]
                       rfl
                     refine pure_ (i := 12) (N := some 35) (v := ?_) (a' := ?_) #[true, true, false, false, false, true, true, false, false, false, false, true, true, false, false, false, false, false, false, false, false, false, false, false, false] rfl rfl (zca HT_.out (by kernel_rfl)) (fun _ _ _ h => h) (Or.inl ⟨by rfl, ?_⟩) ?_ ?_
                     rotate_left
                     · intro w'
                       go_simp; with_reducible rfl
                     rotate_left
                     · simp only [Act.put, zaa, zab, zac, zby, zbz]
                       rfl
                     refine pure_ (i := 16) (N := some 39) (v := ?_) (a' := ?_) #[true, true, false, false, false, true, true, false, false, false, false, true, true, false, false, false, true, false, false, false, false, false, false, false, false] rfl rfl (zca HT_.out (by kernel_rfl)) (fun _ _ _ h => h) (Or.inl ⟨by rfl, ?_⟩) ?_ ?_
                     rotate_left
                     · intro w'
                       go_simp; with_reducible rfl
                     rotate_left
                     · simp only [Act.put, zaa, zab, zac, zby, zbz]
                       rfl
                     refine pure_ (i := 17) (N := some 40) (v := ?_) (a' := ?_) #[true, true, false, false, false, true, true, false, false, false, false, true, true, false, false, false, true, true, false, false, false, false, false, false, false] rfl rfl (zca HT_.out (by kernel_rfl)) (fun _ _ _ h => h) (Or.inl ⟨by rfl, ?_⟩) ?_ ?_
                     rotate_left
                     · intro w'
                       go_simp; with_reducible rfl
                     rotate_left
                     · simp only [Act.put, zaa, zab, zac, zby, zbz]
                       rfl
                     refine take_ (i := 2) (N := some 25) (v := ?_) (a' := ?_) #[true, true, true, false, false, true, true, false, false, false, false, true, true, false, false, false, true, true, false, false, false, false, false, false, false] rfl rfl (zcb HT_.out HW_.out (by kernel_rfl)) (fun _ _ _ h => h) (Or.inl ⟨by rfl, ?_⟩) hHeld ?_ ?_
                     rotate_left
                     · rintro w' ⟨s0, s1, s2, s3, s4, s5, s6⟩
                       go_simp; with_reducible rfl
                     rotate_left
                     · simp only [Act.put, zaa, zab, zac, zby, zbz]
                       rfl
                     refine pure_ (i := 3) (N := some 26) (v := ?_) (a' := ?_) #[true, true, true, true, false, true, true, false, false, false, false, true, true, false, false, false, true, true, false, false, false, false, false, false, false] rfl rfl (zca HT_.out (by kernel_rfl)) (fun _ _ _ h => h) (Or.inl ⟨by rfl, ?_⟩) ?_ ?_
                     rotate_left
                     · intro w'
                       go_simp; with_reducible rfl
                     rotate_left
                     · simp only [Act.put, zaa, zab, zac, zby, zbz]
                       rfl
                     refine take_ (i := 4) (N := some 27) (v := ?_) (a' := ?_) #[true, true, true, true, true, true, true, false, false, false, false, true, true, false, false, false, true, true, false, false, false, false, false, false, false] rfl rfl (zcb HT_.out HW_.out (by kernel_rfl)) (fun _ _ _ h => h) (Or.inl ⟨by rfl, ?_⟩) hHeld ?_ ?_
                     rotate_left
                     · rintro w' ⟨s0, s1, s2, s3, s4, s5, s6⟩
                       go_simp; with_reducible rfl
                     rotate_left
                     · simp only [Act.put, zaa, zab, zac, zby, zbz]
                       rfl
                     refine take_ (i := 7) (N := some 30) (v := ?_) (a' := ?_) #[true, true, true, true, true, true, true, true, false, false, false, true, true, false, false, false, true, true, false, false, false, false, false, false, false] rfl rfl (zcb HT_.out HW_.out (by kernel_rfl)) (fun _ _ _ h => h) (Or.inl ⟨by rfl, ?_⟩) hHeld ?_ ?_
                     rotate_left
                     · rintro w' ⟨s0, s1, s2, s3, s4, s5, s6⟩
                       go_simp; with_reducible rfl
                     rotate_left
                     · simp only [Act.put, zaa, zab, zac, zby, zbz]
                       rfl
                     refine pure_ (i := 8) (N := some 31) (v := ?_) (a' := ?_) #[true, true, true, true, true, true, true, true, true, false, false, true, true, false, false, false, true, true, false, false, false, false, false, false, false] rfl rfl (zca HT_.out (by kernel_rfl)) (fun _ _ _ h => h) (Or.inl ⟨by rfl, ?_⟩) ?_ ?_
                     rotate_left
                     · intro w'
                       go_simp; with_reducible rfl
                     rotate_left
                     · simp only [Act.put, zaa, zab, zac, zby, zbz]
                       rfl
                     refine take_ (i := 9) (N := some 32) (v := ?_) (a' := ?_) #[true, true, true, true, true, true, true, true, true, true, false, true, true, false, false, false, true, true, false, false, false, false, false, false, false] rfl rfl (zcb HT_.out HW_.out (by kernel_rfl)) (fun _ _ _ h => h) (Or.inl ⟨by rfl, ?_⟩) hHeld ?_ ?_
                     rotate_left
                     · rintro w' ⟨s0, s1, s2, s3, s4, s5, s6⟩
                       go_simp; with_reducible rfl
                     rotate_left
                     · simp only [Act.put, zaa, zab, zac, zby, zbz]
                       rfl
                     refine pure_ (i := 10) (N := some 33) (v := ?_) (a' := ?_) #[true, true, true, true, true, true, true, true, true, true, true, true, true, false, false, false, true, true, false, false, false, false, false, false, false] rfl rfl (zca HT_.out (by kernel_rfl)) (fun _ _ _ h => h) (Or.inl ⟨by rfl, ?_⟩) ?_ ?_
                     rotate_left
                     · intro w'
                       go_simp; with_reducible rfl
                     rotate_left
                     · simp only [Act.put, zaa, zab, zac, zby, zbz]
                       rfl
                     refine take_ (i := 13) (N := some 36) (v := ?_) (a' := ?_) #[true, true, true, true, true, true, true, true, true, true, true, true, true, true, false, false, true, true, false, false, false, false, false, false, false] rfl rfl (zcb HT_.out HW_.out (by kernel_rfl)) (fun _ _ _ h => h) (Or.inl ⟨by rfl, ?_⟩) hHeld ?_ ?_
                     rotate_left
                     · rintro w' ⟨s0, s1, s2, s3, s4, s5, s6⟩
                       go_simp; with_reducible rfl
                     rotate_left
                     · simp only [Act.put, zaa, zab, zac, zby, zbz]
                       rfl
                     refine pure_ (i := 14) (N := some 37) (v := ?_) (a' := ?_) tagz rfl rfl (zca HT_.out (by kernel_rfl)) (fun _ _ _ h => h) (Or.inl ⟨by rfl, ?_⟩) ?_ ?_
                     rotate_left
                     · intro w'
                       go_simp; with_reducible rfl
                     rotate_left
                     · simp only [Act.put, zaa, zab, zac, zby, zbz]
                       rfl
                     refine take_ (i := 15) (N := some 38) (v := ?_) (a' := ?_) taha rfl rfl (zcb HT_.out HW_.out (by kernel_rfl)) (fun _ _ _ h => h) (Or.inl ⟨by rfl, ?_⟩) hHeld ?_ ?_
                     rotate_left
                     · rintro w' ⟨s0, s1, s2, s3, s4, s5, s6⟩
                       go_simp; with_reducible rfl
                     rotate_left
                     · simp only [Act.put, zaa, zab, zac, zby, zbz]
                       rfl
                     refine take_ (i := 18) (N := some 41) (v := ?_) (a' := ?_) tahb rfl rfl (zcb HT_.out HW_.out (by kernel_rfl)) (fun _ _ _ h => h) (Or.inl ⟨by rfl, ?_⟩) hHeld ?_ ?_
                     rotate_left
                     · rintro w' ⟨s0, s1, s2, s3, s4, s5, s6⟩
                       go_simp; with_reducible rfl
                     rotate_left
                     · simp only [Act.put, zaa, zab, zac, zby, zbz]
                       rfl
                     refine pure_ (i := 19) (N := some 42) (v := ?_) (a' := ?_) tahc rfl rfl (zca HT_.out (by kernel_rfl)) (fun _ _ _ h => h) (Or.inl ⟨by rfl, ?_⟩) ?_ ?_
                     rotate_left
                     · intro w'
                       go_simp; with_reducible rfl
                     rotate_left
                     · simp only [Act.put, zaa, zab, zac, zby, zbz]
                       rfl
                     refine take_ (i := 20) (N := some 43) (v := ?_) (a' := ?_) tahd rfl rfl (zcb HT_.out HW_.out (by kernel_rfl)) (fun _ _ _ h => h) (Or.inl ⟨by rfl, ?_⟩) hHeld ?_ ?_
                     rotate_left
                     · rintro w' ⟨s0, s1, s2, s3, s4, s5, s6⟩
                       go_simp; with_reducible rfl
                     rotate_left
                     · simp only [Act.put, zaa, zab, zac, zby, zbz]
                       rfl
                     refine pure_ (i := 21) (N := some 44) (v := ?_) (a' := ?_) tahe rfl rfl (zca HT_.out (by kernel_rfl)) (fun _ _ _ h => h) (Or.inl ⟨by rfl, ?_⟩) ?_ ?_
                     rotate_left
                     · intro w'
                       go_simp; with_reducible rfl
                     rotate_left
                     · simp only [Act.put, zaa, zab, zac, zby, zbz]
                       rfl
                     refine one_ (i := 22) (N := some 45) #[true, true, true, true, true, true, true, true, true, true, true, true, true, true, true, true, true, true, true, true, true, true, true, false, false] rfl rfl (one_of HT_.out (by kernel_rfl)) (by decide) (fun K hK => ?_)
                     refine goes_ Try.func120 (by kernel_rfl) rfl #[.int .i64 (wrap64 ((rd x8_1 t1201) - (rd t1194 t1201))), .int .i64 (wrap64 ((rd t1194 t1202) - (rd x8_1 t1202)))] (by rfl) rfl rfl (taad) ?_
                     with_reducible refine (spec_l1Least.calls (wrap64 ((rd x8_1 t1201) - (rd t1194 t1201))) (wrap64 ((rd t1194 t1202) - (rd x8_1 t1202))) t1209 _ A20.out).mono ?_
                     rintro e w' ⟨rfl, ⟨nd, rfl⟩⟩
                     refine ⟨_, rfl, ?_⟩
                     refine hK.out _ _ ⟨(zbk BK1204.out 0).trans rfl, (zbk BK1204.out 1).trans rfl, (zbk BK1204.out 2).trans rfl, hHeld.2.2.2.1, hHeld.2.2.2.2.1, hHeld.2.2.2.2.2.1, hHeld.2.2.2.2.2.2⟩ (fun hHeld => ?_)
                     clear hK K; refine norm_ (a' := ?_) ?_ ?_
                     rotate_left
                     · show Act.put _ (some 45) _ = _
                       simp only [Act.put, zaa, zab, zac, zby, zbz]
                       rfl
                     refine pure_ (i := 23) (N := some 46) (v := ?_) (a' := ?_) tahg rfl rfl (zca HT_.out (by kernel_rfl)) (fun _ _ _ h => h) (Or.inl ⟨by rfl, ?_⟩) ?_ ?_
                     rotate_left
                     · intro w'
                       go_simp; with_reducible rfl
                     rotate_left
                     · simp only [Act.put, zaa, zab, zac, zby, zbz]
                       rfl
                     refine last_ (i := 24) (N := none) #[true, true, true, true, true, true, true, true, true, true, true, true, true, true, true, true, true, true, true, true, true, true, true, true, true] rfl rfl (one_of HT_.out (by kernel_rfl)) (by decide) (fun K hK => ?_)
                     have hs31 : w30.cell? ⟨gb1204, 2, none⟩ = some (.int .i64 t1203) := (zbk BK1204.out 2).trans rfl
                     have hfs31 := zbl BK1204.out 2
                     refine skip_ (w1 := ?_) (by rfl) rfl ?_ ?_
                     rotate_left
                     · go_simp
                       rfl
                     refine hK.out _ _ ?_
                     clear hK K; refine done_ (done_of HT_.out (by kernel_rfl)) ?_
                     have hcz32_0 : w30.cell? ⟨gb1204, 0, none⟩ = some (.int .i64 t1201) := (zbk BK1204.out 0).trans rfl
                     have hcz32_1 : w30.cell? ⟨gb1204, 1, none⟩ = some (.int .i64 t1202) := (zbk BK1204.out 1).trans rfl
                     have hcz32_2 : w30.cell? ⟨gb1204, 2, none⟩ = some (.int .i64 t1203) := (zbk BK1204.out 2).trans rfl
                     have hfz32_0 := zbl BK1204.out 0
                     have hfz32_1 := zbl BK1204.out 1
                     have hfz32_2 := zbl BK1204.out 2
                     try go_wp2_with (first | ((with_reducible refine gate_builtin (b := .append) (xs := #[.tmp 47, .tmp 49]) rfl ?_); at_builtin; refine Kd.R_append k39 (w0 := w) w.heap.size rfl (.tmp 47) (.tmp 49) 58 39 (.agg #[(.int .i64 0), (.int .i64 0), (.int .i64 0)]) 24 rfl Try.underlying58 info39 rfl (by decide) (by omega) u9 x9_1 (⟨t1201, t1202, t1209⟩ : S39) [.int .i64 t1201, .int .i64 t1202, .int .i64 t1209] (fun k_ => k_ ≠ gb1204) (fun _ => False) rfl (by first | (go_simp; done) | (go_simp; rfl)) ?aP (fun _ hk => hk.elim) ?aF ?aO ?aB ?aS ?aL ?_; (case aP => exact k39_mkM _ _ _ (⟨t1201, t1202, t1209⟩ : S39)); (case aB => exact (taay)); (case aF => exact (fun k_ hk => Kd.freshB (g := gb1204) (o := .cells #[.int .i64 t1201, .int .i64 t1202, .int .i64 t1209] 39 (0, 0)) (taev) k_ hk)); (case aO => exact (by (with_reducible repeat (first | apply zai | apply zaj | apply zak)); exact zbs (Kd.R_far (p := ⟨gb1204, 2, none⟩) (zbs HO_9.out (fun k_ hk => (⟨hk, hk⟩ : _ ∧ k_ ≠ gb1204))) (fun _ hk => hk.2) (.int .i64 t1209)) (fun _ hk => hk.1))); (case aS => exact (zbm (taay))); (case aL => have := LMc21.out; omega); intro v1211 w33 ho hb hg hat; rw [← Ny1210.out] at ho; have n0_ := zad (Kd.R_over' (by (with_reducible repeat (first | apply zai | apply zaj | apply zak)); exact (zbs (Kd.R_far (p := ⟨gb1204, 2, none⟩) (Kd.R_types HO_7.out BK1204.out (by decide)) (fun _ hk => hk.2) (.int .i64 t1209)) (fun _ h_ => h_.1))) (Kd.R_typed (taew)) (by decide) hg); have n1_ := zad (Kd.R_over' (by (with_reducible repeat (first | apply zai | apply zaj | apply zak)); exact (zbs (Kd.R_far (p := ⟨gb1204, 2, none⟩) (Kd.R_types HO_8.out BK1204.out (by decide)) (fun _ hk => hk.2) (.int .i64 t1209)) (fun _ h_ => h_.1))) (Kd.R_typed (taew)) (by decide) hg); have n2_ := zad (blk_grown (g := gb1204) (o := .cells #[.int .i64 t1201, .int .i64 t1202, .int .i64 t1209] 39 (0, 0)) (taev) hg (Kd.R_away HO_9.out (fun _ hk => hk))); have n3_ := zad (hb); have n4_ := zad (ho); clear HO_7 HO_8 BK1204 HB HO_9; have HO_7 := n0_; have HO_8 := n1_; have BK1204 := n2_; have HB := n3_; have HO1212 := n4_; clear n0_ n1_ n2_ n3_ n4_ ho hb hg hat; have hcz34_0 : w33.cell? ⟨gb1204, 0, none⟩ = some (.int .i64 t1201) := (zbk BK1204.out 0).trans rfl; have hcz34_1 : w33.cell? ⟨gb1204, 1, none⟩ = some (.int .i64 t1202) := (zbk BK1204.out 1).trans rfl; have hcz34_2 : w33.cell? ⟨gb1204, 2, none⟩ = some (.int .i64 t1209) := (zbk BK1204.out 2).trans rfl; have hfz34_0 := zbl BK1204.out 0; have hfz34_1 := zbl BK1204.out 1; have hfz34_2 := zbl BK1204.out 2) | ((with_reducible refine zbh (f := 101) rfl ?_); refine zbp (some 53) rfl rfl Try.func101 (by kernel_rfl) rfl #[.slice (some ad1205) x8_1.length co25, .agg #[.int .i64 t1201, .int .i64 t1202, .int .i64 t1209]] rfl (taad) ?_; (with_reducible refine (spec_giDo.calls _ _ x8_1 t1201 t1202 t1209 t1213 _ ?side1 ?side2 A22.out).mono ?_); (case side1 => repeat (first | exact (zbf HO_8.out).2.2 | (with_reducible refine zal ?_ _) | (with_reducible refine zam ?_ _) | (with_reducible refine zan ?_))); (case side2 => exact (zbf HO_8.out).2.1); rintro e w35 ⟨v1214, rfl, ho0, hb⟩; refine ⟨_, rfl, ?_⟩; have n0_ := zad (zcd (taah) (zcf ho0) hb); have n1_ := zad (zcd (taax) (zcf ho0) hb); have n2_ := zad (zbv (taex) hb); have n3_ := zad (zbw (zce (zce ho0 (zcg (taah))) (zcg (taax))) (zbm (taay))); have n4_ := zad (blk_below (g := gb1204) (o := .cells #[.int .i64 t1201, .int .i64 t1202, .int .i64 t1209] 39 (0, 0)) (tacw) hb); have n5_ := zad (zbg (taay) hb); clear HO_7 HO_8 HO1212 BK1204 HB; have HO_7 := n0_; have HO_8 := n1_; have HO1212 := n2_; have HO1215 := n3_; have BK1204 := n4_; have HB := n5_; clear n0_ n1_ n2_ n3_ n4_ n5_; (try clear hb); (try clear hb2); (try clear hk); (try clear hi); (try clear ho0); obtain ⟨Ao36, co36, eo36⟩ := zbx HO1215.out; subst eo36) | ((with_reducible refine zbh (f := 108) rfl ?_); refine zbp (some 54) rfl rfl Try.func108 (by kernel_rfl) rfl #[.slice Ao36 t1213.length co36] rfl (taad) ?_; (with_reducible refine (spec_liRank.calls k1 _ _ t1213 t1216 _ ?side1 ?side2 A23.out).mono ?_); (case side1 => repeat (first | exact (zbf HO1215.out).2.2 | (with_reducible refine zal ?_ _) | (with_reducible refine zam ?_ _) | (with_reducible refine zan ?_))); (case side2 => exact (zbf HO1215.out).2.1); rintro e w37 ⟨v1217, rfl, ho0, hb⟩; refine ⟨_, rfl, ?_⟩; have n0_ := zad (zcd (taah) (zcf ho0) hb); have n1_ := zad (zcd (taax) (zcf ho0) hb); have n2_ := zad (zbv (taex) hb); have n3_ := zad (zcd (taey) (zcf ho0) hb); have n4_ := zad (zbw (zce (zce (zce ho0 (zcg (taah))) (zcg (taax))) (zcg (taey))) (zbm (taay))); have n5_ := zad (blk_below (g := gb1204) (o := .cells #[.int .i64 t1201, .int .i64 t1202, .int .i64 t1209] 39 (0, 0)) (tacw) hb); have n6_ := zad (zbg (taay) hb); clear HO_7 HO_8 HO1212 HO1215 BK1204 HB; have HO_7 := n0_; have HO_8 := n1_; have HO1212 := n2_; have HO1215 := n3_; have HO1218 := n4_; have BK1204 := n5_; have HB := n6_; clear n0_ n1_ n2_ n3_ n4_ n5_ n6_; (try clear hb); (try clear hb2); (try clear hk); (try clear hi); (try clear ho0)))
                     go_roundg k1
                     case measure => have := HK1.out; omega
                     case rel => exact ⟨(t1216), (y1210), H', ⟨taau⟩, ⟨taez⟩, ⟨by (with_reducible repeat (first | apply zai | apply zaj | apply zak)); exact zbs HO1218.out (fun _ hk => hk.1.1.2)⟩, ⟨by (with_reducible repeat (first | apply zai | apply zaj | apply zak)); exact zbs HO1212.out (fun _ hk => trivial)⟩, ⟨taay⟩⟩
                   · rw [if_neg c21] at H
                     exact absurd H (taae)
                 · rw [if_neg c19] at H
                   exact absurd H (taae)
               · rw [if_neg c18] at H
                 exact absurd H (taae)
             · rw [if_neg c17] at H
               exact absurd H (taae)
           · rw [if_neg c16] at H
             exact absurd H (taae)
         · rw [if_neg c15] at H
           exact absurd H (taae)
       · rw [if_neg c14] at H
         exact absurd H (taae)
     · replace c13 := zbi.mpr c13
       subst c13; have H1 : (if x9_1.length < 5864062014805 then ((spec_giDo.f x8_1 t1201 t1202 t1203).bind fun t1222 => ((spec_liRank.f k1 t1222).bind fun t1225 => (spec_giPath.l0 k1 false t1194 t1225 (x9_1 ++ [(⟨t1201, t1202, t1203⟩ : S39)])))) else (none)) = some r := by rw [if_neg (show ¬ (false = true) by decide)] at H; exact H
       clear H; have H := H1; clear H1; by_cases c38 : x9_1.length < 5864062014805
       · rw [if_pos c38] at H
         have LMc38 := zad c38; clear c38; obtain ⟨y1219, hy1219⟩ : ∃ y_ : List (S39), y_ = (x9_1 ++ [(⟨t1201, t1202, t1203⟩ : S39)]) := ⟨_, rfl⟩
         replace H : ((spec_giDo.f x8_1 t1201 t1202 t1203).bind fun t1222 => ((spec_liRank.f k1 t1222).bind fun t1225 => (spec_giPath.l0 k1 false t1194 t1225 y1219))) = some r := by first | (rw [hy1219]; with_reducible exact H) | (have H2_ := (zbd _ _).symm.trans H; rw [hy1219]; with_reducible exact H2_) | (have H2_ := (zbd _ _).symm.trans H; with_reducible exact H2_) | with_reducible exact H | (rw [hy1219]; exact H) | exact H
         have Ny1219 := zad hy1219; clear hy1219; replace H := zay.mp H; obtain ⟨t1222, A390, H⟩ := H
         replace H : ((spec_liRank.f k1 t1222).bind fun t1225 => (spec_giPath.l0 k1 false t1194 t1225 y1219)) = some r := H
         have A39 := zad A390; clear A390; replace H := zay.mp H; obtain ⟨t1225, A400, H⟩ := H
         replace H : (spec_giPath.l0 k1 false t1194 t1225 y1219) = some r := H
         have A40 := zad A400; clear A400; have H' := zad H
         clear H; obtain ⟨Ao41, co41, eo41⟩ := zbx HO_7.out
         subst eo41; obtain ⟨Ao42, co42, eo42⟩ := zbx HO_8.out
         subst eo42; go_wp2_with (first | ((with_reducible refine zbh (f := 118) rfl ?_); refine zbp (some 17) rfl rfl Try.func118 (by kernel_rfl) rfl #[.slice Ao41 t1194.length co41, .slice Ao42 x8_1.length co42] rfl (taad) ?_; (with_reducible refine (spec_l1Same.calls k1 _ _ t1194 _ _ x8_1 false _ ?side1 ?side2 ?side3 ?side4 A8.out).mono ?_); (case side1 => repeat (first | exact (zbf HO_7.out).2.2 | (with_reducible refine zal ?_ _) | (with_reducible refine zam ?_ _) | (with_reducible refine zan ?_))); (case side2 => exact (zbf HO_7.out).2.1); (case side3 => repeat (first | exact (zbf HO_8.out).2.2 | (with_reducible refine zal ?_ _) | (with_reducible refine zam ?_ _) | (with_reducible refine zan ?_))); (case side4 => exact (zbf HO_8.out).2.1); rintro e w' ⟨rfl, ⟨nd, rfl⟩⟩; refine ⟨_, rfl, ?_⟩; (try (rw [drewN_self wr]; generalize hq_ : World.drewN wr _ = wr; have n0_ : Aside0 (Kd.R (Kd.int .i64) 3 wr w.heap.size (fun k_ => some k_ ≠ (.slice Ao42 x8_1.length co42 : Value).ownBlock) (.slice Ao41 t1194.length co41) t1194) := ⟨tafl⟩; have n1_ : Aside0 (Kd.R (Kd.int .i64) 3 wr w.heap.size (fun k_ => some k_ ≠ (.slice Ao41 t1194.length co41 : Value).ownBlock) (.slice Ao42 x8_1.length co42) x8_1) := ⟨by rw [← hq_]; exact (taax)⟩; have n2_ : Aside0 (Kd.R k39 39 wr w.heap.size (fun _ => True) u9 x9_1) := ⟨by rw [← hq_]; exact (tabf)⟩; have n3_ : Aside0 (Below w.heap.size w wr) := ⟨tafm⟩; clear HO_7 HO_8 HO_9 HB hq_; have HO_7 := n0_; have HO_8 := n1_; have HO_9 := n2_; have HB := n3_; clear n0_ n1_ n2_ n3_))) | ((with_reducible refine zbh (f := 153) rfl ?_); refine zbp (some 21) rfl rfl Try.func153 (by kernel_rfl) rfl #[.slice Ao41 t1194.length co41, .slice Ao42 x8_1.length co42] rfl (taad) ?_; (with_reducible refine (spec_giNext.calls k1 _ _ t1194 _ _ x8_1 t1201 t1202 t1203 _ ?side1 ?side2 ?side3 ?side4 A12.out).mono ?_); (case side1 => repeat (first | exact (zbf HO_7.out).2.2 | (with_reducible refine zal ?_ _) | (with_reducible refine zam ?_ _) | (with_reducible refine zan ?_))); (case side2 => exact (zbf HO_7.out).2.1); (case side3 => repeat (first | exact (zbf HO_8.out).2.2 | (with_reducible refine zal ?_ _) | (with_reducible refine zam ?_ _) | (with_reducible refine zan ?_))); (case side4 => exact (zbf HO_8.out).2.1); rintro e w43 ⟨rfl, hb⟩; refine ⟨_, rfl, ?_⟩; have n0_ := zad (zbv (taah) hb); have n1_ := zad (zbv (taax) hb); have n2_ := zad (zbv (tabf) hb); have n3_ := zad (zbg (taab) hb); clear HO_7 HO_8 HO_9 HB; have HO_7 := n0_; have HO_8 := n1_; have HO_9 := n2_; have HB := n3_; clear n0_ n1_ n2_ n3_; (try clear hb); (try clear hb2); (try clear hk); (try clear hi)) | ((with_reducible refine gate_dst (N := 10) rfl ?_); refine box_event ?hg (N := 10) ?hd (cs := #[.int .i64 0, .int .i64 0, .int .i64 0]) (t := 39) ?hr ?_; (case hd => rfl); (case hg => rfl); (case hr => first | (go_simp; done) | (go_simp; rfl)); intro gb1204 hg w44 hbox hb; have n0_ := zad (zbv (taah) hb); have n1_ := zad (zbv (taax) hb); have n2_ := zad (zbv (Kd.R_elderB (tabf) gb1204 (Nat.le_of_eq hg.symm)) hb); have n3_ := zad (zbg (taab) hb); have n4_ := zad (hbox); have n5_ := zad ((tafj : w.heap.size ≤ gb1204)); have n6_ := zad ((tafj : w.heap.size ≤ gb1204)); clear HO_7 HO_8 HO_9 HB; have HO_7 := n0_; have HO_8 := n1_; have HO_9 := n2_; have HB := n3_; have BK1204 := n4_; have GW1204 := n5_; have GE1204 := n6_; clear n0_ n1_ n2_ n3_ n4_ n5_ n6_ hb hbox hg; have hcz45_0 : w44.cell? ⟨gb1204, 0, none⟩ = some (.int .i64 0) := (zbk BK1204.out 0).trans rfl; have hcz45_1 : w44.cell? ⟨gb1204, 1, none⟩ = some (.int .i64 0) := (zbk BK1204.out 1).trans rfl; have hcz45_2 : w44.cell? ⟨gb1204, 2, none⟩ = some (.int .i64 0) := (zbk BK1204.out 2).trans rfl; have hfz45_0 := zbl BK1204.out 0; have hfz45_1 := zbl BK1204.out 1; have hfz45_2 := zbl BK1204.out 2) | ((with_reducible refine gate_builtin (b := .append) (xs := #[.tmp 47, .tmp 49]) rfl ?_); at_builtin; refine Kd.R_append k39 (w0 := w) w.heap.size rfl (.tmp 47) (.tmp 49) 58 39 (.agg #[(.int .i64 0), (.int .i64 0), (.int .i64 0)]) 24 rfl Try.underlying58 info39 rfl (by decide) (by omega) u9 x9_1 (⟨t1201, t1202, t1203⟩ : S39) [.int .i64 t1201, .int .i64 t1202, .int .i64 t1203] (fun k_ => k_ ≠ gb1204) (fun _ => False) rfl (by first | (go_simp; done) | (go_simp; rfl)) ?aP (fun _ hk => hk.elim) ?aF ?aO ?aB ?aS ?aL ?_; (case aP => exact k39_mkM _ _ _ (⟨t1201, t1202, t1203⟩ : S39)); (case aB => exact (taay)); (case aF => exact (fun k_ hk => Kd.freshB (g := gb1204) (o := .cells #[.int .i64 t1201, .int .i64 t1202, .int .i64 t1203] 39 (0, 0)) (tadi) k_ hk)); (case aO => exact (taeu)); (case aS => exact (zbm (taay))); (case aL => have := LMc38.out; omega); intro v1220 w46 ho hb hg hat; rw [← Ny1219.out] at ho; have n0_ := zad (Kd.R_over' (by (with_reducible repeat (first | apply zai | apply zaj | apply zak)); exact (zbs (Kd.R_far (p := ⟨gb1204, 2, none⟩) (Kd.R_far (p := ⟨gb1204, 1, none⟩) (Kd.R_far (p := ⟨gb1204, 0, none⟩) (Kd.R_types HO_7.out BK1204.out (by decide)) (fun _ hk => hk.2) (.int .i64 t1201)) (fun _ hk => hk.2) (.int .i64 t1202)) (fun _ hk => hk.2) (.int .i64 t1203)) (fun _ h_ => h_.1))) (Kd.R_typed (tafa)) (by decide) hg); have n1_ := zad (Kd.R_over' (by (with_reducible repeat (first | apply zai | apply zaj | apply zak)); exact (zbs (Kd.R_far (p := ⟨gb1204, 2, none⟩) (Kd.R_far (p := ⟨gb1204, 1, none⟩) (Kd.R_far (p := ⟨gb1204, 0, none⟩) (Kd.R_types HO_8.out BK1204.out (by decide)) (fun _ hk => hk.2) (.int .i64 t1201)) (fun _ hk => hk.2) (.int .i64 t1202)) (fun _ hk => hk.2) (.int .i64 t1203)) (fun _ h_ => h_.1))) (Kd.R_typed (tafa)) (by decide) hg); have n2_ := zad (blk_grown (g := gb1204) (o := .cells #[.int .i64 t1201, .int .i64 t1202, .int .i64 t1203] 39 (0, 0)) (tadi) hg (Kd.R_away HO_9.out (fun _ hk => hk.2))); have n3_ := zad (hb); have n4_ := zad (ho); clear HO_7 HO_8 BK1204 HB HO_9; have HO_7 := n0_; have HO_8 := n1_; have BK1204 := n2_; have HB := n3_; have HO1221 := n4_; clear n0_ n1_ n2_ n3_ n4_ ho hb hg hat; have hcz47_0 : w46.cell? ⟨gb1204, 0, none⟩ = some (.int .i64 t1201) := (zbk BK1204.out 0).trans rfl; have hcz47_1 : w46.cell? ⟨gb1204, 1, none⟩ = some (.int .i64 t1202) := (zbk BK1204.out 1).trans rfl; have hcz47_2 : w46.cell? ⟨gb1204, 2, none⟩ = some (.int .i64 t1203) := (zbk BK1204.out 2).trans rfl; have hfz47_0 := zbl BK1204.out 0; have hfz47_1 := zbl BK1204.out 1; have hfz47_2 := zbl BK1204.out 2) | ((with_reducible refine zbh (f := 101) rfl ?_); refine zbp (some 53) rfl rfl Try.func101 (by kernel_rfl) rfl #[.slice Ao42 x8_1.length co42, .agg #[.int .i64 t1201, .int .i64 t1202, .int .i64 t1203]] rfl (taad) ?_; (with_reducible refine (spec_giDo.calls _ _ x8_1 t1201 t1202 t1203 t1222 _ ?side1 ?side2 A39.out).mono ?_); (case side1 => repeat (first | exact (zbf HO_8.out).2.2 | (with_reducible refine zal ?_ _) | (with_reducible refine zam ?_ _) | (with_reducible refine zan ?_))); (case side2 => exact (zbf HO_8.out).2.1); rintro e w48 ⟨v1223, rfl, ho0, hb⟩; refine ⟨_, rfl, ?_⟩; have n0_ := zad (zcd (taah) (zcf ho0) hb); have n1_ := zad (zcd (taax) (zcf ho0) hb); have n2_ := zad (zbv (tafb) hb); have n3_ := zad (zbw (zce (zce ho0 (zcg (taah))) (zcg (taax))) (zbm (taay))); have n4_ := zad (blk_below (g := gb1204) (o := .cells #[.int .i64 t1201, .int .i64 t1202, .int .i64 t1203] 39 (0, 0)) (tacw) hb); have n5_ := zad (zbg (taay) hb); clear HO_7 HO_8 HO1221 BK1204 HB; have HO_7 := n0_; have HO_8 := n1_; have HO1221 := n2_; have HO1224 := n3_; have BK1204 := n4_; have HB := n5_; clear n0_ n1_ n2_ n3_ n4_ n5_; (try clear hb); (try clear hb2); (try clear hk); (try clear hi); (try clear ho0); obtain ⟨Ao49, co49, eo49⟩ := zbx HO1224.out; subst eo49) | ((with_reducible refine zbh (f := 108) rfl ?_); refine zbp (some 54) rfl rfl Try.func108 (by kernel_rfl) rfl #[.slice Ao49 t1222.length co49] rfl (taad) ?_; (with_reducible refine (spec_liRank.calls k1 _ _ t1222 t1225 _ ?side1 ?side2 A40.out).mono ?_); (case side1 => repeat (first | exact (zbf HO1224.out).2.2 | (with_reducible refine zal ?_ _) | (with_reducible refine zam ?_ _) | (with_reducible refine zan ?_))); (case side2 => exact (zbf HO1224.out).2.1); rintro e w50 ⟨v1226, rfl, ho0, hb⟩; refine ⟨_, rfl, ?_⟩; have n0_ := zad (zcd (taah) (zcf ho0) hb); have n1_ := zad (zcd (taax) (zcf ho0) hb); have n2_ := zad (zbv (tafb) hb); have n3_ := zad (zcd (tafc) (zcf ho0) hb); have n4_ := zad (zbw (zce (zce (zce ho0 (zcg (taah))) (zcg (taax))) (zcg (tafc))) (zbm (taay))); have n5_ := zad (blk_below (g := gb1204) (o := .cells #[.int .i64 t1201, .int .i64 t1202, .int .i64 t1203] 39 (0, 0)) (tacw) hb); have n6_ := zad (zbg (taay) hb); clear HO_7 HO_8 HO1221 HO1224 BK1204 HB; have HO_7 := n0_; have HO_8 := n1_; have HO1221 := n2_; have HO1224 := n3_; have HO1227 := n4_; have BK1204 := n5_; have HB := n6_; clear n0_ n1_ n2_ n3_ n4_ n5_ n6_; (try clear hb); (try clear hb2); (try clear hk); (try clear hi); (try clear ho0)))
         go_roundg k1
         case measure => have := HK1.out; omega
         case rel => exact ⟨(t1225), (y1219), H', ⟨taau⟩, ⟨taez⟩, ⟨by (with_reducible repeat (first | apply zai | apply zaj | apply zak)); exact zbs HO1227.out (fun _ hk => hk.1.1.2)⟩, ⟨by (with_reducible repeat (first | apply zai | apply zaj | apply zak)); exact zbs HO1221.out (fun _ hk => trivial)⟩, ⟨taay⟩⟩
       · rw [if_neg c38] at H
         exact absurd H (taae)
def spec_GiftPath.f (k : Nat) (l0 : List Int) (l1 : List Int) : Option ((List (S39)) × Bool) := (spec_giLists.f k l0 l1).bind fun t1447 => (if t1447 = true then ((spec_giPath.f k l0 l1 false).bind fun t1448 => (some (t1448, true))) else (some (([] : List (S39)), false)))
theorem spec_GiftPath.calls (k : Nat) (A0 : Option Addr) (c0 : Nat) (l0 : List Int) (A1 : Option Addr) (c1 : Nat) (l1 : List Int) (r1 : List (S39)) (r2 : Bool) (w : World) (hr0 : Kd.C (Kd.int .i64) w A0 l0.length l0) (hc0 : l0.length ≤ c0) (hr1 : Kd.C (Kd.int .i64) w A1 l1.length l1) (hc1 : l1.length ≤ c1) (h : spec_GiftPath.f k l0 l1 = some (r1, r2)) :
 Calls Try.prog 74 #[.slice A0 l0.length c0, .slice A1 l1.length c1] w fun e w' => ∃ v0_ : Value, e = .returned (.tuple #[v0_, .bool r2]) ∧ Kd.R k39 39 w' w.heap.size (fun _ => True) v0_ r1 ∧ Below w.heap.size w w' := by
 have HR0 := zad hr0; have HC0 := zad hc0; clear hr0 hc0; have HR1 := zad hr1; have HC1 := zad hc1; clear hr1 hc1; have HB := zad (Below.refl w.heap.size w)
 have H : ((spec_giLists.f k l0 l1).bind fun t1447 => (if t1447 = true then ((spec_giPath.f k l0 l1 false).bind fun t1448 => (some (t1448, true))) else (some (([] : List (S39)), false)))) = some (r1, r2) := h
 clear h; replace H := zay.mp H; obtain ⟨t1447, A30, H⟩ := H
 replace H : (if t1447 = true then ((spec_giPath.f k l0 l1 false).bind fun t1448 => (some (t1448, true))) else (some (([] : List (S39)), false))) = some (r1, r2) := H
 have A3 := zad A30; clear A30; by_cases c4 : t1447 = true
 · subst c4
   have H1 : ((spec_giPath.f k l0 l1 false).bind fun t1448 => (some (t1448, true))) = some (r1, r2) := by rw [if_pos rfl] at H; exact H
   clear H; have H := H1; clear H1; replace H := zay.mp H; obtain ⟨t1448, A50, H⟩ := H
   replace H : (some (t1448, true)) = some (r1, r2) := H
   have A5 := zad A50; clear A50; simp only [zbn, zbr] at H
   obtain ⟨rfl, rfl⟩ := H
   go_enter Try.func74, Try.ntmps74
   go_wp2_with (first | ((with_reducible refine zbh (f := 130) rfl ?_); refine zbp (some 8) rfl rfl Try.func130 (by kernel_rfl) rfl #[.slice A0 l0.length c0, .slice A1 l1.length c1] rfl (taad) ?_; (with_reducible refine (spec_giLists.calls k _ _ l0 _ _ l1 true _ ?side1 ?side2 ?side3 ?side4 A3.out).mono ?_); (case side1 => repeat (first | exact HR0.out | (with_reducible refine zal ?_ _) | (with_reducible refine zam ?_ _) | (with_reducible refine zan ?_))); (case side2 => exact HC0.out); (case side3 => repeat (first | exact HR1.out | (with_reducible refine zal ?_ _) | (with_reducible refine zam ?_ _) | (with_reducible refine zan ?_))); (case side4 => exact HC1.out); rintro e w6 ⟨rfl, hb⟩; refine ⟨_, rfl, ?_⟩; have n0_ := zad (zbg (taab) hb); clear HB; have HB := n0_; clear n0_; (try clear hb); (try clear hb2); (try clear hk); (try clear hi)) | ((with_reducible refine zbh (f := 131) rfl ?_); refine zbp (some 12) rfl rfl Try.func131 (by kernel_rfl) rfl #[.slice A0 l0.length c0, .slice A1 l1.length c1, .bool false] rfl (taad) ?_; (with_reducible refine (spec_giPath.calls k _ _ l0 _ _ l1 false t1448 _ ?side1 ?side2 ?side3 ?side4 A5.out).mono ?_); (case side1 => repeat (first | exact (Kd.C_below HR0.out HB.out) | (with_reducible refine zal ?_ _) | (with_reducible refine zam ?_ _) | (with_reducible refine zan ?_))); (case side2 => exact HC0.out); (case side3 => repeat (first | exact (Kd.C_below HR1.out HB.out) | (with_reducible refine zal ?_ _) | (with_reducible refine zam ?_ _) | (with_reducible refine zan ?_))); (case side4 => exact HC1.out); rintro e w7 ⟨v1449, rfl, ho0, hb⟩; refine ⟨_, rfl, ?_⟩; have n0_ := zad (zbw ho0 (zbm (taab))); have n1_ := zad (zbg (taab) hb); clear HB; have HO1450 := n0_; have HB := n1_; clear n0_ n1_; (try clear hb); (try clear hb2); (try clear hk); (try clear hi); (try clear ho0)))
   go_ret2
   exact ⟨_, taaj, by (with_reducible repeat (first | apply zai | apply zaj | apply zak)); exact HO1450.out, taab⟩
 · replace c4 := zbi.mpr c4
   subst c4; have H1 : (some (([] : List (S39)), false)) = some (r1, r2) := by rw [if_neg (show ¬ (false = true) by decide)] at H; exact H
   clear H; have H := H1; clear H1; simp only [zbn, zbr] at H
   obtain ⟨rfl, rfl⟩ := H
   go_enter Try.func74, Try.ntmps74
   go_wp2_with (first | ((with_reducible refine zbh (f := 130) rfl ?_); refine zbp (some 8) rfl rfl Try.func130 (by kernel_rfl) rfl #[.slice A0 l0.length c0, .slice A1 l1.length c1] rfl (taad) ?_; (with_reducible refine (spec_giLists.calls k _ _ l0 _ _ l1 false _ ?side1 ?side2 ?side3 ?side4 A3.out).mono ?_); (case side1 => exact taga); (case side2 => exact HC0.out); (case side3 => exact tagb); (case side4 => exact HC1.out); rintro e w8 ⟨rfl, hb⟩; refine ⟨_, rfl, ?_⟩; have n0_ := zad (zbg (taab) hb); clear HB; have HB := n0_; clear n0_; (try clear hb); (try clear hb2); (try clear hk); (try clear hi)))
   go_ret2
   exact ⟨_, taaj, tabj, taab⟩


theorem w64 {x : Int} (h1 : -9223372036854775808 ≤ x) (h2 : x ≤ 9223372036854775807) : wrap64 x = x := by
 unfold wrap64
 omega
theorem wsucc {i : Nat} {n : Nat} (h : i < n) (hn : n ≤ 9223372036854775807) : wrap64 ((i : Int) + 1) = ((i + 1 : Nat) : Int) := by
 rw [w64 (by omega) (by omega)]
 omega
theorem rdn {xs : List Int} {i : Nat} (h : i < xs.length) : rd xs (i : Int) = xs[i] := by
 simp [rd, h]
theorem Ev.succ {α : Type} {g : Nat → Option α} {r : α} (h : Ev (fun k => g (k + 1)) r) : Ev g r := Ev.step (fun _ => rfl) h
theorem Ev.get {α : Type} {g : Nat → Option α} {r : α} (h : Ev g r) : ∃ k, g k = some r := Ev.rounds h
theorem Ev.ite {α : Type} {c : Prop} [Decidable c] {g f : Nat → Option α} {r s : α} (h : c → Ev g r) (h' : ¬ c → Ev f s) : Ev (fun k => if c then g k else f k) (if c then r else s) := by
 by_cases hc : c
 · simp only [hc, if_true]
   exact h hc
 · simp only [hc, if_false]
   exact h' hc
theorem ev_all {xs : List Int} {g : Nat → Int → Option Bool} (p : Int → Bool) (hend : Ev (fun k => g k (xs.length : Int)) true)
 (hyes : ∀ (i : Nat) (h : i < xs.length) r, p xs[i] = true → Ev (fun k => g k ((i + 1 : Nat) : Int)) r → Ev (fun k => g k (i : Int)) r)
 (hno : ∀ (i : Nat) (h : i < xs.length), p xs[i] = false → Ev (fun k => g k (i : Int)) false) :
 ∀ (n i : Nat), i + n = xs.length → Ev (fun k => g k (i : Int)) ((xs.drop i).all p)
 | 0, i, h => by
  rw [List.drop_eq_nil_of_le (by omega), show i = xs.length by omega]
  exact hend
 | n + 1, i, h => by
  have hi : i < xs.length := by omega
  rw [List.drop_eq_getElem_cons hi, List.all_cons]
  cases hp : p xs[i]
  · exact hno i hi hp
  · rw [Bool.true_and]
    exact hyes i hi _ hp (ev_all p hend hyes hno n (i + 1) (by omega))
theorem ev_fold {σ ρ : Type} {xs : List Int} {g : Nat → σ → Int → Option ρ} (step : σ → Int → σ) (I : σ → Nat → Prop) (fin : σ → ρ)
 (hend : ∀ s, I s xs.length → Ev (fun k => g k s (xs.length : Int)) (fin s))
 (hstep : ∀ (i : Nat) (h : i < xs.length) s r, I s i → I (step s xs[i]) (i + 1) → Ev (fun k => g k (step s xs[i]) ((i + 1 : Nat) : Int)) r → Ev (fun k => g k s (i : Int)) r)
 (hI : ∀ (i : Nat) (h : i < xs.length) s, I s i → I (step s xs[i]) (i + 1)) :
 ∀ (n i : Nat) (s : σ), i + n = xs.length → I s i → Ev (fun k => g k s (i : Int)) (fin ((xs.drop i).foldl step s))
 | 0, i, s, h, hs => by
  have e : i = xs.length := by omega
  subst e; rw [List.drop_eq_nil_of_le (by omega)]
  exact hend s hs
 | n + 1, i, s, h, hs => by
  have hi : i < xs.length := by omega
  rw [List.drop_eq_getElem_cons hi, List.foldl_cons]
  exact hstep i hi s _ hs (hI i hi s hs) (ev_fold step I fin hend hstep hI n (i + 1) _ (by omega) (hI i hi s hs))
theorem rdi {xs : List Int} {i : Int} (h0 : 0 ≤ i) (h1 : i < xs.length) : rd xs i = xs[i.toNat]'(by omega) := by
 unfold rd
 rw [List.getD_eq_getElem?_getD, List.getElem?_eq_getElem (by omega)]
 rfl
theorem l1In_eq (a b c : Int) : spec_l1In.f a b c = some (decide (b ≤ a ∧ a ≤ c)) := by
 unfold spec_l1In.f
 by_cases h : b ≤ a <;> simp [h]
theorem within_eq (a b c : Int) : impl_within.f a b c = some (decide (b ≤ a ∧ a ≤ c)) := by
 unfold impl_within.f
 by_cases h : b ≤ a <;> simp [h]
def inR (lo hi : Int) (xs : List Int) : Bool := xs.all fun x => decide (lo ≤ x ∧ x ≤ hi)
theorem l1All_ev (xs : List Int) (lo hi : Int) (hx : xs.length ≤ 9223372036854775807) : Ev (fun k => spec_l1All.f k xs lo hi) (inR lo hi xs) := by
 have h := ev_all (xs := xs) (g := fun k i => spec_l1All.l0 k lo hi xs (xs.length : Int) i) (fun x => decide (lo ≤ x ∧ x ≤ hi))
  (Ev.succ (by simp only [spec_l1All.l0, if_neg (Int.lt_irrefl _)]; exact Ev.now _))
  (fun i h r hp hr => Ev.succ (by
   simp only [spec_l1All.l0, if_pos (show (i : Int) < (xs.length : Int) by omega), if_pos (show (0 : Int) ≤ (i : Int) by omega), rdn h, l1In_eq, zbd, hp, if_true, wsucc h hx]
   exact hr))
  (fun i h hp => Ev.succ (by
   simp only [spec_l1All.l0, if_pos (show (i : Int) < (xs.length : Int) by omega), if_pos (show (0 : Int) ≤ (i : Int) by omega), rdn h, l1In_eq, zbd, hp]
   exact Ev.now _)) xs.length 0 (by omega)
 exact h
theorem allWithin_ev (xs : List Int) (lo hi : Int) (hx : xs.length ≤ 9223372036854775807) : Ev (fun k => impl_allWithin.f k xs lo hi) (inR lo hi xs) := by
 have h := ev_all (xs := xs) (g := fun k i => impl_allWithin.l0 k lo hi xs (xs.length : Int) i) (fun x => decide (lo ≤ x ∧ x ≤ hi))
  (Ev.succ (by simp only [impl_allWithin.l0, if_neg (Int.lt_irrefl _)]; exact Ev.now _))
  (fun i h r hp hr => Ev.succ (by
   simp only [impl_allWithin.l0, if_pos (show (i : Int) < (xs.length : Int) by omega), if_pos (show (0 : Int) ≤ (i : Int) by omega), rdn h, within_eq, zbd, hp, if_true, wsucc h hx]
   exact hr))
  (fun i h hp => Ev.succ (by
   simp only [impl_allWithin.l0, if_pos (show (i : Int) < (xs.length : Int) by omega), if_pos (show (0 : Int) ≤ (i : Int) by omega), rdn h, within_eq, zbd, hp]
   exact Ev.now _)) xs.length 0 (by omega)
 exact h
def goodL (xs : List Int) : Bool := if (1 : Int) ≤ xs.length ∧ (xs.length : Int) ≤ 8 then inR 0 60 xs else false
theorem goodL_iff (xs : List Int) : goodL xs = true ↔ 1 ≤ xs.length ∧ xs.length ≤ 8 ∧ ∀ x ∈ xs, 0 ≤ x ∧ x ≤ 60 := by
 unfold goodL inR
 by_cases h : (1 : Int) ≤ xs.length ∧ (xs.length : Int) ≤ 8
 · rw [if_pos h]
   simp only [List.all_eq_true, decide_eq_true_eq]
   exact ⟨fun h' => ⟨by omega, by omega, h'⟩, fun h' => h'.2.2⟩
 · rw [if_neg h]
   constructor
   · intro h'
     cases h'
   · intro h'
     omega
theorem liGood_ev (xs : List Int) (hx : xs.length ≤ 9223372036854775807) : Ev (fun k => spec_liGood.f k xs) (goodL xs) := by
 unfold spec_liGood.f goodL
 simp only [l1In_eq, zbd, decide_eq_true_eq]
 exact Ev.ite (fun _ => Ev.bind (l1All_ev xs 0 60 hx) (Ev.now _)) (fun _ => Ev.now _)
theorem implIsList_ev (xs : List Int) (hx : xs.length ≤ 9223372036854775807) : Ev (fun k => impl_IsList.f k xs) (goodL xs) := by
 unfold impl_IsList.f goodL
 simp only [within_eq, zbd, decide_eq_true_eq]
 exact Ev.ite (fun _ => Ev.bind (allWithin_ev xs 0 60 hx) (Ev.now _)) (fun _ => Ev.now _)
def isG (l : List Int) (f t a : Int) : Bool := decide ((0 ≤ f ∧ f ≤ (l.length : Int) - 1) ∧ (0 ≤ t ∧ t ≤ (l.length : Int) - 1) ∧ f ≠ t ∧ 1 ≤ a)
theorem isGift_eq (l : List Int) (f t a : Int) (hx : l.length ≤ 1048576) : impl_isGift.f l f t a = some (isG l f t a) := by
 unfold impl_isGift.f isG
 simp only [within_eq, zbd, w64 (x := (l.length : Int) - 1) (by omega) (by omega)]
 by_cases h1 : 0 ≤ f ∧ f ≤ (l.length : Int) - 1
 · by_cases h2 : 0 ≤ t ∧ t ≤ (l.length : Int) - 1
   · by_cases h3 : f = t
     · simp [h3]
     · by_cases h4 : 1 ≤ a <;> simp [h1, h2, h3, h4]
   · simp only [zba h1, if_true, zbj h2, h2, false_and, and_false, decide_false, zbo, if_false]
 · simp only [zbj h1, h1, false_and, decide_false, zbo, if_false]
theorem isG_iff (l : List Int) (f t a : Int) : isG l f t a = true ↔ (0 ≤ f ∧ f < l.length) ∧ (0 ≤ t ∧ t < l.length) ∧ f ≠ t ∧ 1 ≤ a := by
 unfold isG
 rw [decide_eq_true_eq]
 omega
theorem rd_good {l : List Int} (hg : goodL l = true) {i : Int} (h0 : 0 ≤ i) (h1 : i < l.length) : 0 ≤ rd l i ∧ rd l i ≤ 60 := by
 have h := ((goodL_iff l).1 hg).2.2
 have hi : i.toNat < l.length := by omega
 have e : rd l i = l[i.toNat] := rdi h0 h1
 rw [e]
 exact h _ (List.getElem_mem hi)
def canB (l : List Int) (f t a : Int) : Bool := isG l f t a && (decide (a ≤ rd l f) && decide (a ≤ 60 - rd l t))
theorem canGive_eq (l : List Int) (f t a : Int) (hg : goodL l = true) : impl_canGive.f l f t a = some (canB l f t a) := by
 have hb := (goodL_iff l).1 hg
 unfold impl_canGive.f canB
 rw [isGift_eq l f t a (by omega)]
 simp only [zbd]
 by_cases h : isG l f t a = true
 · obtain ⟨h1, h2, h3, h4⟩ := (isG_iff l f t a).1 h
   have b1 := rd_good hg h1.1 h1.2
   have b2 := rd_good hg h2.1 h2.2
   simp only [h, if_true, if_pos h1.1, if_pos h1.2, if_pos h2.1, if_pos h2.2, w64 (x := 60 - rd l t) (by omega) (by omega), Bool.true_and]
   by_cases c : a ≤ rd l f
   · rw [if_pos c, zba c, Bool.true_and]
   · rw [if_neg c, zbj c, Bool.false_and]
 · have h' : isG l f t a = false := zbi.2 h
   simp only [h', zbo, if_false, Bool.false_and]
def kindB (l : List Int) (f t a : Int) : Bool := isG l f t a && (decide (a ≤ 60) && decide (rd l t + a ≤ rd l f - a))
theorem isKind_eq (l : List Int) (f t a : Int) (hg : goodL l = true) : impl_isKind.f l f t a = some (kindB l f t a) := by
 unfold impl_isKind.f kindB
 rw [canGive_eq l f t a hg]
 unfold canB
 simp only [zbd]
 by_cases h : isG l f t a = true
 · obtain ⟨h1, h2, h3, h4⟩ := (isG_iff l f t a).1 h
   have b1 := rd_good hg h1.1 h1.2
   have b2 := rd_good hg h2.1 h2.2
   simp only [h, if_pos h1.1, if_pos h1.2, if_pos h2.1, if_pos h2.2, Bool.true_and]
   by_cases c : a ≤ rd l f ∧ a ≤ 60 - rd l t
   · rw [zba c.1, zba c.2, zba (show a ≤ 60 by omega), Bool.true_and, Bool.true_and, if_pos rfl, w64 (x := rd l f - a) (by omega) (by omega), w64 (x := rd l t + a) (by omega) (by omega)]
   · have e : (decide (a ≤ rd l f) && decide (a ≤ 60 - rd l t)) = false := by
      rw [← Bool.decide_and]
      exact zbj c
     have e2 : (decide (a ≤ 60) && decide (rd l t + a ≤ rd l f - a)) = false := by
      rw [← Bool.decide_and]
      exact zbj (by omega)
     simp only [e, e2, zbo, if_false]
 · have h' : isG l f t a = false := zbi.2 h
   simp only [h', zbo, if_false, Bool.false_and]
def giveL (l : List Int) (f t a : Int) : List Int := (l.set f.toNat (rd l f - a)).set t.toNat (rd l t + a)
theorem rd_set_ne {l : List Int} {i j : Int} (x : Int) (h0 : 0 ≤ i) (h1 : 0 ≤ j) (h : i ≠ j) : rd (l.set i.toNat x) j = rd l j := by
 unfold rd
 rw [List.getD_eq_getElem?_getD, List.getD_eq_getElem?_getD, List.getElem?_set_ne (by omega)]
theorem rd_set_self {l : List Int} {i : Int} (x : Int) (h0 : 0 ≤ i) (h1 : i < l.length) : rd (l.set i.toNat x) i = x := by
 unfold rd
 rw [List.getD_eq_getElem?_getD, List.getElem?_set_self (by omega)]
 rfl
theorem rd_mem {l : List Int} {i : Int} (h0 : 0 ≤ i) (h1 : i < l.length) : rd l i ∈ l := by
 have hi : i.toNat < l.length := by omega
 have e : rd l i = l[i.toNat] := rdi h0 h1
 rw [e]
 exact List.getElem_mem hi
theorem give_good (l : List Int) (f t x y : Int) (hg : goodL l = true) (h1 : 0 ≤ f ∧ f < l.length) (h2 : 0 ≤ t ∧ t < l.length) (h3 : f ≠ t) : goodL ((l.set f.toNat x).set t.toNat y) = true ↔ (0 ≤ x ∧ x ≤ 60) ∧ 0 ≤ y ∧ y ≤ 60 := by
 have hb := (goodL_iff l).1 hg
 rw [goodL_iff]
 simp only [List.length_set]
 constructor
 · intro h
   have e1 : rd ((l.set f.toNat x).set t.toNat y) f = x := by rw [rd_set_ne _ h2.1 h1.1 (Ne.symm h3), rd_set_self _ h1.1 h1.2]
   have e2 : rd ((l.set f.toNat x).set t.toNat y) t = y := rd_set_self _ h2.1 (tacx)
   have m1 := h.2.2 _ (rd_mem (l := (l.set f.toNat x).set t.toNat y) h1.1 (by simp only [List.length_set]; exact h1.2))
   have m2 := h.2.2 _ (rd_mem (l := (l.set f.toNat x).set t.toNat y) h2.1 (by simp only [List.length_set]; exact h2.2))
   rw [e1] at m1
   rw [e2] at m2
   exact ⟨m1, m2⟩
 · rintro ⟨hx, hy⟩
   refine ⟨hb.1, hb.2.1, fun z hz => ?_⟩
   rcases List.mem_or_eq_of_mem_set hz with hz | rfl
   · rcases List.mem_or_eq_of_mem_set hz with hz | rfl
     · exact hb.2.2 z hz
     · exact hx
   · exact hy
theorem canB_iff (l : List Int) (f t a : Int) : canB l f t a = true ↔ isG l f t a = true ∧ a ≤ rd l f ∧ a ≤ 60 - rd l t := by
 unfold canB
 simp only [Bool.and_eq_true, decide_eq_true_eq]
theorem l1Own_eq (l : List Int) (hx : l.length ≤ 1048576) : spec_l1Own.f l = some l := by
 unfold spec_l1Own.f
 simp only [zbd, List.nil_append, List.length_nil, Nat.zero_add, if_pos (show l.length < 17592186044416 by omega)]
theorem giDo_eq (l : List Int) (f t a : Int) (hx : l.length ≤ 1048576) (h1 : 0 ≤ f ∧ f < l.length) (h2 : 0 ≤ t ∧ t < l.length) (h3 : f ≠ t) : spec_giDo.f l f t a = some ((l.set f.toNat (wrap64 (rd l f - a))).set t.toNat (wrap64 (rd l t + a))) := by
 unfold spec_giDo.f
 simp only [l1Own_eq l hx, zbd, if_pos h1.1, if_pos h1.2, if_pos h2.1, if_pos h2.2, rd_set_ne _ h1.1 h2.1 h3]
theorem given_eq (l : List Int) (f t a : Int) (hx : l.length ≤ 1048576) (h1 : 0 ≤ f ∧ f < l.length) (h2 : 0 ≤ t ∧ t < l.length) (h3 : f ≠ t) : impl_given.f l f t a = some ((l.set f.toNat (wrap64 (rd l f - a))).set t.toNat (wrap64 (rd l t + a))) := by
 unfold impl_given.f slices_Clone_int_int.f
 simp only [if_pos (show l.length ≤ 17592186044416 by omega), zbd, if_pos h1.1, if_pos h1.2, if_pos h2.1, if_pos h2.2, rd_set_ne _ h1.1 h2.1 h3]
theorem given_can (l : List Int) (f t a : Int) (hg : goodL l = true) (h : canB l f t a = true) : impl_given.f l f t a = some (giveL l f t a) := by
 have hb := (goodL_iff l).1 hg
 obtain ⟨hG, c1, c2⟩ := (canB_iff l f t a).1 h
 obtain ⟨h1, h2, h3, h4⟩ := (isG_iff l f t a).1 hG
 have b1 := rd_good hg h1.1 h1.2
 have b2 := rd_good hg h2.1 h2.2
 rw [given_eq l f t a (by omega) h1 h2 h3, w64 (x := rd l f - a) (by omega) (by omega), w64 (x := rd l t + a) (by omega) (by omega)]
 rfl
def insD : List Int → Int → List Int
 | [], x => [x]
 | y :: ys, x => if x ≤ y then y :: insD ys x else x :: y :: ys
def Desc (l : List Int) : Prop := l.Pairwise fun x y => y ≤ x
theorem insD_at (x : Int) : ∀ (out : List Int) (j : Nat), j ≤ out.length → (∀ i, i < j → ∀ h : i < out.length, x ≤ out[i]) → (∀ h : j < out.length, ¬ x ≤ out[j]) → insD out x = out.take j ++ [x] ++ out.drop j
 | [], j, hj, _, _ => by simp [insD]
 | y :: ys, 0, _, _, h => by
  have := h (taae)
  simp only [List.getElem_cons_zero] at this
  simp [insD, this]
 | y :: ys, j + 1, hj, h1, h2 => by
  have h0 := h1 0 (by omega) (taae)
  simp only [List.getElem_cons_zero] at h0
  have ih := insD_at x ys j (by simpa using hj) (fun i hi h => by have := h1 (i + 1) (by omega) (taaz); simpa using this) (fun h => by have := h2 (taaz); simpa using this)
  simp only [insD, if_pos h0, ih, List.take_succ_cons, List.drop_succ_cons, List.cons_append]
theorem insD_perm (x : Int) : ∀ out : List Int, (insD out x).Perm (x :: out)
 | [] => List.Perm.refl _
 | y :: ys => by
  unfold insD
  split
  · exact ((insD_perm x ys).cons y).trans (List.Perm.swap x y ys)
  · exact List.Perm.refl _
theorem insD_length (x : Int) (out : List Int) : (insD out x).length = out.length + 1 := by
 rw [(insD_perm x out).length_eq, List.length_cons]
theorem insD_desc (x : Int) : ∀ out : List Int, Desc out → Desc (insD out x)
 | [], _ => by simp [insD, Desc]
 | y :: ys, h => by
  unfold insD
  unfold Desc at h
  rw [List.pairwise_cons] at h
  split
  · next hc =>
    unfold Desc
    rw [List.pairwise_cons]
    refine ⟨fun z hz => ?_, insD_desc x ys h.2⟩
    rcases List.mem_cons.1 ((insD_perm x ys).mem_iff.1 hz) with rfl | hz
    · exact hc
    · exact h.1 z hz
  · next hc =>
    unfold Desc
    rw [List.pairwise_cons, List.pairwise_cons]
    refine ⟨fun z hz => ?_, h⟩
    rcases List.mem_cons.1 hz with rfl | hz
    · omega
    · have := h.1 z hz
      omega
theorem descL_perm (l : List Int) : (descL l).Perm l := List.mergeSort_perm l _
theorem descL_desc (l : List Int) : Desc (descL l) := by
 unfold descL Desc
 have h := List.pairwise_mergeSort (le := fun x y : Int => decide (y ≤ x)) (fun a b c h1 h2 => by simp only [decide_eq_true_eq] at *; omega) (fun a b => by simp only [Bool.or_eq_true, decide_eq_true_eq]; omega) l
 exact h.imp (fun h => taaz)
theorem desc_unique {a b : List Int} (h : a.Perm b) (ha : Desc a) (hb : Desc b) : a = b :=
 List.Perm.eq_of_pairwise (le := fun x y : Int => y ≤ x) (fun x y _ _ h1 h2 => by omega) ha hb h
theorem descL_length (l : List Int) : (descL l).length = l.length := (descL_perm l).length_eq
theorem descL_mem {l : List Int} {x : Int} : x ∈ descL l ↔ x ∈ l := (descL_perm l).mem_iff
theorem descL_of_desc {l : List Int} (h : Desc l) : descL l = l := desc_unique (descL_perm l) (descL_desc l) h
theorem perm_sum {a b : List Int} (h : a.Perm b) : a.sum = b.sum := by
 induction h with
 | nil => rfl
 | cons x _ ih => simp only [List.sum_cons, ih]
 | swap x y l => simp only [List.sum_cons]; omega
 | trans _ _ ih1 ih2 => exact ih1.trans ih2
theorem descL_sum (l : List Int) : (descL l).sum = l.sum := perm_sum (descL_perm l)
theorem foldl_ins_perm : ∀ (l out : List Int), (l.foldl insD out).Perm (out ++ l)
 | [], out => by simp
 | x :: l, out => by
  rw [List.foldl_cons]
  refine (foldl_ins_perm l (insD out x)).trans ?_
  refine ((insD_perm x out).append_right l).trans ?_
  exact (List.perm_middle (a := x) (l₁ := out) (l₂ := l)).symm
theorem foldl_ins_desc : ∀ (l out : List Int), Desc out → Desc (l.foldl insD out)
 | [], out, h => h
 | x :: l, out, h => by
  rw [List.foldl_cons]
  exact foldl_ins_desc l _ (insD_desc x out h)
theorem foldl_ins (l : List Int) : l.foldl insD [] = descL l :=
 desc_unique ((by simpa using foldl_ins_perm l [] : (l.foldl insD []).Perm l).trans (descL_perm l).symm) (foldl_ins_desc l [] (by simp [Desc])) (descL_desc l)
def Sm (l : List Int) : Prop := l.length ≤ 1000 ∧ ∀ x ∈ l, 0 ≤ x ∧ x ≤ 1000
theorem good_sm {l : List Int} (h : goodL l = true) : Sm l := by
 have := (goodL_iff l).1 h
 exact ⟨by omega, fun x hx => by have := this.2.2 x hx; omega⟩
theorem sm_desc {l : List Int} (h : Sm l) : Sm (descL l) := ⟨by rw [descL_length]; exact h.1, fun x hx => h.2 x (descL_mem.1 hx)⟩
theorem good_desc (l : List Int) : goodL (descL l) = goodL l := by
 rw [Bool.eq_iff_iff, goodL_iff, goodL_iff, descL_length]
 simp only [descL_mem]
theorem ranking_eq {l : List Int} (h : Sm l) : impl_ranking.f l = some (descL l) := by
 unfold impl_ranking.f smallL
 rw [if_pos]
 simp only [Bool.and_eq_true, decide_eq_true_eq, List.all_eq_true]
 exact ⟨by have := h.1; omega, fun x hx => by have := h.2 x hx; omega⟩
theorem liRank_in (l : List Int) (x : Int) (i9 : Int) (out : List Int) (hout : out.length ≤ 1000000) (r : List Int) (hr : Ev (fun k => spec_liRank.l0 k (insD out x) l (l.length : Int) (wrap64 (i9 + 1))) r) :
 ∀ (n j : Nat), j + n = out.length → (∀ i, i < j → ∀ h : i < out.length, x ≤ out[i]) → Ev (fun k => spec_liRank.l1 k out x (j : Int) l (l.length : Int) i9) r
 | 0, j, h, hall => by
  refine Ev.succ ?_
  have e := insD_at x out j (by omega) hall (fun h' => by omega)
  simp only [spec_liRank.l1, if_neg (show ¬ (j : Int) < (out.length : Int) by omega), if_pos (show (0 : Int) ≤ (j : Int) by omega), if_pos (show (j : Int) ≤ (out.length : Int) by omega), Int.toNat_natCast, l1Own_eq (out.take j) (by rw [zax]; omega), zbd, List.length_append, zax, zaw, List.length_cons, List.length_nil]
  simp only [if_pos (show min j out.length + (0 + 1) < 17592186044416 by omega), if_pos (show min j out.length + (0 + 1) + (out.length - j) < 17592186044416 by omega)]
  rw [e] at hr
  exact hr
 | n + 1, j, h, hall => by
  have hj : j < out.length := by omega
  refine Ev.succ ?_
  by_cases c : x ≤ out[j]
  · simp only [spec_liRank.l1, if_pos (show (j : Int) < (out.length : Int) by omega), if_pos (show (0 : Int) ≤ (j : Int) by omega), rdn hj, if_pos (show out[j] ≥ x from c), wsucc hj (by omega)]
    refine liRank_in l x i9 out hout r hr n (j + 1) (by omega) (fun i hi h' => ?_)
    by_cases e : i = j
    · subst e
      exact c
    · exact hall i (by omega) h'
  · have e := insD_at x out j (by omega) hall (fun h' => c)
    simp only [spec_liRank.l1, if_pos (show (j : Int) < (out.length : Int) by omega), if_pos (show (0 : Int) ≤ (j : Int) by omega), rdn hj, if_neg (show ¬ out[j] ≥ x from c), if_pos (show (j : Int) ≤ (out.length : Int) by omega), Int.toNat_natCast, l1Own_eq (out.take j) (by rw [zax]; omega), zbd, List.length_append, zax, zaw, List.length_cons, List.length_nil]
    simp only [if_pos (show min j out.length + (0 + 1) < 17592186044416 by omega), if_pos (show min j out.length + (0 + 1) + (out.length - j) < 17592186044416 by omega)]
    rw [e] at hr
    exact hr
theorem liRank_ev (l : List Int) (hx : l.length ≤ 1000000) : Ev (fun k => spec_liRank.f k l) (descL l) := by
 unfold spec_liRank.f
 have h := ev_fold (xs := l) (g := fun k out i => spec_liRank.l0 k out l (l.length : Int) i) insD (fun out i => out.length = i) id
  (fun s _ => Ev.succ (by simp only [spec_liRank.l0, if_neg (Int.lt_irrefl _)]; exact Ev.now _))
  (fun i h s r hs _ hr => Ev.succ (by
   simp only [spec_liRank.l0, if_pos (show (i : Int) < (l.length : Int) by omega), if_pos (show (0 : Int) ≤ (i : Int) by omega), rdn h]
   exact liRank_in l l[i] (i : Int) s (by omega) r (by rw [wsucc h (by omega)]; exact hr) s.length 0 (by omega) (fun j hj => by omega)))
  (fun i h s hs => by rw [insD_length, hs]) l.length 0 [] (by omega) rfl
 rw [List.drop_zero, foldl_ins] at h
 exact h


def sqF (s x : Int) : Int := wrap64 (s + wrap64 (x * x))
def sqR (xs : List Int) : Int × Bool := if goodL xs = true then (xs.foldl sqF 0, true) else (0, false)
theorem implSquareSum_ev (xs : List Int) (hx : xs.length ≤ 9223372036854775807) : Ev (fun k => impl_SquareSum.f k xs) (sqR xs) := by
 unfold impl_SquareSum.f sqR
 refine Ev.bind (implIsList_ev xs hx) (Ev.ite (fun _ => ?_) (fun _ => Ev.now _))
 have h := ev_fold (xs := xs) (g := fun k s i => impl_SquareSum.l0 k s xs (xs.length : Int) i) sqF (fun _ _ => True) (fun s => (s, true))
  (fun s _ => Ev.succ (by simp only [impl_SquareSum.l0, if_neg (Int.lt_irrefl _)]; exact Ev.now _))
  (fun i h s r _ _ hr => Ev.succ (by
   simp only [impl_SquareSum.l0, if_pos (show (i : Int) < (xs.length : Int) by omega), if_pos (show (0 : Int) ≤ (i : Int) by omega), rdn h, wsucc h hx]
   exact hr))
  (fun _ _ _ _ => trivial) xs.length 0 0 (by omega) trivial
 exact h
def sqS (l : List Int) : Int := (l.map fun x => x * x).sum
theorem sq_bd (x : Int) (h0 : 0 ≤ x) (h1 : x ≤ 60) : 0 ≤ x * x ∧ x * x ≤ 3600 := by
 refine ⟨Int.mul_nonneg h0 h0, ?_⟩
 have := Int.mul_le_mul h1 h1 h0 (show (0 : Int) ≤ 60 by omega)
 omega
theorem fold_sq : ∀ (l : List Int) (s : Int), (∀ x ∈ l, 0 ≤ x ∧ x ≤ 60) → 0 ≤ s → s + 3600 * l.length ≤ 1000000000000 → l.foldl sqF s = s + sqS l ∧ 0 ≤ sqS l ∧ sqS l ≤ 3600 * l.length
 | [], s, _, _, _ => by simp [sqS]
 | x :: l, s, hx, h0, hs => by
  have hb := sq_bd x (hx x List.mem_cons_self).1 (hx x List.mem_cons_self).2
  rw [List.length_cons] at hs
  have e : sqF s x = s + x * x := by
   unfold sqF
   rw [w64 (x := x * x) (by omega) (by omega), w64 (by omega) (by omega)]
  obtain ⟨h1, h2, h3⟩ := fold_sq l (s + x * x) (fun y hy => hx y (List.mem_cons_of_mem _ hy)) (by omega) (by omega)
  have e2 : sqS (x :: l) = x * x + sqS l := by simp [sqS]
  rw [List.foldl_cons, e, h1, e2, List.length_cons]
  omega
theorem sum_map_set (g : Int → Int) : ∀ (l : List Int) (i : Nat) (h : i < l.length) (v : Int), ((l.set i v).map g).sum = (l.map g).sum - g l[i] + g v
 | x :: l, 0, h, v => by simp; omega
 | x :: l, i + 1, h, v => by
  have := sum_map_set g l i (taaz) v
  simp only [zac, zau, List.sum_cons, List.getElem_cons_succ]
  omega
theorem sum_map_set_rd (g : Int → Int) (l : List Int) (i : Int) (h0 : 0 ≤ i) (h1 : i < l.length) (v : Int) : ((l.set i.toNat v).map g).sum = (l.map g).sum - g (rd l i) + g v := by
 have hi : i.toNat < l.length := by omega
 have e : rd l i = l[i.toNat] := rdi h0 h1
 rw [sum_map_set g l i.toNat hi v, e]
theorem kindB_iff (l : List Int) (f t a : Int) : kindB l f t a = true ↔ isG l f t a = true ∧ a ≤ 60 ∧ rd l t + a ≤ rd l f - a := by
 unfold kindB
 simp only [Bool.and_eq_true, decide_eq_true_eq]
theorem fall_ring (x y a : Int) : x * x + y * y - ((x - a) * (x - a) + (y + a) * (y + a)) = 2 * a * (x - y - a) := by grind
def fallR (l : List Int) (f t a : Int) : Int × Bool := if goodL l = true then (if kindB l f t a = true then (2 * a * (rd l f - rd l t - a), true) else (0, false)) else (0, false)
theorem sqS_give (l : List Int) (f t a : Int) (h1 : 0 ≤ f ∧ f < l.length) (h2 : 0 ≤ t ∧ t < l.length) (h3 : f ≠ t) : sqS l - sqS (giveL l f t a) = 2 * a * (rd l f - rd l t - a) := by
 unfold sqS giveL
 rw [sum_map_set_rd _ _ t h2.1 (tacx), sum_map_set_rd _ _ f h1.1 h1.2, rd_set_ne _ h1.1 h2.1 h3]
 have := fall_ring (rd l f) (rd l t) a
 omega
theorem kind_give (l : List Int) (f t a : Int) (hg : goodL l = true) (hk : kindB l f t a = true) : goodL (giveL l f t a) = true := by
 obtain ⟨hG, c1, c2⟩ := (kindB_iff l f t a).1 hk
 obtain ⟨h1, h2, h3, h4⟩ := (isG_iff l f t a).1 hG
 have b1 := rd_good hg h1.1 h1.2
 have b2 := rd_good hg h2.1 h2.2
 exact (give_good l f t _ _ hg h1 h2 h3).2 (by omega)
theorem implSquaresFall_ev (l : List Int) (f t a : Int) (hx : l.length ≤ 1048576) : Ev (fun k => impl_SquaresFall.f k l f t a) (fallR l f t a) := by
 unfold impl_SquaresFall.f fallR
 refine Ev.bind (implIsList_ev l (by omega)) (Ev.ite (fun hg => ?_) (fun _ => Ev.now _))
 simp only [isKind_eq l f t a hg, zbd]
 by_cases hk : kindB l f t a = true
 · obtain ⟨hG, c1, c2⟩ := (kindB_iff l f t a).1 hk
   obtain ⟨h1, h2, h3, h4⟩ := (isG_iff l f t a).1 hG
   have b1 := rd_good hg h1.1 h1.2
   have b2 := rd_good hg h2.1 h2.2
   have hm : 2 * a * (rd l f - rd l t - a) ≤ 60 * 60 := Int.mul_le_mul (by omega) (by omega) (by omega) (by omega)
   have hm0 : 0 ≤ 2 * a * (rd l f - rd l t - a) := Int.mul_nonneg (by omega) (by omega)
   simp only [hk, if_true, if_pos h1.1, if_pos h1.2, if_pos h2.1, if_pos h2.2, w64 (x := 2 * a) (by omega) (by omega), w64 (x := rd l f - rd l t) (by omega) (by omega), w64 (x := rd l f - rd l t - a) (by omega) (by omega), w64 (x := 2 * a * (rd l f - rd l t - a)) (by omega) (by omega)]
   exact Ev.now _
 · simp only [if_neg hk]
   exact Ev.now _
def stepG (x : List Int) (g : S39) : List Int := descL (giveL x g.f0 g.f1 g.f2)
def foll : List Int → List S39 → Option (List (List Int))
 | _, [] => some []
 | x, g :: p => if kindB x g.f0 g.f1 g.f2 = true then (foll (stepG x g) p).map (stepG x g :: ·) else none
def folA (L : List (List Int)) (o : Option (List (List Int))) (b : Bool) : List (List Int) × Bool := match o with
 | some M => (L ++ M, b)
 | none => ([], false)
theorem folA_step (L : List (List Int)) (x : List Int) (g : S39) (p : List S39) (b : Bool) (h : kindB x g.f0 g.f1 g.f2 = true) : folA L (foll x (g :: p)) b = folA (L ++ [stepG x g]) (foll (stepG x g) p) b := by
 have e : foll x (g :: p) = if kindB x g.f0 g.f1 g.f2 = true then (foll (stepG x g) p).map (stepG x g :: ·) else none := rfl
 rw [e, if_pos h]
 cases foll (stepG x g) p with
 | none => rfl
 | some M => simp [folA]
theorem folA_none (L : List (List Int)) (x : List Int) (g : S39) (p : List S39) (b : Bool) (h : ¬ kindB x g.f0 g.f1 g.f2 = true) : folA L (foll x (g :: p)) b = ([], false) := by
 have e : foll x (g :: p) = if kindB x g.f0 g.f1 g.f2 = true then (foll (stepG x g) p).map (stepG x g :: ·) else none := rfl
 rw [e, if_neg h]
 rfl
def FolInv (l1 : List S39) (b : Bool) (r : List (List Int) × Bool) (g : Nat) (x9 : Int) (x : List Int) (L : List (List Int)) : Prop := ∃ i : Nat, x9 = (i : Int) ∧ i ≤ l1.length ∧ l1.length - i ≤ g ∧ goodL x = true ∧ L.length ≤ i + 1 ∧ folA L (foll x (l1.drop i)) b = r
theorem kind_step {x : List Int} {f t a : Int} (hg : goodL x = true) (hk : kindB x f t a = true) : impl_given.f x f t a = some (giveL x f t a) ∧ spec_giDo.f x f t a = some (giveL x f t a) ∧ goodL (giveL x f t a) = true := by
 obtain ⟨hG, c1, c2⟩ := (kindB_iff x f t a).1 hk
 obtain ⟨h1, h2, h3, h4⟩ := (isG_iff x f t a).1 hG
 have b1 := rd_good hg h1.1 h1.2
 have b2 := rd_good hg h2.1 h2.2
 have hb := (goodL_iff x).1 hg
 refine ⟨given_can x f t a hg ((canB_iff x f t a).2 ⟨hG, by omega, by omega⟩), ?_, kind_give x f t a hg hk⟩
 rw [giDo_eq x f t a (by omega) h1 h2 h3, w64 (x := rd x f - a) (by omega) (by omega), w64 (x := rd x t + a) (by omega) (by omega)]
 rfl
def impl_follow.f (l0 : List Int) (l1 : List S39) : Option (List (List Int) × Bool) := if goodL l0 = true ∧ l1.length ≤ 1048576 then some (folA [descL l0] (foll (descL l0) l1) (decide ((l1.length : Int) ≤ 240))) else none
theorem impl_follow.calls (A0 : Option Addr) (c0 : Nat) (l0 : List Int) (A1 : Option Addr) (c1 : Nat) (l1 : List S39) (r1 : List (List Int)) (r2 : Bool) (w : World) (hr0 : Kd.C (Kd.int .i64) w A0 l0.length l0) (hc0 : l0.length ≤ c0) (hr1 : Kd.C k39 w A1 l1.length l1) (hc1 : l1.length ≤ c1) (h : impl_follow.f l0 l1 = some (r1, r2)) :
 Calls Try.prog 134 #[.slice A0 l0.length c0, .slice A1 l1.length c1] w fun e w' => ∃ v0_ : Value, e = .returned (.tuple #[v0_, .bool r2]) ∧ Kd.S (Kd.slice 3 (Kd.int .i64)) 26 w' w.heap.size (fun _ => True) v0_ r1 ∧ Below w.heap.size w w' := by
 unfold impl_follow.f at h
 split at h
 next hs =>
  obtain ⟨hg0, hs1⟩ := hs
  have hfin := zbe h; clear h; have hu39 := Try.underlying39
  have HR1 := zad hr1; have HC1 := zad hc1; have HR0 := zad hr0; have HC0 := zad hc0; have HB := zad (Below.refl w.heap.size w)
  have hg0' : goodL (descL l0) = true := by rw [good_desc]; exact hg0
  have hb0 := (goodL_iff l0).1 hg0
  have hrk := ranking_eq (good_sm hg0)
  have HRK := zad hrk; generalize descL l0 = x0 at HRK hg0' hfin
  have HINV : Aside0 (FolInv l1 (decide ((l1.length : Int) ≤ 240)) (r1, r2) l1.length 0 x0 [x0]) := ⟨0, rfl, Nat.zero_le _, by omega, hg0', taae, by rw [List.drop_zero]; exact hfin⟩
  have HS1 := zad hs1; clear hr0 hc0 hr1 hc1 hrk hg0' hfin hb0 hg0 hs1
  go_enter Try.func134, Try.ntmps134
  go_wp2_with (first | ((with_reducible refine zbh (f := 88) rfl ?_); refine zbp (some 11) rfl rfl Try.func88 (by kernel_rfl) rfl #[.slice A0 l0.length c0] rfl (tach) ?_; (with_reducible refine (impl_ranking.calls _ _ l0 x0 _ ?side1 ?side2 HRK.out).mono ?_); (case side1 => exact taga); (case side2 => exact HC0.out); rintro e w1 ⟨v1, rfl, ho, hb⟩; refine ⟨_, rfl, ?_⟩; have n0_ := zad (zbw ho (zbm (taab))); have n1_ := zad (zbg (taab) hb); clear HB; have HN := n0_; have HB := n1_; clear n0_ n1_ ho hb; obtain ⟨A6, c6, e6⟩ := zbx HN.out; subst e6) | ((with_reducible refine gate_dst (N := 13) rfl ?_); refine Kd.S_lits (Kd.slice 3 (Kd.int .i64)) _ 26 ?hg (N := 13) ?hd (xs := ([x0] : List (List Int))) (inner := [.slice A6 x0.length c6]) (ok := fun _ => True) (fun j_ _ => j_ = 0) ?hr rfl ?hp (fun i_ j_ _ h1 h2 => h1.trans h2.symm) (fun _ _ _ => trivial) trivial (Below.refl _ _) (zbm (taab)) (taae) ?_; (case hd => rfl); (case hg => rfl); (case hr => first | (go_simp; done) | (go_simp; rfl)); (case hp => intro j_ x_ hx_; cases j_ with | zero => (simp only [List.getElem?_cons_zero, zbn] at hx_; subst hx_; exact ⟨_, rfl, zbs (tadj) (fun _ _ => rfl)⟩) | succ j_ => simp at hx_); intro v2 w2 ho hb hg_ hnew_; replace hb := (fun {a b : World} (h : a.grownBy b none) => (⟨h.os, h.tape, h.output, h.size, fun i hi => h.block i hi (taae)⟩ : Below a.heap.size a b)) hg_; have HSS := zad ho; have n1_ := zad (Kd.R_grown (tadj) hg_ (fun _ _ => taae)); have n2_ := zad (zbg (taab) hb); clear hg_ hnew_ ho hb HN HB; have HN := n1_; have HB := n2_; clear n1_ n2_))
  go_loopg [6, 7, 16] l1.length (fun g v6 v7 v16 wr => ∃ (x9 : Int) (x : List Int) (L : List (List Int)), v16 = .int .i64 x9 ∧ Aside0 (FolInv l1 (decide ((l1.length : Int) ≤ 240)) (r1, r2) g x9 x L) ∧ Aside0 (Kd.R (Kd.int .i64) 3 wr w.heap.size (fun _ => True) v6 x) ∧ Aside0 (Kd.S (Kd.slice 3 (Kd.int .i64)) 26 wr w.heap.size (fun _ => True) v7 L) ∧ Aside0 (Below w.heap.size w wr))
  case atStart => exact ⟨0, x0, [x0], rfl, HINV, ⟨tadj⟩, ⟨tafd⟩, ⟨taab⟩⟩
  case round =>
   clear HINV HN HSS HB HRK; obtain ⟨x9, x, L, rfl, HV, HN, HSS, HB⟩ := hrel
   obtain ⟨i, hi, hi1, hgm, hgx, hLl, hfx⟩ := HV.out
   clear HV; have hs1 := HS1.out
   by_cases hlt : i < l1.length
   · have c3b0 : decide (x9 < (l1.length : Int)) = true := zba (by omega)
     have p1 : 0 ≤ x9 := by omega
     have q1 : x9 < (l1.length : Int) := by omega
     obtain ⟨ad, e1, hx0, hx1, hx2⟩ := at_T39 HR1.out x9 p1 q1
     cases e1
     have hrd : rd_T39 l1 x9 = l1[i] := by
      unfold rd_T39
      rw [hi, Int.toNat_natCast, List.getD_eq_getElem?_getD, List.getElem?_eq_getElem hlt]
      rfl
     rw [List.drop_eq_getElem_cons hlt, ← hrd] at hfx
     clear hrd; generalize rd_T39 l1 x9 = gg at hx0 hx1 hx2 hfx
     obtain ⟨f0, f1, f2⟩ := gg
     simp only at hx0 hx1 hx2
     replace hx0 := (HB.out.cell (zaz w _ hx0)).trans hx0
     replace hx1 := (HB.out.cell (zaz w _ hx1)).trans hx1
     replace hx2 := (HB.out.cell (zaz w _ hx2)).trans hx2
     replace p1 := eq_true p1
     replace q1 := eq_true q1
     obtain ⟨A6, c6, e6⟩ := zbx HN.out
     subst e6; have HBr := zad (Below.refl wr.heap.size wr)
     have hkf : impl_isKind.f x f0 f1 f2 = some (kindB x f0 f1 f2) := isKind_eq x f0 f1 f2 hgx
     by_cases hk : kindB x f0 f1 f2 = true
     · rw [hk] at hkf
       obtain ⟨hgv1, hgv2, hgy⟩ := kind_step hgx hk
       rw [folA_step L x ⟨f0, f1, f2⟩ _ _ hk] at hfx
       have hst : stepG x ⟨f0, f1, f2⟩ = descL (giveL x f0 f1 f2) := rfl
       rw [hst] at hfx
       have hgz : goodL (descL (giveL x f0 f1 f2)) = true := by rw [good_desc]; exact hgy
       generalize giveL x f0 f1 f2 = y at hgv1 hgv2 hgy hfx hgz
       have hby := (goodL_iff y).1 hgy
       have hrk := ranking_eq (good_sm hgy)
       have HK := zad hkf; have HGV := zad hgv1; have HRK := zad hrk; generalize descL y = z at HRK hgz hfx
       have HIN : Aside0 (FolInv l1 (decide ((l1.length : Int) ≤ 240)) (r1, r2) (l1.length - (i + 1)) (wrap64 (x9 + 1)) z (L ++ [z])) := ⟨i + 1, by rw [w64 (by omega) (by omega)]; omega, by omega, zch _, hgz, taci, hfx⟩
       have HM := zad (show l1.length - (i + 1) < gk by omega)
       have HLL := zad (show (L.length + 1) * 24 ≤ 140737488355328 by omega)
       have HSB := zad (Kd.S_mono (ok' := fun k => k < wr.heap.size) (Kd.S_bound HSS.out) (fun k hk => hk.2.2.1))
       clear hk hkf hgv1 hgv2 hgy hgz hfx hst hby hrk hi hi1 hgm hgx hLl hs1 hlt HSS; go_wp2_with (first | ((with_reducible refine gate_dst (N := 9) rfl ?_); refine box_event ?hg (N := 9) ?hd (cs := #[.int .i64 0, .int .i64 0, .int .i64 0]) (t := 39) ?hr ?_; (case hd => rfl); (case hg => rfl); (case hr => first | (go_simp; done) | (go_simp; rfl)); intro gb hg w8 hbox hb; have GE := zad ((by rw [hg]; exact (zbm (taba)) : wr.heap.size ≤ gb)); have n0_ := zad (zbg (taba) hb); have BK := zad hbox; clear HBr; have HBr := n0_; clear n0_ hb hbox hg; have hcz0 : w8.cell? ⟨gb, 0, none⟩ = some (.int .i64 0) := (zbk BK.out 0).trans rfl; have hcz1 : w8.cell? ⟨gb, 1, none⟩ = some (.int .i64 0) := (zbk BK.out 1).trans rfl; have hcz2 : w8.cell? ⟨gb, 2, none⟩ = some (.int .i64 0) := (zbk BK.out 2).trans rfl; have hfz0 := zbl BK.out 0; have hfz1 := zbl BK.out 1; have hfz2 := zbl BK.out 2) | ((with_reducible refine zbh (f := 98) rfl ?_); refine zbp (some 22) rfl rfl Try.func98 (by kernel_rfl) rfl #[.slice A6 x.length c6, .agg #[.int .i64 f0, .int .i64 f1, .int .i64 f2]] rfl (tach) ?_; (with_reducible refine (impl_isKind.calls _ _ x f0 f1 f2 true _ ?side1 ?side2 HK.out).mono ?_); (case side1 => exact Kd.C_below (zbf HN.out).2.2 (tacy)); (case side2 => exact (zbf HN.out).2.1); rintro e w10 ⟨rfl, hb⟩; refine ⟨_, rfl, ?_⟩; have n0_ := zad (blk_below (g := gb) (o := .cells #[.int .i64 f0, .int .i64 f1, .int .i64 f2] 39 (0, 0)) (by (with_reducible repeat (first | refine blk_drewN ?_ _ | refine blk_drew ?_ | refine blk_alloc ?_ _)); refine blk_put (cs := #[.int .i64 f0, .int .i64 f1, .int .i64 0]) ?_ 2 _ rfl; (with_reducible repeat (first | refine blk_drewN ?_ _ | refine blk_drew ?_ | refine blk_alloc ?_ _)); refine blk_put (cs := #[.int .i64 f0, .int .i64 0, .int .i64 0]) ?_ 1 _ rfl; (with_reducible repeat (first | refine blk_drewN ?_ _ | refine blk_drew ?_ | refine blk_alloc ?_ _)); refine blk_put (cs := #[.int .i64 0, .int .i64 0, .int .i64 0]) ?_ 0 _ rfl; (with_reducible repeat (first | refine blk_drewN ?_ _ | refine blk_drew ?_ | refine blk_alloc ?_ _)); exact BK.out) hb); have n1_ := zad (zbg (tacy) hb); clear BK HBr hb hcz0 hcz1 hcz2 hfz0 hfz1 hfz2; have BK := n0_; have HBr := n1_; clear n0_ n1_; have hcz0 : w10.cell? ⟨gb, 0, none⟩ = some (.int .i64 f0) := (zbk BK.out 0).trans rfl; have hcz1 : w10.cell? ⟨gb, 1, none⟩ = some (.int .i64 f1) := (zbk BK.out 1).trans rfl; have hcz2 : w10.cell? ⟨gb, 2, none⟩ = some (.int .i64 f2) := (zbk BK.out 2).trans rfl) | ((with_reducible refine zbh (f := 105) rfl ?_); refine zbp (some 26) rfl rfl Try.func105 (by kernel_rfl) rfl #[.slice A6 x.length c6, .agg #[.int .i64 f0, .int .i64 f1, .int .i64 f2]] rfl (tach) ?_; (with_reducible refine (impl_given.calls _ _ x f0 f1 f2 y _ ?side1 ?side2 HGV.out).mono ?_); (case side1 => exact Kd.C_below (zbf HN.out).2.2 (taba)); (case side2 => exact (zbf HN.out).2.1); rintro e w12 ⟨v26, rfl, ho, hb⟩; refine ⟨_, rfl, ?_⟩; have HY := zad ho; have n1_ := zad (zbg (taba) hb); clear BK HBr hb ho hcz0 hcz1 hcz2; have HBr := n1_; clear n1_; obtain ⟨Ay, cy, ey⟩ := zbx HY.out; subst ey) | ((with_reducible refine zbh (f := 88) rfl ?_); refine zbp (some 27) rfl rfl Try.func88 (by kernel_rfl) rfl #[.slice Ay y.length cy] rfl (tach) ?_; (with_reducible refine (impl_ranking.calls _ _ y z _ ?side1 ?side2 HRK.out).mono ?_); (case side1 => repeat (first | exact (zbf HY.out).2.2 | (with_reducible refine zal ?_ _) | (with_reducible refine zam ?_ _) | (with_reducible refine zan ?_))); (case side2 => exact (zbf HY.out).2.1); rintro e w14 ⟨v27, rfl, ho, hb⟩; refine ⟨_, rfl, ?_⟩; have hsz := zbm (taba); have HZ := zad (zbs (ok' := fun k => wr.heap.size ≤ k) (zbw (Kd.R_bound ho) (Nat.le_trans HB.out.size hsz)) (fun k hk => Nat.le_trans hsz hk.2.1)); have n1_ := zad (zbg (taba) hb); clear HBr hb ho HY hsz; have HBr := n1_; clear n1_; obtain ⟨Az, cz, ez⟩ := zbx HZ.out; subst ez) | ((with_reducible refine gate_builtin (b := .append) (xs := #[.tmp 28, .tmp 30]) rfl ?_); at_builtin; refine Kd.S_append (Kd.slice 3 (Kd.int .i64)) (w0 := w) w.heap.size rfl (.tmp 28) (.tmp 30) 55 26 (.slice none 0 0) 24 rfl Try.underlying55 info26 rfl (by decide) (by omega) _ L z [.slice Az z.length cz] (fun _ => True) (fun k_ => some k_ = (.slice Az z.length cz : Value).ownBlock) rfl rfl ?aP ?aK ?aF ?aO ?aB ?aS ?aL ?_; (case aP => exact Kd.M_row (zbs (Kd.R_tight rfl (tafe)) (fun _ h_ => h_))); (case aK => exact fun k_ hk_ => ⟨trivial, fun e_ => by have q1_ := HZ.out.1 k_ hk_.symm; have q2_ := Kd.S_lt HSB.out k_ e_.symm; omega⟩); (case aF => exact fun _ _ => trivial); (case aO => exact Kd.S_mono (Kd.S_below HSB.out (taba)) (fun k_ hk_ => ⟨trivial, fun e_ => by have q1_ := HZ.out.1 k_ e_.symm; omega⟩)); (case aB => exact zbg HB.out (taba)); (case aS => exact Nat.le_trans HB.out.size (zbm (taba))); (case aL => exact HLL.out); intro v31 w31 ho hb hg hat; have HS2 := zad ho; have HB2 := zad hb; have HN2 := zad (zbs (ok' := fun _ => True) (Kd.R_grown (tafe) hg (fun k_ hk_ e_ => by have q2_ := Kd.S_lt HSB.out k_ e_.symm; omega)) (fun _ _ => trivial)); clear ho hb hg hat HZ HSB HBr))
       go_roundg (l1.length - (i + 1))
       case measure => exact HM.out
       case rel => exact ⟨_, z, L ++ [z], (taag), HIN, ⟨by (with_reducible repeat (first | apply zai | apply zaj | apply zak)); exact HN2.out⟩, ⟨by (with_reducible repeat (first | apply Kd.S_alloc | apply Kd.S_drewN | apply Kd.S_drew)); exact HS2.out⟩, ⟨by repeat (first | (with_reducible first | exact HB2.out | apply zag | apply zae | apply zaf) | exact HB2.out)⟩⟩
     · rw [zbi.2 hk] at hkf
       rw [folA_none L x ⟨f0, f1, f2⟩ _ _ hk] at hfx
       obtain ⟨e1, e2⟩ := Prod.mk.inj hfx
       subst e1; subst e2; have HK := zad hkf; clear hk hkf hfx hi hi1 hgm hgx hLl hs1 hlt HSS; go_wp2_with (first | ((with_reducible refine gate_dst (N := 9) rfl ?_); refine box_event ?hg (N := 9) ?hd (cs := #[.int .i64 0, .int .i64 0, .int .i64 0]) (t := 39) ?hr ?_; (case hd => rfl); (case hg => rfl); (case hr => first | (go_simp; done) | (go_simp; rfl)); intro gb hg w8 hbox hb; have GE := zad ((by rw [hg]; exact (zbm (taba)) : wr.heap.size ≤ gb)); have n0_ := zad (zbg (taba) hb); have BK := zad hbox; clear HBr; have HBr := n0_; clear n0_ hb hbox hg; have hcz0 : w8.cell? ⟨gb, 0, none⟩ = some (.int .i64 0) := (zbk BK.out 0).trans rfl; have hcz1 : w8.cell? ⟨gb, 1, none⟩ = some (.int .i64 0) := (zbk BK.out 1).trans rfl; have hcz2 : w8.cell? ⟨gb, 2, none⟩ = some (.int .i64 0) := (zbk BK.out 2).trans rfl; have hfz0 := zbl BK.out 0; have hfz1 := zbl BK.out 1; have hfz2 := zbl BK.out 2) | ((with_reducible refine zbh (f := 98) rfl ?_); refine zbp (some 22) rfl rfl Try.func98 (by kernel_rfl) rfl #[.slice A6 x.length c6, .agg #[.int .i64 f0, .int .i64 f1, .int .i64 f2]] rfl (tach) ?_; (with_reducible refine (impl_isKind.calls _ _ x f0 f1 f2 false _ ?side1 ?side2 HK.out).mono ?_); (case side1 => exact Kd.C_below (zbf HN.out).2.2 (tacy)); (case side2 => exact (zbf HN.out).2.1); rintro e w10 ⟨rfl, hb⟩; refine ⟨_, rfl, ?_⟩; have n1_ := zad (zbg (tacy) hb); clear HBr hb; have HBr := n1_; clear n1_))
       go_ret2
       exact ⟨_, rfl, Kd.S_nil _ _ _ _ _, zbg HB.out (taba)⟩
   · have hil : i = l1.length := by omega
     rw [hil, List.drop_eq_nil_of_le (zch _)] at hfx
     have c3b0 : decide (x9 < (l1.length : Int)) = false := zbj (by omega)
     obtain ⟨e1, e2⟩ := Prod.mk.inj hfx
     rw [List.append_nil] at e1
     subst e1; subst e2; clear hfx hi hi1 hgm hgx hLl hlt hil hs1; go_wp2
     go_ret2
     exact ⟨_, rfl, tafd, taab⟩
 next => cases h
def impl_FollowGifts.f (k : Nat) (l0 : List Int) (l1 : List (S39)) : Option ((List (List Int)) × Bool) := (impl_IsList.f k l0).bind fun t1451 => (if t1451 = true then ((impl_follow.f l0 l1).bind fun bt1452 => (if bt1452.2 = true then (some (bt1452.1, true)) else (some (([] : List (List Int)), false)))) else (some (([] : List (List Int)), false)))
theorem impl_FollowGifts.calls (k : Nat) (A0 : Option Addr) (c0 : Nat) (l0 : List Int) (A1 : Option Addr) (c1 : Nat) (l1 : List (S39)) (r1 : List (List Int)) (r2 : Bool) (w : World) (hr0 : Kd.C (Kd.int .i64) w A0 l0.length l0) (hc0 : l0.length ≤ c0) (hr1 : Kd.C k39 w A1 l1.length l1) (hc1 : l1.length ≤ c1) (h : impl_FollowGifts.f k l0 l1 = some (r1, r2)) :
 Calls Try.prog 75 #[.slice A0 l0.length c0, .slice A1 l1.length c1] w fun e w' => ∃ v0_ : Value, e = .returned (.tuple #[v0_, .bool r2]) ∧ Kd.S (Kd.slice 3 (Kd.int .i64)) 26 w' w.heap.size (fun _ => True) v0_ r1 ∧ Below w.heap.size w w' := by
 have HR0 := zad hr0; have HC0 := zad hc0; clear hr0 hc0; have HR1 := zad hr1; have HC1 := zad hc1; clear hr1 hc1; have HB := zad (Below.refl w.heap.size w)
 have H : ((impl_IsList.f k l0).bind fun t1451 => (if t1451 = true then ((impl_follow.f l0 l1).bind fun bt1452 => (if bt1452.2 = true then (some (bt1452.1, true)) else (some (([] : List (List Int)), false)))) else (some (([] : List (List Int)), false)))) = some (r1, r2) := h
 clear h; replace H := zay.mp H; obtain ⟨t1451, A30, H⟩ := H
 replace H : (if t1451 = true then ((impl_follow.f l0 l1).bind fun bt1452 => (if bt1452.2 = true then (some (bt1452.1, true)) else (some (([] : List (List Int)), false)))) else (some (([] : List (List Int)), false))) = some (r1, r2) := H
 have A3 := zad A30; clear A30; by_cases c4 : t1451 = true
 · subst c4
   have H1 : ((impl_follow.f l0 l1).bind fun bt1452 => (if bt1452.2 = true then (some (bt1452.1, true)) else (some (([] : List (List Int)), false)))) = some (r1, r2) := by rw [if_pos rfl] at H; exact H
   clear H; have H := H1; clear H1; replace H := zay.mp H; obtain ⟨⟨t1452, t1453⟩, A50, H⟩ := H
   replace H : (if t1453 = true then (some (t1452, true)) else (some (([] : List (List Int)), false))) = some (r1, r2) := H
   have A5 := zad A50; clear A50; by_cases c6 : t1453 = true
   · subst c6
     have H1 : (some (t1452, true)) = some (r1, r2) := by rw [if_pos rfl] at H; exact H
     clear H; have H := H1; clear H1; simp only [zbn, zbr] at H
     obtain ⟨rfl, rfl⟩ := H
     go_enter Try.func75, Try.ntmps75
     go_wp2_with (first | ((with_reducible refine zbh (f := 19) rfl ?_); refine zbp (some 9) rfl rfl Try.func19 (by kernel_rfl) rfl #[.slice A0 l0.length c0] rfl (taad) ?_; (with_reducible refine (impl_IsList.calls k _ _ l0 true _ ?side1 ?side2 A3.out).mono ?_); (case side1 => repeat (first | exact HR0.out | (with_reducible refine zal ?_ _) | (with_reducible refine zam ?_ _) | (with_reducible refine zan ?_))); (case side2 => exact HC0.out); rintro e w' ⟨rfl, ⟨nd, rfl⟩⟩; refine ⟨_, rfl, ?_⟩) | ((with_reducible refine zbh (f := 134) rfl ?_); refine zbp (some 14) rfl rfl Try.func134 (by kernel_rfl) rfl #[.slice A0 l0.length c0, .slice A1 l1.length c1] rfl (taad) ?_; (with_reducible refine (impl_follow.calls _ _ l0 _ _ l1 t1452 true _ ?side1 ?side2 ?side3 ?side4 A5.out).mono ?_); (case side1 => repeat (first | exact HR0.out | (with_reducible refine zal ?_ _) | (with_reducible refine zam ?_ _) | (with_reducible refine zan ?_))); (case side2 => exact HC0.out); (case side3 => repeat (first | exact HR1.out | (with_reducible refine zal ?_ _) | (with_reducible refine zam ?_ _) | (with_reducible refine zan ?_))); (case side4 => exact HC1.out); rintro e w7 ⟨v1454, rfl, ho0, hb⟩; refine ⟨_, rfl, ?_⟩; have n0_ := zad (Kd.S_lower ho0 (zbm (taab))); have n1_ := zad (zbg (taab) hb); clear HB; have HO1455 := n0_; have HB := n1_; clear n0_ n1_; (try clear hb); (try clear hb2); (try clear hk); (try clear hi); (try clear ho0)))
     go_ret2
     exact ⟨_, taaj, by (with_reducible repeat (first | apply Kd.S_alloc | apply Kd.S_drewN | apply Kd.S_drew)); exact HO1455.out, taab⟩
   · replace c6 := zbi.mpr c6
     subst c6; have H1 : (some (([] : List (List Int)), false)) = some (r1, r2) := by rw [if_neg (show ¬ (false = true) by decide)] at H; exact H
     clear H; have H := H1; clear H1; simp only [zbn, zbr] at H
     obtain ⟨rfl, rfl⟩ := H
     go_enter Try.func75, Try.ntmps75
     go_wp2_with (first | ((with_reducible refine zbh (f := 19) rfl ?_); refine zbp (some 9) rfl rfl Try.func19 (by kernel_rfl) rfl #[.slice A0 l0.length c0] rfl (taad) ?_; (with_reducible refine (impl_IsList.calls k _ _ l0 true _ ?side1 ?side2 A3.out).mono ?_); (case side1 => repeat (first | exact HR0.out | (with_reducible refine zal ?_ _) | (with_reducible refine zam ?_ _) | (with_reducible refine zan ?_))); (case side2 => exact HC0.out); rintro e w' ⟨rfl, ⟨nd, rfl⟩⟩; refine ⟨_, rfl, ?_⟩) | ((with_reducible refine zbh (f := 134) rfl ?_); refine zbp (some 14) rfl rfl Try.func134 (by kernel_rfl) rfl #[.slice A0 l0.length c0, .slice A1 l1.length c1] rfl (taad) ?_; (with_reducible refine (impl_follow.calls _ _ l0 _ _ l1 t1452 false _ ?side1 ?side2 ?side3 ?side4 A5.out).mono ?_); (case side1 => repeat (first | exact HR0.out | (with_reducible refine zal ?_ _) | (with_reducible refine zam ?_ _) | (with_reducible refine zan ?_))); (case side2 => exact HC0.out); (case side3 => repeat (first | exact HR1.out | (with_reducible refine zal ?_ _) | (with_reducible refine zam ?_ _) | (with_reducible refine zan ?_))); (case side4 => exact HC1.out); rintro e w8 ⟨v1454, rfl, ho0, hb⟩; refine ⟨_, rfl, ?_⟩; have n0_ := zad (Kd.S_lower ho0 (zbm (taab))); have n1_ := zad (zbg (taab) hb); clear HB; have HO1455 := n0_; have HB := n1_; clear n0_ n1_; (try clear hb); (try clear hb2); (try clear hk); (try clear hi); (try clear ho0)))
     go_ret2
     exact ⟨_, taaj, taff, taab⟩
 · replace c4 := zbi.mpr c4
   subst c4; have H1 : (some (([] : List (List Int)), false)) = some (r1, r2) := by rw [if_neg (show ¬ (false = true) by decide)] at H; exact H
   clear H; have H := H1; clear H1; simp only [zbn, zbr] at H
   obtain ⟨rfl, rfl⟩ := H
   go_enter Try.func75, Try.ntmps75
   go_wp2_with (first | ((with_reducible refine zbh (f := 19) rfl ?_); refine zbp (some 9) rfl rfl Try.func19 (by kernel_rfl) rfl #[.slice A0 l0.length c0] rfl (taad) ?_; (with_reducible refine (impl_IsList.calls k _ _ l0 false _ ?side1 ?side2 A3.out).mono ?_); (case side1 => exact taga); (case side2 => exact HC0.out); rintro e w' ⟨rfl, ⟨nd, rfl⟩⟩; refine ⟨_, rfl, ?_⟩))
   go_ret2
   exact ⟨_, taaj, taff, taab⟩
theorem foldl_add : ∀ (l : List Int) (s : Int), l.foldl (fun s x => s + x) s = s + l.sum
 | [], s => by simp
 | x :: l, s => by
  rw [List.foldl_cons, foldl_add l, List.sum_cons]
  omega
theorem liSum_ev (l : List Int) (h : Sm l) : Ev (fun k => spec_liSum.f k l) l.sum := by
 unfold spec_liSum.f
 have hl := h.1
 have h := ev_fold (xs := l) (g := fun k s i => spec_liSum.l0 k s l (l.length : Int) i) (fun s x => s + x) (fun s i => 0 ≤ s ∧ s ≤ 1000 * (i : Int)) id
  (fun s _ => Ev.succ (by simp only [spec_liSum.l0, if_neg (Int.lt_irrefl _)]; exact Ev.now _))
  (fun i hi s r hs _ hr => Ev.succ (by
   have hb := h.2 _ (List.getElem_mem hi)
   simp only [spec_liSum.l0, if_pos (show (i : Int) < (l.length : Int) by omega), if_pos (show (0 : Int) ≤ (i : Int) by omega), rdn hi, wsucc hi (by omega), w64 (x := s + l[i]) (by omega) (by omega)]
   exact hr))
  (fun i hi s hs => by
   have hb := h.2 _ (List.getElem_mem hi)
   omega) l.length 0 0 (by omega) (by omega)
 rw [List.drop_zero, foldl_add, Int.zero_add] at h
 exact h
theorem total_ev (l : List Int) (h : Sm l) : Ev (fun k => impl_total.f k l) l.sum := by
 unfold impl_total.f
 have hl := h.1
 have h := ev_fold (xs := l) (g := fun k s i => impl_total.l0 k s l (l.length : Int) i) (fun s x => s + x) (fun s i => 0 ≤ s ∧ s ≤ 1000 * (i : Int)) id
  (fun s _ => Ev.succ (by simp only [impl_total.l0, if_neg (Int.lt_irrefl _)]; exact Ev.now _))
  (fun i hi s r hs _ hr => Ev.succ (by
   have hb := h.2 _ (List.getElem_mem hi)
   simp only [impl_total.l0, if_pos (show (i : Int) < (l.length : Int) by omega), if_pos (show (0 : Int) ≤ (i : Int) by omega), rdn hi, wsucc hi (by omega), w64 (x := s + l[i]) (by omega) (by omega)]
   exact hr))
  (fun i hi s hs => by
   have hb := h.2 _ (List.getElem_mem hi)
   omega) l.length 0 0 (by omega) (by omega)
 rw [List.drop_zero, foldl_add, Int.zero_add] at h
 exact h
def fitB (a b : List Int) : Bool := if (a.length : Int) = (b.length : Int) then (a.sum == b.sum) else false
theorem fitB_iff (a b : List Int) : fitB a b = true ↔ a.length = b.length ∧ a.sum = b.sum := by
 unfold fitB
 by_cases h : (a.length : Int) = (b.length : Int)
 · rw [if_pos h, beq_iff_eq]
   exact ⟨fun h' => ⟨by omega, h'⟩, fun h' => h'.2⟩
 · rw [if_neg h]
   exact ⟨fun h' => absurd h' (by decide), fun h' => absurd h'.1 (by omega)⟩
theorem liFit_ev (a b : List Int) (ha : Sm a) (hb : Sm b) : Ev (fun k => spec_liFit.f k a b) (fitB a b) := by
 unfold spec_liFit.f fitB
 exact Ev.ite (fun _ => Ev.bind (liSum_ev a ha) (Ev.bind (liSum_ev b hb) (Ev.now _))) (fun _ => Ev.now _)
theorem doFit_ev (a b : List Int) (ha : Sm a) (hb : Sm b) : Ev (fun k => impl_doFit.f k a b) (fitB a b) := by
 unfold impl_doFit.f fitB
 exact Ev.ite (fun _ => Ev.bind (total_ev a ha) (Ev.bind (total_ev b hb) (Ev.now _))) (fun _ => Ev.now _)
theorem areLists_ev (a b : List Int) (ha : a.length ≤ 1048576) (hb : b.length ≤ 1048576) : Ev (fun k => impl_areLists.f k a b) (if goodL a = true then goodL b else false) := by
 unfold impl_areLists.f
 exact Ev.bind (implIsList_ev a (by omega)) (Ev.ite (fun _ => Ev.bind (implIsList_ev b (by omega)) (Ev.now _)) (fun _ => Ev.now _))
theorem slEqual_l (xs ys : List Int) (hx : xs.length ≤ 9223372036854775807) (hl : xs.length = ys.length) : ∀ (n i : Nat), i + n = xs.length → Ev (fun k => slices_Equal_int_int.l0 k xs ys (xs.length : Int) (i : Int)) (decide (xs.drop i = ys.drop i))
 | 0, i, h => by
  refine Ev.succ ?_
  simp only [slices_Equal_int_int.l0, if_neg (show ¬ (i : Int) < (xs.length : Int) by omega)]
  rw [List.drop_eq_nil_of_le (by omega), List.drop_eq_nil_of_le (by omega)]
  exact Ev.now _
 | n + 1, i, h => by
  have hi : i < xs.length := by omega
  have hj : i < ys.length := by omega
  refine Ev.succ ?_
  simp only [slices_Equal_int_int.l0, if_pos (show (i : Int) < (xs.length : Int) by omega), if_pos (show (i : Int) < (ys.length : Int) by omega), if_pos (show (0 : Int) ≤ (i : Int) by omega), rdn hi, rdn hj, wsucc hi hx]
  rw [List.drop_eq_getElem_cons hi, List.drop_eq_getElem_cons hj]
  by_cases c : xs[i] = ys[i]
  · simp only [c, if_true, List.cons.injEq, true_and]
    exact slEqual_l xs ys hx hl n (i + 1) (by omega)
  · simp only [c, if_false, List.cons.injEq, false_and, decide_false]
    exact Ev.now _
theorem slEqual_ev (xs ys : List Int) (hx : xs.length ≤ 9223372036854775807) : Ev (fun k => slices_Equal_int_int.f k xs ys) (decide (xs = ys)) := by
 unfold slices_Equal_int_int.f
 by_cases h : xs.length = ys.length
 · simp only [if_pos (show (xs.length : Int) = (ys.length : Int) by omega)]
   exact slEqual_l xs ys hx h xs.length 0 (by omega)
 · simp only [if_neg (show ¬ (xs.length : Int) = (ys.length : Int) by omega)]
   rw [zbj (fun e => h (by rw [e]))]
   exact Ev.now _
theorem igp_row (B : Nat) (A0 : Option Addr) (c0 : Nat) (l0 : List Int) (f0 f1 f2 : Int) (W : World) (hl : l0.length ≤ 1048576) (hB : W.cell? ⟨B, 0, none⟩ = some (.slice A0 l0.length c0)) (hr : Kd.C (Kd.int .i64) W A0 l0.length l0) (hc : l0.length ≤ c0) :
 Calls Try.prog 133 #[.agg #[.int .i64 f0, .int .i64 f1, .int .i64 f2], .pointer (some ⟨B, 0, none⟩)] W fun e w' => e = .returned (.bool (!isG l0 f0 f1 f2)) ∧ Below W.heap.size W w' := by
 have HK := zad (isGift_eq l0 f0 f1 f2 hl)
 have HR := zad hr; have HC := zad hc; have HB := zad (Below.refl W.heap.size W)
 generalize isG l0 f0 f1 f2 = b at HK ⊢
 clear hr hc hl; go_enter Try.func133, Try.ntmps133
 go_wp2_with (first | ((with_reducible refine gate_dst (N := 2) rfl ?_); refine box_event ?hg (N := 2) ?hd (cs := #[.int .i64 f0, .int .i64 f1, .int .i64 f2]) (t := 39) ?hr ?_; (case hd => rfl); (case hg => rfl); (case hr => first | (go_simp; done) | (go_simp; rfl)); intro gb hg w8 hbox hb; have hB2 := pw_cell_below hb hB; have BK := zad hbox; have HB2 := zad (zbg (taab) hb); clear hbox hb hg HB hB; have HB := HB2; clear HB2; have hcz0 : w8.cell? ⟨gb, 0, none⟩ = some (.int .i64 f0) := (zbk BK.out 0).trans rfl; have hcz1 : w8.cell? ⟨gb, 1, none⟩ = some (.int .i64 f1) := (zbk BK.out 1).trans rfl; have hcz2 : w8.cell? ⟨gb, 2, none⟩ = some (.int .i64 f2) := (zbk BK.out 2).trans rfl) | (go_at_call 102; (with_reducible refine (impl_isGift.calls _ _ l0 f0 f1 f2 b _ ?side1 ?side2 HK.out).mono ?_); (case side1 => exact Kd.C_below HR.out (taab)); (case side2 => exact HC.out); rintro e w1 ⟨rfl, hb⟩; have HB2 := zad (zbg (taab) hb); clear hb HB; have HB := HB2; clear HB2))
 go_ret
 exact ⟨by first | rfl | simp, taab⟩
def IdxInv (xs : List S39) (ps : S39 → Bool) (g : Nat) (x8 : Int) : Prop := ∃ i : Nat, x8 = (i : Int) ∧ i ≤ xs.length ∧ xs.length - i ≤ g ∧ ∀ j (h : j < xs.length), j < i → ps xs[j] = false
def SomeIdx (xs : List S39) (ps : S39 → Bool) (W : World) (e : Ending) (w' : World) : Prop := ∃ i : Int, e = .returned (.int .i64 i) ∧ decide (0 ≤ i) = xs.any ps ∧ Below W.heap.size W w'
theorem gift_idx (A : Option Addr) (c : Nat) (xs : List S39) (ps : S39 → Bool) (B : Nat) (W : World) (hbig : xs.length ≤ 1048576) (hr : Kd.C k39 W A xs.length xs) (hcall : ∀ (g : S39) (W' : World), Below W.heap.size W W' → Calls Try.prog 133 #[.agg #[.int .i64 g.f0, .int .i64 g.f1, .int .i64 g.f2], .pointer (some ⟨B, 0, none⟩)] W' fun e w'' => e = .returned (.bool (ps g)) ∧ Below W'.heap.size W' w'') :
 Calls Try.prog 154 #[.slice A xs.length c, .func (.func 133) #[] #[.pointer (some ⟨B, 0, none⟩)]] W (SomeIdx xs ps W) := by
 have HR := zad hr; have HF := zad hcall; have HX := zad hbig; have HB := zad (Below.refl W.heap.size W)
 clear hr hcall hbig; have hu39 := Try.underlying39
 go_enter Try.func154, Try.ntmps154
 go_wp2
 go_loopg [5, 8] xs.length (fun gg _ v8 wr => ∃ x8 : Int, v8 = .int .i64 x8 ∧ Aside0 (IdxInv xs ps gg x8) ∧ Aside0 (Below W.heap.size W wr))
 case atStart => exact ⟨0, rfl, ⟨0, rfl, Nat.zero_le _, by omega, fun j _ hj => absurd hj (Nat.not_lt_zero _)⟩, ⟨taab⟩⟩
 case round =>
  clear HB; obtain ⟨x8, rfl, HV, HB⟩ := hrel
  obtain ⟨i, hi, hi1, hgm, hpre⟩ := HV.out
  clear HV; have hbig := HX.out
  by_cases hlt : i < xs.length
  · have c3b0 : decide (x8 < (xs.length : Int)) = true := zba (by omega)
    have p1 : 0 ≤ x8 := by omega
    have q1 : x8 < (xs.length : Int) := by omega
    obtain ⟨ad, e1, hx0, hx1, hx2⟩ := at_T39 HR.out x8 p1 q1
    cases e1
    have hrd : rd_T39 xs x8 = xs[i] := by
     unfold rd_T39
     rw [hi, Int.toNat_natCast, List.getD_eq_getElem?_getD, List.getElem?_eq_getElem hlt]
     rfl
    generalize rd_T39 xs x8 = gg at hx0 hx1 hx2 hrd
    have hca := HF.out gg
    cases hq : ps gg with
    | true =>
     have HQ : Aside0 (decide (0 ≤ x8) = xs.any ps) := ⟨by
      rw [zba p1, eq_comm, List.any_eq_true]
      exact ⟨xs[i], List.getElem_mem hlt, by rw [← hrd]; exact hq⟩⟩
     rw [hq] at hca
     have HCA := zad hca; obtain ⟨f0, f1, f2⟩ := gg
     simp only at hx0 hx1 hx2
     replace hx0 := (HB.out.cell (zaz W _ hx0)).trans hx0
     replace hx1 := (HB.out.cell (zaz W _ hx1)).trans hx1
     replace hx2 := (HB.out.cell (zaz W _ hx2)).trans hx2
     replace p1 := eq_true p1
     replace q1 := eq_true q1
     clear hi hi1 hgm hpre hbig hlt hca hq hrd; go_wp2_with (go_at_call 133; refine (HCA.out _ (taab)).mono ?_; rintro e w' ⟨rfl, hb⟩; have HB2 := zad (zbg (taab) hb); clear hb HB; have HB := HB2; clear HB2)
     go_ret
     exact ⟨_, rfl, HQ.out, taab⟩
    | false =>
     have HIN : Aside0 (IdxInv xs ps (xs.length - (i + 1)) (wrap64 (x8 + 1))) := ⟨i + 1, by rw [w64 (by omega) (by omega)]; omega, by omega, zch _, fun j hj hj2 => by
      by_cases e : j = i
      · subst e
        rw [← hrd]
        exact hq
      · exact hpre j hj (by omega)⟩
     have HM := zad (show xs.length - (i + 1) < gk by omega)
     rw [hq] at hca
     have HCA := zad hca; obtain ⟨f0, f1, f2⟩ := gg
     simp only at hx0 hx1 hx2
     replace hx0 := (HB.out.cell (zaz W _ hx0)).trans hx0
     replace hx1 := (HB.out.cell (zaz W _ hx1)).trans hx1
     replace hx2 := (HB.out.cell (zaz W _ hx2)).trans hx2
     replace p1 := eq_true p1
     replace q1 := eq_true q1
     clear hi hi1 hgm hpre hbig hca hq hrd; go_wp2_with (go_at_call 133; refine (HCA.out _ (taab)).mono ?_; rintro e w' ⟨rfl, hb⟩; have HB2 := zad (zbg (taab) hb); clear hb HB; have HB := HB2; clear HB2)
     go_roundg (xs.length - (i + 1))
     case measure => exact HM.out
     case rel => exact ⟨_, (taag), HIN, ⟨taab⟩⟩
  · have hil : i = xs.length := by omega
    have c3b0 : decide (x8 < (xs.length : Int)) = false := zbj (by omega)
    have HQ : Aside0 (decide (0 ≤ (-1 : Int)) = xs.any ps) := ⟨by
     rw [zbj (by decide), eq_comm, List.any_eq_false]
     intro x hx
     obtain ⟨j, hj, rfl⟩ := List.mem_iff_getElem.1 hx
     rw [hpre j hj (by omega)]
     decide⟩
    clear hi hi1 hgm hpre hbig hlt hil; go_wp2
    go_ret
    exact ⟨_, rfl, HQ.out, taab⟩
theorem gift_has (A : Option Addr) (c : Nat) (xs : List S39) (ps : S39 → Bool) (B : Nat) (W : World) (hbig : xs.length ≤ 1048576) (hr : Kd.C k39 W A xs.length xs) (hcall : ∀ (g : S39) (W' : World), Below W.heap.size W W' → Calls Try.prog 133 #[.agg #[.int .i64 g.f0, .int .i64 g.f1, .int .i64 g.f2], .pointer (some ⟨B, 0, none⟩)] W' fun e w'' => e = .returned (.bool (ps g)) ∧ Below W'.heap.size W' w'') :
 Calls Try.prog 132 #[.slice A xs.length c, .func (.func 133) #[] #[.pointer (some ⟨B, 0, none⟩)]] W fun e w' => e = .returned (.bool (xs.any ps)) ∧ Below W.heap.size W w' := by
 have HI := zad (gift_idx A c xs ps B W hbig hr hcall)
 clear hbig hr hcall; go_enter Try.func132, Try.ntmps132
 go_wp2_with (go_at_call 154; refine HI.out.mono ?_; rintro e w1 ⟨i, rfl, hi, hb⟩; have HD := zad hi; have HB := zad hb; clear hi hb)
 go_ret
 exact ⟨by first | (rw [← HD.out]; rfl) | (simp [HD.out]) | rfl, HB.out⟩
theorem folM_len {x : List Int} {p : List S39} {M : List (List Int)} (h : foll x p = some M) : M.length = p.length := by
 induction p generalizing x M with
 | nil =>
  have : some [] = some M := h
  obtain rfl := zbe this
  rfl
 | cons g p ih =>
  have e : foll x (g :: p) = if kindB x g.f0 g.f1 g.f2 = true then (foll (stepG x g) p).map (stepG x g :: ·) else none := rfl
  rw [e] at h
  by_cases c : kindB x g.f0 g.f1 g.f2 = true
  · rw [if_pos c] at h
    obtain ⟨N, h1, h2⟩ := Option.map_eq_some_iff.1 h
    rw [← h2, List.length_cons, List.length_cons, ih h1]
  · rw [if_neg c] at h
    cases h
theorem slEqual_ev' (x y : List Int) (hy : y.length ≤ 1000) : Ev (fun k => slices_Equal_int_int.f k x y) (decide (x = y)) := by
 by_cases h : x.length ≤ 1000000
 · exact slEqual_ev x y (by omega)
 · unfold slices_Equal_int_int.f
   simp only [if_neg (show ¬ (x.length : Int) = (y.length : Int) by omega)]
   rw [zbj (fun e => h (by rw [e]; omega))]
   exact Ev.now _
def lastR (L : List (List Int)) : List Int := L.getD (L.length - 1) []
def igpM (a b : List Int) (p : List S39) : Bool × Bool := match foll (descL b) p with
 | some M => (decide (lastR (descL b :: M) = descL a), true)
 | none => (false, true)
def igpR (a b : List Int) (p : List S39) : Bool × Bool := if (if goodL a = true then goodL b else false) = true then (if fitB a b = true then (if (p.length : Int) > 240 then (false, false) else (if (p.any fun g => !isG b g.f0 g.f1 g.f2) = true then (false, false) else igpM a b p)) else (false, false)) else (false, false)
def impl_IsGiftPath.f (l0 : List Int) (l1 : List Int) (l2 : List S39) : Option (Bool × Bool) := if l0.length ≤ 1048576 ∧ l1.length ≤ 1048576 ∧ l2.length ≤ 1048576 then some (igpR l0 l1 l2) else none
def impl_IsGiftPath.T6 : Bool × List (List Nat × List Nat) := (true, [([], []), ([0], [0]), ([1], [1]), ([1], [1]), ([3, 1], [1, 3]), ([4, 1], [1, 4]), ([2, 5, 1], [1, 2, 5]), ([6, 1], [1, 6]), ([1], [1]), ([8, 1, 1], [1, 8]), ([7, 9, 9, 1], [1, 7, 9]), ([1, 10], [1, 10]), ([11, 10, 0, 1, 2, 3, 4, 5, 6, 7, 8, 9, 10, 11], [11]), ([12, 0, 1, 2, 3, 4, 5, 6, 7, 8, 9, 10, 11, 12], [])])
def impl_IsGiftPath.B6 : List Nat := [0, 1, 3, 3, 11, 27, 63, 127, 3, 259, 1023, 2047, 4095, 8191]
theorem impl_IsGiftPath.tab6 : rtab .any (opsOf Try.f63 6) = impl_IsGiftPath.T6 := by kernel_rfl
theorem impl_IsGiftPath.bits6 : waitsOk impl_IsGiftPath.T6.2 impl_IsGiftPath.B6 = true := by kernel_rfl
theorem impl_IsGiftPath.calls (A0 : Option Addr) (c0 : Nat) (l0 : List Int) (A1 : Option Addr) (c1 : Nat) (l1 : List Int) (A2 : Option Addr) (c2 : Nat) (l2 : List S39) (r1 : Bool) (r2 : Bool) (w : World) (hr0 : Kd.C (Kd.int .i64) w A0 l0.length l0) (hc0 : l0.length ≤ c0) (hr1 : Kd.C (Kd.int .i64) w A1 l1.length l1) (hc1 : l1.length ≤ c1) (hr2 : Kd.C k39 w A2 l2.length l2) (hc2 : l2.length ≤ c2) (h : impl_IsGiftPath.f l0 l1 l2 = some (r1, r2)) :
 Calls Try.prog 63 #[.slice A0 l0.length c0, .slice A1 l1.length c1, .slice A2 l2.length c2] w fun e w' => e = .returned (.tuple #[.bool r1, .bool r2]) ∧ Below w.heap.size w w' := by
 unfold impl_IsGiftPath.f at h
 split at h
 next hs =>
  obtain ⟨hs0, hs1, hs2⟩ := hs
  have h := zbe h; obtain ⟨k1, hA⟩ := Ev.get (areLists_ev l0 l1 hs0 hs1)
  have HR0 := zad hr0; have HC0 := zad hc0; have HR1 := zad hr1; have HC1 := zad hc1; have HR2 := zad hr2; have HC2 := zad hc2; have AA := zad hA; have HB0 := zad (Below.refl w.heap.size w)
  have HS0 := zad hs0; have HS1 := zad hs1; have HS2 := zad hs2; clear hr0 hc0 hr1 hc1 hr2 hc2 hA hs0 hs1 hs2; unfold igpR at h
  by_cases a : (if goodL l0 = true then goodL l1 else false) = true
  · rw [if_pos a] at h
    rw [a] at AA
    have hg : goodL l0 = true ∧ goodL l1 = true := by
     by_cases g : goodL l0 = true
     · rw [if_pos g] at a
       exact ⟨g, a⟩
     · rw [if_neg g] at a
       cases a
    obtain ⟨k2, hF⟩ := Ev.get (doFit_ev l0 l1 (good_sm hg.1) (good_sm hg.2))
    have AF := zad hF; clear hF; by_cases f : fitB l0 l1 = true
    · rw [if_pos f] at h
      rw [f] at AF
      by_cases n : (l2.length : Int) > 240
      · rw [if_pos n] at h
        obtain ⟨e1, e2⟩ := Prod.mk.inj h
        subst e1; subst e2; have n1 : decide (240 < (l2.length : Int)) = true := zba n
        have n2 : decide (240 < l2.length) = true := zba (by omega)
        clear a f n h hg; go_enter Try.func63, Try.ntmps63
        go_wp2_with (first | (go_at_call 107; (with_reducible refine (impl_areLists.calls k1 _ _ l0 _ _ l1 true _ ?side1 ?side2 ?side3 ?side4 AA.out).mono ?_); (case side1 => repeat (first | exact HR0.out | (with_reducible refine zal ?_ _) | (with_reducible refine zam ?_ _) | (with_reducible refine zan ?_))); (case side2 => exact HC0.out); (case side3 => repeat (first | exact HR1.out | (with_reducible refine zal ?_ _) | (with_reducible refine zam ?_ _) | (with_reducible refine zan ?_))); (case side4 => exact HC1.out); rintro e w' ⟨rfl, ⟨nd, rfl⟩⟩) | (go_at_call 112; (with_reducible refine (impl_doFit.calls k2 _ _ l0 _ _ l1 true _ ?side1 ?side2 ?side3 ?side4 AF.out).mono ?_); (case side1 => repeat (first | exact HR0.out | (with_reducible refine zal ?_ _) | (with_reducible refine zam ?_ _) | (with_reducible refine zan ?_))); (case side2 => exact HC0.out); (case side3 => repeat (first | exact HR1.out | (with_reducible refine zal ?_ _) | (with_reducible refine zam ?_ _) | (with_reducible refine zan ?_))); (case side4 => exact HC1.out); rintro e w' ⟨rfl, ⟨nd, rfl⟩⟩))
        go_ret2
        exact ⟨rfl, tadk⟩
      · rw [if_neg n] at h
        have n1 : decide (240 < (l2.length : Int)) = false := zbj n
        have n2 : decide (240 < l2.length) = false := zbj (by omega)
        have HCON : Aside0 (∀ q, Calls Try.prog 132 #[.slice A2 l2.length c2, .func (.func 133) #[] #[.pointer (some ⟨w.heap.size, 0, none⟩)]] ((w.alloc (.cells #[.slice A1 l1.length c1] 26)).drewN q) fun e w' => e = .returned (.bool (l2.any fun g => !isG l1 g.f0 g.f1 g.f2)) ∧ Below ((w.alloc (.cells #[.slice A1 l1.length c1] 26)).drewN q).heap.size ((w.alloc (.cells #[.slice A1 l1.length c1] 26)).drewN q) w') := ⟨fun q => gift_has A2 c2 l2 (fun g => !isG l1 g.f0 g.f1 g.f2) w.heap.size _ HS2.out (Kd.C_below HR2.out (zae (zag HB0.out _) q)) (fun g W' hb => igp_row w.heap.size A1 c1 l1 g.f0 g.f1 g.f2 W' HS1.out (pw_cell_below hb (tacz)) (Kd.C_below HR1.out (zbg (zae (zag HB0.out _) q) hb)) HC1.out)⟩
        by_cases g : (l2.any fun g => !isG l1 g.f0 g.f1 g.f2) = true
        · rw [if_pos g] at h
          rw [g] at HCON
          obtain ⟨e1, e2⟩ := Prod.mk.inj h
          subst e1; subst e2; clear a f n h hg g; go_enter Try.func63, Try.ntmps63
          go_wp2_with (first | (go_at_call 107; (with_reducible refine (impl_areLists.calls k1 _ _ l0 _ _ l1 true _ ?side1 ?side2 ?side3 ?side4 AA.out).mono ?_); (case side1 => repeat (first | exact HR0.out | (with_reducible refine zal ?_ _) | (with_reducible refine zam ?_ _) | (with_reducible refine zan ?_))); (case side2 => exact HC0.out); (case side3 => repeat (first | exact HR1.out | (with_reducible refine zal ?_ _) | (with_reducible refine zam ?_ _) | (with_reducible refine zan ?_))); (case side4 => exact HC1.out); rintro e w' ⟨rfl, ⟨nd, rfl⟩⟩) | (go_at_call 112; (with_reducible refine (impl_doFit.calls k2 _ _ l0 _ _ l1 true _ ?side1 ?side2 ?side3 ?side4 AF.out).mono ?_); (case side1 => repeat (first | exact HR0.out | (with_reducible refine zal ?_ _) | (with_reducible refine zam ?_ _) | (with_reducible refine zan ?_))); (case side2 => exact HC0.out); (case side3 => repeat (first | exact HR1.out | (with_reducible refine zal ?_ _) | (with_reducible refine zam ?_ _) | (with_reducible refine zan ?_))); (case side4 => exact HC1.out); rintro e w' ⟨rfl, ⟨nd, rfl⟩⟩) | (go_at_call 132; refine (HCON.out _).mono ?_; rintro e w1 ⟨rfl, hb⟩; have HB := zad (zbg (zae (zag HB0.out _) _) hb); have hcb := pw_cell_below hb (show (World.drewN (w.alloc (.cells #[.slice A1 l1.length c1] 26)) _).cell? ⟨w.heap.size, 0, none⟩ = some (.slice A1 l1.length c1) from by exact tacz); clear hb))
          go_ret2
          exact ⟨rfl, taab⟩
        · rw [if_neg g] at h
          rw [zbi.2 g] at HCON
          unfold igpM at h
          have hfo : impl_follow.f l1 l2 = some (folA [descL l1] (foll (descL l1) l2) (decide ((l2.length : Int) ≤ 240))) := by
           unfold impl_follow.f
           rw [if_pos ⟨hg.2, HS2.out⟩]
          rw [zba (show (l2.length : Int) ≤ 240 by omega)] at hfo
          have hrk := ranking_eq (good_sm hg.1)
          cases hm : foll (descL l1) l2 with
          | some M =>
           rw [hm] at h hfo
           simp only [folA, List.singleton_append] at h hfo
           obtain ⟨e1, e2⟩ := Prod.mk.inj h
           subst e2; have hlen := folM_len hm; have hpos : 0 < (descL l1 :: M).length := by simp
           have hlen2 : (descL l1 :: M).length ≤ 1048577 := by rw [List.length_cons]; omega
           generalize descL l1 :: M = t1521 at hfo e1 hpos hlen2
           have hsm := (good_sm hg.1).1
           have hdl : (descL l0).length ≤ 1000 := by rw [descL_length]; exact hsm
           generalize descL l0 = t1526 at hrk e1 hdl
           have hj0 : wrap64 ((t1521.length : Int) - 1) = ((t1521.length - 1 : Nat) : Int) := by rw [w64 (by omega) (by omega)]; omega
           have hlr : lastR t1521 = rd_L2 t1521 (wrap64 ((t1521.length : Int) - 1)) := by
            rw [hj0]
            unfold lastR rd_L2
            rw [Int.toNat_natCast]
           rw [hlr] at e1
           obtain ⟨ji16, hji16⟩ : ∃ j_ : Int, (wrap64 ((t1521.length : Int) - 1)) = j_ := ⟨_, rfl⟩
           rw [hji16] at e1 hj0
           have hji16w : (IntKind.i64.wrap ((t1521.length : Int) - 1)) = ji16 := (zby _).trans hji16
           have c17b0 : decide (0 ≤ (ji16)) = true := zba (by omega)
           have c18b0 : decide ((ji16) < (t1521.length : Int)) = true := zba (by omega)
           obtain ⟨kj3, hE⟩ := Ev.get (slEqual_ev' (rd_L2 t1521 ji16) t1526 hdl)
           rw [e1] at hE
           obtain ⟨t1529, ht⟩ : ∃ t, t = r1 := ⟨_, rfl⟩
           rw [← ht] at hE ⊢
           have A14 := zad hfo; have A19 := zad hrk; have A20 := zad hE; clear a f n h hg g hlr hpos hlen2 hdl hsm hE ht e1 hfo hrk hj0 hlen hm; go_enter Try.func63, Try.ntmps63
           go_wp2_with (first | (go_at_call 107; (with_reducible refine (impl_areLists.calls k1 _ _ l0 _ _ l1 true _ ?side1 ?side2 ?side3 ?side4 AA.out).mono ?_); (case side1 => repeat (first | exact HR0.out | (with_reducible refine zal ?_ _) | (with_reducible refine zam ?_ _) | (with_reducible refine zan ?_))); (case side2 => exact HC0.out); (case side3 => repeat (first | exact HR1.out | (with_reducible refine zal ?_ _) | (with_reducible refine zam ?_ _) | (with_reducible refine zan ?_))); (case side4 => exact HC1.out); rintro e w' ⟨rfl, ⟨nd, rfl⟩⟩) | (go_at_call 112; (with_reducible refine (impl_doFit.calls k2 _ _ l0 _ _ l1 true _ ?side1 ?side2 ?side3 ?side4 AF.out).mono ?_); (case side1 => repeat (first | exact HR0.out | (with_reducible refine zal ?_ _) | (with_reducible refine zam ?_ _) | (with_reducible refine zan ?_))); (case side2 => exact HC0.out); (case side3 => repeat (first | exact HR1.out | (with_reducible refine zal ?_ _) | (with_reducible refine zam ?_ _) | (with_reducible refine zan ?_))); (case side4 => exact HC1.out); rintro e w' ⟨rfl, ⟨nd, rfl⟩⟩) | (go_at_call 132; refine (HCON.out _).mono ?_; rintro e w1 ⟨rfl, hb⟩; have HB := zad (zbg (zae (zag HB0.out _) _) hb); have hcb := pw_cell_below hb (show (World.drewN (w.alloc (.cells #[.slice A1 l1.length c1] 26)) _).cell? ⟨w.heap.size, 0, none⟩ = some (.slice A1 l1.length c1) from by exact tacz); clear hb) | (go_at_call 134; (with_reducible refine (impl_follow.calls _ _ l1 _ _ l2 t1521 true _ ?side1 ?side2 ?side3 ?side4 A14.out).mono ?_); (case side1 => exact Kd.C_below HR1.out (taab)); (case side2 => exact HC1.out); (case side3 => exact Kd.C_below HR2.out (taab)); (case side4 => exact HC2.out); rintro e w21 ⟨v1523, rfl, ho0, hb⟩; have n0_ := zad (Kd.S_lower ho0 (zbm (taab))); have n1_ := zad (zbg (taab) hb); clear HB; have HO1524 := n0_; have HB := n1_; clear n0_ n1_ hb ho0 hcb))
           have n0_ := zad (Kd.S_drew HO1524.out)
           have n1_ := zad (zaf HB.out)
           clear HO1524 HB; have HO1524 := n0_; have HB := n1_; clear n0_ n1_; obtain ⟨Ao23, co23, eo23⟩ := Kd.S_slice HO1524.out
           (first | subst eo23 | (injection eo23 with f1_ f2_ f3_; have f4_ := f1_.symm; have f5_ := f3_.symm; clear f1_ f2_ f3_; subst f4_; subst f5_))
           have p1525 : 0 ≤ ((ji16) : Int) := zas (taaa)
           have q1525 : (ji16) < (t1521.length : Int) := zas (taaa)
           obtain ⟨ad1525, A1525_0, c1525_0, e1525, hx1525_0, hl1525_0, hi1525_0⟩ := at_L2 (Kd.S_reads' HO1524.out).2.2 (ji16) p1525 q1525
           cases e1525
           obtain ⟨ce1525, hce1525, hMe1525, hcc1525⟩ := Kd.S_get HO1524.out [] (ji16) p1525 (by first | exact q1525 | exact zas (taaa) | (have e_ := (Kd.S_reads' HO1524.out).1; omega))
           obtain ⟨ve1525_0, rfl, ge1525_0⟩ := hMe1525
           have hv1525_0 := hcc1525 0 _ rfl
           rw [Nat.add_zero, show ((Kd.slice 3 (Kd.int .i64))).sz = 1 from rfl, Nat.mul_one] at hv1525_0
           replace hv1525_0 := zbe (hv1525_0.symm.trans hx1525_0)
           rw [hv1525_0] at ge1525_0
           have HL1525_0 := zad (show Kd.R (Kd.int .i64) 3 _ _ _ _ (rd_L2 t1521 (ji16)) from ge1525_0)
           clear hv1525_0 ge1525_0 hcc1525 hce1525; have HR1525_0 := zad hi1525_0; have HC1525_0 := zad hl1525_0; clear hi1525_0 hl1525_0; replace p1525 := eq_true p1525
           replace q1525 := eq_true q1525
           refine start_ (n := 14) (S := fun w' => w'.cell? (ad1525.add ((ji16)).toNat) = some (.slice A1525_0 (rd_L2 t1521 (ji16)).length c1525_0)) (ds := []) #[false, false, false, false, false, false, false, false, false, false, false, false, false, false] (by kernel_rfl) rfl rfl (hx1525_0) (fun hHeld => ?_); refine with_tabW impl_IsGiftPath.tab6 impl_IsGiftPath.bits6 (fun HT_ HW_ => ?_)
           generalize w21.drew = w22 at HO1524 HB HL1525_0 HR1525_0 hx1525_0 hHeld ⊢
           refine pure_ (i := 0) (N := some 34) (v := ?_) (a' := ?_) #[true, false, false, false, false, false, false, false, false, false, false, false, false, false] rfl rfl (zca HT_.out (by kernel_rfl)) (fun _ _ _ h => h) (Or.inl ⟨by rfl, ?_⟩) ?_ ?_
           rotate_left
           · intro w'
             go_simp; with_reducible rfl
           rotate_left
           · simp only [Act.put, zaa, zab, zac, zby, zbz]
             rfl
           refine pure_ (i := 1) (N := some 35) (v := ?_) (a' := ?_) #[true, true, false, false, false, false, false, false, false, false, false, false, false, false] rfl rfl (zca HT_.out (by kernel_rfl)) (fun _ _ _ h => h) (Or.inl ⟨by rfl, ?_⟩) ?_ ?_
           rotate_left
           · intro w'
             go_simp; with_reducible rfl
           rotate_left
           · simp only [Act.put, zaa, zab, zac, zby, zbz]
             rfl
           refine pure_ (i := 2) (N := some 36) (v := ?_) (a' := ?_) #[true, true, true, false, false, false, false, false, false, false, false, false, false, false] rfl rfl (zca HT_.out (by kernel_rfl)) (fun _ _ _ h => h) (Or.inl ⟨by rfl, ?_⟩) ?_ ?_
           rotate_left
           · intro w'
             go_simp; with_reducible rfl
           rotate_left
           · simp only [Act.put, zaa, zab, zac, zby, zbz]
             rfl
           refine pure_ (i := 3) (N := some 37) (v := ?_) (a' := ?_) #[true, true, true, true, false, false, false, false, false, false, false, false, false, false] rfl rfl (zca HT_.out (by kernel_rfl)) (fun _ _ _ h => h) (Or.inl ⟨by rfl, ?_⟩) ?_ ?_
           rotate_left
           · intro w'
             go_simp; with_reducible rfl
           rotate_left
           · simp only [Act.put, zaa, zab, zac, zby, zbz]
             rfl
           refine pure_ (i := 4) (N := some 38) (v := ?_) (a' := ?_) #[true, true, true, true, true, false, false, false, false, false, false, false, false, false] rfl rfl (zca HT_.out (by kernel_rfl)) (fun _ _ _ h => h) (Or.inl ⟨by rfl, ?_⟩) ?_ ?_
           rotate_left
           · intro w'
             go_simp; with_reducible rfl
           rotate_left
           · simp only [Act.put, zaa, zab, zac, zby, zbz]
             rfl
           refine pure_ (i := 5) (N := some 39) (v := ?_) (a' := ?_) #[true, true, true, true, true, true, false, false, false, false, false, false, false, false] rfl rfl (zca HT_.out (by kernel_rfl)) (fun _ _ _ h => h) (Or.inl ⟨by rfl, ?_⟩) ?_ ?_
           rotate_left
           · intro w'
             go_simp; with_reducible rfl
           rotate_left
           · simp only [Act.put, zaa, zab, zac, zby, zbz]
             rfl
           refine pure_ (i := 6) (N := some 40) (v := ?_) (a' := ?_) #[true, true, true, true, true, true, true, false, false, false, false, false, false, false] rfl rfl (zca HT_.out (by kernel_rfl)) (fun _ _ _ h => h) (Or.inl ⟨by rfl, ?_⟩) ?_ ?_
           rotate_left
           · intro w'
             go_simp; with_reducible rfl
           rotate_left
           · simp only [Act.put, zaa, zab, zac, zby, zbz]
             rfl
           refine pure_ (i := 8) (N := some 42) (v := ?_) (a' := ?_) #[true, true, true, true, true, true, true, false, true, false, false, false, false, false] rfl rfl (zca HT_.out (by kernel_rfl)) (fun _ _ _ h => h) (Or.inl ⟨by rfl, ?_⟩) ?_ ?_
           rotate_left
           · intro w'
             go_simp; with_reducible rfl
           rotate_left
           · simp only [Act.put, zaa, zab, zac, zby, zbz]
             rfl
           refine take_ (i := 7) (N := some 41) (v := ?_) (a' := ?_) #[true, true, true, true, true, true, true, true, true, false, false, false, false, false] rfl rfl (zcb HT_.out HW_.out (by kernel_rfl)) (fun _ _ _ h => h) (Or.inl ⟨by rfl, ?_⟩) hHeld ?_ ?_
           rotate_left
           · intro w' s0
             go_simp; with_reducible rfl
           rotate_left
           · simp only [Act.put, zaa, zab, zac, zby, zbz]
             rfl
           refine one_ (i := 9) (N := some 43) #[true, true, true, true, true, true, true, true, true, true, false, false, false, false] rfl rfl (one_of HT_.out (by kernel_rfl)) (by decide) (fun K hK => ?_)
           refine goes_ Try.func88 (by kernel_rfl) rfl #[.slice A0 l0.length c0] (by rfl) rfl rfl (taad) ?_
           with_reducible refine (impl_ranking.calls _ _ l0 t1526 _ ?side1 ?side2 A19.out).mono ?_
           (case side1 => exact tagc)
           (case side2 => exact HC0.out)
           rintro e w24 ⟨v1527, rfl, ho0, hb⟩
           have HS0_ := (hb.cell (zaz _ _ (hHeld))).trans (hHeld)
           refine ⟨_, rfl, ?_⟩
           have n0_ := zad (Kd.S_elder' (by (with_reducible repeat (first | apply Kd.S_alloc | apply Kd.S_drewN | apply Kd.S_drew)); exact HO1524.out) (zcf ho0) hb)
           have n1_ := zad (zcd (tafg) (zcf ho0) hb)
           have n2_ := zad (zbw (zce ho0 (zcg (tafg))) (zbm (taab)))
           have n3_ := zad (Kd.C_below (tafh) hb)
           have n4_ := zad (zbg (taab) hb)
           clear HO1524 HL1525_0 HR1525_0 HB; have HO1524 := n0_; have HL1525_0 := n1_; have HO1528 := n2_; have HR1525_0 := n3_; have HB := n4_; clear n0_ n1_ n2_ n3_ n4_; (try clear hb); (try clear hb2); (try clear hk); (try clear hi); (try clear ho0); obtain ⟨Ao25, co25, eo25⟩ := zbx HO1528.out
           (first | subst eo25 | (injection eo25 with f1_ f2_ f3_; have f4_ := f1_.symm; have f5_ := f3_.symm; clear f1_ f2_ f3_; subst f4_; subst f5_))
           refine hK.out _ _ (HS0_) (fun hHeld => ?_)
           clear hK K; refine norm_ (a' := ?_) ?_ ?_
           rotate_left
           · show Act.put _ (some 43) _ = _
             simp only [Act.put, zaa, zab, zac, zby, zbz]
             rfl
           refine one_ (i := 10) (N := some 44) #[true, true, true, true, true, true, true, true, true, true, true, false, false, false] rfl rfl (one_of HT_.out (by kernel_rfl)) (by decide) (fun K hK => ?_)
           refine goes_ Try.func135 (by kernel_rfl) rfl #[.slice A1525_0 (rd_L2 t1521 (ji16)).length c1525_0, .slice Ao25 t1526.length co25] (by rfl) rfl rfl (by (try simp only [zat, zau, zav]); first | done | (simp only [hji16]; rfl) | rfl | (simp only [zaw, zax]; rfl)) ?_
           with_reducible refine (slices_Equal_int_int.calls kj3 _ _ (rd_L2 t1521 (ji16)) _ _ t1526 t1529 _ ?side1 ?side2 ?side3 ?side4 A20.out).mono ?_
           (case side1 => repeat (first | exact (tafh) | (with_reducible refine zal ?_ _) | (with_reducible refine zam ?_ _) | (with_reducible refine zan ?_)))
           (case side2 => exact HC1525_0.out)
           (case side3 => repeat (first | exact (zbf HO1528.out).2.2 | (with_reducible refine zal ?_ _) | (with_reducible refine zam ?_ _) | (with_reducible refine zan ?_)))
           (case side4 => exact (zbf HO1528.out).2.1)
           rintro e w' ⟨rfl, ⟨nd, rfl⟩⟩
           refine ⟨_, rfl, ?_⟩
           refine hK.out _ _ (hHeld) (fun hHeld => ?_)
           clear hK K; refine norm_ (a' := ?_) ?_ ?_
           rotate_left
           · show Act.put _ (some 44) _ = _
             simp only [Act.put, zaa, zab, zac, zby, zbz]
             rfl
           refine pure_ (i := 11) (N := some 45) (v := ?_) (a' := ?_) #[true, true, true, true, true, true, true, true, true, true, true, true, false, false] rfl rfl (zca HT_.out (by kernel_rfl)) (fun _ _ _ h => h) (Or.inl ⟨by rfl, ?_⟩) ?_ ?_
           rotate_left
           · intro w'
             go_simp; with_reducible rfl
           rotate_left
           · simp only [Act.put, zaa, zab, zac, zby, zbz]
             rfl
           refine pure_ (i := 12) (N := some 6) (v := ?_) (a' := ?_) #[true, true, true, true, true, true, true, true, true, true, true, true, true, false] rfl rfl (zca HT_.out (by kernel_rfl)) (fun _ _ _ h => h) (Or.inl ⟨by rfl, ?_⟩) ?_ ?_
           rotate_left
           · intro w'
             go_simp; with_reducible rfl
           rotate_left
           · simp only [Act.put, zaa, zab, zac, zby, zbz]
             rfl
           refine pure_ (i := 13) (N := some 7) (v := ?_) (a' := ?_) #[true, true, true, true, true, true, true, true, true, true, true, true, true, true] rfl rfl (zca HT_.out (by kernel_rfl)) (fun _ _ _ h => h) (Or.inl ⟨by rfl, ?_⟩) ?_ ?_
           rotate_left
           · intro w'
             go_simp; with_reducible rfl
           rotate_left
           · simp only [Act.put, zaa, zab, zac, zby, zbz]
             rfl
           refine done_ (done_of HT_.out (by kernel_rfl)) ?_
           try go_wp2
           go_ret2
           exact ⟨by first | rfl | (simp only [← hji16]; first | rfl | simp) | (simp [*] <;> rfl), taab⟩
          | none =>
           rw [hm] at h hfo
           simp only [folA] at h hfo
           obtain ⟨e1, e2⟩ := Prod.mk.inj h
           subst e1; subst e2; have A14 := zad hfo; clear a f n h hg g hfo hrk hm; go_enter Try.func63, Try.ntmps63
           go_wp2_with (first | (go_at_call 107; (with_reducible refine (impl_areLists.calls k1 _ _ l0 _ _ l1 true _ ?side1 ?side2 ?side3 ?side4 AA.out).mono ?_); (case side1 => repeat (first | exact HR0.out | (with_reducible refine zal ?_ _) | (with_reducible refine zam ?_ _) | (with_reducible refine zan ?_))); (case side2 => exact HC0.out); (case side3 => repeat (first | exact HR1.out | (with_reducible refine zal ?_ _) | (with_reducible refine zam ?_ _) | (with_reducible refine zan ?_))); (case side4 => exact HC1.out); rintro e w' ⟨rfl, ⟨nd, rfl⟩⟩) | (go_at_call 112; (with_reducible refine (impl_doFit.calls k2 _ _ l0 _ _ l1 true _ ?side1 ?side2 ?side3 ?side4 AF.out).mono ?_); (case side1 => repeat (first | exact HR0.out | (with_reducible refine zal ?_ _) | (with_reducible refine zam ?_ _) | (with_reducible refine zan ?_))); (case side2 => exact HC0.out); (case side3 => repeat (first | exact HR1.out | (with_reducible refine zal ?_ _) | (with_reducible refine zam ?_ _) | (with_reducible refine zan ?_))); (case side4 => exact HC1.out); rintro e w' ⟨rfl, ⟨nd, rfl⟩⟩) | (go_at_call 132; refine (HCON.out _).mono ?_; rintro e w1 ⟨rfl, hb⟩; have HB := zad (zbg (zae (zag HB0.out _) _) hb); have hcb := pw_cell_below hb (show (World.drewN (w.alloc (.cells #[.slice A1 l1.length c1] 26)) _).cell? ⟨w.heap.size, 0, none⟩ = some (.slice A1 l1.length c1) from by exact tacz); clear hb) | (go_at_call 134; (with_reducible refine (impl_follow.calls _ _ l1 _ _ l2 [] false _ ?side1 ?side2 ?side3 ?side4 A14.out).mono ?_); (case side1 => exact Kd.C_below HR1.out (taab)); (case side2 => exact HC1.out); (case side3 => exact Kd.C_below HR2.out (taab)); (case side4 => exact HC2.out); rintro e w26 ⟨v1523, rfl, ho0, hb⟩; have n0_ := zad (Kd.S_lower ho0 (zbm (taab))); have n1_ := zad (zbg (taab) hb); clear HB; have HO1524 := n0_; have HB := n1_; clear n0_ n1_ hb ho0 hcb))
           have n0_ := zad (Kd.S_drew HO1524.out)
           have n1_ := zad (zaf HB.out)
           clear HO1524 HB; have HO1524 := n0_; have HB := n1_; clear n0_ n1_; refine start_ (n := 14) (S := fun w' => True) (ds := []) #[false, false, false, false, false, false, false, false, false, false, false, false, false, false] (by kernel_rfl) rfl rfl trivial (fun hHeld => ?_); refine with_tabW impl_IsGiftPath.tab6 impl_IsGiftPath.bits6 (fun HT_ HW_ => ?_)
           generalize w26.drew = w27 at HO1524 HB hHeld ⊢
           refine pure_ (i := 0) (N := some 34) (v := ?_) (a' := ?_) #[true, false, false, false, false, false, false, false, false, false, false, false, false, false] rfl rfl (zca HT_.out (by kernel_rfl)) (fun _ _ _ h => h) (Or.inl ⟨by rfl, ?_⟩) ?_ ?_
           rotate_left
           · intro w'
             go_simp; with_reducible rfl
           rotate_left
           · simp only [Act.put, zaa, zab, zac, zby, zbz]
             rfl
           refine pure_ (i := 1) (N := some 35) (v := ?_) (a' := ?_) #[true, true, false, false, false, false, false, false, false, false, false, false, false, false] rfl rfl (zca HT_.out (by kernel_rfl)) (fun _ _ _ h => h) (Or.inl ⟨by rfl, ?_⟩) ?_ ?_
           rotate_left
           · intro w'
             go_simp; with_reducible rfl
           rotate_left
           · simp only [Act.put, zaa, zab, zac, zby, zbz]
             rfl
           refine pure_ (i := 2) (N := some 36) (v := undef) (a' := ?_) #[true, true, true, false, false, false, false, false, false, false, false, false, false, false] rfl rfl (zca HT_.out (by kernel_rfl)) (fun _ _ _ h => h) (Or.inr ⟨by rfl, rfl⟩) ?_ ?_
           rotate_left
           · simp only [Act.put, zaa, zab, zac, zby, zbz]
             rfl
           refine pure_ (i := 3) (N := some 37) (v := undef) (a' := ?_) #[true, true, true, true, false, false, false, false, false, false, false, false, false, false] rfl rfl (zca HT_.out (by kernel_rfl)) (fun _ _ _ h => h) (Or.inr ⟨by rfl, rfl⟩) ?_ ?_
           rotate_left
           · simp only [Act.put, zaa, zab, zac, zby, zbz]
             rfl
           refine pure_ (i := 4) (N := some 38) (v := undef) (a' := ?_) #[true, true, true, true, true, false, false, false, false, false, false, false, false, false] rfl rfl (zca HT_.out (by kernel_rfl)) (fun _ _ _ h => h) (Or.inr ⟨by rfl, rfl⟩) ?_ ?_
           rotate_left
           · simp only [Act.put, zaa, zab, zac, zby, zbz]
             rfl
           refine pure_ (i := 5) (N := some 39) (v := undef) (a' := ?_) #[true, true, true, true, true, true, false, false, false, false, false, false, false, false] rfl rfl (zca HT_.out (by kernel_rfl)) (fun _ _ _ h => h) (Or.inr ⟨by rfl, rfl⟩) ?_ ?_
           rotate_left
           · simp only [Act.put, zaa, zab, zac, zby, zbz]
             rfl
           refine pure_ (i := 6) (N := some 40) (v := undef) (a' := ?_) #[true, true, true, true, true, true, true, false, false, false, false, false, false, false] rfl rfl (zca HT_.out (by kernel_rfl)) (fun _ _ _ h => h) (Or.inr ⟨by rfl, rfl⟩) ?_ ?_
           rotate_left
           · simp only [Act.put, zaa, zab, zac, zby, zbz]
             rfl
           refine pure_ (i := 7) (N := some 41) (v := undef) (a' := ?_) #[true, true, true, true, true, true, true, true, false, false, false, false, false, false] rfl rfl (zca HT_.out (by kernel_rfl)) (fun _ _ _ h => h) (Or.inr ⟨by rfl, rfl⟩) ?_ ?_
           rotate_left
           · simp only [Act.put, zaa, zab, zac, zby, zbz]
             rfl
           refine pure_ (i := 8) (N := some 42) (v := undef) (a' := ?_) #[true, true, true, true, true, true, true, true, true, false, false, false, false, false] rfl rfl (zca HT_.out (by kernel_rfl)) (fun _ _ _ h => h) (Or.inr ⟨by rfl, rfl⟩) ?_ ?_
           rotate_left
           · simp only [Act.put, zaa, zab, zac, zby, zbz]
             rfl
           refine pure_ (i := 9) (N := some 43) (v := undef) (a' := ?_) #[true, true, true, true, true, true, true, true, true, true, false, false, false, false] rfl rfl (zca HT_.out (by kernel_rfl)) (fun _ _ _ h => h) (Or.inr ⟨by rfl, rfl⟩) ?_ ?_
           rotate_left
           · simp only [Act.put, zaa, zab, zac, zby, zbz]
             rfl
           refine pure_ (i := 10) (N := some 44) (v := undef) (a' := ?_) #[true, true, true, true, true, true, true, true, true, true, true, false, false, false] rfl rfl (zca HT_.out (by kernel_rfl)) (fun _ _ _ h => h) (Or.inr ⟨by rfl, rfl⟩) ?_ ?_
           rotate_left
           · simp only [Act.put, zaa, zab, zac, zby, zbz]
             rfl
           refine pure_ (i := 11) (N := some 45) (v := ?_) (a' := ?_) #[true, true, true, true, true, true, true, true, true, true, true, true, false, false] rfl rfl (zca HT_.out (by kernel_rfl)) (fun _ _ _ h => h) (Or.inl ⟨by rfl, ?_⟩) ?_ ?_
           rotate_left
           · intro w'
             go_simp; with_reducible rfl
           rotate_left
           · simp only [Act.put, zaa, zab, zac, zby, zbz]
             rfl
           refine pure_ (i := 12) (N := some 6) (v := ?_) (a' := ?_) #[true, true, true, true, true, true, true, true, true, true, true, true, true, false] rfl rfl (zca HT_.out (by kernel_rfl)) (fun _ _ _ h => h) (Or.inl ⟨by rfl, ?_⟩) ?_ ?_
           rotate_left
           · intro w'
             go_simp; with_reducible rfl
           rotate_left
           · simp only [Act.put, zaa, zab, zac, zby, zbz]
             rfl
           refine pure_ (i := 13) (N := some 7) (v := ?_) (a' := ?_) #[true, true, true, true, true, true, true, true, true, true, true, true, true, true] rfl rfl (zca HT_.out (by kernel_rfl)) (fun _ _ _ h => h) (Or.inl ⟨by rfl, ?_⟩) ?_ ?_
           rotate_left
           · intro w'
             go_simp; with_reducible rfl
           rotate_left
           · simp only [Act.put, zaa, zab, zac, zby, zbz]
             rfl
           refine done_ (done_of HT_.out (by kernel_rfl)) ?_
           try go_wp2
           go_ret2
           exact ⟨by first | rfl | (simp [*] <;> rfl), taab⟩
    · rw [if_neg f] at h
      obtain ⟨e1, e2⟩ := Prod.mk.inj h
      subst e1; subst e2; rw [zbi.2 f] at AF
      clear a f h hg; go_enter Try.func63, Try.ntmps63
      go_wp2_with (first | (go_at_call 107; (with_reducible refine (impl_areLists.calls k1 _ _ l0 _ _ l1 true _ ?side1 ?side2 ?side3 ?side4 AA.out).mono ?_); (case side1 => repeat (first | exact HR0.out | (with_reducible refine zal ?_ _) | (with_reducible refine zam ?_ _) | (with_reducible refine zan ?_))); (case side2 => exact HC0.out); (case side3 => repeat (first | exact HR1.out | (with_reducible refine zal ?_ _) | (with_reducible refine zam ?_ _) | (with_reducible refine zan ?_))); (case side4 => exact HC1.out); rintro e w' ⟨rfl, ⟨nd, rfl⟩⟩) | (go_at_call 112; (with_reducible refine (impl_doFit.calls k2 _ _ l0 _ _ l1 false _ ?side1 ?side2 ?side3 ?side4 AF.out).mono ?_); (case side1 => repeat (first | exact HR0.out | (with_reducible refine zal ?_ _) | (with_reducible refine zam ?_ _) | (with_reducible refine zan ?_))); (case side2 => exact HC0.out); (case side3 => repeat (first | exact HR1.out | (with_reducible refine zal ?_ _) | (with_reducible refine zam ?_ _) | (with_reducible refine zan ?_))); (case side4 => exact HC1.out); rintro e w' ⟨rfl, ⟨nd, rfl⟩⟩))
      go_ret2
      exact ⟨rfl, tadk⟩
  · rw [if_neg a] at h
    obtain ⟨e1, e2⟩ := Prod.mk.inj h
    subst e1; subst e2; rw [zbi.2 a] at AA
    clear a h; go_enter Try.func63, Try.ntmps63
    go_wp2_with (first | (go_at_call 107; (with_reducible refine (impl_areLists.calls k1 _ _ l0 _ _ l1 false _ ?side1 ?side2 ?side3 ?side4 AA.out).mono ?_); (case side1 => exact taga); (case side2 => exact HC0.out); (case side3 => exact tagb); (case side4 => exact HC1.out); rintro e w' ⟨rfl, ⟨nd, rfl⟩⟩))
    go_ret2
    exact ⟨rfl, tadk⟩
 next => cases h
end Go.Proofs.Ytnlimjejllakoaa.A
