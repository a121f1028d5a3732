/- What the law FnAcceptedGiftPaths reaches, part 2: Lean functions with the same answers as the Go functions, the proofs that the Go code comes to these answers, and lemmas about them; no condition beyond those that each theorem names. -/
import Derived.Test.YtnlimjejllakoaaCFnAcceptedGiftPathsw1
import Derived.Test.YtnlimjejllakoaaCFnAcceptedGiftPaths1
set_option linter.unusedVariables false
set_option linter.unusedSimpArgs false
set_option maxHeartbeats 8000000
set_option maxRecDepth 100000
namespace Go.Proofs.Ytnlimjejllakoaa.A
open Go.RowKit Go.Proofs.YtnlimjejllakoaaW.PrintWords Go.Proofs.YtnlimjejllakoaaW.PrintLast Go.Proofs.YtnlimjejllakoaaW.PrintMore
attribute [local go_sem] max2_int min2_int max_two min_two max_three min_three max_four min_four
def impl_canGive.f (l0 : List Int) (a1_0 : Int) (a1_1 : Int) (a1_2 : Int) : Option (Bool) := (impl_isGift.f l0 a1_0 a1_1 a1_2).bind fun t474 => (if t474 = true then (if 0 ≤ a1_0 then (if a1_0 < (l0.length : Int) then (if a1_2 ≤ (rd l0 a1_0) then (if 0 ≤ a1_1 then (if a1_1 < (l0.length : Int) then (some (decide (a1_2 ≤ (wrap64 (60 - (rd l0 a1_1)))))) else (none)) else (none)) else (some false)) else (none)) else (none)) else (some false))
def impl_canGive.T1 : Bool × List (List Nat × List Nat) := (true, [([], []), ([], []), ([0, 1], [0, 1]), ([2, 2], [2]), ([3], [3]), ([4, 3], [3, 4]), ([3], [3]), ([3], [3]), ([7, 3], [3, 7]), ([6, 8, 3], [3, 6, 8]), ([9, 3], [3, 9]), ([5, 10, 3], [3, 5, 10]), ([3, 11], [3, 11]), ([12, 3], [12]), ([13], [13]), ([14, 13], [13, 14]), ([13], [13]), ([13], [13]), ([17, 13], [13, 17]), ([16, 18, 13], [13, 16, 18]), ([19, 13], [13, 19]), ([20, 13], [13, 20]), ([15, 21, 13], [13, 15, 21]), ([13, 22], [13, 22]), ([23, 13, 0, 1, 2, 3, 4, 5, 6, 7, 8, 9, 10, 11, 12, 13, 14, 15, 16, 17, 18, 19, 20, 21, 22, 23], [23])])
def impl_canGive.B1 : List Nat := [0, 0, 3, 7, 15, 31, 15, 15, 143, 463, 975, 2047, 4095, 8191, 16383, 32767, 16383, 16383, 147455, 475135, 999423, 2047999, 4194303, 8388607, 16777215]
theorem impl_canGive.tab1 : rtab .any (opsOf Try.f104 1) = impl_canGive.T1 := by kernel_rfl
theorem impl_canGive.bits1 : waitsOk impl_canGive.T1.2 impl_canGive.B1 = true := by kernel_rfl
theorem impl_canGive.calls (A0 : Option Addr) (c0 : Nat) (l0 : List Int) (a1_0 : Int) (a1_1 : Int) (a1_2 : Int) (r : Bool) (w : World) (hr0 : Kd.C (Kd.int .i64) w A0 l0.length l0) (hc0 : l0.length ≤ c0) (h : impl_canGive.f l0 a1_0 a1_1 a1_2 = some r) :
 Calls Try.prog 104 #[.slice A0 l0.length c0, .agg #[.int .i64 a1_0, .int .i64 a1_1, .int .i64 a1_2]] w fun e w' => e = .returned (.bool r) ∧ Below w.heap.size w w' := by
 have hu39 := Try.underlying39
 have HR0 := zad hr0; have HC0 := zad hc0; clear hr0 hc0; have HB := zad (Below.refl w.heap.size w)
 have H : ((impl_isGift.f l0 a1_0 a1_1 a1_2).bind fun t474 => (if t474 = true then (if 0 ≤ a1_0 then (if a1_0 < (l0.length : Int) then (if a1_2 ≤ (rd l0 a1_0) then (if 0 ≤ a1_1 then (if a1_1 < (l0.length : Int) then (some (decide (a1_2 ≤ (wrap64 (60 - (rd l0 a1_1)))))) else (none)) else (none)) else (some false)) else (none)) else (none)) else (some false))) = some r := h
 clear h; replace H := zay.mp H; obtain ⟨t474, A30, H⟩ := H
 replace H : (if t474 = true then (if 0 ≤ a1_0 then (if a1_0 < (l0.length : Int) then (if a1_2 ≤ (rd l0 a1_0) then (if 0 ≤ a1_1 then (if a1_1 < (l0.length : Int) then (some (decide (a1_2 ≤ (wrap64 (60 - (rd l0 a1_1)))))) else (none)) else (none)) else (some false)) else (none)) else (none)) else (some false)) = some r := H
 have A3 := zad A30; clear A30; by_cases c4 : t474 = true
 · subst c4
   have H1 : (if 0 ≤ a1_0 then (if a1_0 < (l0.length : Int) then (if a1_2 ≤ (rd l0 a1_0) then (if 0 ≤ a1_1 then (if a1_1 < (l0.length : Int) then (some (decide (a1_2 ≤ (wrap64 (60 - (rd l0 a1_1)))))) else (none)) else (none)) else (some false)) else (none)) else (none)) = some r := by rw [if_pos rfl] at H; exact H
   clear H; have H := H1; clear H1; by_cases c5 : 0 ≤ a1_0
   · rw [if_pos c5] at H
     have c5b0 : decide (0 ≤ a1_0) = true := zba c5
     clear c5; by_cases c6 : a1_0 < (l0.length : Int)
     · rw [if_pos c6] at H
       have c6b0 : decide (a1_0 < (l0.length : Int)) = true := zba c6
       clear c6; by_cases c7 : a1_2 ≤ (rd l0 a1_0)
       · rw [if_pos c7] at H
         have c7b0 : decide (a1_2 ≤ (rd l0 a1_0)) = true := zba c7
         clear c7; by_cases c8 : 0 ≤ a1_1
         · rw [if_pos c8] at H
           have c8b0 : decide (0 ≤ a1_1) = true := zba c8
           clear c8; by_cases c9 : a1_1 < (l0.length : Int)
           · rw [if_pos c9] at H
             have c9b0 : decide (a1_1 < (l0.length : Int)) = true := zba c9
             clear c9; obtain rfl := zbc H
             go_enter Try.func104, Try.ntmps104
             try go_wp2_with (first | ((with_reducible refine gate_dst (N := 3) rfl ?_); refine box_event ?hg (N := 3) ?hd (cs := #[.int .i64 a1_0, .int .i64 a1_1, .int .i64 a1_2]) (t := 39) ?hr ?_; (case hd => rfl); (case hg => rfl); (case hr => first | (go_simp; done) | (go_simp; rfl)); intro gb473 hg w10 hbox hb; have n0_ := zad (zbe (taaa) hb); have n1_ := zad (hbox); have n2_ := zad ((taee : w.heap.size ≤ gb473)); have n3_ := zad ((taee : w.heap.size ≤ gb473)); clear HB; have HB := n0_; have BK473 := n1_; have GW473 := n2_; have GE473 := n3_; clear n0_ n1_ n2_ n3_ hb hbox hg))
             have n0_ := zad (blk_drew BK473.out)
             have n1_ := zad (zaf HB.out)
             clear BK473 HB; have BK473 := n0_; have HB := n1_; clear n0_ n1_; have p475 : 0 ≤ (a1_0 : Int) := zas (taab)
             have q475 : a1_0 < (l0.length : Int) := zas (taab)
             obtain ⟨ad475, e475, hx475_0⟩ := zca HR0.out a1_0 p475 q475
             have hw475_0 := hx475_0
             cases e475
             replace hx475_0 := (HB.out.cell (zaz w _ hx475_0)).trans hx475_0
             replace p475 := eq_true p475
             replace q475 := eq_true q475
             have p476 : 0 ≤ (a1_1 : Int) := zas (taab)
             have q476 : a1_1 < (l0.length : Int) := zas (taab)
             obtain ⟨ad476, e476, hx476_0⟩ := zca HR0.out a1_1 p476 q476
             have hw476_0 := hx476_0
             obtain rfl : ad475 = ad476 := (by injection e476)
             replace hx476_0 := (HB.out.cell (zaz w _ hx476_0)).trans hx476_0
             replace p476 := eq_true p476
             replace q476 := eq_true q476
             refine start_ (n := 25) (S := fun w' => w'.cell? ⟨gb473, 0, none⟩ = some (.int .i64 a1_0) ∧ w'.cell? ⟨gb473, 1, none⟩ = some (.int .i64 a1_1) ∧ w'.cell? ⟨gb473, 2, none⟩ = some (.int .i64 a1_2) ∧ w'.cell? (ad475.add (a1_0).toNat) = some (.int .i64 (rd l0 a1_0)) ∧ w'.cell? (ad475.add (a1_1).toNat) = some (.int .i64 (rd l0 a1_1))) (ds := []) #[false, false, false, false, false, false, false, false, false, false, false, false, false, false, false, false, false, false, false, false, false, false, false, false, false] (by kernel_rfl) rfl rfl ⟨(zbi BK473.out 0).trans rfl, (zbi BK473.out 1).trans rfl, (zbi BK473.out 2).trans rfl, ((HB.out.cell (zaz w _ hw475_0)).trans hw475_0), ((HB.out.cell (zaz w _ hw476_0)).trans hw476_0)⟩ (fun hHeld => ?_); refine with_tabW impl_canGive.tab1 impl_canGive.bits1 (fun HT_ HW_ => ?_)
             generalize w10.drew = w11 at BK473 HB hx475_0 hx476_0 hHeld ⊢
             refine pure_ (i := 0) (N := some 5) (v := ?_) (a' := ?_) tafq rfl rfl (zby HT_.out (by kernel_rfl)) (fun _ _ _ h => h) (Or.inl ⟨by rfl, ?_⟩) ?_ ?_
             rotate_left
             · intro w'
               go_simp; with_reducible rfl
             rotate_left
             · simp only [Act.put, zaa, zab, zac, zbw, zbx]
               rfl
             refine take_ (i := 1) (N := some 6) (v := ?_) (a' := ?_) tafr rfl rfl (zbz HT_.out HW_.out (by kernel_rfl)) (fun _ _ _ h => h) (Or.inl ⟨by rfl, ?_⟩) hHeld ?_ ?_
             rotate_left
             · rintro w' ⟨s0, s1, s2, s3, s4⟩
               go_simp; with_reducible rfl
             rotate_left
             · simp only [Act.put, zaa, zab, zac, zbw, zbx]
               rfl
             refine one_ (i := 2) (N := some 7) #[true, true, true, false, false, false, false, false, false, false, false, false, false, false, false, false, false, false, false, false, false, false, false, false, false] rfl rfl (one_of HT_.out (by kernel_rfl)) (by decide) (fun K hK => ?_)
             refine goes_ Try.func102 (by kernel_rfl) rfl #[.slice (some ad475) l0.length c0, .agg #[.int .i64 a1_0, .int .i64 a1_1, .int .i64 a1_2]] (by rfl) rfl rfl (taad) ?_
             with_reducible refine (impl_isGift.calls _ _ l0 a1_0 a1_1 a1_2 true _ ?side1 ?side2 A3.out).mono ?_
             (case side1 => exact taev)
             (case side2 => exact HC0.out)
             rintro e w12 ⟨rfl, hb⟩
             refine ⟨_, rfl, ?_⟩
             have n0_ := zad (blk_below (g := gb473) (o := .cells #[.int .i64 a1_0, .int .i64 a1_1, .int .i64 a1_2] 39 (0, 0)) (tadf) hb)
             have n1_ := zad (zbe (tabr) hb)
             clear BK473 HB; have BK473 := n0_; have HB := n1_; clear n0_ n1_; (try clear hb); (try clear hb2); (try clear hk); (try clear hi); refine hK.out _ _ ⟨(zbi BK473.out 0).trans rfl, (zbi BK473.out 1).trans rfl, (zbi BK473.out 2).trans rfl, ((HB.out.cell (zaz w _ hw475_0)).trans hw475_0), ((HB.out.cell (zaz w _ hw476_0)).trans hw476_0)⟩ (fun hHeld => ?_)
             clear hK K; refine norm_ (a' := ?_) ?_ ?_
             rotate_left
             · show Act.put _ (some 7) _ = _
               simp only [Act.put, zaa, zab, zac, zbw, zbx]
               rfl
             refine pure_ (i := 3) (N := some 8) (v := ?_) (a' := ?_) tafs rfl rfl (zby HT_.out (by kernel_rfl)) (fun _ _ _ h => h) (Or.inl ⟨by rfl, ?_⟩) ?_ ?_
             rotate_left
             · intro w'
               go_simp; with_reducible rfl
             rotate_left
             · simp only [Act.put, zaa, zab, zac, zbw, zbx]
               rfl
             refine pure_ (i := 4) (N := some 9) (v := ?_) (a' := ?_) taft rfl rfl (zby HT_.out (by kernel_rfl)) (fun _ _ _ h => h) (Or.inl ⟨by rfl, ?_⟩) ?_ ?_
             rotate_left
             · intro w'
               go_simp; with_reducible rfl
             rotate_left
             · simp only [Act.put, zaa, zab, zac, zbw, zbx]
               rfl
             refine pure_ (i := 6) (N := some 11) (v := ?_) (a' := ?_) tafu rfl rfl (zby HT_.out (by kernel_rfl)) (fun _ _ _ h => h) (Or.inl ⟨by rfl, ?_⟩) ?_ ?_
             rotate_left
             · intro w'
               go_simp; with_reducible rfl
             rotate_left
             · simp only [Act.put, zaa, zab, zac, zbw, zbx]
               rfl
             refine pure_ (i := 7) (N := some 12) (v := ?_) (a' := ?_) tafv rfl rfl (zby HT_.out (by kernel_rfl)) (fun _ _ _ h => h) (Or.inl ⟨by rfl, ?_⟩) ?_ ?_
             rotate_left
             · intro w'
               go_simp; with_reducible rfl
             rotate_left
             · simp only [Act.put, zaa, zab, zac, zbw, zbx]
               rfl
             refine take_ (i := 5) (N := some 10) (v := ?_) (a' := ?_) tafw rfl rfl (zbz HT_.out HW_.out (by kernel_rfl)) (fun _ _ _ h => h) (Or.inl ⟨by rfl, ?_⟩) hHeld ?_ ?_
             rotate_left
             · rintro w' ⟨s0, s1, s2, s3, s4⟩
               go_simp; with_reducible rfl
             rotate_left
             · simp only [Act.put, zaa, zab, zac, zbw, zbx]
               rfl
             refine take_ (i := 8) (N := some 13) (v := ?_) (a' := ?_) tafx rfl rfl (zbz HT_.out HW_.out (by kernel_rfl)) (fun _ _ _ h => h) (Or.inl ⟨by rfl, ?_⟩) hHeld ?_ ?_
             rotate_left
             · rintro w' ⟨s0, s1, s2, s3, s4⟩
               go_simp; with_reducible rfl
             rotate_left
             · simp only [Act.put, zaa, zab, zac, zbw, zbx]
               rfl
             refine pure_ (i := 9) (N := some 14) (v := ?_) (a' := ?_) tafy rfl rfl (zby HT_.out (by kernel_rfl)) (fun _ _ _ h => h) (Or.inl ⟨by rfl, ?_⟩) ?_ ?_
             rotate_left
             · intro w'
               go_simp; with_reducible rfl
             rotate_left
             · simp only [Act.put, zaa, zab, zac, zbw, zbx]
               rfl
             refine take_ (i := 10) (N := some 15) (v := ?_) (a' := ?_) tafz rfl rfl (zbz HT_.out HW_.out (by kernel_rfl)) (fun _ _ _ h => h) (Or.inl ⟨by rfl, ?_⟩) hHeld ?_ ?_
             rotate_left
             · rintro w' ⟨s0, s1, s2, s3, s4⟩
               go_simp; with_reducible rfl
             rotate_left
             · simp only [Act.put, zaa, zab, zac, zbw, zbx]
               rfl
             refine pure_ (i := 11) (N := some 16) (v := ?_) (a' := ?_) taga rfl rfl (zby HT_.out (by kernel_rfl)) (fun _ _ _ h => h) (Or.inl ⟨by rfl, ?_⟩) ?_ ?_
             rotate_left
             · intro w'
               go_simp; with_reducible rfl
             rotate_left
             · simp only [Act.put, zaa, zab, zac, zbw, zbx]
               rfl
             refine pure_ (i := 12) (N := some 17) (v := ?_) (a' := ?_) tagb rfl rfl (zby HT_.out (by kernel_rfl)) (fun _ _ _ h => h) (Or.inl ⟨by rfl, ?_⟩) ?_ ?_
             rotate_left
             · intro w'
               go_simp; with_reducible rfl
             rotate_left
             · simp only [Act.put, zaa, zab, zac, zbw, zbx]
               rfl
             refine pure_ (i := 13) (N := some 18) (v := ?_) (a' := ?_) tagc rfl rfl (zby HT_.out (by kernel_rfl)) (fun _ _ _ h => h) (Or.inl ⟨by rfl, ?_⟩) ?_ ?_
             rotate_left
             · intro w'
               go_simp; with_reducible rfl
             rotate_left
             · simp only [Act.put, zaa, zab, zac, zbw, zbx]
               rfl
             refine pure_ (i := 14) (N := some 19) (v := ?_) (a' := ?_) tagd rfl rfl (zby HT_.out (by kernel_rfl)) (fun _ _ _ h => h) (Or.inl ⟨by rfl, ?_⟩) ?_ ?_
             rotate_left
             · intro w'
               go_simp; with_reducible rfl
             rotate_left
             · simp only [Act.put, zaa, zab, zac, zbw, zbx]
               rfl
             refine pure_ (i := 16) (N := some 21) (v := ?_) (a' := ?_) #[true, true, true, true, true, true, true, true, true, true, true, true, true, true, true, false, true, false, false, false, false, false, false, false, false] rfl rfl (zby HT_.out (by kernel_rfl)) (fun _ _ _ h => h) (Or.inl ⟨by rfl, ?_⟩) ?_ ?_
             rotate_left
             · intro w'
               go_simp; with_reducible rfl
             rotate_left
             · simp only [Act.put, zaa, zab, zac, zbw, zbx]
               rfl
             refine pure_ (i := 17) (N := some 22) (v := ?_) (a' := ?_) tage rfl rfl (zby HT_.out (by kernel_rfl)) (fun _ _ _ h => h) (Or.inl ⟨by rfl, ?_⟩) ?_ ?_
             rotate_left
             · intro w'
               go_simp; with_reducible rfl
             rotate_left
             · simp only [Act.put, zaa, zab, zac, zbw, zbx]
               rfl
             refine take_ (i := 15) (N := some 20) (v := ?_) (a' := ?_) tagf rfl rfl (zbz HT_.out HW_.out (by kernel_rfl)) (fun _ _ _ h => h) (Or.inl ⟨by rfl, ?_⟩) hHeld ?_ ?_
             rotate_left
             · rintro w' ⟨s0, s1, s2, s3, s4⟩
               go_simp; with_reducible rfl
             rotate_left
             · simp only [Act.put, zaa, zab, zac, zbw, zbx]
               rfl
             refine take_ (i := 18) (N := some 23) (v := ?_) (a' := ?_) tagg rfl rfl (zbz HT_.out HW_.out (by kernel_rfl)) (fun _ _ _ h => h) (Or.inl ⟨by rfl, ?_⟩) hHeld ?_ ?_
             rotate_left
             · rintro w' ⟨s0, s1, s2, s3, s4⟩
               go_simp; with_reducible rfl
             rotate_left
             · simp only [Act.put, zaa, zab, zac, zbw, zbx]
               rfl
             refine pure_ (i := 19) (N := some 24) (v := ?_) (a' := ?_) tagh rfl rfl (zby HT_.out (by kernel_rfl)) (fun _ _ _ h => h) (Or.inl ⟨by rfl, ?_⟩) ?_ ?_
             rotate_left
             · intro w'
               go_simp; with_reducible rfl
             rotate_left
             · simp only [Act.put, zaa, zab, zac, zbw, zbx]
               rfl
             refine take_ (i := 20) (N := some 25) (v := ?_) (a' := ?_) tagi rfl rfl (zbz HT_.out HW_.out (by kernel_rfl)) (fun _ _ _ h => h) (Or.inl ⟨by rfl, ?_⟩) hHeld ?_ ?_
             rotate_left
             · rintro w' ⟨s0, s1, s2, s3, s4⟩
               go_simp; with_reducible rfl
             rotate_left
             · simp only [Act.put, zaa, zab, zac, zbw, zbx]
               rfl
             refine pure_ (i := 21) (N := some 26) (v := ?_) (a' := ?_) tagj rfl rfl (zby HT_.out (by kernel_rfl)) (fun _ _ _ h => h) (Or.inl ⟨by rfl, ?_⟩) ?_ ?_
             rotate_left
             · intro w'
               go_simp; with_reducible rfl
             rotate_left
             · simp only [Act.put, zaa, zab, zac, zbw, zbx]
               rfl
             refine pure_ (i := 22) (N := some 27) (v := ?_) (a' := ?_) tagk rfl rfl (zby HT_.out (by kernel_rfl)) (fun _ _ _ h => h) (Or.inl ⟨by rfl, ?_⟩) ?_ ?_
             rotate_left
             · intro w'
               go_simp; with_reducible rfl
             rotate_left
             · simp only [Act.put, zaa, zab, zac, zbw, zbx]
               rfl
             refine pure_ (i := 23) (N := some 28) (v := ?_) (a' := ?_) tagl rfl rfl (zby HT_.out (by kernel_rfl)) (fun _ _ _ h => h) (Or.inl ⟨by rfl, ?_⟩) ?_ ?_
             rotate_left
             · intro w'
               go_simp; with_reducible rfl
             rotate_left
             · simp only [Act.put, zaa, zab, zac, zbw, zbx]
               rfl
             refine pure_ (i := 24) (N := some 4) (v := ?_) (a' := ?_) tagm rfl rfl (zby HT_.out (by kernel_rfl)) (fun _ _ _ h => h) (Or.inl ⟨by rfl, ?_⟩) ?_ ?_
             rotate_left
             · intro w'
               go_simp; with_reducible rfl
             rotate_left
             · simp only [Act.put, zaa, zab, zac, zbw, zbx]
               rfl
             refine done_ (done_of HT_.out (by kernel_rfl)) ?_
             try go_wp2
             go_ret
             exact ⟨taah, tabr⟩
           · rw [if_neg c9] at H
             exact absurd H (taac)
         · rw [if_neg c8] at H
           exact absurd H (taac)
       · rw [if_neg c7] at H
         have c7b0 : decide (a1_2 ≤ (rd l0 a1_0)) = false := zbh c7
         clear c7; obtain rfl := zbc H
         go_enter Try.func104, Try.ntmps104
         try go_wp2_with (first | ((with_reducible refine gate_dst (N := 3) rfl ?_); refine box_event ?hg (N := 3) ?hd (cs := #[.int .i64 a1_0, .int .i64 a1_1, .int .i64 a1_2]) (t := 39) ?hr ?_; (case hd => rfl); (case hg => rfl); (case hr => first | (go_simp; done) | (go_simp; rfl)); intro gb473 hg w13 hbox hb; have n0_ := zad (zbe (taaa) hb); have n1_ := zad (hbox); have n2_ := zad ((taee : w.heap.size ≤ gb473)); have n3_ := zad ((taee : w.heap.size ≤ gb473)); clear HB; have HB := n0_; have BK473 := n1_; have GW473 := n2_; have GE473 := n3_; clear n0_ n1_ n2_ n3_ hb hbox hg))
         have n0_ := zad (blk_drew BK473.out)
         have n1_ := zad (zaf HB.out)
         clear BK473 HB; have BK473 := n0_; have HB := n1_; clear n0_ n1_; have p475 : 0 ≤ (a1_0 : Int) := zas (taab)
         have q475 : a1_0 < (l0.length : Int) := zas (taab)
         obtain ⟨ad475, e475, hx475_0⟩ := zca HR0.out a1_0 p475 q475
         have hw475_0 := hx475_0
         cases e475
         replace hx475_0 := (HB.out.cell (zaz w _ hx475_0)).trans hx475_0
         replace p475 := eq_true p475
         replace q475 := eq_true q475
         refine start_ (n := 25) (S := fun w' => w'.cell? ⟨gb473, 0, none⟩ = some (.int .i64 a1_0) ∧ w'.cell? ⟨gb473, 1, none⟩ = some (.int .i64 a1_1) ∧ w'.cell? ⟨gb473, 2, none⟩ = some (.int .i64 a1_2) ∧ w'.cell? (ad475.add (a1_0).toNat) = some (.int .i64 (rd l0 a1_0))) (ds := []) #[false, false, false, false, false, false, false, false, false, false, false, false, false, false, false, false, false, false, false, false, false, false, false, false, false] (by kernel_rfl) rfl rfl ⟨(zbi BK473.out 0).trans rfl, (zbi BK473.out 1).trans rfl, (zbi BK473.out 2).trans rfl, ((HB.out.cell (zaz w _ hw475_0)).trans hw475_0)⟩ (fun hHeld => ?_); refine with_tabW impl_canGive.tab1 impl_canGive.bits1 (fun HT_ HW_ => ?_)
         generalize w13.drew = w14 at BK473 HB hx475_0 hHeld ⊢
         refine pure_ (i := 0) (N := some 5) (v := ?_) (a' := ?_) tafq rfl rfl (zby HT_.out (by kernel_rfl)) (fun _ _ _ h => h) (Or.inl ⟨by rfl, ?_⟩) ?_ ?_
         rotate_left
         · intro w'
           go_simp; with_reducible rfl
         rotate_left
         · simp only [Act.put, zaa, zab, zac, zbw, zbx]
           rfl
         refine take_ (i := 1) (N := some 6) (v := ?_) (a' := ?_) tafr rfl rfl (zbz HT_.out HW_.out (by kernel_rfl)) (fun _ _ _ h => h) (Or.inl ⟨by rfl, ?_⟩) hHeld ?_ ?_
         rotate_left
         · rintro w' ⟨s0, s1, s2, s3⟩
           go_simp; with_reducible rfl
         rotate_left
         · simp only [Act.put, zaa, zab, zac, zbw, zbx]
           rfl
         refine one_ (i := 2) (N := some 7) #[true, true, true, false, false, false, false, false, false, false, false, false, false, false, false, false, false, false, false, false, false, false, false, false, false] rfl rfl (one_of HT_.out (by kernel_rfl)) (by decide) (fun K hK => ?_)
         refine goes_ Try.func102 (by kernel_rfl) rfl #[.slice (some ad475) l0.length c0, .agg #[.int .i64 a1_0, .int .i64 a1_1, .int .i64 a1_2]] (by rfl) rfl rfl (taad) ?_
         with_reducible refine (impl_isGift.calls _ _ l0 a1_0 a1_1 a1_2 true _ ?side1 ?side2 A3.out).mono ?_
         (case side1 => exact taev)
         (case side2 => exact HC0.out)
         rintro e w15 ⟨rfl, hb⟩
         refine ⟨_, rfl, ?_⟩
         have n0_ := zad (blk_below (g := gb473) (o := .cells #[.int .i64 a1_0, .int .i64 a1_1, .int .i64 a1_2] 39 (0, 0)) (tadf) hb)
         have n1_ := zad (zbe (tabr) hb)
         clear BK473 HB; have BK473 := n0_; have HB := n1_; clear n0_ n1_; (try clear hb); (try clear hb2); (try clear hk); (try clear hi); refine hK.out _ _ ⟨(zbi BK473.out 0).trans rfl, (zbi BK473.out 1).trans rfl, (zbi BK473.out 2).trans rfl, ((HB.out.cell (zaz w _ hw475_0)).trans hw475_0)⟩ (fun hHeld => ?_)
         clear hK K; refine norm_ (a' := ?_) ?_ ?_
         rotate_left
         · show Act.put _ (some 7) _ = _
           simp only [Act.put, zaa, zab, zac, zbw, zbx]
           rfl
         refine pure_ (i := 3) (N := some 8) (v := ?_) (a' := ?_) tafs rfl rfl (zby HT_.out (by kernel_rfl)) (fun _ _ _ h => h) (Or.inl ⟨by rfl, ?_⟩) ?_ ?_
         rotate_left
         · intro w'
           go_simp; with_reducible rfl
         rotate_left
         · simp only [Act.put, zaa, zab, zac, zbw, zbx]
           rfl
         refine pure_ (i := 4) (N := some 9) (v := ?_) (a' := ?_) taft rfl rfl (zby HT_.out (by kernel_rfl)) (fun _ _ _ h => h) (Or.inl ⟨by rfl, ?_⟩) ?_ ?_
         rotate_left
         · intro w'
           go_simp; with_reducible rfl
         rotate_left
         · simp only [Act.put, zaa, zab, zac, zbw, zbx]
           rfl
         refine pure_ (i := 6) (N := some 11) (v := ?_) (a' := ?_) tafu rfl rfl (zby HT_.out (by kernel_rfl)) (fun _ _ _ h => h) (Or.inl ⟨by rfl, ?_⟩) ?_ ?_
         rotate_left
         · intro w'
           go_simp; with_reducible rfl
         rotate_left
         · simp only [Act.put, zaa, zab, zac, zbw, zbx]
           rfl
         refine pure_ (i := 7) (N := some 12) (v := ?_) (a' := ?_) tafv rfl rfl (zby HT_.out (by kernel_rfl)) (fun _ _ _ h => h) (Or.inl ⟨by rfl, ?_⟩) ?_ ?_
         rotate_left
         · intro w'
           go_simp; with_reducible rfl
         rotate_left
         · simp only [Act.put, zaa, zab, zac, zbw, zbx]
           rfl
         refine take_ (i := 5) (N := some 10) (v := ?_) (a' := ?_) tafw rfl rfl (zbz HT_.out HW_.out (by kernel_rfl)) (fun _ _ _ h => h) (Or.inl ⟨by rfl, ?_⟩) hHeld ?_ ?_
         rotate_left
         · rintro w' ⟨s0, s1, s2, s3⟩
           go_simp; with_reducible rfl
         rotate_left
         · simp only [Act.put, zaa, zab, zac, zbw, zbx]
           rfl
         refine take_ (i := 8) (N := some 13) (v := ?_) (a' := ?_) tafx rfl rfl (zbz HT_.out HW_.out (by kernel_rfl)) (fun _ _ _ h => h) (Or.inl ⟨by rfl, ?_⟩) hHeld ?_ ?_
         rotate_left
         · rintro w' ⟨s0, s1, s2, s3⟩
           go_simp; with_reducible rfl
         rotate_left
         · simp only [Act.put, zaa, zab, zac, zbw, zbx]
           rfl
         refine pure_ (i := 9) (N := some 14) (v := ?_) (a' := ?_) tafy rfl rfl (zby HT_.out (by kernel_rfl)) (fun _ _ _ h => h) (Or.inl ⟨by rfl, ?_⟩) ?_ ?_
         rotate_left
         · intro w'
           go_simp; with_reducible rfl
         rotate_left
         · simp only [Act.put, zaa, zab, zac, zbw, zbx]
           rfl
         refine take_ (i := 10) (N := some 15) (v := ?_) (a' := ?_) tafz rfl rfl (zbz HT_.out HW_.out (by kernel_rfl)) (fun _ _ _ h => h) (Or.inl ⟨by rfl, ?_⟩) hHeld ?_ ?_
         rotate_left
         · rintro w' ⟨s0, s1, s2, s3⟩
           go_simp; with_reducible rfl
         rotate_left
         · simp only [Act.put, zaa, zab, zac, zbw, zbx]
           rfl
         refine pure_ (i := 11) (N := some 16) (v := ?_) (a' := ?_) taga rfl rfl (zby HT_.out (by kernel_rfl)) (fun _ _ _ h => h) (Or.inl ⟨by rfl, ?_⟩) ?_ ?_
         rotate_left
         · intro w'
           go_simp; with_reducible rfl
         rotate_left
         · simp only [Act.put, zaa, zab, zac, zbw, zbx]
           rfl
         refine pure_ (i := 12) (N := some 17) (v := ?_) (a' := ?_) tagb rfl rfl (zby HT_.out (by kernel_rfl)) (fun _ _ _ h => h) (Or.inl ⟨by rfl, ?_⟩) ?_ ?_
         rotate_left
         · intro w'
           go_simp; with_reducible rfl
         rotate_left
         · simp only [Act.put, zaa, zab, zac, zbw, zbx]
           rfl
         refine pure_ (i := 13) (N := some 18) (v := ?_) (a' := ?_) tagc rfl rfl (zby HT_.out (by kernel_rfl)) (fun _ _ _ h => h) (Or.inl ⟨by rfl, ?_⟩) ?_ ?_
         rotate_left
         · intro w'
           go_simp; with_reducible rfl
         rotate_left
         · simp only [Act.put, zaa, zab, zac, zbw, zbx]
           rfl
         refine pure_ (i := 14) (N := some 19) (v := undef) (a' := ?_) tagd rfl rfl (zby HT_.out (by kernel_rfl)) (fun _ _ _ h => h) (Or.inr ⟨by rfl, rfl⟩) ?_ ?_
         rotate_left
         · simp only [Act.put, zaa, zab, zac, zbw, zbx]
           rfl
         refine pure_ (i := 15) (N := some 20) (v := undef) (a' := ?_) tagn rfl rfl (zby HT_.out (by kernel_rfl)) (fun _ _ _ h => h) (Or.inr ⟨by rfl, rfl⟩) ?_ ?_
         rotate_left
         · simp only [Act.put, zaa, zab, zac, zbw, zbx]
           rfl
         refine pure_ (i := 16) (N := some 21) (v := undef) (a' := ?_) tago rfl rfl (zby HT_.out (by kernel_rfl)) (fun _ _ _ h => h) (Or.inr ⟨by rfl, rfl⟩) ?_ ?_
         rotate_left
         · simp only [Act.put, zaa, zab, zac, zbw, zbx]
           rfl
         refine pure_ (i := 17) (N := some 22) (v := undef) (a' := ?_) tagf rfl rfl (zby HT_.out (by kernel_rfl)) (fun _ _ _ h => h) (Or.inr ⟨by rfl, rfl⟩) ?_ ?_
         rotate_left
         · simp only [Act.put, zaa, zab, zac, zbw, zbx]
           rfl
         refine pure_ (i := 18) (N := some 23) (v := undef) (a' := ?_) tagg rfl rfl (zby HT_.out (by kernel_rfl)) (fun _ _ _ h => h) (Or.inr ⟨by rfl, rfl⟩) ?_ ?_
         rotate_left
         · simp only [Act.put, zaa, zab, zac, zbw, zbx]
           rfl
         refine pure_ (i := 19) (N := some 24) (v := undef) (a' := ?_) tagh rfl rfl (zby HT_.out (by kernel_rfl)) (fun _ _ _ h => h) (Or.inr ⟨by rfl, rfl⟩) ?_ ?_
         rotate_left
         · simp only [Act.put, zaa, zab, zac, zbw, zbx]
           rfl
         refine pure_ (i := 20) (N := some 25) (v := undef) (a' := ?_) tagi rfl rfl (zby HT_.out (by kernel_rfl)) (fun _ _ _ h => h) (Or.inr ⟨by rfl, rfl⟩) ?_ ?_
         rotate_left
         · simp only [Act.put, zaa, zab, zac, zbw, zbx]
           rfl
         refine pure_ (i := 21) (N := some 26) (v := undef) (a' := ?_) tagj rfl rfl (zby HT_.out (by kernel_rfl)) (fun _ _ _ h => h) (Or.inr ⟨by rfl, rfl⟩) ?_ ?_
         rotate_left
         · simp only [Act.put, zaa, zab, zac, zbw, zbx]
           rfl
         refine pure_ (i := 22) (N := some 27) (v := undef) (a' := ?_) tagk rfl rfl (zby HT_.out (by kernel_rfl)) (fun _ _ _ h => h) (Or.inr ⟨by rfl, rfl⟩) ?_ ?_
         rotate_left
         · simp only [Act.put, zaa, zab, zac, zbw, zbx]
           rfl
         refine pure_ (i := 23) (N := some 28) (v := ?_) (a' := ?_) tagl rfl rfl (zby HT_.out (by kernel_rfl)) (fun _ _ _ h => h) (Or.inl ⟨by rfl, ?_⟩) ?_ ?_
         rotate_left
         · intro w'
           go_simp; with_reducible rfl
         rotate_left
         · simp only [Act.put, zaa, zab, zac, zbw, zbx]
           rfl
         refine pure_ (i := 24) (N := some 4) (v := ?_) (a' := ?_) tagm rfl rfl (zby HT_.out (by kernel_rfl)) (fun _ _ _ h => h) (Or.inl ⟨by rfl, ?_⟩) ?_ ?_
         rotate_left
         · intro w'
           go_simp; with_reducible rfl
         rotate_left
         · simp only [Act.put, zaa, zab, zac, zbw, zbx]
           rfl
         refine done_ (done_of HT_.out (by kernel_rfl)) ?_
         try go_wp2
         go_ret
         exact ⟨taah, tabr⟩
     · rw [if_neg c6] at H
       exact absurd H (taac)
   · rw [if_neg c5] at H
     exact absurd H (taac)
 · replace c4 := zbg.mpr c4
   subst c4; have H1 : (some false) = some r := by rw [if_neg (show ¬ (false = true) by decide)] at H; exact H
   clear H; have H := H1; clear H1; obtain rfl := zbc H
   go_enter Try.func104, Try.ntmps104
   try go_wp2_with (first | ((with_reducible refine gate_dst (N := 3) rfl ?_); refine box_event ?hg (N := 3) ?hd (cs := #[.int .i64 a1_0, .int .i64 a1_1, .int .i64 a1_2]) (t := 39) ?hr ?_; (case hd => rfl); (case hg => rfl); (case hr => first | (go_simp; done) | (go_simp; rfl)); intro gb473 hg w16 hbox hb; have n0_ := zad (zbe (taaa) hb); have n1_ := zad (hbox); have n2_ := zad ((taee : w.heap.size ≤ gb473)); have n3_ := zad ((taee : w.heap.size ≤ gb473)); clear HB; have HB := n0_; have BK473 := n1_; have GW473 := n2_; have GE473 := n3_; clear n0_ n1_ n2_ n3_ hb hbox hg))
   have n0_ := zad (blk_drew BK473.out)
   have n1_ := zad (zaf HB.out)
   clear BK473 HB; have BK473 := n0_; have HB := n1_; clear n0_ n1_; refine start_ (n := 25) (S := fun w' => w'.cell? ⟨gb473, 0, none⟩ = some (.int .i64 a1_0) ∧ w'.cell? ⟨gb473, 1, none⟩ = some (.int .i64 a1_1) ∧ w'.cell? ⟨gb473, 2, none⟩ = some (.int .i64 a1_2)) (ds := []) #[false, false, false, false, false, false, false, false, false, false, false, false, false, false, false, false, false, false, false, false, false, false, false, false, false] (by kernel_rfl) rfl rfl ⟨(zbi BK473.out 0).trans rfl, (zbi BK473.out 1).trans rfl, (zbi BK473.out 2).trans rfl⟩ (fun hHeld => ?_); refine with_tabW impl_canGive.tab1 impl_canGive.bits1 (fun HT_ HW_ => ?_)
   generalize w16.drew = w17 at BK473 HB hHeld ⊢
   refine pure_ (i := 0) (N := some 5) (v := ?_) (a' := ?_) tafq rfl rfl (zby HT_.out (by kernel_rfl)) (fun _ _ _ h => h) (Or.inl ⟨by rfl, ?_⟩) ?_ ?_
   rotate_left
   · intro w'
     go_simp; with_reducible rfl
   rotate_left
   · simp only [Act.put, zaa, zab, zac, zbw, zbx]
     rfl
   refine take_ (i := 1) (N := some 6) (v := ?_) (a' := ?_) tafr rfl rfl (zbz HT_.out HW_.out (by kernel_rfl)) (fun _ _ _ h => h) (Or.inl ⟨by rfl, ?_⟩) hHeld ?_ ?_
   rotate_left
   · rintro w' ⟨s0, s1, s2⟩
     go_simp; with_reducible rfl
   rotate_left
   · simp only [Act.put, zaa, zab, zac, zbw, zbx]
     rfl
   refine one_ (i := 2) (N := some 7) #[true, true, true, false, false, false, false, false, false, false, false, false, false, false, false, false, false, false, false, false, false, false, false, false, false] rfl rfl (one_of HT_.out (by kernel_rfl)) (by decide) (fun K hK => ?_)
   refine goes_ Try.func102 (by kernel_rfl) rfl #[.slice A0 l0.length c0, .agg #[.int .i64 a1_0, .int .i64 a1_1, .int .i64 a1_2]] (by rfl) rfl rfl (taad) ?_
   with_reducible refine (impl_isGift.calls _ _ l0 a1_0 a1_1 a1_2 false _ ?side1 ?side2 A3.out).mono ?_
   (case side1 => exact taev)
   (case side2 => exact HC0.out)
   rintro e w18 ⟨rfl, hb⟩
   refine ⟨_, rfl, ?_⟩
   have n0_ := zad (blk_below (g := gb473) (o := .cells #[.int .i64 a1_0, .int .i64 a1_1, .int .i64 a1_2] 39 (0, 0)) (tadf) hb)
   have n1_ := zad (zbe (tabr) hb)
   clear BK473 HB; have BK473 := n0_; have HB := n1_; clear n0_ n1_; (try clear hb); (try clear hb2); (try clear hk); (try clear hi); refine hK.out _ _ ⟨(zbi BK473.out 0).trans rfl, (zbi BK473.out 1).trans rfl, (zbi BK473.out 2).trans rfl⟩ (fun hHeld => ?_)
   clear hK K; refine norm_ (a' := ?_) ?_ ?_
   rotate_left
   · show Act.put _ (some 7) _ = _
     simp only [Act.put, zaa, zab, zac, zbw, zbx]
     rfl
   refine pure_ (i := 3) (N := some 8) (v := ?_) (a' := ?_) tafs rfl rfl (zby HT_.out (by kernel_rfl)) (fun _ _ _ h => h) (Or.inl ⟨by rfl, ?_⟩) ?_ ?_
   rotate_left
   · intro w'
     go_simp; with_reducible rfl
   rotate_left
   · simp only [Act.put, zaa, zab, zac, zbw, zbx]
     rfl
   refine pure_ (i := 4) (N := some 9) (v := undef) (a' := ?_) taft rfl rfl (zby HT_.out (by kernel_rfl)) (fun _ _ _ h => h) (Or.inr ⟨by rfl, rfl⟩) ?_ ?_
   rotate_left
   · simp only [Act.put, zaa, zab, zac, zbw, zbx]
     rfl
   refine pure_ (i := 5) (N := some 10) (v := undef) (a' := ?_) #[true, true, true, true, true, true, false, false, false, false, false, false, false, false, false, false, false, false, false, false, false, false, false, false, false] rfl rfl (zby HT_.out (by kernel_rfl)) (fun _ _ _ h => h) (Or.inr ⟨by rfl, rfl⟩) ?_ ?_
   rotate_left
   · simp only [Act.put, zaa, zab, zac, zbw, zbx]
     rfl
   refine pure_ (i := 6) (N := some 11) (v := undef) (a' := ?_) #[true, true, true, true, true, true, true, false, false, false, false, false, false, false, false, false, false, false, false, false, false, false, false, false, false] rfl rfl (zby HT_.out (by kernel_rfl)) (fun _ _ _ h => h) (Or.inr ⟨by rfl, rfl⟩) ?_ ?_
   rotate_left
   · simp only [Act.put, zaa, zab, zac, zbw, zbx]
     rfl
   refine pure_ (i := 7) (N := some 12) (v := undef) (a' := ?_) tafw rfl rfl (zby HT_.out (by kernel_rfl)) (fun _ _ _ h => h) (Or.inr ⟨by rfl, rfl⟩) ?_ ?_
   rotate_left
   · simp only [Act.put, zaa, zab, zac, zbw, zbx]
     rfl
   refine pure_ (i := 8) (N := some 13) (v := undef) (a' := ?_) tafx rfl rfl (zby HT_.out (by kernel_rfl)) (fun _ _ _ h => h) (Or.inr ⟨by rfl, rfl⟩) ?_ ?_
   rotate_left
   · simp only [Act.put, zaa, zab, zac, zbw, zbx]
     rfl
   refine pure_ (i := 9) (N := some 14) (v := undef) (a' := ?_) tafy rfl rfl (zby HT_.out (by kernel_rfl)) (fun _ _ _ h => h) (Or.inr ⟨by rfl, rfl⟩) ?_ ?_
   rotate_left
   · simp only [Act.put, zaa, zab, zac, zbw, zbx]
     rfl
   refine pure_ (i := 10) (N := some 15) (v := undef) (a' := ?_) tafz rfl rfl (zby HT_.out (by kernel_rfl)) (fun _ _ _ h => h) (Or.inr ⟨by rfl, rfl⟩) ?_ ?_
   rotate_left
   · simp only [Act.put, zaa, zab, zac, zbw, zbx]
     rfl
   refine pure_ (i := 11) (N := some 16) (v := undef) (a' := ?_) taga rfl rfl (zby HT_.out (by kernel_rfl)) (fun _ _ _ h => h) (Or.inr ⟨by rfl, rfl⟩) ?_ ?_
   rotate_left
   · simp only [Act.put, zaa, zab, zac, zbw, zbx]
     rfl
   refine pure_ (i := 12) (N := some 17) (v := ?_) (a' := ?_) tagb rfl rfl (zby HT_.out (by kernel_rfl)) (fun _ _ _ h => h) (Or.inl ⟨by rfl, ?_⟩) ?_ ?_
   rotate_left
   · intro w'
     go_simp; with_reducible rfl
   rotate_left
   · simp only [Act.put, zaa, zab, zac, zbw, zbx]
     rfl
   refine pure_ (i := 13) (N := some 18) (v := ?_) (a' := ?_) tagc rfl rfl (zby HT_.out (by kernel_rfl)) (fun _ _ _ h => h) (Or.inl ⟨by rfl, ?_⟩) ?_ ?_
   rotate_left
   · intro w'
     go_simp; with_reducible rfl
   rotate_left
   · simp only [Act.put, zaa, zab, zac, zbw, zbx]
     rfl
   refine pure_ (i := 14) (N := some 19) (v := undef) (a' := ?_) tagd rfl rfl (zby HT_.out (by kernel_rfl)) (fun _ _ _ h => h) (Or.inr ⟨by rfl, rfl⟩) ?_ ?_
   rotate_left
   · simp only [Act.put, zaa, zab, zac, zbw, zbx]
     rfl
   refine pure_ (i := 15) (N := some 20) (v := undef) (a' := ?_) tagn rfl rfl (zby HT_.out (by kernel_rfl)) (fun _ _ _ h => h) (Or.inr ⟨by rfl, rfl⟩) ?_ ?_
   rotate_left
   · simp only [Act.put, zaa, zab, zac, zbw, zbx]
     rfl
   refine pure_ (i := 16) (N := some 21) (v := undef) (a' := ?_) tago rfl rfl (zby HT_.out (by kernel_rfl)) (fun _ _ _ h => h) (Or.inr ⟨by rfl, rfl⟩) ?_ ?_
   rotate_left
   · simp only [Act.put, zaa, zab, zac, zbw, zbx]
     rfl
   refine pure_ (i := 17) (N := some 22) (v := undef) (a' := ?_) tagf rfl rfl (zby HT_.out (by kernel_rfl)) (fun _ _ _ h => h) (Or.inr ⟨by rfl, rfl⟩) ?_ ?_
   rotate_left
   · simp only [Act.put, zaa, zab, zac, zbw, zbx]
     rfl
   refine pure_ (i := 18) (N := some 23) (v := undef) (a' := ?_) tagg rfl rfl (zby HT_.out (by kernel_rfl)) (fun _ _ _ h => h) (Or.inr ⟨by rfl, rfl⟩) ?_ ?_
   rotate_left
   · simp only [Act.put, zaa, zab, zac, zbw, zbx]
     rfl
   refine pure_ (i := 19) (N := some 24) (v := undef) (a' := ?_) tagh rfl rfl (zby HT_.out (by kernel_rfl)) (fun _ _ _ h => h) (Or.inr ⟨by rfl, rfl⟩) ?_ ?_
   rotate_left
   · simp only [Act.put, zaa, zab, zac, zbw, zbx]
     rfl
   refine pure_ (i := 20) (N := some 25) (v := undef) (a' := ?_) tagi rfl rfl (zby HT_.out (by kernel_rfl)) (fun _ _ _ h => h) (Or.inr ⟨by rfl, rfl⟩) ?_ ?_
   rotate_left
   · simp only [Act.put, zaa, zab, zac, zbw, zbx]
     rfl
   refine pure_ (i := 21) (N := some 26) (v := undef) (a' := ?_) tagj rfl rfl (zby HT_.out (by kernel_rfl)) (fun _ _ _ h => h) (Or.inr ⟨by rfl, rfl⟩) ?_ ?_
   rotate_left
   · simp only [Act.put, zaa, zab, zac, zbw, zbx]
     rfl
   refine pure_ (i := 22) (N := some 27) (v := undef) (a' := ?_) tagk rfl rfl (zby HT_.out (by kernel_rfl)) (fun _ _ _ h => h) (Or.inr ⟨by rfl, rfl⟩) ?_ ?_
   rotate_left
   · simp only [Act.put, zaa, zab, zac, zbw, zbx]
     rfl
   refine pure_ (i := 23) (N := some 28) (v := ?_) (a' := ?_) tagl rfl rfl (zby HT_.out (by kernel_rfl)) (fun _ _ _ h => h) (Or.inl ⟨by rfl, ?_⟩) ?_ ?_
   rotate_left
   · intro w'
     go_simp; with_reducible rfl
   rotate_left
   · simp only [Act.put, zaa, zab, zac, zbw, zbx]
     rfl
   refine pure_ (i := 24) (N := some 4) (v := ?_) (a' := ?_) tagm rfl rfl (zby HT_.out (by kernel_rfl)) (fun _ _ _ h => h) (Or.inl ⟨by rfl, ?_⟩) ?_ ?_
   rotate_left
   · intro w'
     go_simp; with_reducible rfl
   rotate_left
   · simp only [Act.put, zaa, zab, zac, zbw, zbx]
     rfl
   refine done_ (done_of HT_.out (by kernel_rfl)) ?_
   try go_wp2
   go_ret
   exact ⟨taah, tabr⟩
def impl_isKind.f (l0 : List Int) (a1_0 : Int) (a1_1 : Int) (a1_2 : Int) : Option (Bool) := (impl_canGive.f l0 a1_0 a1_1 a1_2).bind fun t478 => (if t478 = true then (if 0 ≤ a1_0 then (if a1_0 < (l0.length : Int) then (if 0 ≤ a1_1 then (if a1_1 < (l0.length : Int) then (some (decide ((wrap64 ((rd l0 a1_0) - a1_2)) ≥ (wrap64 ((rd l0 a1_1) + a1_2))))) else (none)) else (none)) else (none)) else (none)) else (some false))
def impl_isKind.T1 : Bool × List (List Nat × List Nat) := (true, [([], []), ([], []), ([0, 1], [0, 1]), ([2, 2], [2]), ([3], [3]), ([3], [3]), ([5, 3], [3, 5]), ([4, 6, 3], [3, 4, 6]), ([7, 3], [3, 7]), ([3], [3]), ([9, 3], [3, 9]), ([8, 10, 3], [3, 8, 10]), ([3], [3]), ([3], [3]), ([13, 3], [3, 13]), ([12, 14, 3], [3, 12, 14]), ([15, 3], [3, 15]), ([3], [3]), ([17, 3], [3, 17]), ([16, 18, 3], [3, 16, 18]), ([11, 19, 3], [3, 11, 19]), ([3, 20], [3, 20]), ([21, 3, 0, 1, 2, 3, 4, 5, 6, 7, 8, 9, 10, 11, 12, 13, 14, 15, 16, 17, 18, 19, 20, 21], [21])])
def impl_isKind.B1 : List Nat := [0, 0, 3, 7, 15, 15, 47, 127, 255, 15, 527, 2047, 15, 15, 8207, 28687, 61455, 15, 131087, 520207, 1048575, 2097151, 4194303]
theorem impl_isKind.tab1 : rtab .any (opsOf Try.f98 1) = impl_isKind.T1 := by kernel_rfl
theorem impl_isKind.bits1 : waitsOk impl_isKind.T1.2 impl_isKind.B1 = true := by kernel_rfl
theorem impl_isKind.calls (A0 : Option Addr) (c0 : Nat) (l0 : List Int) (a1_0 : Int) (a1_1 : Int) (a1_2 : Int) (r : Bool) (w : World) (hr0 : Kd.C (Kd.int .i64) w A0 l0.length l0) (hc0 : l0.length ≤ c0) (h : impl_isKind.f l0 a1_0 a1_1 a1_2 = some r) :
 Calls Try.prog 98 #[.slice A0 l0.length c0, .agg #[.int .i64 a1_0, .int .i64 a1_1, .int .i64 a1_2]] w fun e w' => e = .returned (.bool r) ∧ Below w.heap.size w w' := by
 have hu39 := Try.underlying39
 have HR0 := zad hr0; have HC0 := zad hc0; clear hr0 hc0; have HB := zad (Below.refl w.heap.size w)
 have H : ((impl_canGive.f l0 a1_0 a1_1 a1_2).bind fun t478 => (if t478 = true then (if 0 ≤ a1_0 then (if a1_0 < (l0.length : Int) then (if 0 ≤ a1_1 then (if a1_1 < (l0.length : Int) then (some (decide ((wrap64 ((rd l0 a1_0) - a1_2)) ≥ (wrap64 ((rd l0 a1_1) + a1_2))))) else (none)) else (none)) else (none)) else (none)) else (some false))) = some r := h
 clear h; replace H := zay.mp H; obtain ⟨t478, A30, H⟩ := H
 replace H : (if t478 = true then (if 0 ≤ a1_0 then (if a1_0 < (l0.length : Int) then (if 0 ≤ a1_1 then (if a1_1 < (l0.length : Int) then (some (decide ((wrap64 ((rd l0 a1_0) - a1_2)) ≥ (wrap64 ((rd l0 a1_1) + a1_2))))) else (none)) else (none)) else (none)) else (none)) else (some false)) = some r := H
 have A3 := zad A30; clear A30; by_cases c4 : t478 = true
 · subst c4
   have H1 : (if 0 ≤ a1_0 then (if a1_0 < (l0.length : Int) then (if 0 ≤ a1_1 then (if a1_1 < (l0.length : Int) then (some (decide ((wrap64 ((rd l0 a1_0) - a1_2)) ≥ (wrap64 ((rd l0 a1_1) + a1_2))))) else (none)) else (none)) else (none)) else (none)) = some r := by rw [if_pos rfl] at H; exact H
   clear H; have H := H1; clear H1; by_cases c5 : 0 ≤ a1_0
   · rw [if_pos c5] at H
     have c5b0 : decide (0 ≤ a1_0) = true := zba c5
     clear c5; by_cases c6 : a1_0 < (l0.length : Int)
     · rw [if_pos c6] at H
       have c6b0 : decide (a1_0 < (l0.length : Int)) = true := zba c6
       clear c6; by_cases c7 : 0 ≤ a1_1
       · rw [if_pos c7] at H
         have c7b0 : decide (0 ≤ a1_1) = true := zba c7
         clear c7; by_cases c8 : a1_1 < (l0.length : Int)
         · rw [if_pos c8] at H
           have c8b0 : decide (a1_1 < (l0.length : Int)) = true := zba c8
           clear c8; obtain rfl := zbc H
           go_enter Try.func98, Try.ntmps98
           try go_wp2_with (first | ((with_reducible refine gate_dst (N := 3) rfl ?_); refine box_event ?hg (N := 3) ?hd (cs := #[.int .i64 a1_0, .int .i64 a1_1, .int .i64 a1_2]) (t := 39) ?hr ?_; (case hd => rfl); (case hg => rfl); (case hr => first | (go_simp; done) | (go_simp; rfl)); intro gb477 hg w9 hbox hb; have n0_ := zad (zbe (taaa) hb); have n1_ := zad (hbox); have n2_ := zad ((taee : w.heap.size ≤ gb477)); have n3_ := zad ((taee : w.heap.size ≤ gb477)); clear HB; have HB := n0_; have BK477 := n1_; have GW477 := n2_; have GE477 := n3_; clear n0_ n1_ n2_ n3_ hb hbox hg))
           have n0_ := zad (blk_drew BK477.out)
           have n1_ := zad (zaf HB.out)
           clear BK477 HB; have BK477 := n0_; have HB := n1_; clear n0_ n1_; have p479 : 0 ≤ (a1_0 : Int) := zas (taab)
           have q479 : a1_0 < (l0.length : Int) := zas (taab)
           obtain ⟨ad479, e479, hx479_0⟩ := zca HR0.out a1_0 p479 q479
           have hw479_0 := hx479_0
           cases e479
           replace hx479_0 := (HB.out.cell (zaz w _ hx479_0)).trans hx479_0
           replace p479 := eq_true p479
           replace q479 := eq_true q479
           have p480 : 0 ≤ (a1_1 : Int) := zas (taab)
           have q480 : a1_1 < (l0.length : Int) := zas (taab)
           obtain ⟨ad480, e480, hx480_0⟩ := zca HR0.out a1_1 p480 q480
           have hw480_0 := hx480_0
           obtain rfl : ad479 = ad480 := (by injection e480)
           replace hx480_0 := (HB.out.cell (zaz w _ hx480_0)).trans hx480_0
           replace p480 := eq_true p480
           replace q480 := eq_true q480
           refine start_ (n := 23) (S := fun w' => w'.cell? ⟨gb477, 0, none⟩ = some (.int .i64 a1_0) ∧ w'.cell? ⟨gb477, 1, none⟩ = some (.int .i64 a1_1) ∧ w'.cell? ⟨gb477, 2, none⟩ = some (.int .i64 a1_2) ∧ w'.cell? (ad479.add (a1_0).toNat) = some (.int .i64 (rd l0 a1_0)) ∧ w'.cell? (ad479.add (a1_1).toNat) = some (.int .i64 (rd l0 a1_1))) (ds := []) #[false, false, false, false, false, false, false, false, false, false, false, false, false, false, false, false, false, false, false, false, false, false, false] (by kernel_rfl) rfl rfl ⟨(zbi BK477.out 0).trans rfl, (zbi BK477.out 1).trans rfl, (zbi BK477.out 2).trans rfl, ((HB.out.cell (zaz w _ hw479_0)).trans hw479_0), ((HB.out.cell (zaz w _ hw480_0)).trans hw480_0)⟩ (fun hHeld => ?_); refine with_tabW impl_isKind.tab1 impl_isKind.bits1 (fun HT_ HW_ => ?_)
           generalize w9.drew = w10 at BK477 HB hx479_0 hx480_0 hHeld ⊢
           refine pure_ (i := 0) (N := some 5) (v := ?_) (a' := ?_) tagp rfl rfl (zby HT_.out (by kernel_rfl)) (fun _ _ _ h => h) (Or.inl ⟨by rfl, ?_⟩) ?_ ?_
           rotate_left
           · intro w'
             go_simp; with_reducible rfl
           rotate_left
           · simp only [Act.put, zaa, zab, zac, zbw, zbx]
             rfl
           refine take_ (i := 1) (N := some 6) (v := ?_) (a' := ?_) tagq rfl rfl (zbz HT_.out HW_.out (by kernel_rfl)) (fun _ _ _ h => h) (Or.inl ⟨by rfl, ?_⟩) hHeld ?_ ?_
           rotate_left
           · rintro w' ⟨s0, s1, s2, s3, s4⟩
             go_simp; with_reducible rfl
           rotate_left
           · simp only [Act.put, zaa, zab, zac, zbw, zbx]
             rfl
           refine one_ (i := 2) (N := some 7) #[true, true, true, false, false, false, false, false, false, false, false, false, false, false, false, false, false, false, false, false, false, false, false] rfl rfl (one_of HT_.out (by kernel_rfl)) (by decide) (fun K hK => ?_)
           refine goes_ Try.func104 (by kernel_rfl) rfl #[.slice (some ad479) l0.length c0, .agg #[.int .i64 a1_0, .int .i64 a1_1, .int .i64 a1_2]] (by rfl) rfl rfl (taad) ?_
           with_reducible refine (impl_canGive.calls _ _ l0 a1_0 a1_1 a1_2 true _ ?side1 ?side2 A3.out).mono ?_
           (case side1 => exact taev)
           (case side2 => exact HC0.out)
           rintro e w11 ⟨rfl, hb⟩
           refine ⟨_, rfl, ?_⟩
           have n0_ := zad (blk_below (g := gb477) (o := .cells #[.int .i64 a1_0, .int .i64 a1_1, .int .i64 a1_2] 39 (0, 0)) (by (with_reducible repeat (first | refine blk_drewN ?_ _ | refine blk_drew ?_ | refine blk_alloc ?_ _)); exact BK477.out) hb)
           have n1_ := zad (zbe (taco) hb)
           clear BK477 HB; have BK477 := n0_; have HB := n1_; clear n0_ n1_; (try clear hb); (try clear hb2); (try clear hk); (try clear hi); refine hK.out _ _ ⟨(zbi BK477.out 0).trans rfl, (zbi BK477.out 1).trans rfl, (zbi BK477.out 2).trans rfl, ((HB.out.cell (zaz w _ hw479_0)).trans hw479_0), ((HB.out.cell (zaz w _ hw480_0)).trans hw480_0)⟩ (fun hHeld => ?_)
           clear hK K; refine norm_ (a' := ?_) ?_ ?_
           rotate_left
           · show Act.put _ (some 7) _ = _
             simp only [Act.put, zaa, zab, zac, zbw, zbx]
             rfl
           refine pure_ (i := 3) (N := some 8) (v := ?_) (a' := ?_) tagr rfl rfl (zby HT_.out (by kernel_rfl)) (fun _ _ _ h => h) (Or.inl ⟨by rfl, ?_⟩) ?_ ?_
           rotate_left
           · intro w'
             go_simp; with_reducible rfl
           rotate_left
           · simp only [Act.put, zaa, zab, zac, zbw, zbx]
             rfl
           refine pure_ (i := 4) (N := some 9) (v := ?_) (a' := ?_) tags rfl rfl (zby HT_.out (by kernel_rfl)) (fun _ _ _ h => h) (Or.inl ⟨by rfl, ?_⟩) ?_ ?_
           rotate_left
           · intro w'
             go_simp; with_reducible rfl
           rotate_left
           · simp only [Act.put, zaa, zab, zac, zbw, zbx]
             rfl
           refine pure_ (i := 5) (N := some 10) (v := ?_) (a' := ?_) tagt rfl rfl (zby HT_.out (by kernel_rfl)) (fun _ _ _ h => h) (Or.inl ⟨by rfl, ?_⟩) ?_ ?_
           rotate_left
           · intro w'
             go_simp; with_reducible rfl
           rotate_left
           · simp only [Act.put, zaa, zab, zac, zbw, zbx]
             rfl
           refine pure_ (i := 9) (N := some 14) (v := ?_) (a' := ?_) #[true, true, true, true, true, true, false, false, false, true, false, false, false, false, false, false, false, false, false, false, false, false, false] rfl rfl (zby HT_.out (by kernel_rfl)) (fun _ _ _ h => h) (Or.inl ⟨by rfl, ?_⟩) ?_ ?_
           rotate_left
           · intro w'
             go_simp; with_reducible rfl
           rotate_left
           · simp only [Act.put, zaa, zab, zac, zbw, zbx]
             rfl
           refine pure_ (i := 12) (N := some 17) (v := ?_) (a' := ?_) #[true, true, true, true, true, true, false, false, false, true, false, false, true, false, false, false, false, false, false, false, false, false, false] rfl rfl (zby HT_.out (by kernel_rfl)) (fun _ _ _ h => h) (Or.inl ⟨by rfl, ?_⟩) ?_ ?_
           rotate_left
           · intro w'
             go_simp; with_reducible rfl
           rotate_left
           · simp only [Act.put, zaa, zab, zac, zbw, zbx]
             rfl
           refine pure_ (i := 13) (N := some 18) (v := ?_) (a' := ?_) #[true, true, true, true, true, true, false, false, false, true, false, false, true, true, false, false, false, false, false, false, false, false, false] rfl rfl (zby HT_.out (by kernel_rfl)) (fun _ _ _ h => h) (Or.inl ⟨by rfl, ?_⟩) ?_ ?_
           rotate_left
           · intro w'
             go_simp; with_reducible rfl
           rotate_left
           · simp only [Act.put, zaa, zab, zac, zbw, zbx]
             rfl
           refine pure_ (i := 17) (N := some 22) (v := ?_) (a' := ?_) #[true, true, true, true, true, true, false, false, false, true, false, false, true, true, false, false, false, true, false, false, false, false, false] rfl rfl (zby HT_.out (by kernel_rfl)) (fun _ _ _ h => h) (Or.inl ⟨by rfl, ?_⟩) ?_ ?_
           rotate_left
           · intro w'
             go_simp; with_reducible rfl
           rotate_left
           · simp only [Act.put, zaa, zab, zac, zbw, zbx]
             rfl
           refine take_ (i := 6) (N := some 11) (v := ?_) (a' := ?_) #[true, true, true, true, true, true, true, false, false, true, false, false, true, true, false, false, false, true, false, false, false, false, false] rfl rfl (zbz HT_.out HW_.out (by kernel_rfl)) (fun _ _ _ h => h) (Or.inl ⟨by rfl, ?_⟩) hHeld ?_ ?_
           rotate_left
           · rintro w' ⟨s0, s1, s2, s3, s4⟩
             go_simp; with_reducible rfl
           rotate_left
           · simp only [Act.put, zaa, zab, zac, zbw, zbx]
             rfl
           refine pure_ (i := 7) (N := some 12) (v := ?_) (a' := ?_) #[true, true, true, true, true, true, true, true, false, true, false, false, true, true, false, false, false, true, false, false, false, false, false] rfl rfl (zby HT_.out (by kernel_rfl)) (fun _ _ _ h => h) (Or.inl ⟨by rfl, ?_⟩) ?_ ?_
           rotate_left
           · intro w'
             go_simp; with_reducible rfl
           rotate_left
           · simp only [Act.put, zaa, zab, zac, zbw, zbx]
             rfl
           refine take_ (i := 8) (N := some 13) (v := ?_) (a' := ?_) #[true, true, true, true, true, true, true, true, true, true, false, false, true, true, false, false, false, true, false, false, false, false, false] rfl rfl (zbz HT_.out HW_.out (by kernel_rfl)) (fun _ _ _ h => h) (Or.inl ⟨by rfl, ?_⟩) hHeld ?_ ?_
           rotate_left
           · rintro w' ⟨s0, s1, s2, s3, s4⟩
             go_simp; with_reducible rfl
           rotate_left
           · simp only [Act.put, zaa, zab, zac, zbw, zbx]
             rfl
           refine take_ (i := 10) (N := some 15) (v := ?_) (a' := ?_) #[true, true, true, true, true, true, true, true, true, true, true, false, true, true, false, false, false, true, false, false, false, false, false] rfl rfl (zbz HT_.out HW_.out (by kernel_rfl)) (fun _ _ _ h => h) (Or.inl ⟨by rfl, ?_⟩) hHeld ?_ ?_
           rotate_left
           · rintro w' ⟨s0, s1, s2, s3, s4⟩
             go_simp; with_reducible rfl
           rotate_left
           · simp only [Act.put, zaa, zab, zac, zbw, zbx]
             rfl
           refine pure_ (i := 11) (N := some 16) (v := ?_) (a' := ?_) #[true, true, true, true, true, true, true, true, true, true, true, true, true, true, false, false, false, true, false, false, false, false, false] rfl rfl (zby HT_.out (by kernel_rfl)) (fun _ _ _ h => h) (Or.inl ⟨by rfl, ?_⟩) ?_ ?_
           rotate_left
           · intro w'
             go_simp; with_reducible rfl
           rotate_left
           · simp only [Act.put, zaa, zab, zac, zbw, zbx]
             rfl
           refine take_ (i := 14) (N := some 19) (v := ?_) (a' := ?_) #[true, true, true, true, true, true, true, true, true, true, true, true, true, true, true, false, false, true, false, false, false, false, false] rfl rfl (zbz HT_.out HW_.out (by kernel_rfl)) (fun _ _ _ h => h) (Or.inl ⟨by rfl, ?_⟩) hHeld ?_ ?_
           rotate_left
           · rintro w' ⟨s0, s1, s2, s3, s4⟩
             go_simp; with_reducible rfl
           rotate_left
           · simp only [Act.put, zaa, zab, zac, zbw, zbx]
             rfl
           refine pure_ (i := 15) (N := some 20) (v := ?_) (a' := ?_) tagu rfl rfl (zby HT_.out (by kernel_rfl)) (fun _ _ _ h => h) (Or.inl ⟨by rfl, ?_⟩) ?_ ?_
           rotate_left
           · intro w'
             go_simp; with_reducible rfl
           rotate_left
           · simp only [Act.put, zaa, zab, zac, zbw, zbx]
             rfl
           refine take_ (i := 16) (N := some 21) (v := ?_) (a' := ?_) tagv rfl rfl (zbz HT_.out HW_.out (by kernel_rfl)) (fun _ _ _ h => h) (Or.inl ⟨by rfl, ?_⟩) hHeld ?_ ?_
           rotate_left
           · rintro w' ⟨s0, s1, s2, s3, s4⟩
             go_simp; with_reducible rfl
           rotate_left
           · simp only [Act.put, zaa, zab, zac, zbw, zbx]
             rfl
           refine take_ (i := 18) (N := some 23) (v := ?_) (a' := ?_) tagw rfl rfl (zbz HT_.out HW_.out (by kernel_rfl)) (fun _ _ _ h => h) (Or.inl ⟨by rfl, ?_⟩) hHeld ?_ ?_
           rotate_left
           · rintro w' ⟨s0, s1, s2, s3, s4⟩
             go_simp; with_reducible rfl
           rotate_left
           · simp only [Act.put, zaa, zab, zac, zbw, zbx]
             rfl
           refine pure_ (i := 19) (N := some 24) (v := ?_) (a' := ?_) tagx rfl rfl (zby HT_.out (by kernel_rfl)) (fun _ _ _ h => h) (Or.inl ⟨by rfl, ?_⟩) ?_ ?_
           rotate_left
           · intro w'
             go_simp; with_reducible rfl
           rotate_left
           · simp only [Act.put, zaa, zab, zac, zbw, zbx]
             rfl
           refine pure_ (i := 20) (N := some 25) (v := ?_) (a' := ?_) tagy rfl rfl (zby HT_.out (by kernel_rfl)) (fun _ _ _ h => h) (Or.inl ⟨by rfl, ?_⟩) ?_ ?_
           rotate_left
           · intro w'
             go_simp; with_reducible rfl
           rotate_left
           · simp only [Act.put, zaa, zab, zac, zbw, zbx]
             rfl
           refine pure_ (i := 21) (N := some 26) (v := ?_) (a' := ?_) tagz rfl rfl (zby HT_.out (by kernel_rfl)) (fun _ _ _ h => h) (Or.inl ⟨by rfl, ?_⟩) ?_ ?_
           rotate_left
           · intro w'
             go_simp; with_reducible rfl
           rotate_left
           · simp only [Act.put, zaa, zab, zac, zbw, zbx]
             rfl
           refine pure_ (i := 22) (N := some 4) (v := ?_) (a' := ?_) taha rfl rfl (zby HT_.out (by kernel_rfl)) (fun _ _ _ h => h) (Or.inl ⟨by rfl, ?_⟩) ?_ ?_
           rotate_left
           · intro w'
             go_simp; with_reducible rfl
           rotate_left
           · simp only [Act.put, zaa, zab, zac, zbw, zbx]
             rfl
           refine done_ (done_of HT_.out (by kernel_rfl)) ?_
           try go_wp2
           go_ret
           exact ⟨taah, taco⟩
         · rw [if_neg c8] at H
           exact absurd H (taac)
       · rw [if_neg c7] at H
         exact absurd H (taac)
     · rw [if_neg c6] at H
       exact absurd H (taac)
   · rw [if_neg c5] at H
     exact absurd H (taac)
 · replace c4 := zbg.mpr c4
   subst c4; have H1 : (some false) = some r := by rw [if_neg (show ¬ (false = true) by decide)] at H; exact H
   clear H; have H := H1; clear H1; obtain rfl := zbc H
   go_enter Try.func98, Try.ntmps98
   try go_wp2_with (first | ((with_reducible refine gate_dst (N := 3) rfl ?_); refine box_event ?hg (N := 3) ?hd (cs := #[.int .i64 a1_0, .int .i64 a1_1, .int .i64 a1_2]) (t := 39) ?hr ?_; (case hd => rfl); (case hg => rfl); (case hr => first | (go_simp; done) | (go_simp; rfl)); intro gb477 hg w12 hbox hb; have n0_ := zad (zbe (taaa) hb); have n1_ := zad (hbox); have n2_ := zad ((taee : w.heap.size ≤ gb477)); have n3_ := zad ((taee : w.heap.size ≤ gb477)); clear HB; have HB := n0_; have BK477 := n1_; have GW477 := n2_; have GE477 := n3_; clear n0_ n1_ n2_ n3_ hb hbox hg))
   have n0_ := zad (blk_drew BK477.out)
   have n1_ := zad (zaf HB.out)
   clear BK477 HB; have BK477 := n0_; have HB := n1_; clear n0_ n1_; refine start_ (n := 23) (S := fun w' => w'.cell? ⟨gb477, 0, none⟩ = some (.int .i64 a1_0) ∧ w'.cell? ⟨gb477, 1, none⟩ = some (.int .i64 a1_1) ∧ w'.cell? ⟨gb477, 2, none⟩ = some (.int .i64 a1_2)) (ds := []) #[false, false, false, false, false, false, false, false, false, false, false, false, false, false, false, false, false, false, false, false, false, false, false] (by kernel_rfl) rfl rfl ⟨(zbi BK477.out 0).trans rfl, (zbi BK477.out 1).trans rfl, (zbi BK477.out 2).trans rfl⟩ (fun hHeld => ?_); refine with_tabW impl_isKind.tab1 impl_isKind.bits1 (fun HT_ HW_ => ?_)
   generalize w12.drew = w13 at BK477 HB hHeld ⊢
   refine pure_ (i := 0) (N := some 5) (v := ?_) (a' := ?_) tagp rfl rfl (zby HT_.out (by kernel_rfl)) (fun _ _ _ h => h) (Or.inl ⟨by rfl, ?_⟩) ?_ ?_
   rotate_left
   · intro w'
     go_simp; with_reducible rfl
   rotate_left
   · simp only [Act.put, zaa, zab, zac, zbw, zbx]
     rfl
   refine take_ (i := 1) (N := some 6) (v := ?_) (a' := ?_) tagq rfl rfl (zbz HT_.out HW_.out (by kernel_rfl)) (fun _ _ _ h => h) (Or.inl ⟨by rfl, ?_⟩) hHeld ?_ ?_
   rotate_left
   · rintro w' ⟨s0, s1, s2⟩
     go_simp; with_reducible rfl
   rotate_left
   · simp only [Act.put, zaa, zab, zac, zbw, zbx]
     rfl
   refine one_ (i := 2) (N := some 7) #[true, true, true, false, false, false, false, false, false, false, false, false, false, false, false, false, false, false, false, false, false, false, false] rfl rfl (one_of HT_.out (by kernel_rfl)) (by decide) (fun K hK => ?_)
   refine goes_ Try.func104 (by kernel_rfl) rfl #[.slice A0 l0.length c0, .agg #[.int .i64 a1_0, .int .i64 a1_1, .int .i64 a1_2]] (by rfl) rfl rfl (taad) ?_
   with_reducible refine (impl_canGive.calls _ _ l0 a1_0 a1_1 a1_2 false _ ?side1 ?side2 A3.out).mono ?_
   (case side1 => exact taev)
   (case side2 => exact HC0.out)
   rintro e w14 ⟨rfl, hb⟩
   refine ⟨_, rfl, ?_⟩
   have n0_ := zad (blk_below (g := gb477) (o := .cells #[.int .i64 a1_0, .int .i64 a1_1, .int .i64 a1_2] 39 (0, 0)) (by (with_reducible repeat (first | refine blk_drewN ?_ _ | refine blk_drew ?_ | refine blk_alloc ?_ _)); exact BK477.out) hb)
   have n1_ := zad (zbe (taco) hb)
   clear BK477 HB; have BK477 := n0_; have HB := n1_; clear n0_ n1_; (try clear hb); (try clear hb2); (try clear hk); (try clear hi); refine hK.out _ _ ⟨(zbi BK477.out 0).trans rfl, (zbi BK477.out 1).trans rfl, (zbi BK477.out 2).trans rfl⟩ (fun hHeld => ?_)
   clear hK K; refine norm_ (a' := ?_) ?_ ?_
   rotate_left
   · show Act.put _ (some 7) _ = _
     simp only [Act.put, zaa, zab, zac, zbw, zbx]
     rfl
   refine pure_ (i := 3) (N := some 8) (v := ?_) (a' := ?_) tagr rfl rfl (zby HT_.out (by kernel_rfl)) (fun _ _ _ h => h) (Or.inl ⟨by rfl, ?_⟩) ?_ ?_
   rotate_left
   · intro w'
     go_simp; with_reducible rfl
   rotate_left
   · simp only [Act.put, zaa, zab, zac, zbw, zbx]
     rfl
   refine pure_ (i := 4) (N := some 9) (v := undef) (a' := ?_) tags rfl rfl (zby HT_.out (by kernel_rfl)) (fun _ _ _ h => h) (Or.inr ⟨by rfl, rfl⟩) ?_ ?_
   rotate_left
   · simp only [Act.put, zaa, zab, zac, zbw, zbx]
     rfl
   refine pure_ (i := 5) (N := some 10) (v := undef) (a' := ?_) tagt rfl rfl (zby HT_.out (by kernel_rfl)) (fun _ _ _ h => h) (Or.inr ⟨by rfl, rfl⟩) ?_ ?_
   rotate_left
   · simp only [Act.put, zaa, zab, zac, zbw, zbx]
     rfl
   refine pure_ (i := 6) (N := some 11) (v := undef) (a' := ?_) #[true, true, true, true, true, true, true, false, false, false, false, false, false, false, false, false, false, false, false, false, false, false, false] rfl rfl (zby HT_.out (by kernel_rfl)) (fun _ _ _ h => h) (Or.inr ⟨by rfl, rfl⟩) ?_ ?_
   rotate_left
   · simp only [Act.put, zaa, zab, zac, zbw, zbx]
     rfl
   refine pure_ (i := 7) (N := some 12) (v := undef) (a' := ?_) tahb rfl rfl (zby HT_.out (by kernel_rfl)) (fun _ _ _ h => h) (Or.inr ⟨by rfl, rfl⟩) ?_ ?_
   rotate_left
   · simp only [Act.put, zaa, zab, zac, zbw, zbx]
     rfl
   refine pure_ (i := 8) (N := some 13) (v := undef) (a' := ?_) tahc rfl rfl (zby HT_.out (by kernel_rfl)) (fun _ _ _ h => h) (Or.inr ⟨by rfl, rfl⟩) ?_ ?_
   rotate_left
   · simp only [Act.put, zaa, zab, zac, zbw, zbx]
     rfl
   refine pure_ (i := 9) (N := some 14) (v := undef) (a' := ?_) #[true, true, true, true, true, true, true, true, true, true, false, false, false, false, false, false, false, false, false, false, false, false, false] rfl rfl (zby HT_.out (by kernel_rfl)) (fun _ _ _ h => h) (Or.inr ⟨by rfl, rfl⟩) ?_ ?_
   rotate_left
   · simp only [Act.put, zaa, zab, zac, zbw, zbx]
     rfl
   refine pure_ (i := 10) (N := some 15) (v := undef) (a' := ?_) tahd rfl rfl (zby HT_.out (by kernel_rfl)) (fun _ _ _ h => h) (Or.inr ⟨by rfl, rfl⟩) ?_ ?_
   rotate_left
   · simp only [Act.put, zaa, zab, zac, zbw, zbx]
     rfl
   refine pure_ (i := 11) (N := some 16) (v := undef) (a' := ?_) tahe rfl rfl (zby HT_.out (by kernel_rfl)) (fun _ _ _ h => h) (Or.inr ⟨by rfl, rfl⟩) ?_ ?_
   rotate_left
   · simp only [Act.put, zaa, zab, zac, zbw, zbx]
     rfl
   refine pure_ (i := 12) (N := some 17) (v := undef) (a' := ?_) tahf rfl rfl (zby HT_.out (by kernel_rfl)) (fun _ _ _ h => h) (Or.inr ⟨by rfl, rfl⟩) ?_ ?_
   rotate_left
   · simp only [Act.put, zaa, zab, zac, zbw, zbx]
     rfl
   refine pure_ (i := 13) (N := some 18) (v := undef) (a' := ?_) tahg rfl rfl (zby HT_.out (by kernel_rfl)) (fun _ _ _ h => h) (Or.inr ⟨by rfl, rfl⟩) ?_ ?_
   rotate_left
   · simp only [Act.put, zaa, zab, zac, zbw, zbx]
     rfl
   refine pure_ (i := 14) (N := some 19) (v := undef) (a' := ?_) tahh rfl rfl (zby HT_.out (by kernel_rfl)) (fun _ _ _ h => h) (Or.inr ⟨by rfl, rfl⟩) ?_ ?_
   rotate_left
   · simp only [Act.put, zaa, zab, zac, zbw, zbx]
     rfl
   refine pure_ (i := 15) (N := some 20) (v := undef) (a' := ?_) tahi rfl rfl (zby HT_.out (by kernel_rfl)) (fun _ _ _ h => h) (Or.inr ⟨by rfl, rfl⟩) ?_ ?_
   rotate_left
   · simp only [Act.put, zaa, zab, zac, zbw, zbx]
     rfl
   refine pure_ (i := 16) (N := some 21) (v := undef) (a' := ?_) tahj rfl rfl (zby HT_.out (by kernel_rfl)) (fun _ _ _ h => h) (Or.inr ⟨by rfl, rfl⟩) ?_ ?_
   rotate_left
   · simp only [Act.put, zaa, zab, zac, zbw, zbx]
     rfl
   refine pure_ (i := 17) (N := some 22) (v := undef) (a' := ?_) tagv rfl rfl (zby HT_.out (by kernel_rfl)) (fun _ _ _ h => h) (Or.inr ⟨by rfl, rfl⟩) ?_ ?_
   rotate_left
   · simp only [Act.put, zaa, zab, zac, zbw, zbx]
     rfl
   refine pure_ (i := 18) (N := some 23) (v := undef) (a' := ?_) tagw rfl rfl (zby HT_.out (by kernel_rfl)) (fun _ _ _ h => h) (Or.inr ⟨by rfl, rfl⟩) ?_ ?_
   rotate_left
   · simp only [Act.put, zaa, zab, zac, zbw, zbx]
     rfl
   refine pure_ (i := 19) (N := some 24) (v := undef) (a' := ?_) tagx rfl rfl (zby HT_.out (by kernel_rfl)) (fun _ _ _ h => h) (Or.inr ⟨by rfl, rfl⟩) ?_ ?_
   rotate_left
   · simp only [Act.put, zaa, zab, zac, zbw, zbx]
     rfl
   refine pure_ (i := 20) (N := some 25) (v := undef) (a' := ?_) tagy rfl rfl (zby HT_.out (by kernel_rfl)) (fun _ _ _ h => h) (Or.inr ⟨by rfl, rfl⟩) ?_ ?_
   rotate_left
   · simp only [Act.put, zaa, zab, zac, zbw, zbx]
     rfl
   refine pure_ (i := 21) (N := some 26) (v := ?_) (a' := ?_) tagz rfl rfl (zby HT_.out (by kernel_rfl)) (fun _ _ _ h => h) (Or.inl ⟨by rfl, ?_⟩) ?_ ?_
   rotate_left
   · intro w'
     go_simp; with_reducible rfl
   rotate_left
   · simp only [Act.put, zaa, zab, zac, zbw, zbx]
     rfl
   refine pure_ (i := 22) (N := some 4) (v := ?_) (a' := ?_) taha rfl rfl (zby HT_.out (by kernel_rfl)) (fun _ _ _ h => h) (Or.inl ⟨by rfl, ?_⟩) ?_ ?_
   rotate_left
   · intro w'
     go_simp; with_reducible rfl
   rotate_left
   · simp only [Act.put, zaa, zab, zac, zbw, zbx]
     rfl
   refine done_ (done_of HT_.out (by kernel_rfl)) ?_
   try go_wp2
   go_ret
   exact ⟨taah, taco⟩
def spec_l1In.f (a0 : Int) (a1 : Int) (a2 : Int) : Option (Bool) := if a0 ≥ a1 then (some (decide (a0 ≤ a2))) else (some false)
theorem spec_l1In.calls (a0 : Int) (a1 : Int) (a2 : Int) (r : Bool) (w : World) (h : spec_l1In.f a0 a1 a2 = some r) :
 Calls Try.prog 85 #[.int .i64 a0, .int .i64 a1, .int .i64 a2] w fun e w' => e = .returned (.bool r) ∧ Drawn0 w w' := by
 have H : (if a0 ≥ a1 then (some (decide (a0 ≤ a2))) else (some false)) = some r := h
 clear h; by_cases c4 : a0 ≥ a1
 · rw [if_pos c4] at H
   have c4b0 : decide (a1 ≤ a0) = true := zba c4
   clear c4; obtain rfl := zbc H
   go_enter Try.func85, Try.ntmps85
   go_wp2
   go_ret
   exact ⟨taag, taak⟩
 · rw [if_neg c4] at H
   have c4b0 : decide (a1 ≤ a0) = false := zbh c4
   clear c4; obtain rfl := zbc H
   go_enter Try.func85, Try.ntmps85
   go_wp2
   go_ret
   exact ⟨taag, taak⟩
def spec_giIs.f (l0 : List Int) (a1_0 : Int) (a1_1 : Int) (a1_2 : Int) : Option (Bool) := (spec_l1In.f a1_0 0 (wrap64 ((l0.length : Int) - 1))).bind fun t487 => (if t487 = true then ((spec_l1In.f a1_1 0 (wrap64 ((l0.length : Int) - 1))).bind fun t488 => (if t488 = true then (if a1_0 = a1_1 then (some false) else (some (decide (a1_2 ≥ 1)))) else (some false))) else (some false))
theorem spec_giIs.calls (A0 : Option Addr) (c0 : Nat) (l0 : List Int) (a1_0 : Int) (a1_1 : Int) (a1_2 : Int) (r : Bool) (w : World) (hr0 : Kd.C (Kd.int .i64) w A0 l0.length l0) (hc0 : l0.length ≤ c0) (h : spec_giIs.f l0 a1_0 a1_1 a1_2 = some r) :
 Calls Try.prog 103 #[.slice A0 l0.length c0, .agg #[.int .i64 a1_0, .int .i64 a1_1, .int .i64 a1_2]] w fun e w' => e = .returned (.bool r) ∧ Below w.heap.size w w' := by
 have hu39 := Try.underlying39
 have HR0 := zad hr0; have HC0 := zad hc0; clear hr0 hc0; have HB := zad (Below.refl w.heap.size w)
 have H : ((spec_l1In.f a1_0 0 (wrap64 ((l0.length : Int) - 1))).bind fun t487 => (if t487 = true then ((spec_l1In.f a1_1 0 (wrap64 ((l0.length : Int) - 1))).bind fun t488 => (if t488 = true then (if a1_0 = a1_1 then (some false) else (some (decide (a1_2 ≥ 1)))) else (some false))) else (some false))) = some r := h
 clear h; replace H := zay.mp H; obtain ⟨t487, A30, H⟩ := H
 replace H : (if t487 = true then ((spec_l1In.f a1_1 0 (wrap64 ((l0.length : Int) - 1))).bind fun t488 => (if t488 = true then (if a1_0 = a1_1 then (some false) else (some (decide (a1_2 ≥ 1)))) else (some false))) else (some false)) = some r := H
 have A3 := zad A30; clear A30; by_cases c4 : t487 = true
 · subst c4
   have H1 : ((spec_l1In.f a1_1 0 (wrap64 ((l0.length : Int) - 1))).bind fun t488 => (if t488 = true then (if a1_0 = a1_1 then (some false) else (some (decide (a1_2 ≥ 1)))) else (some false))) = some r := by rw [if_pos rfl] at H; exact H
   clear H; have H := H1; clear H1; replace H := zay.mp H; obtain ⟨t488, A50, H⟩ := H
   replace H : (if t488 = true then (if a1_0 = a1_1 then (some false) else (some (decide (a1_2 ≥ 1)))) else (some false)) = some r := H
   have A5 := zad A50; clear A50; by_cases c6 : t488 = true
   · subst c6
     have H1 : (if a1_0 = a1_1 then (some false) else (some (decide (a1_2 ≥ 1)))) = some r := by rw [if_pos rfl] at H; exact H
     clear H; have H := H1; clear H1; by_cases c7 : a1_0 = a1_1
     · rw [if_pos c7] at H
       have c7b0 : (a1_0 == a1_1) = true := beq_iff_eq.mpr c7
       have c7b1 : (a1_0 != a1_1) = false := bne_eq_false_iff_eq.mpr c7
       clear c7; obtain rfl := zbc H
       go_enter Try.func103, Try.ntmps103
       go_wp2_with (first | ((with_reducible refine gate_dst (N := 3) rfl ?_); (try (refine gate_guard (by rfl) ?_; dsimp only)); refine box_event ?hg (N := 3) ?hd (cs := #[.int .i64 a1_0, .int .i64 a1_1, .int .i64 a1_2]) (t := 39) ?hr ?_; (case hd => rfl); (case hg => rfl); (case hr => first | (go_simp; done) | (go_simp; rfl)); intro gb486 hg w8 hbox hb; have n0_ := zad (zbe (taaa) hb); have n1_ := zad (hbox); have n2_ := zad ((taee : w.heap.size ≤ gb486)); have n3_ := zad ((taee : w.heap.size ≤ gb486)); clear HB; have HB := n0_; have BK486 := n1_; have GW486 := n2_; have GE486 := n3_; clear n0_ n1_ n2_ n3_ hb hbox hg; have hcz9_0 : w8.cell? ⟨gb486, 0, none⟩ = some (.int .i64 a1_0) := (zbi BK486.out 0).trans rfl; have hcz9_1 : w8.cell? ⟨gb486, 1, none⟩ = some (.int .i64 a1_1) := (zbi BK486.out 1).trans rfl; have hcz9_2 : w8.cell? ⟨gb486, 2, none⟩ = some (.int .i64 a1_2) := (zbi BK486.out 2).trans rfl; have hfz9_0 := zbj BK486.out 0; have hfz9_1 := zbj BK486.out 1; have hfz9_2 := zbj BK486.out 2) | ((with_reducible refine zbf (f := 85) rfl ?_); refine zbn (some 10) rfl rfl Try.func85 (by kernel_rfl) rfl #[.int .i64 a1_0, .int .i64 0, .int .i64 (wrap64 ((l0.length : Int) - 1))] rfl (taad) ?_; (with_reducible refine (spec_l1In.calls a1_0 0 (wrap64 ((l0.length : Int) - 1)) true _ A3.out).mono ?_); rintro e w' ⟨rfl, ⟨nd, rfl⟩⟩; refine ⟨_, rfl, ?_⟩) | (go_at_call 85; (with_reducible refine (spec_l1In.calls a1_1 0 (wrap64 ((l0.length : Int) - 1)) true _ A5.out).mono ?_); rintro e w' ⟨rfl, ⟨nd, rfl⟩⟩))
       go_ret
       exact ⟨taah, tacp⟩
     · rw [if_neg c7] at H
       have c7b0 : (a1_0 == a1_1) = false := zbo.mpr c7
       have c7b1 : (a1_0 != a1_1) = true := bne_iff_ne.mpr c7
       obtain rfl := zbc H
       go_enter Try.func103, Try.ntmps103
       go_wp2_with (first | ((with_reducible refine gate_dst (N := 3) rfl ?_); (try (refine gate_guard (by rfl) ?_; dsimp only)); refine box_event ?hg (N := 3) ?hd (cs := #[.int .i64 a1_0, .int .i64 a1_1, .int .i64 a1_2]) (t := 39) ?hr ?_; (case hd => rfl); (case hg => rfl); (case hr => first | (go_simp; done) | (go_simp; rfl)); intro gb486 hg w10 hbox hb; have n0_ := zad (zbe (taaa) hb); have n1_ := zad (hbox); have n2_ := zad ((taee : w.heap.size ≤ gb486)); have n3_ := zad ((taee : w.heap.size ≤ gb486)); clear HB; have HB := n0_; have BK486 := n1_; have GW486 := n2_; have GE486 := n3_; clear n0_ n1_ n2_ n3_ hb hbox hg; have hcz11_0 : w10.cell? ⟨gb486, 0, none⟩ = some (.int .i64 a1_0) := (zbi BK486.out 0).trans rfl; have hcz11_1 : w10.cell? ⟨gb486, 1, none⟩ = some (.int .i64 a1_1) := (zbi BK486.out 1).trans rfl; have hcz11_2 : w10.cell? ⟨gb486, 2, none⟩ = some (.int .i64 a1_2) := (zbi BK486.out 2).trans rfl; have hfz11_0 := zbj BK486.out 0; have hfz11_1 := zbj BK486.out 1; have hfz11_2 := zbj BK486.out 2) | ((with_reducible refine zbf (f := 85) rfl ?_); refine zbn (some 10) rfl rfl Try.func85 (by kernel_rfl) rfl #[.int .i64 a1_0, .int .i64 0, .int .i64 (wrap64 ((l0.length : Int) - 1))] rfl (taad) ?_; (with_reducible refine (spec_l1In.calls a1_0 0 (wrap64 ((l0.length : Int) - 1)) true _ A3.out).mono ?_); rintro e w' ⟨rfl, ⟨nd, rfl⟩⟩; refine ⟨_, rfl, ?_⟩) | (go_at_call 85; (with_reducible refine (spec_l1In.calls a1_1 0 (wrap64 ((l0.length : Int) - 1)) true _ A5.out).mono ?_); rintro e w' ⟨rfl, ⟨nd, rfl⟩⟩))
       go_ret
       exact ⟨taah, tacp⟩
   · replace c6 := zbg.mpr c6
     subst c6; have H1 : (some false) = some r := by rw [if_neg (show ¬ (false = true) by decide)] at H; exact H
     clear H; have H := H1; clear H1; obtain rfl := zbc H
     go_enter Try.func103, Try.ntmps103
     go_wp2_with (first | ((with_reducible refine gate_dst (N := 3) rfl ?_); (try (refine gate_guard (by rfl) ?_; dsimp only)); refine box_event ?hg (N := 3) ?hd (cs := #[.int .i64 a1_0, .int .i64 a1_1, .int .i64 a1_2]) (t := 39) ?hr ?_; (case hd => rfl); (case hg => rfl); (case hr => first | (go_simp; done) | (go_simp; rfl)); intro gb486 hg w12 hbox hb; have n0_ := zad (zbe (taaa) hb); have n1_ := zad (hbox); have n2_ := zad ((taee : w.heap.size ≤ gb486)); have n3_ := zad ((taee : w.heap.size ≤ gb486)); clear HB; have HB := n0_; have BK486 := n1_; have GW486 := n2_; have GE486 := n3_; clear n0_ n1_ n2_ n3_ hb hbox hg; have hcz13_0 : w12.cell? ⟨gb486, 0, none⟩ = some (.int .i64 a1_0) := (zbi BK486.out 0).trans rfl; have hcz13_1 : w12.cell? ⟨gb486, 1, none⟩ = some (.int .i64 a1_1) := (zbi BK486.out 1).trans rfl; have hcz13_2 : w12.cell? ⟨gb486, 2, none⟩ = some (.int .i64 a1_2) := (zbi BK486.out 2).trans rfl; have hfz13_0 := zbj BK486.out 0; have hfz13_1 := zbj BK486.out 1; have hfz13_2 := zbj BK486.out 2) | ((with_reducible refine zbf (f := 85) rfl ?_); refine zbn (some 10) rfl rfl Try.func85 (by kernel_rfl) rfl #[.int .i64 a1_0, .int .i64 0, .int .i64 (wrap64 ((l0.length : Int) - 1))] rfl (taad) ?_; (with_reducible refine (spec_l1In.calls a1_0 0 (wrap64 ((l0.length : Int) - 1)) true _ A3.out).mono ?_); rintro e w' ⟨rfl, ⟨nd, rfl⟩⟩; refine ⟨_, rfl, ?_⟩) | (go_at_call 85; (with_reducible refine (spec_l1In.calls a1_1 0 (wrap64 ((l0.length : Int) - 1)) false _ A5.out).mono ?_); rintro e w' ⟨rfl, ⟨nd, rfl⟩⟩))
     go_ret
     exact ⟨taah, tacp⟩
 · replace c4 := zbg.mpr c4
   subst c4; have H1 : (some false) = some r := by rw [if_neg (show ¬ (false = true) by decide)] at H; exact H
   clear H; have H := H1; clear H1; obtain rfl := zbc H
   go_enter Try.func103, Try.ntmps103
   go_wp2_with (first | ((with_reducible refine gate_dst (N := 3) rfl ?_); (try (refine gate_guard (by rfl) ?_; dsimp only)); refine box_event ?hg (N := 3) ?hd (cs := #[.int .i64 a1_0, .int .i64 a1_1, .int .i64 a1_2]) (t := 39) ?hr ?_; (case hd => rfl); (case hg => rfl); (case hr => first | (go_simp; done) | (go_simp; rfl)); intro gb486 hg w14 hbox hb; have n0_ := zad (zbe (taaa) hb); have n1_ := zad (hbox); have n2_ := zad ((taee : w.heap.size ≤ gb486)); have n3_ := zad ((taee : w.heap.size ≤ gb486)); clear HB; have HB := n0_; have BK486 := n1_; have GW486 := n2_; have GE486 := n3_; clear n0_ n1_ n2_ n3_ hb hbox hg; have hcz15_0 : w14.cell? ⟨gb486, 0, none⟩ = some (.int .i64 a1_0) := (zbi BK486.out 0).trans rfl; have hcz15_1 : w14.cell? ⟨gb486, 1, none⟩ = some (.int .i64 a1_1) := (zbi BK486.out 1).trans rfl; have hcz15_2 : w14.cell? ⟨gb486, 2, none⟩ = some (.int .i64 a1_2) := (zbi BK486.out 2).trans rfl; have hfz15_0 := zbj BK486.out 0; have hfz15_1 := zbj BK486.out 1; have hfz15_2 := zbj BK486.out 2) | ((with_reducible refine zbf (f := 85) rfl ?_); refine zbn (some 10) rfl rfl Try.func85 (by kernel_rfl) rfl #[.int .i64 a1_0, .int .i64 0, .int .i64 (wrap64 ((l0.length : Int) - 1))] rfl (taad) ?_; (with_reducible refine (spec_l1In.calls a1_0 0 (wrap64 ((l0.length : Int) - 1)) false _ A3.out).mono ?_); rintro e w' ⟨rfl, ⟨nd, rfl⟩⟩; refine ⟨_, rfl, ?_⟩))
   go_ret
   exact ⟨taah, tacp⟩
def spec_giKind.f (l0 : List Int) (a1_0 : Int) (a1_1 : Int) (a1_2 : Int) : Option (Bool) := (spec_giIs.f l0 a1_0 a1_1 a1_2).bind fun t490 => (if t490 = true then (if a1_2 ≤ 60 then (if 0 ≤ a1_0 then (if a1_0 < (l0.length : Int) then (if 0 ≤ a1_1 then (if a1_1 < (l0.length : Int) then (some (decide ((wrap64 ((rd l0 a1_0) - a1_2)) ≥ (wrap64 ((rd l0 a1_1) + a1_2))))) else (none)) else (none)) else (none)) else (none)) else (some false)) else (some false))
def spec_giKind.T1 : Bool × List (List Nat × List Nat) := (true, [([], []), ([], []), ([0, 1], [0, 1]), ([2, 2], [2]), ([3], [3]), ([4, 3], [3, 4]), ([5, 3], [3, 5]), ([3, 6], [3, 6]), ([7, 3], [7]), ([8], [8]), ([8], [8]), ([10, 8], [8, 10]), ([9, 11, 8], [8, 9, 11]), ([12, 8], [8, 12]), ([8], [8]), ([14, 8], [8, 14]), ([13, 15, 8], [8, 13, 15]), ([8], [8]), ([8], [8]), ([18, 8], [8, 18]), ([17, 19, 8], [8, 17, 19]), ([20, 8], [8, 20]), ([8], [8]), ([22, 8], [8, 22]), ([21, 23, 8], [8, 21, 23]), ([16, 24, 8], [8, 16, 24]), ([8, 25], [8, 25]), ([26, 8, 0, 1, 2, 3, 4, 5, 6, 7, 8, 9, 10, 11, 12, 13, 14, 15, 16, 17, 18, 19, 20, 21, 22, 23, 24, 25, 26], [26])])
def spec_giKind.B1 : List Nat := [0, 0, 3, 7, 15, 31, 63, 127, 255, 511, 511, 1535, 4095, 8191, 511, 16895, 65535, 511, 511, 262655, 918015, 1966591, 511, 4194815, 16646655, 33554431, 67108863, 134217727]
theorem spec_giKind.tab1 : rtab .any (opsOf Try.f99 1) = spec_giKind.T1 := by kernel_rfl
theorem spec_giKind.bits1 : waitsOk spec_giKind.T1.2 spec_giKind.B1 = true := by kernel_rfl
theorem spec_giKind.calls (A0 : Option Addr) (c0 : Nat) (l0 : List Int) (a1_0 : Int) (a1_1 : Int) (a1_2 : Int) (r : Bool) (w : World) (hr0 : Kd.C (Kd.int .i64) w A0 l0.length l0) (hc0 : l0.length ≤ c0) (h : spec_giKind.f l0 a1_0 a1_1 a1_2 = some r) :
 Calls Try.prog 99 #[.slice A0 l0.length c0, .agg #[.int .i64 a1_0, .int .i64 a1_1, .int .i64 a1_2]] w fun e w' => e = .returned (.bool r) ∧ Below w.heap.size w w' := by
 have hu39 := Try.underlying39
 have HR0 := zad hr0; have HC0 := zad hc0; clear hr0 hc0; have HB := zad (Below.refl w.heap.size w)
 have H : ((spec_giIs.f l0 a1_0 a1_1 a1_2).bind fun t490 => (if t490 = true then (if a1_2 ≤ 60 then (if 0 ≤ a1_0 then (if a1_0 < (l0.length : Int) then (if 0 ≤ a1_1 then (if a1_1 < (l0.length : Int) then (some (decide ((wrap64 ((rd l0 a1_0) - a1_2)) ≥ (wrap64 ((rd l0 a1_1) + a1_2))))) else (none)) else (none)) else (none)) else (none)) else (some false)) else (some false))) = some r := h
 clear h; replace H := zay.mp H; obtain ⟨t490, A30, H⟩ := H
 replace H : (if t490 = true then (if a1_2 ≤ 60 then (if 0 ≤ a1_0 then (if a1_0 < (l0.length : Int) then (if 0 ≤ a1_1 then (if a1_1 < (l0.length : Int) then (some (decide ((wrap64 ((rd l0 a1_0) - a1_2)) ≥ (wrap64 ((rd l0 a1_1) + a1_2))))) else (none)) else (none)) else (none)) else (none)) else (some false)) else (some false)) = some r := H
 have A3 := zad A30; clear A30; by_cases c4 : t490 = true
 · subst c4
   have H1 : (if a1_2 ≤ 60 then (if 0 ≤ a1_0 then (if a1_0 < (l0.length : Int) then (if 0 ≤ a1_1 then (if a1_1 < (l0.length : Int) then (some (decide ((wrap64 ((rd l0 a1_0) - a1_2)) ≥ (wrap64 ((rd l0 a1_1) + a1_2))))) else (none)) else (none)) else (none)) else (none)) else (some false)) = some r := by rw [if_pos rfl] at H; exact H
   clear H; have H := H1; clear H1; by_cases c5 : a1_2 ≤ 60
   · rw [if_pos c5] at H
     have c5b0 : decide (a1_2 ≤ 60) = true := zba c5
     clear c5; by_cases c6 : 0 ≤ a1_0
     · rw [if_pos c6] at H
       have c6b0 : decide (0 ≤ a1_0) = true := zba c6
       clear c6; by_cases c7 : a1_0 < (l0.length : Int)
       · rw [if_pos c7] at H
         have c7b0 : decide (a1_0 < (l0.length : Int)) = true := zba c7
         clear c7; by_cases c8 : 0 ≤ a1_1
         · rw [if_pos c8] at H
           have c8b0 : decide (0 ≤ a1_1) = true := zba c8
           clear c8; by_cases c9 : a1_1 < (l0.length : Int)
           · rw [if_pos c9] at H
             have c9b0 : decide (a1_1 < (l0.length : Int)) = true := zba c9
             clear c9; obtain rfl := zbc H
             go_enter Try.func99, Try.ntmps99
             try go_wp2_with (first | ((with_reducible refine gate_dst (N := 3) rfl ?_); refine box_event ?hg (N := 3) ?hd (cs := #[.int .i64 a1_0, .int .i64 a1_1, .int .i64 a1_2]) (t := 39) ?hr ?_; (case hd => rfl); (case hg => rfl); (case hr => first | (go_simp; done) | (go_simp; rfl)); intro gb489 hg w10 hbox hb; have n0_ := zad (zbe (taaa) hb); have n1_ := zad (hbox); have n2_ := zad ((taee : w.heap.size ≤ gb489)); have n3_ := zad ((taee : w.heap.size ≤ gb489)); clear HB; have HB := n0_; have BK489 := n1_; have GW489 := n2_; have GE489 := n3_; clear n0_ n1_ n2_ n3_ hb hbox hg))
             have n0_ := zad (blk_drew BK489.out)
             have n1_ := zad (zaf HB.out)
             clear BK489 HB; have BK489 := n0_; have HB := n1_; clear n0_ n1_; have p491 : 0 ≤ (a1_0 : Int) := zas (taab)
             have q491 : a1_0 < (l0.length : Int) := zas (taab)
             obtain ⟨ad491, e491, hx491_0⟩ := zca HR0.out a1_0 p491 q491
             have hw491_0 := hx491_0
             cases e491
             replace hx491_0 := (HB.out.cell (zaz w _ hx491_0)).trans hx491_0
             replace p491 := eq_true p491
             replace q491 := eq_true q491
             have p492 : 0 ≤ (a1_1 : Int) := zas (taab)
             have q492 : a1_1 < (l0.length : Int) := zas (taab)
             obtain ⟨ad492, e492, hx492_0⟩ := zca HR0.out a1_1 p492 q492
             have hw492_0 := hx492_0
             obtain rfl : ad491 = ad492 := (by injection e492)
             replace hx492_0 := (HB.out.cell (zaz w _ hx492_0)).trans hx492_0
             replace p492 := eq_true p492
             replace q492 := eq_true q492
             refine start_ (n := 28) (S := fun w' => w'.cell? ⟨gb489, 0, none⟩ = some (.int .i64 a1_0) ∧ w'.cell? ⟨gb489, 1, none⟩ = some (.int .i64 a1_1) ∧ w'.cell? ⟨gb489, 2, none⟩ = some (.int .i64 a1_2) ∧ w'.cell? (ad491.add (a1_0).toNat) = some (.int .i64 (rd l0 a1_0)) ∧ w'.cell? (ad491.add (a1_1).toNat) = some (.int .i64 (rd l0 a1_1))) (ds := []) #[false, false, false, false, false, false, false, false, false, false, false, false, false, false, false, false, false, false, false, false, false, false, false, false, false, false, false, false] (by kernel_rfl) rfl rfl ⟨(zbi BK489.out 0).trans rfl, (zbi BK489.out 1).trans rfl, (zbi BK489.out 2).trans rfl, ((HB.out.cell (zaz w _ hw491_0)).trans hw491_0), ((HB.out.cell (zaz w _ hw492_0)).trans hw492_0)⟩ (fun hHeld => ?_); refine with_tabW spec_giKind.tab1 spec_giKind.bits1 (fun HT_ HW_ => ?_)
             generalize w10.drew = w11 at BK489 HB hx491_0 hx492_0 hHeld ⊢
             refine pure_ (i := 0) (N := some 5) (v := ?_) (a' := ?_) tahk rfl rfl (zby HT_.out (by kernel_rfl)) (fun _ _ _ h => h) (Or.inl ⟨by rfl, ?_⟩) ?_ ?_
             rotate_left
             · intro w'
               go_simp; with_reducible rfl
             rotate_left
             · simp only [Act.put, zaa, zab, zac, zbw, zbx]
               rfl
             refine take_ (i := 1) (N := some 6) (v := ?_) (a' := ?_) tahl rfl rfl (zbz HT_.out HW_.out (by kernel_rfl)) (fun _ _ _ h => h) (Or.inl ⟨by rfl, ?_⟩) hHeld ?_ ?_
             rotate_left
             · rintro w' ⟨s0, s1, s2, s3, s4⟩
               go_simp; with_reducible rfl
             rotate_left
             · simp only [Act.put, zaa, zab, zac, zbw, zbx]
               rfl
             refine one_ (i := 2) (N := some 7) #[true, true, true, false, false, false, false, false, false, false, false, false, false, false, false, false, false, false, false, false, false, false, false, false, false, false, false, false] rfl rfl (one_of HT_.out (by kernel_rfl)) (by decide) (fun K hK => ?_)
             refine goes_ Try.func103 (by kernel_rfl) rfl #[.slice (some ad491) l0.length c0, .agg #[.int .i64 a1_0, .int .i64 a1_1, .int .i64 a1_2]] (by rfl) rfl rfl (taad) ?_
             with_reducible refine (spec_giIs.calls _ _ l0 a1_0 a1_1 a1_2 true _ ?side1 ?side2 A3.out).mono ?_
             (case side1 => exact taev)
             (case side2 => exact HC0.out)
             rintro e w12 ⟨rfl, hb⟩
             refine ⟨_, rfl, ?_⟩
             have n0_ := zad (blk_below (g := gb489) (o := .cells #[.int .i64 a1_0, .int .i64 a1_1, .int .i64 a1_2] 39 (0, 0)) (tadg) hb)
             have n1_ := zad (zbe (tabs) hb)
             clear BK489 HB; have BK489 := n0_; have HB := n1_; clear n0_ n1_; (try clear hb); (try clear hb2); (try clear hk); (try clear hi); refine hK.out _ _ ⟨(zbi BK489.out 0).trans rfl, (zbi BK489.out 1).trans rfl, (zbi BK489.out 2).trans rfl, ((HB.out.cell (zaz w _ hw491_0)).trans hw491_0), ((HB.out.cell (zaz w _ hw492_0)).trans hw492_0)⟩ (fun hHeld => ?_)
             clear hK K; refine norm_ (a' := ?_) ?_ ?_
             rotate_left
             · show Act.put _ (some 7) _ = _
               simp only [Act.put, zaa, zab, zac, zbw, zbx]
               rfl
             refine pure_ (i := 3) (N := some 8) (v := ?_) (a' := ?_) tahm rfl rfl (zby HT_.out (by kernel_rfl)) (fun _ _ _ h => h) (Or.inl ⟨by rfl, ?_⟩) ?_ ?_
             rotate_left
             · intro w'
               go_simp; with_reducible rfl
             rotate_left
             · simp only [Act.put, zaa, zab, zac, zbw, zbx]
               rfl
             refine pure_ (i := 4) (N := some 9) (v := ?_) (a' := ?_) tahn rfl rfl (zby HT_.out (by kernel_rfl)) (fun _ _ _ h => h) (Or.inl ⟨by rfl, ?_⟩) ?_ ?_
             rotate_left
             · intro w'
               go_simp; with_reducible rfl
             rotate_left
             · simp only [Act.put, zaa, zab, zac, zbw, zbx]
               rfl
             refine take_ (i := 5) (N := some 10) (v := ?_) (a' := ?_) taho rfl rfl (zbz HT_.out HW_.out (by kernel_rfl)) (fun _ _ _ h => h) (Or.inl ⟨by rfl, ?_⟩) hHeld ?_ ?_
             rotate_left
             · rintro w' ⟨s0, s1, s2, s3, s4⟩
               go_simp; with_reducible rfl
             rotate_left
             · simp only [Act.put, zaa, zab, zac, zbw, zbx]
               rfl
             refine pure_ (i := 6) (N := some 11) (v := ?_) (a' := ?_) tahp rfl rfl (zby HT_.out (by kernel_rfl)) (fun _ _ _ h => h) (Or.inl ⟨by rfl, ?_⟩) ?_ ?_
             rotate_left
             · intro w'
               go_simp; with_reducible rfl
             rotate_left
             · simp only [Act.put, zaa, zab, zac, zbw, zbx]
               rfl
             refine pure_ (i := 7) (N := some 12) (v := ?_) (a' := ?_) tahq rfl rfl (zby HT_.out (by kernel_rfl)) (fun _ _ _ h => h) (Or.inl ⟨by rfl, ?_⟩) ?_ ?_
             rotate_left
             · intro w'
               go_simp; with_reducible rfl
             rotate_left
             · simp only [Act.put, zaa, zab, zac, zbw, zbx]
               rfl
             refine pure_ (i := 8) (N := some 13) (v := ?_) (a' := ?_) tahr rfl rfl (zby HT_.out (by kernel_rfl)) (fun _ _ _ h => h) (Or.inl ⟨by rfl, ?_⟩) ?_ ?_
             rotate_left
             · intro w'
               go_simp; with_reducible rfl
             rotate_left
             · simp only [Act.put, zaa, zab, zac, zbw, zbx]
               rfl
             refine pure_ (i := 9) (N := some 14) (v := ?_) (a' := ?_) tahs rfl rfl (zby HT_.out (by kernel_rfl)) (fun _ _ _ h => h) (Or.inl ⟨by rfl, ?_⟩) ?_ ?_
             rotate_left
             · intro w'
               go_simp; with_reducible rfl
             rotate_left
             · simp only [Act.put, zaa, zab, zac, zbw, zbx]
               rfl
             refine pure_ (i := 10) (N := some 15) (v := ?_) (a' := ?_) taht rfl rfl (zby HT_.out (by kernel_rfl)) (fun _ _ _ h => h) (Or.inl ⟨by rfl, ?_⟩) ?_ ?_
             rotate_left
             · intro w'
               go_simp; with_reducible rfl
             rotate_left
             · simp only [Act.put, zaa, zab, zac, zbw, zbx]
               rfl
             refine pure_ (i := 14) (N := some 19) (v := ?_) (a' := ?_) #[true, true, true, true, true, true, true, true, true, true, true, false, false, false, true, false, false, false, false, false, false, false, false, false, false, false, false, false] rfl rfl (zby HT_.out (by kernel_rfl)) (fun _ _ _ h => h) (Or.inl ⟨by rfl, ?_⟩) ?_ ?_
             rotate_left
             · intro w'
               go_simp; with_reducible rfl
             rotate_left
             · simp only [Act.put, zaa, zab, zac, zbw, zbx]
               rfl
             refine pure_ (i := 17) (N := some 22) (v := ?_) (a' := ?_) #[true, true, true, true, true, true, true, true, true, true, true, false, false, false, true, false, false, true, false, false, false, false, false, false, false, false, false, false] rfl rfl (zby HT_.out (by kernel_rfl)) (fun _ _ _ h => h) (Or.inl ⟨by rfl, ?_⟩) ?_ ?_
             rotate_left
             · intro w'
               go_simp; with_reducible rfl
             rotate_left
             · simp only [Act.put, zaa, zab, zac, zbw, zbx]
               rfl
             refine pure_ (i := 18) (N := some 23) (v := ?_) (a' := ?_) #[true, true, true, true, true, true, true, true, true, true, true, false, false, false, true, false, false, true, true, false, false, false, false, false, false, false, false, false] rfl rfl (zby HT_.out (by kernel_rfl)) (fun _ _ _ h => h) (Or.inl ⟨by rfl, ?_⟩) ?_ ?_
             rotate_left
             · intro w'
               go_simp; with_reducible rfl
             rotate_left
             · simp only [Act.put, zaa, zab, zac, zbw, zbx]
               rfl
             refine pure_ (i := 22) (N := some 27) (v := ?_) (a' := ?_) #[true, true, true, true, true, true, true, true, true, true, true, false, false, false, true, false, false, true, true, false, false, false, true, false, false, false, false, false] rfl rfl (zby HT_.out (by kernel_rfl)) (fun _ _ _ h => h) (Or.inl ⟨by rfl, ?_⟩) ?_ ?_
             rotate_left
             · intro w'
               go_simp; with_reducible rfl
             rotate_left
             · simp only [Act.put, zaa, zab, zac, zbw, zbx]
               rfl
             refine take_ (i := 11) (N := some 16) (v := ?_) (a' := ?_) #[true, true, true, true, true, true, true, true, true, true, true, true, false, false, true, false, false, true, true, false, false, false, true, false, false, false, false, false] rfl rfl (zbz HT_.out HW_.out (by kernel_rfl)) (fun _ _ _ h => h) (Or.inl ⟨by rfl, ?_⟩) hHeld ?_ ?_
             rotate_left
             · rintro w' ⟨s0, s1, s2, s3, s4⟩
               go_simp; with_reducible rfl
             rotate_left
             · simp only [Act.put, zaa, zab, zac, zbw, zbx]
               rfl
             refine pure_ (i := 12) (N := some 17) (v := ?_) (a' := ?_) #[true, true, true, true, true, true, true, true, true, true, true, true, true, false, true, false, false, true, true, false, false, false, true, false, false, false, false, false] rfl rfl (zby HT_.out (by kernel_rfl)) (fun _ _ _ h => h) (Or.inl ⟨by rfl, ?_⟩) ?_ ?_
             rotate_left
             · intro w'
               go_simp; with_reducible rfl
             rotate_left
             · simp only [Act.put, zaa, zab, zac, zbw, zbx]
               rfl
             refine take_ (i := 13) (N := some 18) (v := ?_) (a' := ?_) #[true, true, true, true, true, true, true, true, true, true, true, true, true, true, true, false, false, true, true, false, false, false, true, false, false, false, false, false] rfl rfl (zbz HT_.out HW_.out (by kernel_rfl)) (fun _ _ _ h => h) (Or.inl ⟨by rfl, ?_⟩) hHeld ?_ ?_
             rotate_left
             · rintro w' ⟨s0, s1, s2, s3, s4⟩
               go_simp; with_reducible rfl
             rotate_left
             · simp only [Act.put, zaa, zab, zac, zbw, zbx]
               rfl
             refine take_ (i := 15) (N := some 20) (v := ?_) (a' := ?_) #[true, true, true, true, true, true, true, true, true, true, true, true, true, true, true, true, false, true, true, false, false, false, true, false, false, false, false, false] rfl rfl (zbz HT_.out HW_.out (by kernel_rfl)) (fun _ _ _ h => h) (Or.inl ⟨by rfl, ?_⟩) hHeld ?_ ?_
             rotate_left
             · rintro w' ⟨s0, s1, s2, s3, s4⟩
               go_simp; with_reducible rfl
             rotate_left
             · simp only [Act.put, zaa, zab, zac, zbw, zbx]
               rfl
             refine pure_ (i := 16) (N := some 21) (v := ?_) (a' := ?_) #[true, true, true, true, true, true, true, true, true, true, true, true, true, true, true, true, true, true, true, false, false, false, true, false, false, false, false, false] rfl rfl (zby HT_.out (by kernel_rfl)) (fun _ _ _ h => h) (Or.inl ⟨by rfl, ?_⟩) ?_ ?_
             rotate_left
             · intro w'
               go_simp; with_reducible rfl
             rotate_left
             · simp only [Act.put, zaa, zab, zac, zbw, zbx]
               rfl
             refine take_ (i := 19) (N := some 24) (v := ?_) (a' := ?_) #[true, true, true, true, true, true, true, true, true, true, true, true, true, true, true, true, true, true, true, true, false, false, true, false, false, false, false, false] rfl rfl (zbz HT_.out HW_.out (by kernel_rfl)) (fun _ _ _ h => h) (Or.inl ⟨by rfl, ?_⟩) hHeld ?_ ?_
             rotate_left
             · rintro w' ⟨s0, s1, s2, s3, s4⟩
               go_simp; with_reducible rfl
             rotate_left
             · simp only [Act.put, zaa, zab, zac, zbw, zbx]
               rfl
             refine pure_ (i := 20) (N := some 25) (v := ?_) (a' := ?_) #[true, true, true, true, true, true, true, true, true, true, true, true, true, true, true, true, true, true, true, true, true, false, true, false, false, false, false, false] rfl rfl (zby HT_.out (by kernel_rfl)) (fun _ _ _ h => h) (Or.inl ⟨by rfl, ?_⟩) ?_ ?_
             rotate_left
             · intro w'
               go_simp; with_reducible rfl
             rotate_left
             · simp only [Act.put, zaa, zab, zac, zbw, zbx]
               rfl
             refine take_ (i := 21) (N := some 26) (v := ?_) (a' := ?_) tahu rfl rfl (zbz HT_.out HW_.out (by kernel_rfl)) (fun _ _ _ h => h) (Or.inl ⟨by rfl, ?_⟩) hHeld ?_ ?_
             rotate_left
             · rintro w' ⟨s0, s1, s2, s3, s4⟩
               go_simp; with_reducible rfl
             rotate_left
             · simp only [Act.put, zaa, zab, zac, zbw, zbx]
               rfl
             refine take_ (i := 23) (N := some 28) (v := ?_) (a' := ?_) tahv rfl rfl (zbz HT_.out HW_.out (by kernel_rfl)) (fun _ _ _ h => h) (Or.inl ⟨by rfl, ?_⟩) hHeld ?_ ?_
             rotate_left
             · rintro w' ⟨s0, s1, s2, s3, s4⟩
               go_simp; with_reducible rfl
             rotate_left
             · simp only [Act.put, zaa, zab, zac, zbw, zbx]
               rfl
             refine pure_ (i := 24) (N := some 29) (v := ?_) (a' := ?_) tahw rfl rfl (zby HT_.out (by kernel_rfl)) (fun _ _ _ h => h) (Or.inl ⟨by rfl, ?_⟩) ?_ ?_
             rotate_left
             · intro w'
               go_simp; with_reducible rfl
             rotate_left
             · simp only [Act.put, zaa, zab, zac, zbw, zbx]
               rfl
             refine pure_ (i := 25) (N := some 30) (v := ?_) (a' := ?_) tahx rfl rfl (zby HT_.out (by kernel_rfl)) (fun _ _ _ h => h) (Or.inl ⟨by rfl, ?_⟩) ?_ ?_
             rotate_left
             · intro w'
               go_simp; with_reducible rfl
             rotate_left
             · simp only [Act.put, zaa, zab, zac, zbw, zbx]
               rfl
             refine pure_ (i := 26) (N := some 31) (v := ?_) (a' := ?_) tahy rfl rfl (zby HT_.out (by kernel_rfl)) (fun _ _ _ h => h) (Or.inl ⟨by rfl, ?_⟩) ?_ ?_
             rotate_left
             · intro w'
               go_simp; with_reducible rfl
             rotate_left
             · simp only [Act.put, zaa, zab, zac, zbw, zbx]
               rfl
             refine pure_ (i := 27) (N := some 4) (v := ?_) (a' := ?_) tahz rfl rfl (zby HT_.out (by kernel_rfl)) (fun _ _ _ h => h) (Or.inl ⟨by rfl, ?_⟩) ?_ ?_
             rotate_left
             · intro w'
               go_simp; with_reducible rfl
             rotate_left
             · simp only [Act.put, zaa, zab, zac, zbw, zbx]
               rfl
             refine done_ (done_of HT_.out (by kernel_rfl)) ?_
             try go_wp2
             go_ret
             exact ⟨taah, tabs⟩
           · rw [if_neg c9] at H
             exact absurd H (taac)
         · rw [if_neg c8] at H
           exact absurd H (taac)
       · rw [if_neg c7] at H
         exact absurd H (taac)
     · rw [if_neg c6] at H
       exact absurd H (taac)
   · rw [if_neg c5] at H
     have c5b0 : decide (a1_2 ≤ 60) = false := zbh c5
     clear c5; obtain rfl := zbc H
     go_enter Try.func99, Try.ntmps99
     try go_wp2_with (first | ((with_reducible refine gate_dst (N := 3) rfl ?_); refine box_event ?hg (N := 3) ?hd (cs := #[.int .i64 a1_0, .int .i64 a1_1, .int .i64 a1_2]) (t := 39) ?hr ?_; (case hd => rfl); (case hg => rfl); (case hr => first | (go_simp; done) | (go_simp; rfl)); intro gb489 hg w13 hbox hb; have n0_ := zad (zbe (taaa) hb); have n1_ := zad (hbox); have n2_ := zad ((taee : w.heap.size ≤ gb489)); have n3_ := zad ((taee : w.heap.size ≤ gb489)); clear HB; have HB := n0_; have BK489 := n1_; have GW489 := n2_; have GE489 := n3_; clear n0_ n1_ n2_ n3_ hb hbox hg))
     have n0_ := zad (blk_drew BK489.out)
     have n1_ := zad (zaf HB.out)
     clear BK489 HB; have BK489 := n0_; have HB := n1_; clear n0_ n1_; refine start_ (n := 28) (S := fun w' => w'.cell? ⟨gb489, 0, none⟩ = some (.int .i64 a1_0) ∧ w'.cell? ⟨gb489, 1, none⟩ = some (.int .i64 a1_1) ∧ w'.cell? ⟨gb489, 2, none⟩ = some (.int .i64 a1_2)) (ds := []) #[false, false, false, false, false, false, false, false, false, false, false, false, false, false, false, false, false, false, false, false, false, false, false, false, false, false, false, false] (by kernel_rfl) rfl rfl ⟨(zbi BK489.out 0).trans rfl, (zbi BK489.out 1).trans rfl, (zbi BK489.out 2).trans rfl⟩ (fun hHeld => ?_); refine with_tabW spec_giKind.tab1 spec_giKind.bits1 (fun HT_ HW_ => ?_)
     generalize w13.drew = w14 at BK489 HB hHeld ⊢
     refine pure_ (i := 0) (N := some 5) (v := ?_) (a' := ?_) tahk rfl rfl (zby HT_.out (by kernel_rfl)) (fun _ _ _ h => h) (Or.inl ⟨by rfl, ?_⟩) ?_ ?_
     rotate_left
     · intro w'
       go_simp; with_reducible rfl
     rotate_left
     · simp only [Act.put, zaa, zab, zac, zbw, zbx]
       rfl
     refine take_ (i := 1) (N := some 6) (v := ?_) (a' := ?_) tahl rfl rfl (zbz HT_.out HW_.out (by kernel_rfl)) (fun _ _ _ h => h) (Or.inl ⟨by rfl, ?_⟩) hHeld ?_ ?_
     rotate_left
     · rintro w' ⟨s0, s1, s2⟩
       go_simp; with_reducible rfl
     rotate_left
     · simp only [Act.put, zaa, zab, zac, zbw, zbx]
       rfl
     refine one_ (i := 2) (N := some 7) #[true, true, true, false, false, false, false, false, false, false, false, false, false, false, false, false, false, false, false, false, false, false, false, false, false, false, false, false] rfl rfl (one_of HT_.out (by kernel_rfl)) (by decide) (fun K hK => ?_)
     refine goes_ Try.func103 (by kernel_rfl) rfl #[.slice A0 l0.length c0, .agg #[.int .i64 a1_0, .int .i64 a1_1, .int .i64 a1_2]] (by rfl) rfl rfl (taad) ?_
     with_reducible refine (spec_giIs.calls _ _ l0 a1_0 a1_1 a1_2 true _ ?side1 ?side2 A3.out).mono ?_
     (case side1 => exact taev)
     (case side2 => exact HC0.out)
     rintro e w15 ⟨rfl, hb⟩
     refine ⟨_, rfl, ?_⟩
     have n0_ := zad (blk_below (g := gb489) (o := .cells #[.int .i64 a1_0, .int .i64 a1_1, .int .i64 a1_2] 39 (0, 0)) (tadg) hb)
     have n1_ := zad (zbe (tabs) hb)
     clear BK489 HB; have BK489 := n0_; have HB := n1_; clear n0_ n1_; (try clear hb); (try clear hb2); (try clear hk); (try clear hi); refine hK.out _ _ ⟨(zbi BK489.out 0).trans rfl, (zbi BK489.out 1).trans rfl, (zbi BK489.out 2).trans rfl⟩ (fun hHeld => ?_)
     clear hK K; refine norm_ (a' := ?_) ?_ ?_
     rotate_left
     · show Act.put _ (some 7) _ = _
       simp only [Act.put, zaa, zab, zac, zbw, zbx]
       rfl
     refine pure_ (i := 3) (N := some 8) (v := ?_) (a' := ?_) tahm rfl rfl (zby HT_.out (by kernel_rfl)) (fun _ _ _ h => h) (Or.inl ⟨by rfl, ?_⟩) ?_ ?_
     rotate_left
     · intro w'
       go_simp; with_reducible rfl
     rotate_left
     · simp only [Act.put, zaa, zab, zac, zbw, zbx]
       rfl
     refine pure_ (i := 4) (N := some 9) (v := ?_) (a' := ?_) tahn rfl rfl (zby HT_.out (by kernel_rfl)) (fun _ _ _ h => h) (Or.inl ⟨by rfl, ?_⟩) ?_ ?_
     rotate_left
     · intro w'
       go_simp; with_reducible rfl
     rotate_left
     · simp only [Act.put, zaa, zab, zac, zbw, zbx]
       rfl
     refine take_ (i := 5) (N := some 10) (v := ?_) (a' := ?_) taho rfl rfl (zbz HT_.out HW_.out (by kernel_rfl)) (fun _ _ _ h => h) (Or.inl ⟨by rfl, ?_⟩) hHeld ?_ ?_
     rotate_left
     · rintro w' ⟨s0, s1, s2⟩
       go_simp; with_reducible rfl
     rotate_left
     · simp only [Act.put, zaa, zab, zac, zbw, zbx]
       rfl
     refine pure_ (i := 6) (N := some 11) (v := ?_) (a' := ?_) tahp rfl rfl (zby HT_.out (by kernel_rfl)) (fun _ _ _ h => h) (Or.inl ⟨by rfl, ?_⟩) ?_ ?_
     rotate_left
     · intro w'
       go_simp; with_reducible rfl
     rotate_left
     · simp only [Act.put, zaa, zab, zac, zbw, zbx]
       rfl
     refine pure_ (i := 7) (N := some 12) (v := ?_) (a' := ?_) tahq rfl rfl (zby HT_.out (by kernel_rfl)) (fun _ _ _ h => h) (Or.inl ⟨by rfl, ?_⟩) ?_ ?_
     rotate_left
     · intro w'
       go_simp; with_reducible rfl
     rotate_left
     · simp only [Act.put, zaa, zab, zac, zbw, zbx]
       rfl
     refine pure_ (i := 8) (N := some 13) (v := ?_) (a' := ?_) tahr rfl rfl (zby HT_.out (by kernel_rfl)) (fun _ _ _ h => h) (Or.inl ⟨by rfl, ?_⟩) ?_ ?_
     rotate_left
     · intro w'
       go_simp; with_reducible rfl
     rotate_left
     · simp only [Act.put, zaa, zab, zac, zbw, zbx]
       rfl
     refine pure_ (i := 9) (N := some 14) (v := undef) (a' := ?_) tahs rfl rfl (zby HT_.out (by kernel_rfl)) (fun _ _ _ h => h) (Or.inr ⟨by rfl, rfl⟩) ?_ ?_
     rotate_left
     · simp only [Act.put, zaa, zab, zac, zbw, zbx]
       rfl
     refine pure_ (i := 10) (N := some 15) (v := undef) (a' := ?_) taht rfl rfl (zby HT_.out (by kernel_rfl)) (fun _ _ _ h => h) (Or.inr ⟨by rfl, rfl⟩) ?_ ?_
     rotate_left
     · simp only [Act.put, zaa, zab, zac, zbw, zbx]
       rfl
     refine pure_ (i := 11) (N := some 16) (v := undef) (a' := ?_) taia rfl rfl (zby HT_.out (by kernel_rfl)) (fun _ _ _ h => h) (Or.inr ⟨by rfl, rfl⟩) ?_ ?_
     rotate_left
     · simp only [Act.put, zaa, zab, zac, zbw, zbx]
       rfl
     refine pure_ (i := 12) (N := some 17) (v := undef) (a' := ?_) taib rfl rfl (zby HT_.out (by kernel_rfl)) (fun _ _ _ h => h) (Or.inr ⟨by rfl, rfl⟩) ?_ ?_
     rotate_left
     · simp only [Act.put, zaa, zab, zac, zbw, zbx]
       rfl
     refine pure_ (i := 13) (N := some 18) (v := undef) (a' := ?_) taic rfl rfl (zby HT_.out (by kernel_rfl)) (fun _ _ _ h => h) (Or.inr ⟨by rfl, rfl⟩) ?_ ?_
     rotate_left
     · simp only [Act.put, zaa, zab, zac, zbw, zbx]
       rfl
     refine pure_ (i := 14) (N := some 19) (v := undef) (a' := ?_) taid rfl rfl (zby HT_.out (by kernel_rfl)) (fun _ _ _ h => h) (Or.inr ⟨by rfl, rfl⟩) ?_ ?_
     rotate_left
     · simp only [Act.put, zaa, zab, zac, zbw, zbx]
       rfl
     refine pure_ (i := 15) (N := some 20) (v := undef) (a' := ?_) taie rfl rfl (zby HT_.out (by kernel_rfl)) (fun _ _ _ h => h) (Or.inr ⟨by rfl, rfl⟩) ?_ ?_
     rotate_left
     · simp only [Act.put, zaa, zab, zac, zbw, zbx]
       rfl
     refine pure_ (i := 16) (N := some 21) (v := undef) (a' := ?_) taif rfl rfl (zby HT_.out (by kernel_rfl)) (fun _ _ _ h => h) (Or.inr ⟨by rfl, rfl⟩) ?_ ?_
     rotate_left
     · simp only [Act.put, zaa, zab, zac, zbw, zbx]
       rfl
     refine pure_ (i := 17) (N := some 22) (v := undef) (a' := ?_) taig rfl rfl (zby HT_.out (by kernel_rfl)) (fun _ _ _ h => h) (Or.inr ⟨by rfl, rfl⟩) ?_ ?_
     rotate_left
     · simp only [Act.put, zaa, zab, zac, zbw, zbx]
       rfl
     refine pure_ (i := 18) (N := some 23) (v := undef) (a' := ?_) taih rfl rfl (zby HT_.out (by kernel_rfl)) (fun _ _ _ h => h) (Or.inr ⟨by rfl, rfl⟩) ?_ ?_
     rotate_left
     · simp only [Act.put, zaa, zab, zac, zbw, zbx]
       rfl
     refine pure_ (i := 19) (N := some 24) (v := undef) (a' := ?_) taii rfl rfl (zby HT_.out (by kernel_rfl)) (fun _ _ _ h => h) (Or.inr ⟨by rfl, rfl⟩) ?_ ?_
     rotate_left
     · simp only [Act.put, zaa, zab, zac, zbw, zbx]
       rfl
     refine pure_ (i := 20) (N := some 25) (v := undef) (a' := ?_) taij rfl rfl (zby HT_.out (by kernel_rfl)) (fun _ _ _ h => h) (Or.inr ⟨by rfl, rfl⟩) ?_ ?_
     rotate_left
     · simp only [Act.put, zaa, zab, zac, zbw, zbx]
       rfl
     refine pure_ (i := 21) (N := some 26) (v := undef) (a' := ?_) taik rfl rfl (zby HT_.out (by kernel_rfl)) (fun _ _ _ h => h) (Or.inr ⟨by rfl, rfl⟩) ?_ ?_
     rotate_left
     · simp only [Act.put, zaa, zab, zac, zbw, zbx]
       rfl
     refine pure_ (i := 22) (N := some 27) (v := undef) (a' := ?_) tahu rfl rfl (zby HT_.out (by kernel_rfl)) (fun _ _ _ h => h) (Or.inr ⟨by rfl, rfl⟩) ?_ ?_
     rotate_left
     · simp only [Act.put, zaa, zab, zac, zbw, zbx]
       rfl
     refine pure_ (i := 23) (N := some 28) (v := undef) (a' := ?_) tahv rfl rfl (zby HT_.out (by kernel_rfl)) (fun _ _ _ h => h) (Or.inr ⟨by rfl, rfl⟩) ?_ ?_
     rotate_left
     · simp only [Act.put, zaa, zab, zac, zbw, zbx]
       rfl
     refine pure_ (i := 24) (N := some 29) (v := undef) (a' := ?_) tahw rfl rfl (zby HT_.out (by kernel_rfl)) (fun _ _ _ h => h) (Or.inr ⟨by rfl, rfl⟩) ?_ ?_
     rotate_left
     · simp only [Act.put, zaa, zab, zac, zbw, zbx]
       rfl
     refine pure_ (i := 25) (N := some 30) (v := undef) (a' := ?_) tahx rfl rfl (zby HT_.out (by kernel_rfl)) (fun _ _ _ h => h) (Or.inr ⟨by rfl, rfl⟩) ?_ ?_
     rotate_left
     · simp only [Act.put, zaa, zab, zac, zbw, zbx]
       rfl
     refine pure_ (i := 26) (N := some 31) (v := ?_) (a' := ?_) tahy rfl rfl (zby HT_.out (by kernel_rfl)) (fun _ _ _ h => h) (Or.inl ⟨by rfl, ?_⟩) ?_ ?_
     rotate_left
     · intro w'
       go_simp; with_reducible rfl
     rotate_left
     · simp only [Act.put, zaa, zab, zac, zbw, zbx]
       rfl
     refine pure_ (i := 27) (N := some 4) (v := ?_) (a' := ?_) tahz rfl rfl (zby HT_.out (by kernel_rfl)) (fun _ _ _ h => h) (Or.inl ⟨by rfl, ?_⟩) ?_ ?_
     rotate_left
     · intro w'
       go_simp; with_reducible rfl
     rotate_left
     · simp only [Act.put, zaa, zab, zac, zbw, zbx]
       rfl
     refine done_ (done_of HT_.out (by kernel_rfl)) ?_
     try go_wp2
     go_ret
     exact ⟨taah, tabs⟩
 · replace c4 := zbg.mpr c4
   subst c4; have H1 : (some false) = some r := by rw [if_neg (show ¬ (false = true) by decide)] at H; exact H
   clear H; have H := H1; clear H1; obtain rfl := zbc H
   go_enter Try.func99, Try.ntmps99
   try go_wp2_with (first | ((with_reducible refine gate_dst (N := 3) rfl ?_); refine box_event ?hg (N := 3) ?hd (cs := #[.int .i64 a1_0, .int .i64 a1_1, .int .i64 a1_2]) (t := 39) ?hr ?_; (case hd => rfl); (case hg => rfl); (case hr => first | (go_simp; done) | (go_simp; rfl)); intro gb489 hg w16 hbox hb; have n0_ := zad (zbe (taaa) hb); have n1_ := zad (hbox); have n2_ := zad ((taee : w.heap.size ≤ gb489)); have n3_ := zad ((taee : w.heap.size ≤ gb489)); clear HB; have HB := n0_; have BK489 := n1_; have GW489 := n2_; have GE489 := n3_; clear n0_ n1_ n2_ n3_ hb hbox hg))
   have n0_ := zad (blk_drew BK489.out)
   have n1_ := zad (zaf HB.out)
   clear BK489 HB; have BK489 := n0_; have HB := n1_; clear n0_ n1_; refine start_ (n := 28) (S := fun w' => w'.cell? ⟨gb489, 0, none⟩ = some (.int .i64 a1_0) ∧ w'.cell? ⟨gb489, 1, none⟩ = some (.int .i64 a1_1) ∧ w'.cell? ⟨gb489, 2, none⟩ = some (.int .i64 a1_2)) (ds := []) #[false, false, false, false, false, false, false, false, false, false, false, false, false, false, false, false, false, false, false, false, false, false, false, false, false, false, false, false] (by kernel_rfl) rfl rfl ⟨(zbi BK489.out 0).trans rfl, (zbi BK489.out 1).trans rfl, (zbi BK489.out 2).trans rfl⟩ (fun hHeld => ?_); refine with_tabW spec_giKind.tab1 spec_giKind.bits1 (fun HT_ HW_ => ?_)
   generalize w16.drew = w17 at BK489 HB hHeld ⊢
   refine pure_ (i := 0) (N := some 5) (v := ?_) (a' := ?_) tahk rfl rfl (zby HT_.out (by kernel_rfl)) (fun _ _ _ h => h) (Or.inl ⟨by rfl, ?_⟩) ?_ ?_
   rotate_left
   · intro w'
     go_simp; with_reducible rfl
   rotate_left
   · simp only [Act.put, zaa, zab, zac, zbw, zbx]
     rfl
   refine take_ (i := 1) (N := some 6) (v := ?_) (a' := ?_) tahl rfl rfl (zbz HT_.out HW_.out (by kernel_rfl)) (fun _ _ _ h => h) (Or.inl ⟨by rfl, ?_⟩) hHeld ?_ ?_
   rotate_left
   · rintro w' ⟨s0, s1, s2⟩
     go_simp; with_reducible rfl
   rotate_left
   · simp only [Act.put, zaa, zab, zac, zbw, zbx]
     rfl
   refine one_ (i := 2) (N := some 7) #[true, true, true, false, false, false, false, false, false, false, false, false, false, false, false, false, false, false, false, false, false, false, false, false, false, false, false, false] rfl rfl (one_of HT_.out (by kernel_rfl)) (by decide) (fun K hK => ?_)
   refine goes_ Try.func103 (by kernel_rfl) rfl #[.slice A0 l0.length c0, .agg #[.int .i64 a1_0, .int .i64 a1_1, .int .i64 a1_2]] (by rfl) rfl rfl (taad) ?_
   with_reducible refine (spec_giIs.calls _ _ l0 a1_0 a1_1 a1_2 false _ ?side1 ?side2 A3.out).mono ?_
   (case side1 => exact taev)
   (case side2 => exact HC0.out)
   rintro e w18 ⟨rfl, hb⟩
   refine ⟨_, rfl, ?_⟩
   have n0_ := zad (blk_below (g := gb489) (o := .cells #[.int .i64 a1_0, .int .i64 a1_1, .int .i64 a1_2] 39 (0, 0)) (tadg) hb)
   have n1_ := zad (zbe (tabs) hb)
   clear BK489 HB; have BK489 := n0_; have HB := n1_; clear n0_ n1_; (try clear hb); (try clear hb2); (try clear hk); (try clear hi); refine hK.out _ _ ⟨(zbi BK489.out 0).trans rfl, (zbi BK489.out 1).trans rfl, (zbi BK489.out 2).trans rfl⟩ (fun hHeld => ?_)
   clear hK K; refine norm_ (a' := ?_) ?_ ?_
   rotate_left
   · show Act.put _ (some 7) _ = _
     simp only [Act.put, zaa, zab, zac, zbw, zbx]
     rfl
   refine pure_ (i := 3) (N := some 8) (v := ?_) (a' := ?_) tahm rfl rfl (zby HT_.out (by kernel_rfl)) (fun _ _ _ h => h) (Or.inl ⟨by rfl, ?_⟩) ?_ ?_
   rotate_left
   · intro w'
     go_simp; with_reducible rfl
   rotate_left
   · simp only [Act.put, zaa, zab, zac, zbw, zbx]
     rfl
   refine pure_ (i := 4) (N := some 9) (v := undef) (a' := ?_) tahn rfl rfl (zby HT_.out (by kernel_rfl)) (fun _ _ _ h => h) (Or.inr ⟨by rfl, rfl⟩) ?_ ?_
   rotate_left
   · simp only [Act.put, zaa, zab, zac, zbw, zbx]
     rfl
   refine pure_ (i := 5) (N := some 10) (v := undef) (a' := ?_) taho rfl rfl (zby HT_.out (by kernel_rfl)) (fun _ _ _ h => h) (Or.inr ⟨by rfl, rfl⟩) ?_ ?_
   rotate_left
   · simp only [Act.put, zaa, zab, zac, zbw, zbx]
     rfl
   refine pure_ (i := 6) (N := some 11) (v := undef) (a' := ?_) tahp rfl rfl (zby HT_.out (by kernel_rfl)) (fun _ _ _ h => h) (Or.inr ⟨by rfl, rfl⟩) ?_ ?_
   rotate_left
   · simp only [Act.put, zaa, zab, zac, zbw, zbx]
     rfl
   refine pure_ (i := 7) (N := some 12) (v := ?_) (a' := ?_) tahq rfl rfl (zby HT_.out (by kernel_rfl)) (fun _ _ _ h => h) (Or.inl ⟨by rfl, ?_⟩) ?_ ?_
   rotate_left
   · intro w'
     go_simp; with_reducible rfl
   rotate_left
   · simp only [Act.put, zaa, zab, zac, zbw, zbx]
     rfl
   refine pure_ (i := 8) (N := some 13) (v := ?_) (a' := ?_) tahr rfl rfl (zby HT_.out (by kernel_rfl)) (fun _ _ _ h => h) (Or.inl ⟨by rfl, ?_⟩) ?_ ?_
   rotate_left
   · intro w'
     go_simp; with_reducible rfl
   rotate_left
   · simp only [Act.put, zaa, zab, zac, zbw, zbx]
     rfl
   refine pure_ (i := 9) (N := some 14) (v := undef) (a' := ?_) tahs rfl rfl (zby HT_.out (by kernel_rfl)) (fun _ _ _ h => h) (Or.inr ⟨by rfl, rfl⟩) ?_ ?_
   rotate_left
   · simp only [Act.put, zaa, zab, zac, zbw, zbx]
     rfl
   refine pure_ (i := 10) (N := some 15) (v := undef) (a' := ?_) taht rfl rfl (zby HT_.out (by kernel_rfl)) (fun _ _ _ h => h) (Or.inr ⟨by rfl, rfl⟩) ?_ ?_
   rotate_left
   · simp only [Act.put, zaa, zab, zac, zbw, zbx]
     rfl
   refine pure_ (i := 11) (N := some 16) (v := undef) (a' := ?_) taia rfl rfl (zby HT_.out (by kernel_rfl)) (fun _ _ _ h => h) (Or.inr ⟨by rfl, rfl⟩) ?_ ?_
   rotate_left
   · simp only [Act.put, zaa, zab, zac, zbw, zbx]
     rfl
   refine pure_ (i := 12) (N := some 17) (v := undef) (a' := ?_) taib rfl rfl (zby HT_.out (by kernel_rfl)) (fun _ _ _ h => h) (Or.inr ⟨by rfl, rfl⟩) ?_ ?_
   rotate_left
   · simp only [Act.put, zaa, zab, zac, zbw, zbx]
     rfl
   refine pure_ (i := 13) (N := some 18) (v := undef) (a' := ?_) taic rfl rfl (zby HT_.out (by kernel_rfl)) (fun _ _ _ h => h) (Or.inr ⟨by rfl, rfl⟩) ?_ ?_
   rotate_left
   · simp only [Act.put, zaa, zab, zac, zbw, zbx]
     rfl
   refine pure_ (i := 14) (N := some 19) (v := undef) (a' := ?_) taid rfl rfl (zby HT_.out (by kernel_rfl)) (fun _ _ _ h => h) (Or.inr ⟨by rfl, rfl⟩) ?_ ?_
   rotate_left
   · simp only [Act.put, zaa, zab, zac, zbw, zbx]
     rfl
   refine pure_ (i := 15) (N := some 20) (v := undef) (a' := ?_) taie rfl rfl (zby HT_.out (by kernel_rfl)) (fun _ _ _ h => h) (Or.inr ⟨by rfl, rfl⟩) ?_ ?_
   rotate_left
   · simp only [Act.put, zaa, zab, zac, zbw, zbx]
     rfl
   refine pure_ (i := 16) (N := some 21) (v := undef) (a' := ?_) taif rfl rfl (zby HT_.out (by kernel_rfl)) (fun _ _ _ h => h) (Or.inr ⟨by rfl, rfl⟩) ?_ ?_
   rotate_left
   · simp only [Act.put, zaa, zab, zac, zbw, zbx]
     rfl
   refine pure_ (i := 17) (N := some 22) (v := undef) (a' := ?_) taig rfl rfl (zby HT_.out (by kernel_rfl)) (fun _ _ _ h => h) (Or.inr ⟨by rfl, rfl⟩) ?_ ?_
   rotate_left
   · simp only [Act.put, zaa, zab, zac, zbw, zbx]
     rfl
   refine pure_ (i := 18) (N := some 23) (v := undef) (a' := ?_) taih rfl rfl (zby HT_.out (by kernel_rfl)) (fun _ _ _ h => h) (Or.inr ⟨by rfl, rfl⟩) ?_ ?_
   rotate_left
   · simp only [Act.put, zaa, zab, zac, zbw, zbx]
     rfl
   refine pure_ (i := 19) (N := some 24) (v := undef) (a' := ?_) taii rfl rfl (zby HT_.out (by kernel_rfl)) (fun _ _ _ h => h) (Or.inr ⟨by rfl, rfl⟩) ?_ ?_
   rotate_left
   · simp only [Act.put, zaa, zab, zac, zbw, zbx]
     rfl
   refine pure_ (i := 20) (N := some 25) (v := undef) (a' := ?_) taij rfl rfl (zby HT_.out (by kernel_rfl)) (fun _ _ _ h => h) (Or.inr ⟨by rfl, rfl⟩) ?_ ?_
   rotate_left
   · simp only [Act.put, zaa, zab, zac, zbw, zbx]
     rfl
   refine pure_ (i := 21) (N := some 26) (v := undef) (a' := ?_) taik rfl rfl (zby HT_.out (by kernel_rfl)) (fun _ _ _ h => h) (Or.inr ⟨by rfl, rfl⟩) ?_ ?_
   rotate_left
   · simp only [Act.put, zaa, zab, zac, zbw, zbx]
     rfl
   refine pure_ (i := 22) (N := some 27) (v := undef) (a' := ?_) tahu rfl rfl (zby HT_.out (by kernel_rfl)) (fun _ _ _ h => h) (Or.inr ⟨by rfl, rfl⟩) ?_ ?_
   rotate_left
   · simp only [Act.put, zaa, zab, zac, zbw, zbx]
     rfl
   refine pure_ (i := 23) (N := some 28) (v := undef) (a' := ?_) tahv rfl rfl (zby HT_.out (by kernel_rfl)) (fun _ _ _ h => h) (Or.inr ⟨by rfl, rfl⟩) ?_ ?_
   rotate_left
   · simp only [Act.put, zaa, zab, zac, zbw, zbx]
     rfl
   refine pure_ (i := 24) (N := some 29) (v := undef) (a' := ?_) tahw rfl rfl (zby HT_.out (by kernel_rfl)) (fun _ _ _ h => h) (Or.inr ⟨by rfl, rfl⟩) ?_ ?_
   rotate_left
   · simp only [Act.put, zaa, zab, zac, zbw, zbx]
     rfl
   refine pure_ (i := 25) (N := some 30) (v := undef) (a' := ?_) tahx rfl rfl (zby HT_.out (by kernel_rfl)) (fun _ _ _ h => h) (Or.inr ⟨by rfl, rfl⟩) ?_ ?_
   rotate_left
   · simp only [Act.put, zaa, zab, zac, zbw, zbx]
     rfl
   refine pure_ (i := 26) (N := some 31) (v := ?_) (a' := ?_) tahy rfl rfl (zby HT_.out (by kernel_rfl)) (fun _ _ _ h => h) (Or.inl ⟨by rfl, ?_⟩) ?_ ?_
   rotate_left
   · intro w'
     go_simp; with_reducible rfl
   rotate_left
   · simp only [Act.put, zaa, zab, zac, zbw, zbx]
     rfl
   refine pure_ (i := 27) (N := some 4) (v := ?_) (a' := ?_) tahz rfl rfl (zby HT_.out (by kernel_rfl)) (fun _ _ _ h => h) (Or.inl ⟨by rfl, ?_⟩) ?_ ?_
   rotate_left
   · intro w'
     go_simp; with_reducible rfl
   rotate_left
   · simp only [Act.put, zaa, zab, zac, zbw, zbx]
     rfl
   refine done_ (done_of HT_.out (by kernel_rfl)) ?_
   try go_wp2
   go_ret
   exact ⟨taah, tabs⟩
theorem w64 {x : Int} (h1 : -9223372036854775808 ≤ x) (h2 : x ≤ 9223372036854775807) : wrap64 x = x := by
 unfold wrap64
 omega
theorem wsucc {i : Nat} {n : Nat} (h : i < n) (hn : n ≤ 9223372036854775807) : wrap64 ((i : Int) + 1) = ((i + 1 : Nat) : Int) := by
 rw [w64 (by omega) (by omega)]
 omega
theorem rdn {xs : List Int} {i : Nat} (h : i < xs.length) : rd xs (i : Int) = xs[i] := by
 simp [rd, h]
theorem Ev.succ {α : Type} {g : Nat → Option α} {r : α} (h : Ev (fun k => g (k + 1)) r) : Ev g r := Ev.step (fun _ => rfl) h
theorem Ev.get {α : Type} {g : Nat → Option α} {r : α} (h : Ev g r) : ∃ k, g k = some r := Ev.rounds h
theorem Ev.ite {α : Type} {c : Prop} [Decidable c] {g f : Nat → Option α} {r s : α} (h : c → Ev g r) (h' : ¬ c → Ev f s) : Ev (fun k => if c then g k else f k) (if c then r else s) := by
 by_cases hc : c
 · simp only [hc, if_true]
   exact h hc
 · simp only [hc, if_false]
   exact h' hc
theorem ev_all {xs : List Int} {g : Nat → Int → Option Bool} (p : Int → Bool) (hend : Ev (fun k => g k (xs.length : Int)) true)
 (hyes : ∀ (i : Nat) (h : i < xs.length) r, p xs[i] = true → Ev (fun k => g k ((i + 1 : Nat) : Int)) r → Ev (fun k => g k (i : Int)) r)
 (hno : ∀ (i : Nat) (h : i < xs.length), p xs[i] = false → Ev (fun k => g k (i : Int)) false) :
 ∀ (n i : Nat), i + n = xs.length → Ev (fun k => g k (i : Int)) ((xs.drop i).all p)
 | 0, i, h => by
  rw [List.drop_eq_nil_of_le (by omega), show i = xs.length by omega]
  exact hend
 | n + 1, i, h => by
  have hi : i < xs.length := by omega
  rw [List.drop_eq_getElem_cons hi, List.all_cons]
  cases hp : p xs[i]
  · exact hno i hi hp
  · rw [Bool.true_and]
    exact hyes i hi _ hp (ev_all p hend hyes hno n (i + 1) (by omega))
theorem ev_fold {σ ρ : Type} {xs : List Int} {g : Nat → σ → Int → Option ρ} (step : σ → Int → σ) (I : σ → Nat → Prop) (fin : σ → ρ)
 (hend : ∀ s, I s xs.length → Ev (fun k => g k s (xs.length : Int)) (fin s))
 (hstep : ∀ (i : Nat) (h : i < xs.length) s r, I s i → I (step s xs[i]) (i + 1) → Ev (fun k => g k (step s xs[i]) ((i + 1 : Nat) : Int)) r → Ev (fun k => g k s (i : Int)) r)
 (hI : ∀ (i : Nat) (h : i < xs.length) s, I s i → I (step s xs[i]) (i + 1)) :
 ∀ (n i : Nat) (s : σ), i + n = xs.length → I s i → Ev (fun k => g k s (i : Int)) (fin ((xs.drop i).foldl step s))
 | 0, i, s, h, hs => by
  have e : i = xs.length := by omega
  subst e; rw [List.drop_eq_nil_of_le (by omega)]
  exact hend s hs
 | n + 1, i, s, h, hs => by
  have hi : i < xs.length := by omega
  rw [List.drop_eq_getElem_cons hi, List.foldl_cons]
  exact hstep i hi s _ hs (hI i hi s hs) (ev_fold step I fin hend hstep hI n (i + 1) _ (by omega) (hI i hi s hs))
def big (n : Nat) : Prop := n ≤ 9223372036854775807
theorem rdi {xs : List Int} {i : Int} (h0 : 0 ≤ i) (h1 : i < xs.length) : rd xs i = xs[i.toNat]'(by omega) := by
 unfold rd
 rw [List.getD_eq_getElem?_getD, List.getElem?_eq_getElem (by omega)]
 rfl
def spec_l1All.l0 : Nat → Int → Int → List Int → Int → Int → Option (Bool)
 | 0, _, _, _, _, _ => none
 | k + 1, x1, x2, x9, x10, x11 => if x11 < x10 then (if 0 ≤ x11 then (if x11 < (x9.length : Int) then ((spec_l1In.f (rd x9 x11) x1 x2).bind fun t366 => (if t366 = true then (spec_l1All.l0 k x1 x2 x9 x10 (wrap64 (x11 + 1))) else (some false))) else (none)) else (none)) else (some true)
def spec_l1All.f (k : Nat) (l0 : List Int) (a1 : Int) (a2 : Int) : Option (Bool) := spec_l1All.l0 k a1 a2 l0 (l0.length : Int) 0
theorem spec_l1All.calls (k : Nat) (A0 : Option Addr) (c0 : Nat) (l0 : List Int) (a1 : Int) (a2 : Int) (r : Bool) (w : World) (hr0 : Kd.C (Kd.int .i64) w A0 l0.length l0) (hc0 : l0.length ≤ c0) (h : spec_l1All.f k l0 a1 a2 = some r) :
 Calls Try.prog 95 #[.slice A0 l0.length c0, .int .i64 a1, .int .i64 a2] w fun e w' => e = .returned (.bool r) ∧ Drawn0 w w' := by
 have HR0 := zad hr0; have HC0 := zad hc0; clear hr0 hc0; have H : (spec_l1All.l0 k a1 a2 l0 (l0.length : Int) 0) = some r := h
 clear h; have H' := zad H
 clear H; go_enter Try.func95, Try.ntmps95
 go_wp2
 go_loopg [11] k (fun kq v11 w' => ∃ (x11_1 : Int), v11 = .int .i64 x11_1 ∧ Aside0 (spec_l1All.l0 kq a1 a2 l0 (l0.length : Int) x11_1 = some r) ∧ Aside0 (kq ≤ k) ∧ Drawn0 w w')
 case atStart => exact ⟨(0), (taag), H', ⟨zcf _⟩, taak⟩
 case round =>
  clear H'
  try clear p2
  obtain ⟨x11_1, rfl, HA, HK1, ⟨m1, rfl⟩⟩ := hrel
  cases gk with
  | zero => exact absurd HA.out (by simp [spec_l1All.l0])
  | succ k1 =>
   have H := HA.out
   clear HA; simp only [spec_l1All.l0] at H
   by_cases c4 : x11_1 < (l0.length : Int)
   · rw [if_pos c4] at H
     have c4b0 : decide (x11_1 < (l0.length : Int)) = true := zba c4
     clear c4; by_cases c5 : 0 ≤ x11_1
     · rw [if_pos c5] at H
       have c5b0 : decide (0 ≤ x11_1) = true := zba c5
       clear c5; by_cases c6 : x11_1 < (l0.length : Int)
       · rw [if_pos c6] at H
         have c6b0 : decide (x11_1 < (l0.length : Int)) = true := zba c6
         clear c6; replace H := zay.mp H; obtain ⟨t366, A70, H⟩ := H
         replace H : (if t366 = true then (spec_l1All.l0 k1 a1 a2 l0 (l0.length : Int) (wrap64 (x11_1 + 1))) else (some false)) = some r := H
         have A7 := zad A70; clear A70; by_cases c8 : t366 = true
         · subst c8
           have H1 : (spec_l1All.l0 k1 a1 a2 l0 (l0.length : Int) (wrap64 (x11_1 + 1))) = some r := by rw [if_pos rfl] at H; exact H
           clear H; have H := H1; clear H1; have H' := zad H
           clear H; have p365 : 0 ≤ (x11_1 : Int) := zas (taab)
           have q365 : x11_1 < (l0.length : Int) := zas (taab)
           obtain ⟨ad365, e365, hx365_0⟩ := zca HR0.out x11_1 p365 q365
           cases e365
           replace p365 := eq_true p365
           replace q365 := eq_true q365
           go_wp2_with (first | ((with_reducible refine zbf (f := 85) rfl ?_); refine zbn (some 18) rfl rfl Try.func85 (by kernel_rfl) rfl #[.int .i64 (rd l0 x11_1), .int .i64 a1, .int .i64 a2] rfl (taad) ?_; (with_reducible refine (spec_l1In.calls (rd l0 x11_1) a1 a2 true _ A7.out).mono ?_); rintro e w' ⟨rfl, ⟨nd, rfl⟩⟩; refine ⟨_, rfl, ?_⟩))
           go_roundg k1
           case measure => have := HK1.out; omega
           case rel => exact ⟨(wrap64 (x11_1 + 1)), (taag), H', ⟨taau⟩, taak⟩
         · replace c8 := zbg.mpr c8
           subst c8; have H1 : (some false) = some r := by rw [if_neg (show ¬ (false = true) by decide)] at H; exact H
           clear H; have H := H1; clear H1; obtain rfl := zbc H
           have p365 : 0 ≤ (x11_1 : Int) := zas (taab)
           have q365 : x11_1 < (l0.length : Int) := zas (taab)
           obtain ⟨ad365, e365, hx365_0⟩ := zca HR0.out x11_1 p365 q365
           cases e365
           replace p365 := eq_true p365
           replace q365 := eq_true q365
           go_wp2_with (first | ((with_reducible refine zbf (f := 85) rfl ?_); refine zbn (some 18) rfl rfl Try.func85 (by kernel_rfl) rfl #[.int .i64 (rd l0 x11_1), .int .i64 a1, .int .i64 a2] rfl (taad) ?_; (with_reducible refine (spec_l1In.calls (rd l0 x11_1) a1 a2 false _ A7.out).mono ?_); rintro e w' ⟨rfl, ⟨nd, rfl⟩⟩; refine ⟨_, rfl, ?_⟩))
           go_ret
           exact ⟨taag, taak⟩
       · rw [if_neg c6] at H
         exact absurd H (taac)
     · rw [if_neg c5] at H
       exact absurd H (taac)
   · rw [if_neg c4] at H
     have c4b0 : decide (x11_1 < (l0.length : Int)) = false := zbh c4
     clear c4; obtain rfl := zbc H
     go_wp2
     go_ret
     exact ⟨taag, taak⟩
def spec_liGood.f (k : Nat) (l0 : List Int) : Option (Bool) := (spec_l1In.f (l0.length : Int) 1 8).bind fun t367 => (if t367 = true then ((spec_l1All.f k l0 0 60).bind fun t368 => (some t368)) else (some false))
theorem spec_liGood.calls (k : Nat) (A0 : Option Addr) (c0 : Nat) (l0 : List Int) (r : Bool) (w : World) (hr0 : Kd.C (Kd.int .i64) w A0 l0.length l0) (hc0 : l0.length ≤ c0) (h : spec_liGood.f k l0 = some r) :
 Calls Try.prog 94 #[.slice A0 l0.length c0] w fun e w' => e = .returned (.bool r) ∧ Drawn0 w w' := by
 have HR0 := zad hr0; have HC0 := zad hc0; clear hr0 hc0; have H : ((spec_l1In.f (l0.length : Int) 1 8).bind fun t367 => (if t367 = true then ((spec_l1All.f k l0 0 60).bind fun t368 => (some t368)) else (some false))) = some r := h
 clear h; replace H := zay.mp H; obtain ⟨t367, A20, H⟩ := H
 replace H : (if t367 = true then ((spec_l1All.f k l0 0 60).bind fun t368 => (some t368)) else (some false)) = some r := H
 have A2 := zad A20; clear A20; by_cases c3 : t367 = true
 · subst c3
   have H1 : ((spec_l1All.f k l0 0 60).bind fun t368 => (some t368)) = some r := by rw [if_pos rfl] at H; exact H
   clear H; have H := H1; clear H1; replace H := zay.mp H; obtain ⟨t368, A40, H⟩ := H
   replace H : (some t368) = some r := H
   have A4 := zad A40; clear A40; obtain rfl := zbc H
   go_enter Try.func94, Try.ntmps94
   go_wp2_with (first | ((with_reducible refine zbf (f := 85) rfl ?_); refine zbn (some 5) rfl rfl Try.func85 (by kernel_rfl) rfl #[.int .i64 (l0.length : Int), .int .i64 1, .int .i64 8] rfl (taad) ?_; (with_reducible refine (spec_l1In.calls (l0.length : Int) 1 8 true _ A2.out).mono ?_); rintro e w' ⟨rfl, ⟨nd, rfl⟩⟩; refine ⟨_, rfl, ?_⟩) | (go_at_call 95; (with_reducible refine (spec_l1All.calls k _ _ l0 0 60 t368 _ ?side1 ?side2 A4.out).mono ?_); (case side1 => repeat (first | exact HR0.out | (with_reducible refine zal ?_ _) | (with_reducible refine zam ?_ _) | (with_reducible refine zan ?_))); (case side2 => exact HC0.out); rintro e w' ⟨rfl, ⟨nd, rfl⟩⟩))
   go_ret
   exact ⟨taag, taak⟩
 · replace c3 := zbg.mpr c3
   subst c3; have H1 : (some false) = some r := by rw [if_neg (show ¬ (false = true) by decide)] at H; exact H
   clear H; have H := H1; clear H1; obtain rfl := zbc H
   go_enter Try.func94, Try.ntmps94
   go_wp2_with (first | ((with_reducible refine zbf (f := 85) rfl ?_); refine zbn (some 5) rfl rfl Try.func85 (by kernel_rfl) rfl #[.int .i64 (l0.length : Int), .int .i64 1, .int .i64 8] rfl (taad) ?_; (with_reducible refine (spec_l1In.calls (l0.length : Int) 1 8 false _ A2.out).mono ?_); rintro e w' ⟨rfl, ⟨nd, rfl⟩⟩; refine ⟨_, rfl, ?_⟩))
   go_ret
   exact ⟨taag, taak⟩
theorem l1In_eq (a b c : Int) : spec_l1In.f a b c = some (decide (b ≤ a ∧ a ≤ c)) := by
 unfold spec_l1In.f
 by_cases h : b ≤ a <;> simp [h]
theorem within_eq (a b c : Int) : impl_within.f a b c = some (decide (b ≤ a ∧ a ≤ c)) := by
 unfold impl_within.f
 by_cases h : b ≤ a <;> simp [h]
def inR (lo hi : Int) (xs : List Int) : Bool := xs.all fun x => decide (lo ≤ x ∧ x ≤ hi)
theorem l1All_ev (xs : List Int) (lo hi : Int) (hx : xs.length ≤ 9223372036854775807) : Ev (fun k => spec_l1All.f k xs lo hi) (inR lo hi xs) := by
 have h := ev_all (xs := xs) (g := fun k i => spec_l1All.l0 k lo hi xs (xs.length : Int) i) (fun x => decide (lo ≤ x ∧ x ≤ hi))
  (Ev.succ (by simp only [spec_l1All.l0, if_neg (Int.lt_irrefl _)]; exact Ev.now _))
  (fun i h r hp hr => Ev.succ (by
   simp only [spec_l1All.l0, if_pos (show (i : Int) < (xs.length : Int) by omega), if_pos (show (0 : Int) ≤ (i : Int) by omega), rdn h, l1In_eq, zbb, hp, if_true, wsucc h hx]
   exact hr))
  (fun i h hp => Ev.succ (by
   simp only [spec_l1All.l0, if_pos (show (i : Int) < (xs.length : Int) by omega), if_pos (show (0 : Int) ≤ (i : Int) by omega), rdn h, l1In_eq, zbb, hp]
   exact Ev.now _)) xs.length 0 (by omega)
 exact h
theorem allWithin_ev (xs : List Int) (lo hi : Int) (hx : xs.length ≤ 9223372036854775807) : Ev (fun k => impl_allWithin.f k xs lo hi) (inR lo hi xs) := by
 have h := ev_all (xs := xs) (g := fun k i => impl_allWithin.l0 k lo hi xs (xs.length : Int) i) (fun x => decide (lo ≤ x ∧ x ≤ hi))
  (Ev.succ (by simp only [impl_allWithin.l0, if_neg (Int.lt_irrefl _)]; exact Ev.now _))
  (fun i h r hp hr => Ev.succ (by
   simp only [impl_allWithin.l0, if_pos (show (i : Int) < (xs.length : Int) by omega), if_pos (show (0 : Int) ≤ (i : Int) by omega), rdn h, within_eq, zbb, hp, if_true, wsucc h hx]
   exact hr))
  (fun i h hp => Ev.succ (by
   simp only [impl_allWithin.l0, if_pos (show (i : Int) < (xs.length : Int) by omega), if_pos (show (0 : Int) ≤ (i : Int) by omega), rdn h, within_eq, zbb, hp]
   exact Ev.now _)) xs.length 0 (by omega)
 exact h
def goodL (xs : List Int) : Bool := if (1 : Int) ≤ xs.length ∧ (xs.length : Int) ≤ 8 then inR 0 60 xs else false
theorem goodL_iff (xs : List Int) : goodL xs = true ↔ 1 ≤ xs.length ∧ xs.length ≤ 8 ∧ ∀ x ∈ xs, 0 ≤ x ∧ x ≤ 60 := by
 unfold goodL inR
 by_cases h : (1 : Int) ≤ xs.length ∧ (xs.length : Int) ≤ 8
 · rw [if_pos h]
   simp only [List.all_eq_true, decide_eq_true_eq]
   exact ⟨fun h' => ⟨by omega, by omega, h'⟩, fun h' => h'.2.2⟩
 · rw [if_neg h]
   constructor
   · intro h'
     cases h'
   · intro h'
     omega
theorem liGood_ev (xs : List Int) (hx : xs.length ≤ 9223372036854775807) : Ev (fun k => spec_liGood.f k xs) (goodL xs) := by
 unfold spec_liGood.f goodL
 simp only [l1In_eq, zbb, decide_eq_true_eq]
 exact Ev.ite (fun _ => Ev.bind (l1All_ev xs 0 60 hx) (Ev.now _)) (fun _ => Ev.now _)
theorem implIsList_ev (xs : List Int) (hx : xs.length ≤ 9223372036854775807) : Ev (fun k => impl_IsList.f k xs) (goodL xs) := by
 unfold impl_IsList.f goodL
 simp only [within_eq, zbb, decide_eq_true_eq]
 exact Ev.ite (fun _ => Ev.bind (allWithin_ev xs 0 60 hx) (Ev.now _)) (fun _ => Ev.now _)
def isG (l : List Int) (f t a : Int) : Bool := decide ((0 ≤ f ∧ f ≤ (l.length : Int) - 1) ∧ (0 ≤ t ∧ t ≤ (l.length : Int) - 1) ∧ f ≠ t ∧ 1 ≤ a)
theorem giIs_eq (l : List Int) (f t a : Int) (hx : l.length ≤ 1048576) : spec_giIs.f l f t a = some (isG l f t a) := by
 unfold spec_giIs.f isG
 simp only [l1In_eq, zbb, w64 (x := (l.length : Int) - 1) (by omega) (by omega)]
 by_cases h1 : 0 ≤ f ∧ f ≤ (l.length : Int) - 1
 · by_cases h2 : 0 ≤ t ∧ t ≤ (l.length : Int) - 1
   · by_cases h3 : f = t
     · simp [h3]
     · by_cases h4 : 1 ≤ a <;> simp [h1, h2, h3, h4]
   · simp only [zba h1, if_true, zbh h2, h2, false_and, and_false, decide_false, zbm, if_false]
 · simp only [zbh h1, h1, false_and, decide_false, zbm, if_false]
theorem isGift_eq (l : List Int) (f t a : Int) (hx : l.length ≤ 1048576) : impl_isGift.f l f t a = some (isG l f t a) := by
 unfold impl_isGift.f isG
 simp only [within_eq, zbb, w64 (x := (l.length : Int) - 1) (by omega) (by omega)]
 by_cases h1 : 0 ≤ f ∧ f ≤ (l.length : Int) - 1
 · by_cases h2 : 0 ≤ t ∧ t ≤ (l.length : Int) - 1
   · by_cases h3 : f = t
     · simp [h3]
     · by_cases h4 : 1 ≤ a <;> simp [h1, h2, h3, h4]
   · simp only [zba h1, if_true, zbh h2, h2, false_and, and_false, decide_false, zbm, if_false]
 · simp only [zbh h1, h1, false_and, decide_false, zbm, if_false]
theorem isG_iff (l : List Int) (f t a : Int) : isG l f t a = true ↔ (0 ≤ f ∧ f < l.length) ∧ (0 ≤ t ∧ t < l.length) ∧ f ≠ t ∧ 1 ≤ a := by
 unfold isG
 rw [decide_eq_true_eq]
 omega
theorem rd_good {l : List Int} (hg : goodL l = true) {i : Int} (h0 : 0 ≤ i) (h1 : i < l.length) : 0 ≤ rd l i ∧ rd l i ≤ 60 := by
 have h := ((goodL_iff l).1 hg).2.2
 have hi : i.toNat < l.length := by omega
 have e : rd l i = l[i.toNat] := rdi h0 h1
 rw [e]
 exact h _ (List.getElem_mem hi)
def canB (l : List Int) (f t a : Int) : Bool := isG l f t a && (decide (a ≤ rd l f) && decide (a ≤ 60 - rd l t))
theorem canGive_eq (l : List Int) (f t a : Int) (hg : goodL l = true) : impl_canGive.f l f t a = some (canB l f t a) := by
 have hb := (goodL_iff l).1 hg
 unfold impl_canGive.f canB
 rw [isGift_eq l f t a (by omega)]
 simp only [zbb]
 by_cases h : isG l f t a = true
 · obtain ⟨h1, h2, h3, h4⟩ := (isG_iff l f t a).1 h
   have b1 := rd_good hg h1.1 h1.2
   have b2 := rd_good hg h2.1 h2.2
   simp only [h, if_true, if_pos h1.1, if_pos h1.2, if_pos h2.1, if_pos h2.2, w64 (x := 60 - rd l t) (by omega) (by omega), Bool.true_and]
   by_cases c : a ≤ rd l f
   · rw [if_pos c, zba c, Bool.true_and]
   · rw [if_neg c, zbh c, Bool.false_and]
 · have h' : isG l f t a = false := zbg.2 h
   simp only [h', zbm, if_false, Bool.false_and]
def kindB (l : List Int) (f t a : Int) : Bool := isG l f t a && (decide (a ≤ 60) && decide (rd l t + a ≤ rd l f - a))
theorem giKind_eq (l : List Int) (f t a : Int) (hg : goodL l = true) : spec_giKind.f l f t a = some (kindB l f t a) := by
 have hb := (goodL_iff l).1 hg
 unfold spec_giKind.f kindB
 rw [giIs_eq l f t a (by omega)]
 simp only [zbb]
 by_cases h : isG l f t a = true
 · obtain ⟨h1, h2, h3, h4⟩ := (isG_iff l f t a).1 h
   have b1 := rd_good hg h1.1 h1.2
   have b2 := rd_good hg h2.1 h2.2
   simp only [h, if_true, if_pos h1.1, if_pos h1.2, if_pos h2.1, if_pos h2.2, Bool.true_and]
   by_cases c : a ≤ 60
   · rw [if_pos c, zba c, Bool.true_and, w64 (x := rd l f - a) (by omega) (by omega), w64 (x := rd l t + a) (by omega) (by omega)]
   · rw [if_neg c, zbh c, Bool.false_and]
 · have h' : isG l f t a = false := zbg.2 h
   simp only [h', zbm, if_false, Bool.false_and]
theorem isKind_eq (l : List Int) (f t a : Int) (hg : goodL l = true) : impl_isKind.f l f t a = some (kindB l f t a) := by
 unfold impl_isKind.f kindB
 rw [canGive_eq l f t a hg]
 unfold canB
 simp only [zbb]
 by_cases h : isG l f t a = true
 · obtain ⟨h1, h2, h3, h4⟩ := (isG_iff l f t a).1 h
   have b1 := rd_good hg h1.1 h1.2
   have b2 := rd_good hg h2.1 h2.2
   simp only [h, if_pos h1.1, if_pos h1.2, if_pos h2.1, if_pos h2.2, Bool.true_and]
   by_cases c : a ≤ rd l f ∧ a ≤ 60 - rd l t
   · rw [zba c.1, zba c.2, zba (show a ≤ 60 by omega), Bool.true_and, Bool.true_and, if_pos rfl, w64 (x := rd l f - a) (by omega) (by omega), w64 (x := rd l t + a) (by omega) (by omega)]
   · have e : (decide (a ≤ rd l f) && decide (a ≤ 60 - rd l t)) = false := by
      rw [← Bool.decide_and]
      exact zbh c
     have e2 : (decide (a ≤ 60) && decide (rd l t + a ≤ rd l f - a)) = false := by
      rw [← Bool.decide_and]
      exact zbh (by omega)
     simp only [e, e2, zbm, if_false]
 · have h' : isG l f t a = false := zbg.2 h
   simp only [h', zbm, if_false, Bool.false_and]
def giveL (l : List Int) (f t a : Int) : List Int := (l.set f.toNat (rd l f - a)).set t.toNat (rd l t + a)
theorem rd_set_ne {l : List Int} {i j : Int} (x : Int) (h0 : 0 ≤ i) (h1 : 0 ≤ j) (h : i ≠ j) : rd (l.set i.toNat x) j = rd l j := by
 unfold rd
 rw [List.getD_eq_getElem?_getD, List.getD_eq_getElem?_getD, List.getElem?_set_ne (by omega)]
theorem rd_set_self {l : List Int} {i : Int} (x : Int) (h0 : 0 ≤ i) (h1 : i < l.length) : rd (l.set i.toNat x) i = x := by
 unfold rd
 rw [List.getD_eq_getElem?_getD, List.getElem?_set_self (by omega)]
 rfl
theorem rd_mem {l : List Int} {i : Int} (h0 : 0 ≤ i) (h1 : i < l.length) : rd l i ∈ l := by
 have hi : i.toNat < l.length := by omega
 have e : rd l i = l[i.toNat] := rdi h0 h1
 rw [e]
 exact List.getElem_mem hi
theorem give_good (l : List Int) (f t x y : Int) (hg : goodL l = true) (h1 : 0 ≤ f ∧ f < l.length) (h2 : 0 ≤ t ∧ t < l.length) (h3 : f ≠ t) : goodL ((l.set f.toNat x).set t.toNat y) = true ↔ (0 ≤ x ∧ x ≤ 60) ∧ 0 ≤ y ∧ y ≤ 60 := by
 have hb := (goodL_iff l).1 hg
 rw [goodL_iff]
 simp only [List.length_set]
 constructor
 · intro h
   have e1 : rd ((l.set f.toNat x).set t.toNat y) f = x := by rw [rd_set_ne _ h2.1 h1.1 (Ne.symm h3), rd_set_self _ h1.1 h1.2]
   have e2 : rd ((l.set f.toNat x).set t.toNat y) t = y := rd_set_self _ h2.1 (by rw [List.length_set]; exact h2.2)
   have m1 := h.2.2 _ (rd_mem (l := (l.set f.toNat x).set t.toNat y) h1.1 (by simp only [List.length_set]; exact h1.2))
   have m2 := h.2.2 _ (rd_mem (l := (l.set f.toNat x).set t.toNat y) h2.1 (by simp only [List.length_set]; exact h2.2))
   rw [e1] at m1
   rw [e2] at m2
   exact ⟨m1, m2⟩
 · rintro ⟨hx, hy⟩
   refine ⟨hb.1, hb.2.1, fun z hz => ?_⟩
   rcases List.mem_or_eq_of_mem_set hz with hz | rfl
   · rcases List.mem_or_eq_of_mem_set hz with hz | rfl
     · exact hb.2.2 z hz
     · exact hx
   · exact hy
theorem canB_iff (l : List Int) (f t a : Int) : canB l f t a = true ↔ isG l f t a = true ∧ a ≤ rd l f ∧ a ≤ 60 - rd l t := by
 unfold canB
 simp only [Bool.and_eq_true, decide_eq_true_eq]
theorem l1Own_eq (l : List Int) (hx : l.length ≤ 1048576) : spec_l1Own.f l = some l := by
 unfold spec_l1Own.f
 simp only [zbb, List.nil_append, List.length_nil, Nat.zero_add, if_pos (show l.length < 17592186044416 by omega)]
theorem giDo_eq (l : List Int) (f t a : Int) (hx : l.length ≤ 1048576) (h1 : 0 ≤ f ∧ f < l.length) (h2 : 0 ≤ t ∧ t < l.length) (h3 : f ≠ t) : spec_giDo.f l f t a = some ((l.set f.toNat (wrap64 (rd l f - a))).set t.toNat (wrap64 (rd l t + a))) := by
 unfold spec_giDo.f
 simp only [l1Own_eq l hx, zbb, if_pos h1.1, if_pos h1.2, if_pos h2.1, if_pos h2.2, rd_set_ne _ h1.1 h2.1 h3]
theorem given_eq (l : List Int) (f t a : Int) (hx : l.length ≤ 1048576) (h1 : 0 ≤ f ∧ f < l.length) (h2 : 0 ≤ t ∧ t < l.length) (h3 : f ≠ t) : impl_given.f l f t a = some ((l.set f.toNat (wrap64 (rd l f - a))).set t.toNat (wrap64 (rd l t + a))) := by
 unfold impl_given.f slices_Clone_int_int.f
 simp only [if_pos (show l.length ≤ 17592186044416 by omega), zbb, if_pos h1.1, if_pos h1.2, if_pos h2.1, if_pos h2.2, rd_set_ne _ h1.1 h2.1 h3]
theorem given_can (l : List Int) (f t a : Int) (hg : goodL l = true) (h : canB l f t a = true) : impl_given.f l f t a = some (giveL l f t a) := by
 have hb := (goodL_iff l).1 hg
 obtain ⟨hG, c1, c2⟩ := (canB_iff l f t a).1 h
 obtain ⟨h1, h2, h3, h4⟩ := (isG_iff l f t a).1 hG
 have b1 := rd_good hg h1.1 h1.2
 have b2 := rd_good hg h2.1 h2.2
 rw [given_eq l f t a (by omega) h1 h2 h3, w64 (x := rd l f - a) (by omega) (by omega), w64 (x := rd l t + a) (by omega) (by omega)]
 rfl
def insD : List Int → Int → List Int
 | [], x => [x]
 | y :: ys, x => if x ≤ y then y :: insD ys x else x :: y :: ys
def Desc (l : List Int) : Prop := l.Pairwise fun x y => y ≤ x
theorem insD_at (x : Int) : ∀ (out : List Int) (j : Nat), j ≤ out.length → (∀ i, i < j → ∀ h : i < out.length, x ≤ out[i]) → (∀ h : j < out.length, ¬ x ≤ out[j]) → insD out x = out.take j ++ [x] ++ out.drop j
 | [], j, hj, _, _ => by simp [insD]
 | y :: ys, 0, _, _, h => by
  have := h (taac)
  simp only [List.getElem_cons_zero] at this
  simp [insD, this]
 | y :: ys, j + 1, hj, h1, h2 => by
  have h0 := h1 0 (by omega) (taac)
  simp only [List.getElem_cons_zero] at h0
  have ih := insD_at x ys j (by simpa using hj) (fun i hi h => by have := h1 (i + 1) (by omega) (taay); simpa using this) (fun h => by have := h2 (taay); simpa using this)
  simp only [insD, if_pos h0, ih, List.take_succ_cons, List.drop_succ_cons, List.cons_append]
theorem insD_perm (x : Int) : ∀ out : List Int, (insD out x).Perm (x :: out)
 | [] => List.Perm.refl _
 | y :: ys => by
  unfold insD
  split
  · exact ((insD_perm x ys).cons y).trans (List.Perm.swap x y ys)
  · exact List.Perm.refl _
theorem insD_length (x : Int) (out : List Int) : (insD out x).length = out.length + 1 := by
 rw [(insD_perm x out).length_eq, List.length_cons]
theorem insD_desc (x : Int) : ∀ out : List Int, Desc out → Desc (insD out x)
 | [], _ => by simp [insD, Desc]
 | y :: ys, h => by
  unfold insD
  unfold Desc at h
  rw [List.pairwise_cons] at h
  split
  · next hc =>
    unfold Desc
    rw [List.pairwise_cons]
    refine ⟨fun z hz => ?_, insD_desc x ys h.2⟩
    rcases List.mem_cons.1 ((insD_perm x ys).mem_iff.1 hz) with rfl | hz
    · exact hc
    · exact h.1 z hz
  · next hc =>
    unfold Desc
    rw [List.pairwise_cons, List.pairwise_cons]
    refine ⟨fun z hz => ?_, h⟩
    rcases List.mem_cons.1 hz with rfl | hz
    · omega
    · have := h.1 z hz
      omega
theorem descL_perm (l : List Int) : (descL l).Perm l := List.mergeSort_perm l _
theorem descL_desc (l : List Int) : Desc (descL l) := by
 unfold descL Desc
 have h := List.pairwise_mergeSort (le := fun x y : Int => decide (y ≤ x)) (fun a b c h1 h2 => by simp only [decide_eq_true_eq] at *; omega) (fun a b => by simp only [Bool.or_eq_true, decide_eq_true_eq]; omega) l
 exact h.imp (fun h => taay)
theorem desc_unique {a b : List Int} (h : a.Perm b) (ha : Desc a) (hb : Desc b) : a = b :=
 List.Perm.eq_of_pairwise (le := fun x y : Int => y ≤ x) (fun x y _ _ h1 h2 => by omega) ha hb h
theorem descL_length (l : List Int) : (descL l).length = l.length := (descL_perm l).length_eq
theorem descL_mem {l : List Int} {x : Int} : x ∈ descL l ↔ x ∈ l := (descL_perm l).mem_iff
theorem descL_of_desc {l : List Int} (h : Desc l) : descL l = l := desc_unique (descL_perm l) (descL_desc l) h
theorem perm_sum {a b : List Int} (h : a.Perm b) : a.sum = b.sum := by
 induction h with
 | nil => rfl
 | cons x _ ih => simp only [List.sum_cons, ih]
 | swap x y l => simp only [List.sum_cons]; omega
 | trans _ _ ih1 ih2 => exact ih1.trans ih2
theorem descL_sum (l : List Int) : (descL l).sum = l.sum := perm_sum (descL_perm l)
theorem foldl_ins_perm : ∀ (l out : List Int), (l.foldl insD out).Perm (out ++ l)
 | [], out => by simp
 | x :: l, out => by
  rw [List.foldl_cons]
  refine (foldl_ins_perm l (insD out x)).trans ?_
  refine ((insD_perm x out).append_right l).trans ?_
  exact (List.perm_middle (a := x) (l₁ := out) (l₂ := l)).symm
theorem foldl_ins_desc : ∀ (l out : List Int), Desc out → Desc (l.foldl insD out)
 | [], out, h => h
 | x :: l, out, h => by
  rw [List.foldl_cons]
  exact foldl_ins_desc l _ (insD_desc x out h)
theorem foldl_ins (l : List Int) : l.foldl insD [] = descL l :=
 desc_unique ((by simpa using foldl_ins_perm l [] : (l.foldl insD []).Perm l).trans (descL_perm l).symm) (foldl_ins_desc l [] (by simp [Desc])) (descL_desc l)
def Sm (l : List Int) : Prop := l.length ≤ 1000 ∧ ∀ x ∈ l, 0 ≤ x ∧ x ≤ 1000
theorem good_sm {l : List Int} (h : goodL l = true) : Sm l := by
 have := (goodL_iff l).1 h
 exact ⟨by omega, fun x hx => by have := this.2.2 x hx; omega⟩
theorem sm_desc {l : List Int} (h : Sm l) : Sm (descL l) := ⟨by rw [descL_length]; exact h.1, fun x hx => h.2 x (descL_mem.1 hx)⟩
theorem good_desc (l : List Int) : goodL (descL l) = goodL l := by
 rw [Bool.eq_iff_iff, goodL_iff, goodL_iff, descL_length]
 simp only [descL_mem]
theorem ranking_eq {l : List Int} (h : Sm l) : impl_ranking.f l = some (descL l) := by
 unfold impl_ranking.f smallL
 rw [if_pos]
 simp only [Bool.and_eq_true, decide_eq_true_eq, List.all_eq_true]
 exact ⟨by have := h.1; omega, fun x hx => by have := h.2 x hx; omega⟩
theorem liRank_in (l : List Int) (x : Int) (i9 : Int) (out : List Int) (hout : out.length ≤ 1000000) (r : List Int) (hr : Ev (fun k => spec_liRank.l0 k (insD out x) l (l.length : Int) (wrap64 (i9 + 1))) r) :
 ∀ (n j : Nat), j + n = out.length → (∀ i, i < j → ∀ h : i < out.length, x ≤ out[i]) → Ev (fun k => spec_liRank.l1 k out x (j : Int) l (l.length : Int) i9) r
 | 0, j, h, hall => by
  refine Ev.succ ?_
  have e := insD_at x out j (by omega) hall (fun h' => by omega)
  simp only [spec_liRank.l1, if_neg (show ¬ (j : Int) < (out.length : Int) by omega), if_pos (show (0 : Int) ≤ (j : Int) by omega), if_pos (show (j : Int) ≤ (out.length : Int) by omega), Int.toNat_natCast, l1Own_eq (out.take j) (by rw [zax]; omega), zbb, List.length_append, zax, zaw, List.length_cons, List.length_nil]
  simp only [if_pos (show min j out.length + (0 + 1) < 17592186044416 by omega), if_pos (show min j out.length + (0 + 1) + (out.length - j) < 17592186044416 by omega)]
  rw [e] at hr
  exact hr
 | n + 1, j, h, hall => by
  have hj : j < out.length := by omega
  refine Ev.succ ?_
  by_cases c : x ≤ out[j]
  · simp only [spec_liRank.l1, if_pos (show (j : Int) < (out.length : Int) by omega), if_pos (show (0 : Int) ≤ (j : Int) by omega), rdn hj, if_pos (show out[j] ≥ x from c), wsucc hj (by omega)]
    refine liRank_in l x i9 out hout r hr n (j + 1) (by omega) (fun i hi h' => ?_)
    by_cases e : i = j
    · subst e
      exact c
    · exact hall i (by omega) h'
  · have e := insD_at x out j (by omega) hall (fun h' => c)
    simp only [spec_liRank.l1, if_pos (show (j : Int) < (out.length : Int) by omega), if_pos (show (0 : Int) ≤ (j : Int) by omega), rdn hj, if_neg (show ¬ out[j] ≥ x from c), if_pos (show (j : Int) ≤ (out.length : Int) by omega), Int.toNat_natCast, l1Own_eq (out.take j) (by rw [zax]; omega), zbb, List.length_append, zax, zaw, List.length_cons, List.length_nil]
    simp only [if_pos (show min j out.length + (0 + 1) < 17592186044416 by omega), if_pos (show min j out.length + (0 + 1) + (out.length - j) < 17592186044416 by omega)]
    rw [e] at hr
    exact hr
theorem liRank_ev (l : List Int) (hx : l.length ≤ 1000000) : Ev (fun k => spec_liRank.f k l) (descL l) := by
 unfold spec_liRank.f
 have h := ev_fold (xs := l) (g := fun k out i => spec_liRank.l0 k out l (l.length : Int) i) insD (fun out i => out.length = i) id
  (fun s _ => Ev.succ (by simp only [spec_liRank.l0, if_neg (Int.lt_irrefl _)]; exact Ev.now _))
  (fun i h s r hs _ hr => Ev.succ (by
   simp only [spec_liRank.l0, if_pos (show (i : Int) < (l.length : Int) by omega), if_pos (show (0 : Int) ≤ (i : Int) by omega), rdn h]
   exact liRank_in l l[i] (i : Int) s (by omega) r (by rw [wsucc h (by omega)]; exact hr) s.length 0 (by omega) (fun j hj => by omega)))
  (fun i h s hs => by rw [insD_length, hs]) l.length 0 [] (by omega) rfl
 rw [List.drop_zero, foldl_ins] at h
 exact h





def sqS (l : List Int) : Int := (l.map fun x => x * x).sum
theorem sum_map_set (g : Int → Int) : ∀ (l : List Int) (i : Nat) (h : i < l.length) (v : Int), ((l.set i v).map g).sum = (l.map g).sum - g l[i] + g v
 | x :: l, 0, h, v => by simp; omega
 | x :: l, i + 1, h, v => by
  have := sum_map_set g l i (taay) v
  simp only [zac, zau, List.sum_cons, List.getElem_cons_succ]
  omega
theorem sum_map_set_rd (g : Int → Int) (l : List Int) (i : Int) (h0 : 0 ≤ i) (h1 : i < l.length) (v : Int) : ((l.set i.toNat v).map g).sum = (l.map g).sum - g (rd l i) + g v := by
 have hi : i.toNat < l.length := by omega
 have e : rd l i = l[i.toNat] := rdi h0 h1
 rw [sum_map_set g l i.toNat hi v, e]
theorem kindB_iff (l : List Int) (f t a : Int) : kindB l f t a = true ↔ isG l f t a = true ∧ a ≤ 60 ∧ rd l t + a ≤ rd l f - a := by
 unfold kindB
 simp only [Bool.and_eq_true, decide_eq_true_eq]
theorem fall_ring (x y a : Int) : x * x + y * y - ((x - a) * (x - a) + (y + a) * (y + a)) = 2 * a * (x - y - a) := by grind
theorem sqS_give (l : List Int) (f t a : Int) (h1 : 0 ≤ f ∧ f < l.length) (h2 : 0 ≤ t ∧ t < l.length) (h3 : f ≠ t) : sqS l - sqS (giveL l f t a) = 2 * a * (rd l f - rd l t - a) := by
 unfold sqS giveL
 rw [sum_map_set_rd _ _ t h2.1 (by rw [List.length_set]; exact h2.2), sum_map_set_rd _ _ f h1.1 h1.2, rd_set_ne _ h1.1 h2.1 h3]
 have := fall_ring (rd l f) (rd l t) a
 omega
theorem kind_give (l : List Int) (f t a : Int) (hg : goodL l = true) (hk : kindB l f t a = true) : goodL (giveL l f t a) = true := by
 obtain ⟨hG, c1, c2⟩ := (kindB_iff l f t a).1 hk
 obtain ⟨h1, h2, h3, h4⟩ := (isG_iff l f t a).1 hG
 have b1 := rd_good hg h1.1 h1.2
 have b2 := rd_good hg h2.1 h2.2
 exact (give_good l f t _ _ hg h1 h2 h3).2 (by omega)
def stepG (x : List Int) (g : S39) : List Int := descL (giveL x g.f0 g.f1 g.f2)
def foll : List Int → List S39 → Option (List (List Int))
 | _, [] => some []
 | x, g :: p => if kindB x g.f0 g.f1 g.f2 = true then (foll (stepG x g) p).map (stepG x g :: ·) else none
def folA (L : List (List Int)) (o : Option (List (List Int))) (b : Bool) : List (List Int) × Bool := match o with
 | some M => (L ++ M, b)
 | none => ([], false)
theorem folA_step (L : List (List Int)) (x : List Int) (g : S39) (p : List S39) (b : Bool) (h : kindB x g.f0 g.f1 g.f2 = true) : folA L (foll x (g :: p)) b = folA (L ++ [stepG x g]) (foll (stepG x g) p) b := by
 have e : foll x (g :: p) = if kindB x g.f0 g.f1 g.f2 = true then (foll (stepG x g) p).map (stepG x g :: ·) else none := rfl
 rw [e, if_pos h]
 cases foll (stepG x g) p with
 | none => rfl
 | some M => simp [folA]
theorem folA_none (L : List (List Int)) (x : List Int) (g : S39) (p : List S39) (b : Bool) (h : ¬ kindB x g.f0 g.f1 g.f2 = true) : folA L (foll x (g :: p)) b = ([], false) := by
 have e : foll x (g :: p) = if kindB x g.f0 g.f1 g.f2 = true then (foll (stepG x g) p).map (stepG x g :: ·) else none := rfl
 rw [e, if_neg h]
 rfl
def FolInv (l1 : List S39) (b : Bool) (r : List (List Int) × Bool) (g : Nat) (x9 : Int) (x : List Int) (L : List (List Int)) : Prop := ∃ i : Nat, x9 = (i : Int) ∧ i ≤ l1.length ∧ l1.length - i ≤ g ∧ goodL x = true ∧ L.length ≤ i + 1 ∧ folA L (foll x (l1.drop i)) b = r
theorem kind_step {x : List Int} {f t a : Int} (hg : goodL x = true) (hk : kindB x f t a = true) : impl_given.f x f t a = some (giveL x f t a) ∧ spec_giDo.f x f t a = some (giveL x f t a) ∧ goodL (giveL x f t a) = true := by
 obtain ⟨hG, c1, c2⟩ := (kindB_iff x f t a).1 hk
 obtain ⟨h1, h2, h3, h4⟩ := (isG_iff x f t a).1 hG
 have b1 := rd_good hg h1.1 h1.2
 have b2 := rd_good hg h2.1 h2.2
 have hb := (goodL_iff x).1 hg
 refine ⟨given_can x f t a hg ((canB_iff x f t a).2 ⟨hG, by omega, by omega⟩), ?_, kind_give x f t a hg hk⟩
 rw [giDo_eq x f t a (by omega) h1 h2 h3, w64 (x := rd x f - a) (by omega) (by omega), w64 (x := rd x t + a) (by omega) (by omega)]
 rfl
def impl_follow.f (l0 : List Int) (l1 : List S39) : Option (List (List Int) × Bool) := if goodL l0 = true ∧ l1.length ≤ 1048576 then some (folA [descL l0] (foll (descL l0) l1) (decide ((l1.length : Int) ≤ 240))) else none
theorem impl_follow.calls (A0 : Option Addr) (c0 : Nat) (l0 : List Int) (A1 : Option Addr) (c1 : Nat) (l1 : List S39) (r1 : List (List Int)) (r2 : Bool) (w : World) (hr0 : Kd.C (Kd.int .i64) w A0 l0.length l0) (hc0 : l0.length ≤ c0) (hr1 : Kd.C k39 w A1 l1.length l1) (hc1 : l1.length ≤ c1) (h : impl_follow.f l0 l1 = some (r1, r2)) :
 Calls Try.prog 134 #[.slice A0 l0.length c0, .slice A1 l1.length c1] w fun e w' => ∃ v0_ : Value, e = .returned (.tuple #[v0_, .bool r2]) ∧ Kd.S (Kd.slice 3 (Kd.int .i64)) 26 w' w.heap.size (fun _ => True) v0_ r1 ∧ Below w.heap.size w w' := by
 unfold impl_follow.f at h
 split at h
 next hs =>
  obtain ⟨hg0, hs1⟩ := hs
  have hfin := zbc h; clear h; have hu39 := Try.underlying39
  have HR1 := zad hr1; have HC1 := zad hc1; have HR0 := zad hr0; have HC0 := zad hc0; have HB := zad (Below.refl w.heap.size w)
  have hg0' : goodL (descL l0) = true := by rw [good_desc]; exact hg0
  have hb0 := (goodL_iff l0).1 hg0
  have hrk := ranking_eq (good_sm hg0)
  have HRK := zad hrk; generalize descL l0 = x0 at HRK hg0' hfin
  have HINV : Aside0 (FolInv l1 (decide ((l1.length : Int) ≤ 240)) (r1, r2) l1.length 0 x0 [x0]) := ⟨0, rfl, Nat.zero_le _, by omega, hg0', taac, by rw [List.drop_zero]; exact hfin⟩
  have HS1 := zad hs1; clear hr0 hc0 hr1 hc1 hrk hg0' hfin hb0 hg0 hs1
  go_enter Try.func134, Try.ntmps134
  go_wp2_with (first | ((with_reducible refine zbf (f := 88) rfl ?_); refine zbn (some 11) rfl rfl Try.func88 (by kernel_rfl) rfl #[.slice A0 l0.length c0] rfl (tabc) ?_; (with_reducible refine (impl_ranking.calls _ _ l0 x0 _ ?side1 ?side2 HRK.out).mono ?_); (case side1 => exact taeu); (case side2 => exact HC0.out); rintro e w1 ⟨v1, rfl, ho, hb⟩; refine ⟨_, rfl, ?_⟩; have n0_ := zad (zbu ho (zbk (taaa))); have n1_ := zad (zbe (taaa) hb); clear HB; have HN := n0_; have HB := n1_; clear n0_ n1_ ho hb; obtain ⟨A6, c6, e6⟩ := zbv HN.out; subst e6) | ((with_reducible refine gate_dst (N := 13) rfl ?_); refine Kd.S_lits (Kd.slice 3 (Kd.int .i64)) _ 26 ?hg (N := 13) ?hd (xs := ([x0] : List (List Int))) (inner := [.slice A6 x0.length c6]) (ok := fun _ => True) (fun j_ _ => j_ = 0) ?hr rfl ?hp (fun i_ j_ _ h1 h2 => h1.trans h2.symm) (fun _ _ _ => trivial) trivial (Below.refl _ _) (zbk (taaa)) (taac) ?_; (case hd => rfl); (case hg => rfl); (case hr => first | (go_simp; done) | (go_simp; rfl)); (case hp => intro j_ x_ hx_; cases j_ with | zero => (simp only [List.getElem?_cons_zero, zbl] at hx_; subst hx_; exact ⟨_, rfl, zbq (tabt) (fun _ _ => rfl)⟩) | succ j_ => simp at hx_); intro v2 w2 ho hb hg_ hnew_; replace hb := (fun {a b : World} (h : a.grownBy b none) => (⟨h.os, h.tape, h.output, h.size, fun i hi => h.block i hi (taac)⟩ : Below a.heap.size a b)) hg_; have HSS := zad ho; have n1_ := zad (Kd.R_grown (tabt) hg_ (fun _ _ => taac)); have n2_ := zad (zbe (taaa) hb); clear hg_ hnew_ ho hb HN HB; have HN := n1_; have HB := n2_; clear n1_ n2_))
  go_loopg [6, 7, 16] l1.length (fun g v6 v7 v16 wr => ∃ (x9 : Int) (x : List Int) (L : List (List Int)), v16 = .int .i64 x9 ∧ Aside0 (FolInv l1 (decide ((l1.length : Int) ≤ 240)) (r1, r2) g x9 x L) ∧ Aside0 (Kd.R (Kd.int .i64) 3 wr w.heap.size (fun _ => True) v6 x) ∧ Aside0 (Kd.S (Kd.slice 3 (Kd.int .i64)) 26 wr w.heap.size (fun _ => True) v7 L) ∧ Aside0 (Below w.heap.size w wr))
  case atStart => exact ⟨0, x0, [x0], rfl, HINV, ⟨tabt⟩, ⟨tacq⟩, ⟨taaa⟩⟩
  case round =>
   clear HINV HN HSS HB HRK; obtain ⟨x9, x, L, rfl, HV, HN, HSS, HB⟩ := hrel
   obtain ⟨i, hi, hi1, hgm, hgx, hLl, hfx⟩ := HV.out
   clear HV; have hs1 := HS1.out
   by_cases hlt : i < l1.length
   · have c3b0 : decide (x9 < (l1.length : Int)) = true := zba (by omega)
     have p1 : 0 ≤ x9 := by omega
     have q1 : x9 < (l1.length : Int) := by omega
     obtain ⟨ad, e1, hx0, hx1, hx2⟩ := at_T39 HR1.out x9 p1 q1
     cases e1
     have hrd : rd_T39 l1 x9 = l1[i] := by
      unfold rd_T39
      rw [hi, Int.toNat_natCast, List.getD_eq_getElem?_getD, List.getElem?_eq_getElem hlt]
      rfl
     rw [List.drop_eq_getElem_cons hlt, ← hrd] at hfx
     clear hrd; generalize rd_T39 l1 x9 = gg at hx0 hx1 hx2 hfx
     obtain ⟨f0, f1, f2⟩ := gg
     simp only at hx0 hx1 hx2
     replace hx0 := (HB.out.cell (zaz w _ hx0)).trans hx0
     replace hx1 := (HB.out.cell (zaz w _ hx1)).trans hx1
     replace hx2 := (HB.out.cell (zaz w _ hx2)).trans hx2
     replace p1 := eq_true p1
     replace q1 := eq_true q1
     obtain ⟨A6, c6, e6⟩ := zbv HN.out
     subst e6; have HBr := zad (Below.refl wr.heap.size wr)
     have hkf : impl_isKind.f x f0 f1 f2 = some (kindB x f0 f1 f2) := isKind_eq x f0 f1 f2 hgx
     by_cases hk : kindB x f0 f1 f2 = true
     · rw [hk] at hkf
       obtain ⟨hgv1, hgv2, hgy⟩ := kind_step hgx hk
       rw [folA_step L x ⟨f0, f1, f2⟩ _ _ hk] at hfx
       have hst : stepG x ⟨f0, f1, f2⟩ = descL (giveL x f0 f1 f2) := rfl
       rw [hst] at hfx
       have hgz : goodL (descL (giveL x f0 f1 f2)) = true := by rw [good_desc]; exact hgy
       generalize giveL x f0 f1 f2 = y at hgv1 hgv2 hgy hfx hgz
       have hby := (goodL_iff y).1 hgy
       have hrk := ranking_eq (good_sm hgy)
       have HK := zad hkf; have HGV := zad hgv1; have HRK := zad hrk; generalize descL y = z at HRK hgz hfx
       have HIN : Aside0 (FolInv l1 (decide ((l1.length : Int) ≤ 240)) (r1, r2) (l1.length - (i + 1)) (wrap64 (x9 + 1)) z (L ++ [z])) := ⟨i + 1, by rw [w64 (by omega) (by omega)]; omega, by omega, zcf _, hgz, tabg, hfx⟩
       have HM := zad (show l1.length - (i + 1) < gk by omega)
       have HLL := zad (show (L.length + 1) * 24 ≤ 140737488355328 by omega)
       have HSB := zad (Kd.S_mono (ok' := fun k => k < wr.heap.size) (Kd.S_bound HSS.out) (fun k hk => hk.2.2.1))
       clear hk hkf hgv1 hgv2 hgy hgz hfx hst hby hrk hi hi1 hgm hgx hLl hs1 hlt HSS; go_wp2_with (first | ((with_reducible refine gate_dst (N := 9) rfl ?_); refine box_event ?hg (N := 9) ?hd (cs := #[.int .i64 0, .int .i64 0, .int .i64 0]) (t := 39) ?hr ?_; (case hd => rfl); (case hg => rfl); (case hr => first | (go_simp; done) | (go_simp; rfl)); intro gb hg w8 hbox hb; have GE := zad ((by rw [hg]; exact (zbk (taar)) : wr.heap.size ≤ gb)); have n0_ := zad (zbe (taar) hb); have BK := zad hbox; clear HBr; have HBr := n0_; clear n0_ hb hbox hg; have hcz0 : w8.cell? ⟨gb, 0, none⟩ = some (.int .i64 0) := (zbi BK.out 0).trans rfl; have hcz1 : w8.cell? ⟨gb, 1, none⟩ = some (.int .i64 0) := (zbi BK.out 1).trans rfl; have hcz2 : w8.cell? ⟨gb, 2, none⟩ = some (.int .i64 0) := (zbi BK.out 2).trans rfl; have hfz0 := zbj BK.out 0; have hfz1 := zbj BK.out 1; have hfz2 := zbj BK.out 2) | ((with_reducible refine zbf (f := 98) rfl ?_); refine zbn (some 22) rfl rfl Try.func98 (by kernel_rfl) rfl #[.slice A6 x.length c6, .agg #[.int .i64 f0, .int .i64 f1, .int .i64 f2]] rfl (tabc) ?_; (with_reducible refine (impl_isKind.calls _ _ x f0 f1 f2 true _ ?side1 ?side2 HK.out).mono ?_); (case side1 => exact Kd.C_below (zbd HN.out).2.2 (tabh)); (case side2 => exact (zbd HN.out).2.1); rintro e w10 ⟨rfl, hb⟩; refine ⟨_, rfl, ?_⟩; have n0_ := zad (blk_below (g := gb) (o := .cells #[.int .i64 f0, .int .i64 f1, .int .i64 f2] 39 (0, 0)) (tadt) hb); have n1_ := zad (zbe (tabh) hb); clear BK HBr hb hcz0 hcz1 hcz2 hfz0 hfz1 hfz2; have BK := n0_; have HBr := n1_; clear n0_ n1_; have hcz0 : w10.cell? ⟨gb, 0, none⟩ = some (.int .i64 f0) := (zbi BK.out 0).trans rfl; have hcz1 : w10.cell? ⟨gb, 1, none⟩ = some (.int .i64 f1) := (zbi BK.out 1).trans rfl; have hcz2 : w10.cell? ⟨gb, 2, none⟩ = some (.int .i64 f2) := (zbi BK.out 2).trans rfl) | ((with_reducible refine zbf (f := 105) rfl ?_); refine zbn (some 26) rfl rfl Try.func105 (by kernel_rfl) rfl #[.slice A6 x.length c6, .agg #[.int .i64 f0, .int .i64 f1, .int .i64 f2]] rfl (tabc) ?_; (with_reducible refine (impl_given.calls _ _ x f0 f1 f2 y _ ?side1 ?side2 HGV.out).mono ?_); (case side1 => exact Kd.C_below (zbd HN.out).2.2 (taar)); (case side2 => exact (zbd HN.out).2.1); rintro e w12 ⟨v26, rfl, ho, hb⟩; refine ⟨_, rfl, ?_⟩; have HY := zad ho; have n1_ := zad (zbe (taar) hb); clear BK HBr hb ho hcz0 hcz1 hcz2; have HBr := n1_; clear n1_; obtain ⟨Ay, cy, ey⟩ := zbv HY.out; subst ey) | ((with_reducible refine zbf (f := 88) rfl ?_); refine zbn (some 27) rfl rfl Try.func88 (by kernel_rfl) rfl #[.slice Ay y.length cy] rfl (tabc) ?_; (with_reducible refine (impl_ranking.calls _ _ y z _ ?side1 ?side2 HRK.out).mono ?_); (case side1 => repeat (first | exact (zbd HY.out).2.2 | (with_reducible refine zal ?_ _) | (with_reducible refine zam ?_ _) | (with_reducible refine zan ?_))); (case side2 => exact (zbd HY.out).2.1); rintro e w14 ⟨v27, rfl, ho, hb⟩; refine ⟨_, rfl, ?_⟩; have hsz := zbk (taar); have HZ := zad (zbq (ok' := fun k => wr.heap.size ≤ k) (zbu (Kd.R_bound ho) (Nat.le_trans HB.out.size hsz)) (fun k hk => Nat.le_trans hsz hk.2.1)); have n1_ := zad (zbe (taar) hb); clear HBr hb ho HY hsz; have HBr := n1_; clear n1_; obtain ⟨Az, cz, ez⟩ := zbv HZ.out; subst ez) | ((with_reducible refine gate_builtin (b := .append) (xs := #[.tmp 28, .tmp 30]) rfl ?_); at_builtin; refine Kd.S_append (Kd.slice 3 (Kd.int .i64)) (w0 := w) w.heap.size rfl (.tmp 28) (.tmp 30) 55 26 (.slice none 0 0) 24 rfl Try.underlying55 info26 rfl (by decide) (by omega) _ L z [.slice Az z.length cz] (fun _ => True) (fun k_ => some k_ = (.slice Az z.length cz : Value).ownBlock) rfl rfl ?aP ?aK ?aF ?aO ?aB ?aS ?aL ?_; (case aP => exact Kd.M_row (zbq (Kd.R_tight rfl (tacr)) (fun _ h_ => h_))); (case aK => exact fun k_ hk_ => ⟨trivial, fun e_ => by have q1_ := HZ.out.1 k_ hk_.symm; have q2_ := Kd.S_lt HSB.out k_ e_.symm; omega⟩); (case aF => exact fun _ _ => trivial); (case aO => exact Kd.S_mono (Kd.S_below HSB.out (taar)) (fun k_ hk_ => ⟨trivial, fun e_ => by have q1_ := HZ.out.1 k_ e_.symm; omega⟩)); (case aB => exact zbe HB.out (taar)); (case aS => exact Nat.le_trans HB.out.size (zbk (taar))); (case aL => exact HLL.out); intro v31 w31 ho hb hg hat; have HS2 := zad ho; have HB2 := zad hb; have HN2 := zad (zbq (ok' := fun _ => True) (Kd.R_grown (tacr) hg (fun k_ hk_ e_ => by have q2_ := Kd.S_lt HSB.out k_ e_.symm; omega)) (fun _ _ => trivial)); clear ho hb hg hat HZ HSB HBr))
       go_roundg (l1.length - (i + 1))
       case measure => exact HM.out
       case rel => exact ⟨_, z, L ++ [z], (taag), HIN, ⟨by (with_reducible repeat (first | apply zai | apply zaj | apply zak)); exact HN2.out⟩, ⟨by (with_reducible repeat (first | apply Kd.S_alloc | apply Kd.S_drewN | apply Kd.S_drew)); exact HS2.out⟩, ⟨by repeat (first | (with_reducible first | exact HB2.out | apply zag | apply zae | apply zaf) | exact HB2.out)⟩⟩
     · rw [zbg.2 hk] at hkf
       rw [folA_none L x ⟨f0, f1, f2⟩ _ _ hk] at hfx
       obtain ⟨e1, e2⟩ := Prod.mk.inj hfx
       subst e1; subst e2; have HK := zad hkf; clear hk hkf hfx hi hi1 hgm hgx hLl hs1 hlt HSS; go_wp2_with (first | ((with_reducible refine gate_dst (N := 9) rfl ?_); refine box_event ?hg (N := 9) ?hd (cs := #[.int .i64 0, .int .i64 0, .int .i64 0]) (t := 39) ?hr ?_; (case hd => rfl); (case hg => rfl); (case hr => first | (go_simp; done) | (go_simp; rfl)); intro gb hg w8 hbox hb; have GE := zad ((by rw [hg]; exact (zbk (taar)) : wr.heap.size ≤ gb)); have n0_ := zad (zbe (taar) hb); have BK := zad hbox; clear HBr; have HBr := n0_; clear n0_ hb hbox hg; have hcz0 : w8.cell? ⟨gb, 0, none⟩ = some (.int .i64 0) := (zbi BK.out 0).trans rfl; have hcz1 : w8.cell? ⟨gb, 1, none⟩ = some (.int .i64 0) := (zbi BK.out 1).trans rfl; have hcz2 : w8.cell? ⟨gb, 2, none⟩ = some (.int .i64 0) := (zbi BK.out 2).trans rfl; have hfz0 := zbj BK.out 0; have hfz1 := zbj BK.out 1; have hfz2 := zbj BK.out 2) | ((with_reducible refine zbf (f := 98) rfl ?_); refine zbn (some 22) rfl rfl Try.func98 (by kernel_rfl) rfl #[.slice A6 x.length c6, .agg #[.int .i64 f0, .int .i64 f1, .int .i64 f2]] rfl (tabc) ?_; (with_reducible refine (impl_isKind.calls _ _ x f0 f1 f2 false _ ?side1 ?side2 HK.out).mono ?_); (case side1 => exact Kd.C_below (zbd HN.out).2.2 (tabh)); (case side2 => exact (zbd HN.out).2.1); rintro e w10 ⟨rfl, hb⟩; refine ⟨_, rfl, ?_⟩; have n1_ := zad (zbe (tabh) hb); clear HBr hb; have HBr := n1_; clear n1_))
       go_ret2
       exact ⟨_, rfl, Kd.S_nil _ _ _ _ _, zbe HB.out (taar)⟩
   · have hil : i = l1.length := by omega
     rw [hil, List.drop_eq_nil_of_le (zcf _)] at hfx
     have c3b0 : decide (x9 < (l1.length : Int)) = false := zbh (by omega)
     obtain ⟨e1, e2⟩ := Prod.mk.inj hfx
     rw [List.append_nil] at e1
     subst e1; subst e2; clear hfx hi hi1 hgm hgx hLl hlt hil hs1; go_wp2
     go_ret2
     exact ⟨_, rfl, tacq, taaa⟩
 next => cases h
def spec_giFollow.f (l0 : List Int) (l1 : List S39) : Option (List (List Int) × Bool) := if goodL l0 = true ∧ l1.length ≤ 1048576 then some (folA [descL l0] (foll (descL l0) l1) true) else none
theorem spec_giFollow.calls (A0 : Option Addr) (c0 : Nat) (l0 : List Int) (A1 : Option Addr) (c1 : Nat) (l1 : List S39) (r1 : List (List Int)) (r2 : Bool) (w : World) (hr0 : Kd.C (Kd.int .i64) w A0 l0.length l0) (hc0 : l0.length ≤ c0) (hr1 : Kd.C k39 w A1 l1.length l1) (hc1 : l1.length ≤ c1) (h : spec_giFollow.f l0 l1 = some (r1, r2)) :
 Calls Try.prog 144 #[.slice A0 l0.length c0, .slice A1 l1.length c1] w fun e w' => ∃ v0_ : Value, e = .returned (.tuple #[v0_, .bool r2]) ∧ Kd.S (Kd.slice 3 (Kd.int .i64)) 26 w' w.heap.size (fun _ => True) v0_ r1 ∧ Below w.heap.size w w' := by
 unfold spec_giFollow.f at h
 split at h
 next hs =>
  obtain ⟨hg0, hs1⟩ := hs
  have hfin := zbc h; clear h; have hu39 := Try.underlying39
  have HR1 := zad hr1; have HC1 := zad hc1; have HR0 := zad hr0; have HC0 := zad hc0; have HB := zad (Below.refl w.heap.size w)
  have hg0' : goodL (descL l0) = true := by rw [good_desc]; exact hg0
  have hb0 := (goodL_iff l0).1 hg0
  obtain ⟨kr, hrk⟩ := Ev.get (liRank_ev l0 (by omega))
  have HRK := zad hrk; generalize descL l0 = x0 at HRK hg0' hfin
  have HINV : Aside0 (FolInv l1 true (r1, r2) l1.length 0 x0 [x0]) := ⟨0, rfl, Nat.zero_le _, by omega, hg0', taac, by rw [List.drop_zero]; exact hfin⟩
  have HS1 := zad hs1; clear hr0 hc0 hr1 hc1 hrk hg0' hfin hb0 hg0 hs1
  go_enter Try.func144, Try.ntmps144
  go_wp2_with (first | ((with_reducible refine zbf (f := 108) rfl ?_); refine zbn (some 11) rfl rfl Try.func108 (by kernel_rfl) rfl #[.slice A0 l0.length c0] rfl (tabc) ?_; (with_reducible refine (spec_liRank.calls _ _ _ l0 x0 _ ?side1 ?side2 HRK.out).mono ?_); (case side1 => exact taeu); (case side2 => exact HC0.out); rintro e w1 ⟨v1, rfl, ho, hb⟩; refine ⟨_, rfl, ?_⟩; have n0_ := zad (zbu ho (zbk (taaa))); have n1_ := zad (zbe (taaa) hb); clear HB; have HN := n0_; have HB := n1_; clear n0_ n1_ ho hb; obtain ⟨A6, c6, e6⟩ := zbv HN.out; subst e6) | ((with_reducible refine gate_dst (N := 13) rfl ?_); refine Kd.S_lits (Kd.slice 3 (Kd.int .i64)) _ 26 ?hg (N := 13) ?hd (xs := ([x0] : List (List Int))) (inner := [.slice A6 x0.length c6]) (ok := fun _ => True) (fun j_ _ => j_ = 0) ?hr rfl ?hp (fun i_ j_ _ h1 h2 => h1.trans h2.symm) (fun _ _ _ => trivial) trivial (Below.refl _ _) (zbk (taaa)) (taac) ?_; (case hd => rfl); (case hg => rfl); (case hr => first | (go_simp; done) | (go_simp; rfl)); (case hp => intro j_ x_ hx_; cases j_ with | zero => (simp only [List.getElem?_cons_zero, zbl] at hx_; subst hx_; exact ⟨_, rfl, zbq (tabt) (fun _ _ => rfl)⟩) | succ j_ => simp at hx_); intro v2 w2 ho hb hg_ hnew_; replace hb := (fun {a b : World} (h : a.grownBy b none) => (⟨h.os, h.tape, h.output, h.size, fun i hi => h.block i hi (taac)⟩ : Below a.heap.size a b)) hg_; have HSS := zad ho; have n1_ := zad (Kd.R_grown (tabt) hg_ (fun _ _ => taac)); have n2_ := zad (zbe (taaa) hb); clear hg_ hnew_ ho hb HN HB; have HN := n1_; have HB := n2_; clear n1_ n2_))
  go_loopg [6, 7, 16] l1.length (fun g v6 v7 v16 wr => ∃ (x9 : Int) (x : List Int) (L : List (List Int)), v16 = .int .i64 x9 ∧ Aside0 (FolInv l1 true (r1, r2) g x9 x L) ∧ Aside0 (Kd.R (Kd.int .i64) 3 wr w.heap.size (fun _ => True) v6 x) ∧ Aside0 (Kd.S (Kd.slice 3 (Kd.int .i64)) 26 wr w.heap.size (fun _ => True) v7 L) ∧ Aside0 (Below w.heap.size w wr))
  case atStart => exact ⟨0, x0, [x0], rfl, HINV, ⟨tabt⟩, ⟨tacq⟩, ⟨taaa⟩⟩
  case round =>
   clear HINV HN HSS HB HRK; obtain ⟨x9, x, L, rfl, HV, HN, HSS, HB⟩ := hrel
   obtain ⟨i, hi, hi1, hgm, hgx, hLl, hfx⟩ := HV.out
   clear HV; have hs1 := HS1.out
   by_cases hlt : i < l1.length
   · have c3b0 : decide (x9 < (l1.length : Int)) = true := zba (by omega)
     have p1 : 0 ≤ x9 := by omega
     have q1 : x9 < (l1.length : Int) := by omega
     obtain ⟨ad, e1, hx0, hx1, hx2⟩ := at_T39 HR1.out x9 p1 q1
     cases e1
     have hrd : rd_T39 l1 x9 = l1[i] := by
      unfold rd_T39
      rw [hi, Int.toNat_natCast, List.getD_eq_getElem?_getD, List.getElem?_eq_getElem hlt]
      rfl
     rw [List.drop_eq_getElem_cons hlt, ← hrd] at hfx
     clear hrd; generalize rd_T39 l1 x9 = gg at hx0 hx1 hx2 hfx
     obtain ⟨f0, f1, f2⟩ := gg
     simp only at hx0 hx1 hx2
     replace hx0 := (HB.out.cell (zaz w _ hx0)).trans hx0
     replace hx1 := (HB.out.cell (zaz w _ hx1)).trans hx1
     replace hx2 := (HB.out.cell (zaz w _ hx2)).trans hx2
     replace p1 := eq_true p1
     replace q1 := eq_true q1
     obtain ⟨A6, c6, e6⟩ := zbv HN.out
     subst e6; have HBr := zad (Below.refl wr.heap.size wr)
     have hkf : spec_giKind.f x f0 f1 f2 = some (kindB x f0 f1 f2) := giKind_eq x f0 f1 f2 hgx
     by_cases hk : kindB x f0 f1 f2 = true
     · rw [hk] at hkf
       obtain ⟨hgv1, hgv2, hgy⟩ := kind_step hgx hk
       rw [folA_step L x ⟨f0, f1, f2⟩ _ _ hk] at hfx
       have hst : stepG x ⟨f0, f1, f2⟩ = descL (giveL x f0 f1 f2) := rfl
       rw [hst] at hfx
       have hgz : goodL (descL (giveL x f0 f1 f2)) = true := by rw [good_desc]; exact hgy
       generalize giveL x f0 f1 f2 = y at hgv1 hgv2 hgy hfx hgz
       have hby := (goodL_iff y).1 hgy
       obtain ⟨kr1, hrk⟩ := Ev.get (liRank_ev y (by omega))
       have HK := zad hkf; have HGV := zad hgv2; have HRK := zad hrk; generalize descL y = z at HRK hgz hfx
       have HIN : Aside0 (FolInv l1 true (r1, r2) (l1.length - (i + 1)) (wrap64 (x9 + 1)) z (L ++ [z])) := ⟨i + 1, by rw [w64 (by omega) (by omega)]; omega, by omega, zcf _, hgz, tabg, hfx⟩
       have HM := zad (show l1.length - (i + 1) < gk by omega)
       have HLL := zad (show (L.length + 1) * 24 ≤ 140737488355328 by omega)
       have HSB := zad (Kd.S_mono (ok' := fun k => k < wr.heap.size) (Kd.S_bound HSS.out) (fun k hk => hk.2.2.1))
       clear hk hkf hgv1 hgv2 hgy hgz hfx hst hby hrk hi hi1 hgm hgx hLl hs1 hlt HSS; go_wp2_with (first | ((with_reducible refine gate_dst (N := 9) rfl ?_); refine box_event ?hg (N := 9) ?hd (cs := #[.int .i64 0, .int .i64 0, .int .i64 0]) (t := 39) ?hr ?_; (case hd => rfl); (case hg => rfl); (case hr => first | (go_simp; done) | (go_simp; rfl)); intro gb hg w8 hbox hb; have GE := zad ((by rw [hg]; exact (zbk (taar)) : wr.heap.size ≤ gb)); have n0_ := zad (zbe (taar) hb); have BK := zad hbox; clear HBr; have HBr := n0_; clear n0_ hb hbox hg; have hcz0 : w8.cell? ⟨gb, 0, none⟩ = some (.int .i64 0) := (zbi BK.out 0).trans rfl; have hcz1 : w8.cell? ⟨gb, 1, none⟩ = some (.int .i64 0) := (zbi BK.out 1).trans rfl; have hcz2 : w8.cell? ⟨gb, 2, none⟩ = some (.int .i64 0) := (zbi BK.out 2).trans rfl; have hfz0 := zbj BK.out 0; have hfz1 := zbj BK.out 1; have hfz2 := zbj BK.out 2) | ((with_reducible refine zbf (f := 99) rfl ?_); refine zbn (some 22) rfl rfl Try.func99 (by kernel_rfl) rfl #[.slice A6 x.length c6, .agg #[.int .i64 f0, .int .i64 f1, .int .i64 f2]] rfl (tabc) ?_; (with_reducible refine (spec_giKind.calls _ _ x f0 f1 f2 true _ ?side1 ?side2 HK.out).mono ?_); (case side1 => exact Kd.C_below (zbd HN.out).2.2 (tabh)); (case side2 => exact (zbd HN.out).2.1); rintro e w10 ⟨rfl, hb⟩; refine ⟨_, rfl, ?_⟩; have n0_ := zad (blk_below (g := gb) (o := .cells #[.int .i64 f0, .int .i64 f1, .int .i64 f2] 39 (0, 0)) (tadt) hb); have n1_ := zad (zbe (tabh) hb); clear BK HBr hb hcz0 hcz1 hcz2 hfz0 hfz1 hfz2; have BK := n0_; have HBr := n1_; clear n0_ n1_; have hcz0 : w10.cell? ⟨gb, 0, none⟩ = some (.int .i64 f0) := (zbi BK.out 0).trans rfl; have hcz1 : w10.cell? ⟨gb, 1, none⟩ = some (.int .i64 f1) := (zbi BK.out 1).trans rfl; have hcz2 : w10.cell? ⟨gb, 2, none⟩ = some (.int .i64 f2) := (zbi BK.out 2).trans rfl) | ((with_reducible refine zbf (f := 101) rfl ?_); refine zbn (some 26) rfl rfl Try.func101 (by kernel_rfl) rfl #[.slice A6 x.length c6, .agg #[.int .i64 f0, .int .i64 f1, .int .i64 f2]] rfl (tabc) ?_; (with_reducible refine (spec_giDo.calls _ _ x f0 f1 f2 y _ ?side1 ?side2 HGV.out).mono ?_); (case side1 => exact Kd.C_below (zbd HN.out).2.2 (taar)); (case side2 => exact (zbd HN.out).2.1); rintro e w12 ⟨v26, rfl, ho, hb⟩; refine ⟨_, rfl, ?_⟩; have HY := zad ho; have n1_ := zad (zbe (taar) hb); clear BK HBr hb ho hcz0 hcz1 hcz2; have HBr := n1_; clear n1_; obtain ⟨Ay, cy, ey⟩ := zbv HY.out; subst ey) | ((with_reducible refine zbf (f := 108) rfl ?_); refine zbn (some 27) rfl rfl Try.func108 (by kernel_rfl) rfl #[.slice Ay y.length cy] rfl (tabc) ?_; (with_reducible refine (spec_liRank.calls _ _ _ y z _ ?side1 ?side2 HRK.out).mono ?_); (case side1 => repeat (first | exact (zbd HY.out).2.2 | (with_reducible refine zal ?_ _) | (with_reducible refine zam ?_ _) | (with_reducible refine zan ?_))); (case side2 => exact (zbd HY.out).2.1); rintro e w14 ⟨v27, rfl, ho, hb⟩; refine ⟨_, rfl, ?_⟩; have hsz := zbk (taar); have HZ := zad (zbq (ok' := fun k => wr.heap.size ≤ k) (zbu (Kd.R_bound ho) (Nat.le_trans HB.out.size hsz)) (fun k hk => Nat.le_trans hsz hk.2.1)); have n1_ := zad (zbe (taar) hb); clear HBr hb ho HY hsz; have HBr := n1_; clear n1_; obtain ⟨Az, cz, ez⟩ := zbv HZ.out; subst ez) | ((with_reducible refine gate_builtin (b := .append) (xs := #[.tmp 28, .tmp 30]) rfl ?_); at_builtin; refine Kd.S_append (Kd.slice 3 (Kd.int .i64)) (w0 := w) w.heap.size rfl (.tmp 28) (.tmp 30) 55 26 (.slice none 0 0) 24 rfl Try.underlying55 info26 rfl (by decide) (by omega) _ L z [.slice Az z.length cz] (fun _ => True) (fun k_ => some k_ = (.slice Az z.length cz : Value).ownBlock) rfl rfl ?aP ?aK ?aF ?aO ?aB ?aS ?aL ?_; (case aP => exact Kd.M_row (zbq (Kd.R_tight rfl (tacr)) (fun _ h_ => h_))); (case aK => exact fun k_ hk_ => ⟨trivial, fun e_ => by have q1_ := HZ.out.1 k_ hk_.symm; have q2_ := Kd.S_lt HSB.out k_ e_.symm; omega⟩); (case aF => exact fun _ _ => trivial); (case aO => exact Kd.S_mono (Kd.S_below HSB.out (taar)) (fun k_ hk_ => ⟨trivial, fun e_ => by have q1_ := HZ.out.1 k_ e_.symm; omega⟩)); (case aB => exact zbe HB.out (taar)); (case aS => exact Nat.le_trans HB.out.size (zbk (taar))); (case aL => exact HLL.out); intro v31 w31 ho hb hg hat; have HS2 := zad ho; have HB2 := zad hb; have HN2 := zad (zbq (ok' := fun _ => True) (Kd.R_grown (tacr) hg (fun k_ hk_ e_ => by have q2_ := Kd.S_lt HSB.out k_ e_.symm; omega)) (fun _ _ => trivial)); clear ho hb hg hat HZ HSB HBr))
       go_roundg (l1.length - (i + 1))
       case measure => exact HM.out
       case rel => exact ⟨_, z, L ++ [z], (taag), HIN, ⟨by (with_reducible repeat (first | apply zai | apply zaj | apply zak)); exact HN2.out⟩, ⟨by (with_reducible repeat (first | apply Kd.S_alloc | apply Kd.S_drewN | apply Kd.S_drew)); exact HS2.out⟩, ⟨by repeat (first | (with_reducible first | exact HB2.out | apply zag | apply zae | apply zaf) | exact HB2.out)⟩⟩
     · rw [zbg.2 hk] at hkf
       rw [folA_none L x ⟨f0, f1, f2⟩ _ _ hk] at hfx
       obtain ⟨e1, e2⟩ := Prod.mk.inj hfx
       subst e1; subst e2; have HK := zad hkf; clear hk hkf hfx hi hi1 hgm hgx hLl hs1 hlt HSS; go_wp2_with (first | ((with_reducible refine gate_dst (N := 9) rfl ?_); refine box_event ?hg (N := 9) ?hd (cs := #[.int .i64 0, .int .i64 0, .int .i64 0]) (t := 39) ?hr ?_; (case hd => rfl); (case hg => rfl); (case hr => first | (go_simp; done) | (go_simp; rfl)); intro gb hg w8 hbox hb; have GE := zad ((by rw [hg]; exact (zbk (taar)) : wr.heap.size ≤ gb)); have n0_ := zad (zbe (taar) hb); have BK := zad hbox; clear HBr; have HBr := n0_; clear n0_ hb hbox hg; have hcz0 : w8.cell? ⟨gb, 0, none⟩ = some (.int .i64 0) := (zbi BK.out 0).trans rfl; have hcz1 : w8.cell? ⟨gb, 1, none⟩ = some (.int .i64 0) := (zbi BK.out 1).trans rfl; have hcz2 : w8.cell? ⟨gb, 2, none⟩ = some (.int .i64 0) := (zbi BK.out 2).trans rfl; have hfz0 := zbj BK.out 0; have hfz1 := zbj BK.out 1; have hfz2 := zbj BK.out 2) | ((with_reducible refine zbf (f := 99) rfl ?_); refine zbn (some 22) rfl rfl Try.func99 (by kernel_rfl) rfl #[.slice A6 x.length c6, .agg #[.int .i64 f0, .int .i64 f1, .int .i64 f2]] rfl (tabc) ?_; (with_reducible refine (spec_giKind.calls _ _ x f0 f1 f2 false _ ?side1 ?side2 HK.out).mono ?_); (case side1 => exact Kd.C_below (zbd HN.out).2.2 (tabh)); (case side2 => exact (zbd HN.out).2.1); rintro e w10 ⟨rfl, hb⟩; refine ⟨_, rfl, ?_⟩; have n1_ := zad (zbe (tabh) hb); clear HBr hb; have HBr := n1_; clear n1_))
       go_ret2
       exact ⟨_, rfl, Kd.S_nil _ _ _ _ _, zbe HB.out (taar)⟩
   · have hil : i = l1.length := by omega
     rw [hil, List.drop_eq_nil_of_le (zcf _)] at hfx
     have c3b0 : decide (x9 < (l1.length : Int)) = false := zbh (by omega)
     obtain ⟨e1, e2⟩ := Prod.mk.inj hfx
     rw [List.append_nil] at e1
     subst e1; subst e2; clear hfx hi hi1 hgm hgx hLl hlt hil hs1; go_wp2
     go_ret2
     exact ⟨_, rfl, tacq, taaa⟩
 next => cases h
def impl_FollowGifts.f (k : Nat) (l0 : List Int) (l1 : List (S39)) : Option ((List (List Int)) × Bool) := (impl_IsList.f k l0).bind fun t1451 => (if t1451 = true then ((impl_follow.f l0 l1).bind fun bt1452 => (if bt1452.2 = true then (some (bt1452.1, true)) else (some (([] : List (List Int)), false)))) else (some (([] : List (List Int)), false)))
theorem impl_FollowGifts.calls (k : Nat) (A0 : Option Addr) (c0 : Nat) (l0 : List Int) (A1 : Option Addr) (c1 : Nat) (l1 : List (S39)) (r1 : List (List Int)) (r2 : Bool) (w : World) (hr0 : Kd.C (Kd.int .i64) w A0 l0.length l0) (hc0 : l0.length ≤ c0) (hr1 : Kd.C k39 w A1 l1.length l1) (hc1 : l1.length ≤ c1) (h : impl_FollowGifts.f k l0 l1 = some (r1, r2)) :
 Calls Try.prog 75 #[.slice A0 l0.length c0, .slice A1 l1.length c1] w fun e w' => ∃ v0_ : Value, e = .returned (.tuple #[v0_, .bool r2]) ∧ Kd.S (Kd.slice 3 (Kd.int .i64)) 26 w' w.heap.size (fun _ => True) v0_ r1 ∧ Below w.heap.size w w' := by
 have HR0 := zad hr0; have HC0 := zad hc0; clear hr0 hc0; have HR1 := zad hr1; have HC1 := zad hc1; clear hr1 hc1; have HB := zad (Below.refl w.heap.size w)
 have H : ((impl_IsList.f k l0).bind fun t1451 => (if t1451 = true then ((impl_follow.f l0 l1).bind fun bt1452 => (if bt1452.2 = true then (some (bt1452.1, true)) else (some (([] : List (List Int)), false)))) else (some (([] : List (List Int)), false)))) = some (r1, r2) := h
 clear h; replace H := zay.mp H; obtain ⟨t1451, A30, H⟩ := H
 replace H : (if t1451 = true then ((impl_follow.f l0 l1).bind fun bt1452 => (if bt1452.2 = true then (some (bt1452.1, true)) else (some (([] : List (List Int)), false)))) else (some (([] : List (List Int)), false))) = some (r1, r2) := H
 have A3 := zad A30; clear A30; by_cases c4 : t1451 = true
 · subst c4
   have H1 : ((impl_follow.f l0 l1).bind fun bt1452 => (if bt1452.2 = true then (some (bt1452.1, true)) else (some (([] : List (List Int)), false)))) = some (r1, r2) := by rw [if_pos rfl] at H; exact H
   clear H; have H := H1; clear H1; replace H := zay.mp H; obtain ⟨⟨t1452, t1453⟩, A50, H⟩ := H
   replace H : (if t1453 = true then (some (t1452, true)) else (some (([] : List (List Int)), false))) = some (r1, r2) := H
   have A5 := zad A50; clear A50; by_cases c6 : t1453 = true
   · subst c6
     have H1 : (some (t1452, true)) = some (r1, r2) := by rw [if_pos rfl] at H; exact H
     clear H; have H := H1; clear H1; simp only [zbl, zbp] at H
     obtain ⟨rfl, rfl⟩ := H
     go_enter Try.func75, Try.ntmps75
     go_wp2_with (first | ((with_reducible refine zbf (f := 19) rfl ?_); refine zbn (some 9) rfl rfl Try.func19 (by kernel_rfl) rfl #[.slice A0 l0.length c0] rfl (taad) ?_; (with_reducible refine (impl_IsList.calls k _ _ l0 true _ ?side1 ?side2 A3.out).mono ?_); (case side1 => repeat (first | exact HR0.out | (with_reducible refine zal ?_ _) | (with_reducible refine zam ?_ _) | (with_reducible refine zan ?_))); (case side2 => exact HC0.out); rintro e w' ⟨rfl, ⟨nd, rfl⟩⟩; refine ⟨_, rfl, ?_⟩) | ((with_reducible refine zbf (f := 134) rfl ?_); refine zbn (some 14) rfl rfl Try.func134 (by kernel_rfl) rfl #[.slice A0 l0.length c0, .slice A1 l1.length c1] rfl (taad) ?_; (with_reducible refine (impl_follow.calls _ _ l0 _ _ l1 t1452 true _ ?side1 ?side2 ?side3 ?side4 A5.out).mono ?_); (case side1 => repeat (first | exact HR0.out | (with_reducible refine zal ?_ _) | (with_reducible refine zam ?_ _) | (with_reducible refine zan ?_))); (case side2 => exact HC0.out); (case side3 => repeat (first | exact HR1.out | (with_reducible refine zal ?_ _) | (with_reducible refine zam ?_ _) | (with_reducible refine zan ?_))); (case side4 => exact HC1.out); rintro e w7 ⟨v1454, rfl, ho0, hb⟩; refine ⟨_, rfl, ?_⟩; have n0_ := zad (Kd.S_lower ho0 (zbk (taaa))); have n1_ := zad (zbe (taaa) hb); clear HB; have HO1455 := n0_; have HB := n1_; clear n0_ n1_; (try clear hb); (try clear hb2); (try clear hk); (try clear hi); (try clear ho0)))
     go_ret2
     exact ⟨_, taah, by (with_reducible repeat (first | apply Kd.S_alloc | apply Kd.S_drewN | apply Kd.S_drew)); exact HO1455.out, taaa⟩
   · replace c6 := zbg.mpr c6
     subst c6; have H1 : (some (([] : List (List Int)), false)) = some (r1, r2) := by rw [if_neg (show ¬ (false = true) by decide)] at H; exact H
     clear H; have H := H1; clear H1; simp only [zbl, zbp] at H
     obtain ⟨rfl, rfl⟩ := H
     go_enter Try.func75, Try.ntmps75
     go_wp2_with (first | ((with_reducible refine zbf (f := 19) rfl ?_); refine zbn (some 9) rfl rfl Try.func19 (by kernel_rfl) rfl #[.slice A0 l0.length c0] rfl (taad) ?_; (with_reducible refine (impl_IsList.calls k _ _ l0 true _ ?side1 ?side2 A3.out).mono ?_); (case side1 => repeat (first | exact HR0.out | (with_reducible refine zal ?_ _) | (with_reducible refine zam ?_ _) | (with_reducible refine zan ?_))); (case side2 => exact HC0.out); rintro e w' ⟨rfl, ⟨nd, rfl⟩⟩; refine ⟨_, rfl, ?_⟩) | ((with_reducible refine zbf (f := 134) rfl ?_); refine zbn (some 14) rfl rfl Try.func134 (by kernel_rfl) rfl #[.slice A0 l0.length c0, .slice A1 l1.length c1] rfl (taad) ?_; (with_reducible refine (impl_follow.calls _ _ l0 _ _ l1 t1452 false _ ?side1 ?side2 ?side3 ?side4 A5.out).mono ?_); (case side1 => repeat (first | exact HR0.out | (with_reducible refine zal ?_ _) | (with_reducible refine zam ?_ _) | (with_reducible refine zan ?_))); (case side2 => exact HC0.out); (case side3 => repeat (first | exact HR1.out | (with_reducible refine zal ?_ _) | (with_reducible refine zam ?_ _) | (with_reducible refine zan ?_))); (case side4 => exact HC1.out); rintro e w8 ⟨v1454, rfl, ho0, hb⟩; refine ⟨_, rfl, ?_⟩; have n0_ := zad (Kd.S_lower ho0 (zbk (taaa))); have n1_ := zad (zbe (taaa) hb); clear HB; have HO1455 := n0_; have HB := n1_; clear n0_ n1_; (try clear hb); (try clear hb2); (try clear hk); (try clear hi); (try clear ho0)))
     go_ret2
     exact ⟨_, taah, tacs, taaa⟩
 · replace c4 := zbg.mpr c4
   subst c4; have H1 : (some (([] : List (List Int)), false)) = some (r1, r2) := by rw [if_neg (show ¬ (false = true) by decide)] at H; exact H
   clear H; have H := H1; clear H1; simp only [zbl, zbp] at H
   obtain ⟨rfl, rfl⟩ := H
   go_enter Try.func75, Try.ntmps75
   go_wp2_with (first | ((with_reducible refine zbf (f := 19) rfl ?_); refine zbn (some 9) rfl rfl Try.func19 (by kernel_rfl) rfl #[.slice A0 l0.length c0] rfl (taad) ?_; (with_reducible refine (impl_IsList.calls k _ _ l0 false _ ?side1 ?side2 A3.out).mono ?_); (case side1 => exact taeu); (case side2 => exact HC0.out); rintro e w' ⟨rfl, ⟨nd, rfl⟩⟩; refine ⟨_, rfl, ?_⟩))
   go_ret2
   exact ⟨_, taah, tacs, taaa⟩
def IsS75 (w0 W : World) (g : Nat) (f0 : List Int) (f1 : Int) (f2 : Int) : Prop := ∃ A0 c0, W.heap[g]? = some (.cells #[.slice A0 f0.length c0, .int .i64 f1, .int .u64 f2] 75 (0, 0)) ∧ w0.heap.size ≤ g ∧ Kd.C (Kd.int .u8) w0 A0 f0.length f0
theorem IsS75.grown {w0 W : World} {g : Nat} {f0 : List Int} {f1 : Int} {f2 : Int} {W1 : World} {row : Option Nat} (h : IsS75 w0 W g f0 f1 f2) (hw : W.grownBy W1 row) (hne : some g ≠ row) : IsS75 w0 W1 g f0 f1 f2 := by
 obtain ⟨A0, c0, hb, hg, hr0⟩ := h
 exact ⟨A0, c0, blk_grown hb hw hne, hg, hr0⟩
theorem IsS75.below {w0 W : World} {g : Nat} {f0 : List Int} {f1 : Int} {f2 : Int} {W1 : World} (h : IsS75 w0 W g f0 f1 f2) (hw : Below W.heap.size W W1) : IsS75 w0 W1 g f0 f1 f2 := h.grown (grown_of_below hw none) (taac)
theorem IsS75.alloc {w0 W : World} {g : Nat} {f0 : List Int} {f1 : Int} {f2 : Int} (h : IsS75 w0 W g f0 f1 f2) (o : Obj) : IsS75 w0 (W.alloc o) g f0 f1 f2 := h.below (zag (Below.refl _ _) o)
theorem IsS75.drewN {w0 W : World} {g : Nat} {f0 : List Int} {f1 : Int} {f2 : Int} (h : IsS75 w0 W g f0 f1 f2) (m : Nat) : IsS75 w0 (W.drewN m) g f0 f1 f2 := h
theorem IsS75.drew {w0 W : World} {g : Nat} {f0 : List Int} {f1 : Int} {f2 : Int} (h : IsS75 w0 W g f0 f1 f2) : IsS75 w0 W.drew g f0 f1 f2 := h
theorem IsS75.at_ {w0 W : World} {g : Nat} {f0 : List Int} {f1 : Int} {f2 : Int} {w' : World} {m : Nat} (hq : W.drewN m = w') (h : IsS75 w0 W g f0 f1 f2) : IsS75 w0 w' g f0 f1 f2 := by subst hq; exact IsS75.drewN h m
theorem IsS75.apart {w0 W : World} {g : Nat} {f0 : List Int} {f1 : Int} {f2 : Int} {α : Type} {d : Kd α} {e : Nat} {base : Nat} {ok : Nat → Prop} {v : Value} {xs : List α} (h : IsS75 w0 W g f0 f1 f2) (ho : d.R e W base ok v xs) (ht : ∀ q, q ∈ e :: d.E → q ≠ 75) : d.R e W base (fun k => ok k ∧ k ≠ g) v xs := by
 obtain ⟨A0, c0, hb, hg, hr0⟩ := h
 exact Kd.R_types ho hb ht
theorem IsS75.own_ne {w0 W : World} {g : Nat} {f0 : List Int} {f1 : Int} {f2 : Int} {α : Type} {d : Kd α} {e : Nat} {base : Nat} {ok : Nat → Prop} {v : Value} {xs : List α} (h : IsS75 w0 W g f0 f1 f2) (ho : d.R e W base ok v xs) (ht : e ≠ 75) : some g ≠ v.ownBlock := by
 obtain ⟨A0, c0, hb, hg, hr0⟩ := h
 exact Kd.R_ne ho hb ht
theorem IsS75.lt {w0 W : World} {g : Nat} {f0 : List Int} {f1 : Int} {f2 : Int} (h : IsS75 w0 W g f0 f1 f2) : g < W.heap.size := by
 obtain ⟨A0, c0, hb, hg, hr0⟩ := h
 exact blk_lt hb
theorem IsS75.ge {w0 W : World} {g : Nat} {f0 : List Int} {f1 : Int} {f2 : Int} (h : IsS75 w0 W g f0 f1 f2) : w0.heap.size ≤ g := by
 obtain ⟨A0, c0, hb, hg, hr0⟩ := h
 exact hg
theorem IsS75.far {w0 W : World} {g : Nat} {f0 : List Int} {f1 : Int} {f2 : Int} {p : Addr} (h : IsS75 w0 W g f0 f1 f2) (hne : g ≠ p.block) (u : Value) : IsS75 w0 (W.setCell p u) g f0 f1 f2 := by
 obtain ⟨A0, c0, hb, hg, hr0⟩ := h
 exact ⟨A0, c0, blk_far hb hne u, hg, hr0⟩
theorem cellS75_0 {W : World} {g : Nat} {A0 : Option Addr} {c0 : Nat} {f0 : List Int} {f1 : Int} {f2 : Int} (h : W.heap[g]? = some (.cells #[.slice A0 f0.length c0, .int .i64 f1, .int .u64 f2] 75 (0, 0))) : W.cell? ⟨g, 0, none⟩ = some (.slice A0 f0.length c0) := (zbi h 0).trans rfl
theorem cellS75_1 {W : World} {g : Nat} {A0 : Option Addr} {c0 : Nat} {f0 : List Int} {f1 : Int} {f2 : Int} (h : W.heap[g]? = some (.cells #[.slice A0 f0.length c0, .int .i64 f1, .int .u64 f2] 75 (0, 0))) : W.cell? ⟨g, 1, none⟩ = some (.int .i64 f1) := (zbi h 1).trans rfl
theorem IsS75.set_1 {w0 W : World} {g : Nat} {f0 : List Int} {f1 : Int} {f2 : Int} (h : IsS75 w0 W g f0 f1 f2) (x : Int) : IsS75 w0 (W.setCell ⟨g, 1, none⟩ (.int .i64 x)) g f0 x f2 := by
 obtain ⟨A0, c0, hb, hg, hr0⟩ := h
 exact ⟨A0, c0, by simpa using blk_set hb 1 (.int .i64 x), hg, hr0⟩
theorem cellS75_2 {W : World} {g : Nat} {A0 : Option Addr} {c0 : Nat} {f0 : List Int} {f1 : Int} {f2 : Int} (h : W.heap[g]? = some (.cells #[.slice A0 f0.length c0, .int .i64 f1, .int .u64 f2] 75 (0, 0))) : W.cell? ⟨g, 2, none⟩ = some (.int .u64 f2) := (zbi h 2).trans rfl
theorem IsS75.set_2 {w0 W : World} {g : Nat} {f0 : List Int} {f1 : Int} {f2 : Int} (h : IsS75 w0 W g f0 f1 f2) (x : Int) : IsS75 w0 (W.setCell ⟨g, 2, none⟩ (.int .u64 x)) g f0 f1 x := by
 obtain ⟨A0, c0, hb, hg, hr0⟩ := h
 exact ⟨A0, c0, by simpa using blk_set hb 2 (.int .u64 x), hg, hr0⟩
def spec_l1Cur_next.f (s0_0 : List Int) (s0_1 : Int) (s0_2 : Int) : Option (Int × Int × Int) := if s0_1 < (s0_0.length : Int) then (if 0 ≤ s0_1 then (if (wrap64 (s0_1 + 1)) ≤ (s0_0.length : Int) then (some (wrap64 (rd s0_0 s0_1), wrap64 (s0_1 + 1), IntKind.u64.wrap ((IntKind.u64.wrap ((IntKind.u64.wrap (s0_2 * 6364136223846793005)) + (IntKind.u64.wrap (wrap64 (rd s0_0 s0_1))))) + 1442695040888963407))) else (some (wrap64 (Go.bits .and .u64 ((IntKind.u64.wrap ((IntKind.u64.wrap ((IntKind.u64.wrap (s0_2 * 6364136223846793005)) + (IntKind.u64.wrap (wrap64 (rd s0_0 s0_1))))) + 1442695040888963407)) / 1099511627776) 255), wrap64 (s0_1 + 1), IntKind.u64.wrap ((IntKind.u64.wrap ((IntKind.u64.wrap (s0_2 * 6364136223846793005)) + (IntKind.u64.wrap (wrap64 (rd s0_0 s0_1))))) + 1442695040888963407)))) else (none)) else (if (wrap64 (s0_1 + 1)) ≤ (s0_0.length : Int) then (some (0, wrap64 (s0_1 + 1), IntKind.u64.wrap ((IntKind.u64.wrap ((IntKind.u64.wrap (s0_2 * 6364136223846793005)) + 0)) + 1442695040888963407))) else (some (wrap64 (Go.bits .and .u64 ((IntKind.u64.wrap ((IntKind.u64.wrap ((IntKind.u64.wrap (s0_2 * 6364136223846793005)) + 0)) + 1442695040888963407)) / 1099511627776) 255), wrap64 (s0_1 + 1), IntKind.u64.wrap ((IntKind.u64.wrap ((IntKind.u64.wrap (s0_2 * 6364136223846793005)) + 0)) + 1442695040888963407))))
theorem spec_l1Cur_next.calls (g : Nat) (s0_0 : List Int) (s0_1 : Int) (s0_2 : Int) (r1 : Int) (r2 : Int) (r3 : Int) (w0 w : World) (hI : IsS75 w0 w g s0_0 s0_1 s0_2) (hB : Below w0.heap.size w0 w) (h : spec_l1Cur_next.f s0_0 s0_1 s0_2 = some (r1, r2, r3)) :
 Calls Try.prog 145 #[.pointer (some ⟨g, 0, none⟩)] w fun e w' => e = .returned (.int .i64 r1) ∧ IsS75 w0 w' g s0_0 r2 r3 ∧ Below w0.heap.size w0 w' ∧ KeepBut w w' g none := by
 have HI0 := zad hI; have HK := zad (KeepBut.refl w g none)
 have HL := zad hB.size; clear hI; have HW0 := zad hB.size; have HB := zad hB; clear hB; have H : (if s0_1 < (s0_0.length : Int) then (if 0 ≤ s0_1 then (if (wrap64 (s0_1 + 1)) ≤ (s0_0.length : Int) then (some (wrap64 (rd s0_0 s0_1), wrap64 (s0_1 + 1), IntKind.u64.wrap ((IntKind.u64.wrap ((IntKind.u64.wrap (s0_2 * 6364136223846793005)) + (IntKind.u64.wrap (wrap64 (rd s0_0 s0_1))))) + 1442695040888963407))) else (some (wrap64 (Go.bits .and .u64 ((IntKind.u64.wrap ((IntKind.u64.wrap ((IntKind.u64.wrap (s0_2 * 6364136223846793005)) + (IntKind.u64.wrap (wrap64 (rd s0_0 s0_1))))) + 1442695040888963407)) / 1099511627776) 255), wrap64 (s0_1 + 1), IntKind.u64.wrap ((IntKind.u64.wrap ((IntKind.u64.wrap (s0_2 * 6364136223846793005)) + (IntKind.u64.wrap (wrap64 (rd s0_0 s0_1))))) + 1442695040888963407)))) else (none)) else (if (wrap64 (s0_1 + 1)) ≤ (s0_0.length : Int) then (some (0, wrap64 (s0_1 + 1), IntKind.u64.wrap ((IntKind.u64.wrap ((IntKind.u64.wrap (s0_2 * 6364136223846793005)) + 0)) + 1442695040888963407))) else (some (wrap64 (Go.bits .and .u64 ((IntKind.u64.wrap ((IntKind.u64.wrap ((IntKind.u64.wrap (s0_2 * 6364136223846793005)) + 0)) + 1442695040888963407)) / 1099511627776) 255), wrap64 (s0_1 + 1), IntKind.u64.wrap ((IntKind.u64.wrap ((IntKind.u64.wrap (s0_2 * 6364136223846793005)) + 0)) + 1442695040888963407))))) = some (r1, r2, r3) := h
 clear h; by_cases c2 : s0_1 < (s0_0.length : Int)
 · rw [if_pos c2] at H
   have c2b0 : decide (s0_1 < (s0_0.length : Int)) = true := zba c2
   clear c2; by_cases c3 : 0 ≤ s0_1
   · rw [if_pos c3] at H
     have c3b0 : decide (0 ≤ s0_1) = true := zba c3
     clear c3; by_cases c4 : (wrap64 (s0_1 + 1)) ≤ (s0_0.length : Int)
     · rw [if_pos c4] at H
       have c4b0 : decide ((wrap64 (s0_1 + 1)) ≤ (s0_0.length : Int)) = true := zba c4
       clear c4; simp only [zbl, zbp] at H
       obtain ⟨rfl, rfl, rfl⟩ := H
       obtain ⟨ASz5_0, cSz5_0, HGz5, hgz5, HSz5_0⟩ := HI0.out
       have hcz5_0 := cellS75_0 HGz5; have hcz5_1 := cellS75_1 HGz5; have hcz5_2 := cellS75_2 HGz5; have hfz5_1 := zbj HGz5 1
       have hfz5_2 := zbj HGz5 2
       clear HGz5 hgz5; have p101 : 0 ≤ (s0_1 : Int) := zas (taab)
       have q101 : s0_1 < (s0_0.length : Int) := zas (taab)
       obtain ⟨ad101, e101, hx101_0⟩ := zca HSz5_0 s0_1 p101 q101
       cases e101
       replace hx101_0 := pw_cell_below HB.out hx101_0
       replace p101 := eq_true p101
       replace q101 := eq_true q101
       go_enter Try.func145, Try.ntmps145
       go_wp2
       repeat (go_quiet (fail); try go_wp2)
       go_ret
       exact ⟨taah, tact, tacu, taae⟩
     · rw [if_neg c4] at H
       have c4b0 : decide ((wrap64 (s0_1 + 1)) ≤ (s0_0.length : Int)) = false := zbh c4
       clear c4; simp only [zbl, zbp] at H
       obtain ⟨rfl, rfl, rfl⟩ := H
       obtain ⟨ASz6_0, cSz6_0, HGz6, hgz6, HSz6_0⟩ := HI0.out
       have hcz6_0 := cellS75_0 HGz6; have hcz6_1 := cellS75_1 HGz6; have hcz6_2 := cellS75_2 HGz6; have hfz6_1 := zbj HGz6 1
       have hfz6_2 := zbj HGz6 2
       clear HGz6 hgz6; have p101 : 0 ≤ (s0_1 : Int) := zas (taab)
       have q101 : s0_1 < (s0_0.length : Int) := zas (taab)
       obtain ⟨ad101, e101, hx101_0⟩ := zca HSz6_0 s0_1 p101 q101
       cases e101
       replace hx101_0 := pw_cell_below HB.out hx101_0
       replace p101 := eq_true p101
       replace q101 := eq_true q101
       go_enter Try.func145, Try.ntmps145
       go_wp2
       repeat (go_quiet (fail); try go_wp2)
       go_ret
       exact ⟨taah, tact, tacu, taae⟩
   · rw [if_neg c3] at H
     exact absurd H (taac)
 · rw [if_neg c2] at H
   have c2b0 : decide (s0_1 < (s0_0.length : Int)) = false := zbh c2
   clear c2; by_cases c7 : (wrap64 (s0_1 + 1)) ≤ (s0_0.length : Int)
   · rw [if_pos c7] at H
     have c7b0 : decide ((wrap64 (s0_1 + 1)) ≤ (s0_0.length : Int)) = true := zba c7
     clear c7; simp only [zbl, zbp] at H
     obtain ⟨rfl, rfl, rfl⟩ := H
     obtain ⟨ASz8_0, cSz8_0, HGz8, hgz8, HSz8_0⟩ := HI0.out
     have hcz8_0 := cellS75_0 HGz8; have hcz8_1 := cellS75_1 HGz8; have hcz8_2 := cellS75_2 HGz8; have hfz8_1 := zbj HGz8 1
     have hfz8_2 := zbj HGz8 2
     clear HGz8 hgz8; go_enter Try.func145, Try.ntmps145
     go_wp2
     repeat (go_quiet (fail); try go_wp2)
     go_ret
     exact ⟨taah, tact, tacu, taae⟩
   · rw [if_neg c7] at H
     have c7b0 : decide ((wrap64 (s0_1 + 1)) ≤ (s0_0.length : Int)) = false := zbh c7
     clear c7; simp only [zbl, zbp] at H
     obtain ⟨rfl, rfl, rfl⟩ := H
     obtain ⟨ASz9_0, cSz9_0, HGz9, hgz9, HSz9_0⟩ := HI0.out
     have hcz9_0 := cellS75_0 HGz9; have hcz9_1 := cellS75_1 HGz9; have hcz9_2 := cellS75_2 HGz9; have hfz9_1 := zbj HGz9 1
     have hfz9_2 := zbj HGz9 2
     clear HGz9 hgz9; go_enter Try.func145, Try.ntmps145
     go_wp2
     repeat (go_quiet (fail); try go_wp2)
     go_ret
     exact ⟨taah, tact, tacu, taae⟩
abbrev zcg := @IsS75.alloc
abbrev zch := @IsS75.drewN
abbrev zci := @IsS75.drew
abbrev zcj := @IsS75.apart
abbrev zck := @IsS75.own_ne
abbrev zcl := @IsS75.ge
abbrev zcm := @IsS75.far
abbrev zcn := @IsS75.set_1
abbrev zco := @IsS75.set_2
def spec_l1Cur_pick.f (s0_0 : List Int) (s0_1 : Int) (s0_2 : Int) (a1 : Int) : Option (Int × Int × Int) := if a1 ≤ 1 then (some (0, s0_1, s0_2)) else ((spec_l1Cur_next.f s0_0 s0_1 s0_2).bind fun bt102 => (if a1 > 200 then ((spec_l1Cur_next.f s0_0 bt102.2.1 bt102.2.2).bind fun bt105 => (if a1 = 0 then (none) else (some (Int.tmod (wrap64 ((wrap64 (bt102.1 * 256)) + bt105.1)) a1, bt105.2.1, bt105.2.2)))) else (if a1 = 0 then (none) else (some (Int.tmod bt102.1 a1, bt102.2.1, bt102.2.2)))))
theorem spec_l1Cur_pick.calls (g : Nat) (s0_0 : List Int) (s0_1 : Int) (s0_2 : Int) (a1 : Int) (r1 : Int) (r2 : Int) (r3 : Int) (w0 w : World) (hI : IsS75 w0 w g s0_0 s0_1 s0_2) (hB : Below w0.heap.size w0 w) (h : spec_l1Cur_pick.f s0_0 s0_1 s0_2 a1 = some (r1, r2, r3)) :
 Calls Try.prog 80 #[.pointer (some ⟨g, 0, none⟩), .int .i64 a1] w fun e w' => e = .returned (.int .i64 r1) ∧ IsS75 w0 w' g s0_0 r2 r3 ∧ Below w0.heap.size w0 w' ∧ KeepBut w w' g none := by
 have HI0 := zad hI; have HK := zad (KeepBut.refl w g none)
 have HL := zad hB.size; clear hI; have HW0 := zad hB.size; have HB := zad hB; clear hB; have H : (if a1 ≤ 1 then (some (0, s0_1, s0_2)) else ((spec_l1Cur_next.f s0_0 s0_1 s0_2).bind fun bt102 => (if a1 > 200 then ((spec_l1Cur_next.f s0_0 bt102.2.1 bt102.2.2).bind fun bt105 => (if a1 = 0 then (none) else (some (Int.tmod (wrap64 ((wrap64 (bt102.1 * 256)) + bt105.1)) a1, bt105.2.1, bt105.2.2)))) else (if a1 = 0 then (none) else (some (Int.tmod bt102.1 a1, bt102.2.1, bt102.2.2)))))) = some (r1, r2, r3) := h
 clear h; by_cases c3 : a1 ≤ 1
 · rw [if_pos c3] at H
   have c3b0 : decide (a1 ≤ 1) = true := zba c3
   clear c3; simp only [zbl, zbp] at H
   obtain ⟨rfl, rfl, rfl⟩ := H
   go_enter Try.func80, Try.ntmps80
   go_wp2
   go_ret
   exact ⟨taah, taaf, taal, taae⟩
 · rw [if_neg c3] at H
   have c3b0 : decide (a1 ≤ 1) = false := zbh c3
   clear c3; replace H := zay.mp H; obtain ⟨⟨t102, t103, t104⟩, A40, H⟩ := H
   replace H : (if a1 > 200 then ((spec_l1Cur_next.f s0_0 t103 t104).bind fun bt105 => (if a1 = 0 then (none) else (some (Int.tmod (wrap64 ((wrap64 (t102 * 256)) + bt105.1)) a1, bt105.2.1, bt105.2.2)))) else (if a1 = 0 then (none) else (some (Int.tmod t102 a1, t103, t104)))) = some (r1, r2, r3) := H
   have A4 := zad A40; clear A40; by_cases c5 : a1 > 200
   · rw [if_pos c5] at H
     have c5b0 : decide (200 < a1) = true := zba c5
     clear c5; replace H := zay.mp H; obtain ⟨⟨t105, t106, t107⟩, A60, H⟩ := H
     replace H : (if a1 = 0 then (none) else (some (Int.tmod (wrap64 ((wrap64 (t102 * 256)) + t105)) a1, t106, t107))) = some (r1, r2, r3) := H
     have A6 := zad A60; clear A60; by_cases c7 : a1 = 0
     · rw [if_pos c7] at H
       exact absurd H (taac)
     · rw [if_neg c7] at H
       have c7b0 : (a1 == 0) = false := zbo.mpr c7
       have c7b1 : (a1 != 0) = true := bne_iff_ne.mpr c7
       simp only [zbl, zbp] at H
       obtain ⟨rfl, rfl, rfl⟩ := H
       go_enter Try.func80, Try.ntmps80
       go_wp2_with (first | ((with_reducible refine zbf (f := 145) rfl ?_); refine zbn (some 9) rfl rfl Try.func145 (by kernel_rfl) rfl #[.pointer (some ⟨g, 0, none⟩)] rfl (taad) ?_; (with_reducible refine (spec_l1Cur_next.calls g s0_0 s0_1 s0_2 t102 t103 t104 w0 _ ?side1 ?side2 A4.out).mono ?_); (case side1 => repeat (first | (with_reducible first | exact HI0.out | apply zcg | apply zch | apply zci | apply zcn | apply zco) | exact HI0.out)); (case side2 => repeat (first | (with_reducible first | exact HB.out | apply zag | apply zae | apply zaf | refine zah ?_ (zcl HI0.out)) | exact HB.out)); rintro e w8 ⟨rfl, hi, hb, hk⟩; refine ⟨_, rfl, ?_⟩; have n0_ := zad (zbs (taae) hk (.inl rfl)); have n1_ := zad (hb); have n2_ := zad (hi); clear HK HB HI0; have HK := n0_; have HB := n1_; have HI0 := n2_; clear n0_ n1_ n2_; (try clear hb); (try clear hb2); (try clear hk); (try clear hi)) | ((with_reducible refine zbf (f := 145) rfl ?_); refine zbn (some 15) rfl rfl Try.func145 (by kernel_rfl) rfl #[.pointer (some ⟨g, 0, none⟩)] rfl (taad) ?_; (with_reducible refine (spec_l1Cur_next.calls g s0_0 t103 t104 t105 t106 t107 w0 _ ?side1 ?side2 A6.out).mono ?_); (case side1 => repeat (first | (with_reducible first | exact HI0.out | apply zcg | apply zch | apply zci | apply zcn | apply zco) | exact HI0.out)); (case side2 => repeat (first | (with_reducible first | exact HB.out | apply zag | apply zae | apply zaf | refine zah ?_ (zcl HI0.out)) | exact HB.out)); rintro e w9 ⟨rfl, hi, hb, hk⟩; refine ⟨_, rfl, ?_⟩; have n0_ := zad (zbs (taae) hk (.inl rfl)); have n1_ := zad (hb); have n2_ := zad (hi); clear HK HB HI0; have HK := n0_; have HB := n1_; have HI0 := n2_; clear n0_ n1_ n2_; (try clear hb); (try clear hb2); (try clear hk); (try clear hi)))
       go_ret
       exact ⟨taah, taaf, taal, taae⟩
   · rw [if_neg c5] at H
     have c5b0 : decide (200 < a1) = false := zbh c5
     clear c5; by_cases c10 : a1 = 0
     · rw [if_pos c10] at H
       exact absurd H (taac)
     · rw [if_neg c10] at H
       have c10b0 : (a1 == 0) = false := zbo.mpr c10
       have c10b1 : (a1 != 0) = true := bne_iff_ne.mpr c10
       simp only [zbl, zbp] at H
       obtain ⟨rfl, rfl, rfl⟩ := H
       go_enter Try.func80, Try.ntmps80
       go_wp2_with (first | ((with_reducible refine zbf (f := 145) rfl ?_); refine zbn (some 9) rfl rfl Try.func145 (by kernel_rfl) rfl #[.pointer (some ⟨g, 0, none⟩)] rfl (taad) ?_; (with_reducible refine (spec_l1Cur_next.calls g s0_0 s0_1 s0_2 t102 t103 t104 w0 _ ?side1 ?side2 A4.out).mono ?_); (case side1 => exact taew); (case side2 => exact taex); rintro e w11 ⟨rfl, hi, hb, hk⟩; refine ⟨_, rfl, ?_⟩; have n0_ := zad (zbs (taae) hk (.inl rfl)); have n1_ := zad (hb); have n2_ := zad (hi); clear HK HB HI0; have HK := n0_; have HB := n1_; have HI0 := n2_; clear n0_ n1_ n2_; (try clear hb); (try clear hb2); (try clear hk); (try clear hi)))
       go_ret
       exact ⟨taah, taaf, taal, taae⟩
def spec_l1Cur_list.l0 : Nat → Int → List Int → Int → List Int → Int → Int → Option (List Int × Int × Int)
 | 0, _, _, _, _, _, _ => none
 | k + 1, x1, x5, x6, x1000, x1001, x1002 => if x6 > 0 then ((spec_l1Cur_pick.f x1000 x1001 x1002 (wrap64 (x1 + 1))).bind fun bt167 => (if x5.length < 17592186044416 then (spec_l1Cur_list.l0 k x1 (x5 ++ [bt167.1]) (wrap64 (x6 - 1)) x1000 bt167.2.1 bt167.2.2) else (none))) else (some (x5, x1001, x1002))
def spec_l1Cur_list.f (k : Nat) (s0_0 : List Int) (s0_1 : Int) (s0_2 : Int) (a1 : Int) : Option (List Int × Int × Int) := (spec_l1Cur_pick.f s0_0 s0_1 s0_2 6).bind fun bt164 => (spec_l1Cur_list.l0 k a1 ([] : List Int) (wrap64 (1 + bt164.1)) s0_0 bt164.2.1 bt164.2.2)
theorem spec_l1Cur_list.calls (k : Nat) (g : Nat) (s0_0 : List Int) (s0_1 : Int) (s0_2 : Int) (a1 : Int) (r1 : List Int) (r2 : Int) (r3 : Int) (w0 w : World) (hI : IsS75 w0 w g s0_0 s0_1 s0_2) (hB : Below w0.heap.size w0 w) (h : spec_l1Cur_list.f k s0_0 s0_1 s0_2 a1 = some (r1, r2, r3)) :
 Calls Try.prog 109 #[.pointer (some ⟨g, 0, none⟩), .int .i64 a1] w fun e w' => ∃ v0_ : Value, e = .returned (v0_) ∧ Kd.R (Kd.int .i64) 3 w' w.heap.size (fun _ => True) v0_ r1 ∧ IsS75 w0 w' g s0_0 r2 r3 ∧ Below w0.heap.size w0 w' ∧ KeepBut w w' g none := by
 have HI0 := zad hI; have HK := zad (KeepBut.refl w g none)
 have HL := zad hB.size; clear hI; have HW0 := zad hB.size; have HB := zad hB; clear hB; have H : ((spec_l1Cur_pick.f s0_0 s0_1 s0_2 6).bind fun bt164 => (spec_l1Cur_list.l0 k a1 ([] : List Int) (wrap64 (1 + bt164.1)) s0_0 bt164.2.1 bt164.2.2)) = some (r1, r2, r3) := h
 clear h; replace H := zay.mp H; obtain ⟨⟨t164, t165, t166⟩, A30, H⟩ := H
 replace H : (spec_l1Cur_list.l0 k a1 ([] : List Int) (wrap64 (1 + t164)) s0_0 t165 t166) = some (r1, r2, r3) := H
 have A3 := zad A30; clear A30; have H' := zad H
 clear H; go_enter Try.func109, Try.ntmps109
 go_wp2_with (first | ((with_reducible refine zbf (f := 80) rfl ?_); refine zbn (some 8) rfl rfl Try.func80 (by kernel_rfl) rfl #[.pointer (some ⟨g, 0, none⟩), .int .i64 6] rfl (taad) ?_; (with_reducible refine (spec_l1Cur_pick.calls g s0_0 s0_1 s0_2 6 t164 t165 t166 w0 _ ?side1 ?side2 A3.out).mono ?_); (case side1 => exact taew); (case side2 => exact taex); rintro e w4 ⟨rfl, hi, hb, hk⟩; refine ⟨_, rfl, ?_⟩; have n0_ := zad (zbs (taae) hk (.inl rfl)); have n1_ := zad (hb); have n2_ := zad (hi); clear HK HB HI0; have HK := n0_; have HB := n1_; have HI0 := n2_; clear n0_ n1_ n2_; (try clear hb); (try clear hb2); (try clear hk); (try clear hi)))
 go_loopg [5, 6] k (fun kq v5 v6 w' => ∃ (x5_1 : List Int) (x6_1 : Int) (x1001_1 : Int) (x1002_1 : Int), v6 = .int .i64 x6_1 ∧ Aside0 (spec_l1Cur_list.l0 kq a1 x5_1 x6_1 s0_0 x1001_1 x1002_1 = some (r1, r2, r3)) ∧ Aside0 (kq ≤ k) ∧ Aside0 (Kd.R (Kd.int .i64) 3 w' w.heap.size (fun _ => True) v5 x5_1) ∧ Aside0 (IsS75 w0 w' g s0_0 x1001_1 x1002_1) ∧ Aside0 (KeepBut w w' g none) ∧ Aside0 (Below w0.heap.size w0 w'))
 case atStart => exact ⟨(([] : List Int)), (wrap64 (1 + t164)), (t165), (t166), (taag), H', ⟨zcf _⟩, ⟨tabl⟩, ⟨taaf⟩, ⟨taae⟩, ⟨taal⟩⟩
 case round =>
  clear H'
  try clear c1
  try clear p2
  obtain ⟨x5_1, x6_1, x1001_1, x1002_1, rfl, HA, HK1, HO_5, HI0, HK, HB⟩ := hrel
  cases gk with
  | zero => exact absurd HA.out (by simp [spec_l1Cur_list.l0])
  | succ k1 =>
   have H := HA.out
   clear HA; simp only [spec_l1Cur_list.l0] at H
   by_cases c5 : x6_1 > 0
   · rw [if_pos c5] at H
     have c5b0 : decide (0 < x6_1) = true := zba c5
     clear c5; replace H := zay.mp H; obtain ⟨⟨t167, t168, t169⟩, A60, H⟩ := H
     replace H : (if x5_1.length < 17592186044416 then (spec_l1Cur_list.l0 k1 a1 (x5_1 ++ [t167]) (wrap64 (x6_1 - 1)) s0_0 t168 t169) else (none)) = some (r1, r2, r3) := H
     have A6 := zad A60; clear A60; by_cases c7 : x5_1.length < 17592186044416
     · rw [if_pos c7] at H
       have LMc7 := zad c7; clear c7; obtain ⟨y170, hy170⟩ : ∃ y_ : List Int, y_ = (x5_1 ++ [t167]) := ⟨_, rfl⟩
       replace H : (spec_l1Cur_list.l0 k1 a1 y170 (wrap64 (x6_1 - 1)) s0_0 t168 t169) = some (r1, r2, r3) := by first | (rw [hy170]; with_reducible exact H) | (have H2_ := (zbb _ _).symm.trans H; rw [hy170]; with_reducible exact H2_) | (have H2_ := (zbb _ _).symm.trans H; with_reducible exact H2_) | with_reducible exact H | (rw [hy170]; exact H) | exact H
       have Ny170 := zad hy170; clear hy170; have H' := zad H
       clear H; go_wp2_with (first | ((with_reducible refine zbf (f := 80) rfl ?_); refine zbn (some 18) rfl rfl Try.func80 (by kernel_rfl) rfl #[.pointer (some ⟨g, 0, none⟩), .int .i64 (wrap64 (a1 + 1))] rfl (taad) ?_; (with_reducible refine (spec_l1Cur_pick.calls g s0_0 x1001_1 x1002_1 (wrap64 (a1 + 1)) t167 t168 t169 w0 _ ?side1 ?side2 A6.out).mono ?_); (case side1 => exact taew); (case side2 => exact taex); rintro e w8 ⟨rfl, hi, hb, hk⟩; refine ⟨_, rfl, ?_⟩; have n0_ := zad (zbq (zbr (zcj (show IsS75 w0 _ g s0_0 x1001_1 x1002_1 from by exact taes) (taao) (by decide)) hk (fun _ h => h.2)) (fun _ h => h.1)); have n1_ := zad (zbs (taae) hk (.inl rfl)); have n2_ := zad (hb); have n3_ := zad (hi); clear HO_5 HK HB HI0; have HO_5 := n0_; have HK := n1_; have HB := n2_; have HI0 := n3_; clear n0_ n1_ n2_ n3_; (try clear hb); (try clear hb2); (try clear hk); (try clear hi)) | ((with_reducible refine gate_builtin (b := .append) (xs := #[.tmp 14, .tmp 19]) rfl ?_); at_builtin; refine Kd.R_append (Kd.int .i64) w.heap.size rfl (.tmp 14) (.tmp 19) 26 3 (.int .i64 0) 8 rfl Try.underlying26 info3 rfl (by decide) (by omega) u5 x5_1 t167 [.int .i64 t167] (fun _ => True) (fun _ => False) rfl rfl ?aP (fun _ hk => hk.elim) ?aF ?aO (Below.refl _ _) ?aS ?aL ?_; (case aP => exact rfl); (case aF => exact (fun _ _ => trivial)); (case aO => exact (taao)); (case aS => exact (keep_size (w := w) (g := g) (row := none) (taae))); (case aL => have := LMc7.out; omega); intro v171 w9 ho hb hg hat; rw [← Ny170.out] at ho; have n0_ := zad (IsS75.grown (taaf) hg (zck HI0.out HO_5.out (by decide))); have n1_ := zad (below_weaken (taal) HL.out hb); have n2_ := zad (zbs (taae) (KeepBut.of_grown hg g) (Kd.R_base2 HO_5.out)); have n3_ := zad (ho); clear HI0 HB HK HO_5; have HI0 := n0_; have HB := n1_; have HK := n2_; have HO172 := n3_; clear n0_ n1_ n2_ n3_ ho hb hg hat))
       go_roundg k1
       case measure => have := HK1.out; omega
       case rel => exact ⟨(y170), (wrap64 (x6_1 - 1)), (t168), (t169), (taag), H', ⟨taau⟩, ⟨by (with_reducible repeat (first | apply zai | apply zaj | apply zak)); exact HO172.out⟩, ⟨taaf⟩, ⟨taae⟩, ⟨taal⟩⟩
     · rw [if_neg c7] at H
       exact absurd H (taac)
   · rw [if_neg c5] at H
     have c5b0 : decide (0 < x6_1) = false := zbh c5
     clear c5; simp only [zbl, zbp] at H
     obtain ⟨rfl, rfl, rfl⟩ := H
     go_wp2
     go_ret
     exact ⟨_, taah, taao, taaf, taal, taae⟩
def spec_l1Cur_one.f (s0_0 : List Int) (s0_1 : Int) (s0_2 : Int) (a1 : Int) : Option (Bool × Int × Int) := (spec_l1Cur_pick.f s0_0 s0_1 s0_2 a1).bind fun bt161 => (some ((bt161.1 == 0), bt161.2.1, bt161.2.2))
theorem spec_l1Cur_one.calls (g : Nat) (s0_0 : List Int) (s0_1 : Int) (s0_2 : Int) (a1 : Int) (r1 : Bool) (r2 : Int) (r3 : Int) (w0 w : World) (hI : IsS75 w0 w g s0_0 s0_1 s0_2) (hB : Below w0.heap.size w0 w) (h : spec_l1Cur_one.f s0_0 s0_1 s0_2 a1 = some (r1, r2, r3)) :
 Calls Try.prog 89 #[.pointer (some ⟨g, 0, none⟩), .int .i64 a1] w fun e w' => e = .returned (.bool r1) ∧ IsS75 w0 w' g s0_0 r2 r3 ∧ Below w0.heap.size w0 w' ∧ KeepBut w w' g none := by
 have HI0 := zad hI; have HK := zad (KeepBut.refl w g none)
 have HL := zad hB.size; clear hI; have HW0 := zad hB.size; have HB := zad hB; clear hB; have H : ((spec_l1Cur_pick.f s0_0 s0_1 s0_2 a1).bind fun bt161 => (some ((bt161.1 == 0), bt161.2.1, bt161.2.2))) = some (r1, r2, r3) := h
 clear h; replace H := zay.mp H; obtain ⟨⟨t161, t162, t163⟩, A30, H⟩ := H
 replace H : (some ((t161 == 0), t162, t163)) = some (r1, r2, r3) := H
 have A3 := zad A30; clear A30; simp only [zbl, zbp] at H
 obtain ⟨rfl, rfl, rfl⟩ := H
 go_enter Try.func89, Try.ntmps89
 go_wp2_with (first | ((with_reducible refine zbf (f := 80) rfl ?_); refine zbn (some 7) rfl rfl Try.func80 (by kernel_rfl) rfl #[.pointer (some ⟨g, 0, none⟩), .int .i64 a1] rfl (taad) ?_; (with_reducible refine (spec_l1Cur_pick.calls g s0_0 s0_1 s0_2 a1 t161 t162 t163 w0 _ ?side1 ?side2 A3.out).mono ?_); (case side1 => exact taew); (case side2 => exact taex); rintro e w4 ⟨rfl, hi, hb, hk⟩; refine ⟨_, rfl, ?_⟩; have n0_ := zad (zbs (taae) hk (.inl rfl)); have n1_ := zad (hb); have n2_ := zad (hi); clear HK HB HI0; have HK := n0_; have HB := n1_; have HI0 := n2_; clear n0_ n1_ n2_; (try clear hb); (try clear hb2); (try clear hk); (try clear hi)))
 go_ret
 exact ⟨taah, taaf, taal, taae⟩
def spec_l1Cur_among.f (s0_0 : List Int) (s0_1 : Int) (s0_2 : Int) (l1 : List Int) : Option (Int × Int × Int) := (spec_l1Cur_pick.f s0_0 s0_1 s0_2 (l1.length : Int)).bind fun bt108 => (if 0 ≤ bt108.1 then (if bt108.1 < (l1.length : Int) then (some (rd l1 bt108.1, bt108.2.1, bt108.2.2)) else (none)) else (none))
theorem spec_l1Cur_among.calls (g : Nat) (s0_0 : List Int) (s0_1 : Int) (s0_2 : Int) (A1 : Option Addr) (c1 : Nat) (l1 : List Int) (r1 : Int) (r2 : Int) (r3 : Int) (w0 w : World) (hI : IsS75 w0 w g s0_0 s0_1 s0_2) (hB : Below w0.heap.size w0 w) (hr1 : Kd.C (Kd.int .i64) w A1 l1.length l1) (hc1 : l1.length ≤ c1) (hf1 : ∀ ad, A1 = some ad → 0 < l1.length → ad.block ≠ g) (h : spec_l1Cur_among.f s0_0 s0_1 s0_2 l1 = some (r1, r2, r3)) :
 Calls Try.prog 81 #[.pointer (some ⟨g, 0, none⟩), .slice A1 l1.length c1] w fun e w' => e = .returned (.int .i64 r1) ∧ IsS75 w0 w' g s0_0 r2 r3 ∧ Below w0.heap.size w0 w' ∧ KeepBut w w' g none := by
 have HR1 := zad hr1; have HC1 := zad hc1; clear hr1 hc1; have HI0 := zad hI; have HK := zad (KeepBut.refl w g none)
 have HL := zad hB.size; clear hI; have HW0 := zad hB.size; have HB := zad hB; clear hB; have H : ((spec_l1Cur_pick.f s0_0 s0_1 s0_2 (l1.length : Int)).bind fun bt108 => (if 0 ≤ bt108.1 then (if bt108.1 < (l1.length : Int) then (some (rd l1 bt108.1, bt108.2.1, bt108.2.2)) else (none)) else (none))) = some (r1, r2, r3) := h
 clear h; replace H := zay.mp H; obtain ⟨⟨t108, t109, t110⟩, A30, H⟩ := H
 replace H : (if 0 ≤ t108 then (if t108 < (l1.length : Int) then (some (rd l1 t108, t109, t110)) else (none)) else (none)) = some (r1, r2, r3) := H
 have A3 := zad A30; clear A30; by_cases c4 : 0 ≤ t108
 · rw [if_pos c4] at H
   have c4b0 : decide (0 ≤ t108) = true := zba c4
   clear c4; by_cases c5 : t108 < (l1.length : Int)
   · rw [if_pos c5] at H
     have c5b0 : decide (t108 < (l1.length : Int)) = true := zba c5
     clear c5; simp only [zbl, zbp] at H
     obtain ⟨rfl, rfl, rfl⟩ := H
     go_enter Try.func81, Try.ntmps81
     go_wp2_with (first | ((with_reducible refine zbf (f := 80) rfl ?_); refine zbn (some 9) rfl rfl Try.func80 (by kernel_rfl) rfl #[.pointer (some ⟨g, 0, none⟩), .int .i64 (l1.length : Int)] rfl (taad) ?_; (with_reducible refine (spec_l1Cur_pick.calls g s0_0 s0_1 s0_2 (l1.length : Int) t108 t109 t110 w0 _ ?side1 ?side2 A3.out).mono ?_); (case side1 => exact taew); (case side2 => exact taex); rintro e w6 ⟨rfl, hi, hb, hk⟩; refine ⟨_, rfl, ?_⟩; have n0_ := zad (zbs (taae) hk (.inl rfl)); have n1_ := zad (hb); have n2_ := zad (hi); clear HK HB HI0; have HK := n0_; have HB := n1_; have HI0 := n2_; clear n0_ n1_ n2_; (try clear hb); (try clear hb2); (try clear hk); (try clear hi); have p111 : 0 ≤ (t108 : Int) := zas (taab); have q111 : t108 < (l1.length : Int) := zas (taab); obtain ⟨ad111, e111, hx111_0⟩ := zca HR1.out t108 p111 q111; cases e111; replace hx111_0 := keep_cell HK.out hx111_0 (by first | (rw [add_block]; exact hf1 _ rfl (by omega)) | exact hf1 _ rfl (by omega) | exact hf1 ad111 rfl (by omega)); replace p111 := eq_true p111; replace q111 := eq_true q111))
     go_ret
     exact ⟨taah, taaf, taal, taae⟩
   · rw [if_neg c5] at H
     exact absurd H (taac)
 · rw [if_neg c4] at H
   exact absurd H (taac)
def spec_l1Cur_anyList.l0 : Nat → List Int → List Int → Int → Int → Option (List Int × Int × Int)
 | 0, _, _, _, _ => none
 | k + 1, x5, x1000, x1001, x1002 => (spec_l1Cur_pick.f x1000 x1001 x1002 2).bind fun bt190 => (if (x5.length : Int) < (wrap64 (8 + bt190.1)) then ((spec_l1Cur_pick.f x1000 bt190.2.1 bt190.2.2 9).bind fun bt193 => (if x5.length < 17592186044416 then (spec_l1Cur_anyList.l0 k (x5 ++ [bt193.1]) x1000 bt193.2.1 bt193.2.2) else (none))) else (some (x5, bt190.2.1, bt190.2.2)))
def spec_l1Cur_anyList.f (k : Nat) (s0_0 : List Int) (s0_1 : Int) (s0_2 : Int) (a1 : Int) : Option (List Int × Int × Int) := (spec_l1Cur_list.f k s0_0 s0_1 s0_2 a1).bind fun bt173 => ((spec_l1Cur_pick.f s0_0 bt173.2.1 bt173.2.2 14).bind fun bt178 => (if bt178.1 = 0 then ((spec_l1Cur_among.f s0_0 bt178.2.1 bt178.2.2 (([(-1), 0, 60, 61] : List Int))).bind fun bt184 => (if bt173.1.length < 17592186044416 then (some ((bt173.1 ++ [bt184.1]), bt184.2.1, bt184.2.2)) else (none))) else (if bt178.1 = 1 then (spec_l1Cur_anyList.l0 k bt173.1 s0_0 bt178.2.1 bt178.2.2) else (if bt178.1 = 2 then (some (([] : List Int), bt178.2.1, bt178.2.2)) else (some (bt173.1, bt178.2.1, bt178.2.2))))))
theorem spec_l1Cur_anyList.calls (k : Nat) (g : Nat) (s0_0 : List Int) (s0_1 : Int) (s0_2 : Int) (a1 : Int) (r1 : List Int) (r2 : Int) (r3 : Int) (w0 w : World) (hI : IsS75 w0 w g s0_0 s0_1 s0_2) (hB : Below w0.heap.size w0 w) (h : spec_l1Cur_anyList.f k s0_0 s0_1 s0_2 a1 = some (r1, r2, r3)) :
 Calls Try.prog 90 #[.pointer (some ⟨g, 0, none⟩), .int .i64 a1] w fun e w' => ∃ v0_ : Value, e = .returned (v0_) ∧ Kd.R (Kd.int .i64) 3 w' w.heap.size (fun _ => True) v0_ r1 ∧ IsS75 w0 w' g s0_0 r2 r3 ∧ Below w0.heap.size w0 w' ∧ KeepBut w w' g none := by
 have HI0 := zad hI; have HK := zad (KeepBut.refl w g none)
 have HL := zad hB.size; clear hI; have HW0 := zad hB.size; have HB := zad hB; clear hB; have H : ((spec_l1Cur_list.f k s0_0 s0_1 s0_2 a1).bind fun bt173 => ((spec_l1Cur_pick.f s0_0 bt173.2.1 bt173.2.2 14).bind fun bt178 => (if bt178.1 = 0 then ((spec_l1Cur_among.f s0_0 bt178.2.1 bt178.2.2 (([(-1), 0, 60, 61] : List Int))).bind fun bt184 => (if bt173.1.length < 17592186044416 then (some ((bt173.1 ++ [bt184.1]), bt184.2.1, bt184.2.2)) else (none))) else (if bt178.1 = 1 then (spec_l1Cur_anyList.l0 k bt173.1 s0_0 bt178.2.1 bt178.2.2) else (if bt178.1 = 2 then (some (([] : List Int), bt178.2.1, bt178.2.2)) else (some (bt173.1, bt178.2.1, bt178.2.2))))))) = some (r1, r2, r3) := h
 clear h; replace H := zay.mp H; obtain ⟨⟨t173, t176, t177⟩, A30, H⟩ := H
 replace H : ((spec_l1Cur_pick.f s0_0 t176 t177 14).bind fun bt178 => (if bt178.1 = 0 then ((spec_l1Cur_among.f s0_0 bt178.2.1 bt178.2.2 (([(-1), 0, 60, 61] : List Int))).bind fun bt184 => (if t173.length < 17592186044416 then (some ((t173 ++ [bt184.1]), bt184.2.1, bt184.2.2)) else (none))) else (if bt178.1 = 1 then (spec_l1Cur_anyList.l0 k t173 s0_0 bt178.2.1 bt178.2.2) else (if bt178.1 = 2 then (some (([] : List Int), bt178.2.1, bt178.2.2)) else (some (t173, bt178.2.1, bt178.2.2)))))) = some (r1, r2, r3) := H
 have A3 := zad A30; clear A30; replace H := zay.mp H; obtain ⟨⟨t178, t179, t180⟩, A40, H⟩ := H
 replace H : (if t178 = 0 then ((spec_l1Cur_among.f s0_0 t179 t180 (([(-1), 0, 60, 61] : List Int))).bind fun bt184 => (if t173.length < 17592186044416 then (some ((t173 ++ [bt184.1]), bt184.2.1, bt184.2.2)) else (none))) else (if t178 = 1 then (spec_l1Cur_anyList.l0 k t173 s0_0 t179 t180) else (if t178 = 2 then (some (([] : List Int), t179, t180)) else (some (t173, t179, t180))))) = some (r1, r2, r3) := H
 have A4 := zad A40; clear A40; by_cases c5 : t178 = 0
 · rw [if_pos c5] at H
   have c5b0 : (t178 == 0) = true := beq_iff_eq.mpr c5
   have c5b1 : (t178 != 0) = false := bne_eq_false_iff_eq.mpr c5
   clear c5; obtain ⟨y181, hy181⟩ : ∃ y_ : List Int, y_ = (([(-1), 0, 60, 61] : List Int)) := ⟨_, rfl⟩
   replace H : ((spec_l1Cur_among.f s0_0 t179 t180 y181).bind fun bt184 => (if t173.length < 17592186044416 then (some ((t173 ++ [bt184.1]), bt184.2.1, bt184.2.2)) else (none))) = some (r1, r2, r3) := by first | (rw [hy181]; with_reducible exact H) | (have H2_ := (zbb _ _).symm.trans H; rw [hy181]; with_reducible exact H2_) | (have H2_ := (zbb _ _).symm.trans H; with_reducible exact H2_) | with_reducible exact H | (rw [hy181]; exact H) | exact H
   have Ny181 := zad hy181; clear hy181; replace H := zay.mp H; obtain ⟨⟨t184, t185, t186⟩, A60, H⟩ := H
   replace H : (if t173.length < 17592186044416 then (some ((t173 ++ [t184]), t185, t186)) else (none)) = some (r1, r2, r3) := H
   have A6 := zad A60; clear A60; by_cases c7 : t173.length < 17592186044416
   · rw [if_pos c7] at H
     have LMc7 := zad c7; clear c7; obtain ⟨y187, hy187⟩ : ∃ y_ : List Int, y_ = (t173 ++ [t184]) := ⟨_, rfl⟩
     replace H : (some (y187, t185, t186)) = some (r1, r2, r3) := by first | (rw [hy187]; with_reducible exact H) | (have H2_ := (zbb _ _).symm.trans H; rw [hy187]; with_reducible exact H2_) | (have H2_ := (zbb _ _).symm.trans H; with_reducible exact H2_) | with_reducible exact H | (rw [hy187]; exact H) | exact H
     have Ny187 := zad hy187; clear hy187; simp only [zbl, zbp] at H
     obtain ⟨rfl, rfl, rfl⟩ := H
     go_enter Try.func90, Try.ntmps90
     go_wp2_with (first | ((with_reducible refine zbf (f := 109) rfl ?_); refine zbn (some 8) rfl rfl Try.func109 (by kernel_rfl) rfl #[.pointer (some ⟨g, 0, none⟩), .int .i64 a1] rfl (taad) ?_; (with_reducible refine (spec_l1Cur_list.calls k g s0_0 s0_1 s0_2 a1 t173 t176 t177 w0 _ ?side1 ?side2 A3.out).mono ?_); (case side1 => repeat (first | (with_reducible first | exact HI0.out | apply zcg | apply zch | apply zci | apply zcn | apply zco) | exact HI0.out)); (case side2 => repeat (first | (with_reducible first | exact HB.out | apply zag | apply zae | apply zaf | refine zah ?_ (zcl HI0.out)) | exact HB.out)); rintro e w8 ⟨v174, rfl, ho0, hi, hb, hk⟩; refine ⟨_, rfl, ?_⟩; have n0_ := zad (zbu ho0 (keep_size (w := w) (g := g) (row := none) (taae))); have n1_ := zad (zbs (taae) hk (.inl rfl)); have n2_ := zad (hb); have n3_ := zad (hi); clear HK HB HI0; have HO175 := n0_; have HK := n1_; have HB := n2_; have HI0 := n3_; clear n0_ n1_ n2_ n3_; (try clear hb); (try clear hb2); (try clear hk); (try clear hi); (try clear ho0)) | ((with_reducible refine zbf (f := 80) rfl ?_); refine zbn (some 10) rfl rfl Try.func80 (by kernel_rfl) rfl #[.pointer (some ⟨g, 0, none⟩), .int .i64 14] rfl (taad) ?_; (with_reducible refine (spec_l1Cur_pick.calls g s0_0 t176 t177 14 t178 t179 t180 w0 _ ?side1 ?side2 A4.out).mono ?_); (case side1 => repeat (first | (with_reducible first | exact HI0.out | apply zcg | apply zch | apply zci | apply zcn | apply zco) | exact HI0.out)); (case side2 => repeat (first | (with_reducible first | exact HB.out | apply zag | apply zae | apply zaf | refine zah ?_ (zcl HI0.out)) | exact HB.out)); rintro e w9 ⟨rfl, hi, hb, hk⟩; refine ⟨_, rfl, ?_⟩; have n0_ := zad (zbq (zbr (zcj (show IsS75 w0 _ g s0_0 t176 t177 from by exact taes) (tabe) (by decide)) hk (fun _ h => h.2)) (fun _ h => h.1)); have n1_ := zad (zbs (taae) hk (.inl rfl)); have n2_ := zad (hb); have n3_ := zad (hi); clear HO175 HK HB HI0; have HO175 := n0_; have HK := n1_; have HB := n2_; have HI0 := n3_; clear n0_ n1_ n2_ n3_; (try clear hb); (try clear hb2); (try clear hk); (try clear hi)) | ((with_reducible refine gate_dst (N := 15) rfl ?_); refine Kd.R_lit (Kd.int .i64) _ 3 ?hg (N := 15) ?hd (xs := ([(-1), 0, 60, 61] : List Int)) (inner := [.int .i64 (-1), .int .i64 0, .int .i64 60, .int .i64 61]) (ok := fun _ => True) (okp := fun _ => True) ?hr ?hp (fun _ hk => hk) trivial (Below.refl _ _) (zcf _) (taac) ?_; (case hd => rfl); (case hg => rfl); (case hr => first | (go_simp; done) | (go_simp; rfl)); (case hp => exact (Reps.one (show Kd.M (Kd.int .i64) _ _ _ (-1) [.int .i64 (-1)] from rfl) (Reps.one (show Kd.M (Kd.int .i64) _ _ _ 0 [.int .i64 0] from rfl) (Reps.one (show Kd.M (Kd.int .i64) _ _ _ 60 [.int .i64 60] from rfl) (Reps.one (show Kd.M (Kd.int .i64) _ _ _ 61 [.int .i64 61] from rfl) (Reps.none _ _)))))); intro v182 w10 ho11 hb hg_ hnew_; clear hg_ hnew_; (first | rw [← Ny181.out] at ho11 | (simp only [Int.reduceToNat] at ho11; rw [← Ny181.out] at ho11)); have n0_ := zad (zcb (tabe) (zcd ho11) hb); have n1_ := zad (zbu (zcc ho11 (zce (tabe))) (keep_size (w := w) (g := g) (row := none) (taae))); have n2_ := zad (IsS75.below (taaf) hb); have n3_ := zad (zbs (taae) (KeepBut.of_below hb g none) (.inl rfl)); have n4_ := zad (zbe (taal) hb); clear HO175 HI0 HK HB; have HO175 := n0_; have HO183 := n1_; have HI0 := n2_; have HK := n3_; have HB := n4_; clear n0_ n1_ n2_ n3_ n4_ hb ho11; obtain ⟨Ao12, co12, eo12⟩ := zbv HO183.out; subst eo12) | ((with_reducible refine zbf (f := 81) rfl ?_); refine zbn (some 16) rfl rfl Try.func81 (by kernel_rfl) rfl #[.pointer (some ⟨g, 0, none⟩), .slice Ao12 y181.length co12] rfl (taad) ?_; (with_reducible refine (spec_l1Cur_among.calls g s0_0 t179 t180 _ _ y181 t184 t185 t186 w0 _ ?side1 ?side2 ?side3 ?side4 ?side5 A6.out).mono ?_); (case side1 => repeat (first | (with_reducible first | exact HI0.out | apply zcg | apply zch | apply zci | apply zcn | apply zco) | exact HI0.out)); (case side2 => repeat (first | (with_reducible first | exact HB.out | apply zag | apply zae | apply zaf | refine zah ?_ (zcl HI0.out)) | exact HB.out)); (case side3 => repeat (first | exact (zbd HO183.out).2.2 | (with_reducible refine zal ?_ _) | (with_reducible refine zam ?_ _) | (with_reducible refine zan ?_))); (case side4 => exact (zbd HO183.out).2.1); (case side5 => exact far_slice (zck HI0.out HO183.out (by decide))); rintro e w13 ⟨rfl, hi, hb, hk⟩; refine ⟨_, rfl, ?_⟩; have n0_ := zad (zbq (zbr (zcj (show IsS75 w0 _ g s0_0 t179 t180 from by exact taes) (tabe) (by decide)) hk (fun _ h => h.2)) (fun _ h => h.1)); have n1_ := zad (zbq (zbr (zcj (show IsS75 w0 _ g s0_0 t179 t180 from by exact taes) (tadh) (by decide)) hk (fun _ h => h.2)) (fun _ h => h.1)); have n2_ := zad (zbs (taae) hk (.inl rfl)); have n3_ := zad (hb); have n4_ := zad (hi); clear HO175 HO183 HK HB HI0; have HO175 := n0_; have HO183 := n1_; have HK := n2_; have HB := n3_; have HI0 := n4_; clear n0_ n1_ n2_ n3_ n4_; (try clear hb); (try clear hb2); (try clear hk); (try clear hi)) | ((with_reducible refine gate_builtin (b := .append) (xs := #[.tmp 13, .tmp 17]) rfl ?_); at_builtin; refine Kd.R_append (Kd.int .i64) w.heap.size rfl (.tmp 13) (.tmp 17) 26 3 (.int .i64 0) 8 rfl Try.underlying26 info3 rfl (by decide) (by omega) v174 t173 t184 [.int .i64 t184] (fun k_ => some k_ ≠ (.slice Ao12 y181.length co12 : Value).ownBlock) (fun _ => False) rfl rfl ?aP (fun _ hk => hk.elim) ?aF ?aO (Below.refl _ _) ?aS ?aL ?_; (case aP => exact rfl); (case aF => exact (fun k_ hk => Kd.fresh' (zce (tadh)) k_ hk)); (case aO => exact (by (with_reducible repeat (first | apply zai | apply zaj | apply zak)); exact zbq HO175.out (fun _ hk => hk.2))); (case aS => exact (keep_size (w := w) (g := g) (row := none) (taae))); (case aL => have := LMc7.out; omega); intro v188 w14 ho hb hg hat; rw [← Ny187.out] at ho; have n0_ := zad (IsS75.grown (taaf) hg (zck HI0.out HO175.out (by decide))); have n1_ := zad (Kd.R_after (ok := (fun _ => True)) (tadh) hg hat); have n2_ := zad (below_weaken (taal) HL.out hb); have n3_ := zad (zbs (taae) (KeepBut.of_grown hg g) (Kd.R_base2 HO175.out)); have n4_ := zad (ho); clear HI0 HO183 HB HK HO175; have HI0 := n0_; have HO183 := n1_; have HB := n2_; have HK := n3_; have HO189 := n4_; clear n0_ n1_ n2_ n3_ n4_ ho hb hg hat))
     go_ret
     exact ⟨_, taah, by (with_reducible repeat (first | apply zai | apply zaj | apply zak)); exact zbq HO189.out (fun _ hk => trivial), taaf, taal, taae⟩
   · rw [if_neg c7] at H
     exact absurd H (taac)
 · rw [if_neg c5] at H
   have c5b0 : (t178 == 0) = false := zbo.mpr c5
   have c5b1 : (t178 != 0) = true := bne_iff_ne.mpr c5
   by_cases c15 : t178 = 1
   · rw [if_pos c15] at H
     have c15b0 : (t178 == 1) = true := beq_iff_eq.mpr c15
     have c15b1 : (t178 != 1) = false := bne_eq_false_iff_eq.mpr c15
     clear c15; have H' := zad H
     clear H; go_enter Try.func90, Try.ntmps90
     go_wp2_with (first | ((with_reducible refine zbf (f := 109) rfl ?_); refine zbn (some 8) rfl rfl Try.func109 (by kernel_rfl) rfl #[.pointer (some ⟨g, 0, none⟩), .int .i64 a1] rfl (taad) ?_; (with_reducible refine (spec_l1Cur_list.calls k g s0_0 s0_1 s0_2 a1 t173 t176 t177 w0 _ ?side1 ?side2 A3.out).mono ?_); (case side1 => repeat (first | (with_reducible first | exact HI0.out | apply zcg | apply zch | apply zci | apply zcn | apply zco) | exact HI0.out)); (case side2 => repeat (first | (with_reducible first | exact HB.out | apply zag | apply zae | apply zaf | refine zah ?_ (zcl HI0.out)) | exact HB.out)); rintro e w16 ⟨v174, rfl, ho0, hi, hb, hk⟩; refine ⟨_, rfl, ?_⟩; have n0_ := zad (zbu ho0 (keep_size (w := w) (g := g) (row := none) (taae))); have n1_ := zad (zbs (taae) hk (.inl rfl)); have n2_ := zad (hb); have n3_ := zad (hi); clear HK HB HI0; have HO175 := n0_; have HK := n1_; have HB := n2_; have HI0 := n3_; clear n0_ n1_ n2_ n3_; (try clear hb); (try clear hb2); (try clear hk); (try clear hi); (try clear ho0)) | ((with_reducible refine zbf (f := 80) rfl ?_); refine zbn (some 10) rfl rfl Try.func80 (by kernel_rfl) rfl #[.pointer (some ⟨g, 0, none⟩), .int .i64 14] rfl (taad) ?_; (with_reducible refine (spec_l1Cur_pick.calls g s0_0 t176 t177 14 t178 t179 t180 w0 _ ?side1 ?side2 A4.out).mono ?_); (case side1 => repeat (first | (with_reducible first | exact HI0.out | apply zcg | apply zch | apply zci | apply zcn | apply zco) | exact HI0.out)); (case side2 => repeat (first | (with_reducible first | exact HB.out | apply zag | apply zae | apply zaf | refine zah ?_ (zcl HI0.out)) | exact HB.out)); rintro e w17 ⟨rfl, hi, hb, hk⟩; refine ⟨_, rfl, ?_⟩; have n0_ := zad (zbq (zbr (zcj (show IsS75 w0 _ g s0_0 t176 t177 from by exact taes) (tabe) (by decide)) hk (fun _ h => h.2)) (fun _ h => h.1)); have n1_ := zad (zbs (taae) hk (.inl rfl)); have n2_ := zad (hb); have n3_ := zad (hi); clear HO175 HK HB HI0; have HO175 := n0_; have HK := n1_; have HB := n2_; have HI0 := n3_; clear n0_ n1_ n2_ n3_; (try clear hb); (try clear hb2); (try clear hk); (try clear hi)))
     go_loopg [5] k (fun kq v5 w' => ∃ (x5_1 : List Int) (x1001_1 : Int) (x1002_1 : Int), Aside0 (spec_l1Cur_anyList.l0 kq x5_1 s0_0 x1001_1 x1002_1 = some (r1, r2, r3)) ∧ Aside0 (kq ≤ k) ∧ Aside0 (Kd.R (Kd.int .i64) 3 w' w.heap.size (fun _ => True) v5 x5_1) ∧ Aside0 (IsS75 w0 w' g s0_0 x1001_1 x1002_1) ∧ Aside0 (KeepBut w w' g none) ∧ Aside0 (Below w0.heap.size w0 w'))
     case atStart => exact ⟨(t173), (t179), (t180), H', ⟨zcf _⟩, ⟨tabe⟩, ⟨taaf⟩, ⟨taae⟩, ⟨taal⟩⟩
     case round =>
      clear H'
      try clear c1
      try clear p2
      try clear c5
      try clear c5b0
      try clear c5b1
      try clear c7
      try clear c8
      try clear c9
      try clear c10
      try clear c15
      try clear c15b0
      try clear c15b1
      obtain ⟨x5_1, x1001_1, x1002_1, HA, HK1, HO_5, HI0, HK, HB⟩ := hrel
      cases gk with
      | zero => exact absurd HA.out (by simp [spec_l1Cur_anyList.l0])
      | succ k1 =>
       have H := HA.out
       clear HA; simp only [spec_l1Cur_anyList.l0] at H
       replace H := zay.mp H; obtain ⟨⟨t190, t191, t192⟩, A180, H⟩ := H
       replace H : (if (x5_1.length : Int) < (wrap64 (8 + t190)) then ((spec_l1Cur_pick.f s0_0 t191 t192 9).bind fun bt193 => (if x5_1.length < 17592186044416 then (spec_l1Cur_anyList.l0 k1 (x5_1 ++ [bt193.1]) s0_0 bt193.2.1 bt193.2.2) else (none))) else (some (x5_1, t191, t192))) = some (r1, r2, r3) := H
       have A18 := zad A180; clear A180; by_cases c19 : (x5_1.length : Int) < (wrap64 (8 + t190))
       · rw [if_pos c19] at H
         have c19b0 : decide ((x5_1.length : Int) < (wrap64 (8 + t190))) = true := zba c19
         clear c19; replace H := zay.mp H; obtain ⟨⟨t193, t194, t195⟩, A200, H⟩ := H
         replace H : (if x5_1.length < 17592186044416 then (spec_l1Cur_anyList.l0 k1 (x5_1 ++ [t193]) s0_0 t194 t195) else (none)) = some (r1, r2, r3) := H
         have A20 := zad A200; clear A200; by_cases c21 : x5_1.length < 17592186044416
         · rw [if_pos c21] at H
           have LMc21 := zad c21; clear c21; obtain ⟨y196, hy196⟩ : ∃ y_ : List Int, y_ = (x5_1 ++ [t193]) := ⟨_, rfl⟩
           replace H : (spec_l1Cur_anyList.l0 k1 y196 s0_0 t194 t195) = some (r1, r2, r3) := by first | (rw [hy196]; with_reducible exact H) | (have H2_ := (zbb _ _).symm.trans H; rw [hy196]; with_reducible exact H2_) | (have H2_ := (zbb _ _).symm.trans H; with_reducible exact H2_) | with_reducible exact H | (rw [hy196]; exact H) | exact H
           have Ny196 := zad hy196; clear hy196; have H' := zad H
           clear H; obtain ⟨Ao22, co22, eo22⟩ := zbv HO_5.out
           subst eo22; go_wp2_with (first | ((with_reducible refine zbf (f := 80) rfl ?_); refine zbn (some 24) rfl rfl Try.func80 (by kernel_rfl) rfl #[.pointer (some ⟨g, 0, none⟩), .int .i64 2] rfl (taad) ?_; (with_reducible refine (spec_l1Cur_pick.calls g s0_0 x1001_1 x1002_1 2 t190 t191 t192 w0 _ ?side1 ?side2 A18.out).mono ?_); (case side1 => repeat (first | (with_reducible first | exact HI0.out | apply zcg | apply zch | apply zci | apply zcn | apply zco) | exact HI0.out)); (case side2 => repeat (first | (with_reducible first | exact HB.out | apply zag | apply zae | apply zaf | refine zah ?_ (zcl HI0.out)) | exact HB.out)); rintro e w23 ⟨rfl, hi, hb, hk⟩; refine ⟨_, rfl, ?_⟩; have n0_ := zad (zbq (zbr (zcj (show IsS75 w0 _ g s0_0 x1001_1 x1002_1 from by exact taes) (taao) (by decide)) hk (fun _ h => h.2)) (fun _ h => h.1)); have n1_ := zad (zbs (taae) hk (.inl rfl)); have n2_ := zad (hb); have n3_ := zad (hi); clear HO_5 HK HB HI0; have HO_5 := n0_; have HK := n1_; have HB := n2_; have HI0 := n3_; clear n0_ n1_ n2_ n3_; (try clear hb); (try clear hb2); (try clear hk); (try clear hi)) | ((with_reducible refine zbf (f := 80) rfl ?_); refine zbn (some 29) rfl rfl Try.func80 (by kernel_rfl) rfl #[.pointer (some ⟨g, 0, none⟩), .int .i64 9] rfl (taad) ?_; (with_reducible refine (spec_l1Cur_pick.calls g s0_0 t191 t192 9 t193 t194 t195 w0 _ ?side1 ?side2 A20.out).mono ?_); (case side1 => repeat (first | (with_reducible first | exact HI0.out | apply zcg | apply zch | apply zci | apply zcn | apply zco) | exact HI0.out)); (case side2 => repeat (first | (with_reducible first | exact HB.out | apply zag | apply zae | apply zaf | refine zah ?_ (zcl HI0.out)) | exact HB.out)); rintro e w24 ⟨rfl, hi, hb, hk⟩; refine ⟨_, rfl, ?_⟩; have n0_ := zad (zbq (zbr (zcj (show IsS75 w0 _ g s0_0 t191 t192 from by exact taes) (taao) (by decide)) hk (fun _ h => h.2)) (fun _ h => h.1)); have n1_ := zad (zbs (taae) hk (.inl rfl)); have n2_ := zad (hb); have n3_ := zad (hi); clear HO_5 HK HB HI0; have HO_5 := n0_; have HK := n1_; have HB := n2_; have HI0 := n3_; clear n0_ n1_ n2_ n3_; (try clear hb); (try clear hb2); (try clear hk); (try clear hi)) | ((with_reducible refine gate_builtin (b := .append) (xs := #[.tmp 27, .tmp 30]) rfl ?_); at_builtin; refine Kd.R_append (Kd.int .i64) w.heap.size rfl (.tmp 27) (.tmp 30) 26 3 (.int .i64 0) 8 rfl Try.underlying26 info3 rfl (by decide) (by omega) (.slice Ao22 x5_1.length co22) x5_1 t193 [.int .i64 t193] (fun _ => True) (fun _ => False) rfl rfl ?aP (fun _ hk => hk.elim) ?aF ?aO (Below.refl _ _) ?aS ?aL ?_; (case aP => exact rfl); (case aF => exact (fun _ _ => trivial)); (case aO => exact (taao)); (case aS => exact (keep_size (w := w) (g := g) (row := none) (taae))); (case aL => have := LMc21.out; omega); intro v197 w25 ho hb hg hat; rw [← Ny196.out] at ho; have n0_ := zad (IsS75.grown (taaf) hg (zck HI0.out HO_5.out (by decide))); have n1_ := zad (below_weaken (taal) HL.out hb); have n2_ := zad (zbs (taae) (KeepBut.of_grown hg g) (Kd.R_base2 HO_5.out)); have n3_ := zad (ho); clear HI0 HB HK HO_5; have HI0 := n0_; have HB := n1_; have HK := n2_; have HO198 := n3_; clear n0_ n1_ n2_ n3_ ho hb hg hat))
           go_roundg k1
           case measure => have := HK1.out; omega
           case rel => exact ⟨(y196), (t194), (t195), H', ⟨taau⟩, ⟨by (with_reducible repeat (first | apply zai | apply zaj | apply zak)); exact HO198.out⟩, ⟨taaf⟩, ⟨taae⟩, ⟨taal⟩⟩
         · rw [if_neg c21] at H
           exact absurd H (taac)
       · rw [if_neg c19] at H
         have c19b0 : decide ((x5_1.length : Int) < (wrap64 (8 + t190))) = false := zbh c19
         clear c19; simp only [zbl, zbp] at H
         obtain ⟨rfl, rfl, rfl⟩ := H
         obtain ⟨Ao26, co26, eo26⟩ := zbv HO_5.out
         subst eo26; go_wp2_with (first | ((with_reducible refine zbf (f := 80) rfl ?_); refine zbn (some 24) rfl rfl Try.func80 (by kernel_rfl) rfl #[.pointer (some ⟨g, 0, none⟩), .int .i64 2] rfl (taad) ?_; (with_reducible refine (spec_l1Cur_pick.calls g s0_0 x1001_1 x1002_1 2 t190 t191 t192 w0 _ ?side1 ?side2 A18.out).mono ?_); (case side1 => exact taew); (case side2 => exact taex); rintro e w27 ⟨rfl, hi, hb, hk⟩; refine ⟨_, rfl, ?_⟩; have n0_ := zad (zbq (zbr (zcj (show IsS75 w0 _ g s0_0 x1001_1 x1002_1 from by exact taes) (taao) (by decide)) hk (fun _ h => h.2)) (fun _ h => h.1)); have n1_ := zad (zbs (taae) hk (.inl rfl)); have n2_ := zad (hb); have n3_ := zad (hi); clear HO_5 HK HB HI0; have HO_5 := n0_; have HK := n1_; have HB := n2_; have HI0 := n3_; clear n0_ n1_ n2_ n3_; (try clear hb); (try clear hb2); (try clear hk); (try clear hi)))
         go_ret
         exact ⟨_, taah, taao, taaf, taal, taae⟩
   · rw [if_neg c15] at H
     have c15b0 : (t178 == 1) = false := zbo.mpr c15
     have c15b1 : (t178 != 1) = true := bne_iff_ne.mpr c15
     by_cases c28 : t178 = 2
     · rw [if_pos c28] at H
       have c28b0 : (t178 == 2) = true := beq_iff_eq.mpr c28
       have c28b1 : (t178 != 2) = false := bne_eq_false_iff_eq.mpr c28
       clear c28; simp only [zbl, zbp] at H
       obtain ⟨rfl, rfl, rfl⟩ := H
       go_enter Try.func90, Try.ntmps90
       go_wp2_with (first | ((with_reducible refine zbf (f := 109) rfl ?_); refine zbn (some 8) rfl rfl Try.func109 (by kernel_rfl) rfl #[.pointer (some ⟨g, 0, none⟩), .int .i64 a1] rfl (taad) ?_; (with_reducible refine (spec_l1Cur_list.calls k g s0_0 s0_1 s0_2 a1 t173 t176 t177 w0 _ ?side1 ?side2 A3.out).mono ?_); (case side1 => repeat (first | (with_reducible first | exact HI0.out | apply zcg | apply zch | apply zci | apply zcn | apply zco) | exact HI0.out)); (case side2 => repeat (first | (with_reducible first | exact HB.out | apply zag | apply zae | apply zaf | refine zah ?_ (zcl HI0.out)) | exact HB.out)); rintro e w29 ⟨v174, rfl, ho0, hi, hb, hk⟩; refine ⟨_, rfl, ?_⟩; have n0_ := zad (zbu ho0 (keep_size (w := w) (g := g) (row := none) (taae))); have n1_ := zad (zbs (taae) hk (.inl rfl)); have n2_ := zad (hb); have n3_ := zad (hi); clear HK HB HI0; have HO175 := n0_; have HK := n1_; have HB := n2_; have HI0 := n3_; clear n0_ n1_ n2_ n3_; (try clear hb); (try clear hb2); (try clear hk); (try clear hi); (try clear ho0)) | ((with_reducible refine zbf (f := 80) rfl ?_); refine zbn (some 10) rfl rfl Try.func80 (by kernel_rfl) rfl #[.pointer (some ⟨g, 0, none⟩), .int .i64 14] rfl (taad) ?_; (with_reducible refine (spec_l1Cur_pick.calls g s0_0 t176 t177 14 t178 t179 t180 w0 _ ?side1 ?side2 A4.out).mono ?_); (case side1 => repeat (first | (with_reducible first | exact HI0.out | apply zcg | apply zch | apply zci | apply zcn | apply zco) | exact HI0.out)); (case side2 => repeat (first | (with_reducible first | exact HB.out | apply zag | apply zae | apply zaf | refine zah ?_ (zcl HI0.out)) | exact HB.out)); rintro e w30 ⟨rfl, hi, hb, hk⟩; refine ⟨_, rfl, ?_⟩; have n0_ := zad (zbq (zbr (zcj (show IsS75 w0 _ g s0_0 t176 t177 from by exact taes) (tabe) (by decide)) hk (fun _ h => h.2)) (fun _ h => h.1)); have n1_ := zad (zbs (taae) hk (.inl rfl)); have n2_ := zad (hb); have n3_ := zad (hi); clear HO175 HK HB HI0; have HO175 := n0_; have HK := n1_; have HB := n2_; have HI0 := n3_; clear n0_ n1_ n2_ n3_; (try clear hb); (try clear hb2); (try clear hk); (try clear hi)))
       go_ret
       exact ⟨_, taah, tabl, taaf, taal, taae⟩
     · rw [if_neg c28] at H
       have c28b0 : (t178 == 2) = false := zbo.mpr c28
       have c28b1 : (t178 != 2) = true := bne_iff_ne.mpr c28
       simp only [zbl, zbp] at H
       obtain ⟨rfl, rfl, rfl⟩ := H
       go_enter Try.func90, Try.ntmps90
       go_wp2_with (first | ((with_reducible refine zbf (f := 109) rfl ?_); refine zbn (some 8) rfl rfl Try.func109 (by kernel_rfl) rfl #[.pointer (some ⟨g, 0, none⟩), .int .i64 a1] rfl (taad) ?_; (with_reducible refine (spec_l1Cur_list.calls k g s0_0 s0_1 s0_2 a1 t173 t176 t177 w0 _ ?side1 ?side2 A3.out).mono ?_); (case side1 => repeat (first | (with_reducible first | exact HI0.out | apply zcg | apply zch | apply zci | apply zcn | apply zco) | exact HI0.out)); (case side2 => repeat (first | (with_reducible first | exact HB.out | apply zag | apply zae | apply zaf | refine zah ?_ (zcl HI0.out)) | exact HB.out)); rintro e w31 ⟨v174, rfl, ho0, hi, hb, hk⟩; refine ⟨_, rfl, ?_⟩; have n0_ := zad (zbu ho0 (keep_size (w := w) (g := g) (row := none) (taae))); have n1_ := zad (zbs (taae) hk (.inl rfl)); have n2_ := zad (hb); have n3_ := zad (hi); clear HK HB HI0; have HO175 := n0_; have HK := n1_; have HB := n2_; have HI0 := n3_; clear n0_ n1_ n2_ n3_; (try clear hb); (try clear hb2); (try clear hk); (try clear hi); (try clear ho0)) | ((with_reducible refine zbf (f := 80) rfl ?_); refine zbn (some 10) rfl rfl Try.func80 (by kernel_rfl) rfl #[.pointer (some ⟨g, 0, none⟩), .int .i64 14] rfl (taad) ?_; (with_reducible refine (spec_l1Cur_pick.calls g s0_0 t176 t177 14 t178 t179 t180 w0 _ ?side1 ?side2 A4.out).mono ?_); (case side1 => repeat (first | (with_reducible first | exact HI0.out | apply zcg | apply zch | apply zci | apply zcn | apply zco) | exact HI0.out)); (case side2 => repeat (first | (with_reducible first | exact HB.out | apply zag | apply zae | apply zaf | refine zah ?_ (zcl HI0.out)) | exact HB.out)); rintro e w32 ⟨rfl, hi, hb, hk⟩; refine ⟨_, rfl, ?_⟩; have n0_ := zad (zbq (zbr (zcj (show IsS75 w0 _ g s0_0 t176 t177 from by exact taes) (tabe) (by decide)) hk (fun _ h => h.2)) (fun _ h => h.1)); have n1_ := zad (zbs (taae) hk (.inl rfl)); have n2_ := zad (hb); have n3_ := zad (hi); clear HO175 HK HB HI0; have HO175 := n0_; have HK := n1_; have HB := n2_; have HI0 := n3_; clear n0_ n1_ n2_ n3_; (try clear hb); (try clear hb2); (try clear hk); (try clear hi)))
       go_ret
       exact ⟨_, taah, tabe, taaf, taal, taae⟩
end Go.Proofs.Ytnlimjejllakoaa.A
