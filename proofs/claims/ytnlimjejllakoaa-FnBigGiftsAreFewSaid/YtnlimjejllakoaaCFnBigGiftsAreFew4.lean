/- What the law FnBigGiftsAreFew reaches, part 4: Lean functions with the same answers as the Go functions, the proofs that the Go code comes to these answers, and lemmas about them; no condition beyond those that each theorem names. -/
import Derived.Test.YtnlimjejllakoaaCFnBigGiftsAreFeww1
import Derived.Test.YtnlimjejllakoaaCFnBigGiftsAreFew1
import Derived.Test.YtnlimjejllakoaaCFnBigGiftsAreFew2
import Derived.Test.YtnlimjejllakoaaCFnBigGiftsAreFew3
set_option linter.unusedVariables false
set_option linter.unusedSimpArgs false
namespace Go.Proofs.Ytnlimjejllakoaa.A
open Go.RowKit Go.Proofs.YtnlimjejllakoaaW.PrintWords Go.Proofs.YtnlimjejllakoaaW.PrintLast Go.Proofs.YtnlimjejllakoaaW.PrintMore
attribute [local go_sem] max2_int min2_int max_two min_two max_three min_three max_four min_four
def spec_giDo.f (l0 : List Int) (a1_0 : Int) (a1_1 : Int) (a1_2 : Int) : Option (List Int) := (spec_l1Own.f l0).bind fun t495 => (if 0 ≤ a1_0 then (if a1_0 < (t495.length : Int) then ((some (t495.set (a1_0 : Int).toNat (wrap64 ((rd t495 a1_0) - a1_2)) : List Int)).bind fun y499 => (if 0 ≤ a1_1 then (if a1_1 < (t495.length : Int) then (some (y499.set (a1_1 : Int).toNat (wrap64 ((rd y499 a1_1) + a1_2)))) else (none)) else (none))) else (none)) else (none))
def spec_giDo.T2 : Bool × List (List Nat × List Nat) := (true, [([], []), ([], []), ([1], [1]), ([0, 2], [0, 2]), ([3], [3]), ([], []), ([5], [5]), ([4, 6], [4, 6]), ([0, 2, 0, 1, 2, 3, 4, 5, 6, 7], [0, 2]), ([8, 7, 0, 1, 2, 3, 4, 5, 6, 7], [7, 8])])
def spec_giDo.B2 : List Nat := [0, 0, 2, 7, 15, 0, 32, 127, 255, 511]
theorem spec_giDo.tab2 : rtab .any (opsOf Try.f101 2) = spec_giDo.T2 := by kernel_rfl
theorem spec_giDo.bits2 : waitsOk spec_giDo.T2.2 spec_giDo.B2 = true := by kernel_rfl
def spec_giDo.T3 : Bool × List (List Nat × List Nat) := (true, [([], []), ([], []), ([1], [1]), ([0, 2], [0, 2]), ([3], [3]), ([], []), ([5], [5]), ([4, 6], [4, 6]), ([0, 2, 0, 1, 2, 3, 4, 5, 6, 7], [0, 2]), ([8, 7, 0, 1, 2, 3, 4, 5, 6, 7], [7, 8])])
def spec_giDo.B3 : List Nat := [0, 0, 2, 7, 15, 0, 32, 127, 255, 511]
theorem spec_giDo.tab3 : rtab .any (opsOf Try.f101 3) = spec_giDo.T3 := by kernel_rfl
theorem spec_giDo.bits3 : waitsOk spec_giDo.T3.2 spec_giDo.B3 = true := by kernel_rfl
set_option maxHeartbeats 8000000 in
set_option maxRecDepth 100000 in
theorem spec_giDo.calls (A0 : Option Addr) (c0 : Nat) (l0 : List Int) (a1_0 : Int) (a1_1 : Int) (a1_2 : Int) (r : List Int) (w : World) (hr0 : Kd.C (Kd.int .i64) w A0 l0.length l0) (hc0 : l0.length ≤ c0) (h : spec_giDo.f l0 a1_0 a1_1 a1_2 = some r) :
 Calls Try.prog 101 #[.slice A0 l0.length c0, .agg #[.int .i64 a1_0, .int .i64 a1_1, .int .i64 a1_2]] w fun e w' => ∃ v0_ : Value, e = .returned (v0_) ∧ Kd.R (Kd.int .i64) 3 w' w.heap.size (fun _ => True) v0_ r ∧ Below w.heap.size w w' := by
 have hu39 := Try.underlying39
 have HR0 := zad hr0
 have HC0 := zad hc0
 clear hr0 hc0
 have HB := zad (Below.refl w.heap.size w)
 have H : ((spec_l1Own.f l0).bind fun t495 => (if 0 ≤ a1_0 then (if a1_0 < (t495.length : Int) then ((some (t495.set (a1_0 : Int).toNat (wrap64 ((rd t495 a1_0) - a1_2)) : List Int)).bind fun y499 => (if 0 ≤ a1_1 then (if a1_1 < (t495.length : Int) then (some (y499.set (a1_1 : Int).toNat (wrap64 ((rd y499 a1_1) + a1_2)))) else (none)) else (none))) else (none)) else (none))) = some r := h
 clear h
 replace H := Option.bind_eq_some_iff.mp H
 obtain ⟨t495, A30, H⟩ := H
 replace H : (if 0 ≤ a1_0 then (if a1_0 < (t495.length : Int) then ((some (t495.set (a1_0 : Int).toNat (wrap64 ((rd t495 a1_0) - a1_2)) : List Int)).bind fun y499 => (if 0 ≤ a1_1 then (if a1_1 < (t495.length : Int) then (some (y499.set (a1_1 : Int).toNat (wrap64 ((rd y499 a1_1) + a1_2)))) else (none)) else (none))) else (none)) else (none)) = some r := H
 have A3 := zad A30
 clear A30
 by_cases c4 : 0 ≤ a1_0
 · rw [if_pos c4] at H
   have c4b0 : decide (0 ≤ a1_0) = true := zaz c4
   clear c4
   by_cases c5 : a1_0 < (t495.length : Int)
   · rw [if_pos c5] at H
     have c5b0 : decide (a1_0 < (t495.length : Int)) = true := zaz c5
     clear c5
     obtain ⟨y499, hy499⟩ : ∃ y_ : List Int, y_ = (t495.set (a1_0 : Int).toNat (wrap64 ((rd t495 a1_0) - a1_2))) := ⟨_, rfl⟩
     replace H : (if 0 ≤ a1_1 then (if a1_1 < (t495.length : Int) then (some (y499.set (a1_1 : Int).toNat (wrap64 ((rd y499 a1_1) + a1_2)))) else (none)) else (none)) = some r := by first | (rw [hy499]; with_reducible exact H) | (have H2_ := (Option.bind_some _ _).symm.trans H; rw [hy499]; with_reducible exact H2_) | (have H2_ := (Option.bind_some _ _).symm.trans H; with_reducible exact H2_) | with_reducible exact H | (rw [hy499]; exact H) | exact H
     have Ny499 := zad hy499
     clear hy499
     by_cases c7 : 0 ≤ a1_1
     · rw [if_pos c7] at H
       have c7b0 : decide (0 ≤ a1_1) = true := zaz c7
       clear c7
       by_cases c8 : a1_1 < (t495.length : Int)
       · rw [if_pos c8] at H
         have c8b0 : decide (a1_1 < (t495.length : Int)) = true := zaz c8
         clear c8
         obtain ⟨y501, hy501⟩ : ∃ y_ : List Int, y_ = (y499.set (a1_1 : Int).toNat (wrap64 ((rd y499 a1_1) + a1_2))) := ⟨_, rfl⟩
         replace H : (some y501) = some r := by first | (rw [hy501]; with_reducible exact H) | (have H2_ := (Option.bind_some _ _).symm.trans H; rw [hy501]; with_reducible exact H2_) | (have H2_ := (Option.bind_some _ _).symm.trans H; with_reducible exact H2_) | with_reducible exact H | (rw [hy501]; exact H) | exact H
         have Ny501 := zad hy501
         clear hy501
         obtain rfl := Option.some.inj H
         go_enter Try.func101, Try.ntmps101
         try go_wp2_with (first | ((with_reducible refine gate_dst (N := 3) rfl ?_); refine box_event ?hg (N := 3) ?hd (cs := #[.int .i64 a1_0, .int .i64 a1_1, .int .i64 a1_2]) (t := 39) ?hr ?_; (case hd => rfl); (case hg => rfl); (case hr => first | (go_simp; done) | (go_simp; rfl)); intro gb494 hg w10 hbox hb; have n0_ := zad (below_step (by repeat (first | (with_reducible first | exact HB.out | apply zag | apply zae | apply zaf) | exact HB.out)) hb); have n1_ := zad (hbox); have n2_ := zad ((by rw [hg]; exact (below_size (by repeat (first | (with_reducible first | exact HB.out | apply zag | apply zae | apply zaf) | exact HB.out))) : w.heap.size ≤ gb494)); have n3_ := zad ((by rw [hg]; exact (below_size (by repeat (first | (with_reducible first | exact HB.out | apply zag | apply zae | apply zaf) | exact HB.out))) : w.heap.size ≤ gb494)); clear HB; have HB := n0_; have BK494 := n1_; have GW494 := n2_; have GE494 := n3_; clear n0_ n1_ n2_ n3_; clear hb hbox hg) | ((with_reducible refine gate_callee (f := 111) rfl ?_); refine goesL_ (some 7) rfl rfl Try.func111 (by kernel_rfl) rfl #[.slice A0 l0.length c0] rfl (by (try simp only [zat, zau, zav]); first | done | rfl | (simp only [zaw, zax]; rfl)) ?_; (with_reducible refine (spec_l1Own.calls _ _ l0 t495 _ ?side1 ?side2 A3.out).mono ?_); (case side1 => repeat (first | exact (Kd.C_below HR0.out HB.out) | (with_reducible refine zal ?_ _) | (with_reducible refine zam ?_ _) | (with_reducible refine zan ?_))); (case side2 => exact HC0.out); rintro e w11 ⟨v496, rfl, ho0, hb⟩; refine ⟨_, rfl, ?_⟩; have n0_ := zad (Kd.R_lower ho0 (below_size (by repeat (first | (with_reducible first | exact HB.out | apply zag | apply zae | apply zaf | refine zah ?_ GE494.out) | exact HB.out)))); have n1_ := zad (blk_below (g := gb494) (o := .cells #[.int .i64 a1_0, .int .i64 a1_1, .int .i64 a1_2] 39 (0, 0)) (by (with_reducible repeat (first | refine blk_drewN ?_ _ | refine blk_drew ?_ | refine blk_alloc ?_ _)); exact BK494.out) hb); have n2_ := zad (below_step (by repeat (first | (with_reducible first | exact HB.out | apply zag | apply zae | apply zaf | refine zah ?_ GE494.out) | exact HB.out)) hb); clear BK494; clear HB; have HO497 := n0_; have BK494 := n1_; have HB := n2_; clear n0_ n1_ n2_; (try clear hb); (try clear hb2); (try clear hk); (try clear hi); (try clear ho0)))
         have n0_ := zad (zak HO497.out)
         have n1_ := zad (blk_drew BK494.out)
         have n2_ := zad (zaf HB.out)
         clear HO497
         clear BK494
         clear HB
         have HO497 := n0_
         have BK494 := n1_
         have HB := n2_
         clear n0_ n1_ n2_
         obtain ⟨Ao13, co13, eo13⟩ := Kd.R_slice HO497.out
         (first | subst eo13 | (injection eo13 with f1_ f2_ f3_; have f4_ := f1_.symm; have f5_ := f3_.symm; clear f1_ f2_ f3_; subst f4_; subst f5_))
         have p498 : 0 ≤ (a1_0 : Int) := zas (by first | (with_reducible assumption) | assumption)
         have q498 : a1_0 < (t495.length : Int) := zas (by first | (with_reducible assumption) | assumption)
         obtain ⟨ad498, e498, hx498_0⟩ := Kd.at_int (Kd.R_reads' HO497.out).2.2 a1_0 p498 q498
         cases e498
         replace p498 := eq_true p498
         replace q498 := eq_true q498
         have p6 : 0 ≤ (a1_0 : Int) := zas (by first | (with_reducible assumption) | assumption)
         have q6 : (a1_0 : Int) < ((t495.length : Int) : Int) := zas (by first | (with_reducible assumption) | assumption)
         obtain ⟨go6, co6, eo6, gb6, gl6, cl6, HG6⟩ := Kd.R_form HO497.out (by omega)
         (first | cases eo6 | (injection eo6 with ea_ en_ ec_; (first | subst ea_ | (injection ea_ with ea_; subst ea_)); subst ec_; clear en_))
         have GB6 := zad gb6
         have GG6 := zad HG6
         clear gb6 gl6 HG6
         (first | simp only [add_plain] at hx498_0 | skip)
         obtain ⟨hx6_0, hf6_0⟩ := Kd.R_celln 0 HO497.out (a1_0 : Int) p6 q6
         replace p6 := eq_true p6
         replace q6 := eq_true q6
         have HP14 := Kd.R_putn HO497.out (a1_0 : Int) (wrap64 ((rd t495 a1_0) - a1_2))
         rw [← Ny499.out] at HP14
         have HQ14 := zad HP14
         clear HP14
         refine start_ (n := 10) (S := fun w' => w'.cell? ⟨gb494, 0, none⟩ = some (.int .i64 a1_0) ∧ w'.cell? ⟨gb494, 1, none⟩ = some (.int .i64 a1_1) ∧ w'.cell? ⟨gb494, 2, none⟩ = some (.int .i64 a1_2) ∧ w'.cell? ⟨go6, (a1_0).toNat, none⟩ = some (.int .i64 (rd t495 a1_0))) (ds := [9]) #[false, false, false, false, false, false, false, false, false, false] (by kernel_rfl) rfl rfl ⟨(blk_cell BK494.out 0).trans rfl, (blk_cell BK494.out 1).trans rfl, (blk_cell BK494.out 2).trans rfl, hx498_0⟩ (fun hHeld => ?_); refine with_tabW spec_giDo.tab2 spec_giDo.bits2 (fun HT_ HW_ => ?_)
         generalize w11.drew = w12 at HO497 BK494 HB GG6 HQ14 hf6_0 hx498_0 hx6_0 hHeld ⊢
         refine pure_ (i := 0) (N := some 8) (v := ?_) (a' := ?_) #[true, false, false, false, false, false, false, false, false, false] rfl rfl (any_of HT_.out (by kernel_rfl)) (fun _ _ _ h => h) (Or.inl ⟨by rfl, ?_⟩) ?_ ?_
         rotate_left
         · intro w'
           go_simp
           with_reducible rfl
         rotate_left
         · simp only [Act.put, zaa, zab, zac, i64_w, i32_w]
           rfl
         refine pure_ (i := 1) (N := some 9) (v := ?_) (a' := ?_) #[true, true, false, false, false, false, false, false, false, false] rfl rfl (any_of HT_.out (by kernel_rfl)) (fun _ _ _ h => h) (Or.inl ⟨by rfl, ?_⟩) ?_ ?_
         rotate_left
         · intro w'
           go_simp
           with_reducible rfl
         rotate_left
         · simp only [Act.put, zaa, zab, zac, i64_w, i32_w]
           rfl
         refine pure_ (i := 5) (N := some 13) (v := ?_) (a' := ?_) #[true, true, false, false, false, true, false, false, false, false] rfl rfl (any_of HT_.out (by kernel_rfl)) (fun _ _ _ h => h) (Or.inl ⟨by rfl, ?_⟩) ?_ ?_
         rotate_left
         · intro w'
           go_simp
           with_reducible rfl
         rotate_left
         · simp only [Act.put, zaa, zab, zac, i64_w, i32_w]
           rfl
         refine take_ (i := 2) (N := some 10) (v := ?_) (a' := ?_) #[true, true, true, false, false, true, false, false, false, false] rfl rfl (take_ofW HT_.out HW_.out (by kernel_rfl)) (fun _ _ _ h => h) (Or.inl ⟨by rfl, ?_⟩) hHeld ?_ ?_
         rotate_left
         · rintro w' ⟨s0, s1, s2, s3⟩
           go_simp
           with_reducible rfl
         rotate_left
         · simp only [Act.put, zaa, zab, zac, i64_w, i32_w]
           rfl
         refine pure_ (i := 3) (N := some 11) (v := ?_) (a' := ?_) #[true, true, true, true, false, true, false, false, false, false] rfl rfl (any_of HT_.out (by kernel_rfl)) (fun _ _ _ h => h) (Or.inl ⟨by rfl, ?_⟩) ?_ ?_
         rotate_left
         · intro w'
           go_simp
           with_reducible rfl
         rotate_left
         · simp only [Act.put, zaa, zab, zac, i64_w, i32_w]
           rfl
         refine take_ (i := 4) (N := some 12) (v := ?_) (a' := ?_) #[true, true, true, true, true, true, false, false, false, false] rfl rfl (take_ofW HT_.out HW_.out (by kernel_rfl)) (fun _ _ _ h => h) (Or.inl ⟨by rfl, ?_⟩) hHeld ?_ ?_
         rotate_left
         · rintro w' ⟨s0, s1, s2, s3⟩
           go_simp
           with_reducible rfl
         rotate_left
         · simp only [Act.put, zaa, zab, zac, i64_w, i32_w]
           rfl
         refine take_ (i := 6) (N := some 14) (v := ?_) (a' := ?_) #[true, true, true, true, true, true, true, false, false, false] rfl rfl (take_ofW HT_.out HW_.out (by kernel_rfl)) (fun _ _ _ h => h) (Or.inl ⟨by rfl, ?_⟩) hHeld ?_ ?_
         rotate_left
         · rintro w' ⟨s0, s1, s2, s3⟩
           go_simp
           with_reducible rfl
         rotate_left
         · simp only [Act.put, zaa, zab, zac, i64_w, i32_w]
           rfl
         refine pure_ (i := 7) (N := some 15) (v := ?_) (a' := ?_) #[true, true, true, true, true, true, true, true, false, false] rfl rfl (any_of HT_.out (by kernel_rfl)) (fun _ _ _ h => h) (Or.inl ⟨by rfl, ?_⟩) ?_ ?_
         rotate_left
         · intro w'
           go_simp
           with_reducible rfl
         rotate_left
         · simp only [Act.put, zaa, zab, zac, i64_w, i32_w]
           rfl
         refine pure_ (i := 8) (N := some 16) (v := ?_) (a' := ?_) #[true, true, true, true, true, true, true, true, true, false] rfl rfl (any_of HT_.out (by kernel_rfl)) (fun _ _ _ h => h) (Or.inl ⟨by rfl, ?_⟩) ?_ ?_
         rotate_left
         · intro w'
           go_simp
           with_reducible rfl
         rotate_left
         · simp only [Act.put, zaa, zab, zac, i64_w, i32_w]
           rfl
         refine last_ (i := 9) (N := none) #[true, true, true, true, true, true, true, true, true, true] rfl rfl (one_of HT_.out (by kernel_rfl)) (by decide) (fun K hK => ?_)
         refine skip_ (w1 := ?_) (by rfl) rfl ?_ ?_
         rotate_left
         · go_simp
           rfl
         refine hK.out _ _ ?_
         clear hK K
         refine done_ (done_of HT_.out (by kernel_rfl)) ?_
         try go_wp2
         have n0_ : Aside0 (Kd.R (Kd.int .i64) 3 (w12.setCell ⟨go6, (a1_0 : Int).toNat, none⟩ (.int .i64 (wrap64 ((rd t495 a1_0) - a1_2)))) w.heap.size (fun _ => True) (.slice (some ⟨go6, 0, none⟩) t495.length co13) y499) := ⟨by (with_reducible repeat (first | apply zai | apply zaj | apply zak)); exact HQ14.out⟩
         have n1_ : Aside0 ((w12.setCell ⟨go6, (a1_0 : Int).toNat, none⟩ (.int .i64 (wrap64 ((rd t495 a1_0) - a1_2)))).heap[gb494]? = some (.cells #[.int .i64 a1_0, .int .i64 a1_1, .int .i64 a1_2] 39 (0, 0))) := ⟨by (with_reducible repeat (first | refine blk_drewN ?_ _ | refine blk_drew ?_ | refine blk_alloc ?_ _)); refine blk_far ?_ (by have h_ := Kd.R_ne HO497.out BK494.out (by decide); intro e_; exact h_ (by rw [e_]; rfl)) _; (with_reducible repeat (first | refine blk_drewN ?_ _ | refine blk_drew ?_ | refine blk_alloc ?_ _)); exact BK494.out⟩
         have n2_ : Aside0 (Below w.heap.size w (w12.setCell ⟨go6, (a1_0 : Int).toNat, none⟩ (.int .i64 (wrap64 ((rd t495 a1_0) - a1_2))))) := ⟨by repeat (first | (with_reducible first | exact HB.out | apply zag | apply zae | apply zaf | refine zah ?_ GB6.out | refine zah ?_ GE494.out) | exact HB.out)⟩
         (try clear HO497)
         (try clear BK494)
         (try clear HB)
         generalize (w12.setCell ⟨go6, (a1_0 : Int).toNat, none⟩ (.int .i64 (wrap64 ((rd t495 a1_0) - a1_2)))) = w15 at n0_ n1_ n2_ ⊢
         have HO497 := n0_
         have BK494 := n1_
         have HB := n2_
         clear n0_ n1_ n2_
         have n0_ := zad (zak HO497.out)
         have n1_ := zad (blk_drew BK494.out)
         have n2_ := zad (zaf HB.out)
         clear HO497
         clear BK494
         clear HB
         have HO497 := n0_
         have BK494 := n1_
         have HB := n2_
         clear n0_ n1_ n2_
         have p500 : 0 ≤ (a1_1 : Int) := zas (by first | (with_reducible assumption) | assumption)
         have q500 : a1_1 < (y499.length : Int) := (by have h_ : (a1_1 : Int) < ((t495.length : Int) : Int) := zas (by first | (with_reducible assumption) | assumption); first | (have e_ := (Kd.R_reads' HO497.out).1; omega) | simpa only [Ny499.out, List.length_set] using h_)
         have ql500 : ((a1_1 : Int) < ((t495.length : Int) : Int)) = True := eq_true (zas (by first | (with_reducible assumption) | assumption))
         obtain ⟨ad500, e500, hx500_0⟩ := Kd.at_int (Kd.R_reads' HO497.out).2.2 a1_1 p500 q500
         obtain rfl : (⟨go6, 0, none⟩ : Addr) = ad500 := (by injection e500)
         (first | simp only [add_plain] at hx500_0 | simp only [add_at] at hx500_0 | simp only [Addr.add, Nat.zero_add] at hx500_0 | skip)
         replace p500 := eq_true p500
         replace q500 := eq_true q500
         have p9 : 0 ≤ (a1_1 : Int) := zas (by first | (with_reducible assumption) | assumption)
         have q9 : (a1_1 : Int) < ((t495.length : Int) : Int) := zas (by first | (with_reducible assumption) | assumption)
         obtain ⟨hx9_0, hf9_0⟩ := Kd.R_celln 0 HO497.out (a1_1 : Int) p9 q9
         replace p9 := eq_true p9
         replace q9 := eq_true q9
         have HP17 := Kd.R_putn HO497.out (a1_1 : Int) (wrap64 ((rd y499 a1_1) + a1_2))
         rw [← Ny501.out] at HP17
         have HQ17 := zad HP17
         clear HP17
         refine start_ (n := 10) (S := fun w' => w'.cell? ⟨gb494, 0, none⟩ = some (.int .i64 a1_0) ∧ w'.cell? ⟨gb494, 1, none⟩ = some (.int .i64 a1_1) ∧ w'.cell? ⟨gb494, 2, none⟩ = some (.int .i64 a1_2) ∧ w'.cell? ⟨go6, (a1_1).toNat, none⟩ = some (.int .i64 (rd y499 a1_1))) (ds := [9]) #[false, false, false, false, false, false, false, false, false, false] (by kernel_rfl) rfl rfl ⟨(blk_cell BK494.out 0).trans rfl, (blk_cell BK494.out 1).trans rfl, (blk_cell BK494.out 2).trans rfl, hx500_0⟩ (fun hHeld => ?_); refine with_tabW spec_giDo.tab3 spec_giDo.bits3 (fun HT_ HW_ => ?_)
         generalize w15.drew = w16 at HO497 BK494 HB HQ14 HQ17 hf9_0 hx500_0 hx9_0 hHeld ⊢
         refine pure_ (i := 0) (N := some 17) (v := ?_) (a' := ?_) #[true, false, false, false, false, false, false, false, false, false] rfl rfl (any_of HT_.out (by kernel_rfl)) (fun _ _ _ h => h) (Or.inl ⟨by rfl, ?_⟩) ?_ ?_
         rotate_left
         · intro w'
           go_simp
           with_reducible rfl
         rotate_left
         · simp only [Act.put, zaa, zab, zac, i64_w, i32_w]
           rfl
         refine pure_ (i := 1) (N := some 18) (v := ?_) (a' := ?_) #[true, true, false, false, false, false, false, false, false, false] rfl rfl (any_of HT_.out (by kernel_rfl)) (fun _ _ _ h => h) (Or.inl ⟨by rfl, ?_⟩) ?_ ?_
         rotate_left
         · intro w'
           go_simp
           with_reducible rfl
         rotate_left
         · simp only [Act.put, zaa, zab, zac, i64_w, i32_w]
           rfl
         refine pure_ (i := 5) (N := some 22) (v := ?_) (a' := ?_) #[true, true, false, false, false, true, false, false, false, false] rfl rfl (any_of HT_.out (by kernel_rfl)) (fun _ _ _ h => h) (Or.inl ⟨by rfl, ?_⟩) ?_ ?_
         rotate_left
         · intro w'
           go_simp
           with_reducible rfl
         rotate_left
         · simp only [Act.put, zaa, zab, zac, i64_w, i32_w]
           rfl
         refine take_ (i := 2) (N := some 19) (v := ?_) (a' := ?_) #[true, true, true, false, false, true, false, false, false, false] rfl rfl (take_ofW HT_.out HW_.out (by kernel_rfl)) (fun _ _ _ h => h) (Or.inl ⟨by rfl, ?_⟩) hHeld ?_ ?_
         rotate_left
         · rintro w' ⟨s0, s1, s2, s3⟩
           go_simp
           with_reducible rfl
         rotate_left
         · simp only [Act.put, zaa, zab, zac, i64_w, i32_w]
           rfl
         refine pure_ (i := 3) (N := some 20) (v := ?_) (a' := ?_) #[true, true, true, true, false, true, false, false, false, false] rfl rfl (any_of HT_.out (by kernel_rfl)) (fun _ _ _ h => h) (Or.inl ⟨by rfl, ?_⟩) ?_ ?_
         rotate_left
         · intro w'
           go_simp
           with_reducible rfl
         rotate_left
         · simp only [Act.put, zaa, zab, zac, i64_w, i32_w]
           rfl
         refine take_ (i := 4) (N := some 21) (v := ?_) (a' := ?_) #[true, true, true, true, true, true, false, false, false, false] rfl rfl (take_ofW HT_.out HW_.out (by kernel_rfl)) (fun _ _ _ h => h) (Or.inl ⟨by rfl, ?_⟩) hHeld ?_ ?_
         rotate_left
         · rintro w' ⟨s0, s1, s2, s3⟩
           go_simp
           with_reducible rfl
         rotate_left
         · simp only [Act.put, zaa, zab, zac, i64_w, i32_w]
           rfl
         refine take_ (i := 6) (N := some 23) (v := ?_) (a' := ?_) #[true, true, true, true, true, true, true, false, false, false] rfl rfl (take_ofW HT_.out HW_.out (by kernel_rfl)) (fun _ _ _ h => h) (Or.inl ⟨by rfl, ?_⟩) hHeld ?_ ?_
         rotate_left
         · rintro w' ⟨s0, s1, s2, s3⟩
           go_simp
           with_reducible rfl
         rotate_left
         · simp only [Act.put, zaa, zab, zac, i64_w, i32_w]
           rfl
         refine pure_ (i := 7) (N := some 24) (v := ?_) (a' := ?_) #[true, true, true, true, true, true, true, true, false, false] rfl rfl (any_of HT_.out (by kernel_rfl)) (fun _ _ _ h => h) (Or.inl ⟨by rfl, ?_⟩) ?_ ?_
         rotate_left
         · intro w'
           go_simp
           with_reducible rfl
         rotate_left
         · simp only [Act.put, zaa, zab, zac, i64_w, i32_w]
           rfl
         refine pure_ (i := 8) (N := some 25) (v := ?_) (a' := ?_) #[true, true, true, true, true, true, true, true, true, false] rfl rfl (any_of HT_.out (by kernel_rfl)) (fun _ _ _ h => h) (Or.inl ⟨by rfl, ?_⟩) ?_ ?_
         rotate_left
         · intro w'
           go_simp
           with_reducible rfl
         rotate_left
         · simp only [Act.put, zaa, zab, zac, i64_w, i32_w]
           rfl
         refine last_ (i := 9) (N := none) #[true, true, true, true, true, true, true, true, true, true] rfl rfl (one_of HT_.out (by kernel_rfl)) (by decide) (fun K hK => ?_)
         refine skip_ (w1 := ?_) (by rfl) rfl ?_ ?_
         rotate_left
         · go_simp
           rfl
         refine hK.out _ _ ?_
         clear hK K
         refine done_ (done_of HT_.out (by kernel_rfl)) ?_
         try go_wp2
         go_ret
         exact ⟨_, by first | rfl | (simp [errW_none, errW_some] <;> rfl) | (simp [*, errW_none, errW_some] <;> rfl), by (with_reducible repeat (first | apply zai | apply zaj | apply zak)); exact HQ17.out, by repeat (first | (with_reducible first | exact HB.out | apply zag | apply zae | apply zaf | refine zah ?_ GB6.out | refine zah ?_ GE494.out) | exact HB.out)⟩
       · rw [if_neg c8] at H
         exact absurd H (by simp)
     · rw [if_neg c7] at H
       exact absurd H (by simp)
   · rw [if_neg c5] at H
     exact absurd H (by simp)
 · rw [if_neg c4] at H
   exact absurd H (by simp)
def spec_l1Same.l0 : Nat → List Int → List Int → Int → Int → Option (Bool)
 | 0, _, _, _, _ => none
 | k + 1, x0, x1, x12, x13 => if x13 < x12 then (if 0 ≤ x13 then (if x13 < (x0.length : Int) then (if x13 < (x1.length : Int) then (if (rd x0 x13) = (rd x1 x13) then (spec_l1Same.l0 k x0 x1 x12 (wrap64 (x13 + 1))) else (some false)) else (none)) else (none)) else (none)) else (some true)
def spec_l1Same.f (k : Nat) (l0 : List Int) (l1 : List Int) : Option (Bool) := if (l0.length : Int) = (l1.length : Int) then (spec_l1Same.l0 k l0 l1 (l0.length : Int) 0) else (some false)
set_option maxHeartbeats 8000000 in
set_option maxRecDepth 100000 in
theorem spec_l1Same.calls (k : Nat) (A0 : Option Addr) (c0 : Nat) (l0 : List Int) (A1 : Option Addr) (c1 : Nat) (l1 : List Int) (r : Bool) (w : World) (hr0 : Kd.C (Kd.int .i64) w A0 l0.length l0) (hc0 : l0.length ≤ c0) (hr1 : Kd.C (Kd.int .i64) w A1 l1.length l1) (hc1 : l1.length ≤ c1) (h : spec_l1Same.f k l0 l1 = some r) :
 Calls Try.prog 118 #[.slice A0 l0.length c0, .slice A1 l1.length c1] w fun e w' => e = .returned (.bool r) ∧ Drawn0 w w' := by
 have HR0 := zad hr0
 have HC0 := zad hc0
 clear hr0 hc0
 have HR1 := zad hr1
 have HC1 := zad hc1
 clear hr1 hc1
 have H : (if (l0.length : Int) = (l1.length : Int) then (spec_l1Same.l0 k l0 l1 (l0.length : Int) 0) else (some false)) = some r := h
 clear h
 by_cases c3 : (l0.length : Int) = (l1.length : Int)
 · rw [if_pos c3] at H
   have c3b0 : ((l0.length : Int) == (l1.length : Int)) = true := beq_iff_eq.mpr c3
   have c3b1 : ((l0.length : Int) != (l1.length : Int)) = false := bne_eq_false_iff_eq.mpr c3
   have c3b2 : (l0.length == l1.length) = true := by first | simpa using c3 | (simp at c3 ⊢; omega)
   clear c3
   have H' := zad H
   clear H
   go_enter Try.func118, Try.ntmps118
   go_wp2
   repeat (go_quiet (fail); try go_wp2)
   go_loopg [13] k (fun kq v13 w' => ∃ (x13_1 : Int), v13 = .int .i64 x13_1 ∧ Aside0 (spec_l1Same.l0 kq l0 l1 (l0.length : Int) x13_1 = some r) ∧ Aside0 (kq ≤ k) ∧ Drawn0 w w')
   case atStart => exact ⟨(0), (by first | rfl | (simp; done) | (simp [*]; done)), H', ⟨Nat.le_refl _⟩, by repeat (first | exact Drawn0.refl _ | apply Drawn0.step)⟩
   case round =>
    clear H'
    try clear c1
    try clear p2
    try clear c3
    try clear c3b0
    try clear c3b1
    try clear c3b2
    obtain ⟨x13_1, rfl, HA, HK1, ⟨m1, rfl⟩⟩ := hrel
    cases gk with
    | zero => exact absurd HA.out (by simp [spec_l1Same.l0])
    | succ k1 =>
     have H := HA.out
     clear HA
     simp only [spec_l1Same.l0] at H
     by_cases c4 : x13_1 < (l0.length : Int)
     · rw [if_pos c4] at H
       have c4b0 : decide (x13_1 < (l0.length : Int)) = true := zaz c4
       clear c4
       by_cases c5 : 0 ≤ x13_1
       · rw [if_pos c5] at H
         have c5b0 : decide (0 ≤ x13_1) = true := zaz c5
         clear c5
         by_cases c6 : x13_1 < (l0.length : Int)
         · rw [if_pos c6] at H
           have c6b0 : decide (x13_1 < (l0.length : Int)) = true := zaz c6
           clear c6
           by_cases c7 : x13_1 < (l1.length : Int)
           · rw [if_pos c7] at H
             have c7b0 : decide (x13_1 < (l1.length : Int)) = true := zaz c7
             clear c7
             by_cases c8 : (rd l0 x13_1) = (rd l1 x13_1)
             · rw [if_pos c8] at H
               have c8b0 : ((rd l0 x13_1) == (rd l1 x13_1)) = true := beq_iff_eq.mpr c8
               have c8b1 : ((rd l0 x13_1) != (rd l1 x13_1)) = false := bne_eq_false_iff_eq.mpr c8
               clear c8
               have H' := zad H
               clear H
               have p843 : 0 ≤ (x13_1 : Int) := zas (by first | (with_reducible assumption) | assumption)
               have q843 : x13_1 < (l0.length : Int) := zas (by first | (with_reducible assumption) | assumption)
               obtain ⟨ad843, e843, hx843_0⟩ := Kd.at_int HR0.out x13_1 p843 q843
               cases e843
               replace p843 := eq_true p843
               replace q843 := eq_true q843
               have p844 : 0 ≤ (x13_1 : Int) := zas (by first | (with_reducible assumption) | assumption)
               have q844 : x13_1 < (l1.length : Int) := zas (by first | (with_reducible assumption) | assumption)
               obtain ⟨ad844, e844, hx844_0⟩ := Kd.at_int HR1.out x13_1 p844 q844
               cases e844
               replace p844 := eq_true p844
               replace q844 := eq_true q844
               go_wp2
               repeat (go_quiet (fail); try go_wp2)
               go_roundg k1
               case measure => have := HK1.out; omega
               case rel => exact ⟨(wrap64 (x13_1 + 1)), (by first | rfl | (simp; done) | (simp [*]; done)), H', ⟨by have := HK1.out; omega⟩, by repeat (first | exact Drawn0.refl _ | apply Drawn0.step)⟩
             · rw [if_neg c8] at H
               have c8b0 : ((rd l0 x13_1) == (rd l1 x13_1)) = false := beq_eq_false_iff_ne.mpr c8
               have c8b1 : ((rd l0 x13_1) != (rd l1 x13_1)) = true := bne_iff_ne.mpr c8
               obtain rfl := Option.some.inj H
               have p843 : 0 ≤ (x13_1 : Int) := zas (by first | (with_reducible assumption) | assumption)
               have q843 : x13_1 < (l0.length : Int) := zas (by first | (with_reducible assumption) | assumption)
               obtain ⟨ad843, e843, hx843_0⟩ := Kd.at_int HR0.out x13_1 p843 q843
               cases e843
               replace p843 := eq_true p843
               replace q843 := eq_true q843
               have p844 : 0 ≤ (x13_1 : Int) := zas (by first | (with_reducible assumption) | assumption)
               have q844 : x13_1 < (l1.length : Int) := zas (by first | (with_reducible assumption) | assumption)
               obtain ⟨ad844, e844, hx844_0⟩ := Kd.at_int HR1.out x13_1 p844 q844
               cases e844
               replace p844 := eq_true p844
               replace q844 := eq_true q844
               go_wp2
               repeat (go_quiet (fail); try go_wp2)
               go_ret
               exact ⟨by first | rfl | (simp; done) | (simp [*]; done), by repeat (first | exact Drawn0.refl _ | apply Drawn0.step)⟩
           · rw [if_neg c7] at H
             exact absurd H (by simp)
         · rw [if_neg c6] at H
           exact absurd H (by simp)
       · rw [if_neg c5] at H
         exact absurd H (by simp)
     · rw [if_neg c4] at H
       have c4b0 : decide (x13_1 < (l0.length : Int)) = false := decide_eq_false c4
       clear c4
       obtain rfl := Option.some.inj H
       go_wp2
       repeat (go_quiet (fail); try go_wp2)
       go_ret
       exact ⟨by first | rfl | (simp; done) | (simp [*]; done), by repeat (first | exact Drawn0.refl _ | apply Drawn0.step)⟩
 · rw [if_neg c3] at H
   have c3b0 : ((l0.length : Int) == (l1.length : Int)) = false := beq_eq_false_iff_ne.mpr c3
   have c3b1 : ((l0.length : Int) != (l1.length : Int)) = true := bne_iff_ne.mpr c3
   have c3b2 : (l0.length == l1.length) = false := by first | simpa using c3 | (simp at c3 ⊢; omega)
   obtain rfl := Option.some.inj H
   go_enter Try.func118, Try.ntmps118
   go_wp2
   repeat (go_quiet (fail); try go_wp2)
   go_ret
   exact ⟨by first | rfl | (simp; done) | (simp [*]; done), by repeat (first | exact Drawn0.refl _ | apply Drawn0.step)⟩
def spec_l1Least.f (a0 : Int) (a1 : Int) : Option (Int) := if a0 < a1 then (some a0) else (some a1)
set_option maxHeartbeats 8000000 in
set_option maxRecDepth 100000 in
theorem spec_l1Least.calls (a0 : Int) (a1 : Int) (r : Int) (w : World) (h : spec_l1Least.f a0 a1 = some r) :
 Calls Try.prog 120 #[.int .i64 a0, .int .i64 a1] w fun e w' => e = .returned (.int .i64 r) ∧ Drawn0 w w' := by
 have H : (if a0 < a1 then (some a0) else (some a1)) = some r := h
 clear h
 by_cases c3 : a0 < a1
 · rw [if_pos c3] at H
   have c3b0 : decide (a0 < a1) = true := zaz c3
   clear c3
   obtain rfl := Option.some.inj H
   go_enter Try.func120, Try.ntmps120
   go_wp2
   go_ret
   exact ⟨by first | rfl | (simp; done) | (simp [*]; done), by repeat (first | exact Drawn0.refl _ | apply Drawn0.step)⟩
 · rw [if_neg c3] at H
   have c3b0 : decide (a0 < a1) = false := decide_eq_false c3
   clear c3
   obtain rfl := Option.some.inj H
   go_enter Try.func120, Try.ntmps120
   go_wp2
   go_ret
   exact ⟨by first | rfl | (simp; done) | (simp [*]; done), by repeat (first | exact Drawn0.refl _ | apply Drawn0.step)⟩
mutual
def spec_giNext.l0 : Nat → List Int → List Int → Int → Option (Int × Int × Int)
 | 0, _, _, _ => none
 | k + 1, x0, x1, x5 => if 0 ≤ x5 then (if x5 < (x1.length : Int) then (if x5 < (x0.length : Int) then (if (rd x1 x5) ≥ (rd x0 x5) then (spec_giNext.l0 k x0 x1 (wrap64 (x5 + 1))) else (spec_giNext.l1 k x0 x1 x5 (wrap64 (x5 - 1)))) else (none)) else (none)) else (none)
def spec_giNext.l1 : Nat → List Int → List Int → Int → Int → Option (Int × Int × Int)
 | 0, _, _, _, _ => none
 | k + 1, x0, x1, x5, x6 => if 0 ≤ x6 then (if x6 < (x1.length : Int) then (if x6 < (x0.length : Int) then (if (rd x1 x6) ≤ (rd x0 x6) then (spec_giNext.l1 k x0 x1 x5 (wrap64 (x6 - 1))) else (some (x6, x5, 1))) else (none)) else (none)) else (none)
end
def spec_giNext.f (k : Nat) (l0 : List Int) (l1 : List Int) : Option (Int × Int × Int) := spec_giNext.l0 k l0 l1 0
set_option maxHeartbeats 8000000 in
set_option maxRecDepth 100000 in
theorem spec_giNext.calls (k : Nat) (A0 : Option Addr) (c0 : Nat) (l0 : List Int) (A1 : Option Addr) (c1 : Nat) (l1 : List Int) (r1 : Int) (r2 : Int) (r3 : Int) (w : World) (hr0 : Kd.C (Kd.int .i64) w A0 l0.length l0) (hc0 : l0.length ≤ c0) (hr1 : Kd.C (Kd.int .i64) w A1 l1.length l1) (hc1 : l1.length ≤ c1) (h : spec_giNext.f k l0 l1 = some (r1, r2, r3)) :
 Calls Try.prog 153 #[.slice A0 l0.length c0, .slice A1 l1.length c1] w fun e w' => e = .returned (.agg #[.int .i64 r1, .int .i64 r2, .int .i64 r3]) ∧ Below w.heap.size w w' := by
 have hu39 := Try.underlying39
 have HR0 := zad hr0
 have HC0 := zad hc0
 clear hr0 hc0
 have HR1 := zad hr1
 have HC1 := zad hc1
 clear hr1 hc1
 have HB := zad (Below.refl w.heap.size w)
 have H : (spec_giNext.l0 k l0 l1 0) = some (r1, r2, r3) := h
 clear h
 have H' := zad H
 clear H
 go_enter Try.func153, Try.ntmps153
 go_wp2_with (first | ((with_reducible refine gate_dst (N := 4) rfl ?_); refine box_event ?hg (N := 4) ?hd (cs := #[.int .i64 0, .int .i64 0, .int .i64 0]) (t := 39) ?hr ?_; (case hd => rfl); (case hg => rfl); (case hr => first | (go_simp; done) | (go_simp; rfl)); intro gb1189 hg w3 hbox hb; have n0_ := zad (below_step (by repeat (first | (with_reducible first | exact HB.out | apply zag | apply zae | apply zaf) | exact HB.out)) hb); have n1_ := zad (hbox); have n2_ := zad ((by rw [hg]; exact (below_size (by repeat (first | (with_reducible first | exact HB.out | apply zag | apply zae | apply zaf) | exact HB.out))) : w.heap.size ≤ gb1189)); have n3_ := zad ((by rw [hg]; exact (below_size (by repeat (first | (with_reducible first | exact HB.out | apply zag | apply zae | apply zaf) | exact HB.out))) : w.heap.size ≤ gb1189)); clear HB; have HB := n0_; have BK1189 := n1_; have GW1189 := n2_; have GE1189 := n3_; clear n0_ n1_ n2_ n3_; clear hb hbox hg))
 repeat (go_quiet (first | ((with_reducible refine gate_dst (N := 4) rfl ?_); refine box_event ?hg (N := 4) ?hd (cs := #[.int .i64 0, .int .i64 0, .int .i64 0]) (t := 39) ?hr ?_; (case hd => rfl); (case hg => rfl); (case hr => first | (go_simp; done) | (go_simp; rfl)); intro gb1189 hg w3 hbox hb; have n0_ := zad (below_step (by repeat (first | (with_reducible first | exact HB.out | apply zag | apply zae | apply zaf) | exact HB.out)) hb); have n1_ := zad (hbox); have n2_ := zad ((by rw [hg]; exact (below_size (by repeat (first | (with_reducible first | exact HB.out | apply zag | apply zae | apply zaf) | exact HB.out))) : w.heap.size ≤ gb1189)); have n3_ := zad ((by rw [hg]; exact (below_size (by repeat (first | (with_reducible first | exact HB.out | apply zag | apply zae | apply zaf) | exact HB.out))) : w.heap.size ≤ gb1189)); clear HB; have HB := n0_; have BK1189 := n1_; have GW1189 := n2_; have GE1189 := n3_; clear n0_ n1_ n2_ n3_; clear hb hbox hg)); try go_wp2_with (first | ((with_reducible refine gate_dst (N := 4) rfl ?_); refine box_event ?hg (N := 4) ?hd (cs := #[.int .i64 0, .int .i64 0, .int .i64 0]) (t := 39) ?hr ?_; (case hd => rfl); (case hg => rfl); (case hr => first | (go_simp; done) | (go_simp; rfl)); intro gb1189 hg w3 hbox hb; have n0_ := zad (below_step (by repeat (first | (with_reducible first | exact HB.out | apply zag | apply zae | apply zaf) | exact HB.out)) hb); have n1_ := zad (hbox); have n2_ := zad ((by rw [hg]; exact (below_size (by repeat (first | (with_reducible first | exact HB.out | apply zag | apply zae | apply zaf) | exact HB.out))) : w.heap.size ≤ gb1189)); have n3_ := zad ((by rw [hg]; exact (below_size (by repeat (first | (with_reducible first | exact HB.out | apply zag | apply zae | apply zaf) | exact HB.out))) : w.heap.size ≤ gb1189)); clear HB; have HB := n0_; have BK1189 := n1_; have GW1189 := n2_; have GE1189 := n3_; clear n0_ n1_ n2_ n3_; clear hb hbox hg)))
 go_loopg [5] k (fun kq v5 w' => ∃ (x5_1 : Int), v5 = .int .i64 x5_1 ∧ Aside0 (spec_giNext.l0 kq l0 l1 x5_1 = some (r1, r2, r3)) ∧ Aside0 (kq ≤ k) ∧ Aside0 (w'.heap[gb1189]? = some (.cells #[.int .i64 0, .int .i64 0, .int .i64 0] 39 (0, 0))) ∧ Aside0 (Below w.heap.size w w'))
 case atStart => exact ⟨(0), (by first | rfl | (simp; done) | (simp [*]; done)), H', ⟨Nat.le_refl _⟩, ⟨by (with_reducible repeat (first | refine blk_drewN ?_ _ | refine blk_drew ?_ | refine blk_alloc ?_ _)); exact BK1189.out⟩, ⟨by repeat (first | (with_reducible first | exact HB.out | apply zag | apply zae | apply zaf | refine zah ?_ GE1189.out) | exact HB.out)⟩⟩
 case round =>
  clear H'
  try clear c1
  try clear p2
  obtain ⟨x5_1, rfl, HA, HK1, BK1189, HB⟩ := hrel
  cases gk with
  | zero => exact absurd HA.out (by simp [spec_giNext.l0])
  | succ k1 =>
   have H := HA.out
   clear HA
   simp only [spec_giNext.l0] at H
   by_cases c4 : 0 ≤ x5_1
   · rw [if_pos c4] at H
     have c4b0 : decide (0 ≤ x5_1) = true := zaz c4
     clear c4
     by_cases c5 : x5_1 < (l1.length : Int)
     · rw [if_pos c5] at H
       have c5b0 : decide (x5_1 < (l1.length : Int)) = true := zaz c5
       clear c5
       by_cases c6 : x5_1 < (l0.length : Int)
       · rw [if_pos c6] at H
         have c6b0 : decide (x5_1 < (l0.length : Int)) = true := zaz c6
         clear c6
         by_cases c7 : (rd l1 x5_1) ≥ (rd l0 x5_1)
         · rw [if_pos c7] at H
           have c7b0 : decide ((rd l0 x5_1) ≤ (rd l1 x5_1)) = true := zaz c7
           clear c7
           have H' := zad H
           clear H
           have p1190 : 0 ≤ (x5_1 : Int) := zas (by first | (with_reducible assumption) | assumption)
           have q1190 : x5_1 < (l1.length : Int) := zas (by first | (with_reducible assumption) | assumption)
           obtain ⟨ad1190, e1190, hx1190_0⟩ := Kd.at_int HR1.out x5_1 p1190 q1190
           cases e1190
           replace hx1190_0 := (HB.out.cell (zay w _ hx1190_0)).trans hx1190_0
           replace p1190 := eq_true p1190
           replace q1190 := eq_true q1190
           have p1191 : 0 ≤ (x5_1 : Int) := zas (by first | (with_reducible assumption) | assumption)
           have q1191 : x5_1 < (l0.length : Int) := zas (by first | (with_reducible assumption) | assumption)
           obtain ⟨ad1191, e1191, hx1191_0⟩ := Kd.at_int HR0.out x5_1 p1191 q1191
           cases e1191
           replace hx1191_0 := (HB.out.cell (zay w _ hx1191_0)).trans hx1191_0
           replace p1191 := eq_true p1191
           replace q1191 := eq_true q1191
           go_wp2
           repeat (go_quiet (fail); try go_wp2)
           go_roundg k1
           case measure => have := HK1.out; omega
           case rel => exact ⟨(wrap64 (x5_1 + 1)), (by first | rfl | (simp; done) | (simp [*]; done)), H', ⟨by have := HK1.out; omega⟩, ⟨by (with_reducible repeat (first | refine blk_drewN ?_ _ | refine blk_drew ?_ | refine blk_alloc ?_ _)); exact BK1189.out⟩, ⟨by repeat (first | (with_reducible first | exact HB.out | apply zag | apply zae | apply zaf | refine zah ?_ GE1189.out) | exact HB.out)⟩⟩
         · rw [if_neg c7] at H
           have c7b0 : decide ((rd l0 x5_1) ≤ (rd l1 x5_1)) = false := decide_eq_false c7
           clear c7
           have H' := zad H
           clear H
           have p1190 : 0 ≤ (x5_1 : Int) := zas (by first | (with_reducible assumption) | assumption)
           have q1190 : x5_1 < (l1.length : Int) := zas (by first | (with_reducible assumption) | assumption)
           obtain ⟨ad1190, e1190, hx1190_0⟩ := Kd.at_int HR1.out x5_1 p1190 q1190
           cases e1190
           replace hx1190_0 := (HB.out.cell (zay w _ hx1190_0)).trans hx1190_0
           replace p1190 := eq_true p1190
           replace q1190 := eq_true q1190
           have p1191 : 0 ≤ (x5_1 : Int) := zas (by first | (with_reducible assumption) | assumption)
           have q1191 : x5_1 < (l0.length : Int) := zas (by first | (with_reducible assumption) | assumption)
           obtain ⟨ad1191, e1191, hx1191_0⟩ := Kd.at_int HR0.out x5_1 p1191 q1191
           cases e1191
           replace hx1191_0 := (HB.out.cell (zay w _ hx1191_0)).trans hx1191_0
           replace p1191 := eq_true p1191
           replace q1191 := eq_true q1191
           go_wp2
           repeat (go_quiet (fail); try go_wp2)
           go_loopg [6] k1 (fun kq v6 w' => ∃ (x6_2 : Int), v6 = .int .i64 x6_2 ∧ Aside0 (spec_giNext.l1 kq l0 l1 x5_1 x6_2 = some (r1, r2, r3)) ∧ Aside0 (kq ≤ k1) ∧ Aside0 (w'.heap[gb1189]? = some (.cells #[.int .i64 0, .int .i64 0, .int .i64 0] 39 (0, 0))) ∧ Aside0 (Below w.heap.size w w'))
           case atStart => exact ⟨(wrap64 (x5_1 - 1)), (by first | rfl | (simp; done) | (simp [*]; done)), H', ⟨Nat.le_refl _⟩, ⟨by (with_reducible repeat (first | refine blk_drewN ?_ _ | refine blk_drew ?_ | refine blk_alloc ?_ _)); exact BK1189.out⟩, ⟨by repeat (first | (with_reducible first | exact HB.out | apply zag | apply zae | apply zaf | refine zah ?_ GE1189.out) | exact HB.out)⟩⟩
           case round =>
            clear H'
            try clear c1
            try clear p1
            try clear q1
            try clear hx1
            try clear p2
            try clear c4
            try clear c4b0
            try clear c5
            try clear c5b0
            try clear c6
            try clear c6b0
            try clear p6
            try clear c7
            try clear c7b0
            try clear hx1190_0
            try clear hx1191_0
            try clear p1190
            try clear p1191
            try clear p2
            try clear q1190
            try clear q1191
            obtain ⟨x6_2, rfl, HA, HK2, BK1189, HB⟩ := hrel
            cases gk with
            | zero => exact absurd HA.out (by simp [spec_giNext.l1])
            | succ k2 =>
             have H := HA.out
             clear HA
             simp only [spec_giNext.l1] at H
             by_cases c8 : 0 ≤ x6_2
             · rw [if_pos c8] at H
               have c8b0 : decide (0 ≤ x6_2) = true := zaz c8
               clear c8
               by_cases c9 : x6_2 < (l1.length : Int)
               · rw [if_pos c9] at H
                 have c9b0 : decide (x6_2 < (l1.length : Int)) = true := zaz c9
                 clear c9
                 by_cases c10 : x6_2 < (l0.length : Int)
                 · rw [if_pos c10] at H
                   have c10b0 : decide (x6_2 < (l0.length : Int)) = true := zaz c10
                   clear c10
                   by_cases c11 : (rd l1 x6_2) ≤ (rd l0 x6_2)
                   · rw [if_pos c11] at H
                     have c11b0 : decide ((rd l1 x6_2) ≤ (rd l0 x6_2)) = true := zaz c11
                     clear c11
                     have H' := zad H
                     clear H
                     have p1192 : 0 ≤ (x6_2 : Int) := zas (by first | (with_reducible assumption) | assumption)
                     have q1192 : x6_2 < (l1.length : Int) := zas (by first | (with_reducible assumption) | assumption)
                     obtain ⟨ad1192, e1192, hx1192_0⟩ := Kd.at_int HR1.out x6_2 p1192 q1192
                     obtain rfl : ad1190 = ad1192 := (by injection e1192)
                     replace hx1192_0 := (HB.out.cell (zay w _ hx1192_0)).trans hx1192_0
                     replace p1192 := eq_true p1192
                     replace q1192 := eq_true q1192
                     have p1193 : 0 ≤ (x6_2 : Int) := zas (by first | (with_reducible assumption) | assumption)
                     have q1193 : x6_2 < (l0.length : Int) := zas (by first | (with_reducible assumption) | assumption)
                     obtain ⟨ad1193, e1193, hx1193_0⟩ := Kd.at_int HR0.out x6_2 p1193 q1193
                     obtain rfl : ad1191 = ad1193 := (by injection e1193)
                     replace hx1193_0 := (HB.out.cell (zay w _ hx1193_0)).trans hx1193_0
                     replace p1193 := eq_true p1193
                     replace q1193 := eq_true q1193
                     go_wp2
                     repeat (go_quiet (fail); try go_wp2)
                     go_roundg k2
                     case measure => have := HK1.out; have := HK2.out; omega
                     case rel => exact ⟨(wrap64 (x6_2 - 1)), (by first | rfl | (simp; done) | (simp [*]; done)), H', ⟨by have := HK1.out; have := HK2.out; omega⟩, ⟨by (with_reducible repeat (first | refine blk_drewN ?_ _ | refine blk_drew ?_ | refine blk_alloc ?_ _)); exact BK1189.out⟩, ⟨by repeat (first | (with_reducible first | exact HB.out | apply zag | apply zae | apply zaf | refine zah ?_ GE1189.out) | exact HB.out)⟩⟩
                   · rw [if_neg c11] at H
                     have c11b0 : decide ((rd l1 x6_2) ≤ (rd l0 x6_2)) = false := decide_eq_false c11
                     clear c11
                     simp only [Option.some.injEq, Prod.mk.injEq] at H
                     obtain ⟨rfl, rfl, rfl⟩ := H
                     have p1192 : 0 ≤ (x6_2 : Int) := zas (by first | (with_reducible assumption) | assumption)
                     have q1192 : x6_2 < (l1.length : Int) := zas (by first | (with_reducible assumption) | assumption)
                     obtain ⟨ad1192, e1192, hx1192_0⟩ := Kd.at_int HR1.out x6_2 p1192 q1192
                     obtain rfl : ad1190 = ad1192 := (by injection e1192)
                     replace hx1192_0 := (HB.out.cell (zay w _ hx1192_0)).trans hx1192_0
                     replace p1192 := eq_true p1192
                     replace q1192 := eq_true q1192
                     have p1193 : 0 ≤ (x6_2 : Int) := zas (by first | (with_reducible assumption) | assumption)
                     have q1193 : x6_2 < (l0.length : Int) := zas (by first | (with_reducible assumption) | assumption)
                     obtain ⟨ad1193, e1193, hx1193_0⟩ := Kd.at_int HR0.out x6_2 p1193 q1193
                     obtain rfl : ad1191 = ad1193 := (by injection e1193)
                     replace hx1193_0 := (HB.out.cell (zay w _ hx1193_0)).trans hx1193_0
                     replace p1193 := eq_true p1193
                     replace q1193 := eq_true q1193
                     have hcz12_0 : wr.cell? ⟨gb1189, 0, none⟩ = some (.int .i64 0) := (blk_cell BK1189.out 0).trans rfl
                     have hcz12_1 : wr.cell? ⟨gb1189, 1, none⟩ = some (.int .i64 0) := (blk_cell BK1189.out 1).trans rfl
                     have hcz12_2 : wr.cell? ⟨gb1189, 2, none⟩ = some (.int .i64 0) := (blk_cell BK1189.out 2).trans rfl
                     have hfz12_0 := blk_frozen BK1189.out 0
                     have hfz12_1 := blk_frozen BK1189.out 1
                     have hfz12_2 := blk_frozen BK1189.out 2
                     go_wp2
                     repeat (go_quiet (fail); try go_wp2)
                     refine bodyPost_ret (results_cell_row rfl _ _ gb1189 39 #[.int .i64 x6_2, .int .i64 x5_1, .int .i64 1] (0, 0) _ rfl (by (with_reducible repeat (first | refine blk_drewN ?_ _ | refine blk_drew ?_ | refine blk_alloc ?_ _)); refine blk_put (cs := #[.int .i64 x6_2, .int .i64 x5_1, .int .i64 0]) ?_ 2 _ rfl; (with_reducible repeat (first | refine blk_drewN ?_ _ | refine blk_drew ?_ | refine blk_alloc ?_ _)); refine blk_put (cs := #[.int .i64 x6_2, .int .i64 0, .int .i64 0]) ?_ 1 _ rfl; (with_reducible repeat (first | refine blk_drewN ?_ _ | refine blk_drew ?_ | refine blk_alloc ?_ _)); refine blk_put (cs := #[.int .i64 0, .int .i64 0, .int .i64 0]) ?_ 0 _ rfl; (with_reducible repeat (first | refine blk_drewN ?_ _ | refine blk_drew ?_ | refine blk_alloc ?_ _)); exact BK1189.out) Try.underlying39 rfl (by kernel_rfl)) rfl ?_
                     exact ⟨by first | rfl | (simp [errW_none, errW_some] <;> rfl) | (simp [*, errW_none, errW_some] <;> rfl), by repeat (first | (with_reducible first | exact HB.out | apply zag | apply zae | apply zaf | refine zah ?_ GE1189.out) | exact HB.out)⟩
                 · rw [if_neg c10] at H
                   exact absurd H (by simp)
               · rw [if_neg c9] at H
                 exact absurd H (by simp)
             · rw [if_neg c8] at H
               exact absurd H (by simp)
       · rw [if_neg c6] at H
         exact absurd H (by simp)
     · rw [if_neg c5] at H
       exact absurd H (by simp)
   · rw [if_neg c4] at H
     exact absurd H (by simp)
def spec_giPath.l0 : Nat → Bool → List Int → List Int → List (S39) → Option ((List (S39)))
 | 0, _, _, _, _ => none
 | k + 1, x2, x7, x8, x9 => (spec_l1Same.f k x7 x8).bind fun t1200 => (if t1200 = true then (some x9) else ((spec_giNext.f k x7 x8).bind fun bt1201 => (if x2 = true then (if 0 ≤ bt1201.1 then (if bt1201.1 < (x8.length : Int) then (if bt1201.1 < (x7.length : Int) then (if 0 ≤ bt1201.2.1 then (if bt1201.2.1 < (x7.length : Int) then (if bt1201.2.1 < (x8.length : Int) then ((spec_l1Least.f (wrap64 ((rd x8 bt1201.1) - (rd x7 bt1201.1))) (wrap64 ((rd x7 bt1201.2.1) - (rd x8 bt1201.2.1)))).bind fun t1209 => (if x9.length < 5864062014805 then ((spec_giDo.f x8 bt1201.1 bt1201.2.1 t1209).bind fun t1213 => ((spec_liRank.f k t1213).bind fun t1216 => (spec_giPath.l0 k x2 x7 t1216 (x9 ++ [(⟨bt1201.1, bt1201.2.1, t1209⟩ : S39)])))) else (none))) else (none)) else (none)) else (none)) else (none)) else (none)) else (none)) else (if x9.length < 5864062014805 then ((spec_giDo.f x8 bt1201.1 bt1201.2.1 bt1201.2.2).bind fun t1222 => ((spec_liRank.f k t1222).bind fun t1225 => (spec_giPath.l0 k x2 x7 t1225 (x9 ++ [(⟨bt1201.1, bt1201.2.1, bt1201.2.2⟩ : S39)])))) else (none)))))
def spec_giPath.f (k : Nat) (l0 : List Int) (l1 : List Int) (a2 : Bool) : Option ((List (S39))) := (spec_liRank.f k l0).bind fun t1194 => ((spec_liRank.f k l1).bind fun t1197 => (spec_giPath.l0 k a2 t1194 t1197 ([] : List (S39))))
def spec_giPath.T6 : Bool × List (List Nat × List Nat) := (true, [([], []), ([], []), ([1], [1]), ([0, 2], [0, 2]), ([3], [3]), ([], []), ([], []), ([6], [6]), ([5, 7], [5, 7]), ([8], [8]), ([4, 9], [4, 9]), ([], []), ([], []), ([12], [12]), ([11, 13], [11, 13]), ([14], [14]), ([], []), ([], []), ([17], [17]), ([16, 18], [16, 18]), ([19], [19]), ([15, 20], [15, 20]), ([10, 21], [10, 21]), ([0, 1, 2, 3, 4, 5, 6, 7, 8, 9, 10, 11, 12, 13, 14, 15, 16, 17, 18, 19, 20, 21, 22], []), ([23, 22, 22, 0, 1, 2, 3, 4, 5, 6, 7, 8, 9, 10, 11, 12, 13, 14, 15, 16, 17, 18, 19, 20, 21, 22], [22, 23])])
def spec_giPath.B6 : List Nat := [0, 0, 2, 7, 15, 0, 0, 64, 224, 480, 1023, 0, 0, 4096, 14336, 30720, 0, 0, 131072, 458752, 983040, 2095104, 4194303, 8388607, 16777215]
theorem spec_giPath.tab6 : rtab .any (opsOf Try.f131 6) = spec_giPath.T6 := by kernel_rfl
theorem spec_giPath.bits6 : waitsOk spec_giPath.T6.2 spec_giPath.B6 = true := by kernel_rfl
set_option maxHeartbeats 8000000 in
set_option maxRecDepth 100000 in
theorem spec_giPath.calls (k : Nat) (A0 : Option Addr) (c0 : Nat) (l0 : List Int) (A1 : Option Addr) (c1 : Nat) (l1 : List Int) (a2 : Bool) (r : List (S39)) (w : World) (hr0 : Kd.C (Kd.int .i64) w A0 l0.length l0) (hc0 : l0.length ≤ c0) (hr1 : Kd.C (Kd.int .i64) w A1 l1.length l1) (hc1 : l1.length ≤ c1) (h : spec_giPath.f k l0 l1 a2 = some r) :
 Calls Try.prog 131 #[.slice A0 l0.length c0, .slice A1 l1.length c1, .bool a2] w fun e w' => ∃ v0_ : Value, e = .returned (v0_) ∧ Kd.R k39 39 w' w.heap.size (fun _ => True) v0_ r ∧ Below w.heap.size w w' := by
 have hu39 := Try.underlying39
 have HR0 := zad hr0
 have HC0 := zad hc0
 clear hr0 hc0
 have HR1 := zad hr1
 have HC1 := zad hc1
 clear hr1 hc1
 have HB := zad (Below.refl w.heap.size w)
 have H : ((spec_liRank.f k l0).bind fun t1194 => ((spec_liRank.f k l1).bind fun t1197 => (spec_giPath.l0 k a2 t1194 t1197 ([] : List (S39))))) = some r := h
 clear h
 replace H := Option.bind_eq_some_iff.mp H
 obtain ⟨t1194, A40, H⟩ := H
 replace H : ((spec_liRank.f k l1).bind fun t1197 => (spec_giPath.l0 k a2 t1194 t1197 ([] : List (S39)))) = some r := H
 have A4 := zad A40
 clear A40
 replace H := Option.bind_eq_some_iff.mp H
 obtain ⟨t1197, A50, H⟩ := H
 replace H : (spec_giPath.l0 k a2 t1194 t1197 ([] : List (S39))) = some r := H
 have A5 := zad A50
 clear A50
 have H' := zad H
 clear H
 go_enter Try.func131, Try.ntmps131
 go_wp2_with (first | ((with_reducible refine gate_callee (f := 108) rfl ?_); refine goesL_ (some 12) rfl rfl Try.func108 (by kernel_rfl) rfl #[.slice A0 l0.length c0] rfl (by (try simp only [zat, zau, zav]); first | done | rfl | (simp only [zaw, zax]; rfl)) ?_; (with_reducible refine (spec_liRank.calls k _ _ l0 t1194 _ ?side1 ?side2 A4.out).mono ?_); (case side1 => repeat (first | exact HR0.out | (with_reducible refine zal ?_ _) | (with_reducible refine zam ?_ _) | (with_reducible refine zan ?_))); (case side2 => exact HC0.out); rintro e w6 ⟨v1195, rfl, ho0, hb⟩; refine ⟨_, rfl, ?_⟩; have n0_ := zad (Kd.R_lower ho0 (below_size (by repeat (first | (with_reducible first | exact HB.out | apply zag | apply zae | apply zaf) | exact HB.out)))); have n1_ := zad (below_step (by repeat (first | (with_reducible first | exact HB.out | apply zag | apply zae | apply zaf) | exact HB.out)) hb); clear HB; have HO1196 := n0_; have HB := n1_; clear n0_ n1_; (try clear hb); (try clear hb2); (try clear hk); (try clear hi); (try clear ho0)) | ((with_reducible refine gate_callee (f := 108) rfl ?_); refine goesL_ (some 14) rfl rfl Try.func108 (by kernel_rfl) rfl #[.slice A1 l1.length c1] rfl (by (try simp only [zat, zau, zav]); first | done | rfl | (simp only [zaw, zax]; rfl)) ?_; (with_reducible refine (spec_liRank.calls k _ _ l1 t1197 _ ?side1 ?side2 A5.out).mono ?_); (case side1 => repeat (first | exact (Kd.C_below HR1.out HB.out) | (with_reducible refine zal ?_ _) | (with_reducible refine zam ?_ _) | (with_reducible refine zan ?_))); (case side2 => exact HC1.out); rintro e w7 ⟨v1198, rfl, ho0, hb⟩; refine ⟨_, rfl, ?_⟩; have n0_ := zad (Kd.R_elder' (by (with_reducible repeat (first | apply zai | apply zaj | apply zak)); exact HO1196.out) (Kd.R_base ho0) hb); have n1_ := zad (Kd.R_lower (Kd.R_new' ho0 (Kd.R_lt (by (with_reducible repeat (first | apply zai | apply zaj | apply zak)); exact HO1196.out))) (below_size (by repeat (first | (with_reducible first | exact HB.out | apply zag | apply zae | apply zaf) | exact HB.out)))); have n2_ := zad (below_step (by repeat (first | (with_reducible first | exact HB.out | apply zag | apply zae | apply zaf) | exact HB.out)) hb); clear HO1196; clear HB; have HO1196 := n0_; have HO1199 := n1_; have HB := n2_; clear n0_ n1_ n2_; (try clear hb); (try clear hb2); (try clear hk); (try clear hi); (try clear ho0)))
 go_loopg [8, 9] k (fun kq v8 v9 w' => ∃ (x8_1 : List Int) (x9_1 : List (S39)), Aside0 (spec_giPath.l0 kq a2 t1194 x8_1 x9_1 = some r) ∧ Aside0 (kq ≤ k) ∧ Aside0 (Kd.R (Kd.int .i64) 3 w' w.heap.size (fun k_ => some k_ ≠ (v8 : Value).ownBlock) v1195 t1194) ∧ Aside0 (Kd.R (Kd.int .i64) 3 w' w.heap.size (fun k_ => some k_ ≠ (v1195 : Value).ownBlock) v8 x8_1) ∧ Aside0 (Kd.R k39 39 w' w.heap.size (fun _ => True) v9 x9_1) ∧ Aside0 (Below w.heap.size w w'))
 case atStart => exact ⟨(t1197), (([] : List (S39))), H', ⟨Nat.le_refl _⟩, ⟨by (with_reducible repeat (first | apply zai | apply zaj | apply zak)); exact Kd.R_mono HO1196.out (fun _ hk => hk.2)⟩, ⟨by (with_reducible repeat (first | apply zai | apply zaj | apply zak)); exact Kd.R_mono HO1199.out (fun _ hk => hk.2)⟩, ⟨by first | exact Kd.R_nil _ _ _ _ _ | exact Kd.N_nil _ _ _ _ _ | exact Kd.V_nil _ _ _ _ _ | exact Kd.Q_nil _ _ _ _ _ | exact Kd.S_nil _ _ _ _ _⟩, ⟨by repeat (first | (with_reducible first | exact HB.out | apply zag | apply zae | apply zaf) | exact HB.out)⟩⟩
 case round =>
  clear H'
  try clear c1
  try clear p2
  obtain ⟨x8_1, x9_1, HA, HK1, HO_7, HO_8, HO_9, HB⟩ := hrel
  cases gk with
  | zero => exact absurd HA.out (by simp [spec_giPath.l0])
  | succ k1 =>
   have H := HA.out
   clear HA
   simp only [spec_giPath.l0] at H
   replace H := Option.bind_eq_some_iff.mp H
   obtain ⟨t1200, A80, H⟩ := H
   replace H : (if t1200 = true then (some x9_1) else ((spec_giNext.f k1 t1194 x8_1).bind fun bt1201 => (if a2 = true then (if 0 ≤ bt1201.1 then (if bt1201.1 < (x8_1.length : Int) then (if bt1201.1 < (t1194.length : Int) then (if 0 ≤ bt1201.2.1 then (if bt1201.2.1 < (t1194.length : Int) then (if bt1201.2.1 < (x8_1.length : Int) then ((spec_l1Least.f (wrap64 ((rd x8_1 bt1201.1) - (rd t1194 bt1201.1))) (wrap64 ((rd t1194 bt1201.2.1) - (rd x8_1 bt1201.2.1)))).bind fun t1209 => (if x9_1.length < 5864062014805 then ((spec_giDo.f x8_1 bt1201.1 bt1201.2.1 t1209).bind fun t1213 => ((spec_liRank.f k1 t1213).bind fun t1216 => (spec_giPath.l0 k1 a2 t1194 t1216 (x9_1 ++ [(⟨bt1201.1, bt1201.2.1, t1209⟩ : S39)])))) else (none))) else (none)) else (none)) else (none)) else (none)) else (none)) else (none)) else (if x9_1.length < 5864062014805 then ((spec_giDo.f x8_1 bt1201.1 bt1201.2.1 bt1201.2.2).bind fun t1222 => ((spec_liRank.f k1 t1222).bind fun t1225 => (spec_giPath.l0 k1 a2 t1194 t1225 (x9_1 ++ [(⟨bt1201.1, bt1201.2.1, bt1201.2.2⟩ : S39)])))) else (none))))) = some r := H
   have A8 := zad A80
   clear A80
   by_cases c9 : t1200 = true
   · subst c9
     have H1 : (some x9_1) = some r := by rw [if_pos rfl] at H; exact H
     clear H
     have H := H1
     clear H1
     obtain rfl := Option.some.inj H
     obtain ⟨Ao10, co10, eo10⟩ := Kd.R_slice HO_7.out
     subst eo10
     obtain ⟨Ao11, co11, eo11⟩ := Kd.R_slice HO_8.out
     subst eo11
     go_wp2_with (first | ((with_reducible refine gate_callee (f := 118) rfl ?_); refine goesL_ (some 17) rfl rfl Try.func118 (by kernel_rfl) rfl #[.slice Ao10 t1194.length co10, .slice Ao11 x8_1.length co11] rfl (by (try simp only [zat, zau, zav]); first | done | rfl | (simp only [zaw, zax]; rfl)) ?_; (with_reducible refine (spec_l1Same.calls k1 _ _ t1194 _ _ x8_1 true _ ?side1 ?side2 ?side3 ?side4 A8.out).mono ?_); (case side1 => repeat (first | exact (Kd.R_reads' HO_7.out).2.2 | (with_reducible refine zal ?_ _) | (with_reducible refine zam ?_ _) | (with_reducible refine zan ?_))); (case side2 => exact (Kd.R_reads' HO_7.out).2.1); (case side3 => repeat (first | exact (Kd.R_reads' HO_8.out).2.2 | (with_reducible refine zal ?_ _) | (with_reducible refine zam ?_ _) | (with_reducible refine zan ?_))); (case side4 => exact (Kd.R_reads' HO_8.out).2.1); rintro e w' ⟨rfl, ⟨nd, rfl⟩⟩; refine ⟨_, rfl, ?_⟩))
     go_ret
     exact ⟨_, by first | rfl | (simp [errW_none, errW_some] <;> rfl) | (simp [*, errW_none, errW_some] <;> rfl), by (with_reducible repeat (first | apply zai | apply zaj | apply zak)); exact HO_9.out, by repeat (first | (with_reducible first | exact HB.out | apply zag | apply zae | apply zaf) | exact HB.out)⟩
   · replace c9 := Bool.eq_false_iff.mpr c9
     subst c9
     have H1 : ((spec_giNext.f k1 t1194 x8_1).bind fun bt1201 => (if a2 = true then (if 0 ≤ bt1201.1 then (if bt1201.1 < (x8_1.length : Int) then (if bt1201.1 < (t1194.length : Int) then (if 0 ≤ bt1201.2.1 then (if bt1201.2.1 < (t1194.length : Int) then (if bt1201.2.1 < (x8_1.length : Int) then ((spec_l1Least.f (wrap64 ((rd x8_1 bt1201.1) - (rd t1194 bt1201.1))) (wrap64 ((rd t1194 bt1201.2.1) - (rd x8_1 bt1201.2.1)))).bind fun t1209 => (if x9_1.length < 5864062014805 then ((spec_giDo.f x8_1 bt1201.1 bt1201.2.1 t1209).bind fun t1213 => ((spec_liRank.f k1 t1213).bind fun t1216 => (spec_giPath.l0 k1 a2 t1194 t1216 (x9_1 ++ [(⟨bt1201.1, bt1201.2.1, t1209⟩ : S39)])))) else (none))) else (none)) else (none)) else (none)) else (none)) else (none)) else (none)) else (if x9_1.length < 5864062014805 then ((spec_giDo.f x8_1 bt1201.1 bt1201.2.1 bt1201.2.2).bind fun t1222 => ((spec_liRank.f k1 t1222).bind fun t1225 => (spec_giPath.l0 k1 a2 t1194 t1225 (x9_1 ++ [(⟨bt1201.1, bt1201.2.1, bt1201.2.2⟩ : S39)])))) else (none)))) = some r := by rw [if_neg (show ¬ (false = true) by decide)] at H; exact H
     clear H
     have H := H1
     clear H1
     replace H := Option.bind_eq_some_iff.mp H
     obtain ⟨⟨t1201, t1202, t1203⟩, A120, H⟩ := H
     replace H : (if a2 = true then (if 0 ≤ t1201 then (if t1201 < (x8_1.length : Int) then (if t1201 < (t1194.length : Int) then (if 0 ≤ t1202 then (if t1202 < (t1194.length : Int) then (if t1202 < (x8_1.length : Int) then ((spec_l1Least.f (wrap64 ((rd x8_1 t1201) - (rd t1194 t1201))) (wrap64 ((rd t1194 t1202) - (rd x8_1 t1202)))).bind fun t1209 => (if x9_1.length < 5864062014805 then ((spec_giDo.f x8_1 t1201 t1202 t1209).bind fun t1213 => ((spec_liRank.f k1 t1213).bind fun t1216 => (spec_giPath.l0 k1 a2 t1194 t1216 (x9_1 ++ [(⟨t1201, t1202, t1209⟩ : S39)])))) else (none))) else (none)) else (none)) else (none)) else (none)) else (none)) else (none)) else (if x9_1.length < 5864062014805 then ((spec_giDo.f x8_1 t1201 t1202 t1203).bind fun t1222 => ((spec_liRank.f k1 t1222).bind fun t1225 => (spec_giPath.l0 k1 a2 t1194 t1225 (x9_1 ++ [(⟨t1201, t1202, t1203⟩ : S39)])))) else (none))) = some r := H
     have A12 := zad A120
     clear A120
     by_cases c13 : a2 = true
     · subst c13
       have H1 : (if 0 ≤ t1201 then (if t1201 < (x8_1.length : Int) then (if t1201 < (t1194.length : Int) then (if 0 ≤ t1202 then (if t1202 < (t1194.length : Int) then (if t1202 < (x8_1.length : Int) then ((spec_l1Least.f (wrap64 ((rd x8_1 t1201) - (rd t1194 t1201))) (wrap64 ((rd t1194 t1202) - (rd x8_1 t1202)))).bind fun t1209 => (if x9_1.length < 5864062014805 then ((spec_giDo.f x8_1 t1201 t1202 t1209).bind fun t1213 => ((spec_liRank.f k1 t1213).bind fun t1216 => (spec_giPath.l0 k1 true t1194 t1216 (x9_1 ++ [(⟨t1201, t1202, t1209⟩ : S39)])))) else (none))) else (none)) else (none)) else (none)) else (none)) else (none)) else (none)) = some r := by rw [if_pos rfl] at H; exact H
       clear H
       have H := H1
       clear H1
       by_cases c14 : 0 ≤ t1201
       · rw [if_pos c14] at H
         have c14b0 : decide (0 ≤ t1201) = true := zaz c14
         clear c14
         by_cases c15 : t1201 < (x8_1.length : Int)
         · rw [if_pos c15] at H
           have c15b0 : decide (t1201 < (x8_1.length : Int)) = true := zaz c15
           clear c15
           by_cases c16 : t1201 < (t1194.length : Int)
           · rw [if_pos c16] at H
             have c16b0 : decide (t1201 < (t1194.length : Int)) = true := zaz c16
             clear c16
             by_cases c17 : 0 ≤ t1202
             · rw [if_pos c17] at H
               have c17b0 : decide (0 ≤ t1202) = true := zaz c17
               clear c17
               by_cases c18 : t1202 < (t1194.length : Int)
               · rw [if_pos c18] at H
                 have c18b0 : decide (t1202 < (t1194.length : Int)) = true := zaz c18
                 clear c18
                 by_cases c19 : t1202 < (x8_1.length : Int)
                 · rw [if_pos c19] at H
                   have c19b0 : decide (t1202 < (x8_1.length : Int)) = true := zaz c19
                   clear c19
                   replace H := Option.bind_eq_some_iff.mp H
                   obtain ⟨t1209, A200, H⟩ := H
                   replace H : (if x9_1.length < 5864062014805 then ((spec_giDo.f x8_1 t1201 t1202 t1209).bind fun t1213 => ((spec_liRank.f k1 t1213).bind fun t1216 => (spec_giPath.l0 k1 true t1194 t1216 (x9_1 ++ [(⟨t1201, t1202, t1209⟩ : S39)])))) else (none)) = some r := H
                   have A20 := zad A200
                   clear A200
                   by_cases c21 : x9_1.length < 5864062014805
                   · rw [if_pos c21] at H
                     have LMc21 := zad c21
                     clear c21
                     obtain ⟨y1210, hy1210⟩ : ∃ y_ : List (S39), y_ = (x9_1 ++ [(⟨t1201, t1202, t1209⟩ : S39)]) := ⟨_, rfl⟩
                     replace H : ((spec_giDo.f x8_1 t1201 t1202 t1209).bind fun t1213 => ((spec_liRank.f k1 t1213).bind fun t1216 => (spec_giPath.l0 k1 true t1194 t1216 y1210))) = some r := by first | (rw [hy1210]; with_reducible exact H) | (have H2_ := (Option.bind_some _ _).symm.trans H; rw [hy1210]; with_reducible exact H2_) | (have H2_ := (Option.bind_some _ _).symm.trans H; with_reducible exact H2_) | with_reducible exact H | (rw [hy1210]; exact H) | exact H
                     have Ny1210 := zad hy1210
                     clear hy1210
                     replace H := Option.bind_eq_some_iff.mp H
                     obtain ⟨t1213, A220, H⟩ := H
                     replace H : ((spec_liRank.f k1 t1213).bind fun t1216 => (spec_giPath.l0 k1 true t1194 t1216 y1210)) = some r := H
                     have A22 := zad A220
                     clear A220
                     replace H := Option.bind_eq_some_iff.mp H
                     obtain ⟨t1216, A230, H⟩ := H
                     replace H : (spec_giPath.l0 k1 true t1194 t1216 y1210) = some r := H
                     have A23 := zad A230
                     clear A230
                     have H' := zad H
                     clear H
                     obtain ⟨Ao24, co24, eo24⟩ := Kd.R_slice HO_7.out
                     subst eo24
                     obtain ⟨Ao25, co25, eo25⟩ := Kd.R_slice HO_8.out
                     subst eo25
                     try go_wp2_with (first | ((with_reducible refine gate_callee (f := 118) rfl ?_); refine goesL_ (some 17) rfl rfl Try.func118 (by kernel_rfl) rfl #[.slice Ao24 t1194.length co24, .slice Ao25 x8_1.length co25] rfl (by (try simp only [zat, zau, zav]); first | done | rfl | (simp only [zaw, zax]; rfl)) ?_; (with_reducible refine (spec_l1Same.calls k1 _ _ t1194 _ _ x8_1 false _ ?side1 ?side2 ?side3 ?side4 A8.out).mono ?_); (case side1 => repeat (first | exact (Kd.R_reads' HO_7.out).2.2 | (with_reducible refine zal ?_ _) | (with_reducible refine zam ?_ _) | (with_reducible refine zan ?_))); (case side2 => exact (Kd.R_reads' HO_7.out).2.1); (case side3 => repeat (first | exact (Kd.R_reads' HO_8.out).2.2 | (with_reducible refine zal ?_ _) | (with_reducible refine zam ?_ _) | (with_reducible refine zan ?_))); (case side4 => exact (Kd.R_reads' HO_8.out).2.1); rintro e w' ⟨rfl, ⟨nd, rfl⟩⟩; refine ⟨_, rfl, ?_⟩; (try (rw [drewN_self wr]; generalize hq_ : World.drewN wr _ = wr; have n0_ : Aside0 (Kd.R (Kd.int .i64) 3 wr w.heap.size (fun k_ => some k_ ≠ (.slice Ao25 x8_1.length co25 : Value).ownBlock) (.slice Ao24 t1194.length co24) t1194) := ⟨by rw [← hq_]; exact (by (with_reducible repeat (first | apply zai | apply zaj | apply zak)); exact HO_7.out)⟩; have n1_ : Aside0 (Kd.R (Kd.int .i64) 3 wr w.heap.size (fun k_ => some k_ ≠ (.slice Ao24 t1194.length co24 : Value).ownBlock) (.slice Ao25 x8_1.length co25) x8_1) := ⟨by rw [← hq_]; exact (by (with_reducible repeat (first | apply zai | apply zaj | apply zak)); exact HO_8.out)⟩; have n2_ : Aside0 (Kd.R k39 39 wr w.heap.size (fun _ => True) u9 x9_1) := ⟨by rw [← hq_]; exact (by (with_reducible repeat (first | apply zai | apply zaj | apply zak)); exact HO_9.out)⟩; have n3_ : Aside0 (Below w.heap.size w wr) := ⟨by rw [← hq_]; exact (by repeat (first | (with_reducible first | exact HB.out | apply zag | apply zae | apply zaf) | exact HB.out))⟩; clear HO_7 HO_8 HO_9 HB hq_; have HO_7 := n0_; have HO_8 := n1_; have HO_9 := n2_; have HB := n3_; clear n0_ n1_ n2_ n3_))) | ((with_reducible refine gate_callee (f := 153) rfl ?_); refine goesL_ (some 21) rfl rfl Try.func153 (by kernel_rfl) rfl #[.slice Ao24 t1194.length co24, .slice Ao25 x8_1.length co25] rfl (by (try simp only [zat, zau, zav]); first | done | rfl | (simp only [zaw, zax]; rfl)) ?_; (with_reducible refine (spec_giNext.calls k1 _ _ t1194 _ _ x8_1 t1201 t1202 t1203 _ ?side1 ?side2 ?side3 ?side4 A12.out).mono ?_); (case side1 => repeat (first | exact (Kd.R_reads' HO_7.out).2.2 | (with_reducible refine zal ?_ _) | (with_reducible refine zam ?_ _) | (with_reducible refine zan ?_))); (case side2 => exact (Kd.R_reads' HO_7.out).2.1); (case side3 => repeat (first | exact (Kd.R_reads' HO_8.out).2.2 | (with_reducible refine zal ?_ _) | (with_reducible refine zam ?_ _) | (with_reducible refine zan ?_))); (case side4 => exact (Kd.R_reads' HO_8.out).2.1); rintro e w26 ⟨rfl, hb⟩; refine ⟨_, rfl, ?_⟩; have n0_ := zad (Kd.R_below (by (with_reducible repeat (first | apply zai | apply zaj | apply zak)); exact HO_7.out) hb); have n1_ := zad (Kd.R_below (by (with_reducible repeat (first | apply zai | apply zaj | apply zak)); exact HO_8.out) hb); have n2_ := zad (Kd.R_below (by (with_reducible repeat (first | apply zai | apply zaj | apply zak)); exact HO_9.out) hb); have n3_ := zad (below_step (by repeat (first | (with_reducible first | exact HB.out | apply zag | apply zae | apply zaf) | exact HB.out)) hb); clear HO_7; clear HO_8; clear HO_9; clear HB; have HO_7 := n0_; have HO_8 := n1_; have HO_9 := n2_; have HB := n3_; clear n0_ n1_ n2_ n3_; (try clear hb); (try clear hb2); (try clear hk); (try clear hi)) | ((with_reducible refine gate_dst (N := 10) rfl ?_); refine box_event ?hg (N := 10) ?hd (cs := #[.int .i64 0, .int .i64 0, .int .i64 0]) (t := 39) ?hr ?_; (case hd => rfl); (case hg => rfl); (case hr => first | (go_simp; done) | (go_simp; rfl)); intro gb1204 hg w27 hbox hb; have n0_ := zad (Kd.R_below (by (with_reducible repeat (first | apply zai | apply zaj | apply zak)); exact HO_7.out) hb); have n1_ := zad (Kd.R_below (by (with_reducible repeat (first | apply zai | apply zaj | apply zak)); exact HO_8.out) hb); have n2_ := zad (Kd.R_below (Kd.R_elderB (by (with_reducible repeat (first | apply zai | apply zaj | apply zak)); exact HO_9.out) gb1204 (Nat.le_of_eq hg.symm)) hb); have n3_ := zad (below_step (by repeat (first | (with_reducible first | exact HB.out | apply zag | apply zae | apply zaf) | exact HB.out)) hb); have n4_ := zad (hbox); have n5_ := zad ((by rw [hg]; exact (below_size (by repeat (first | (with_reducible first | exact HB.out | apply zag | apply zae | apply zaf) | exact HB.out))) : w.heap.size ≤ gb1204)); have n6_ := zad ((by rw [hg]; exact (below_size (by repeat (first | (with_reducible first | exact HB.out | apply zag | apply zae | apply zaf) | exact HB.out))) : w.heap.size ≤ gb1204)); clear HO_7; clear HO_8; clear HO_9; clear HB; have HO_7 := n0_; have HO_8 := n1_; have HO_9 := n2_; have HB := n3_; have BK1204 := n4_; have GW1204 := n5_; have GE1204 := n6_; clear n0_ n1_ n2_ n3_ n4_ n5_ n6_; clear hb hbox hg; have hcz28_0 : w27.cell? ⟨gb1204, 0, none⟩ = some (.int .i64 0) := (blk_cell BK1204.out 0).trans rfl; have hcz28_1 : w27.cell? ⟨gb1204, 1, none⟩ = some (.int .i64 0) := (blk_cell BK1204.out 1).trans rfl; have hcz28_2 : w27.cell? ⟨gb1204, 2, none⟩ = some (.int .i64 0) := (blk_cell BK1204.out 2).trans rfl; have hfz28_0 := blk_frozen BK1204.out 0; have hfz28_1 := blk_frozen BK1204.out 1; have hfz28_2 := blk_frozen BK1204.out 2))
                     have n0_ : Aside0 (Kd.R (Kd.int .i64) 3 (((w27.setCell ⟨gb1204, 0, none⟩ (.int .i64 t1201)).setCell ⟨gb1204, 1, none⟩ (.int .i64 t1202)).setCell ⟨gb1204, 2, none⟩ (.int .i64 t1203)) w.heap.size (fun k_ => some k_ ≠ (.slice Ao25 x8_1.length co25 : Value).ownBlock) (.slice Ao24 t1194.length co24) t1194) := ⟨by (with_reducible repeat (first | apply zai | apply zaj | apply zak)); exact Kd.R_mono (Kd.R_far (p := ⟨gb1204, 2, none⟩) (Kd.R_far (p := ⟨gb1204, 1, none⟩) (Kd.R_far (p := ⟨gb1204, 0, none⟩) (Kd.R_types HO_7.out BK1204.out (by decide)) (fun _ hk => hk.2) (.int .i64 t1201)) (fun _ hk => hk.2) (.int .i64 t1202)) (fun _ hk => hk.2) (.int .i64 t1203)) (fun _ hk => hk.1)⟩
                     have n1_ : Aside0 (Kd.R (Kd.int .i64) 3 (((w27.setCell ⟨gb1204, 0, none⟩ (.int .i64 t1201)).setCell ⟨gb1204, 1, none⟩ (.int .i64 t1202)).setCell ⟨gb1204, 2, none⟩ (.int .i64 t1203)) w.heap.size (fun k_ => some k_ ≠ (.slice Ao24 t1194.length co24 : Value).ownBlock) (.slice Ao25 x8_1.length co25) x8_1) := ⟨by (with_reducible repeat (first | apply zai | apply zaj | apply zak)); exact Kd.R_mono (Kd.R_far (p := ⟨gb1204, 2, none⟩) (Kd.R_far (p := ⟨gb1204, 1, none⟩) (Kd.R_far (p := ⟨gb1204, 0, none⟩) (Kd.R_types HO_8.out BK1204.out (by decide)) (fun _ hk => hk.2) (.int .i64 t1201)) (fun _ hk => hk.2) (.int .i64 t1202)) (fun _ hk => hk.2) (.int .i64 t1203)) (fun _ hk => hk.1)⟩
                     have n2_ : Aside0 (Kd.R k39 39 (((w27.setCell ⟨gb1204, 0, none⟩ (.int .i64 t1201)).setCell ⟨gb1204, 1, none⟩ (.int .i64 t1202)).setCell ⟨gb1204, 2, none⟩ (.int .i64 t1203)) w.heap.size (fun k_ => k_ ≠ gb1204) u9 x9_1) := ⟨by (with_reducible repeat (first | apply zai | apply zaj | apply zak)); exact Kd.R_mono (Kd.R_far (p := ⟨gb1204, 2, none⟩) (Kd.R_far (p := ⟨gb1204, 1, none⟩) (Kd.R_far (p := ⟨gb1204, 0, none⟩) (Kd.R_mono HO_9.out (fun k_ hk => (⟨hk, hk.2⟩ : _ ∧ k_ ≠ gb1204))) (fun _ hk => hk.2) (.int .i64 t1201)) (fun _ hk => hk.2) (.int .i64 t1202)) (fun _ hk => hk.2) (.int .i64 t1203)) (fun _ hk => hk.1.2)⟩
                     have n3_ : Aside0 ((((w27.setCell ⟨gb1204, 0, none⟩ (.int .i64 t1201)).setCell ⟨gb1204, 1, none⟩ (.int .i64 t1202)).setCell ⟨gb1204, 2, none⟩ (.int .i64 t1203)).heap[gb1204]? = some (.cells #[.int .i64 t1201, .int .i64 t1202, .int .i64 t1203] 39 (0, 0))) := ⟨by (with_reducible repeat (first | refine blk_drewN ?_ _ | refine blk_drew ?_ | refine blk_alloc ?_ _)); refine blk_put (cs := #[.int .i64 t1201, .int .i64 t1202, .int .i64 0]) ?_ 2 _ rfl; (with_reducible repeat (first | refine blk_drewN ?_ _ | refine blk_drew ?_ | refine blk_alloc ?_ _)); refine blk_put (cs := #[.int .i64 t1201, .int .i64 0, .int .i64 0]) ?_ 1 _ rfl; (with_reducible repeat (first | refine blk_drewN ?_ _ | refine blk_drew ?_ | refine blk_alloc ?_ _)); refine blk_put (cs := #[.int .i64 0, .int .i64 0, .int .i64 0]) ?_ 0 _ rfl; (with_reducible repeat (first | refine blk_drewN ?_ _ | refine blk_drew ?_ | refine blk_alloc ?_ _)); exact BK1204.out⟩
                     have n4_ : Aside0 (Below w.heap.size w (((w27.setCell ⟨gb1204, 0, none⟩ (.int .i64 t1201)).setCell ⟨gb1204, 1, none⟩ (.int .i64 t1202)).setCell ⟨gb1204, 2, none⟩ (.int .i64 t1203))) := ⟨by repeat (first | (with_reducible first | exact HB.out | apply zag | apply zae | apply zaf | refine zah ?_ GE1204.out) | exact HB.out)⟩
                     (try clear HO_7)
                     (try clear HO_8)
                     (try clear HO_9)
                     (try clear BK1204)
                     (try clear HB)
                     generalize (((w27.setCell ⟨gb1204, 0, none⟩ (.int .i64 t1201)).setCell ⟨gb1204, 1, none⟩ (.int .i64 t1202)).setCell ⟨gb1204, 2, none⟩ (.int .i64 t1203)) = w29 at n0_ n1_ n2_ n3_ n4_ ⊢
                     have HO_7 := n0_
                     have HO_8 := n1_
                     have HO_9 := n2_
                     have BK1204 := n3_
                     have HB := n4_
                     clear n0_ n1_ n2_ n3_ n4_
                     have n0_ := zad (zak HO_7.out)
                     have n1_ := zad (zak HO_8.out)
                     have n2_ := zad (zak HO_9.out)
                     have n3_ := zad (blk_drew BK1204.out)
                     have n4_ := zad (zaf HB.out)
                     clear HO_7
                     clear HO_8
                     clear HO_9
                     clear BK1204
                     clear HB
                     have HO_7 := n0_
                     have HO_8 := n1_
                     have HO_9 := n2_
                     have BK1204 := n3_
                     have HB := n4_
                     clear n0_ n1_ n2_ n3_ n4_
                     have p1205 : 0 ≤ (t1201 : Int) := zas (by first | (with_reducible assumption) | assumption)
                     have q1205 : t1201 < (x8_1.length : Int) := zas (by first | (with_reducible assumption) | assumption)
                     obtain ⟨ad1205, e1205, hx1205_0⟩ := Kd.at_int (Kd.R_reads' HO_8.out).2.2 t1201 p1205 q1205
                     cases e1205
                     replace p1205 := eq_true p1205
                     replace q1205 := eq_true q1205
                     have p1206 : 0 ≤ (t1201 : Int) := zas (by first | (with_reducible assumption) | assumption)
                     have q1206 : t1201 < (t1194.length : Int) := zas (by first | (with_reducible assumption) | assumption)
                     obtain ⟨ad1206, e1206, hx1206_0⟩ := Kd.at_int (Kd.R_reads' HO_7.out).2.2 t1201 p1206 q1206
                     cases e1206
                     replace p1206 := eq_true p1206
                     replace q1206 := eq_true q1206
                     have p1207 : 0 ≤ (t1202 : Int) := zas (by first | (with_reducible assumption) | assumption)
                     have q1207 : t1202 < (t1194.length : Int) := zas (by first | (with_reducible assumption) | assumption)
                     obtain ⟨ad1207, e1207, hx1207_0⟩ := Kd.at_int (Kd.R_reads' HO_7.out).2.2 t1202 p1207 q1207
                     obtain rfl : ad1206 = ad1207 := (by injection e1207)
                     replace p1207 := eq_true p1207
                     replace q1207 := eq_true q1207
                     have p1208 : 0 ≤ (t1202 : Int) := zas (by first | (with_reducible assumption) | assumption)
                     have q1208 : t1202 < (x8_1.length : Int) := zas (by first | (with_reducible assumption) | assumption)
                     obtain ⟨ad1208, e1208, hx1208_0⟩ := Kd.at_int (Kd.R_reads' HO_8.out).2.2 t1202 p1208 q1208
                     obtain rfl : ad1205 = ad1208 := (by injection e1208)
                     replace p1208 := eq_true p1208
                     replace q1208 := eq_true q1208
                     refine start_ (n := 25) (S := fun w' => w'.cell? ⟨gb1204, 0, none⟩ = some (.int .i64 t1201) ∧ w'.cell? ⟨gb1204, 1, none⟩ = some (.int .i64 t1202) ∧ w'.cell? ⟨gb1204, 2, none⟩ = some (.int .i64 t1203) ∧ w'.cell? (ad1205.add (t1201).toNat) = some (.int .i64 (rd x8_1 t1201)) ∧ w'.cell? (ad1206.add (t1201).toNat) = some (.int .i64 (rd t1194 t1201)) ∧ w'.cell? (ad1206.add (t1202).toNat) = some (.int .i64 (rd t1194 t1202)) ∧ w'.cell? (ad1205.add (t1202).toNat) = some (.int .i64 (rd x8_1 t1202))) (ds := [24]) #[false, false, false, false, false, false, false, false, false, false, false, false, false, false, false, false, false, false, false, false, false, false, false, false, false] (by kernel_rfl) rfl rfl ⟨(blk_cell BK1204.out 0).trans rfl, (blk_cell BK1204.out 1).trans rfl, (blk_cell BK1204.out 2).trans rfl, hx1205_0, hx1206_0, hx1207_0, hx1208_0⟩ (fun hHeld => ?_); refine with_tabW spec_giPath.tab6 spec_giPath.bits6 (fun HT_ HW_ => ?_)
                     generalize w29.drew = w30 at HO_7 HO_8 HO_9 BK1204 HB hx1205_0 hx1206_0 hx1207_0 hx1208_0 hHeld ⊢
                     refine pure_ (i := 0) (N := some 23) (v := ?_) (a' := ?_) #[true, false, false, false, false, false, false, false, false, false, false, false, false, false, false, false, false, false, false, false, false, false, false, false, false] rfl rfl (any_of HT_.out (by kernel_rfl)) (fun _ _ _ h => h) (Or.inl ⟨by rfl, ?_⟩) ?_ ?_
                     rotate_left
                     · intro w'
                       go_simp
                       with_reducible rfl
                     rotate_left
                     · simp only [Act.put, zaa, zab, zac, i64_w, i32_w]
                       rfl
                     refine pure_ (i := 1) (N := some 24) (v := ?_) (a' := ?_) #[true, true, false, false, false, false, false, false, false, false, false, false, false, false, false, false, false, false, false, false, false, false, false, false, false] rfl rfl (any_of HT_.out (by kernel_rfl)) (fun _ _ _ h => h) (Or.inl ⟨by rfl, ?_⟩) ?_ ?_
                     rotate_left
                     · intro w'
                       go_simp
                       with_reducible rfl
                     rotate_left
                     · simp only [Act.put, zaa, zab, zac, i64_w, i32_w]
                       rfl
                     refine pure_ (i := 5) (N := some 28) (v := ?_) (a' := ?_) #[true, true, false, false, false, true, false, false, false, false, false, false, false, false, false, false, false, false, false, false, false, false, false, false, false] rfl rfl (any_of HT_.out (by kernel_rfl)) (fun _ _ _ h => h) (Or.inl ⟨by rfl, ?_⟩) ?_ ?_
                     rotate_left
                     · intro w'
                       go_simp
                       with_reducible rfl
                     rotate_left
                     · simp only [Act.put, zaa, zab, zac, i64_w, i32_w]
                       rfl
                     refine pure_ (i := 6) (N := some 29) (v := ?_) (a' := ?_) #[true, true, false, false, false, true, true, false, false, false, false, false, false, false, false, false, false, false, false, false, false, false, false, false, false] rfl rfl (any_of HT_.out (by kernel_rfl)) (fun _ _ _ h => h) (Or.inl ⟨by rfl, ?_⟩) ?_ ?_
                     rotate_left
                     · intro w'
                       go_simp
                       with_reducible rfl
                     rotate_left
                     · simp only [Act.put, zaa, zab, zac, i64_w, i32_w]
                       rfl
                     refine pure_ (i := 11) (N := some 34) (v := ?_) (a' := ?_) #[true, true, false, false, false, true, true, false, false, false, false, true, false, false, false, false, false, false, false, false, false, false, false, false, false] rfl rfl (any_of HT_.out (by kernel_rfl)) (fun _ _ _ h => h) (Or.inl ⟨by rfl, ?_⟩) ?_ ?_
                     rotate_left
                     · intro w'
                       go_simp
                       with_reducible rfl
                     rotate_left
                     · simp only [Act.put, zaa, zab, zac, i64_w, i32_w]
                       rfl
                     refine pure_ (i := 12) (N := some 35) (v := ?_) (a' := ?_) #[true, true, false, false, false, true, true, false, false, false, false, true, true, false, false, false, false, false, false, false, false, false, false, false, false] rfl rfl (any_of HT_.out (by kernel_rfl)) (fun _ _ _ h => h) (Or.inl ⟨by rfl, ?_⟩) ?_ ?_
                     rotate_left
                     · intro w'
                       go_simp
                       with_reducible rfl
                     rotate_left
                     · simp only [Act.put, zaa, zab, zac, i64_w, i32_w]
                       rfl
                     refine pure_ (i := 16) (N := some 39) (v := ?_) (a' := ?_) #[true, true, false, false, false, true, true, false, false, false, false, true, true, false, false, false, true, false, false, false, false, false, false, false, false] rfl rfl (any_of HT_.out (by kernel_rfl)) (fun _ _ _ h => h) (Or.inl ⟨by rfl, ?_⟩) ?_ ?_
                     rotate_left
                     · intro w'
                       go_simp
                       with_reducible rfl
                     rotate_left
                     · simp only [Act.put, zaa, zab, zac, i64_w, i32_w]
                       rfl
                     refine pure_ (i := 17) (N := some 40) (v := ?_) (a' := ?_) #[true, true, false, false, false, true, true, false, false, false, false, true, true, false, false, false, true, true, false, false, false, false, false, false, false] rfl rfl (any_of HT_.out (by kernel_rfl)) (fun _ _ _ h => h) (Or.inl ⟨by rfl, ?_⟩) ?_ ?_
                     rotate_left
                     · intro w'
                       go_simp
                       with_reducible rfl
                     rotate_left
                     · simp only [Act.put, zaa, zab, zac, i64_w, i32_w]
                       rfl
                     refine take_ (i := 2) (N := some 25) (v := ?_) (a' := ?_) #[true, true, true, false, false, true, true, false, false, false, false, true, true, false, false, false, true, true, false, false, false, false, false, false, false] rfl rfl (take_ofW HT_.out HW_.out (by kernel_rfl)) (fun _ _ _ h => h) (Or.inl ⟨by rfl, ?_⟩) hHeld ?_ ?_
                     rotate_left
                     · rintro w' ⟨s0, s1, s2, s3, s4, s5, s6⟩
                       go_simp
                       with_reducible rfl
                     rotate_left
                     · simp only [Act.put, zaa, zab, zac, i64_w, i32_w]
                       rfl
                     refine pure_ (i := 3) (N := some 26) (v := ?_) (a' := ?_) #[true, true, true, true, false, true, true, false, false, false, false, true, true, false, false, false, true, true, false, false, false, false, false, false, false] rfl rfl (any_of HT_.out (by kernel_rfl)) (fun _ _ _ h => h) (Or.inl ⟨by rfl, ?_⟩) ?_ ?_
                     rotate_left
                     · intro w'
                       go_simp
                       with_reducible rfl
                     rotate_left
                     · simp only [Act.put, zaa, zab, zac, i64_w, i32_w]
                       rfl
                     refine take_ (i := 4) (N := some 27) (v := ?_) (a' := ?_) #[true, true, true, true, true, true, true, false, false, false, false, true, true, false, false, false, true, true, false, false, false, false, false, false, false] rfl rfl (take_ofW HT_.out HW_.out (by kernel_rfl)) (fun _ _ _ h => h) (Or.inl ⟨by rfl, ?_⟩) hHeld ?_ ?_
                     rotate_left
                     · rintro w' ⟨s0, s1, s2, s3, s4, s5, s6⟩
                       go_simp
                       with_reducible rfl
                     rotate_left
                     · simp only [Act.put, zaa, zab, zac, i64_w, i32_w]
                       rfl
                     refine take_ (i := 7) (N := some 30) (v := ?_) (a' := ?_) #[true, true, true, true, true, true, true, true, false, false, false, true, true, false, false, false, true, true, false, false, false, false, false, false, false] rfl rfl (take_ofW HT_.out HW_.out (by kernel_rfl)) (fun _ _ _ h => h) (Or.inl ⟨by rfl, ?_⟩) hHeld ?_ ?_
                     rotate_left
                     · rintro w' ⟨s0, s1, s2, s3, s4, s5, s6⟩
                       go_simp
                       with_reducible rfl
                     rotate_left
                     · simp only [Act.put, zaa, zab, zac, i64_w, i32_w]
                       rfl
                     refine pure_ (i := 8) (N := some 31) (v := ?_) (a' := ?_) #[true, true, true, true, true, true, true, true, true, false, false, true, true, false, false, false, true, true, false, false, false, false, false, false, false] rfl rfl (any_of HT_.out (by kernel_rfl)) (fun _ _ _ h => h) (Or.inl ⟨by rfl, ?_⟩) ?_ ?_
                     rotate_left
                     · intro w'
                       go_simp
                       with_reducible rfl
                     rotate_left
                     · simp only [Act.put, zaa, zab, zac, i64_w, i32_w]
                       rfl
                     refine take_ (i := 9) (N := some 32) (v := ?_) (a' := ?_) #[true, true, true, true, true, true, true, true, true, true, false, true, true, false, false, false, true, true, false, false, false, false, false, false, false] rfl rfl (take_ofW HT_.out HW_.out (by kernel_rfl)) (fun _ _ _ h => h) (Or.inl ⟨by rfl, ?_⟩) hHeld ?_ ?_
                     rotate_left
                     · rintro w' ⟨s0, s1, s2, s3, s4, s5, s6⟩
                       go_simp
                       with_reducible rfl
                     rotate_left
                     · simp only [Act.put, zaa, zab, zac, i64_w, i32_w]
                       rfl
                     refine pure_ (i := 10) (N := some 33) (v := ?_) (a' := ?_) #[true, true, true, true, true, true, true, true, true, true, true, true, true, false, false, false, true, true, false, false, false, false, false, false, false] rfl rfl (any_of HT_.out (by kernel_rfl)) (fun _ _ _ h => h) (Or.inl ⟨by rfl, ?_⟩) ?_ ?_
                     rotate_left
                     · intro w'
                       go_simp
                       with_reducible rfl
                     rotate_left
                     · simp only [Act.put, zaa, zab, zac, i64_w, i32_w]
                       rfl
                     refine take_ (i := 13) (N := some 36) (v := ?_) (a' := ?_) #[true, true, true, true, true, true, true, true, true, true, true, true, true, true, false, false, true, true, false, false, false, false, false, false, false] rfl rfl (take_ofW HT_.out HW_.out (by kernel_rfl)) (fun _ _ _ h => h) (Or.inl ⟨by rfl, ?_⟩) hHeld ?_ ?_
                     rotate_left
                     · rintro w' ⟨s0, s1, s2, s3, s4, s5, s6⟩
                       go_simp
                       with_reducible rfl
                     rotate_left
                     · simp only [Act.put, zaa, zab, zac, i64_w, i32_w]
                       rfl
                     refine pure_ (i := 14) (N := some 37) (v := ?_) (a' := ?_) #[true, true, true, true, true, true, true, true, true, true, true, true, true, true, true, false, true, true, false, false, false, false, false, false, false] rfl rfl (any_of HT_.out (by kernel_rfl)) (fun _ _ _ h => h) (Or.inl ⟨by rfl, ?_⟩) ?_ ?_
                     rotate_left
                     · intro w'
                       go_simp
                       with_reducible rfl
                     rotate_left
                     · simp only [Act.put, zaa, zab, zac, i64_w, i32_w]
                       rfl
                     refine take_ (i := 15) (N := some 38) (v := ?_) (a' := ?_) #[true, true, true, true, true, true, true, true, true, true, true, true, true, true, true, true, true, true, false, false, false, false, false, false, false] rfl rfl (take_ofW HT_.out HW_.out (by kernel_rfl)) (fun _ _ _ h => h) (Or.inl ⟨by rfl, ?_⟩) hHeld ?_ ?_
                     rotate_left
                     · rintro w' ⟨s0, s1, s2, s3, s4, s5, s6⟩
                       go_simp
                       with_reducible rfl
                     rotate_left
                     · simp only [Act.put, zaa, zab, zac, i64_w, i32_w]
                       rfl
                     refine take_ (i := 18) (N := some 41) (v := ?_) (a' := ?_) #[true, true, true, true, true, true, true, true, true, true, true, true, true, true, true, true, true, true, true, false, false, false, false, false, false] rfl rfl (take_ofW HT_.out HW_.out (by kernel_rfl)) (fun _ _ _ h => h) (Or.inl ⟨by rfl, ?_⟩) hHeld ?_ ?_
                     rotate_left
                     · rintro w' ⟨s0, s1, s2, s3, s4, s5, s6⟩
                       go_simp
                       with_reducible rfl
                     rotate_left
                     · simp only [Act.put, zaa, zab, zac, i64_w, i32_w]
                       rfl
                     refine pure_ (i := 19) (N := some 42) (v := ?_) (a' := ?_) #[true, true, true, true, true, true, true, true, true, true, true, true, true, true, true, true, true, true, true, true, false, false, false, false, false] rfl rfl (any_of HT_.out (by kernel_rfl)) (fun _ _ _ h => h) (Or.inl ⟨by rfl, ?_⟩) ?_ ?_
                     rotate_left
                     · intro w'
                       go_simp
                       with_reducible rfl
                     rotate_left
                     · simp only [Act.put, zaa, zab, zac, i64_w, i32_w]
                       rfl
                     refine take_ (i := 20) (N := some 43) (v := ?_) (a' := ?_) #[true, true, true, true, true, true, true, true, true, true, true, true, true, true, true, true, true, true, true, true, true, false, false, false, false] rfl rfl (take_ofW HT_.out HW_.out (by kernel_rfl)) (fun _ _ _ h => h) (Or.inl ⟨by rfl, ?_⟩) hHeld ?_ ?_
                     rotate_left
                     · rintro w' ⟨s0, s1, s2, s3, s4, s5, s6⟩
                       go_simp
                       with_reducible rfl
                     rotate_left
                     · simp only [Act.put, zaa, zab, zac, i64_w, i32_w]
                       rfl
                     refine pure_ (i := 21) (N := some 44) (v := ?_) (a' := ?_) #[true, true, true, true, true, true, true, true, true, true, true, true, true, true, true, true, true, true, true, true, true, true, false, false, false] rfl rfl (any_of HT_.out (by kernel_rfl)) (fun _ _ _ h => h) (Or.inl ⟨by rfl, ?_⟩) ?_ ?_
                     rotate_left
                     · intro w'
                       go_simp
                       with_reducible rfl
                     rotate_left
                     · simp only [Act.put, zaa, zab, zac, i64_w, i32_w]
                       rfl
                     refine one_ (i := 22) (N := some 45) #[true, true, true, true, true, true, true, true, true, true, true, true, true, true, true, true, true, true, true, true, true, true, true, false, false] rfl rfl (one_of HT_.out (by kernel_rfl)) (by decide) (fun K hK => ?_)
                     refine goes_ Try.func120 (by kernel_rfl) rfl #[.int .i64 (wrap64 ((rd x8_1 t1201) - (rd t1194 t1201))), .int .i64 (wrap64 ((rd t1194 t1202) - (rd x8_1 t1202)))] (by rfl) rfl rfl (by (try simp only [zat, zau, zav]); first | done | rfl | (simp only [zaw, zax]; rfl)) ?_
                     with_reducible refine (spec_l1Least.calls (wrap64 ((rd x8_1 t1201) - (rd t1194 t1201))) (wrap64 ((rd t1194 t1202) - (rd x8_1 t1202))) t1209 _ A20.out).mono ?_
                     rintro e w' ⟨rfl, ⟨nd, rfl⟩⟩
                     refine ⟨_, rfl, ?_⟩
                     refine hK.out _ _ ⟨(blk_cell BK1204.out 0).trans rfl, (blk_cell BK1204.out 1).trans rfl, (blk_cell BK1204.out 2).trans rfl, hHeld.2.2.2.1, hHeld.2.2.2.2.1, hHeld.2.2.2.2.2.1, hHeld.2.2.2.2.2.2⟩ (fun hHeld => ?_)
                     clear hK K
                     refine norm_ (a' := ?_) ?_ ?_
                     rotate_left
                     · show Act.put _ (some 45) _ = _
                       simp only [Act.put, zaa, zab, zac, i64_w, i32_w]
                       rfl
                     refine pure_ (i := 23) (N := some 46) (v := ?_) (a' := ?_) #[true, true, true, true, true, true, true, true, true, true, true, true, true, true, true, true, true, true, true, true, true, true, true, true, false] rfl rfl (any_of HT_.out (by kernel_rfl)) (fun _ _ _ h => h) (Or.inl ⟨by rfl, ?_⟩) ?_ ?_
                     rotate_left
                     · intro w'
                       go_simp
                       with_reducible rfl
                     rotate_left
                     · simp only [Act.put, zaa, zab, zac, i64_w, i32_w]
                       rfl
                     refine last_ (i := 24) (N := none) #[true, true, true, true, true, true, true, true, true, true, true, true, true, true, true, true, true, true, true, true, true, true, true, true, true] rfl rfl (one_of HT_.out (by kernel_rfl)) (by decide) (fun K hK => ?_)
                     have hs31 : w30.cell? ⟨gb1204, 2, none⟩ = some (.int .i64 t1203) := (blk_cell BK1204.out 2).trans rfl
                     have hfs31 := blk_frozen BK1204.out 2
                     refine skip_ (w1 := ?_) (by rfl) rfl ?_ ?_
                     rotate_left
                     · go_simp
                       rfl
                     refine hK.out _ _ ?_
                     clear hK K
                     refine done_ (done_of HT_.out (by kernel_rfl)) ?_
                     have hcz32_0 : w30.cell? ⟨gb1204, 0, none⟩ = some (.int .i64 t1201) := (blk_cell BK1204.out 0).trans rfl
                     have hcz32_1 : w30.cell? ⟨gb1204, 1, none⟩ = some (.int .i64 t1202) := (blk_cell BK1204.out 1).trans rfl
                     have hcz32_2 : w30.cell? ⟨gb1204, 2, none⟩ = some (.int .i64 t1203) := (blk_cell BK1204.out 2).trans rfl
                     have hfz32_0 := blk_frozen BK1204.out 0
                     have hfz32_1 := blk_frozen BK1204.out 1
                     have hfz32_2 := blk_frozen BK1204.out 2
                     try go_wp2_with (first | ((with_reducible refine gate_builtin (b := .append) (xs := #[.tmp 47, .tmp 49]) rfl ?_); at_builtin; refine Kd.R_append k39 (w0 := w) w.heap.size rfl (.tmp 47) (.tmp 49) 58 39 (.agg #[(.int .i64 0), (.int .i64 0), (.int .i64 0)]) 24 rfl Try.underlying58 info39 rfl (by decide) (by omega) u9 x9_1 (⟨t1201, t1202, t1209⟩ : S39) [.int .i64 t1201, .int .i64 t1202, .int .i64 t1209] (fun k_ => k_ ≠ gb1204) (fun _ => False) rfl (by first | (go_simp; done) | (go_simp; rfl)) ?aP (fun _ hk => hk.elim) ?aF ?aO ?aB ?aS ?aL ?_; (case aP => exact k39_mkM _ _ _ (⟨t1201, t1202, t1209⟩ : S39)); (case aB => exact (by repeat (first | (with_reducible first | exact HB.out | apply zag | apply zae | apply zaf | refine zah ?_ GE1204.out) | exact HB.out))); (case aF => exact (fun k_ hk => Kd.freshB (g := gb1204) (o := .cells #[.int .i64 t1201, .int .i64 t1202, .int .i64 t1209] 39 (0, 0)) (by (with_reducible repeat (first | refine blk_drewN ?_ _ | refine blk_drew ?_ | refine blk_alloc ?_ _)); refine blk_put (cs := #[.int .i64 t1201, .int .i64 t1202, .int .i64 t1203]) ?_ 2 _ rfl; (with_reducible repeat (first | refine blk_drewN ?_ _ | refine blk_drew ?_ | refine blk_alloc ?_ _)); exact BK1204.out) k_ hk)); (case aO => exact (by (with_reducible repeat (first | apply zai | apply zaj | apply zak)); exact Kd.R_mono (Kd.R_far (p := ⟨gb1204, 2, none⟩) (Kd.R_mono HO_9.out (fun k_ hk => (⟨hk, hk⟩ : _ ∧ k_ ≠ gb1204))) (fun _ hk => hk.2) (.int .i64 t1209)) (fun _ hk => hk.1))); (case aS => exact (below_size (by repeat (first | (with_reducible first | exact HB.out | apply zag | apply zae | apply zaf | refine zah ?_ GE1204.out) | exact HB.out)))); (case aL => have := LMc21.out; omega); intro v1211 w33 ho hb hg hat; rw [← Ny1210.out] at ho; have n0_ := zad (Kd.R_over' (by (with_reducible repeat (first | apply zai | apply zaj | apply zak)); exact (Kd.R_mono (Kd.R_far (p := ⟨gb1204, 2, none⟩) (Kd.R_types HO_7.out BK1204.out (by decide)) (fun _ hk => hk.2) (.int .i64 t1209)) (fun _ h_ => h_.1))) (Kd.R_typed (by (with_reducible repeat (first | apply zai | apply zaj | apply zak)); exact (Kd.R_mono (Kd.R_far (p := ⟨gb1204, 2, none⟩) (Kd.R_mono HO_9.out (fun k_ hk => (⟨hk, hk⟩ : _ ∧ k_ ≠ gb1204))) (fun _ hk => hk.2) (.int .i64 t1209)) (fun _ h_ => h_.1)))) (by decide) hg); have n1_ := zad (Kd.R_over' (by (with_reducible repeat (first | apply zai | apply zaj | apply zak)); exact (Kd.R_mono (Kd.R_far (p := ⟨gb1204, 2, none⟩) (Kd.R_types HO_8.out BK1204.out (by decide)) (fun _ hk => hk.2) (.int .i64 t1209)) (fun _ h_ => h_.1))) (Kd.R_typed (by (with_reducible repeat (first | apply zai | apply zaj | apply zak)); exact (Kd.R_mono (Kd.R_far (p := ⟨gb1204, 2, none⟩) (Kd.R_mono HO_9.out (fun k_ hk => (⟨hk, hk⟩ : _ ∧ k_ ≠ gb1204))) (fun _ hk => hk.2) (.int .i64 t1209)) (fun _ h_ => h_.1)))) (by decide) hg); have n2_ := zad (blk_grown (g := gb1204) (o := .cells #[.int .i64 t1201, .int .i64 t1202, .int .i64 t1209] 39 (0, 0)) (by (with_reducible repeat (first | refine blk_drewN ?_ _ | refine blk_drew ?_ | refine blk_alloc ?_ _)); refine blk_put (cs := #[.int .i64 t1201, .int .i64 t1202, .int .i64 t1203]) ?_ 2 _ rfl; (with_reducible repeat (first | refine blk_drewN ?_ _ | refine blk_drew ?_ | refine blk_alloc ?_ _)); exact BK1204.out) hg (Kd.R_away HO_9.out (fun _ hk => hk))); have n3_ := zad (hb); have n4_ := zad (ho); clear HO_7; clear HO_8; clear BK1204; clear HB; clear HO_9; have HO_7 := n0_; have HO_8 := n1_; have BK1204 := n2_; have HB := n3_; have HO1212 := n4_; clear n0_ n1_ n2_ n3_ n4_; clear ho hb hg hat; have hcz34_0 : w33.cell? ⟨gb1204, 0, none⟩ = some (.int .i64 t1201) := (blk_cell BK1204.out 0).trans rfl; have hcz34_1 : w33.cell? ⟨gb1204, 1, none⟩ = some (.int .i64 t1202) := (blk_cell BK1204.out 1).trans rfl; have hcz34_2 : w33.cell? ⟨gb1204, 2, none⟩ = some (.int .i64 t1209) := (blk_cell BK1204.out 2).trans rfl; have hfz34_0 := blk_frozen BK1204.out 0; have hfz34_1 := blk_frozen BK1204.out 1; have hfz34_2 := blk_frozen BK1204.out 2) | ((with_reducible refine gate_callee (f := 101) rfl ?_); refine goesL_ (some 53) rfl rfl Try.func101 (by kernel_rfl) rfl #[.slice (some ad1205) x8_1.length co25, .agg #[.int .i64 t1201, .int .i64 t1202, .int .i64 t1209]] rfl (by (try simp only [zat, zau, zav]); first | done | rfl | (simp only [zaw, zax]; rfl)) ?_; (with_reducible refine (spec_giDo.calls _ _ x8_1 t1201 t1202 t1209 t1213 _ ?side1 ?side2 A22.out).mono ?_); (case side1 => repeat (first | exact (Kd.R_reads' HO_8.out).2.2 | (with_reducible refine zal ?_ _) | (with_reducible refine zam ?_ _) | (with_reducible refine zan ?_))); (case side2 => exact (Kd.R_reads' HO_8.out).2.1); rintro e w35 ⟨v1214, rfl, ho0, hb⟩; refine ⟨_, rfl, ?_⟩; have n0_ := zad (Kd.R_elder' (by (with_reducible repeat (first | apply zai | apply zaj | apply zak)); exact HO_7.out) (Kd.R_base ho0) hb); have n1_ := zad (Kd.R_elder' (by (with_reducible repeat (first | apply zai | apply zaj | apply zak)); exact HO_8.out) (Kd.R_base ho0) hb); have n2_ := zad (Kd.R_below (by (with_reducible repeat (first | apply zai | apply zaj | apply zak)); exact HO1212.out) hb); have n3_ := zad (Kd.R_lower (Kd.R_new' (Kd.R_new' ho0 (Kd.R_lt (by (with_reducible repeat (first | apply zai | apply zaj | apply zak)); exact HO_7.out))) (Kd.R_lt (by (with_reducible repeat (first | apply zai | apply zaj | apply zak)); exact HO_8.out))) (below_size (by repeat (first | (with_reducible first | exact HB.out | apply zag | apply zae | apply zaf | refine zah ?_ GE1204.out) | exact HB.out)))); have n4_ := zad (blk_below (g := gb1204) (o := .cells #[.int .i64 t1201, .int .i64 t1202, .int .i64 t1209] 39 (0, 0)) (by (with_reducible repeat (first | refine blk_drewN ?_ _ | refine blk_drew ?_ | refine blk_alloc ?_ _)); exact BK1204.out) hb); have n5_ := zad (below_step (by repeat (first | (with_reducible first | exact HB.out | apply zag | apply zae | apply zaf | refine zah ?_ GE1204.out) | exact HB.out)) hb); clear HO_7; clear HO_8; clear HO1212; clear BK1204; clear HB; have HO_7 := n0_; have HO_8 := n1_; have HO1212 := n2_; have HO1215 := n3_; have BK1204 := n4_; have HB := n5_; clear n0_ n1_ n2_ n3_ n4_ n5_; (try clear hb); (try clear hb2); (try clear hk); (try clear hi); (try clear ho0); obtain ⟨Ao36, co36, eo36⟩ := Kd.R_slice HO1215.out; subst eo36) | ((with_reducible refine gate_callee (f := 108) rfl ?_); refine goesL_ (some 54) rfl rfl Try.func108 (by kernel_rfl) rfl #[.slice Ao36 t1213.length co36] rfl (by (try simp only [zat, zau, zav]); first | done | rfl | (simp only [zaw, zax]; rfl)) ?_; (with_reducible refine (spec_liRank.calls k1 _ _ t1213 t1216 _ ?side1 ?side2 A23.out).mono ?_); (case side1 => repeat (first | exact (Kd.R_reads' HO1215.out).2.2 | (with_reducible refine zal ?_ _) | (with_reducible refine zam ?_ _) | (with_reducible refine zan ?_))); (case side2 => exact (Kd.R_reads' HO1215.out).2.1); rintro e w37 ⟨v1217, rfl, ho0, hb⟩; refine ⟨_, rfl, ?_⟩; have n0_ := zad (Kd.R_elder' (by (with_reducible repeat (first | apply zai | apply zaj | apply zak)); exact HO_7.out) (Kd.R_base ho0) hb); have n1_ := zad (Kd.R_elder' (by (with_reducible repeat (first | apply zai | apply zaj | apply zak)); exact HO_8.out) (Kd.R_base ho0) hb); have n2_ := zad (Kd.R_below (by (with_reducible repeat (first | apply zai | apply zaj | apply zak)); exact HO1212.out) hb); have n3_ := zad (Kd.R_elder' (by (with_reducible repeat (first | apply zai | apply zaj | apply zak)); exact HO1215.out) (Kd.R_base ho0) hb); have n4_ := zad (Kd.R_lower (Kd.R_new' (Kd.R_new' (Kd.R_new' ho0 (Kd.R_lt (by (with_reducible repeat (first | apply zai | apply zaj | apply zak)); exact HO_7.out))) (Kd.R_lt (by (with_reducible repeat (first | apply zai | apply zaj | apply zak)); exact HO_8.out))) (Kd.R_lt (by (with_reducible repeat (first | apply zai | apply zaj | apply zak)); exact HO1215.out))) (below_size (by repeat (first | (with_reducible first | exact HB.out | apply zag | apply zae | apply zaf | refine zah ?_ GE1204.out) | exact HB.out)))); have n5_ := zad (blk_below (g := gb1204) (o := .cells #[.int .i64 t1201, .int .i64 t1202, .int .i64 t1209] 39 (0, 0)) (by (with_reducible repeat (first | refine blk_drewN ?_ _ | refine blk_drew ?_ | refine blk_alloc ?_ _)); exact BK1204.out) hb); have n6_ := zad (below_step (by repeat (first | (with_reducible first | exact HB.out | apply zag | apply zae | apply zaf | refine zah ?_ GE1204.out) | exact HB.out)) hb); clear HO_7; clear HO_8; clear HO1212; clear HO1215; clear BK1204; clear HB; have HO_7 := n0_; have HO_8 := n1_; have HO1212 := n2_; have HO1215 := n3_; have HO1218 := n4_; have BK1204 := n5_; have HB := n6_; clear n0_ n1_ n2_ n3_ n4_ n5_ n6_; (try clear hb); (try clear hb2); (try clear hk); (try clear hi); (try clear ho0)))
                     go_roundg k1
                     case measure => have := HK1.out; omega
                     case rel => exact ⟨(t1216), (y1210), H', ⟨by have := HK1.out; omega⟩, ⟨by (with_reducible repeat (first | apply zai | apply zaj | apply zak)); exact Kd.R_mono HO_7.out (fun _ hk => hk.2)⟩, ⟨by (with_reducible repeat (first | apply zai | apply zaj | apply zak)); exact Kd.R_mono HO1218.out (fun _ hk => hk.1.1.2)⟩, ⟨by (with_reducible repeat (first | apply zai | apply zaj | apply zak)); exact Kd.R_mono HO1212.out (fun _ hk => trivial)⟩, ⟨by repeat (first | (with_reducible first | exact HB.out | apply zag | apply zae | apply zaf | refine zah ?_ GE1204.out) | exact HB.out)⟩⟩
                   · rw [if_neg c21] at H
                     exact absurd H (by simp)
                 · rw [if_neg c19] at H
                   exact absurd H (by simp)
               · rw [if_neg c18] at H
                 exact absurd H (by simp)
             · rw [if_neg c17] at H
               exact absurd H (by simp)
           · rw [if_neg c16] at H
             exact absurd H (by simp)
         · rw [if_neg c15] at H
           exact absurd H (by simp)
       · rw [if_neg c14] at H
         exact absurd H (by simp)
     · replace c13 := Bool.eq_false_iff.mpr c13
       subst c13
       have H1 : (if x9_1.length < 5864062014805 then ((spec_giDo.f x8_1 t1201 t1202 t1203).bind fun t1222 => ((spec_liRank.f k1 t1222).bind fun t1225 => (spec_giPath.l0 k1 false t1194 t1225 (x9_1 ++ [(⟨t1201, t1202, t1203⟩ : S39)])))) else (none)) = some r := by rw [if_neg (show ¬ (false = true) by decide)] at H; exact H
       clear H
       have H := H1
       clear H1
       by_cases c38 : x9_1.length < 5864062014805
       · rw [if_pos c38] at H
         have LMc38 := zad c38
         clear c38
         obtain ⟨y1219, hy1219⟩ : ∃ y_ : List (S39), y_ = (x9_1 ++ [(⟨t1201, t1202, t1203⟩ : S39)]) := ⟨_, rfl⟩
         replace H : ((spec_giDo.f x8_1 t1201 t1202 t1203).bind fun t1222 => ((spec_liRank.f k1 t1222).bind fun t1225 => (spec_giPath.l0 k1 false t1194 t1225 y1219))) = some r := by first | (rw [hy1219]; with_reducible exact H) | (have H2_ := (Option.bind_some _ _).symm.trans H; rw [hy1219]; with_reducible exact H2_) | (have H2_ := (Option.bind_some _ _).symm.trans H; with_reducible exact H2_) | with_reducible exact H | (rw [hy1219]; exact H) | exact H
         have Ny1219 := zad hy1219
         clear hy1219
         replace H := Option.bind_eq_some_iff.mp H
         obtain ⟨t1222, A390, H⟩ := H
         replace H : ((spec_liRank.f k1 t1222).bind fun t1225 => (spec_giPath.l0 k1 false t1194 t1225 y1219)) = some r := H
         have A39 := zad A390
         clear A390
         replace H := Option.bind_eq_some_iff.mp H
         obtain ⟨t1225, A400, H⟩ := H
         replace H : (spec_giPath.l0 k1 false t1194 t1225 y1219) = some r := H
         have A40 := zad A400
         clear A400
         have H' := zad H
         clear H
         obtain ⟨Ao41, co41, eo41⟩ := Kd.R_slice HO_7.out
         subst eo41
         obtain ⟨Ao42, co42, eo42⟩ := Kd.R_slice HO_8.out
         subst eo42
         go_wp2_with (first | ((with_reducible refine gate_callee (f := 118) rfl ?_); refine goesL_ (some 17) rfl rfl Try.func118 (by kernel_rfl) rfl #[.slice Ao41 t1194.length co41, .slice Ao42 x8_1.length co42] rfl (by (try simp only [zat, zau, zav]); first | done | rfl | (simp only [zaw, zax]; rfl)) ?_; (with_reducible refine (spec_l1Same.calls k1 _ _ t1194 _ _ x8_1 false _ ?side1 ?side2 ?side3 ?side4 A8.out).mono ?_); (case side1 => repeat (first | exact (Kd.R_reads' HO_7.out).2.2 | (with_reducible refine zal ?_ _) | (with_reducible refine zam ?_ _) | (with_reducible refine zan ?_))); (case side2 => exact (Kd.R_reads' HO_7.out).2.1); (case side3 => repeat (first | exact (Kd.R_reads' HO_8.out).2.2 | (with_reducible refine zal ?_ _) | (with_reducible refine zam ?_ _) | (with_reducible refine zan ?_))); (case side4 => exact (Kd.R_reads' HO_8.out).2.1); rintro e w' ⟨rfl, ⟨nd, rfl⟩⟩; refine ⟨_, rfl, ?_⟩; (try (rw [drewN_self wr]; generalize hq_ : World.drewN wr _ = wr; have n0_ : Aside0 (Kd.R (Kd.int .i64) 3 wr w.heap.size (fun k_ => some k_ ≠ (.slice Ao42 x8_1.length co42 : Value).ownBlock) (.slice Ao41 t1194.length co41) t1194) := ⟨by rw [← hq_]; exact (by (with_reducible repeat (first | apply zai | apply zaj | apply zak)); exact HO_7.out)⟩; have n1_ : Aside0 (Kd.R (Kd.int .i64) 3 wr w.heap.size (fun k_ => some k_ ≠ (.slice Ao41 t1194.length co41 : Value).ownBlock) (.slice Ao42 x8_1.length co42) x8_1) := ⟨by rw [← hq_]; exact (by (with_reducible repeat (first | apply zai | apply zaj | apply zak)); exact HO_8.out)⟩; have n2_ : Aside0 (Kd.R k39 39 wr w.heap.size (fun _ => True) u9 x9_1) := ⟨by rw [← hq_]; exact (by (with_reducible repeat (first | apply zai | apply zaj | apply zak)); exact HO_9.out)⟩; have n3_ : Aside0 (Below w.heap.size w wr) := ⟨by rw [← hq_]; exact (by repeat (first | (with_reducible first | exact HB.out | apply zag | apply zae | apply zaf) | exact HB.out))⟩; clear HO_7 HO_8 HO_9 HB hq_; have HO_7 := n0_; have HO_8 := n1_; have HO_9 := n2_; have HB := n3_; clear n0_ n1_ n2_ n3_))) | ((with_reducible refine gate_callee (f := 153) rfl ?_); refine goesL_ (some 21) rfl rfl Try.func153 (by kernel_rfl) rfl #[.slice Ao41 t1194.length co41, .slice Ao42 x8_1.length co42] rfl (by (try simp only [zat, zau, zav]); first | done | rfl | (simp only [zaw, zax]; rfl)) ?_; (with_reducible refine (spec_giNext.calls k1 _ _ t1194 _ _ x8_1 t1201 t1202 t1203 _ ?side1 ?side2 ?side3 ?side4 A12.out).mono ?_); (case side1 => repeat (first | exact (Kd.R_reads' HO_7.out).2.2 | (with_reducible refine zal ?_ _) | (with_reducible refine zam ?_ _) | (with_reducible refine zan ?_))); (case side2 => exact (Kd.R_reads' HO_7.out).2.1); (case side3 => repeat (first | exact (Kd.R_reads' HO_8.out).2.2 | (with_reducible refine zal ?_ _) | (with_reducible refine zam ?_ _) | (with_reducible refine zan ?_))); (case side4 => exact (Kd.R_reads' HO_8.out).2.1); rintro e w43 ⟨rfl, hb⟩; refine ⟨_, rfl, ?_⟩; have n0_ := zad (Kd.R_below (by (with_reducible repeat (first | apply zai | apply zaj | apply zak)); exact HO_7.out) hb); have n1_ := zad (Kd.R_below (by (with_reducible repeat (first | apply zai | apply zaj | apply zak)); exact HO_8.out) hb); have n2_ := zad (Kd.R_below (by (with_reducible repeat (first | apply zai | apply zaj | apply zak)); exact HO_9.out) hb); have n3_ := zad (below_step (by repeat (first | (with_reducible first | exact HB.out | apply zag | apply zae | apply zaf) | exact HB.out)) hb); clear HO_7; clear HO_8; clear HO_9; clear HB; have HO_7 := n0_; have HO_8 := n1_; have HO_9 := n2_; have HB := n3_; clear n0_ n1_ n2_ n3_; (try clear hb); (try clear hb2); (try clear hk); (try clear hi)) | ((with_reducible refine gate_dst (N := 10) rfl ?_); refine box_event ?hg (N := 10) ?hd (cs := #[.int .i64 0, .int .i64 0, .int .i64 0]) (t := 39) ?hr ?_; (case hd => rfl); (case hg => rfl); (case hr => first | (go_simp; done) | (go_simp; rfl)); intro gb1204 hg w44 hbox hb; have n0_ := zad (Kd.R_below (by (with_reducible repeat (first | apply zai | apply zaj | apply zak)); exact HO_7.out) hb); have n1_ := zad (Kd.R_below (by (with_reducible repeat (first | apply zai | apply zaj | apply zak)); exact HO_8.out) hb); have n2_ := zad (Kd.R_below (Kd.R_elderB (by (with_reducible repeat (first | apply zai | apply zaj | apply zak)); exact HO_9.out) gb1204 (Nat.le_of_eq hg.symm)) hb); have n3_ := zad (below_step (by repeat (first | (with_reducible first | exact HB.out | apply zag | apply zae | apply zaf) | exact HB.out)) hb); have n4_ := zad (hbox); have n5_ := zad ((by rw [hg]; exact (below_size (by repeat (first | (with_reducible first | exact HB.out | apply zag | apply zae | apply zaf) | exact HB.out))) : w.heap.size ≤ gb1204)); have n6_ := zad ((by rw [hg]; exact (below_size (by repeat (first | (with_reducible first | exact HB.out | apply zag | apply zae | apply zaf) | exact HB.out))) : w.heap.size ≤ gb1204)); clear HO_7; clear HO_8; clear HO_9; clear HB; have HO_7 := n0_; have HO_8 := n1_; have HO_9 := n2_; have HB := n3_; have BK1204 := n4_; have GW1204 := n5_; have GE1204 := n6_; clear n0_ n1_ n2_ n3_ n4_ n5_ n6_; clear hb hbox hg; have hcz45_0 : w44.cell? ⟨gb1204, 0, none⟩ = some (.int .i64 0) := (blk_cell BK1204.out 0).trans rfl; have hcz45_1 : w44.cell? ⟨gb1204, 1, none⟩ = some (.int .i64 0) := (blk_cell BK1204.out 1).trans rfl; have hcz45_2 : w44.cell? ⟨gb1204, 2, none⟩ = some (.int .i64 0) := (blk_cell BK1204.out 2).trans rfl; have hfz45_0 := blk_frozen BK1204.out 0; have hfz45_1 := blk_frozen BK1204.out 1; have hfz45_2 := blk_frozen BK1204.out 2) | ((with_reducible refine gate_builtin (b := .append) (xs := #[.tmp 47, .tmp 49]) rfl ?_); at_builtin; refine Kd.R_append k39 (w0 := w) w.heap.size rfl (.tmp 47) (.tmp 49) 58 39 (.agg #[(.int .i64 0), (.int .i64 0), (.int .i64 0)]) 24 rfl Try.underlying58 info39 rfl (by decide) (by omega) u9 x9_1 (⟨t1201, t1202, t1203⟩ : S39) [.int .i64 t1201, .int .i64 t1202, .int .i64 t1203] (fun k_ => k_ ≠ gb1204) (fun _ => False) rfl (by first | (go_simp; done) | (go_simp; rfl)) ?aP (fun _ hk => hk.elim) ?aF ?aO ?aB ?aS ?aL ?_; (case aP => exact k39_mkM _ _ _ (⟨t1201, t1202, t1203⟩ : S39)); (case aB => exact (by repeat (first | (with_reducible first | exact HB.out | apply zag | apply zae | apply zaf | refine zah ?_ GE1204.out) | exact HB.out))); (case aF => exact (fun k_ hk => Kd.freshB (g := gb1204) (o := .cells #[.int .i64 t1201, .int .i64 t1202, .int .i64 t1203] 39 (0, 0)) (by (with_reducible repeat (first | refine blk_drewN ?_ _ | refine blk_drew ?_ | refine blk_alloc ?_ _)); refine blk_put (cs := #[.int .i64 t1201, .int .i64 t1202, .int .i64 0]) ?_ 2 _ rfl; (with_reducible repeat (first | refine blk_drewN ?_ _ | refine blk_drew ?_ | refine blk_alloc ?_ _)); refine blk_put (cs := #[.int .i64 t1201, .int .i64 0, .int .i64 0]) ?_ 1 _ rfl; (with_reducible repeat (first | refine blk_drewN ?_ _ | refine blk_drew ?_ | refine blk_alloc ?_ _)); refine blk_put (cs := #[.int .i64 0, .int .i64 0, .int .i64 0]) ?_ 0 _ rfl; (with_reducible repeat (first | refine blk_drewN ?_ _ | refine blk_drew ?_ | refine blk_alloc ?_ _)); exact BK1204.out) k_ hk)); (case aO => exact (by (with_reducible repeat (first | apply zai | apply zaj | apply zak)); exact Kd.R_mono (Kd.R_far (p := ⟨gb1204, 2, none⟩) (Kd.R_far (p := ⟨gb1204, 1, none⟩) (Kd.R_far (p := ⟨gb1204, 0, none⟩) (Kd.R_mono HO_9.out (fun k_ hk => (⟨hk, hk.2⟩ : _ ∧ k_ ≠ gb1204))) (fun _ hk => hk.2) (.int .i64 t1201)) (fun _ hk => hk.2) (.int .i64 t1202)) (fun _ hk => hk.2) (.int .i64 t1203)) (fun _ hk => hk.1.2))); (case aS => exact (below_size (by repeat (first | (with_reducible first | exact HB.out | apply zag | apply zae | apply zaf | refine zah ?_ GE1204.out) | exact HB.out)))); (case aL => have := LMc38.out; omega); intro v1220 w46 ho hb hg hat; rw [← Ny1219.out] at ho; have n0_ := zad (Kd.R_over' (by (with_reducible repeat (first | apply zai | apply zaj | apply zak)); exact (Kd.R_mono (Kd.R_far (p := ⟨gb1204, 2, none⟩) (Kd.R_far (p := ⟨gb1204, 1, none⟩) (Kd.R_far (p := ⟨gb1204, 0, none⟩) (Kd.R_types HO_7.out BK1204.out (by decide)) (fun _ hk => hk.2) (.int .i64 t1201)) (fun _ hk => hk.2) (.int .i64 t1202)) (fun _ hk => hk.2) (.int .i64 t1203)) (fun _ h_ => h_.1))) (Kd.R_typed (by (with_reducible repeat (first | apply zai | apply zaj | apply zak)); exact (Kd.R_mono (Kd.R_far (p := ⟨gb1204, 2, none⟩) (Kd.R_far (p := ⟨gb1204, 1, none⟩) (Kd.R_far (p := ⟨gb1204, 0, none⟩) (Kd.R_mono HO_9.out (fun k_ hk => (⟨hk, hk.2⟩ : _ ∧ k_ ≠ gb1204))) (fun _ hk => hk.2) (.int .i64 t1201)) (fun _ hk => hk.2) (.int .i64 t1202)) (fun _ hk => hk.2) (.int .i64 t1203)) (fun _ h_ => h_.1)))) (by decide) hg); have n1_ := zad (Kd.R_over' (by (with_reducible repeat (first | apply zai | apply zaj | apply zak)); exact (Kd.R_mono (Kd.R_far (p := ⟨gb1204, 2, none⟩) (Kd.R_far (p := ⟨gb1204, 1, none⟩) (Kd.R_far (p := ⟨gb1204, 0, none⟩) (Kd.R_types HO_8.out BK1204.out (by decide)) (fun _ hk => hk.2) (.int .i64 t1201)) (fun _ hk => hk.2) (.int .i64 t1202)) (fun _ hk => hk.2) (.int .i64 t1203)) (fun _ h_ => h_.1))) (Kd.R_typed (by (with_reducible repeat (first | apply zai | apply zaj | apply zak)); exact (Kd.R_mono (Kd.R_far (p := ⟨gb1204, 2, none⟩) (Kd.R_far (p := ⟨gb1204, 1, none⟩) (Kd.R_far (p := ⟨gb1204, 0, none⟩) (Kd.R_mono HO_9.out (fun k_ hk => (⟨hk, hk.2⟩ : _ ∧ k_ ≠ gb1204))) (fun _ hk => hk.2) (.int .i64 t1201)) (fun _ hk => hk.2) (.int .i64 t1202)) (fun _ hk => hk.2) (.int .i64 t1203)) (fun _ h_ => h_.1)))) (by decide) hg); have n2_ := zad (blk_grown (g := gb1204) (o := .cells #[.int .i64 t1201, .int .i64 t1202, .int .i64 t1203] 39 (0, 0)) (by (with_reducible repeat (first | refine blk_drewN ?_ _ | refine blk_drew ?_ | refine blk_alloc ?_ _)); refine blk_put (cs := #[.int .i64 t1201, .int .i64 t1202, .int .i64 0]) ?_ 2 _ rfl; (with_reducible repeat (first | refine blk_drewN ?_ _ | refine blk_drew ?_ | refine blk_alloc ?_ _)); refine blk_put (cs := #[.int .i64 t1201, .int .i64 0, .int .i64 0]) ?_ 1 _ rfl; (with_reducible repeat (first | refine blk_drewN ?_ _ | refine blk_drew ?_ | refine blk_alloc ?_ _)); refine blk_put (cs := #[.int .i64 0, .int .i64 0, .int .i64 0]) ?_ 0 _ rfl; (with_reducible repeat (first | refine blk_drewN ?_ _ | refine blk_drew ?_ | refine blk_alloc ?_ _)); exact BK1204.out) hg (Kd.R_away HO_9.out (fun _ hk => hk.2))); have n3_ := zad (hb); have n4_ := zad (ho); clear HO_7; clear HO_8; clear BK1204; clear HB; clear HO_9; have HO_7 := n0_; have HO_8 := n1_; have BK1204 := n2_; have HB := n3_; have HO1221 := n4_; clear n0_ n1_ n2_ n3_ n4_; clear ho hb hg hat; have hcz47_0 : w46.cell? ⟨gb1204, 0, none⟩ = some (.int .i64 t1201) := (blk_cell BK1204.out 0).trans rfl; have hcz47_1 : w46.cell? ⟨gb1204, 1, none⟩ = some (.int .i64 t1202) := (blk_cell BK1204.out 1).trans rfl; have hcz47_2 : w46.cell? ⟨gb1204, 2, none⟩ = some (.int .i64 t1203) := (blk_cell BK1204.out 2).trans rfl; have hfz47_0 := blk_frozen BK1204.out 0; have hfz47_1 := blk_frozen BK1204.out 1; have hfz47_2 := blk_frozen BK1204.out 2) | ((with_reducible refine gate_callee (f := 101) rfl ?_); refine goesL_ (some 53) rfl rfl Try.func101 (by kernel_rfl) rfl #[.slice Ao42 x8_1.length co42, .agg #[.int .i64 t1201, .int .i64 t1202, .int .i64 t1203]] rfl (by (try simp only [zat, zau, zav]); first | done | rfl | (simp only [zaw, zax]; rfl)) ?_; (with_reducible refine (spec_giDo.calls _ _ x8_1 t1201 t1202 t1203 t1222 _ ?side1 ?side2 A39.out).mono ?_); (case side1 => repeat (first | exact (Kd.R_reads' HO_8.out).2.2 | (with_reducible refine zal ?_ _) | (with_reducible refine zam ?_ _) | (with_reducible refine zan ?_))); (case side2 => exact (Kd.R_reads' HO_8.out).2.1); rintro e w48 ⟨v1223, rfl, ho0, hb⟩; refine ⟨_, rfl, ?_⟩; have n0_ := zad (Kd.R_elder' (by (with_reducible repeat (first | apply zai | apply zaj | apply zak)); exact HO_7.out) (Kd.R_base ho0) hb); have n1_ := zad (Kd.R_elder' (by (with_reducible repeat (first | apply zai | apply zaj | apply zak)); exact HO_8.out) (Kd.R_base ho0) hb); have n2_ := zad (Kd.R_below (by (with_reducible repeat (first | apply zai | apply zaj | apply zak)); exact HO1221.out) hb); have n3_ := zad (Kd.R_lower (Kd.R_new' (Kd.R_new' ho0 (Kd.R_lt (by (with_reducible repeat (first | apply zai | apply zaj | apply zak)); exact HO_7.out))) (Kd.R_lt (by (with_reducible repeat (first | apply zai | apply zaj | apply zak)); exact HO_8.out))) (below_size (by repeat (first | (with_reducible first | exact HB.out | apply zag | apply zae | apply zaf | refine zah ?_ GE1204.out) | exact HB.out)))); have n4_ := zad (blk_below (g := gb1204) (o := .cells #[.int .i64 t1201, .int .i64 t1202, .int .i64 t1203] 39 (0, 0)) (by (with_reducible repeat (first | refine blk_drewN ?_ _ | refine blk_drew ?_ | refine blk_alloc ?_ _)); exact BK1204.out) hb); have n5_ := zad (below_step (by repeat (first | (with_reducible first | exact HB.out | apply zag | apply zae | apply zaf | refine zah ?_ GE1204.out) | exact HB.out)) hb); clear HO_7; clear HO_8; clear HO1221; clear BK1204; clear HB; have HO_7 := n0_; have HO_8 := n1_; have HO1221 := n2_; have HO1224 := n3_; have BK1204 := n4_; have HB := n5_; clear n0_ n1_ n2_ n3_ n4_ n5_; (try clear hb); (try clear hb2); (try clear hk); (try clear hi); (try clear ho0); obtain ⟨Ao49, co49, eo49⟩ := Kd.R_slice HO1224.out; subst eo49) | ((with_reducible refine gate_callee (f := 108) rfl ?_); refine goesL_ (some 54) rfl rfl Try.func108 (by kernel_rfl) rfl #[.slice Ao49 t1222.length co49] rfl (by (try simp only [zat, zau, zav]); first | done | rfl | (simp only [zaw, zax]; rfl)) ?_; (with_reducible refine (spec_liRank.calls k1 _ _ t1222 t1225 _ ?side1 ?side2 A40.out).mono ?_); (case side1 => repeat (first | exact (Kd.R_reads' HO1224.out).2.2 | (with_reducible refine zal ?_ _) | (with_reducible refine zam ?_ _) | (with_reducible refine zan ?_))); (case side2 => exact (Kd.R_reads' HO1224.out).2.1); rintro e w50 ⟨v1226, rfl, ho0, hb⟩; refine ⟨_, rfl, ?_⟩; have n0_ := zad (Kd.R_elder' (by (with_reducible repeat (first | apply zai | apply zaj | apply zak)); exact HO_7.out) (Kd.R_base ho0) hb); have n1_ := zad (Kd.R_elder' (by (with_reducible repeat (first | apply zai | apply zaj | apply zak)); exact HO_8.out) (Kd.R_base ho0) hb); have n2_ := zad (Kd.R_below (by (with_reducible repeat (first | apply zai | apply zaj | apply zak)); exact HO1221.out) hb); have n3_ := zad (Kd.R_elder' (by (with_reducible repeat (first | apply zai | apply zaj | apply zak)); exact HO1224.out) (Kd.R_base ho0) hb); have n4_ := zad (Kd.R_lower (Kd.R_new' (Kd.R_new' (Kd.R_new' ho0 (Kd.R_lt (by (with_reducible repeat (first | apply zai | apply zaj | apply zak)); exact HO_7.out))) (Kd.R_lt (by (with_reducible repeat (first | apply zai | apply zaj | apply zak)); exact HO_8.out))) (Kd.R_lt (by (with_reducible repeat (first | apply zai | apply zaj | apply zak)); exact HO1224.out))) (below_size (by repeat (first | (with_reducible first | exact HB.out | apply zag | apply zae | apply zaf | refine zah ?_ GE1204.out) | exact HB.out)))); have n5_ := zad (blk_below (g := gb1204) (o := .cells #[.int .i64 t1201, .int .i64 t1202, .int .i64 t1203] 39 (0, 0)) (by (with_reducible repeat (first | refine blk_drewN ?_ _ | refine blk_drew ?_ | refine blk_alloc ?_ _)); exact BK1204.out) hb); have n6_ := zad (below_step (by repeat (first | (with_reducible first | exact HB.out | apply zag | apply zae | apply zaf | refine zah ?_ GE1204.out) | exact HB.out)) hb); clear HO_7; clear HO_8; clear HO1221; clear HO1224; clear BK1204; clear HB; have HO_7 := n0_; have HO_8 := n1_; have HO1221 := n2_; have HO1224 := n3_; have HO1227 := n4_; have BK1204 := n5_; have HB := n6_; clear n0_ n1_ n2_ n3_ n4_ n5_ n6_; (try clear hb); (try clear hb2); (try clear hk); (try clear hi); (try clear ho0)))
         go_roundg k1
         case measure => have := HK1.out; omega
         case rel => exact ⟨(t1225), (y1219), H', ⟨by have := HK1.out; omega⟩, ⟨by (with_reducible repeat (first | apply zai | apply zaj | apply zak)); exact Kd.R_mono HO_7.out (fun _ hk => hk.2)⟩, ⟨by (with_reducible repeat (first | apply zai | apply zaj | apply zak)); exact Kd.R_mono HO1227.out (fun _ hk => hk.1.1.2)⟩, ⟨by (with_reducible repeat (first | apply zai | apply zaj | apply zak)); exact Kd.R_mono HO1221.out (fun _ hk => trivial)⟩, ⟨by repeat (first | (with_reducible first | exact HB.out | apply zag | apply zae | apply zaf | refine zah ?_ GE1204.out) | exact HB.out)⟩⟩
       · rw [if_neg c38] at H
         exact absurd H (by simp)
def spec_BigGifts.f (k : Nat) (l0 : List Int) (l1 : List Int) : Option ((List (S39)) × Bool) := (spec_giLists.f k l0 l1).bind fun t1228 => (if t1228 = true then ((spec_giPath.f k l0 l1 true).bind fun t1229 => (some (t1229, true))) else (some (([] : List (S39)), false)))
set_option maxHeartbeats 8000000 in
set_option maxRecDepth 100000 in
theorem spec_BigGifts.calls (k : Nat) (A0 : Option Addr) (c0 : Nat) (l0 : List Int) (A1 : Option Addr) (c1 : Nat) (l1 : List Int) (r1 : List (S39)) (r2 : Bool) (w : World) (hr0 : Kd.C (Kd.int .i64) w A0 l0.length l0) (hc0 : l0.length ≤ c0) (hr1 : Kd.C (Kd.int .i64) w A1 l1.length l1) (hc1 : l1.length ≤ c1) (h : spec_BigGifts.f k l0 l1 = some (r1, r2)) :
 Calls Try.prog 60 #[.slice A0 l0.length c0, .slice A1 l1.length c1] w fun e w' => ∃ v0_ : Value, e = .returned (.tuple #[v0_, .bool r2]) ∧ Kd.R k39 39 w' w.heap.size (fun _ => True) v0_ r1 ∧ Below w.heap.size w w' := by
 have HR0 := zad hr0
 have HC0 := zad hc0
 clear hr0 hc0
 have HR1 := zad hr1
 have HC1 := zad hc1
 clear hr1 hc1
 have HB := zad (Below.refl w.heap.size w)
 have H : ((spec_giLists.f k l0 l1).bind fun t1228 => (if t1228 = true then ((spec_giPath.f k l0 l1 true).bind fun t1229 => (some (t1229, true))) else (some (([] : List (S39)), false)))) = some (r1, r2) := h
 clear h
 replace H := Option.bind_eq_some_iff.mp H
 obtain ⟨t1228, A30, H⟩ := H
 replace H : (if t1228 = true then ((spec_giPath.f k l0 l1 true).bind fun t1229 => (some (t1229, true))) else (some (([] : List (S39)), false))) = some (r1, r2) := H
 have A3 := zad A30
 clear A30
 by_cases c4 : t1228 = true
 · subst c4
   have H1 : ((spec_giPath.f k l0 l1 true).bind fun t1229 => (some (t1229, true))) = some (r1, r2) := by rw [if_pos rfl] at H; exact H
   clear H
   have H := H1
   clear H1
   replace H := Option.bind_eq_some_iff.mp H
   obtain ⟨t1229, A50, H⟩ := H
   replace H : (some (t1229, true)) = some (r1, r2) := H
   have A5 := zad A50
   clear A50
   simp only [Option.some.injEq, Prod.mk.injEq] at H
   obtain ⟨rfl, rfl⟩ := H
   go_enter Try.func60, Try.ntmps60
   go_wp2_with (first | ((with_reducible refine gate_callee (f := 130) rfl ?_); refine goesL_ (some 8) rfl rfl Try.func130 (by kernel_rfl) rfl #[.slice A0 l0.length c0, .slice A1 l1.length c1] rfl (by (try simp only [zat, zau, zav]); first | done | rfl | (simp only [zaw, zax]; rfl)) ?_; (with_reducible refine (spec_giLists.calls k _ _ l0 _ _ l1 true _ ?side1 ?side2 ?side3 ?side4 A3.out).mono ?_); (case side1 => repeat (first | exact HR0.out | (with_reducible refine zal ?_ _) | (with_reducible refine zam ?_ _) | (with_reducible refine zan ?_))); (case side2 => exact HC0.out); (case side3 => repeat (first | exact HR1.out | (with_reducible refine zal ?_ _) | (with_reducible refine zam ?_ _) | (with_reducible refine zan ?_))); (case side4 => exact HC1.out); rintro e w6 ⟨rfl, hb⟩; refine ⟨_, rfl, ?_⟩; have n0_ := zad (below_step (by repeat (first | (with_reducible first | exact HB.out | apply zag | apply zae | apply zaf) | exact HB.out)) hb); clear HB; have HB := n0_; clear n0_; (try clear hb); (try clear hb2); (try clear hk); (try clear hi)) | ((with_reducible refine gate_callee (f := 131) rfl ?_); refine goesL_ (some 12) rfl rfl Try.func131 (by kernel_rfl) rfl #[.slice A0 l0.length c0, .slice A1 l1.length c1, .bool true] rfl (by (try simp only [zat, zau, zav]); first | done | rfl | (simp only [zaw, zax]; rfl)) ?_; (with_reducible refine (spec_giPath.calls k _ _ l0 _ _ l1 true t1229 _ ?side1 ?side2 ?side3 ?side4 A5.out).mono ?_); (case side1 => repeat (first | exact (Kd.C_below HR0.out HB.out) | (with_reducible refine zal ?_ _) | (with_reducible refine zam ?_ _) | (with_reducible refine zan ?_))); (case side2 => exact HC0.out); (case side3 => repeat (first | exact (Kd.C_below HR1.out HB.out) | (with_reducible refine zal ?_ _) | (with_reducible refine zam ?_ _) | (with_reducible refine zan ?_))); (case side4 => exact HC1.out); rintro e w7 ⟨v1230, rfl, ho0, hb⟩; refine ⟨_, rfl, ?_⟩; have n0_ := zad (Kd.R_lower ho0 (below_size (by repeat (first | (with_reducible first | exact HB.out | apply zag | apply zae | apply zaf) | exact HB.out)))); have n1_ := zad (below_step (by repeat (first | (with_reducible first | exact HB.out | apply zag | apply zae | apply zaf) | exact HB.out)) hb); clear HB; have HO1231 := n0_; have HB := n1_; clear n0_ n1_; (try clear hb); (try clear hb2); (try clear hk); (try clear hi); (try clear ho0)))
   go_ret2
   exact ⟨_, by first | rfl | (simp [errW_none, errW_some] <;> rfl) | (simp [*, errW_none, errW_some] <;> rfl), by (with_reducible repeat (first | apply zai | apply zaj | apply zak)); exact HO1231.out, by repeat (first | (with_reducible first | exact HB.out | apply zag | apply zae | apply zaf) | exact HB.out)⟩
 · replace c4 := Bool.eq_false_iff.mpr c4
   subst c4
   have H1 : (some (([] : List (S39)), false)) = some (r1, r2) := by rw [if_neg (show ¬ (false = true) by decide)] at H; exact H
   clear H
   have H := H1
   clear H1
   simp only [Option.some.injEq, Prod.mk.injEq] at H
   obtain ⟨rfl, rfl⟩ := H
   go_enter Try.func60, Try.ntmps60
   go_wp2_with (first | ((with_reducible refine gate_callee (f := 130) rfl ?_); refine goesL_ (some 8) rfl rfl Try.func130 (by kernel_rfl) rfl #[.slice A0 l0.length c0, .slice A1 l1.length c1] rfl (by (try simp only [zat, zau, zav]); first | done | rfl | (simp only [zaw, zax]; rfl)) ?_; (with_reducible refine (spec_giLists.calls k _ _ l0 _ _ l1 false _ ?side1 ?side2 ?side3 ?side4 A3.out).mono ?_); (case side1 => repeat (first | exact HR0.out | (with_reducible refine zal ?_ _) | (with_reducible refine zam ?_ _) | (with_reducible refine zan ?_))); (case side2 => exact HC0.out); (case side3 => repeat (first | exact HR1.out | (with_reducible refine zal ?_ _) | (with_reducible refine zam ?_ _) | (with_reducible refine zan ?_))); (case side4 => exact HC1.out); rintro e w8 ⟨rfl, hb⟩; refine ⟨_, rfl, ?_⟩; have n0_ := zad (below_step (by repeat (first | (with_reducible first | exact HB.out | apply zag | apply zae | apply zaf) | exact HB.out)) hb); clear HB; have HB := n0_; clear n0_; (try clear hb); (try clear hb2); (try clear hk); (try clear hi)))
   go_ret2
   exact ⟨_, by first | rfl | (simp [errW_none, errW_some] <;> rfl) | (simp [*, errW_none, errW_some] <;> rfl), by first | exact Kd.R_nil _ _ _ _ _ | exact Kd.N_nil _ _ _ _ _ | exact Kd.V_nil _ _ _ _ _ | exact Kd.Q_nil _ _ _ _ _ | exact Kd.S_nil _ _ _ _ _, by repeat (first | (with_reducible first | exact HB.out | apply zag | apply zae | apply zaf) | exact HB.out)⟩
theorem eqA39 (d : Nat) (w : World) (x0 y0 : Int) (x1 y1 : Int) (x2 y2 : Int) :
 (Op.equalIn (d + 2) 39 (.agg #[.int .i64 x0, .int .i64 x1, .int .i64 x2]) (.agg #[.int .i64 y0, .int .i64 y1, .int .i64 y2])).run Try.prog w = .ok (x0 == y0 && (x1 == y1 && (x2 == y2))) w := by
 refine eqA_of Try.underlying39 (by kernel_rfl) ?_
 refine eqf_cons (by rfl) (by go_simp; rfl) (by go_simp; rfl) (by go_simp) ?_
 refine eqf_cons (by rfl) (by go_simp; rfl) (by go_simp; rfl) (by go_simp) ?_
 exact eqf_last (by rfl) (by go_simp; rfl) (by go_simp; rfl) (by go_simp)
section
attribute [local go_sem high] eqA39
def laws_pGifts.l0 : Nat → List (S39) → List (S39) → Int → Int → Option (Bool)
 | 0, _, _, _, _ => none
 | k + 1, x0, x1, x12, x13 => if x13 < x12 then (if 0 ≤ x13 then (if x13 < (x0.length : Int) then (if x13 < (x1.length : Int) then (if (!(((rd_T39 x0 x13).f0) == ((rd_T39 x1 x13).f0)) || (!(((rd_T39 x0 x13).f1) == ((rd_T39 x1 x13).f1)) || (!(((rd_T39 x0 x13).f2) == ((rd_T39 x1 x13).f2))))) = true then (some false) else (laws_pGifts.l0 k x0 x1 x12 (wrap64 (x13 + 1)))) else (none)) else (none)) else (none)) else (some true)
def laws_pGifts.f (k : Nat) (l0 : List (S39)) (l1 : List (S39)) : Option (Bool) := if (l0.length : Int) = (l1.length : Int) then (laws_pGifts.l0 k l0 l1 (l0.length : Int) 0) else (some false)
set_option maxHeartbeats 8000000 in
set_option maxRecDepth 100000 in
theorem laws_pGifts.calls (k : Nat) (A0 : Option Addr) (c0 : Nat) (l0 : List (S39)) (A1 : Option Addr) (c1 : Nat) (l1 : List (S39)) (r : Bool) (w : World) (hr0 : Kd.C k39 w A0 l0.length l0) (hc0 : l0.length ≤ c0) (hr1 : Kd.C k39 w A1 l1.length l1) (hc1 : l1.length ≤ c1) (h : laws_pGifts.f k l0 l1 = some r) :
 Calls Try.prog 61 #[.slice A0 l0.length c0, .slice A1 l1.length c1] w fun e w' => e = .returned (.bool r) ∧ Drawn0 w w' := by
 have hu39 := Try.underlying39
 have HR0 := zad hr0
 have HC0 := zad hc0
 clear hr0 hc0
 have HR1 := zad hr1
 have HC1 := zad hc1
 clear hr1 hc1
 have H : (if (l0.length : Int) = (l1.length : Int) then (laws_pGifts.l0 k l0 l1 (l0.length : Int) 0) else (some false)) = some r := h
 clear h
 by_cases c3 : (l0.length : Int) = (l1.length : Int)
 · rw [if_pos c3] at H
   have c3b0 : ((l0.length : Int) == (l1.length : Int)) = true := beq_iff_eq.mpr c3
   have c3b1 : ((l0.length : Int) != (l1.length : Int)) = false := bne_eq_false_iff_eq.mpr c3
   have c3b2 : (l0.length == l1.length) = true := by first | simpa using c3 | (simp at c3 ⊢; omega)
   clear c3
   have H' := zad H
   clear H
   go_enter Try.func61, Try.ntmps61
   go_wp2
   repeat (go_quiet (fail); try go_wp2)
   go_loopg [13] k (fun kq v13 w' => ∃ (x13_1 : Int), v13 = .int .i64 x13_1 ∧ Aside0 (laws_pGifts.l0 kq l0 l1 (l0.length : Int) x13_1 = some r) ∧ Aside0 (kq ≤ k) ∧ Drawn0 w w')
   case atStart => exact ⟨(0), (by first | rfl | (simp; done) | (simp [*]; done)), H', ⟨Nat.le_refl _⟩, by repeat (first | exact Drawn0.refl _ | apply Drawn0.step)⟩
   case round =>
    clear H'
    try clear c1
    try clear p2
    try clear c3
    try clear c3b0
    try clear c3b1
    try clear c3b2
    obtain ⟨x13_1, rfl, HA, HK1, ⟨m1, rfl⟩⟩ := hrel
    cases gk with
    | zero => exact absurd HA.out (by simp [laws_pGifts.l0])
    | succ k1 =>
     have H := HA.out
     clear HA
     simp only [laws_pGifts.l0] at H
     by_cases c4 : x13_1 < (l0.length : Int)
     · rw [if_pos c4] at H
       have c4b0 : decide (x13_1 < (l0.length : Int)) = true := zaz c4
       clear c4
       by_cases c5 : 0 ≤ x13_1
       · rw [if_pos c5] at H
         have c5b0 : decide (0 ≤ x13_1) = true := zaz c5
         clear c5
         by_cases c6 : x13_1 < (l0.length : Int)
         · rw [if_pos c6] at H
           have c6b0 : decide (x13_1 < (l0.length : Int)) = true := zaz c6
           clear c6
           by_cases c7 : x13_1 < (l1.length : Int)
           · rw [if_pos c7] at H
             have c7b0 : decide (x13_1 < (l1.length : Int)) = true := zaz c7
             clear c7
             by_cases c8 : (!(((rd_T39 l0 x13_1).f0) == ((rd_T39 l1 x13_1).f0)) || (!(((rd_T39 l0 x13_1).f1) == ((rd_T39 l1 x13_1).f1)) || (!(((rd_T39 l0 x13_1).f2) == ((rd_T39 l1 x13_1).f2))))) = true
             · rw [if_pos c8] at H
               have c8b0 : (!(((rd_T39 l0 x13_1).f0) == ((rd_T39 l1 x13_1).f0)) || (!(((rd_T39 l0 x13_1).f1) == ((rd_T39 l1 x13_1).f1)) || (!(((rd_T39 l0 x13_1).f2) == ((rd_T39 l1 x13_1).f2))))) = true := c8
               clear c8
               obtain rfl := Option.some.inj H
               have p1232 : 0 ≤ (x13_1 : Int) := zas (by first | (with_reducible assumption) | assumption)
               have q1232 : x13_1 < (l0.length : Int) := zas (by first | (with_reducible assumption) | assumption)
               obtain ⟨ad1232, e1232, hx1232_0, hx1232_1, hx1232_2⟩ := at_T39 HR0.out x13_1 p1232 q1232
               cases e1232
               replace p1232 := eq_true p1232
               replace q1232 := eq_true q1232
               have p1233 : 0 ≤ (x13_1 : Int) := zas (by first | (with_reducible assumption) | assumption)
               have q1233 : x13_1 < (l1.length : Int) := zas (by first | (with_reducible assumption) | assumption)
               obtain ⟨ad1233, e1233, hx1233_0, hx1233_1, hx1233_2⟩ := at_T39 HR1.out x13_1 p1233 q1233
               cases e1233
               replace p1233 := eq_true p1233
               replace q1233 := eq_true q1233
               go_wp2
               repeat (go_quiet (fail); try go_wp2)
               go_ret
               exact ⟨by first | rfl | (simp; done) | (simp [*]; done), by repeat (first | exact Drawn0.refl _ | apply Drawn0.step)⟩
             · rw [if_neg c8] at H
               have c8b0 : (!(((rd_T39 l0 x13_1).f0) == ((rd_T39 l1 x13_1).f0)) || (!(((rd_T39 l0 x13_1).f1) == ((rd_T39 l1 x13_1).f1)) || (!(((rd_T39 l0 x13_1).f2) == ((rd_T39 l1 x13_1).f2))))) = false := by simpa using c8
               clear c8
               have H' := zad H
               clear H
               have p1232 : 0 ≤ (x13_1 : Int) := zas (by first | (with_reducible assumption) | assumption)
               have q1232 : x13_1 < (l0.length : Int) := zas (by first | (with_reducible assumption) | assumption)
               obtain ⟨ad1232, e1232, hx1232_0, hx1232_1, hx1232_2⟩ := at_T39 HR0.out x13_1 p1232 q1232
               cases e1232
               replace p1232 := eq_true p1232
               replace q1232 := eq_true q1232
               have p1233 : 0 ≤ (x13_1 : Int) := zas (by first | (with_reducible assumption) | assumption)
               have q1233 : x13_1 < (l1.length : Int) := zas (by first | (with_reducible assumption) | assumption)
               obtain ⟨ad1233, e1233, hx1233_0, hx1233_1, hx1233_2⟩ := at_T39 HR1.out x13_1 p1233 q1233
               cases e1233
               replace p1233 := eq_true p1233
               replace q1233 := eq_true q1233
               go_wp2
               repeat (go_quiet (fail); try go_wp2)
               go_roundg k1
               case measure => have := HK1.out; omega
               case rel => exact ⟨(wrap64 (x13_1 + 1)), (by first | rfl | (simp; done) | (simp [*]; done)), H', ⟨by have := HK1.out; omega⟩, by repeat (first | exact Drawn0.refl _ | apply Drawn0.step)⟩
           · rw [if_neg c7] at H
             exact absurd H (by simp)
         · rw [if_neg c6] at H
           exact absurd H (by simp)
       · rw [if_neg c5] at H
         exact absurd H (by simp)
     · rw [if_neg c4] at H
       have c4b0 : decide (x13_1 < (l0.length : Int)) = false := decide_eq_false c4
       clear c4
       obtain rfl := Option.some.inj H
       go_wp2
       repeat (go_quiet (fail); try go_wp2)
       go_ret
       exact ⟨by first | rfl | (simp; done) | (simp [*]; done), by repeat (first | exact Drawn0.refl _ | apply Drawn0.step)⟩
 · rw [if_neg c3] at H
   have c3b0 : ((l0.length : Int) == (l1.length : Int)) = false := beq_eq_false_iff_ne.mpr c3
   have c3b1 : ((l0.length : Int) != (l1.length : Int)) = true := bne_iff_ne.mpr c3
   have c3b2 : (l0.length == l1.length) = false := by first | simpa using c3 | (simp at c3 ⊢; omega)
   obtain rfl := Option.some.inj H
   go_enter Try.func61, Try.ntmps61
   go_wp2
   repeat (go_quiet (fail); try go_wp2)
   go_ret
   exact ⟨by first | rfl | (simp; done) | (simp [*]; done), by repeat (first | exact Drawn0.refl _ | apply Drawn0.step)⟩
end
def impl_FewestUnits.l0 : Nat → Int → List Int → List Int → Int → Int → Option (Int × Bool)
 | 0, _, _, _, _, _ => none
 | k + 1, x6, x7, x8, x19, x20 => if x20 < x19 then (if 0 ≤ x20 then (if x20 < (x7.length : Int) then (if x20 < (x8.length : Int) then (impl_FewestUnits.l0 k (wrap64 (x6 + (mx 0 (wrap64 ((rd x7 x20) - (rd x8 x20)))))) x7 x8 x19 (wrap64 (x20 + 1))) else (none)) else (none)) else (none)) else (some (x6, true))
def impl_FewestUnits.f (k : Nat) (l0 : List Int) (l1 : List Int) : Option (Int × Bool) := (impl_isBetween.f k l0 l1).bind fun t1234 => (if t1234 = true then ((impl_ranking.f l1).bind fun t1235 => ((impl_ranking.f l0).bind fun t1238 => (impl_FewestUnits.l0 k 0 t1235 t1238 (t1235.length : Int) 0))) else (some (0, false)))
set_option maxHeartbeats 8000000 in
set_option maxRecDepth 100000 in
theorem impl_FewestUnits.calls (k : Nat) (A0 : Option Addr) (c0 : Nat) (l0 : List Int) (A1 : Option Addr) (c1 : Nat) (l1 : List Int) (r1 : Int) (r2 : Bool) (w : World) (hr0 : Kd.C (Kd.int .i64) w A0 l0.length l0) (hc0 : l0.length ≤ c0) (hr1 : Kd.C (Kd.int .i64) w A1 l1.length l1) (hc1 : l1.length ≤ c1) (h : impl_FewestUnits.f k l0 l1 = some (r1, r2)) :
 Calls Try.prog 62 #[.slice A0 l0.length c0, .slice A1 l1.length c1] w fun e w' => e = .returned (.tuple #[.int .i64 r1, .bool r2]) ∧ Below w.heap.size w w' := by
 have HR0 := zad hr0
 have HC0 := zad hc0
 clear hr0 hc0
 have HR1 := zad hr1
 have HC1 := zad hc1
 clear hr1 hc1
 have HB := zad (Below.refl w.heap.size w)
 have H : ((impl_isBetween.f k l0 l1).bind fun t1234 => (if t1234 = true then ((impl_ranking.f l1).bind fun t1235 => ((impl_ranking.f l0).bind fun t1238 => (impl_FewestUnits.l0 k 0 t1235 t1238 (t1235.length : Int) 0))) else (some (0, false)))) = some (r1, r2) := h
 clear h
 replace H := Option.bind_eq_some_iff.mp H
 obtain ⟨t1234, A30, H⟩ := H
 replace H : (if t1234 = true then ((impl_ranking.f l1).bind fun t1235 => ((impl_ranking.f l0).bind fun t1238 => (impl_FewestUnits.l0 k 0 t1235 t1238 (t1235.length : Int) 0))) else (some (0, false))) = some (r1, r2) := H
 have A3 := zad A30
 clear A30
 by_cases c4 : t1234 = true
 · subst c4
   have H1 : ((impl_ranking.f l1).bind fun t1235 => ((impl_ranking.f l0).bind fun t1238 => (impl_FewestUnits.l0 k 0 t1235 t1238 (t1235.length : Int) 0))) = some (r1, r2) := by rw [if_pos rfl] at H; exact H
   clear H
   have H := H1
   clear H1
   replace H := Option.bind_eq_some_iff.mp H
   obtain ⟨t1235, A50, H⟩ := H
   replace H : ((impl_ranking.f l0).bind fun t1238 => (impl_FewestUnits.l0 k 0 t1235 t1238 (t1235.length : Int) 0)) = some (r1, r2) := H
   have A5 := zad A50
   clear A50
   replace H := Option.bind_eq_some_iff.mp H
   obtain ⟨t1238, A60, H⟩ := H
   replace H : (impl_FewestUnits.l0 k 0 t1235 t1238 (t1235.length : Int) 0) = some (r1, r2) := H
   have A6 := zad A60
   clear A60
   have H' := zad H
   clear H
   go_enter Try.func62, Try.ntmps62
   go_wp2_with (first | (go_at_call 128; (with_reducible refine (impl_isBetween.calls k _ _ l0 _ _ l1 true _ ?side1 ?side2 ?side3 ?side4 A3.out).mono ?_); (case side1 => repeat (first | exact HR0.out | (with_reducible refine zal ?_ _) | (with_reducible refine zam ?_ _) | (with_reducible refine zan ?_))); (case side2 => exact HC0.out); (case side3 => repeat (first | exact HR1.out | (with_reducible refine zal ?_ _) | (with_reducible refine zam ?_ _) | (with_reducible refine zan ?_))); (case side4 => exact HC1.out); rintro e w7 ⟨rfl, hb⟩; have n0_ := zad (below_step (by repeat (first | (with_reducible first | exact HB.out | apply zag | apply zae | apply zaf) | exact HB.out)) hb); clear HB; have HB := n0_; clear n0_; (try clear hb); (try clear hb2); (try clear hk); (try clear hi)) | (go_at_call 88; (with_reducible refine (impl_ranking.calls _ _ l1 t1235 _ ?side1 ?side2 A5.out).mono ?_); (case side1 => repeat (first | exact (Kd.C_below HR1.out HB.out) | (with_reducible refine zal ?_ _) | (with_reducible refine zam ?_ _) | (with_reducible refine zan ?_))); (case side2 => exact HC1.out); rintro e w8 ⟨v1236, rfl, ho0, hb⟩; have n0_ := zad (Kd.R_lower ho0 (below_size (by repeat (first | (with_reducible first | exact HB.out | apply zag | apply zae | apply zaf) | exact HB.out)))); have n1_ := zad (below_step (by repeat (first | (with_reducible first | exact HB.out | apply zag | apply zae | apply zaf) | exact HB.out)) hb); clear HB; have HO1237 := n0_; have HB := n1_; clear n0_ n1_; (try clear hb); (try clear hb2); (try clear hk); (try clear hi); (try clear ho0)) | (go_at_call 88; (with_reducible refine (impl_ranking.calls _ _ l0 t1238 _ ?side1 ?side2 A6.out).mono ?_); (case side1 => repeat (first | exact (Kd.C_below HR0.out HB.out) | (with_reducible refine zal ?_ _) | (with_reducible refine zam ?_ _) | (with_reducible refine zan ?_))); (case side2 => exact HC0.out); rintro e w9 ⟨v1239, rfl, ho0, hb⟩; have n0_ := zad (Kd.R_elder' (by (with_reducible repeat (first | apply zai | apply zaj | apply zak)); exact HO1237.out) (Kd.R_base ho0) hb); have n1_ := zad (Kd.R_lower (Kd.R_new' ho0 (Kd.R_lt (by (with_reducible repeat (first | apply zai | apply zaj | apply zak)); exact HO1237.out))) (below_size (by repeat (first | (with_reducible first | exact HB.out | apply zag | apply zae | apply zaf) | exact HB.out)))); have n2_ := zad (below_step (by repeat (first | (with_reducible first | exact HB.out | apply zag | apply zae | apply zaf) | exact HB.out)) hb); clear HO1237; clear HB; have HO1237 := n0_; have HO1240 := n1_; have HB := n2_; clear n0_ n1_ n2_; (try clear hb); (try clear hb2); (try clear hk); (try clear hi); (try clear ho0); obtain ⟨Ao10, co10, eo10⟩ := Kd.R_slice HO1237.out; subst eo10))
   repeat (go_quiet (first | (go_at_call 128; (with_reducible refine (impl_isBetween.calls k _ _ l0 _ _ l1 true _ ?side1 ?side2 ?side3 ?side4 A3.out).mono ?_); (case side1 => repeat (first | exact HR0.out | (with_reducible refine zal ?_ _) | (with_reducible refine zam ?_ _) | (with_reducible refine zan ?_))); (case side2 => exact HC0.out); (case side3 => repeat (first | exact HR1.out | (with_reducible refine zal ?_ _) | (with_reducible refine zam ?_ _) | (with_reducible refine zan ?_))); (case side4 => exact HC1.out); rintro e w7 ⟨rfl, hb⟩; have n0_ := zad (below_step (by repeat (first | (with_reducible first | exact HB.out | apply zag | apply zae | apply zaf) | exact HB.out)) hb); clear HB; have HB := n0_; clear n0_; (try clear hb); (try clear hb2); (try clear hk); (try clear hi)) | (go_at_call 88; (with_reducible refine (impl_ranking.calls _ _ l1 t1235 _ ?side1 ?side2 A5.out).mono ?_); (case side1 => repeat (first | exact (Kd.C_below HR1.out HB.out) | (with_reducible refine zal ?_ _) | (with_reducible refine zam ?_ _) | (with_reducible refine zan ?_))); (case side2 => exact HC1.out); rintro e w8 ⟨v1236, rfl, ho0, hb⟩; have n0_ := zad (Kd.R_lower ho0 (below_size (by repeat (first | (with_reducible first | exact HB.out | apply zag | apply zae | apply zaf) | exact HB.out)))); have n1_ := zad (below_step (by repeat (first | (with_reducible first | exact HB.out | apply zag | apply zae | apply zaf) | exact HB.out)) hb); clear HB; have HO1237 := n0_; have HB := n1_; clear n0_ n1_; (try clear hb); (try clear hb2); (try clear hk); (try clear hi); (try clear ho0)) | (go_at_call 88; (with_reducible refine (impl_ranking.calls _ _ l0 t1238 _ ?side1 ?side2 A6.out).mono ?_); (case side1 => repeat (first | exact (Kd.C_below HR0.out HB.out) | (with_reducible refine zal ?_ _) | (with_reducible refine zam ?_ _) | (with_reducible refine zan ?_))); (case side2 => exact HC0.out); rintro e w9 ⟨v1239, rfl, ho0, hb⟩; have n0_ := zad (Kd.R_elder' (by (with_reducible repeat (first | apply zai | apply zaj | apply zak)); exact HO1237.out) (Kd.R_base ho0) hb); have n1_ := zad (Kd.R_lower (Kd.R_new' ho0 (Kd.R_lt (by (with_reducible repeat (first | apply zai | apply zaj | apply zak)); exact HO1237.out))) (below_size (by repeat (first | (with_reducible first | exact HB.out | apply zag | apply zae | apply zaf) | exact HB.out)))); have n2_ := zad (below_step (by repeat (first | (with_reducible first | exact HB.out | apply zag | apply zae | apply zaf) | exact HB.out)) hb); clear HO1237; clear HB; have HO1237 := n0_; have HO1240 := n1_; have HB := n2_; clear n0_ n1_ n2_; (try clear hb); (try clear hb2); (try clear hk); (try clear hi); (try clear ho0); obtain ⟨Ao10, co10, eo10⟩ := Kd.R_slice HO1237.out; subst eo10)); try go_wp2_with (first | (go_at_call 128; (with_reducible refine (impl_isBetween.calls k _ _ l0 _ _ l1 true _ ?side1 ?side2 ?side3 ?side4 A3.out).mono ?_); (case side1 => repeat (first | exact HR0.out | (with_reducible refine zal ?_ _) | (with_reducible refine zam ?_ _) | (with_reducible refine zan ?_))); (case side2 => exact HC0.out); (case side3 => repeat (first | exact HR1.out | (with_reducible refine zal ?_ _) | (with_reducible refine zam ?_ _) | (with_reducible refine zan ?_))); (case side4 => exact HC1.out); rintro e w7 ⟨rfl, hb⟩; have n0_ := zad (below_step (by repeat (first | (with_reducible first | exact HB.out | apply zag | apply zae | apply zaf) | exact HB.out)) hb); clear HB; have HB := n0_; clear n0_; (try clear hb); (try clear hb2); (try clear hk); (try clear hi)) | (go_at_call 88; (with_reducible refine (impl_ranking.calls _ _ l1 t1235 _ ?side1 ?side2 A5.out).mono ?_); (case side1 => repeat (first | exact (Kd.C_below HR1.out HB.out) | (with_reducible refine zal ?_ _) | (with_reducible refine zam ?_ _) | (with_reducible refine zan ?_))); (case side2 => exact HC1.out); rintro e w8 ⟨v1236, rfl, ho0, hb⟩; have n0_ := zad (Kd.R_lower ho0 (below_size (by repeat (first | (with_reducible first | exact HB.out | apply zag | apply zae | apply zaf) | exact HB.out)))); have n1_ := zad (below_step (by repeat (first | (with_reducible first | exact HB.out | apply zag | apply zae | apply zaf) | exact HB.out)) hb); clear HB; have HO1237 := n0_; have HB := n1_; clear n0_ n1_; (try clear hb); (try clear hb2); (try clear hk); (try clear hi); (try clear ho0)) | (go_at_call 88; (with_reducible refine (impl_ranking.calls _ _ l0 t1238 _ ?side1 ?side2 A6.out).mono ?_); (case side1 => repeat (first | exact (Kd.C_below HR0.out HB.out) | (with_reducible refine zal ?_ _) | (with_reducible refine zam ?_ _) | (with_reducible refine zan ?_))); (case side2 => exact HC0.out); rintro e w9 ⟨v1239, rfl, ho0, hb⟩; have n0_ := zad (Kd.R_elder' (by (with_reducible repeat (first | apply zai | apply zaj | apply zak)); exact HO1237.out) (Kd.R_base ho0) hb); have n1_ := zad (Kd.R_lower (Kd.R_new' ho0 (Kd.R_lt (by (with_reducible repeat (first | apply zai | apply zaj | apply zak)); exact HO1237.out))) (below_size (by repeat (first | (with_reducible first | exact HB.out | apply zag | apply zae | apply zaf) | exact HB.out)))); have n2_ := zad (below_step (by repeat (first | (with_reducible first | exact HB.out | apply zag | apply zae | apply zaf) | exact HB.out)) hb); clear HO1237; clear HB; have HO1237 := n0_; have HO1240 := n1_; have HB := n2_; clear n0_ n1_ n2_; (try clear hb); (try clear hb2); (try clear hk); (try clear hi); (try clear ho0); obtain ⟨Ao10, co10, eo10⟩ := Kd.R_slice HO1237.out; subst eo10)))
   go_loopg [6, 20] k (fun kq v6 v20 w' => ∃ (x6_1 : Int) (x20_1 : Int), v6 = .int .i64 x6_1 ∧ v20 = .int .i64 x20_1 ∧ Aside0 (impl_FewestUnits.l0 kq x6_1 t1235 t1238 (t1235.length : Int) x20_1 = some (r1, r2)) ∧ Aside0 (kq ≤ k) ∧ Aside0 (Kd.R (Kd.int .i64) 3 w' w.heap.size (fun k_ => some k_ ≠ (v1239 : Value).ownBlock) (.slice Ao10 t1235.length co10) t1235) ∧ Aside0 (Kd.R (Kd.int .i64) 3 w' w.heap.size (fun k_ => some k_ ≠ ((.slice Ao10 t1235.length co10) : Value).ownBlock) v1239 t1238) ∧ Aside0 (Below w.heap.size w w'))
   case atStart => exact ⟨(0), (0), (by first | rfl | (simp; done) | (simp [*]; done)), (by first | rfl | (simp; done) | (simp [*]; done)), H', ⟨Nat.le_refl _⟩, ⟨by (with_reducible repeat (first | apply zai | apply zaj | apply zak)); exact Kd.R_mono HO1237.out (fun _ hk => hk.2)⟩, ⟨by (with_reducible repeat (first | apply zai | apply zaj | apply zak)); exact Kd.R_mono HO1240.out (fun _ hk => hk.2)⟩, ⟨by repeat (first | (with_reducible first | exact HB.out | apply zag | apply zae | apply zaf) | exact HB.out)⟩⟩
   case round =>
    clear H'
    try clear c1
    try clear p2
    try clear c4
    try clear c6
    obtain ⟨x6_1, x20_1, rfl, rfl, HA, HK1, HO_7, HO_8, HB⟩ := hrel
    cases gk with
    | zero => exact absurd HA.out (by simp [impl_FewestUnits.l0])
    | succ k1 =>
     have H := HA.out
     clear HA
     simp only [impl_FewestUnits.l0] at H
     by_cases c11 : x20_1 < (t1235.length : Int)
     · rw [if_pos c11] at H
       have c11b0 : decide (x20_1 < (t1235.length : Int)) = true := zaz c11
       clear c11
       by_cases c12 : 0 ≤ x20_1
       · rw [if_pos c12] at H
         have c12b0 : decide (0 ≤ x20_1) = true := zaz c12
         clear c12
         by_cases c13 : x20_1 < (t1235.length : Int)
         · rw [if_pos c13] at H
           have c13b0 : decide (x20_1 < (t1235.length : Int)) = true := zaz c13
           clear c13
           by_cases c14 : x20_1 < (t1238.length : Int)
           · rw [if_pos c14] at H
             have c14b0 : decide (x20_1 < (t1238.length : Int)) = true := zaz c14
             clear c14
             obtain ⟨ji15, hji15⟩ : ∃ j_ : Int, (mx 0 (wrap64 ((rd t1235 x20_1) - (rd t1238 x20_1)))) = j_ := ⟨_, rfl⟩
             replace H : (impl_FewestUnits.l0 k1 (wrap64 (x6_1 + (ji15))) t1235 t1238 (t1235.length : Int) (wrap64 (x20_1 + 1))) = some (r1, r2) := by first | (rw [hji15] at H; exact H) | (simp only [hji15] at H ⊢; exact H)
             have hji15_ : (if 0 < (wrap64 ((rd t1235 x20_1) - (rd t1238 x20_1))) then (wrap64 ((rd t1235 x20_1) - (rd t1238 x20_1))) else 0) = ji15 := hji15
             have H' := zad H
             clear H
             have p1241 : 0 ≤ (x20_1 : Int) := zas (by first | (with_reducible assumption) | assumption)
             have q1241 : x20_1 < (t1235.length : Int) := zas (by first | (with_reducible assumption) | assumption)
             obtain ⟨ad1241, e1241, hx1241_0⟩ := Kd.at_int (Kd.R_reads' HO_7.out).2.2 x20_1 p1241 q1241
             cases e1241
             replace p1241 := eq_true p1241
             replace q1241 := eq_true q1241
             obtain ⟨Ao16, co16, eo16⟩ := Kd.R_slice HO_8.out
             subst eo16
             have p1242 : 0 ≤ (x20_1 : Int) := zas (by first | (with_reducible assumption) | assumption)
             have q1242 : x20_1 < (t1238.length : Int) := zas (by first | (with_reducible assumption) | assumption)
             obtain ⟨ad1242, e1242, hx1242_0⟩ := Kd.at_int (Kd.R_reads' HO_8.out).2.2 x20_1 p1242 q1242
             cases e1242
             replace p1242 := eq_true p1242
             replace q1242 := eq_true q1242
             go_wp2
             repeat (go_quiet (fail); try go_wp2)
             go_roundg k1
             case measure => have := HK1.out; omega
             case rel => exact ⟨(wrap64 (x6_1 + (ji15))), (wrap64 (x20_1 + 1)), (by first | rfl | (simp; done) | (simp only [← hji15] <;> (first | rfl | simp)) | (simp [*]; done)), (by first | rfl | (simp; done) | (simp [*]; done)), H', ⟨by have := HK1.out; omega⟩, ⟨by (with_reducible repeat (first | apply zai | apply zaj | apply zak)); exact HO_7.out⟩, ⟨by (with_reducible repeat (first | apply zai | apply zaj | apply zak)); exact HO_8.out⟩, ⟨by repeat (first | (with_reducible first | exact HB.out | apply zag | apply zae | apply zaf) | exact HB.out)⟩⟩
           · rw [if_neg c14] at H
             exact absurd H (by simp)
         · rw [if_neg c13] at H
           exact absurd H (by simp)
       · rw [if_neg c12] at H
         exact absurd H (by simp)
     · rw [if_neg c11] at H
       have c11b0 : decide (x20_1 < (t1235.length : Int)) = false := decide_eq_false c11
       clear c11
       simp only [Option.some.injEq, Prod.mk.injEq] at H
       obtain ⟨rfl, rfl⟩ := H
       go_wp2
       repeat (go_quiet (fail); try go_wp2)
       go_ret2
       exact ⟨by first | rfl | (simp [errW_none, errW_some] <;> rfl) | (simp [*, errW_none, errW_some] <;> rfl), by repeat (first | (with_reducible first | exact HB.out | apply zag | apply zae | apply zaf) | exact HB.out)⟩
 · replace c4 := Bool.eq_false_iff.mpr c4
   subst c4
   have H1 : (some (0, false)) = some (r1, r2) := by rw [if_neg (show ¬ (false = true) by decide)] at H; exact H
   clear H
   have H := H1
   clear H1
   simp only [Option.some.injEq, Prod.mk.injEq] at H
   obtain ⟨rfl, rfl⟩ := H
   go_enter Try.func62, Try.ntmps62
   go_wp2_with (first | (go_at_call 128; (with_reducible refine (impl_isBetween.calls k _ _ l0 _ _ l1 false _ ?side1 ?side2 ?side3 ?side4 A3.out).mono ?_); (case side1 => repeat (first | exact HR0.out | (with_reducible refine zal ?_ _) | (with_reducible refine zam ?_ _) | (with_reducible refine zan ?_))); (case side2 => exact HC0.out); (case side3 => repeat (first | exact HR1.out | (with_reducible refine zal ?_ _) | (with_reducible refine zam ?_ _) | (with_reducible refine zan ?_))); (case side4 => exact HC1.out); rintro e w17 ⟨rfl, hb⟩; have n0_ := zad (below_step (by repeat (first | (with_reducible first | exact HB.out | apply zag | apply zae | apply zaf) | exact HB.out)) hb); clear HB; have HB := n0_; clear n0_; (try clear hb); (try clear hb2); (try clear hk); (try clear hi)))
   repeat (go_quiet (first | (go_at_call 128; (with_reducible refine (impl_isBetween.calls k _ _ l0 _ _ l1 false _ ?side1 ?side2 ?side3 ?side4 A3.out).mono ?_); (case side1 => repeat (first | exact HR0.out | (with_reducible refine zal ?_ _) | (with_reducible refine zam ?_ _) | (with_reducible refine zan ?_))); (case side2 => exact HC0.out); (case side3 => repeat (first | exact HR1.out | (with_reducible refine zal ?_ _) | (with_reducible refine zam ?_ _) | (with_reducible refine zan ?_))); (case side4 => exact HC1.out); rintro e w17 ⟨rfl, hb⟩; have n0_ := zad (below_step (by repeat (first | (with_reducible first | exact HB.out | apply zag | apply zae | apply zaf) | exact HB.out)) hb); clear HB; have HB := n0_; clear n0_; (try clear hb); (try clear hb2); (try clear hk); (try clear hi))); try go_wp2_with (first | (go_at_call 128; (with_reducible refine (impl_isBetween.calls k _ _ l0 _ _ l1 false _ ?side1 ?side2 ?side3 ?side4 A3.out).mono ?_); (case side1 => repeat (first | exact HR0.out | (with_reducible refine zal ?_ _) | (with_reducible refine zam ?_ _) | (with_reducible refine zan ?_))); (case side2 => exact HC0.out); (case side3 => repeat (first | exact HR1.out | (with_reducible refine zal ?_ _) | (with_reducible refine zam ?_ _) | (with_reducible refine zan ?_))); (case side4 => exact HC1.out); rintro e w17 ⟨rfl, hb⟩; have n0_ := zad (below_step (by repeat (first | (with_reducible first | exact HB.out | apply zag | apply zae | apply zaf) | exact HB.out)) hb); clear HB; have HB := n0_; clear n0_; (try clear hb); (try clear hb2); (try clear hk); (try clear hi))))
   go_ret2
   exact ⟨by first | rfl | (simp [errW_none, errW_some] <;> rfl) | (simp [*, errW_none, errW_some] <;> rfl), by repeat (first | (with_reducible first | exact HB.out | apply zag | apply zae | apply zaf) | exact HB.out)⟩
def impl_isGift.f (l0 : List Int) (a1_0 : Int) (a1_1 : Int) (a1_2 : Int) : Option (Bool) := (impl_within.f a1_0 0 (wrap64 ((l0.length : Int) - 1))).bind fun t471 => (if t471 = true then ((impl_within.f a1_1 0 (wrap64 ((l0.length : Int) - 1))).bind fun t472 => (if t472 = true then (if a1_0 = a1_1 then (some false) else (some (decide (a1_2 ≥ 1)))) else (some false))) else (some false))
set_option maxHeartbeats 8000000 in
set_option maxRecDepth 100000 in
theorem impl_isGift.calls (A0 : Option Addr) (c0 : Nat) (l0 : List Int) (a1_0 : Int) (a1_1 : Int) (a1_2 : Int) (r : Bool) (w : World) (hr0 : Kd.C (Kd.int .i64) w A0 l0.length l0) (hc0 : l0.length ≤ c0) (h : impl_isGift.f l0 a1_0 a1_1 a1_2 = some r) :
 Calls Try.prog 102 #[.slice A0 l0.length c0, .agg #[.int .i64 a1_0, .int .i64 a1_1, .int .i64 a1_2]] w fun e w' => e = .returned (.bool r) ∧ Below w.heap.size w w' := by
 have hu39 := Try.underlying39
 have HR0 := zad hr0
 have HC0 := zad hc0
 clear hr0 hc0
 have HB := zad (Below.refl w.heap.size w)
 have H : ((impl_within.f a1_0 0 (wrap64 ((l0.length : Int) - 1))).bind fun t471 => (if t471 = true then ((impl_within.f a1_1 0 (wrap64 ((l0.length : Int) - 1))).bind fun t472 => (if t472 = true then (if a1_0 = a1_1 then (some false) else (some (decide (a1_2 ≥ 1)))) else (some false))) else (some false))) = some r := h
 clear h
 replace H := Option.bind_eq_some_iff.mp H
 obtain ⟨t471, A30, H⟩ := H
 replace H : (if t471 = true then ((impl_within.f a1_1 0 (wrap64 ((l0.length : Int) - 1))).bind fun t472 => (if t472 = true then (if a1_0 = a1_1 then (some false) else (some (decide (a1_2 ≥ 1)))) else (some false))) else (some false)) = some r := H
 have A3 := zad A30
 clear A30
 by_cases c4 : t471 = true
 · subst c4
   have H1 : ((impl_within.f a1_1 0 (wrap64 ((l0.length : Int) - 1))).bind fun t472 => (if t472 = true then (if a1_0 = a1_1 then (some false) else (some (decide (a1_2 ≥ 1)))) else (some false))) = some r := by rw [if_pos rfl] at H; exact H
   clear H
   have H := H1
   clear H1
   replace H := Option.bind_eq_some_iff.mp H
   obtain ⟨t472, A50, H⟩ := H
   replace H : (if t472 = true then (if a1_0 = a1_1 then (some false) else (some (decide (a1_2 ≥ 1)))) else (some false)) = some r := H
   have A5 := zad A50
   clear A50
   by_cases c6 : t472 = true
   · subst c6
     have H1 : (if a1_0 = a1_1 then (some false) else (some (decide (a1_2 ≥ 1)))) = some r := by rw [if_pos rfl] at H; exact H
     clear H
     have H := H1
     clear H1
     by_cases c7 : a1_0 = a1_1
     · rw [if_pos c7] at H
       have c7b0 : (a1_0 == a1_1) = true := beq_iff_eq.mpr c7
       have c7b1 : (a1_0 != a1_1) = false := bne_eq_false_iff_eq.mpr c7
       clear c7
       obtain rfl := Option.some.inj H
       go_enter Try.func102, Try.ntmps102
       go_wp2_with (first | ((with_reducible refine gate_dst (N := 3) rfl ?_); (try (refine gate_guard (by rfl) ?_; dsimp only)); refine box_event ?hg (N := 3) ?hd (cs := #[.int .i64 a1_0, .int .i64 a1_1, .int .i64 a1_2]) (t := 39) ?hr ?_; (case hd => rfl); (case hg => rfl); (case hr => first | (go_simp; done) | (go_simp; rfl)); intro gb470 hg w8 hbox hb; have n0_ := zad (below_step (by repeat (first | (with_reducible first | exact HB.out | apply zag | apply zae | apply zaf) | exact HB.out)) hb); have n1_ := zad (hbox); have n2_ := zad ((by rw [hg]; exact (below_size (by repeat (first | (with_reducible first | exact HB.out | apply zag | apply zae | apply zaf) | exact HB.out))) : w.heap.size ≤ gb470)); have n3_ := zad ((by rw [hg]; exact (below_size (by repeat (first | (with_reducible first | exact HB.out | apply zag | apply zae | apply zaf) | exact HB.out))) : w.heap.size ≤ gb470)); clear HB; have HB := n0_; have BK470 := n1_; have GW470 := n2_; have GE470 := n3_; clear n0_ n1_ n2_ n3_; clear hb hbox hg; have hcz9_0 : w8.cell? ⟨gb470, 0, none⟩ = some (.int .i64 a1_0) := (blk_cell BK470.out 0).trans rfl; have hcz9_1 : w8.cell? ⟨gb470, 1, none⟩ = some (.int .i64 a1_1) := (blk_cell BK470.out 1).trans rfl; have hcz9_2 : w8.cell? ⟨gb470, 2, none⟩ = some (.int .i64 a1_2) := (blk_cell BK470.out 2).trans rfl; have hfz9_0 := blk_frozen BK470.out 0; have hfz9_1 := blk_frozen BK470.out 1; have hfz9_2 := blk_frozen BK470.out 2) | ((with_reducible refine gate_callee (f := 83) rfl ?_); refine goesL_ (some 10) rfl rfl Try.func83 (by kernel_rfl) rfl #[.int .i64 a1_0, .int .i64 0, .int .i64 (wrap64 ((l0.length : Int) - 1))] rfl (by (try simp only [zat, zau, zav]); first | done | rfl | (simp only [zaw, zax]; rfl)) ?_; (with_reducible refine (impl_within.calls a1_0 0 (wrap64 ((l0.length : Int) - 1)) true _ A3.out).mono ?_); rintro e w' ⟨rfl, ⟨nd, rfl⟩⟩; refine ⟨_, rfl, ?_⟩) | (go_at_call 83; (with_reducible refine (impl_within.calls a1_1 0 (wrap64 ((l0.length : Int) - 1)) true _ A5.out).mono ?_); rintro e w' ⟨rfl, ⟨nd, rfl⟩⟩))
       go_ret
       exact ⟨by first | rfl | (simp [errW_none, errW_some] <;> rfl) | (simp [*, errW_none, errW_some] <;> rfl), by repeat (first | (with_reducible first | exact HB.out | apply zag | apply zae | apply zaf | refine zah ?_ GE470.out) | exact HB.out)⟩
     · rw [if_neg c7] at H
       have c7b0 : (a1_0 == a1_1) = false := beq_eq_false_iff_ne.mpr c7
       have c7b1 : (a1_0 != a1_1) = true := bne_iff_ne.mpr c7
       obtain rfl := Option.some.inj H
       go_enter Try.func102, Try.ntmps102
       go_wp2_with (first | ((with_reducible refine gate_dst (N := 3) rfl ?_); (try (refine gate_guard (by rfl) ?_; dsimp only)); refine box_event ?hg (N := 3) ?hd (cs := #[.int .i64 a1_0, .int .i64 a1_1, .int .i64 a1_2]) (t := 39) ?hr ?_; (case hd => rfl); (case hg => rfl); (case hr => first | (go_simp; done) | (go_simp; rfl)); intro gb470 hg w10 hbox hb; have n0_ := zad (below_step (by repeat (first | (with_reducible first | exact HB.out | apply zag | apply zae | apply zaf) | exact HB.out)) hb); have n1_ := zad (hbox); have n2_ := zad ((by rw [hg]; exact (below_size (by repeat (first | (with_reducible first | exact HB.out | apply zag | apply zae | apply zaf) | exact HB.out))) : w.heap.size ≤ gb470)); have n3_ := zad ((by rw [hg]; exact (below_size (by repeat (first | (with_reducible first | exact HB.out | apply zag | apply zae | apply zaf) | exact HB.out))) : w.heap.size ≤ gb470)); clear HB; have HB := n0_; have BK470 := n1_; have GW470 := n2_; have GE470 := n3_; clear n0_ n1_ n2_ n3_; clear hb hbox hg; have hcz11_0 : w10.cell? ⟨gb470, 0, none⟩ = some (.int .i64 a1_0) := (blk_cell BK470.out 0).trans rfl; have hcz11_1 : w10.cell? ⟨gb470, 1, none⟩ = some (.int .i64 a1_1) := (blk_cell BK470.out 1).trans rfl; have hcz11_2 : w10.cell? ⟨gb470, 2, none⟩ = some (.int .i64 a1_2) := (blk_cell BK470.out 2).trans rfl; have hfz11_0 := blk_frozen BK470.out 0; have hfz11_1 := blk_frozen BK470.out 1; have hfz11_2 := blk_frozen BK470.out 2) | ((with_reducible refine gate_callee (f := 83) rfl ?_); refine goesL_ (some 10) rfl rfl Try.func83 (by kernel_rfl) rfl #[.int .i64 a1_0, .int .i64 0, .int .i64 (wrap64 ((l0.length : Int) - 1))] rfl (by (try simp only [zat, zau, zav]); first | done | rfl | (simp only [zaw, zax]; rfl)) ?_; (with_reducible refine (impl_within.calls a1_0 0 (wrap64 ((l0.length : Int) - 1)) true _ A3.out).mono ?_); rintro e w' ⟨rfl, ⟨nd, rfl⟩⟩; refine ⟨_, rfl, ?_⟩) | (go_at_call 83; (with_reducible refine (impl_within.calls a1_1 0 (wrap64 ((l0.length : Int) - 1)) true _ A5.out).mono ?_); rintro e w' ⟨rfl, ⟨nd, rfl⟩⟩))
       go_ret
       exact ⟨by first | rfl | (simp [errW_none, errW_some] <;> rfl) | (simp [*, errW_none, errW_some] <;> rfl), by repeat (first | (with_reducible first | exact HB.out | apply zag | apply zae | apply zaf | refine zah ?_ GE470.out) | exact HB.out)⟩
   · replace c6 := Bool.eq_false_iff.mpr c6
     subst c6
     have H1 : (some false) = some r := by rw [if_neg (show ¬ (false = true) by decide)] at H; exact H
     clear H
     have H := H1
     clear H1
     obtain rfl := Option.some.inj H
     go_enter Try.func102, Try.ntmps102
     go_wp2_with (first | ((with_reducible refine gate_dst (N := 3) rfl ?_); (try (refine gate_guard (by rfl) ?_; dsimp only)); refine box_event ?hg (N := 3) ?hd (cs := #[.int .i64 a1_0, .int .i64 a1_1, .int .i64 a1_2]) (t := 39) ?hr ?_; (case hd => rfl); (case hg => rfl); (case hr => first | (go_simp; done) | (go_simp; rfl)); intro gb470 hg w12 hbox hb; have n0_ := zad (below_step (by repeat (first | (with_reducible first | exact HB.out | apply zag | apply zae | apply zaf) | exact HB.out)) hb); have n1_ := zad (hbox); have n2_ := zad ((by rw [hg]; exact (below_size (by repeat (first | (with_reducible first | exact HB.out | apply zag | apply zae | apply zaf) | exact HB.out))) : w.heap.size ≤ gb470)); have n3_ := zad ((by rw [hg]; exact (below_size (by repeat (first | (with_reducible first | exact HB.out | apply zag | apply zae | apply zaf) | exact HB.out))) : w.heap.size ≤ gb470)); clear HB; have HB := n0_; have BK470 := n1_; have GW470 := n2_; have GE470 := n3_; clear n0_ n1_ n2_ n3_; clear hb hbox hg; have hcz13_0 : w12.cell? ⟨gb470, 0, none⟩ = some (.int .i64 a1_0) := (blk_cell BK470.out 0).trans rfl; have hcz13_1 : w12.cell? ⟨gb470, 1, none⟩ = some (.int .i64 a1_1) := (blk_cell BK470.out 1).trans rfl; have hcz13_2 : w12.cell? ⟨gb470, 2, none⟩ = some (.int .i64 a1_2) := (blk_cell BK470.out 2).trans rfl; have hfz13_0 := blk_frozen BK470.out 0; have hfz13_1 := blk_frozen BK470.out 1; have hfz13_2 := blk_frozen BK470.out 2) | ((with_reducible refine gate_callee (f := 83) rfl ?_); refine goesL_ (some 10) rfl rfl Try.func83 (by kernel_rfl) rfl #[.int .i64 a1_0, .int .i64 0, .int .i64 (wrap64 ((l0.length : Int) - 1))] rfl (by (try simp only [zat, zau, zav]); first | done | rfl | (simp only [zaw, zax]; rfl)) ?_; (with_reducible refine (impl_within.calls a1_0 0 (wrap64 ((l0.length : Int) - 1)) true _ A3.out).mono ?_); rintro e w' ⟨rfl, ⟨nd, rfl⟩⟩; refine ⟨_, rfl, ?_⟩) | (go_at_call 83; (with_reducible refine (impl_within.calls a1_1 0 (wrap64 ((l0.length : Int) - 1)) false _ A5.out).mono ?_); rintro e w' ⟨rfl, ⟨nd, rfl⟩⟩))
     go_ret
     exact ⟨by first | rfl | (simp [errW_none, errW_some] <;> rfl) | (simp [*, errW_none, errW_some] <;> rfl), by repeat (first | (with_reducible first | exact HB.out | apply zag | apply zae | apply zaf | refine zah ?_ GE470.out) | exact HB.out)⟩
 · replace c4 := Bool.eq_false_iff.mpr c4
   subst c4
   have H1 : (some false) = some r := by rw [if_neg (show ¬ (false = true) by decide)] at H; exact H
   clear H
   have H := H1
   clear H1
   obtain rfl := Option.some.inj H
   go_enter Try.func102, Try.ntmps102
   go_wp2_with (first | ((with_reducible refine gate_dst (N := 3) rfl ?_); (try (refine gate_guard (by rfl) ?_; dsimp only)); refine box_event ?hg (N := 3) ?hd (cs := #[.int .i64 a1_0, .int .i64 a1_1, .int .i64 a1_2]) (t := 39) ?hr ?_; (case hd => rfl); (case hg => rfl); (case hr => first | (go_simp; done) | (go_simp; rfl)); intro gb470 hg w14 hbox hb; have n0_ := zad (below_step (by repeat (first | (with_reducible first | exact HB.out | apply zag | apply zae | apply zaf) | exact HB.out)) hb); have n1_ := zad (hbox); have n2_ := zad ((by rw [hg]; exact (below_size (by repeat (first | (with_reducible first | exact HB.out | apply zag | apply zae | apply zaf) | exact HB.out))) : w.heap.size ≤ gb470)); have n3_ := zad ((by rw [hg]; exact (below_size (by repeat (first | (with_reducible first | exact HB.out | apply zag | apply zae | apply zaf) | exact HB.out))) : w.heap.size ≤ gb470)); clear HB; have HB := n0_; have BK470 := n1_; have GW470 := n2_; have GE470 := n3_; clear n0_ n1_ n2_ n3_; clear hb hbox hg; have hcz15_0 : w14.cell? ⟨gb470, 0, none⟩ = some (.int .i64 a1_0) := (blk_cell BK470.out 0).trans rfl; have hcz15_1 : w14.cell? ⟨gb470, 1, none⟩ = some (.int .i64 a1_1) := (blk_cell BK470.out 1).trans rfl; have hcz15_2 : w14.cell? ⟨gb470, 2, none⟩ = some (.int .i64 a1_2) := (blk_cell BK470.out 2).trans rfl; have hfz15_0 := blk_frozen BK470.out 0; have hfz15_1 := blk_frozen BK470.out 1; have hfz15_2 := blk_frozen BK470.out 2) | ((with_reducible refine gate_callee (f := 83) rfl ?_); refine goesL_ (some 10) rfl rfl Try.func83 (by kernel_rfl) rfl #[.int .i64 a1_0, .int .i64 0, .int .i64 (wrap64 ((l0.length : Int) - 1))] rfl (by (try simp only [zat, zau, zav]); first | done | rfl | (simp only [zaw, zax]; rfl)) ?_; (with_reducible refine (impl_within.calls a1_0 0 (wrap64 ((l0.length : Int) - 1)) false _ A3.out).mono ?_); rintro e w' ⟨rfl, ⟨nd, rfl⟩⟩; refine ⟨_, rfl, ?_⟩))
   go_ret
   exact ⟨by first | rfl | (simp [errW_none, errW_some] <;> rfl) | (simp [*, errW_none, errW_some] <;> rfl), by repeat (first | (with_reducible first | exact HB.out | apply zag | apply zae | apply zaf | refine zah ?_ GE470.out) | exact HB.out)⟩
def impl_canGive.f (l0 : List Int) (a1_0 : Int) (a1_1 : Int) (a1_2 : Int) : Option (Bool) := (impl_isGift.f l0 a1_0 a1_1 a1_2).bind fun t474 => (if t474 = true then (if 0 ≤ a1_0 then (if a1_0 < (l0.length : Int) then (if a1_2 ≤ (rd l0 a1_0) then (if 0 ≤ a1_1 then (if a1_1 < (l0.length : Int) then (some (decide (a1_2 ≤ (wrap64 (60 - (rd l0 a1_1)))))) else (none)) else (none)) else (some false)) else (none)) else (none)) else (some false))
def impl_canGive.T1 : Bool × List (List Nat × List Nat) := (true, [([], []), ([], []), ([0, 1], [0, 1]), ([2, 2], [2]), ([3], [3]), ([4, 3], [3, 4]), ([3], [3]), ([3], [3]), ([7, 3], [3, 7]), ([6, 8, 3], [3, 6, 8]), ([9, 3], [3, 9]), ([5, 10, 3], [3, 5, 10]), ([3, 11], [3, 11]), ([12, 3], [12]), ([13], [13]), ([14, 13], [13, 14]), ([13], [13]), ([13], [13]), ([17, 13], [13, 17]), ([16, 18, 13], [13, 16, 18]), ([19, 13], [13, 19]), ([20, 13], [13, 20]), ([15, 21, 13], [13, 15, 21]), ([13, 22], [13, 22]), ([23, 13, 0, 1, 2, 3, 4, 5, 6, 7, 8, 9, 10, 11, 12, 13, 14, 15, 16, 17, 18, 19, 20, 21, 22, 23], [23])])
def impl_canGive.B1 : List Nat := [0, 0, 3, 7, 15, 31, 15, 15, 143, 463, 975, 2047, 4095, 8191, 16383, 32767, 16383, 16383, 147455, 475135, 999423, 2047999, 4194303, 8388607, 16777215]
theorem impl_canGive.tab1 : rtab .any (opsOf Try.f104 1) = impl_canGive.T1 := by kernel_rfl
theorem impl_canGive.bits1 : waitsOk impl_canGive.T1.2 impl_canGive.B1 = true := by kernel_rfl
set_option maxHeartbeats 8000000 in
set_option maxRecDepth 100000 in
theorem impl_canGive.calls (A0 : Option Addr) (c0 : Nat) (l0 : List Int) (a1_0 : Int) (a1_1 : Int) (a1_2 : Int) (r : Bool) (w : World) (hr0 : Kd.C (Kd.int .i64) w A0 l0.length l0) (hc0 : l0.length ≤ c0) (h : impl_canGive.f l0 a1_0 a1_1 a1_2 = some r) :
 Calls Try.prog 104 #[.slice A0 l0.length c0, .agg #[.int .i64 a1_0, .int .i64 a1_1, .int .i64 a1_2]] w fun e w' => e = .returned (.bool r) ∧ Below w.heap.size w w' := by
 have hu39 := Try.underlying39
 have HR0 := zad hr0
 have HC0 := zad hc0
 clear hr0 hc0
 have HB := zad (Below.refl w.heap.size w)
 have H : ((impl_isGift.f l0 a1_0 a1_1 a1_2).bind fun t474 => (if t474 = true then (if 0 ≤ a1_0 then (if a1_0 < (l0.length : Int) then (if a1_2 ≤ (rd l0 a1_0) then (if 0 ≤ a1_1 then (if a1_1 < (l0.length : Int) then (some (decide (a1_2 ≤ (wrap64 (60 - (rd l0 a1_1)))))) else (none)) else (none)) else (some false)) else (none)) else (none)) else (some false))) = some r := h
 clear h
 replace H := Option.bind_eq_some_iff.mp H
 obtain ⟨t474, A30, H⟩ := H
 replace H : (if t474 = true then (if 0 ≤ a1_0 then (if a1_0 < (l0.length : Int) then (if a1_2 ≤ (rd l0 a1_0) then (if 0 ≤ a1_1 then (if a1_1 < (l0.length : Int) then (some (decide (a1_2 ≤ (wrap64 (60 - (rd l0 a1_1)))))) else (none)) else (none)) else (some false)) else (none)) else (none)) else (some false)) = some r := H
 have A3 := zad A30
 clear A30
 by_cases c4 : t474 = true
 · subst c4
   have H1 : (if 0 ≤ a1_0 then (if a1_0 < (l0.length : Int) then (if a1_2 ≤ (rd l0 a1_0) then (if 0 ≤ a1_1 then (if a1_1 < (l0.length : Int) then (some (decide (a1_2 ≤ (wrap64 (60 - (rd l0 a1_1)))))) else (none)) else (none)) else (some false)) else (none)) else (none)) = some r := by rw [if_pos rfl] at H; exact H
   clear H
   have H := H1
   clear H1
   by_cases c5 : 0 ≤ a1_0
   · rw [if_pos c5] at H
     have c5b0 : decide (0 ≤ a1_0) = true := zaz c5
     clear c5
     by_cases c6 : a1_0 < (l0.length : Int)
     · rw [if_pos c6] at H
       have c6b0 : decide (a1_0 < (l0.length : Int)) = true := zaz c6
       clear c6
       by_cases c7 : a1_2 ≤ (rd l0 a1_0)
       · rw [if_pos c7] at H
         have c7b0 : decide (a1_2 ≤ (rd l0 a1_0)) = true := zaz c7
         clear c7
         by_cases c8 : 0 ≤ a1_1
         · rw [if_pos c8] at H
           have c8b0 : decide (0 ≤ a1_1) = true := zaz c8
           clear c8
           by_cases c9 : a1_1 < (l0.length : Int)
           · rw [if_pos c9] at H
             have c9b0 : decide (a1_1 < (l0.length : Int)) = true := zaz c9
             clear c9
             obtain rfl := Option.some.inj H
             go_enter Try.func104, Try.ntmps104
             try go_wp2_with (first | ((with_reducible refine gate_dst (N := 3) rfl ?_); refine box_event ?hg (N := 3) ?hd (cs := #[.int .i64 a1_0, .int .i64 a1_1, .int .i64 a1_2]) (t := 39) ?hr ?_; (case hd => rfl); (case hg => rfl); (case hr => first | (go_simp; done) | (go_simp; rfl)); intro gb473 hg w10 hbox hb; have n0_ := zad (below_step (by repeat (first | (with_reducible first | exact HB.out | apply zag | apply zae | apply zaf) | exact HB.out)) hb); have n1_ := zad (hbox); have n2_ := zad ((by rw [hg]; exact (below_size (by repeat (first | (with_reducible first | exact HB.out | apply zag | apply zae | apply zaf) | exact HB.out))) : w.heap.size ≤ gb473)); have n3_ := zad ((by rw [hg]; exact (below_size (by repeat (first | (with_reducible first | exact HB.out | apply zag | apply zae | apply zaf) | exact HB.out))) : w.heap.size ≤ gb473)); clear HB; have HB := n0_; have BK473 := n1_; have GW473 := n2_; have GE473 := n3_; clear n0_ n1_ n2_ n3_; clear hb hbox hg))
             have n0_ := zad (blk_drew BK473.out)
             have n1_ := zad (zaf HB.out)
             clear BK473
             clear HB
             have BK473 := n0_
             have HB := n1_
             clear n0_ n1_
             have p475 : 0 ≤ (a1_0 : Int) := zas (by first | (with_reducible assumption) | assumption)
             have q475 : a1_0 < (l0.length : Int) := zas (by first | (with_reducible assumption) | assumption)
             obtain ⟨ad475, e475, hx475_0⟩ := Kd.at_int HR0.out a1_0 p475 q475
             have hw475_0 := hx475_0
             cases e475
             replace hx475_0 := (HB.out.cell (zay w _ hx475_0)).trans hx475_0
             replace p475 := eq_true p475
             replace q475 := eq_true q475
             have p476 : 0 ≤ (a1_1 : Int) := zas (by first | (with_reducible assumption) | assumption)
             have q476 : a1_1 < (l0.length : Int) := zas (by first | (with_reducible assumption) | assumption)
             obtain ⟨ad476, e476, hx476_0⟩ := Kd.at_int HR0.out a1_1 p476 q476
             have hw476_0 := hx476_0
             obtain rfl : ad475 = ad476 := (by injection e476)
             replace hx476_0 := (HB.out.cell (zay w _ hx476_0)).trans hx476_0
             replace p476 := eq_true p476
             replace q476 := eq_true q476
             refine start_ (n := 25) (S := fun w' => w'.cell? ⟨gb473, 0, none⟩ = some (.int .i64 a1_0) ∧ w'.cell? ⟨gb473, 1, none⟩ = some (.int .i64 a1_1) ∧ w'.cell? ⟨gb473, 2, none⟩ = some (.int .i64 a1_2) ∧ w'.cell? (ad475.add (a1_0).toNat) = some (.int .i64 (rd l0 a1_0)) ∧ w'.cell? (ad475.add (a1_1).toNat) = some (.int .i64 (rd l0 a1_1))) (ds := []) #[false, false, false, false, false, false, false, false, false, false, false, false, false, false, false, false, false, false, false, false, false, false, false, false, false] (by kernel_rfl) rfl rfl ⟨(blk_cell BK473.out 0).trans rfl, (blk_cell BK473.out 1).trans rfl, (blk_cell BK473.out 2).trans rfl, ((HB.out.cell (zay w _ hw475_0)).trans hw475_0), ((HB.out.cell (zay w _ hw476_0)).trans hw476_0)⟩ (fun hHeld => ?_); refine with_tabW impl_canGive.tab1 impl_canGive.bits1 (fun HT_ HW_ => ?_)
             generalize w10.drew = w11 at BK473 HB hx475_0 hx476_0 hHeld ⊢
             refine pure_ (i := 0) (N := some 5) (v := ?_) (a' := ?_) #[true, false, false, false, false, false, false, false, false, false, false, false, false, false, false, false, false, false, false, false, false, false, false, false, false] rfl rfl (any_of HT_.out (by kernel_rfl)) (fun _ _ _ h => h) (Or.inl ⟨by rfl, ?_⟩) ?_ ?_
             rotate_left
             · intro w'
               go_simp
               with_reducible rfl
             rotate_left
             · simp only [Act.put, zaa, zab, zac, i64_w, i32_w]
               rfl
             refine take_ (i := 1) (N := some 6) (v := ?_) (a' := ?_) #[true, true, false, false, false, false, false, false, false, false, false, false, false, false, false, false, false, false, false, false, false, false, false, false, false] rfl rfl (take_ofW HT_.out HW_.out (by kernel_rfl)) (fun _ _ _ h => h) (Or.inl ⟨by rfl, ?_⟩) hHeld ?_ ?_
             rotate_left
             · rintro w' ⟨s0, s1, s2, s3, s4⟩
               go_simp
               with_reducible rfl
             rotate_left
             · simp only [Act.put, zaa, zab, zac, i64_w, i32_w]
               rfl
             refine one_ (i := 2) (N := some 7) #[true, true, true, false, false, false, false, false, false, false, false, false, false, false, false, false, false, false, false, false, false, false, false, false, false] rfl rfl (one_of HT_.out (by kernel_rfl)) (by decide) (fun K hK => ?_)
             refine goes_ Try.func102 (by kernel_rfl) rfl #[.slice (some ad475) l0.length c0, .agg #[.int .i64 a1_0, .int .i64 a1_1, .int .i64 a1_2]] (by rfl) rfl rfl (by (try simp only [zat, zau, zav]); first | done | rfl | (simp only [zaw, zax]; rfl)) ?_
             with_reducible refine (impl_isGift.calls _ _ l0 a1_0 a1_1 a1_2 true _ ?side1 ?side2 A3.out).mono ?_
             (case side1 => repeat (first | exact (Kd.C_below HR0.out HB.out) | (with_reducible refine zal ?_ _) | (with_reducible refine zam ?_ _) | (with_reducible refine zan ?_)))
             (case side2 => exact HC0.out)
             rintro e w12 ⟨rfl, hb⟩
             refine ⟨_, rfl, ?_⟩
             have n0_ := zad (blk_below (g := gb473) (o := .cells #[.int .i64 a1_0, .int .i64 a1_1, .int .i64 a1_2] 39 (0, 0)) (by (with_reducible repeat (first | refine blk_drewN ?_ _ | refine blk_drew ?_ | refine blk_alloc ?_ _)); exact BK473.out) hb)
             have n1_ := zad (below_step (by repeat (first | (with_reducible first | exact HB.out | apply zag | apply zae | apply zaf | refine zah ?_ GE473.out) | exact HB.out)) hb)
             clear BK473
             clear HB
             have BK473 := n0_
             have HB := n1_
             clear n0_ n1_
             (try clear hb)
             (try clear hb2)
             (try clear hk)
             (try clear hi)
             refine hK.out _ _ ⟨(blk_cell BK473.out 0).trans rfl, (blk_cell BK473.out 1).trans rfl, (blk_cell BK473.out 2).trans rfl, ((HB.out.cell (zay w _ hw475_0)).trans hw475_0), ((HB.out.cell (zay w _ hw476_0)).trans hw476_0)⟩ (fun hHeld => ?_)
             clear hK K
             refine norm_ (a' := ?_) ?_ ?_
             rotate_left
             · show Act.put _ (some 7) _ = _
               simp only [Act.put, zaa, zab, zac, i64_w, i32_w]
               rfl
             refine pure_ (i := 3) (N := some 8) (v := ?_) (a' := ?_) #[true, true, true, true, false, false, false, false, false, false, false, false, false, false, false, false, false, false, false, false, false, false, false, false, false] rfl rfl (any_of HT_.out (by kernel_rfl)) (fun _ _ _ h => h) (Or.inl ⟨by rfl, ?_⟩) ?_ ?_
             rotate_left
             · intro w'
               go_simp
               with_reducible rfl
             rotate_left
             · simp only [Act.put, zaa, zab, zac, i64_w, i32_w]
               rfl
             refine pure_ (i := 4) (N := some 9) (v := ?_) (a' := ?_) #[true, true, true, true, true, false, false, false, false, false, false, false, false, false, false, false, false, false, false, false, false, false, false, false, false] rfl rfl (any_of HT_.out (by kernel_rfl)) (fun _ _ _ h => h) (Or.inl ⟨by rfl, ?_⟩) ?_ ?_
             rotate_left
             · intro w'
               go_simp
               with_reducible rfl
             rotate_left
             · simp only [Act.put, zaa, zab, zac, i64_w, i32_w]
               rfl
             refine pure_ (i := 6) (N := some 11) (v := ?_) (a' := ?_) #[true, true, true, true, true, false, true, false, false, false, false, false, false, false, false, false, false, false, false, false, false, false, false, false, false] rfl rfl (any_of HT_.out (by kernel_rfl)) (fun _ _ _ h => h) (Or.inl ⟨by rfl, ?_⟩) ?_ ?_
             rotate_left
             · intro w'
               go_simp
               with_reducible rfl
             rotate_left
             · simp only [Act.put, zaa, zab, zac, i64_w, i32_w]
               rfl
             refine pure_ (i := 7) (N := some 12) (v := ?_) (a' := ?_) #[true, true, true, true, true, false, true, true, false, false, false, false, false, false, false, false, false, false, false, false, false, false, false, false, false] rfl rfl (any_of HT_.out (by kernel_rfl)) (fun _ _ _ h => h) (Or.inl ⟨by rfl, ?_⟩) ?_ ?_
             rotate_left
             · intro w'
               go_simp
               with_reducible rfl
             rotate_left
             · simp only [Act.put, zaa, zab, zac, i64_w, i32_w]
               rfl
             refine take_ (i := 5) (N := some 10) (v := ?_) (a' := ?_) #[true, true, true, true, true, true, true, true, false, false, false, false, false, false, false, false, false, false, false, false, false, false, false, false, false] rfl rfl (take_ofW HT_.out HW_.out (by kernel_rfl)) (fun _ _ _ h => h) (Or.inl ⟨by rfl, ?_⟩) hHeld ?_ ?_
             rotate_left
             · rintro w' ⟨s0, s1, s2, s3, s4⟩
               go_simp
               with_reducible rfl
             rotate_left
             · simp only [Act.put, zaa, zab, zac, i64_w, i32_w]
               rfl
             refine take_ (i := 8) (N := some 13) (v := ?_) (a' := ?_) #[true, true, true, true, true, true, true, true, true, false, false, false, false, false, false, false, false, false, false, false, false, false, false, false, false] rfl rfl (take_ofW HT_.out HW_.out (by kernel_rfl)) (fun _ _ _ h => h) (Or.inl ⟨by rfl, ?_⟩) hHeld ?_ ?_
             rotate_left
             · rintro w' ⟨s0, s1, s2, s3, s4⟩
               go_simp
               with_reducible rfl
             rotate_left
             · simp only [Act.put, zaa, zab, zac, i64_w, i32_w]
               rfl
             refine pure_ (i := 9) (N := some 14) (v := ?_) (a' := ?_) #[true, true, true, true, true, true, true, true, true, true, false, false, false, false, false, false, false, false, false, false, false, false, false, false, false] rfl rfl (any_of HT_.out (by kernel_rfl)) (fun _ _ _ h => h) (Or.inl ⟨by rfl, ?_⟩) ?_ ?_
             rotate_left
             · intro w'
               go_simp
               with_reducible rfl
             rotate_left
             · simp only [Act.put, zaa, zab, zac, i64_w, i32_w]
               rfl
             refine take_ (i := 10) (N := some 15) (v := ?_) (a' := ?_) #[true, true, true, true, true, true, true, true, true, true, true, false, false, false, false, false, false, false, false, false, false, false, false, false, false] rfl rfl (take_ofW HT_.out HW_.out (by kernel_rfl)) (fun _ _ _ h => h) (Or.inl ⟨by rfl, ?_⟩) hHeld ?_ ?_
             rotate_left
             · rintro w' ⟨s0, s1, s2, s3, s4⟩
               go_simp
               with_reducible rfl
             rotate_left
             · simp only [Act.put, zaa, zab, zac, i64_w, i32_w]
               rfl
             refine pure_ (i := 11) (N := some 16) (v := ?_) (a' := ?_) #[true, true, true, true, true, true, true, true, true, true, true, true, false, false, false, false, false, false, false, false, false, false, false, false, false] rfl rfl (any_of HT_.out (by kernel_rfl)) (fun _ _ _ h => h) (Or.inl ⟨by rfl, ?_⟩) ?_ ?_
             rotate_left
             · intro w'
               go_simp
               with_reducible rfl
             rotate_left
             · simp only [Act.put, zaa, zab, zac, i64_w, i32_w]
               rfl
             refine pure_ (i := 12) (N := some 17) (v := ?_) (a' := ?_) #[true, true, true, true, true, true, true, true, true, true, true, true, true, false, false, false, false, false, false, false, false, false, false, false, false] rfl rfl (any_of HT_.out (by kernel_rfl)) (fun _ _ _ h => h) (Or.inl ⟨by rfl, ?_⟩) ?_ ?_
             rotate_left
             · intro w'
               go_simp
               with_reducible rfl
             rotate_left
             · simp only [Act.put, zaa, zab, zac, i64_w, i32_w]
               rfl
             refine pure_ (i := 13) (N := some 18) (v := ?_) (a' := ?_) #[true, true, true, true, true, true, true, true, true, true, true, true, true, true, false, false, false, false, false, false, false, false, false, false, false] rfl rfl (any_of HT_.out (by kernel_rfl)) (fun _ _ _ h => h) (Or.inl ⟨by rfl, ?_⟩) ?_ ?_
             rotate_left
             · intro w'
               go_simp
               with_reducible rfl
             rotate_left
             · simp only [Act.put, zaa, zab, zac, i64_w, i32_w]
               rfl
             refine pure_ (i := 14) (N := some 19) (v := ?_) (a' := ?_) #[true, true, true, true, true, true, true, true, true, true, true, true, true, true, true, false, false, false, false, false, false, false, false, false, false] rfl rfl (any_of HT_.out (by kernel_rfl)) (fun _ _ _ h => h) (Or.inl ⟨by rfl, ?_⟩) ?_ ?_
             rotate_left
             · intro w'
               go_simp
               with_reducible rfl
             rotate_left
             · simp only [Act.put, zaa, zab, zac, i64_w, i32_w]
               rfl
             refine pure_ (i := 16) (N := some 21) (v := ?_) (a' := ?_) #[true, true, true, true, true, true, true, true, true, true, true, true, true, true, true, false, true, false, false, false, false, false, false, false, false] rfl rfl (any_of HT_.out (by kernel_rfl)) (fun _ _ _ h => h) (Or.inl ⟨by rfl, ?_⟩) ?_ ?_
             rotate_left
             · intro w'
               go_simp
               with_reducible rfl
             rotate_left
             · simp only [Act.put, zaa, zab, zac, i64_w, i32_w]
               rfl
             refine pure_ (i := 17) (N := some 22) (v := ?_) (a' := ?_) #[true, true, true, true, true, true, true, true, true, true, true, true, true, true, true, false, true, true, false, false, false, false, false, false, false] rfl rfl (any_of HT_.out (by kernel_rfl)) (fun _ _ _ h => h) (Or.inl ⟨by rfl, ?_⟩) ?_ ?_
             rotate_left
             · intro w'
               go_simp
               with_reducible rfl
             rotate_left
             · simp only [Act.put, zaa, zab, zac, i64_w, i32_w]
               rfl
             refine take_ (i := 15) (N := some 20) (v := ?_) (a' := ?_) #[true, true, true, true, true, true, true, true, true, true, true, true, true, true, true, true, true, true, false, false, false, false, false, false, false] rfl rfl (take_ofW HT_.out HW_.out (by kernel_rfl)) (fun _ _ _ h => h) (Or.inl ⟨by rfl, ?_⟩) hHeld ?_ ?_
             rotate_left
             · rintro w' ⟨s0, s1, s2, s3, s4⟩
               go_simp
               with_reducible rfl
             rotate_left
             · simp only [Act.put, zaa, zab, zac, i64_w, i32_w]
               rfl
             refine take_ (i := 18) (N := some 23) (v := ?_) (a' := ?_) #[true, true, true, true, true, true, true, true, true, true, true, true, true, true, true, true, true, true, true, false, false, false, false, false, false] rfl rfl (take_ofW HT_.out HW_.out (by kernel_rfl)) (fun _ _ _ h => h) (Or.inl ⟨by rfl, ?_⟩) hHeld ?_ ?_
             rotate_left
             · rintro w' ⟨s0, s1, s2, s3, s4⟩
               go_simp
               with_reducible rfl
             rotate_left
             · simp only [Act.put, zaa, zab, zac, i64_w, i32_w]
               rfl
             refine pure_ (i := 19) (N := some 24) (v := ?_) (a' := ?_) #[true, true, true, true, true, true, true, true, true, true, true, true, true, true, true, true, true, true, true, true, false, false, false, false, false] rfl rfl (any_of HT_.out (by kernel_rfl)) (fun _ _ _ h => h) (Or.inl ⟨by rfl, ?_⟩) ?_ ?_
             rotate_left
             · intro w'
               go_simp
               with_reducible rfl
             rotate_left
             · simp only [Act.put, zaa, zab, zac, i64_w, i32_w]
               rfl
             refine take_ (i := 20) (N := some 25) (v := ?_) (a' := ?_) #[true, true, true, true, true, true, true, true, true, true, true, true, true, true, true, true, true, true, true, true, true, false, false, false, false] rfl rfl (take_ofW HT_.out HW_.out (by kernel_rfl)) (fun _ _ _ h => h) (Or.inl ⟨by rfl, ?_⟩) hHeld ?_ ?_
             rotate_left
             · rintro w' ⟨s0, s1, s2, s3, s4⟩
               go_simp
               with_reducible rfl
             rotate_left
             · simp only [Act.put, zaa, zab, zac, i64_w, i32_w]
               rfl
             refine pure_ (i := 21) (N := some 26) (v := ?_) (a' := ?_) #[true, true, true, true, true, true, true, true, true, true, true, true, true, true, true, true, true, true, true, true, true, true, false, false, false] rfl rfl (any_of HT_.out (by kernel_rfl)) (fun _ _ _ h => h) (Or.inl ⟨by rfl, ?_⟩) ?_ ?_
             rotate_left
             · intro w'
               go_simp
               with_reducible rfl
             rotate_left
             · simp only [Act.put, zaa, zab, zac, i64_w, i32_w]
               rfl
             refine pure_ (i := 22) (N := some 27) (v := ?_) (a' := ?_) #[true, true, true, true, true, true, true, true, true, true, true, true, true, true, true, true, true, true, true, true, true, true, true, false, false] rfl rfl (any_of HT_.out (by kernel_rfl)) (fun _ _ _ h => h) (Or.inl ⟨by rfl, ?_⟩) ?_ ?_
             rotate_left
             · intro w'
               go_simp
               with_reducible rfl
             rotate_left
             · simp only [Act.put, zaa, zab, zac, i64_w, i32_w]
               rfl
             refine pure_ (i := 23) (N := some 28) (v := ?_) (a' := ?_) #[true, true, true, true, true, true, true, true, true, true, true, true, true, true, true, true, true, true, true, true, true, true, true, true, false] rfl rfl (any_of HT_.out (by kernel_rfl)) (fun _ _ _ h => h) (Or.inl ⟨by rfl, ?_⟩) ?_ ?_
             rotate_left
             · intro w'
               go_simp
               with_reducible rfl
             rotate_left
             · simp only [Act.put, zaa, zab, zac, i64_w, i32_w]
               rfl
             refine pure_ (i := 24) (N := some 4) (v := ?_) (a' := ?_) #[true, true, true, true, true, true, true, true, true, true, true, true, true, true, true, true, true, true, true, true, true, true, true, true, true] rfl rfl (any_of HT_.out (by kernel_rfl)) (fun _ _ _ h => h) (Or.inl ⟨by rfl, ?_⟩) ?_ ?_
             rotate_left
             · intro w'
               go_simp
               with_reducible rfl
             rotate_left
             · simp only [Act.put, zaa, zab, zac, i64_w, i32_w]
               rfl
             refine done_ (done_of HT_.out (by kernel_rfl)) ?_
             try go_wp2
             go_ret
             exact ⟨by first | rfl | (simp [errW_none, errW_some] <;> rfl) | (simp [*, errW_none, errW_some] <;> rfl), by repeat (first | (with_reducible first | exact HB.out | apply zag | apply zae | apply zaf | refine zah ?_ GE473.out) | exact HB.out)⟩
           · rw [if_neg c9] at H
             exact absurd H (by simp)
         · rw [if_neg c8] at H
           exact absurd H (by simp)
       · rw [if_neg c7] at H
         have c7b0 : decide (a1_2 ≤ (rd l0 a1_0)) = false := decide_eq_false c7
         clear c7
         obtain rfl := Option.some.inj H
         go_enter Try.func104, Try.ntmps104
         try go_wp2_with (first | ((with_reducible refine gate_dst (N := 3) rfl ?_); refine box_event ?hg (N := 3) ?hd (cs := #[.int .i64 a1_0, .int .i64 a1_1, .int .i64 a1_2]) (t := 39) ?hr ?_; (case hd => rfl); (case hg => rfl); (case hr => first | (go_simp; done) | (go_simp; rfl)); intro gb473 hg w13 hbox hb; have n0_ := zad (below_step (by repeat (first | (with_reducible first | exact HB.out | apply zag | apply zae | apply zaf) | exact HB.out)) hb); have n1_ := zad (hbox); have n2_ := zad ((by rw [hg]; exact (below_size (by repeat (first | (with_reducible first | exact HB.out | apply zag | apply zae | apply zaf) | exact HB.out))) : w.heap.size ≤ gb473)); have n3_ := zad ((by rw [hg]; exact (below_size (by repeat (first | (with_reducible first | exact HB.out | apply zag | apply zae | apply zaf) | exact HB.out))) : w.heap.size ≤ gb473)); clear HB; have HB := n0_; have BK473 := n1_; have GW473 := n2_; have GE473 := n3_; clear n0_ n1_ n2_ n3_; clear hb hbox hg))
         have n0_ := zad (blk_drew BK473.out)
         have n1_ := zad (zaf HB.out)
         clear BK473
         clear HB
         have BK473 := n0_
         have HB := n1_
         clear n0_ n1_
         have p475 : 0 ≤ (a1_0 : Int) := zas (by first | (with_reducible assumption) | assumption)
         have q475 : a1_0 < (l0.length : Int) := zas (by first | (with_reducible assumption) | assumption)
         obtain ⟨ad475, e475, hx475_0⟩ := Kd.at_int HR0.out a1_0 p475 q475
         have hw475_0 := hx475_0
         cases e475
         replace hx475_0 := (HB.out.cell (zay w _ hx475_0)).trans hx475_0
         replace p475 := eq_true p475
         replace q475 := eq_true q475
         refine start_ (n := 25) (S := fun w' => w'.cell? ⟨gb473, 0, none⟩ = some (.int .i64 a1_0) ∧ w'.cell? ⟨gb473, 1, none⟩ = some (.int .i64 a1_1) ∧ w'.cell? ⟨gb473, 2, none⟩ = some (.int .i64 a1_2) ∧ w'.cell? (ad475.add (a1_0).toNat) = some (.int .i64 (rd l0 a1_0))) (ds := []) #[false, false, false, false, false, false, false, false, false, false, false, false, false, false, false, false, false, false, false, false, false, false, false, false, false] (by kernel_rfl) rfl rfl ⟨(blk_cell BK473.out 0).trans rfl, (blk_cell BK473.out 1).trans rfl, (blk_cell BK473.out 2).trans rfl, ((HB.out.cell (zay w _ hw475_0)).trans hw475_0)⟩ (fun hHeld => ?_); refine with_tabW impl_canGive.tab1 impl_canGive.bits1 (fun HT_ HW_ => ?_)
         generalize w13.drew = w14 at BK473 HB hx475_0 hHeld ⊢
         refine pure_ (i := 0) (N := some 5) (v := ?_) (a' := ?_) #[true, false, false, false, false, false, false, false, false, false, false, false, false, false, false, false, false, false, false, false, false, false, false, false, false] rfl rfl (any_of HT_.out (by kernel_rfl)) (fun _ _ _ h => h) (Or.inl ⟨by rfl, ?_⟩) ?_ ?_
         rotate_left
         · intro w'
           go_simp
           with_reducible rfl
         rotate_left
         · simp only [Act.put, zaa, zab, zac, i64_w, i32_w]
           rfl
         refine take_ (i := 1) (N := some 6) (v := ?_) (a' := ?_) #[true, true, false, false, false, false, false, false, false, false, false, false, false, false, false, false, false, false, false, false, false, false, false, false, false] rfl rfl (take_ofW HT_.out HW_.out (by kernel_rfl)) (fun _ _ _ h => h) (Or.inl ⟨by rfl, ?_⟩) hHeld ?_ ?_
         rotate_left
         · rintro w' ⟨s0, s1, s2, s3⟩
           go_simp
           with_reducible rfl
         rotate_left
         · simp only [Act.put, zaa, zab, zac, i64_w, i32_w]
           rfl
         refine one_ (i := 2) (N := some 7) #[true, true, true, false, false, false, false, false, false, false, false, false, false, false, false, false, false, false, false, false, false, false, false, false, false] rfl rfl (one_of HT_.out (by kernel_rfl)) (by decide) (fun K hK => ?_)
         refine goes_ Try.func102 (by kernel_rfl) rfl #[.slice (some ad475) l0.length c0, .agg #[.int .i64 a1_0, .int .i64 a1_1, .int .i64 a1_2]] (by rfl) rfl rfl (by (try simp only [zat, zau, zav]); first | done | rfl | (simp only [zaw, zax]; rfl)) ?_
         with_reducible refine (impl_isGift.calls _ _ l0 a1_0 a1_1 a1_2 true _ ?side1 ?side2 A3.out).mono ?_
         (case side1 => repeat (first | exact (Kd.C_below HR0.out HB.out) | (with_reducible refine zal ?_ _) | (with_reducible refine zam ?_ _) | (with_reducible refine zan ?_)))
         (case side2 => exact HC0.out)
         rintro e w15 ⟨rfl, hb⟩
         refine ⟨_, rfl, ?_⟩
         have n0_ := zad (blk_below (g := gb473) (o := .cells #[.int .i64 a1_0, .int .i64 a1_1, .int .i64 a1_2] 39 (0, 0)) (by (with_reducible repeat (first | refine blk_drewN ?_ _ | refine blk_drew ?_ | refine blk_alloc ?_ _)); exact BK473.out) hb)
         have n1_ := zad (below_step (by repeat (first | (with_reducible first | exact HB.out | apply zag | apply zae | apply zaf | refine zah ?_ GE473.out) | exact HB.out)) hb)
         clear BK473
         clear HB
         have BK473 := n0_
         have HB := n1_
         clear n0_ n1_
         (try clear hb)
         (try clear hb2)
         (try clear hk)
         (try clear hi)
         refine hK.out _ _ ⟨(blk_cell BK473.out 0).trans rfl, (blk_cell BK473.out 1).trans rfl, (blk_cell BK473.out 2).trans rfl, ((HB.out.cell (zay w _ hw475_0)).trans hw475_0)⟩ (fun hHeld => ?_)
         clear hK K
         refine norm_ (a' := ?_) ?_ ?_
         rotate_left
         · show Act.put _ (some 7) _ = _
           simp only [Act.put, zaa, zab, zac, i64_w, i32_w]
           rfl
         refine pure_ (i := 3) (N := some 8) (v := ?_) (a' := ?_) #[true, true, true, true, false, false, false, false, false, false, false, false, false, false, false, false, false, false, false, false, false, false, false, false, false] rfl rfl (any_of HT_.out (by kernel_rfl)) (fun _ _ _ h => h) (Or.inl ⟨by rfl, ?_⟩) ?_ ?_
         rotate_left
         · intro w'
           go_simp
           with_reducible rfl
         rotate_left
         · simp only [Act.put, zaa, zab, zac, i64_w, i32_w]
           rfl
         refine pure_ (i := 4) (N := some 9) (v := ?_) (a' := ?_) #[true, true, true, true, true, false, false, false, false, false, false, false, false, false, false, false, false, false, false, false, false, false, false, false, false] rfl rfl (any_of HT_.out (by kernel_rfl)) (fun _ _ _ h => h) (Or.inl ⟨by rfl, ?_⟩) ?_ ?_
         rotate_left
         · intro w'
           go_simp
           with_reducible rfl
         rotate_left
         · simp only [Act.put, zaa, zab, zac, i64_w, i32_w]
           rfl
         refine pure_ (i := 6) (N := some 11) (v := ?_) (a' := ?_) #[true, true, true, true, true, false, true, false, false, false, false, false, false, false, false, false, false, false, false, false, false, false, false, false, false] rfl rfl (any_of HT_.out (by kernel_rfl)) (fun _ _ _ h => h) (Or.inl ⟨by rfl, ?_⟩) ?_ ?_
         rotate_left
         · intro w'
           go_simp
           with_reducible rfl
         rotate_left
         · simp only [Act.put, zaa, zab, zac, i64_w, i32_w]
           rfl
         refine pure_ (i := 7) (N := some 12) (v := ?_) (a' := ?_) #[true, true, true, true, true, false, true, true, false, false, false, false, false, false, false, false, false, false, false, false, false, false, false, false, false] rfl rfl (any_of HT_.out (by kernel_rfl)) (fun _ _ _ h => h) (Or.inl ⟨by rfl, ?_⟩) ?_ ?_
         rotate_left
         · intro w'
           go_simp
           with_reducible rfl
         rotate_left
         · simp only [Act.put, zaa, zab, zac, i64_w, i32_w]
           rfl
         refine take_ (i := 5) (N := some 10) (v := ?_) (a' := ?_) #[true, true, true, true, true, true, true, true, false, false, false, false, false, false, false, false, false, false, false, false, false, false, false, false, false] rfl rfl (take_ofW HT_.out HW_.out (by kernel_rfl)) (fun _ _ _ h => h) (Or.inl ⟨by rfl, ?_⟩) hHeld ?_ ?_
         rotate_left
         · rintro w' ⟨s0, s1, s2, s3⟩
           go_simp
           with_reducible rfl
         rotate_left
         · simp only [Act.put, zaa, zab, zac, i64_w, i32_w]
           rfl
         refine take_ (i := 8) (N := some 13) (v := ?_) (a' := ?_) #[true, true, true, true, true, true, true, true, true, false, false, false, false, false, false, false, false, false, false, false, false, false, false, false, false] rfl rfl (take_ofW HT_.out HW_.out (by kernel_rfl)) (fun _ _ _ h => h) (Or.inl ⟨by rfl, ?_⟩) hHeld ?_ ?_
         rotate_left
         · rintro w' ⟨s0, s1, s2, s3⟩
           go_simp
           with_reducible rfl
         rotate_left
         · simp only [Act.put, zaa, zab, zac, i64_w, i32_w]
           rfl
         refine pure_ (i := 9) (N := some 14) (v := ?_) (a' := ?_) #[true, true, true, true, true, true, true, true, true, true, false, false, false, false, false, false, false, false, false, false, false, false, false, false, false] rfl rfl (any_of HT_.out (by kernel_rfl)) (fun _ _ _ h => h) (Or.inl ⟨by rfl, ?_⟩) ?_ ?_
         rotate_left
         · intro w'
           go_simp
           with_reducible rfl
         rotate_left
         · simp only [Act.put, zaa, zab, zac, i64_w, i32_w]
           rfl
         refine take_ (i := 10) (N := some 15) (v := ?_) (a' := ?_) #[true, true, true, true, true, true, true, true, true, true, true, false, false, false, false, false, false, false, false, false, false, false, false, false, false] rfl rfl (take_ofW HT_.out HW_.out (by kernel_rfl)) (fun _ _ _ h => h) (Or.inl ⟨by rfl, ?_⟩) hHeld ?_ ?_
         rotate_left
         · rintro w' ⟨s0, s1, s2, s3⟩
           go_simp
           with_reducible rfl
         rotate_left
         · simp only [Act.put, zaa, zab, zac, i64_w, i32_w]
           rfl
         refine pure_ (i := 11) (N := some 16) (v := ?_) (a' := ?_) #[true, true, true, true, true, true, true, true, true, true, true, true, false, false, false, false, false, false, false, false, false, false, false, false, false] rfl rfl (any_of HT_.out (by kernel_rfl)) (fun _ _ _ h => h) (Or.inl ⟨by rfl, ?_⟩) ?_ ?_
         rotate_left
         · intro w'
           go_simp
           with_reducible rfl
         rotate_left
         · simp only [Act.put, zaa, zab, zac, i64_w, i32_w]
           rfl
         refine pure_ (i := 12) (N := some 17) (v := ?_) (a' := ?_) #[true, true, true, true, true, true, true, true, true, true, true, true, true, false, false, false, false, false, false, false, false, false, false, false, false] rfl rfl (any_of HT_.out (by kernel_rfl)) (fun _ _ _ h => h) (Or.inl ⟨by rfl, ?_⟩) ?_ ?_
         rotate_left
         · intro w'
           go_simp
           with_reducible rfl
         rotate_left
         · simp only [Act.put, zaa, zab, zac, i64_w, i32_w]
           rfl
         refine pure_ (i := 13) (N := some 18) (v := ?_) (a' := ?_) #[true, true, true, true, true, true, true, true, true, true, true, true, true, true, false, false, false, false, false, false, false, false, false, false, false] rfl rfl (any_of HT_.out (by kernel_rfl)) (fun _ _ _ h => h) (Or.inl ⟨by rfl, ?_⟩) ?_ ?_
         rotate_left
         · intro w'
           go_simp
           with_reducible rfl
         rotate_left
         · simp only [Act.put, zaa, zab, zac, i64_w, i32_w]
           rfl
         refine pure_ (i := 14) (N := some 19) (v := undef) (a' := ?_) #[true, true, true, true, true, true, true, true, true, true, true, true, true, true, true, false, false, false, false, false, false, false, false, false, false] rfl rfl (any_of HT_.out (by kernel_rfl)) (fun _ _ _ h => h) (Or.inr ⟨by rfl, rfl⟩) ?_ ?_
         rotate_left
         · simp only [Act.put, zaa, zab, zac, i64_w, i32_w]
           rfl
         refine pure_ (i := 15) (N := some 20) (v := undef) (a' := ?_) #[true, true, true, true, true, true, true, true, true, true, true, true, true, true, true, true, false, false, false, false, false, false, false, false, false] rfl rfl (any_of HT_.out (by kernel_rfl)) (fun _ _ _ h => h) (Or.inr ⟨by rfl, rfl⟩) ?_ ?_
         rotate_left
         · simp only [Act.put, zaa, zab, zac, i64_w, i32_w]
           rfl
         refine pure_ (i := 16) (N := some 21) (v := undef) (a' := ?_) #[true, true, true, true, true, true, true, true, true, true, true, true, true, true, true, true, true, false, false, false, false, false, false, false, false] rfl rfl (any_of HT_.out (by kernel_rfl)) (fun _ _ _ h => h) (Or.inr ⟨by rfl, rfl⟩) ?_ ?_
         rotate_left
         · simp only [Act.put, zaa, zab, zac, i64_w, i32_w]
           rfl
         refine pure_ (i := 17) (N := some 22) (v := undef) (a' := ?_) #[true, true, true, true, true, true, true, true, true, true, true, true, true, true, true, true, true, true, false, false, false, false, false, false, false] rfl rfl (any_of HT_.out (by kernel_rfl)) (fun _ _ _ h => h) (Or.inr ⟨by rfl, rfl⟩) ?_ ?_
         rotate_left
         · simp only [Act.put, zaa, zab, zac, i64_w, i32_w]
           rfl
         refine pure_ (i := 18) (N := some 23) (v := undef) (a' := ?_) #[true, true, true, true, true, true, true, true, true, true, true, true, true, true, true, true, true, true, true, false, false, false, false, false, false] rfl rfl (any_of HT_.out (by kernel_rfl)) (fun _ _ _ h => h) (Or.inr ⟨by rfl, rfl⟩) ?_ ?_
         rotate_left
         · simp only [Act.put, zaa, zab, zac, i64_w, i32_w]
           rfl
         refine pure_ (i := 19) (N := some 24) (v := undef) (a' := ?_) #[true, true, true, true, true, true, true, true, true, true, true, true, true, true, true, true, true, true, true, true, false, false, false, false, false] rfl rfl (any_of HT_.out (by kernel_rfl)) (fun _ _ _ h => h) (Or.inr ⟨by rfl, rfl⟩) ?_ ?_
         rotate_left
         · simp only [Act.put, zaa, zab, zac, i64_w, i32_w]
           rfl
         refine pure_ (i := 20) (N := some 25) (v := undef) (a' := ?_) #[true, true, true, true, true, true, true, true, true, true, true, true, true, true, true, true, true, true, true, true, true, false, false, false, false] rfl rfl (any_of HT_.out (by kernel_rfl)) (fun _ _ _ h => h) (Or.inr ⟨by rfl, rfl⟩) ?_ ?_
         rotate_left
         · simp only [Act.put, zaa, zab, zac, i64_w, i32_w]
           rfl
         refine pure_ (i := 21) (N := some 26) (v := undef) (a' := ?_) #[true, true, true, true, true, true, true, true, true, true, true, true, true, true, true, true, true, true, true, true, true, true, false, false, false] rfl rfl (any_of HT_.out (by kernel_rfl)) (fun _ _ _ h => h) (Or.inr ⟨by rfl, rfl⟩) ?_ ?_
         rotate_left
         · simp only [Act.put, zaa, zab, zac, i64_w, i32_w]
           rfl
         refine pure_ (i := 22) (N := some 27) (v := undef) (a' := ?_) #[true, true, true, true, true, true, true, true, true, true, true, true, true, true, true, true, true, true, true, true, true, true, true, false, false] rfl rfl (any_of HT_.out (by kernel_rfl)) (fun _ _ _ h => h) (Or.inr ⟨by rfl, rfl⟩) ?_ ?_
         rotate_left
         · simp only [Act.put, zaa, zab, zac, i64_w, i32_w]
           rfl
         refine pure_ (i := 23) (N := some 28) (v := ?_) (a' := ?_) #[true, true, true, true, true, true, true, true, true, true, true, true, true, true, true, true, true, true, true, true, true, true, true, true, false] rfl rfl (any_of HT_.out (by kernel_rfl)) (fun _ _ _ h => h) (Or.inl ⟨by rfl, ?_⟩) ?_ ?_
         rotate_left
         · intro w'
           go_simp
           with_reducible rfl
         rotate_left
         · simp only [Act.put, zaa, zab, zac, i64_w, i32_w]
           rfl
         refine pure_ (i := 24) (N := some 4) (v := ?_) (a' := ?_) #[true, true, true, true, true, true, true, true, true, true, true, true, true, true, true, true, true, true, true, true, true, true, true, true, true] rfl rfl (any_of HT_.out (by kernel_rfl)) (fun _ _ _ h => h) (Or.inl ⟨by rfl, ?_⟩) ?_ ?_
         rotate_left
         · intro w'
           go_simp
           with_reducible rfl
         rotate_left
         · simp only [Act.put, zaa, zab, zac, i64_w, i32_w]
           rfl
         refine done_ (done_of HT_.out (by kernel_rfl)) ?_
         try go_wp2
         go_ret
         exact ⟨by first | rfl | (simp [errW_none, errW_some] <;> rfl) | (simp [*, errW_none, errW_some] <;> rfl), by repeat (first | (with_reducible first | exact HB.out | apply zag | apply zae | apply zaf | refine zah ?_ GE473.out) | exact HB.out)⟩
     · rw [if_neg c6] at H
       exact absurd H (by simp)
   · rw [if_neg c5] at H
     exact absurd H (by simp)
 · replace c4 := Bool.eq_false_iff.mpr c4
   subst c4
   have H1 : (some false) = some r := by rw [if_neg (show ¬ (false = true) by decide)] at H; exact H
   clear H
   have H := H1
   clear H1
   obtain rfl := Option.some.inj H
   go_enter Try.func104, Try.ntmps104
   try go_wp2_with (first | ((with_reducible refine gate_dst (N := 3) rfl ?_); refine box_event ?hg (N := 3) ?hd (cs := #[.int .i64 a1_0, .int .i64 a1_1, .int .i64 a1_2]) (t := 39) ?hr ?_; (case hd => rfl); (case hg => rfl); (case hr => first | (go_simp; done) | (go_simp; rfl)); intro gb473 hg w16 hbox hb; have n0_ := zad (below_step (by repeat (first | (with_reducible first | exact HB.out | apply zag | apply zae | apply zaf) | exact HB.out)) hb); have n1_ := zad (hbox); have n2_ := zad ((by rw [hg]; exact (below_size (by repeat (first | (with_reducible first | exact HB.out | apply zag | apply zae | apply zaf) | exact HB.out))) : w.heap.size ≤ gb473)); have n3_ := zad ((by rw [hg]; exact (below_size (by repeat (first | (with_reducible first | exact HB.out | apply zag | apply zae | apply zaf) | exact HB.out))) : w.heap.size ≤ gb473)); clear HB; have HB := n0_; have BK473 := n1_; have GW473 := n2_; have GE473 := n3_; clear n0_ n1_ n2_ n3_; clear hb hbox hg))
   have n0_ := zad (blk_drew BK473.out)
   have n1_ := zad (zaf HB.out)
   clear BK473
   clear HB
   have BK473 := n0_
   have HB := n1_
   clear n0_ n1_
   refine start_ (n := 25) (S := fun w' => w'.cell? ⟨gb473, 0, none⟩ = some (.int .i64 a1_0) ∧ w'.cell? ⟨gb473, 1, none⟩ = some (.int .i64 a1_1) ∧ w'.cell? ⟨gb473, 2, none⟩ = some (.int .i64 a1_2)) (ds := []) #[false, false, false, false, false, false, false, false, false, false, false, false, false, false, false, false, false, false, false, false, false, false, false, false, false] (by kernel_rfl) rfl rfl ⟨(blk_cell BK473.out 0).trans rfl, (blk_cell BK473.out 1).trans rfl, (blk_cell BK473.out 2).trans rfl⟩ (fun hHeld => ?_); refine with_tabW impl_canGive.tab1 impl_canGive.bits1 (fun HT_ HW_ => ?_)
   generalize w16.drew = w17 at BK473 HB hHeld ⊢
   refine pure_ (i := 0) (N := some 5) (v := ?_) (a' := ?_) #[true, false, false, false, false, false, false, false, false, false, false, false, false, false, false, false, false, false, false, false, false, false, false, false, false] rfl rfl (any_of HT_.out (by kernel_rfl)) (fun _ _ _ h => h) (Or.inl ⟨by rfl, ?_⟩) ?_ ?_
   rotate_left
   · intro w'
     go_simp
     with_reducible rfl
   rotate_left
   · simp only [Act.put, zaa, zab, zac, i64_w, i32_w]
     rfl
   refine take_ (i := 1) (N := some 6) (v := ?_) (a' := ?_) #[true, true, false, false, false, false, false, false, false, false, false, false, false, false, false, false, false, false, false, false, false, false, false, false, false] rfl rfl (take_ofW HT_.out HW_.out (by kernel_rfl)) (fun _ _ _ h => h) (Or.inl ⟨by rfl, ?_⟩) hHeld ?_ ?_
   rotate_left
   · rintro w' ⟨s0, s1, s2⟩
     go_simp
     with_reducible rfl
   rotate_left
   · simp only [Act.put, zaa, zab, zac, i64_w, i32_w]
     rfl
   refine one_ (i := 2) (N := some 7) #[true, true, true, false, false, false, false, false, false, false, false, false, false, false, false, false, false, false, false, false, false, false, false, false, false] rfl rfl (one_of HT_.out (by kernel_rfl)) (by decide) (fun K hK => ?_)
   refine goes_ Try.func102 (by kernel_rfl) rfl #[.slice A0 l0.length c0, .agg #[.int .i64 a1_0, .int .i64 a1_1, .int .i64 a1_2]] (by rfl) rfl rfl (by (try simp only [zat, zau, zav]); first | done | rfl | (simp only [zaw, zax]; rfl)) ?_
   with_reducible refine (impl_isGift.calls _ _ l0 a1_0 a1_1 a1_2 false _ ?side1 ?side2 A3.out).mono ?_
   (case side1 => repeat (first | exact (Kd.C_below HR0.out HB.out) | (with_reducible refine zal ?_ _) | (with_reducible refine zam ?_ _) | (with_reducible refine zan ?_)))
   (case side2 => exact HC0.out)
   rintro e w18 ⟨rfl, hb⟩
   refine ⟨_, rfl, ?_⟩
   have n0_ := zad (blk_below (g := gb473) (o := .cells #[.int .i64 a1_0, .int .i64 a1_1, .int .i64 a1_2] 39 (0, 0)) (by (with_reducible repeat (first | refine blk_drewN ?_ _ | refine blk_drew ?_ | refine blk_alloc ?_ _)); exact BK473.out) hb)
   have n1_ := zad (below_step (by repeat (first | (with_reducible first | exact HB.out | apply zag | apply zae | apply zaf | refine zah ?_ GE473.out) | exact HB.out)) hb)
   clear BK473
   clear HB
   have BK473 := n0_
   have HB := n1_
   clear n0_ n1_
   (try clear hb)
   (try clear hb2)
   (try clear hk)
   (try clear hi)
   refine hK.out _ _ ⟨(blk_cell BK473.out 0).trans rfl, (blk_cell BK473.out 1).trans rfl, (blk_cell BK473.out 2).trans rfl⟩ (fun hHeld => ?_)
   clear hK K
   refine norm_ (a' := ?_) ?_ ?_
   rotate_left
   · show Act.put _ (some 7) _ = _
     simp only [Act.put, zaa, zab, zac, i64_w, i32_w]
     rfl
   refine pure_ (i := 3) (N := some 8) (v := ?_) (a' := ?_) #[true, true, true, true, false, false, false, false, false, false, false, false, false, false, false, false, false, false, false, false, false, false, false, false, false] rfl rfl (any_of HT_.out (by kernel_rfl)) (fun _ _ _ h => h) (Or.inl ⟨by rfl, ?_⟩) ?_ ?_
   rotate_left
   · intro w'
     go_simp
     with_reducible rfl
   rotate_left
   · simp only [Act.put, zaa, zab, zac, i64_w, i32_w]
     rfl
   refine pure_ (i := 4) (N := some 9) (v := undef) (a' := ?_) #[true, true, true, true, true, false, false, false, false, false, false, false, false, false, false, false, false, false, false, false, false, false, false, false, false] rfl rfl (any_of HT_.out (by kernel_rfl)) (fun _ _ _ h => h) (Or.inr ⟨by rfl, rfl⟩) ?_ ?_
   rotate_left
   · simp only [Act.put, zaa, zab, zac, i64_w, i32_w]
     rfl
   refine pure_ (i := 5) (N := some 10) (v := undef) (a' := ?_) #[true, true, true, true, true, true, false, false, false, false, false, false, false, false, false, false, false, false, false, false, false, false, false, false, false] rfl rfl (any_of HT_.out (by kernel_rfl)) (fun _ _ _ h => h) (Or.inr ⟨by rfl, rfl⟩) ?_ ?_
   rotate_left
   · simp only [Act.put, zaa, zab, zac, i64_w, i32_w]
     rfl
   refine pure_ (i := 6) (N := some 11) (v := undef) (a' := ?_) #[true, true, true, true, true, true, true, false, false, false, false, false, false, false, false, false, false, false, false, false, false, false, false, false, false] rfl rfl (any_of HT_.out (by kernel_rfl)) (fun _ _ _ h => h) (Or.inr ⟨by rfl, rfl⟩) ?_ ?_
   rotate_left
   · simp only [Act.put, zaa, zab, zac, i64_w, i32_w]
     rfl
   refine pure_ (i := 7) (N := some 12) (v := undef) (a' := ?_) #[true, true, true, true, true, true, true, true, false, false, false, false, false, false, false, false, false, false, false, false, false, false, false, false, false] rfl rfl (any_of HT_.out (by kernel_rfl)) (fun _ _ _ h => h) (Or.inr ⟨by rfl, rfl⟩) ?_ ?_
   rotate_left
   · simp only [Act.put, zaa, zab, zac, i64_w, i32_w]
     rfl
   refine pure_ (i := 8) (N := some 13) (v := undef) (a' := ?_) #[true, true, true, true, true, true, true, true, true, false, false, false, false, false, false, false, false, false, false, false, false, false, false, false, false] rfl rfl (any_of HT_.out (by kernel_rfl)) (fun _ _ _ h => h) (Or.inr ⟨by rfl, rfl⟩) ?_ ?_
   rotate_left
   · simp only [Act.put, zaa, zab, zac, i64_w, i32_w]
     rfl
   refine pure_ (i := 9) (N := some 14) (v := undef) (a' := ?_) #[true, true, true, true, true, true, true, true, true, true, false, false, false, false, false, false, false, false, false, false, false, false, false, false, false] rfl rfl (any_of HT_.out (by kernel_rfl)) (fun _ _ _ h => h) (Or.inr ⟨by rfl, rfl⟩) ?_ ?_
   rotate_left
   · simp only [Act.put, zaa, zab, zac, i64_w, i32_w]
     rfl
   refine pure_ (i := 10) (N := some 15) (v := undef) (a' := ?_) #[true, true, true, true, true, true, true, true, true, true, true, false, false, false, false, false, false, false, false, false, false, false, false, false, false] rfl rfl (any_of HT_.out (by kernel_rfl)) (fun _ _ _ h => h) (Or.inr ⟨by rfl, rfl⟩) ?_ ?_
   rotate_left
   · simp only [Act.put, zaa, zab, zac, i64_w, i32_w]
     rfl
   refine pure_ (i := 11) (N := some 16) (v := undef) (a' := ?_) #[true, true, true, true, true, true, true, true, true, true, true, true, false, false, false, false, false, false, false, false, false, false, false, false, false] rfl rfl (any_of HT_.out (by kernel_rfl)) (fun _ _ _ h => h) (Or.inr ⟨by rfl, rfl⟩) ?_ ?_
   rotate_left
   · simp only [Act.put, zaa, zab, zac, i64_w, i32_w]
     rfl
   refine pure_ (i := 12) (N := some 17) (v := ?_) (a' := ?_) #[true, true, true, true, true, true, true, true, true, true, true, true, true, false, false, false, false, false, false, false, false, false, false, false, false] rfl rfl (any_of HT_.out (by kernel_rfl)) (fun _ _ _ h => h) (Or.inl ⟨by rfl, ?_⟩) ?_ ?_
   rotate_left
   · intro w'
     go_simp
     with_reducible rfl
   rotate_left
   · simp only [Act.put, zaa, zab, zac, i64_w, i32_w]
     rfl
   refine pure_ (i := 13) (N := some 18) (v := ?_) (a' := ?_) #[true, true, true, true, true, true, true, true, true, true, true, true, true, true, false, false, false, false, false, false, false, false, false, false, false] rfl rfl (any_of HT_.out (by kernel_rfl)) (fun _ _ _ h => h) (Or.inl ⟨by rfl, ?_⟩) ?_ ?_
   rotate_left
   · intro w'
     go_simp
     with_reducible rfl
   rotate_left
   · simp only [Act.put, zaa, zab, zac, i64_w, i32_w]
     rfl
   refine pure_ (i := 14) (N := some 19) (v := undef) (a' := ?_) #[true, true, true, true, true, true, true, true, true, true, true, true, true, true, true, false, false, false, false, false, false, false, false, false, false] rfl rfl (any_of HT_.out (by kernel_rfl)) (fun _ _ _ h => h) (Or.inr ⟨by rfl, rfl⟩) ?_ ?_
   rotate_left
   · simp only [Act.put, zaa, zab, zac, i64_w, i32_w]
     rfl
   refine pure_ (i := 15) (N := some 20) (v := undef) (a' := ?_) #[true, true, true, true, true, true, true, true, true, true, true, true, true, true, true, true, false, false, false, false, false, false, false, false, false] rfl rfl (any_of HT_.out (by kernel_rfl)) (fun _ _ _ h => h) (Or.inr ⟨by rfl, rfl⟩) ?_ ?_
   rotate_left
   · simp only [Act.put, zaa, zab, zac, i64_w, i32_w]
     rfl
   refine pure_ (i := 16) (N := some 21) (v := undef) (a' := ?_) #[true, true, true, true, true, true, true, true, true, true, true, true, true, true, true, true, true, false, false, false, false, false, false, false, false] rfl rfl (any_of HT_.out (by kernel_rfl)) (fun _ _ _ h => h) (Or.inr ⟨by rfl, rfl⟩) ?_ ?_
   rotate_left
   · simp only [Act.put, zaa, zab, zac, i64_w, i32_w]
     rfl
   refine pure_ (i := 17) (N := some 22) (v := undef) (a' := ?_) #[true, true, true, true, true, true, true, true, true, true, true, true, true, true, true, true, true, true, false, false, false, false, false, false, false] rfl rfl (any_of HT_.out (by kernel_rfl)) (fun _ _ _ h => h) (Or.inr ⟨by rfl, rfl⟩) ?_ ?_
   rotate_left
   · simp only [Act.put, zaa, zab, zac, i64_w, i32_w]
     rfl
   refine pure_ (i := 18) (N := some 23) (v := undef) (a' := ?_) #[true, true, true, true, true, true, true, true, true, true, true, true, true, true, true, true, true, true, true, false, false, false, false, false, false] rfl rfl (any_of HT_.out (by kernel_rfl)) (fun _ _ _ h => h) (Or.inr ⟨by rfl, rfl⟩) ?_ ?_
   rotate_left
   · simp only [Act.put, zaa, zab, zac, i64_w, i32_w]
     rfl
   refine pure_ (i := 19) (N := some 24) (v := undef) (a' := ?_) #[true, true, true, true, true, true, true, true, true, true, true, true, true, true, true, true, true, true, true, true, false, false, false, false, false] rfl rfl (any_of HT_.out (by kernel_rfl)) (fun _ _ _ h => h) (Or.inr ⟨by rfl, rfl⟩) ?_ ?_
   rotate_left
   · simp only [Act.put, zaa, zab, zac, i64_w, i32_w]
     rfl
   refine pure_ (i := 20) (N := some 25) (v := undef) (a' := ?_) #[true, true, true, true, true, true, true, true, true, true, true, true, true, true, true, true, true, true, true, true, true, false, false, false, false] rfl rfl (any_of HT_.out (by kernel_rfl)) (fun _ _ _ h => h) (Or.inr ⟨by rfl, rfl⟩) ?_ ?_
   rotate_left
   · simp only [Act.put, zaa, zab, zac, i64_w, i32_w]
     rfl
   refine pure_ (i := 21) (N := some 26) (v := undef) (a' := ?_) #[true, true, true, true, true, true, true, true, true, true, true, true, true, true, true, true, true, true, true, true, true, true, false, false, false] rfl rfl (any_of HT_.out (by kernel_rfl)) (fun _ _ _ h => h) (Or.inr ⟨by rfl, rfl⟩) ?_ ?_
   rotate_left
   · simp only [Act.put, zaa, zab, zac, i64_w, i32_w]
     rfl
   refine pure_ (i := 22) (N := some 27) (v := undef) (a' := ?_) #[true, true, true, true, true, true, true, true, true, true, true, true, true, true, true, true, true, true, true, true, true, true, true, false, false] rfl rfl (any_of HT_.out (by kernel_rfl)) (fun _ _ _ h => h) (Or.inr ⟨by rfl, rfl⟩) ?_ ?_
   rotate_left
   · simp only [Act.put, zaa, zab, zac, i64_w, i32_w]
     rfl
   refine pure_ (i := 23) (N := some 28) (v := ?_) (a' := ?_) #[true, true, true, true, true, true, true, true, true, true, true, true, true, true, true, true, true, true, true, true, true, true, true, true, false] rfl rfl (any_of HT_.out (by kernel_rfl)) (fun _ _ _ h => h) (Or.inl ⟨by rfl, ?_⟩) ?_ ?_
   rotate_left
   · intro w'
     go_simp
     with_reducible rfl
   rotate_left
   · simp only [Act.put, zaa, zab, zac, i64_w, i32_w]
     rfl
   refine pure_ (i := 24) (N := some 4) (v := ?_) (a' := ?_) #[true, true, true, true, true, true, true, true, true, true, true, true, true, true, true, true, true, true, true, true, true, true, true, true, true] rfl rfl (any_of HT_.out (by kernel_rfl)) (fun _ _ _ h => h) (Or.inl ⟨by rfl, ?_⟩) ?_ ?_
   rotate_left
   · intro w'
     go_simp
     with_reducible rfl
   rotate_left
   · simp only [Act.put, zaa, zab, zac, i64_w, i32_w]
     rfl
   refine done_ (done_of HT_.out (by kernel_rfl)) ?_
   try go_wp2
   go_ret
   exact ⟨by first | rfl | (simp [errW_none, errW_some] <;> rfl) | (simp [*, errW_none, errW_some] <;> rfl), by repeat (first | (with_reducible first | exact HB.out | apply zag | apply zae | apply zaf | refine zah ?_ GE473.out) | exact HB.out)⟩
def impl_isKind.f (l0 : List Int) (a1_0 : Int) (a1_1 : Int) (a1_2 : Int) : Option (Bool) := (impl_canGive.f l0 a1_0 a1_1 a1_2).bind fun t478 => (if t478 = true then (if 0 ≤ a1_0 then (if a1_0 < (l0.length : Int) then (if 0 ≤ a1_1 then (if a1_1 < (l0.length : Int) then (some (decide ((wrap64 ((rd l0 a1_0) - a1_2)) ≥ (wrap64 ((rd l0 a1_1) + a1_2))))) else (none)) else (none)) else (none)) else (none)) else (some false))
def impl_isKind.T1 : Bool × List (List Nat × List Nat) := (true, [([], []), ([], []), ([0, 1], [0, 1]), ([2, 2], [2]), ([3], [3]), ([3], [3]), ([5, 3], [3, 5]), ([4, 6, 3], [3, 4, 6]), ([7, 3], [3, 7]), ([3], [3]), ([9, 3], [3, 9]), ([8, 10, 3], [3, 8, 10]), ([3], [3]), ([3], [3]), ([13, 3], [3, 13]), ([12, 14, 3], [3, 12, 14]), ([15, 3], [3, 15]), ([3], [3]), ([17, 3], [3, 17]), ([16, 18, 3], [3, 16, 18]), ([11, 19, 3], [3, 11, 19]), ([3, 20], [3, 20]), ([21, 3, 0, 1, 2, 3, 4, 5, 6, 7, 8, 9, 10, 11, 12, 13, 14, 15, 16, 17, 18, 19, 20, 21], [21])])
def impl_isKind.B1 : List Nat := [0, 0, 3, 7, 15, 15, 47, 127, 255, 15, 527, 2047, 15, 15, 8207, 28687, 61455, 15, 131087, 520207, 1048575, 2097151, 4194303]
theorem impl_isKind.tab1 : rtab .any (opsOf Try.f98 1) = impl_isKind.T1 := by kernel_rfl
theorem impl_isKind.bits1 : waitsOk impl_isKind.T1.2 impl_isKind.B1 = true := by kernel_rfl
set_option maxHeartbeats 8000000 in
set_option maxRecDepth 100000 in
theorem impl_isKind.calls (A0 : Option Addr) (c0 : Nat) (l0 : List Int) (a1_0 : Int) (a1_1 : Int) (a1_2 : Int) (r : Bool) (w : World) (hr0 : Kd.C (Kd.int .i64) w A0 l0.length l0) (hc0 : l0.length ≤ c0) (h : impl_isKind.f l0 a1_0 a1_1 a1_2 = some r) :
 Calls Try.prog 98 #[.slice A0 l0.length c0, .agg #[.int .i64 a1_0, .int .i64 a1_1, .int .i64 a1_2]] w fun e w' => e = .returned (.bool r) ∧ Below w.heap.size w w' := by
 have hu39 := Try.underlying39
 have HR0 := zad hr0
 have HC0 := zad hc0
 clear hr0 hc0
 have HB := zad (Below.refl w.heap.size w)
 have H : ((impl_canGive.f l0 a1_0 a1_1 a1_2).bind fun t478 => (if t478 = true then (if 0 ≤ a1_0 then (if a1_0 < (l0.length : Int) then (if 0 ≤ a1_1 then (if a1_1 < (l0.length : Int) then (some (decide ((wrap64 ((rd l0 a1_0) - a1_2)) ≥ (wrap64 ((rd l0 a1_1) + a1_2))))) else (none)) else (none)) else (none)) else (none)) else (some false))) = some r := h
 clear h
 replace H := Option.bind_eq_some_iff.mp H
 obtain ⟨t478, A30, H⟩ := H
 replace H : (if t478 = true then (if 0 ≤ a1_0 then (if a1_0 < (l0.length : Int) then (if 0 ≤ a1_1 then (if a1_1 < (l0.length : Int) then (some (decide ((wrap64 ((rd l0 a1_0) - a1_2)) ≥ (wrap64 ((rd l0 a1_1) + a1_2))))) else (none)) else (none)) else (none)) else (none)) else (some false)) = some r := H
 have A3 := zad A30
 clear A30
 by_cases c4 : t478 = true
 · subst c4
   have H1 : (if 0 ≤ a1_0 then (if a1_0 < (l0.length : Int) then (if 0 ≤ a1_1 then (if a1_1 < (l0.length : Int) then (some (decide ((wrap64 ((rd l0 a1_0) - a1_2)) ≥ (wrap64 ((rd l0 a1_1) + a1_2))))) else (none)) else (none)) else (none)) else (none)) = some r := by rw [if_pos rfl] at H; exact H
   clear H
   have H := H1
   clear H1
   by_cases c5 : 0 ≤ a1_0
   · rw [if_pos c5] at H
     have c5b0 : decide (0 ≤ a1_0) = true := zaz c5
     clear c5
     by_cases c6 : a1_0 < (l0.length : Int)
     · rw [if_pos c6] at H
       have c6b0 : decide (a1_0 < (l0.length : Int)) = true := zaz c6
       clear c6
       by_cases c7 : 0 ≤ a1_1
       · rw [if_pos c7] at H
         have c7b0 : decide (0 ≤ a1_1) = true := zaz c7
         clear c7
         by_cases c8 : a1_1 < (l0.length : Int)
         · rw [if_pos c8] at H
           have c8b0 : decide (a1_1 < (l0.length : Int)) = true := zaz c8
           clear c8
           obtain rfl := Option.some.inj H
           go_enter Try.func98, Try.ntmps98
           try go_wp2_with (first | ((with_reducible refine gate_dst (N := 3) rfl ?_); refine box_event ?hg (N := 3) ?hd (cs := #[.int .i64 a1_0, .int .i64 a1_1, .int .i64 a1_2]) (t := 39) ?hr ?_; (case hd => rfl); (case hg => rfl); (case hr => first | (go_simp; done) | (go_simp; rfl)); intro gb477 hg w9 hbox hb; have n0_ := zad (below_step (by repeat (first | (with_reducible first | exact HB.out | apply zag | apply zae | apply zaf) | exact HB.out)) hb); have n1_ := zad (hbox); have n2_ := zad ((by rw [hg]; exact (below_size (by repeat (first | (with_reducible first | exact HB.out | apply zag | apply zae | apply zaf) | exact HB.out))) : w.heap.size ≤ gb477)); have n3_ := zad ((by rw [hg]; exact (below_size (by repeat (first | (with_reducible first | exact HB.out | apply zag | apply zae | apply zaf) | exact HB.out))) : w.heap.size ≤ gb477)); clear HB; have HB := n0_; have BK477 := n1_; have GW477 := n2_; have GE477 := n3_; clear n0_ n1_ n2_ n3_; clear hb hbox hg))
           have n0_ := zad (blk_drew BK477.out)
           have n1_ := zad (zaf HB.out)
           clear BK477
           clear HB
           have BK477 := n0_
           have HB := n1_
           clear n0_ n1_
           have p479 : 0 ≤ (a1_0 : Int) := zas (by first | (with_reducible assumption) | assumption)
           have q479 : a1_0 < (l0.length : Int) := zas (by first | (with_reducible assumption) | assumption)
           obtain ⟨ad479, e479, hx479_0⟩ := Kd.at_int HR0.out a1_0 p479 q479
           have hw479_0 := hx479_0
           cases e479
           replace hx479_0 := (HB.out.cell (zay w _ hx479_0)).trans hx479_0
           replace p479 := eq_true p479
           replace q479 := eq_true q479
           have p480 : 0 ≤ (a1_1 : Int) := zas (by first | (with_reducible assumption) | assumption)
           have q480 : a1_1 < (l0.length : Int) := zas (by first | (with_reducible assumption) | assumption)
           obtain ⟨ad480, e480, hx480_0⟩ := Kd.at_int HR0.out a1_1 p480 q480
           have hw480_0 := hx480_0
           obtain rfl : ad479 = ad480 := (by injection e480)
           replace hx480_0 := (HB.out.cell (zay w _ hx480_0)).trans hx480_0
           replace p480 := eq_true p480
           replace q480 := eq_true q480
           refine start_ (n := 23) (S := fun w' => w'.cell? ⟨gb477, 0, none⟩ = some (.int .i64 a1_0) ∧ w'.cell? ⟨gb477, 1, none⟩ = some (.int .i64 a1_1) ∧ w'.cell? ⟨gb477, 2, none⟩ = some (.int .i64 a1_2) ∧ w'.cell? (ad479.add (a1_0).toNat) = some (.int .i64 (rd l0 a1_0)) ∧ w'.cell? (ad479.add (a1_1).toNat) = some (.int .i64 (rd l0 a1_1))) (ds := []) #[false, false, false, false, false, false, false, false, false, false, false, false, false, false, false, false, false, false, false, false, false, false, false] (by kernel_rfl) rfl rfl ⟨(blk_cell BK477.out 0).trans rfl, (blk_cell BK477.out 1).trans rfl, (blk_cell BK477.out 2).trans rfl, ((HB.out.cell (zay w _ hw479_0)).trans hw479_0), ((HB.out.cell (zay w _ hw480_0)).trans hw480_0)⟩ (fun hHeld => ?_); refine with_tabW impl_isKind.tab1 impl_isKind.bits1 (fun HT_ HW_ => ?_)
           generalize w9.drew = w10 at BK477 HB hx479_0 hx480_0 hHeld ⊢
           refine pure_ (i := 0) (N := some 5) (v := ?_) (a' := ?_) #[true, false, false, false, false, false, false, false, false, false, false, false, false, false, false, false, false, false, false, false, false, false, false] rfl rfl (any_of HT_.out (by kernel_rfl)) (fun _ _ _ h => h) (Or.inl ⟨by rfl, ?_⟩) ?_ ?_
           rotate_left
           · intro w'
             go_simp
             with_reducible rfl
           rotate_left
           · simp only [Act.put, zaa, zab, zac, i64_w, i32_w]
             rfl
           refine take_ (i := 1) (N := some 6) (v := ?_) (a' := ?_) #[true, true, false, false, false, false, false, false, false, false, false, false, false, false, false, false, false, false, false, false, false, false, false] rfl rfl (take_ofW HT_.out HW_.out (by kernel_rfl)) (fun _ _ _ h => h) (Or.inl ⟨by rfl, ?_⟩) hHeld ?_ ?_
           rotate_left
           · rintro w' ⟨s0, s1, s2, s3, s4⟩
             go_simp
             with_reducible rfl
           rotate_left
           · simp only [Act.put, zaa, zab, zac, i64_w, i32_w]
             rfl
           refine one_ (i := 2) (N := some 7) #[true, true, true, false, false, false, false, false, false, false, false, false, false, false, false, false, false, false, false, false, false, false, false] rfl rfl (one_of HT_.out (by kernel_rfl)) (by decide) (fun K hK => ?_)
           refine goes_ Try.func104 (by kernel_rfl) rfl #[.slice (some ad479) l0.length c0, .agg #[.int .i64 a1_0, .int .i64 a1_1, .int .i64 a1_2]] (by rfl) rfl rfl (by (try simp only [zat, zau, zav]); first | done | rfl | (simp only [zaw, zax]; rfl)) ?_
           with_reducible refine (impl_canGive.calls _ _ l0 a1_0 a1_1 a1_2 true _ ?side1 ?side2 A3.out).mono ?_
           (case side1 => repeat (first | exact (Kd.C_below HR0.out HB.out) | (with_reducible refine zal ?_ _) | (with_reducible refine zam ?_ _) | (with_reducible refine zan ?_)))
           (case side2 => exact HC0.out)
           rintro e w11 ⟨rfl, hb⟩
           refine ⟨_, rfl, ?_⟩
           have n0_ := zad (blk_below (g := gb477) (o := .cells #[.int .i64 a1_0, .int .i64 a1_1, .int .i64 a1_2] 39 (0, 0)) (by (with_reducible repeat (first | refine blk_drewN ?_ _ | refine blk_drew ?_ | refine blk_alloc ?_ _)); exact BK477.out) hb)
           have n1_ := zad (below_step (by repeat (first | (with_reducible first | exact HB.out | apply zag | apply zae | apply zaf | refine zah ?_ GE477.out) | exact HB.out)) hb)
           clear BK477
           clear HB
           have BK477 := n0_
           have HB := n1_
           clear n0_ n1_
           (try clear hb)
           (try clear hb2)
           (try clear hk)
           (try clear hi)
           refine hK.out _ _ ⟨(blk_cell BK477.out 0).trans rfl, (blk_cell BK477.out 1).trans rfl, (blk_cell BK477.out 2).trans rfl, ((HB.out.cell (zay w _ hw479_0)).trans hw479_0), ((HB.out.cell (zay w _ hw480_0)).trans hw480_0)⟩ (fun hHeld => ?_)
           clear hK K
           refine norm_ (a' := ?_) ?_ ?_
           rotate_left
           · show Act.put _ (some 7) _ = _
             simp only [Act.put, zaa, zab, zac, i64_w, i32_w]
             rfl
           refine pure_ (i := 3) (N := some 8) (v := ?_) (a' := ?_) #[true, true, true, true, false, false, false, false, false, false, false, false, false, false, false, false, false, false, false, false, false, false, false] rfl rfl (any_of HT_.out (by kernel_rfl)) (fun _ _ _ h => h) (Or.inl ⟨by rfl, ?_⟩) ?_ ?_
           rotate_left
           · intro w'
             go_simp
             with_reducible rfl
           rotate_left
           · simp only [Act.put, zaa, zab, zac, i64_w, i32_w]
             rfl
           refine pure_ (i := 4) (N := some 9) (v := ?_) (a' := ?_) #[true, true, true, true, true, false, false, false, false, false, false, false, false, false, false, false, false, false, false, false, false, false, false] rfl rfl (any_of HT_.out (by kernel_rfl)) (fun _ _ _ h => h) (Or.inl ⟨by rfl, ?_⟩) ?_ ?_
           rotate_left
           · intro w'
             go_simp
             with_reducible rfl
           rotate_left
           · simp only [Act.put, zaa, zab, zac, i64_w, i32_w]
             rfl
           refine pure_ (i := 5) (N := some 10) (v := ?_) (a' := ?_) #[true, true, true, true, true, true, false, false, false, false, false, false, false, false, false, false, false, false, false, false, false, false, false] rfl rfl (any_of HT_.out (by kernel_rfl)) (fun _ _ _ h => h) (Or.inl ⟨by rfl, ?_⟩) ?_ ?_
           rotate_left
           · intro w'
             go_simp
             with_reducible rfl
           rotate_left
           · simp only [Act.put, zaa, zab, zac, i64_w, i32_w]
             rfl
           refine pure_ (i := 9) (N := some 14) (v := ?_) (a' := ?_) #[true, true, true, true, true, true, false, false, false, true, false, false, false, false, false, false, false, false, false, false, false, false, false] rfl rfl (any_of HT_.out (by kernel_rfl)) (fun _ _ _ h => h) (Or.inl ⟨by rfl, ?_⟩) ?_ ?_
           rotate_left
           · intro w'
             go_simp
             with_reducible rfl
           rotate_left
           · simp only [Act.put, zaa, zab, zac, i64_w, i32_w]
             rfl
           refine pure_ (i := 12) (N := some 17) (v := ?_) (a' := ?_) #[true, true, true, true, true, true, false, false, false, true, false, false, true, false, false, false, false, false, false, false, false, false, false] rfl rfl (any_of HT_.out (by kernel_rfl)) (fun _ _ _ h => h) (Or.inl ⟨by rfl, ?_⟩) ?_ ?_
           rotate_left
           · intro w'
             go_simp
             with_reducible rfl
           rotate_left
           · simp only [Act.put, zaa, zab, zac, i64_w, i32_w]
             rfl
           refine pure_ (i := 13) (N := some 18) (v := ?_) (a' := ?_) #[true, true, true, true, true, true, false, false, false, true, false, false, true, true, false, false, false, false, false, false, false, false, false] rfl rfl (any_of HT_.out (by kernel_rfl)) (fun _ _ _ h => h) (Or.inl ⟨by rfl, ?_⟩) ?_ ?_
           rotate_left
           · intro w'
             go_simp
             with_reducible rfl
           rotate_left
           · simp only [Act.put, zaa, zab, zac, i64_w, i32_w]
             rfl
           refine pure_ (i := 17) (N := some 22) (v := ?_) (a' := ?_) #[true, true, true, true, true, true, false, false, false, true, false, false, true, true, false, false, false, true, false, false, false, false, false] rfl rfl (any_of HT_.out (by kernel_rfl)) (fun _ _ _ h => h) (Or.inl ⟨by rfl, ?_⟩) ?_ ?_
           rotate_left
           · intro w'
             go_simp
             with_reducible rfl
           rotate_left
           · simp only [Act.put, zaa, zab, zac, i64_w, i32_w]
             rfl
           refine take_ (i := 6) (N := some 11) (v := ?_) (a' := ?_) #[true, true, true, true, true, true, true, false, false, true, false, false, true, true, false, false, false, true, false, false, false, false, false] rfl rfl (take_ofW HT_.out HW_.out (by kernel_rfl)) (fun _ _ _ h => h) (Or.inl ⟨by rfl, ?_⟩) hHeld ?_ ?_
           rotate_left
           · rintro w' ⟨s0, s1, s2, s3, s4⟩
             go_simp
             with_reducible rfl
           rotate_left
           · simp only [Act.put, zaa, zab, zac, i64_w, i32_w]
             rfl
           refine pure_ (i := 7) (N := some 12) (v := ?_) (a' := ?_) #[true, true, true, true, true, true, true, true, false, true, false, false, true, true, false, false, false, true, false, false, false, false, false] rfl rfl (any_of HT_.out (by kernel_rfl)) (fun _ _ _ h => h) (Or.inl ⟨by rfl, ?_⟩) ?_ ?_
           rotate_left
           · intro w'
             go_simp
             with_reducible rfl
           rotate_left
           · simp only [Act.put, zaa, zab, zac, i64_w, i32_w]
             rfl
           refine take_ (i := 8) (N := some 13) (v := ?_) (a' := ?_) #[true, true, true, true, true, true, true, true, true, true, false, false, true, true, false, false, false, true, false, false, false, false, false] rfl rfl (take_ofW HT_.out HW_.out (by kernel_rfl)) (fun _ _ _ h => h) (Or.inl ⟨by rfl, ?_⟩) hHeld ?_ ?_
           rotate_left
           · rintro w' ⟨s0, s1, s2, s3, s4⟩
             go_simp
             with_reducible rfl
           rotate_left
           · simp only [Act.put, zaa, zab, zac, i64_w, i32_w]
             rfl
           refine take_ (i := 10) (N := some 15) (v := ?_) (a' := ?_) #[true, true, true, true, true, true, true, true, true, true, true, false, true, true, false, false, false, true, false, false, false, false, false] rfl rfl (take_ofW HT_.out HW_.out (by kernel_rfl)) (fun _ _ _ h => h) (Or.inl ⟨by rfl, ?_⟩) hHeld ?_ ?_
           rotate_left
           · rintro w' ⟨s0, s1, s2, s3, s4⟩
             go_simp
             with_reducible rfl
           rotate_left
           · simp only [Act.put, zaa, zab, zac, i64_w, i32_w]
             rfl
           refine pure_ (i := 11) (N := some 16) (v := ?_) (a' := ?_) #[true, true, true, true, true, true, true, true, true, true, true, true, true, true, false, false, false, true, false, false, false, false, false] rfl rfl (any_of HT_.out (by kernel_rfl)) (fun _ _ _ h => h) (Or.inl ⟨by rfl, ?_⟩) ?_ ?_
           rotate_left
           · intro w'
             go_simp
             with_reducible rfl
           rotate_left
           · simp only [Act.put, zaa, zab, zac, i64_w, i32_w]
             rfl
           refine take_ (i := 14) (N := some 19) (v := ?_) (a' := ?_) #[true, true, true, true, true, true, true, true, true, true, true, true, true, true, true, false, false, true, false, false, false, false, false] rfl rfl (take_ofW HT_.out HW_.out (by kernel_rfl)) (fun _ _ _ h => h) (Or.inl ⟨by rfl, ?_⟩) hHeld ?_ ?_
           rotate_left
           · rintro w' ⟨s0, s1, s2, s3, s4⟩
             go_simp
             with_reducible rfl
           rotate_left
           · simp only [Act.put, zaa, zab, zac, i64_w, i32_w]
             rfl
           refine pure_ (i := 15) (N := some 20) (v := ?_) (a' := ?_) #[true, true, true, true, true, true, true, true, true, true, true, true, true, true, true, true, false, true, false, false, false, false, false] rfl rfl (any_of HT_.out (by kernel_rfl)) (fun _ _ _ h => h) (Or.inl ⟨by rfl, ?_⟩) ?_ ?_
           rotate_left
           · intro w'
             go_simp
             with_reducible rfl
           rotate_left
           · simp only [Act.put, zaa, zab, zac, i64_w, i32_w]
             rfl
           refine take_ (i := 16) (N := some 21) (v := ?_) (a' := ?_) #[true, true, true, true, true, true, true, true, true, true, true, true, true, true, true, true, true, true, false, false, false, false, false] rfl rfl (take_ofW HT_.out HW_.out (by kernel_rfl)) (fun _ _ _ h => h) (Or.inl ⟨by rfl, ?_⟩) hHeld ?_ ?_
           rotate_left
           · rintro w' ⟨s0, s1, s2, s3, s4⟩
             go_simp
             with_reducible rfl
           rotate_left
           · simp only [Act.put, zaa, zab, zac, i64_w, i32_w]
             rfl
           refine take_ (i := 18) (N := some 23) (v := ?_) (a' := ?_) #[true, true, true, true, true, true, true, true, true, true, true, true, true, true, true, true, true, true, true, false, false, false, false] rfl rfl (take_ofW HT_.out HW_.out (by kernel_rfl)) (fun _ _ _ h => h) (Or.inl ⟨by rfl, ?_⟩) hHeld ?_ ?_
           rotate_left
           · rintro w' ⟨s0, s1, s2, s3, s4⟩
             go_simp
             with_reducible rfl
           rotate_left
           · simp only [Act.put, zaa, zab, zac, i64_w, i32_w]
             rfl
           refine pure_ (i := 19) (N := some 24) (v := ?_) (a' := ?_) #[true, true, true, true, true, true, true, true, true, true, true, true, true, true, true, true, true, true, true, true, false, false, false] rfl rfl (any_of HT_.out (by kernel_rfl)) (fun _ _ _ h => h) (Or.inl ⟨by rfl, ?_⟩) ?_ ?_
           rotate_left
           · intro w'
             go_simp
             with_reducible rfl
           rotate_left
           · simp only [Act.put, zaa, zab, zac, i64_w, i32_w]
             rfl
           refine pure_ (i := 20) (N := some 25) (v := ?_) (a' := ?_) #[true, true, true, true, true, true, true, true, true, true, true, true, true, true, true, true, true, true, true, true, true, false, false] rfl rfl (any_of HT_.out (by kernel_rfl)) (fun _ _ _ h => h) (Or.inl ⟨by rfl, ?_⟩) ?_ ?_
           rotate_left
           · intro w'
             go_simp
             with_reducible rfl
           rotate_left
           · simp only [Act.put, zaa, zab, zac, i64_w, i32_w]
             rfl
           refine pure_ (i := 21) (N := some 26) (v := ?_) (a' := ?_) #[true, true, true, true, true, true, true, true, true, true, true, true, true, true, true, true, true, true, true, true, true, true, false] rfl rfl (any_of HT_.out (by kernel_rfl)) (fun _ _ _ h => h) (Or.inl ⟨by rfl, ?_⟩) ?_ ?_
           rotate_left
           · intro w'
             go_simp
             with_reducible rfl
           rotate_left
           · simp only [Act.put, zaa, zab, zac, i64_w, i32_w]
             rfl
           refine pure_ (i := 22) (N := some 4) (v := ?_) (a' := ?_) #[true, true, true, true, true, true, true, true, true, true, true, true, true, true, true, true, true, true, true, true, true, true, true] rfl rfl (any_of HT_.out (by kernel_rfl)) (fun _ _ _ h => h) (Or.inl ⟨by rfl, ?_⟩) ?_ ?_
           rotate_left
           · intro w'
             go_simp
             with_reducible rfl
           rotate_left
           · simp only [Act.put, zaa, zab, zac, i64_w, i32_w]
             rfl
           refine done_ (done_of HT_.out (by kernel_rfl)) ?_
           try go_wp2
           go_ret
           exact ⟨by first | rfl | (simp [errW_none, errW_some] <;> rfl) | (simp [*, errW_none, errW_some] <;> rfl), by repeat (first | (with_reducible first | exact HB.out | apply zag | apply zae | apply zaf | refine zah ?_ GE477.out) | exact HB.out)⟩
         · rw [if_neg c8] at H
           exact absurd H (by simp)
       · rw [if_neg c7] at H
         exact absurd H (by simp)
     · rw [if_neg c6] at H
       exact absurd H (by simp)
   · rw [if_neg c5] at H
     exact absurd H (by simp)
 · replace c4 := Bool.eq_false_iff.mpr c4
   subst c4
   have H1 : (some false) = some r := by rw [if_neg (show ¬ (false = true) by decide)] at H; exact H
   clear H
   have H := H1
   clear H1
   obtain rfl := Option.some.inj H
   go_enter Try.func98, Try.ntmps98
   try go_wp2_with (first | ((with_reducible refine gate_dst (N := 3) rfl ?_); refine box_event ?hg (N := 3) ?hd (cs := #[.int .i64 a1_0, .int .i64 a1_1, .int .i64 a1_2]) (t := 39) ?hr ?_; (case hd => rfl); (case hg => rfl); (case hr => first | (go_simp; done) | (go_simp; rfl)); intro gb477 hg w12 hbox hb; have n0_ := zad (below_step (by repeat (first | (with_reducible first | exact HB.out | apply zag | apply zae | apply zaf) | exact HB.out)) hb); have n1_ := zad (hbox); have n2_ := zad ((by rw [hg]; exact (below_size (by repeat (first | (with_reducible first | exact HB.out | apply zag | apply zae | apply zaf) | exact HB.out))) : w.heap.size ≤ gb477)); have n3_ := zad ((by rw [hg]; exact (below_size (by repeat (first | (with_reducible first | exact HB.out | apply zag | apply zae | apply zaf) | exact HB.out))) : w.heap.size ≤ gb477)); clear HB; have HB := n0_; have BK477 := n1_; have GW477 := n2_; have GE477 := n3_; clear n0_ n1_ n2_ n3_; clear hb hbox hg))
   have n0_ := zad (blk_drew BK477.out)
   have n1_ := zad (zaf HB.out)
   clear BK477
   clear HB
   have BK477 := n0_
   have HB := n1_
   clear n0_ n1_
   refine start_ (n := 23) (S := fun w' => w'.cell? ⟨gb477, 0, none⟩ = some (.int .i64 a1_0) ∧ w'.cell? ⟨gb477, 1, none⟩ = some (.int .i64 a1_1) ∧ w'.cell? ⟨gb477, 2, none⟩ = some (.int .i64 a1_2)) (ds := []) #[false, false, false, false, false, false, false, false, false, false, false, false, false, false, false, false, false, false, false, false, false, false, false] (by kernel_rfl) rfl rfl ⟨(blk_cell BK477.out 0).trans rfl, (blk_cell BK477.out 1).trans rfl, (blk_cell BK477.out 2).trans rfl⟩ (fun hHeld => ?_); refine with_tabW impl_isKind.tab1 impl_isKind.bits1 (fun HT_ HW_ => ?_)
   generalize w12.drew = w13 at BK477 HB hHeld ⊢
   refine pure_ (i := 0) (N := some 5) (v := ?_) (a' := ?_) #[true, false, false, false, false, false, false, false, false, false, false, false, false, false, false, false, false, false, false, false, false, false, false] rfl rfl (any_of HT_.out (by kernel_rfl)) (fun _ _ _ h => h) (Or.inl ⟨by rfl, ?_⟩) ?_ ?_
   rotate_left
   · intro w'
     go_simp
     with_reducible rfl
   rotate_left
   · simp only [Act.put, zaa, zab, zac, i64_w, i32_w]
     rfl
   refine take_ (i := 1) (N := some 6) (v := ?_) (a' := ?_) #[true, true, false, false, false, false, false, false, false, false, false, false, false, false, false, false, false, false, false, false, false, false, false] rfl rfl (take_ofW HT_.out HW_.out (by kernel_rfl)) (fun _ _ _ h => h) (Or.inl ⟨by rfl, ?_⟩) hHeld ?_ ?_
   rotate_left
   · rintro w' ⟨s0, s1, s2⟩
     go_simp
     with_reducible rfl
   rotate_left
   · simp only [Act.put, zaa, zab, zac, i64_w, i32_w]
     rfl
   refine one_ (i := 2) (N := some 7) #[true, true, true, false, false, false, false, false, false, false, false, false, false, false, false, false, false, false, false, false, false, false, false] rfl rfl (one_of HT_.out (by kernel_rfl)) (by decide) (fun K hK => ?_)
   refine goes_ Try.func104 (by kernel_rfl) rfl #[.slice A0 l0.length c0, .agg #[.int .i64 a1_0, .int .i64 a1_1, .int .i64 a1_2]] (by rfl) rfl rfl (by (try simp only [zat, zau, zav]); first | done | rfl | (simp only [zaw, zax]; rfl)) ?_
   with_reducible refine (impl_canGive.calls _ _ l0 a1_0 a1_1 a1_2 false _ ?side1 ?side2 A3.out).mono ?_
   (case side1 => repeat (first | exact (Kd.C_below HR0.out HB.out) | (with_reducible refine zal ?_ _) | (with_reducible refine zam ?_ _) | (with_reducible refine zan ?_)))
   (case side2 => exact HC0.out)
   rintro e w14 ⟨rfl, hb⟩
   refine ⟨_, rfl, ?_⟩
   have n0_ := zad (blk_below (g := gb477) (o := .cells #[.int .i64 a1_0, .int .i64 a1_1, .int .i64 a1_2] 39 (0, 0)) (by (with_reducible repeat (first | refine blk_drewN ?_ _ | refine blk_drew ?_ | refine blk_alloc ?_ _)); exact BK477.out) hb)
   have n1_ := zad (below_step (by repeat (first | (with_reducible first | exact HB.out | apply zag | apply zae | apply zaf | refine zah ?_ GE477.out) | exact HB.out)) hb)
   clear BK477
   clear HB
   have BK477 := n0_
   have HB := n1_
   clear n0_ n1_
   (try clear hb)
   (try clear hb2)
   (try clear hk)
   (try clear hi)
   refine hK.out _ _ ⟨(blk_cell BK477.out 0).trans rfl, (blk_cell BK477.out 1).trans rfl, (blk_cell BK477.out 2).trans rfl⟩ (fun hHeld => ?_)
   clear hK K
   refine norm_ (a' := ?_) ?_ ?_
   rotate_left
   · show Act.put _ (some 7) _ = _
     simp only [Act.put, zaa, zab, zac, i64_w, i32_w]
     rfl
   refine pure_ (i := 3) (N := some 8) (v := ?_) (a' := ?_) #[true, true, true, true, false, false, false, false, false, false, false, false, false, false, false, false, false, false, false, false, false, false, false] rfl rfl (any_of HT_.out (by kernel_rfl)) (fun _ _ _ h => h) (Or.inl ⟨by rfl, ?_⟩) ?_ ?_
   rotate_left
   · intro w'
     go_simp
     with_reducible rfl
   rotate_left
   · simp only [Act.put, zaa, zab, zac, i64_w, i32_w]
     rfl
   refine pure_ (i := 4) (N := some 9) (v := undef) (a' := ?_) #[true, true, true, true, true, false, false, false, false, false, false, false, false, false, false, false, false, false, false, false, false, false, false] rfl rfl (any_of HT_.out (by kernel_rfl)) (fun _ _ _ h => h) (Or.inr ⟨by rfl, rfl⟩) ?_ ?_
   rotate_left
   · simp only [Act.put, zaa, zab, zac, i64_w, i32_w]
     rfl
   refine pure_ (i := 5) (N := some 10) (v := undef) (a' := ?_) #[true, true, true, true, true, true, false, false, false, false, false, false, false, false, false, false, false, false, false, false, false, false, false] rfl rfl (any_of HT_.out (by kernel_rfl)) (fun _ _ _ h => h) (Or.inr ⟨by rfl, rfl⟩) ?_ ?_
   rotate_left
   · simp only [Act.put, zaa, zab, zac, i64_w, i32_w]
     rfl
   refine pure_ (i := 6) (N := some 11) (v := undef) (a' := ?_) #[true, true, true, true, true, true, true, false, false, false, false, false, false, false, false, false, false, false, false, false, false, false, false] rfl rfl (any_of HT_.out (by kernel_rfl)) (fun _ _ _ h => h) (Or.inr ⟨by rfl, rfl⟩) ?_ ?_
   rotate_left
   · simp only [Act.put, zaa, zab, zac, i64_w, i32_w]
     rfl
   refine pure_ (i := 7) (N := some 12) (v := undef) (a' := ?_) #[true, true, true, true, true, true, true, true, false, false, false, false, false, false, false, false, false, false, false, false, false, false, false] rfl rfl (any_of HT_.out (by kernel_rfl)) (fun _ _ _ h => h) (Or.inr ⟨by rfl, rfl⟩) ?_ ?_
   rotate_left
   · simp only [Act.put, zaa, zab, zac, i64_w, i32_w]
     rfl
   refine pure_ (i := 8) (N := some 13) (v := undef) (a' := ?_) #[true, true, true, true, true, true, true, true, true, false, false, false, false, false, false, false, false, false, false, false, false, false, false] rfl rfl (any_of HT_.out (by kernel_rfl)) (fun _ _ _ h => h) (Or.inr ⟨by rfl, rfl⟩) ?_ ?_
   rotate_left
   · simp only [Act.put, zaa, zab, zac, i64_w, i32_w]
     rfl
   refine pure_ (i := 9) (N := some 14) (v := undef) (a' := ?_) #[true, true, true, true, true, true, true, true, true, true, false, false, false, false, false, false, false, false, false, false, false, false, false] rfl rfl (any_of HT_.out (by kernel_rfl)) (fun _ _ _ h => h) (Or.inr ⟨by rfl, rfl⟩) ?_ ?_
   rotate_left
   · simp only [Act.put, zaa, zab, zac, i64_w, i32_w]
     rfl
   refine pure_ (i := 10) (N := some 15) (v := undef) (a' := ?_) #[true, true, true, true, true, true, true, true, true, true, true, false, false, false, false, false, false, false, false, false, false, false, false] rfl rfl (any_of HT_.out (by kernel_rfl)) (fun _ _ _ h => h) (Or.inr ⟨by rfl, rfl⟩) ?_ ?_
   rotate_left
   · simp only [Act.put, zaa, zab, zac, i64_w, i32_w]
     rfl
   refine pure_ (i := 11) (N := some 16) (v := undef) (a' := ?_) #[true, true, true, true, true, true, true, true, true, true, true, true, false, false, false, false, false, false, false, false, false, false, false] rfl rfl (any_of HT_.out (by kernel_rfl)) (fun _ _ _ h => h) (Or.inr ⟨by rfl, rfl⟩) ?_ ?_
   rotate_left
   · simp only [Act.put, zaa, zab, zac, i64_w, i32_w]
     rfl
   refine pure_ (i := 12) (N := some 17) (v := undef) (a' := ?_) #[true, true, true, true, true, true, true, true, true, true, true, true, true, false, false, false, false, false, false, false, false, false, false] rfl rfl (any_of HT_.out (by kernel_rfl)) (fun _ _ _ h => h) (Or.inr ⟨by rfl, rfl⟩) ?_ ?_
   rotate_left
   · simp only [Act.put, zaa, zab, zac, i64_w, i32_w]
     rfl
   refine pure_ (i := 13) (N := some 18) (v := undef) (a' := ?_) #[true, true, true, true, true, true, true, true, true, true, true, true, true, true, false, false, false, false, false, false, false, false, false] rfl rfl (any_of HT_.out (by kernel_rfl)) (fun _ _ _ h => h) (Or.inr ⟨by rfl, rfl⟩) ?_ ?_
   rotate_left
   · simp only [Act.put, zaa, zab, zac, i64_w, i32_w]
     rfl
   refine pure_ (i := 14) (N := some 19) (v := undef) (a' := ?_) #[true, true, true, true, true, true, true, true, true, true, true, true, true, true, true, false, false, false, false, false, false, false, false] rfl rfl (any_of HT_.out (by kernel_rfl)) (fun _ _ _ h => h) (Or.inr ⟨by rfl, rfl⟩) ?_ ?_
   rotate_left
   · simp only [Act.put, zaa, zab, zac, i64_w, i32_w]
     rfl
   refine pure_ (i := 15) (N := some 20) (v := undef) (a' := ?_) #[true, true, true, true, true, true, true, true, true, true, true, true, true, true, true, true, false, false, false, false, false, false, false] rfl rfl (any_of HT_.out (by kernel_rfl)) (fun _ _ _ h => h) (Or.inr ⟨by rfl, rfl⟩) ?_ ?_
   rotate_left
   · simp only [Act.put, zaa, zab, zac, i64_w, i32_w]
     rfl
   refine pure_ (i := 16) (N := some 21) (v := undef) (a' := ?_) #[true, true, true, true, true, true, true, true, true, true, true, true, true, true, true, true, true, false, false, false, false, false, false] rfl rfl (any_of HT_.out (by kernel_rfl)) (fun _ _ _ h => h) (Or.inr ⟨by rfl, rfl⟩) ?_ ?_
   rotate_left
   · simp only [Act.put, zaa, zab, zac, i64_w, i32_w]
     rfl
   refine pure_ (i := 17) (N := some 22) (v := undef) (a' := ?_) #[true, true, true, true, true, true, true, true, true, true, true, true, true, true, true, true, true, true, false, false, false, false, false] rfl rfl (any_of HT_.out (by kernel_rfl)) (fun _ _ _ h => h) (Or.inr ⟨by rfl, rfl⟩) ?_ ?_
   rotate_left
   · simp only [Act.put, zaa, zab, zac, i64_w, i32_w]
     rfl
   refine pure_ (i := 18) (N := some 23) (v := undef) (a' := ?_) #[true, true, true, true, true, true, true, true, true, true, true, true, true, true, true, true, true, true, true, false, false, false, false] rfl rfl (any_of HT_.out (by kernel_rfl)) (fun _ _ _ h => h) (Or.inr ⟨by rfl, rfl⟩) ?_ ?_
   rotate_left
   · simp only [Act.put, zaa, zab, zac, i64_w, i32_w]
     rfl
   refine pure_ (i := 19) (N := some 24) (v := undef) (a' := ?_) #[true, true, true, true, true, true, true, true, true, true, true, true, true, true, true, true, true, true, true, true, false, false, false] rfl rfl (any_of HT_.out (by kernel_rfl)) (fun _ _ _ h => h) (Or.inr ⟨by rfl, rfl⟩) ?_ ?_
   rotate_left
   · simp only [Act.put, zaa, zab, zac, i64_w, i32_w]
     rfl
   refine pure_ (i := 20) (N := some 25) (v := undef) (a' := ?_) #[true, true, true, true, true, true, true, true, true, true, true, true, true, true, true, true, true, true, true, true, true, false, false] rfl rfl (any_of HT_.out (by kernel_rfl)) (fun _ _ _ h => h) (Or.inr ⟨by rfl, rfl⟩) ?_ ?_
   rotate_left
   · simp only [Act.put, zaa, zab, zac, i64_w, i32_w]
     rfl
   refine pure_ (i := 21) (N := some 26) (v := ?_) (a' := ?_) #[true, true, true, true, true, true, true, true, true, true, true, true, true, true, true, true, true, true, true, true, true, true, false] rfl rfl (any_of HT_.out (by kernel_rfl)) (fun _ _ _ h => h) (Or.inl ⟨by rfl, ?_⟩) ?_ ?_
   rotate_left
   · intro w'
     go_simp
     with_reducible rfl
   rotate_left
   · simp only [Act.put, zaa, zab, zac, i64_w, i32_w]
     rfl
   refine pure_ (i := 22) (N := some 4) (v := ?_) (a' := ?_) #[true, true, true, true, true, true, true, true, true, true, true, true, true, true, true, true, true, true, true, true, true, true, true] rfl rfl (any_of HT_.out (by kernel_rfl)) (fun _ _ _ h => h) (Or.inl ⟨by rfl, ?_⟩) ?_ ?_
   rotate_left
   · intro w'
     go_simp
     with_reducible rfl
   rotate_left
   · simp only [Act.put, zaa, zab, zac, i64_w, i32_w]
     rfl
   refine done_ (done_of HT_.out (by kernel_rfl)) ?_
   try go_wp2
   go_ret
   exact ⟨by first | rfl | (simp [errW_none, errW_some] <;> rfl) | (simp [*, errW_none, errW_some] <;> rfl), by repeat (first | (with_reducible first | exact HB.out | apply zag | apply zae | apply zaf | refine zah ?_ GE477.out) | exact HB.out)⟩


theorem w64 {x : Int} (h1 : -9223372036854775808 ≤ x) (h2 : x ≤ 9223372036854775807) : wrap64 x = x := by
 unfold wrap64
 omega
theorem wsucc {i : Nat} {n : Nat} (h : i < n) (hn : n ≤ 9223372036854775807) : wrap64 ((i : Int) + 1) = ((i + 1 : Nat) : Int) := by
 rw [w64 (by omega) (by omega)]
 omega
theorem rdn {xs : List Int} {i : Nat} (h : i < xs.length) : rd xs (i : Int) = xs[i] := by
 simp [rd, h]
theorem Ev.succ {α : Type} {g : Nat → Option α} {r : α} (h : Ev (fun k => g (k + 1)) r) : Ev g r := Ev.step (fun _ => rfl) h
theorem Ev.get {α : Type} {g : Nat → Option α} {r : α} (h : Ev g r) : ∃ k, g k = some r := Ev.rounds h
theorem Ev.ite {α : Type} {c : Prop} [Decidable c] {g f : Nat → Option α} {r s : α} (h : c → Ev g r) (h' : ¬ c → Ev f s) : Ev (fun k => if c then g k else f k) (if c then r else s) := by
 by_cases hc : c
 · simp only [hc, if_true]
   exact h hc
 · simp only [hc, if_false]
   exact h' hc
theorem ev_all {xs : List Int} {g : Nat → Int → Option Bool} (p : Int → Bool) (hend : Ev (fun k => g k (xs.length : Int)) true)
 (hyes : ∀ (i : Nat) (h : i < xs.length) r, p xs[i] = true → Ev (fun k => g k ((i + 1 : Nat) : Int)) r → Ev (fun k => g k (i : Int)) r)
 (hno : ∀ (i : Nat) (h : i < xs.length), p xs[i] = false → Ev (fun k => g k (i : Int)) false) :
 ∀ (n i : Nat), i + n = xs.length → Ev (fun k => g k (i : Int)) ((xs.drop i).all p)
 | 0, i, h => by
  rw [List.drop_eq_nil_of_le (by omega), show i = xs.length by omega]
  exact hend
 | n + 1, i, h => by
  have hi : i < xs.length := by omega
  rw [List.drop_eq_getElem_cons hi, List.all_cons]
  cases hp : p xs[i]
  · exact hno i hi hp
  · rw [Bool.true_and]
    exact hyes i hi _ hp (ev_all p hend hyes hno n (i + 1) (by omega))
theorem ev_fold {σ ρ : Type} {xs : List Int} {g : Nat → σ → Int → Option ρ} (step : σ → Int → σ) (I : σ → Nat → Prop) (fin : σ → ρ)
 (hend : ∀ s, I s xs.length → Ev (fun k => g k s (xs.length : Int)) (fin s))
 (hstep : ∀ (i : Nat) (h : i < xs.length) s r, I s i → I (step s xs[i]) (i + 1) → Ev (fun k => g k (step s xs[i]) ((i + 1 : Nat) : Int)) r → Ev (fun k => g k s (i : Int)) r)
 (hI : ∀ (i : Nat) (h : i < xs.length) s, I s i → I (step s xs[i]) (i + 1)) :
 ∀ (n i : Nat) (s : σ), i + n = xs.length → I s i → Ev (fun k => g k s (i : Int)) (fin ((xs.drop i).foldl step s))
 | 0, i, s, h, hs => by
  have e : i = xs.length := by omega
  subst e
  rw [List.drop_eq_nil_of_le (by omega)]
  exact hend s hs
 | n + 1, i, s, h, hs => by
  have hi : i < xs.length := by omega
  rw [List.drop_eq_getElem_cons hi, List.foldl_cons]
  exact hstep i hi s _ hs (hI i hi s hs) (ev_fold step I fin hend hstep hI n (i + 1) _ (by omega) (hI i hi s hs))
theorem rdi {xs : List Int} {i : Int} (h0 : 0 ≤ i) (h1 : i < xs.length) : rd xs i = xs[i.toNat]'(by omega) := by
 unfold rd
 rw [List.getD_eq_getElem?_getD, List.getElem?_eq_getElem (by omega)]
 rfl
theorem l1In_eq (a b c : Int) : spec_l1In.f a b c = some (decide (b ≤ a ∧ a ≤ c)) := by
 unfold spec_l1In.f
 by_cases h : b ≤ a <;> simp [h]
theorem within_eq (a b c : Int) : impl_within.f a b c = some (decide (b ≤ a ∧ a ≤ c)) := by
 unfold impl_within.f
 by_cases h : b ≤ a <;> simp [h]
def inR (lo hi : Int) (xs : List Int) : Bool := xs.all fun x => decide (lo ≤ x ∧ x ≤ hi)
theorem l1All_ev (xs : List Int) (lo hi : Int) (hx : xs.length ≤ 9223372036854775807) : Ev (fun k => spec_l1All.f k xs lo hi) (inR lo hi xs) := by
 have h := ev_all (xs := xs) (g := fun k i => spec_l1All.l0 k lo hi xs (xs.length : Int) i) (fun x => decide (lo ≤ x ∧ x ≤ hi))
  (Ev.succ (by simp only [spec_l1All.l0, if_neg (Int.lt_irrefl _)]; exact Ev.now _))
  (fun i h r hp hr => Ev.succ (by
   simp only [spec_l1All.l0, if_pos (show (i : Int) < (xs.length : Int) by omega), if_pos (show (0 : Int) ≤ (i : Int) by omega), rdn h, l1In_eq, Option.bind_some, hp, if_true, wsucc h hx]
   exact hr))
  (fun i h hp => Ev.succ (by
   simp only [spec_l1All.l0, if_pos (show (i : Int) < (xs.length : Int) by omega), if_pos (show (0 : Int) ≤ (i : Int) by omega), rdn h, l1In_eq, Option.bind_some, hp]
   exact Ev.now _)) xs.length 0 (by omega)
 exact h
theorem allWithin_ev (xs : List Int) (lo hi : Int) (hx : xs.length ≤ 9223372036854775807) : Ev (fun k => impl_allWithin.f k xs lo hi) (inR lo hi xs) := by
 have h := ev_all (xs := xs) (g := fun k i => impl_allWithin.l0 k lo hi xs (xs.length : Int) i) (fun x => decide (lo ≤ x ∧ x ≤ hi))
  (Ev.succ (by simp only [impl_allWithin.l0, if_neg (Int.lt_irrefl _)]; exact Ev.now _))
  (fun i h r hp hr => Ev.succ (by
   simp only [impl_allWithin.l0, if_pos (show (i : Int) < (xs.length : Int) by omega), if_pos (show (0 : Int) ≤ (i : Int) by omega), rdn h, within_eq, Option.bind_some, hp, if_true, wsucc h hx]
   exact hr))
  (fun i h hp => Ev.succ (by
   simp only [impl_allWithin.l0, if_pos (show (i : Int) < (xs.length : Int) by omega), if_pos (show (0 : Int) ≤ (i : Int) by omega), rdn h, within_eq, Option.bind_some, hp]
   exact Ev.now _)) xs.length 0 (by omega)
 exact h
def goodL (xs : List Int) : Bool := if (1 : Int) ≤ xs.length ∧ (xs.length : Int) ≤ 8 then inR 0 60 xs else false
theorem goodL_iff (xs : List Int) : goodL xs = true ↔ 1 ≤ xs.length ∧ xs.length ≤ 8 ∧ ∀ x ∈ xs, 0 ≤ x ∧ x ≤ 60 := by
 unfold goodL inR
 by_cases h : (1 : Int) ≤ xs.length ∧ (xs.length : Int) ≤ 8
 · rw [if_pos h]
   simp only [List.all_eq_true, decide_eq_true_eq]
   exact ⟨fun h' => ⟨by omega, by omega, h'⟩, fun h' => h'.2.2⟩
 · rw [if_neg h]
   constructor
   · intro h'
     cases h'
   · intro h'
     omega
theorem liGood_ev (xs : List Int) (hx : xs.length ≤ 9223372036854775807) : Ev (fun k => spec_liGood.f k xs) (goodL xs) := by
 unfold spec_liGood.f goodL
 simp only [l1In_eq, Option.bind_some, decide_eq_true_eq]
 exact Ev.ite (fun _ => Ev.bind (l1All_ev xs 0 60 hx) (Ev.now _)) (fun _ => Ev.now _)
theorem implIsList_ev (xs : List Int) (hx : xs.length ≤ 9223372036854775807) : Ev (fun k => impl_IsList.f k xs) (goodL xs) := by
 unfold impl_IsList.f goodL
 simp only [within_eq, Option.bind_some, decide_eq_true_eq]
 exact Ev.ite (fun _ => Ev.bind (allWithin_ev xs 0 60 hx) (Ev.now _)) (fun _ => Ev.now _)
def isG (l : List Int) (f t a : Int) : Bool := decide ((0 ≤ f ∧ f ≤ (l.length : Int) - 1) ∧ (0 ≤ t ∧ t ≤ (l.length : Int) - 1) ∧ f ≠ t ∧ 1 ≤ a)
theorem isGift_eq (l : List Int) (f t a : Int) (hx : l.length ≤ 1048576) : impl_isGift.f l f t a = some (isG l f t a) := by
 unfold impl_isGift.f isG
 simp only [within_eq, Option.bind_some, w64 (x := (l.length : Int) - 1) (by omega) (by omega)]
 by_cases h1 : 0 ≤ f ∧ f ≤ (l.length : Int) - 1
 · by_cases h2 : 0 ≤ t ∧ t ≤ (l.length : Int) - 1
   · by_cases h3 : f = t
     · simp [h3]
     · by_cases h4 : 1 ≤ a <;> simp [h1, h2, h3, h4]
   · simp only [zaz h1, if_true, decide_eq_false h2, h2, false_and, and_false, decide_false, Bool.false_eq_true, if_false]
 · simp only [decide_eq_false h1, h1, false_and, decide_false, Bool.false_eq_true, if_false]
theorem isG_iff (l : List Int) (f t a : Int) : isG l f t a = true ↔ (0 ≤ f ∧ f < l.length) ∧ (0 ≤ t ∧ t < l.length) ∧ f ≠ t ∧ 1 ≤ a := by
 unfold isG
 rw [decide_eq_true_eq]
 omega
theorem rd_good {l : List Int} (hg : goodL l = true) {i : Int} (h0 : 0 ≤ i) (h1 : i < l.length) : 0 ≤ rd l i ∧ rd l i ≤ 60 := by
 have h := ((goodL_iff l).1 hg).2.2
 have hi : i.toNat < l.length := by omega
 have e : rd l i = l[i.toNat] := rdi h0 h1
 rw [e]
 exact h _ (List.getElem_mem hi)
def canB (l : List Int) (f t a : Int) : Bool := isG l f t a && (decide (a ≤ rd l f) && decide (a ≤ 60 - rd l t))
theorem canGive_eq (l : List Int) (f t a : Int) (hg : goodL l = true) : impl_canGive.f l f t a = some (canB l f t a) := by
 have hb := (goodL_iff l).1 hg
 unfold impl_canGive.f canB
 rw [isGift_eq l f t a (by omega)]
 simp only [Option.bind_some]
 by_cases h : isG l f t a = true
 · obtain ⟨h1, h2, h3, h4⟩ := (isG_iff l f t a).1 h
   have b1 := rd_good hg h1.1 h1.2
   have b2 := rd_good hg h2.1 h2.2
   simp only [h, if_true, if_pos h1.1, if_pos h1.2, if_pos h2.1, if_pos h2.2, w64 (x := 60 - rd l t) (by omega) (by omega), Bool.true_and]
   by_cases c : a ≤ rd l f
   · rw [if_pos c, zaz c, Bool.true_and]
   · rw [if_neg c, decide_eq_false c, Bool.false_and]
 · have h' : isG l f t a = false := Bool.eq_false_iff.2 h
   simp only [h', Bool.false_eq_true, if_false, Bool.false_and]
def kindB (l : List Int) (f t a : Int) : Bool := isG l f t a && (decide (a ≤ 60) && decide (rd l t + a ≤ rd l f - a))
theorem isKind_eq (l : List Int) (f t a : Int) (hg : goodL l = true) : impl_isKind.f l f t a = some (kindB l f t a) := by
 unfold impl_isKind.f kindB
 rw [canGive_eq l f t a hg]
 unfold canB
 simp only [Option.bind_some]
 by_cases h : isG l f t a = true
 · obtain ⟨h1, h2, h3, h4⟩ := (isG_iff l f t a).1 h
   have b1 := rd_good hg h1.1 h1.2
   have b2 := rd_good hg h2.1 h2.2
   simp only [h, if_pos h1.1, if_pos h1.2, if_pos h2.1, if_pos h2.2, Bool.true_and]
   by_cases c : a ≤ rd l f ∧ a ≤ 60 - rd l t
   · rw [zaz c.1, zaz c.2, zaz (show a ≤ 60 by omega), Bool.true_and, Bool.true_and, if_pos rfl, w64 (x := rd l f - a) (by omega) (by omega), w64 (x := rd l t + a) (by omega) (by omega)]
   · have e : (decide (a ≤ rd l f) && decide (a ≤ 60 - rd l t)) = false := by
      rw [← Bool.decide_and]
      exact decide_eq_false c
     have e2 : (decide (a ≤ 60) && decide (rd l t + a ≤ rd l f - a)) = false := by
      rw [← Bool.decide_and]
      exact decide_eq_false (by omega)
     simp only [e, e2, Bool.false_eq_true, if_false]
 · have h' : isG l f t a = false := Bool.eq_false_iff.2 h
   simp only [h', Bool.false_eq_true, if_false, Bool.false_and]
def giveL (l : List Int) (f t a : Int) : List Int := (l.set f.toNat (rd l f - a)).set t.toNat (rd l t + a)
theorem rd_set_ne {l : List Int} {i j : Int} (x : Int) (h0 : 0 ≤ i) (h1 : 0 ≤ j) (h : i ≠ j) : rd (l.set i.toNat x) j = rd l j := by
 unfold rd
 rw [List.getD_eq_getElem?_getD, List.getD_eq_getElem?_getD, List.getElem?_set_ne (by omega)]
theorem rd_set_self {l : List Int} {i : Int} (x : Int) (h0 : 0 ≤ i) (h1 : i < l.length) : rd (l.set i.toNat x) i = x := by
 unfold rd
 rw [List.getD_eq_getElem?_getD, List.getElem?_set_self (by omega)]
 rfl
theorem rd_mem {l : List Int} {i : Int} (h0 : 0 ≤ i) (h1 : i < l.length) : rd l i ∈ l := by
 have hi : i.toNat < l.length := by omega
 have e : rd l i = l[i.toNat] := rdi h0 h1
 rw [e]
 exact List.getElem_mem hi
theorem give_good (l : List Int) (f t x y : Int) (hg : goodL l = true) (h1 : 0 ≤ f ∧ f < l.length) (h2 : 0 ≤ t ∧ t < l.length) (h3 : f ≠ t) : goodL ((l.set f.toNat x).set t.toNat y) = true ↔ (0 ≤ x ∧ x ≤ 60) ∧ 0 ≤ y ∧ y ≤ 60 := by
 have hb := (goodL_iff l).1 hg
 rw [goodL_iff]
 simp only [List.length_set]
 constructor
 · intro h
   have e1 : rd ((l.set f.toNat x).set t.toNat y) f = x := by rw [rd_set_ne _ h2.1 h1.1 (Ne.symm h3), rd_set_self _ h1.1 h1.2]
   have e2 : rd ((l.set f.toNat x).set t.toNat y) t = y := rd_set_self _ h2.1 (by rw [List.length_set]; exact h2.2)
   have m1 := h.2.2 _ (rd_mem (l := (l.set f.toNat x).set t.toNat y) h1.1 (by simp only [List.length_set]; exact h1.2))
   have m2 := h.2.2 _ (rd_mem (l := (l.set f.toNat x).set t.toNat y) h2.1 (by simp only [List.length_set]; exact h2.2))
   rw [e1] at m1
   rw [e2] at m2
   exact ⟨m1, m2⟩
 · rintro ⟨hx, hy⟩
   refine ⟨hb.1, hb.2.1, fun z hz => ?_⟩
   rcases List.mem_or_eq_of_mem_set hz with hz | rfl
   · rcases List.mem_or_eq_of_mem_set hz with hz | rfl
     · exact hb.2.2 z hz
     · exact hx
   · exact hy
theorem canB_iff (l : List Int) (f t a : Int) : canB l f t a = true ↔ isG l f t a = true ∧ a ≤ rd l f ∧ a ≤ 60 - rd l t := by
 unfold canB
 simp only [Bool.and_eq_true, decide_eq_true_eq]
theorem l1Own_eq (l : List Int) (hx : l.length ≤ 1048576) : spec_l1Own.f l = some l := by
 unfold spec_l1Own.f
 simp only [Option.bind_some, List.nil_append, List.length_nil, Nat.zero_add, if_pos (show l.length < 17592186044416 by omega)]
theorem giDo_eq (l : List Int) (f t a : Int) (hx : l.length ≤ 1048576) (h1 : 0 ≤ f ∧ f < l.length) (h2 : 0 ≤ t ∧ t < l.length) (h3 : f ≠ t) : spec_giDo.f l f t a = some ((l.set f.toNat (wrap64 (rd l f - a))).set t.toNat (wrap64 (rd l t + a))) := by
 unfold spec_giDo.f
 simp only [l1Own_eq l hx, Option.bind_some, if_pos h1.1, if_pos h1.2, if_pos h2.1, if_pos h2.2, rd_set_ne _ h1.1 h2.1 h3]
theorem given_eq (l : List Int) (f t a : Int) (hx : l.length ≤ 1048576) (h1 : 0 ≤ f ∧ f < l.length) (h2 : 0 ≤ t ∧ t < l.length) (h3 : f ≠ t) : impl_given.f l f t a = some ((l.set f.toNat (wrap64 (rd l f - a))).set t.toNat (wrap64 (rd l t + a))) := by
 unfold impl_given.f slices_Clone_int_int.f
 simp only [if_pos (show l.length ≤ 17592186044416 by omega), Option.bind_some, if_pos h1.1, if_pos h1.2, if_pos h2.1, if_pos h2.2, rd_set_ne _ h1.1 h2.1 h3]
theorem given_can (l : List Int) (f t a : Int) (hg : goodL l = true) (h : canB l f t a = true) : impl_given.f l f t a = some (giveL l f t a) := by
 have hb := (goodL_iff l).1 hg
 obtain ⟨hG, c1, c2⟩ := (canB_iff l f t a).1 h
 obtain ⟨h1, h2, h3, h4⟩ := (isG_iff l f t a).1 hG
 have b1 := rd_good hg h1.1 h1.2
 have b2 := rd_good hg h2.1 h2.2
 rw [given_eq l f t a (by omega) h1 h2 h3, w64 (x := rd l f - a) (by omega) (by omega), w64 (x := rd l t + a) (by omega) (by omega)]
 rfl
def insD : List Int → Int → List Int
 | [], x => [x]
 | y :: ys, x => if x ≤ y then y :: insD ys x else x :: y :: ys
def Desc (l : List Int) : Prop := l.Pairwise fun x y => y ≤ x
theorem insD_at (x : Int) : ∀ (out : List Int) (j : Nat), j ≤ out.length → (∀ i, i < j → ∀ h : i < out.length, x ≤ out[i]) → (∀ h : j < out.length, ¬ x ≤ out[j]) → insD out x = out.take j ++ [x] ++ out.drop j
 | [], j, hj, _, _ => by simp [insD]
 | y :: ys, 0, _, _, h => by
  have := h (by simp)
  simp only [List.getElem_cons_zero] at this
  simp [insD, this]
 | y :: ys, j + 1, hj, h1, h2 => by
  have h0 := h1 0 (by omega) (by simp)
  simp only [List.getElem_cons_zero] at h0
  have ih := insD_at x ys j (by simpa using hj) (fun i hi h => by have := h1 (i + 1) (by omega) (by simpa using h); simpa using this) (fun h => by have := h2 (by simpa using h); simpa using this)
  simp only [insD, if_pos h0, ih, List.take_succ_cons, List.drop_succ_cons, List.cons_append]
theorem insD_perm (x : Int) : ∀ out : List Int, (insD out x).Perm (x :: out)
 | [] => List.Perm.refl _
 | y :: ys => by
  unfold insD
  split
  · exact ((insD_perm x ys).cons y).trans (List.Perm.swap x y ys)
  · exact List.Perm.refl _
theorem insD_length (x : Int) (out : List Int) : (insD out x).length = out.length + 1 := by
 rw [(insD_perm x out).length_eq, List.length_cons]
theorem insD_desc (x : Int) : ∀ out : List Int, Desc out → Desc (insD out x)
 | [], _ => by simp [insD, Desc]
 | y :: ys, h => by
  unfold insD
  unfold Desc at h
  rw [List.pairwise_cons] at h
  split
  · next hc =>
    unfold Desc
    rw [List.pairwise_cons]
    refine ⟨fun z hz => ?_, insD_desc x ys h.2⟩
    rcases List.mem_cons.1 ((insD_perm x ys).mem_iff.1 hz) with rfl | hz
    · exact hc
    · exact h.1 z hz
  · next hc =>
    unfold Desc
    rw [List.pairwise_cons, List.pairwise_cons]
    refine ⟨fun z hz => ?_, h⟩
    rcases List.mem_cons.1 hz with rfl | hz
    · omega
    · have := h.1 z hz
      omega
theorem descL_perm (l : List Int) : (descL l).Perm l := List.mergeSort_perm l _
theorem descL_desc (l : List Int) : Desc (descL l) := by
 unfold descL Desc
 have h := List.pairwise_mergeSort (le := fun x y : Int => decide (y ≤ x)) (fun a b c h1 h2 => by simp only [decide_eq_true_eq] at *; omega) (fun a b => by simp only [Bool.or_eq_true, decide_eq_true_eq]; omega) l
 exact h.imp (fun h => by simpa using h)
theorem desc_unique {a b : List Int} (h : a.Perm b) (ha : Desc a) (hb : Desc b) : a = b :=
 List.Perm.eq_of_pairwise (le := fun x y : Int => y ≤ x) (fun x y _ _ h1 h2 => by omega) ha hb h
theorem descL_length (l : List Int) : (descL l).length = l.length := (descL_perm l).length_eq
theorem descL_mem {l : List Int} {x : Int} : x ∈ descL l ↔ x ∈ l := (descL_perm l).mem_iff
theorem descL_of_desc {l : List Int} (h : Desc l) : descL l = l := desc_unique (descL_perm l) (descL_desc l) h
theorem perm_sum {a b : List Int} (h : a.Perm b) : a.sum = b.sum := by
 induction h with
 | nil => rfl
 | cons x _ ih => simp only [List.sum_cons, ih]
 | swap x y l => simp only [List.sum_cons]; omega
 | trans _ _ ih1 ih2 => exact ih1.trans ih2
theorem descL_sum (l : List Int) : (descL l).sum = l.sum := perm_sum (descL_perm l)
theorem foldl_ins_perm : ∀ (l out : List Int), (l.foldl insD out).Perm (out ++ l)
 | [], out => by simp
 | x :: l, out => by
  rw [List.foldl_cons]
  refine (foldl_ins_perm l (insD out x)).trans ?_
  refine ((insD_perm x out).append_right l).trans ?_
  exact (List.perm_middle (a := x) (l₁ := out) (l₂ := l)).symm
theorem foldl_ins_desc : ∀ (l out : List Int), Desc out → Desc (l.foldl insD out)
 | [], out, h => h
 | x :: l, out, h => by
  rw [List.foldl_cons]
  exact foldl_ins_desc l _ (insD_desc x out h)
theorem foldl_ins (l : List Int) : l.foldl insD [] = descL l :=
 desc_unique ((by simpa using foldl_ins_perm l [] : (l.foldl insD []).Perm l).trans (descL_perm l).symm) (foldl_ins_desc l [] (by simp [Desc])) (descL_desc l)
def Sm (l : List Int) : Prop := l.length ≤ 1000 ∧ ∀ x ∈ l, 0 ≤ x ∧ x ≤ 1000
theorem good_sm {l : List Int} (h : goodL l = true) : Sm l := by
 have := (goodL_iff l).1 h
 exact ⟨by omega, fun x hx => by have := this.2.2 x hx; omega⟩
theorem sm_desc {l : List Int} (h : Sm l) : Sm (descL l) := ⟨by rw [descL_length]; exact h.1, fun x hx => h.2 x (descL_mem.1 hx)⟩
theorem good_desc (l : List Int) : goodL (descL l) = goodL l := by
 rw [Bool.eq_iff_iff, goodL_iff, goodL_iff, descL_length]
 simp only [descL_mem]
theorem ranking_eq {l : List Int} (h : Sm l) : impl_ranking.f l = some (descL l) := by
 unfold impl_ranking.f smallL
 rw [if_pos]
 simp only [Bool.and_eq_true, decide_eq_true_eq, List.all_eq_true]
 exact ⟨by have := h.1; omega, fun x hx => by have := h.2 x hx; omega⟩
theorem liRank_in (l : List Int) (x : Int) (i9 : Int) (out : List Int) (hout : out.length ≤ 1000000) (r : List Int) (hr : Ev (fun k => spec_liRank.l0 k (insD out x) l (l.length : Int) (wrap64 (i9 + 1))) r) :
 ∀ (n j : Nat), j + n = out.length → (∀ i, i < j → ∀ h : i < out.length, x ≤ out[i]) → Ev (fun k => spec_liRank.l1 k out x (j : Int) l (l.length : Int) i9) r
 | 0, j, h, hall => by
  refine Ev.succ ?_
  have e := insD_at x out j (by omega) hall (fun h' => by omega)
  simp only [spec_liRank.l1, if_neg (show ¬ (j : Int) < (out.length : Int) by omega), if_pos (show (0 : Int) ≤ (j : Int) by omega), if_pos (show (j : Int) ≤ (out.length : Int) by omega), Int.toNat_natCast, l1Own_eq (out.take j) (by rw [zax]; omega), Option.bind_some, List.length_append, zax, zaw, List.length_cons, List.length_nil]
  simp only [if_pos (show min j out.length + (0 + 1) < 17592186044416 by omega), if_pos (show min j out.length + (0 + 1) + (out.length - j) < 17592186044416 by omega)]
  rw [e] at hr
  exact hr
 | n + 1, j, h, hall => by
  have hj : j < out.length := by omega
  refine Ev.succ ?_
  by_cases c : x ≤ out[j]
  · simp only [spec_liRank.l1, if_pos (show (j : Int) < (out.length : Int) by omega), if_pos (show (0 : Int) ≤ (j : Int) by omega), rdn hj, if_pos (show out[j] ≥ x from c), wsucc hj (by omega)]
    refine liRank_in l x i9 out hout r hr n (j + 1) (by omega) (fun i hi h' => ?_)
    by_cases e : i = j
    · subst e
      exact c
    · exact hall i (by omega) h'
  · have e := insD_at x out j (by omega) hall (fun h' => c)
    simp only [spec_liRank.l1, if_pos (show (j : Int) < (out.length : Int) by omega), if_pos (show (0 : Int) ≤ (j : Int) by omega), rdn hj, if_neg (show ¬ out[j] ≥ x from c), if_pos (show (j : Int) ≤ (out.length : Int) by omega), Int.toNat_natCast, l1Own_eq (out.take j) (by rw [zax]; omega), Option.bind_some, List.length_append, zax, zaw, List.length_cons, List.length_nil]
    simp only [if_pos (show min j out.length + (0 + 1) < 17592186044416 by omega), if_pos (show min j out.length + (0 + 1) + (out.length - j) < 17592186044416 by omega)]
    rw [e] at hr
    exact hr
theorem liRank_ev (l : List Int) (hx : l.length ≤ 1000000) : Ev (fun k => spec_liRank.f k l) (descL l) := by
 unfold spec_liRank.f
 have h := ev_fold (xs := l) (g := fun k out i => spec_liRank.l0 k out l (l.length : Int) i) insD (fun out i => out.length = i) id
  (fun s _ => Ev.succ (by simp only [spec_liRank.l0, if_neg (Int.lt_irrefl _)]; exact Ev.now _))
  (fun i h s r hs _ hr => Ev.succ (by
   simp only [spec_liRank.l0, if_pos (show (i : Int) < (l.length : Int) by omega), if_pos (show (0 : Int) ≤ (i : Int) by omega), rdn h]
   exact liRank_in l l[i] (i : Int) s (by omega) r (by rw [wsucc h (by omega)]; exact hr) s.length 0 (by omega) (fun j hj => by omega)))
  (fun i h s hs => by rw [insD_length, hs]) l.length 0 [] (by omega) rfl
 rw [List.drop_zero, foldl_ins] at h
 exact h





theorem kindB_iff (l : List Int) (f t a : Int) : kindB l f t a = true ↔ isG l f t a = true ∧ a ≤ 60 ∧ rd l t + a ≤ rd l f - a := by
 unfold kindB
 simp only [Bool.and_eq_true, decide_eq_true_eq]
theorem kind_give (l : List Int) (f t a : Int) (hg : goodL l = true) (hk : kindB l f t a = true) : goodL (giveL l f t a) = true := by
 obtain ⟨hG, c1, c2⟩ := (kindB_iff l f t a).1 hk
 obtain ⟨h1, h2, h3, h4⟩ := (isG_iff l f t a).1 hG
 have b1 := rd_good hg h1.1 h1.2
 have b2 := rd_good hg h2.1 h2.2
 exact (give_good l f t _ _ hg h1 h2 h3).2 (by omega)
end Go.Proofs.Ytnlimjejllakoaa.A
