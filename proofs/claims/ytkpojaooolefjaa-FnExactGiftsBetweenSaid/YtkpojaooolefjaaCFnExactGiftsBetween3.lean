/- What the law FnExactGiftsBetween reaches, part 3: Lean functions with the same answers as the Go functions, the proofs that the Go code comes to these answers, and lemmas about them; no condition beyond those that each theorem names. -/
import Derived.Test.YtkpojaooolefjaaCFnExactGiftsBetween1
import Derived.Test.YtkpojaooolefjaaCFnExactGiftsBetween2
-- made by a program of this repo (wip/pp.py) through the kit's printer
namespace Go.Proofs.Ytkpojaooolefjaa.A
open Go.RowKit Go.Proofs.YtkpojaooolefjaaW.PrintWords Go.Proofs.YtkpojaooolefjaaW.PrintLast Go.Proofs.YtkpojaooolefjaaW.PrintMore
attribute [local go_sem] max2_int min2_int max_two min_two max_three min_three max_four min_four
set_option linter.unusedVariables false
set_option linter.unusedSimpArgs false

/-! ### impl_given: function 77 -/
def impl_given.f (l0 : List Int) (a1_0 : Int) (a1_1 : Int) (a1_2 : Int) : Option (List Int) := (slices_Clone_int_int.f l0).bind fun t302 => (if 0 ≤ a1_0 then (if a1_0 < (t302.length : Int) then ((some (t302.set (a1_0 : Int).toNat (wrap64 ((rd t302 a1_0) - a1_2)) : List Int)).bind fun y306 => (if 0 ≤ a1_1 then (if a1_1 < (t302.length : Int) then (some (y306.set (a1_1 : Int).toNat (wrap64 ((rd y306 a1_1) + a1_2)))) else (none)) else (none))) else (none)) else (none))
def impl_given.T2 : Bool × List (List Nat × List Nat) := (true, [([], []), ([], []), ([1], [1]), ([0, 2], [0, 2]), ([3], [3]), ([], []), ([5], [5]), ([4, 6], [4, 6]), ([0, 2, 0, 1, 2, 3, 4, 5, 6, 7], [0, 2]), ([8, 7, 0, 1, 2, 3, 4, 5, 6, 7], [7, 8])])
def impl_given.B2 : List Nat := [0, 0, 2, 7, 15, 0, 32, 127, 255, 511]
theorem impl_given.tab2 : rtab .any (opsOf Try.f77 2) = impl_given.T2 := by kernel_rfl
theorem impl_given.bits2 : waitsOk impl_given.T2.2 impl_given.B2 = true := by kernel_rfl
def impl_given.T3 : Bool × List (List Nat × List Nat) := (true, [([], []), ([], []), ([1], [1]), ([0, 2], [0, 2]), ([3], [3]), ([], []), ([5], [5]), ([4, 6], [4, 6]), ([0, 2, 0, 1, 2, 3, 4, 5, 6, 7], [0, 2]), ([8, 7, 0, 1, 2, 3, 4, 5, 6, 7], [7, 8])])
def impl_given.B3 : List Nat := [0, 0, 2, 7, 15, 0, 32, 127, 255, 511]
theorem impl_given.tab3 : rtab .any (opsOf Try.f77 3) = impl_given.T3 := by kernel_rfl
theorem impl_given.bits3 : waitsOk impl_given.T3.2 impl_given.B3 = true := by kernel_rfl
set_option maxHeartbeats 8000000 in
set_option maxRecDepth 100000 in
theorem impl_given.calls (A0 : Option Addr) (c0 : Nat) (l0 : List Int) (a1_0 : Int) (a1_1 : Int) (a1_2 : Int) (r : List Int) (w : World) (hr0 : Kd.C (Kd.int .i64) w A0 l0.length l0) (hc0 : l0.length ≤ c0) (h : impl_given.f l0 a1_0 a1_1 a1_2 = some r) :
    Calls Try.prog 77 #[.slice A0 l0.length c0, .agg #[.int .i64 a1_0, .int .i64 a1_1, .int .i64 a1_2]] w fun e w' => ∃ v0_ : Value, e = .returned (v0_) ∧ Kd.R (Kd.int .i64) 3 w' w.heap.size (fun _ => True) v0_ r ∧ Below w.heap.size w w' := by
  have hu49 := Try.underlying49
  have HR0 := Aside0.mk hr0
  have HC0 := Aside0.mk hc0
  clear hr0 hc0
  have HB := Aside0.mk (Below.refl w.heap.size w)
  have H : ((slices_Clone_int_int.f l0).bind fun t302 => (if 0 ≤ a1_0 then (if a1_0 < (t302.length : Int) then ((some (t302.set (a1_0 : Int).toNat (wrap64 ((rd t302 a1_0) - a1_2)) : List Int)).bind fun y306 => (if 0 ≤ a1_1 then (if a1_1 < (t302.length : Int) then (some (y306.set (a1_1 : Int).toNat (wrap64 ((rd y306 a1_1) + a1_2)))) else (none)) else (none))) else (none)) else (none))) = some r := h
  clear h
  replace H := Option.bind_eq_some_iff.mp H
  obtain ⟨t302, A30, H⟩ := H
  replace H : (if 0 ≤ a1_0 then (if a1_0 < (t302.length : Int) then ((some (t302.set (a1_0 : Int).toNat (wrap64 ((rd t302 a1_0) - a1_2)) : List Int)).bind fun y306 => (if 0 ≤ a1_1 then (if a1_1 < (t302.length : Int) then (some (y306.set (a1_1 : Int).toNat (wrap64 ((rd y306 a1_1) + a1_2)))) else (none)) else (none))) else (none)) else (none)) = some r := H
  have A3 := Aside0.mk A30
  clear A30
  by_cases c4 : 0 ≤ a1_0
  · rw [if_pos c4] at H
    have c4b0 : decide (0 ≤ a1_0) = true := decide_eq_true c4
    clear c4
    by_cases c5 : a1_0 < (t302.length : Int)
    · rw [if_pos c5] at H
      have c5b0 : decide (a1_0 < (t302.length : Int)) = true := decide_eq_true c5
      clear c5
      obtain ⟨y306, hy306⟩ : ∃ y_ : List Int, y_ = (t302.set (a1_0 : Int).toNat (wrap64 ((rd t302 a1_0) - a1_2))) := ⟨_, rfl⟩
      replace H : (if 0 ≤ a1_1 then (if a1_1 < (t302.length : Int) then (some (y306.set (a1_1 : Int).toNat (wrap64 ((rd y306 a1_1) + a1_2)))) else (none)) else (none)) = some r := by first | (rw [hy306]; with_reducible exact H) | (have H2_ := (Option.bind_some _ _).symm.trans H; rw [hy306]; with_reducible exact H2_) | (have H2_ := (Option.bind_some _ _).symm.trans H; with_reducible exact H2_) | with_reducible exact H | (rw [hy306]; exact H) | exact H
      have Ny306 := Aside0.mk hy306
      clear hy306
      by_cases c7 : 0 ≤ a1_1
      · rw [if_pos c7] at H
        have c7b0 : decide (0 ≤ a1_1) = true := decide_eq_true c7
        clear c7
        by_cases c8 : a1_1 < (t302.length : Int)
        · rw [if_pos c8] at H
          have c8b0 : decide (a1_1 < (t302.length : Int)) = true := decide_eq_true c8
          clear c8
          obtain ⟨y308, hy308⟩ : ∃ y_ : List Int, y_ = (y306.set (a1_1 : Int).toNat (wrap64 ((rd y306 a1_1) + a1_2))) := ⟨_, rfl⟩
          replace H : (some y308) = some r := by first | (rw [hy308]; with_reducible exact H) | (have H2_ := (Option.bind_some _ _).symm.trans H; rw [hy308]; with_reducible exact H2_) | (have H2_ := (Option.bind_some _ _).symm.trans H; with_reducible exact H2_) | with_reducible exact H | (rw [hy308]; exact H) | exact H
          have Ny308 := Aside0.mk hy308
          clear hy308
          obtain rfl := Option.some.inj H
          go_enter Try.func77, Try.ntmps77
          try go_wp2_with (first | ((with_reducible refine gate_dst (N := 3) rfl ?_); refine box_event ?hg (N := 3) ?hd (cs := #[.int .i64 a1_0, .int .i64 a1_1, .int .i64 a1_2]) (t := 49) ?hr ?_; (case hd => rfl); (case hg => rfl); (case hr => first | (go_simp; done) | (go_simp; rfl)); intro gb301 hg w10 hbox hb; have n0_ := Aside0.mk (below_step (by repeat (first | (with_reducible first | exact HB.out | apply below_alloc | apply pw_below_drewN | apply below_drew1) | exact HB.out)) hb); have n1_ := Aside0.mk (hbox); have n2_ := Aside0.mk ((by rw [hg]; exact (below_size (by repeat (first | (with_reducible first | exact HB.out | apply below_alloc | apply pw_below_drewN | apply below_drew1) | exact HB.out))) : w.heap.size ≤ gb301)); have n3_ := Aside0.mk ((by rw [hg]; exact (below_size (by repeat (first | (with_reducible first | exact HB.out | apply below_alloc | apply pw_below_drewN | apply below_drew1) | exact HB.out))) : w.heap.size ≤ gb301)); clear HB; have HB := n0_; have BK301 := n1_; have GW301 := n2_; have GE301 := n3_; clear n0_ n1_ n2_ n3_; clear hb hbox hg) | ((with_reducible refine gate_callee (f := 68) rfl ?_); refine goesL_ (some 7) rfl rfl Try.func68 (by kernel_rfl) rfl #[.slice A0 l0.length c0] rfl (by (try simp only [List.map_toArray, List.map_cons, List.map_nil]); first | done | rfl | (simp only [List.length_drop, List.length_take]; rfl)) ?_; (with_reducible refine (slices_Clone_int_int.calls _ _ l0 t302 _ ?side1 ?side2 A3.out).mono ?_); (case side1 => repeat (first | exact (Kd.C_below HR0.out HB.out) | (with_reducible refine Kd.C_alloc ?_ _) | (with_reducible refine Kd.C_drewN ?_ _) | (with_reducible refine Kd.C_drew ?_))); (case side2 => exact HC0.out); rintro e w11 ⟨v303, rfl, ho0, hb⟩; refine ⟨_, rfl, ?_⟩; have n0_ := Aside0.mk (Kd.R_lower ho0 (below_size (by repeat (first | (with_reducible first | exact HB.out | apply below_alloc | apply pw_below_drewN | apply below_drew1 | refine below_set ?_ GE301.out) | exact HB.out)))); have n1_ := Aside0.mk (blk_below (g := gb301) (o := .cells #[.int .i64 a1_0, .int .i64 a1_1, .int .i64 a1_2] 49 (0, 0)) (by (with_reducible repeat (first | refine blk_drewN ?_ _ | refine blk_drew ?_ | refine blk_alloc ?_ _)); exact BK301.out) hb); have n2_ := Aside0.mk (below_step (by repeat (first | (with_reducible first | exact HB.out | apply below_alloc | apply pw_below_drewN | apply below_drew1 | refine below_set ?_ GE301.out) | exact HB.out)) hb); clear BK301; clear HB; have HO304 := n0_; have BK301 := n1_; have HB := n2_; clear n0_ n1_ n2_; (try clear hb); (try clear hb2); (try clear hk); (try clear hi); (try clear ho0)))
          have n0_ := Aside0.mk (Kd.R_drew HO304.out)
          have n1_ := Aside0.mk (blk_drew BK301.out)
          have n2_ := Aside0.mk (below_drew1 HB.out)
          clear HO304
          clear BK301
          clear HB
          have HO304 := n0_
          have BK301 := n1_
          have HB := n2_
          clear n0_ n1_ n2_
          obtain ⟨Ao13, co13, eo13⟩ := Kd.R_slice HO304.out
          (first | subst eo13 | (injection eo13 with f1_ f2_ f3_; have f4_ := f1_.symm; have f5_ := f3_.symm; clear f1_ f2_ f3_; subst f4_; subst f5_))
          have p305 : 0 ≤ (a1_0 : Int) := of_decide_eq_true (by first | (with_reducible assumption) | assumption)
          have q305 : a1_0 < (t302.length : Int) := of_decide_eq_true (by first | (with_reducible assumption) | assumption)
          obtain ⟨ad305, e305, hx305_0⟩ := Kd.at_int (Kd.R_reads' HO304.out).2.2 a1_0 p305 q305
          cases e305
          replace p305 := eq_true p305
          replace q305 := eq_true q305
          have p6 : 0 ≤ (a1_0 : Int) := of_decide_eq_true (by first | (with_reducible assumption) | assumption)
          have q6 : (a1_0 : Int) < ((t302.length : Int) : Int) := of_decide_eq_true (by first | (with_reducible assumption) | assumption)
          obtain ⟨go6, co6, eo6, gb6, gl6, cl6, HG6⟩ := Kd.R_form HO304.out (by omega)
          (first | cases eo6 | (injection eo6 with ea_ en_ ec_; (first | subst ea_ | (injection ea_ with ea_; subst ea_)); subst ec_; clear en_))
          have GB6 := Aside0.mk gb6
          have GG6 := Aside0.mk HG6
          clear gb6 gl6 HG6
          (first | simp only [add_plain] at hx305_0 | skip)
          obtain ⟨hx6_0, hf6_0⟩ := Kd.R_celln 0 HO304.out (a1_0 : Int) p6 q6
          replace p6 := eq_true p6
          replace q6 := eq_true q6
          have HP14 := Kd.R_putn HO304.out (a1_0 : Int) (wrap64 ((rd t302 a1_0) - a1_2))
          rw [← Ny306.out] at HP14
          have HQ14 := Aside0.mk HP14
          clear HP14
          refine start_ (n := 10) (S := fun w' => w'.cell? ⟨gb301, 0, none⟩ = some (.int .i64 a1_0) ∧ w'.cell? ⟨gb301, 1, none⟩ = some (.int .i64 a1_1) ∧ w'.cell? ⟨gb301, 2, none⟩ = some (.int .i64 a1_2) ∧ w'.cell? ⟨go6, (a1_0).toNat, none⟩ = some (.int .i64 (rd t302 a1_0))) (ds := [9]) #[false, false, false, false, false, false, false, false, false, false] (by kernel_rfl) rfl rfl ⟨(blk_cell BK301.out 0).trans rfl, (blk_cell BK301.out 1).trans rfl, (blk_cell BK301.out 2).trans rfl, hx305_0⟩ (fun hHeld => ?_); refine with_tabW impl_given.tab2 impl_given.bits2 (fun HT_ HW_ => ?_)
          generalize w11.drew = w12 at HO304 BK301 HB GG6 HQ14 hf6_0 hx305_0 hx6_0 hHeld ⊢
          refine pure_ (i := 0) (N := some 8) (v := ?_) (a' := ?_) #[true, false, false, false, false, false, false, false, false, false] rfl rfl (any_of HT_.out (by kernel_rfl)) (fun _ _ _ h => h) (Or.inl ⟨by rfl, ?_⟩) ?_ ?_
          rotate_left
          · intro w'
            go_simp
            with_reducible rfl
          rotate_left
          · simp only [Act.put, List.setIfInBounds_toArray, List.set_cons_zero, List.set_cons_succ, i64_w, i32_w]
            rfl
          refine pure_ (i := 1) (N := some 9) (v := ?_) (a' := ?_) #[true, true, false, false, false, false, false, false, false, false] rfl rfl (any_of HT_.out (by kernel_rfl)) (fun _ _ _ h => h) (Or.inl ⟨by rfl, ?_⟩) ?_ ?_
          rotate_left
          · intro w'
            go_simp
            with_reducible rfl
          rotate_left
          · simp only [Act.put, List.setIfInBounds_toArray, List.set_cons_zero, List.set_cons_succ, i64_w, i32_w]
            rfl
          refine pure_ (i := 5) (N := some 13) (v := ?_) (a' := ?_) #[true, true, false, false, false, true, false, false, false, false] rfl rfl (any_of HT_.out (by kernel_rfl)) (fun _ _ _ h => h) (Or.inl ⟨by rfl, ?_⟩) ?_ ?_
          rotate_left
          · intro w'
            go_simp
            with_reducible rfl
          rotate_left
          · simp only [Act.put, List.setIfInBounds_toArray, List.set_cons_zero, List.set_cons_succ, i64_w, i32_w]
            rfl
          refine take_ (i := 2) (N := some 10) (v := ?_) (a' := ?_) #[true, true, true, false, false, true, false, false, false, false] rfl rfl (take_ofW HT_.out HW_.out (by kernel_rfl)) (fun _ _ _ h => h) (Or.inl ⟨by rfl, ?_⟩) hHeld ?_ ?_
          rotate_left
          · rintro w' ⟨s0, s1, s2, s3⟩
            go_simp
            with_reducible rfl
          rotate_left
          · simp only [Act.put, List.setIfInBounds_toArray, List.set_cons_zero, List.set_cons_succ, i64_w, i32_w]
            rfl
          refine pure_ (i := 3) (N := some 11) (v := ?_) (a' := ?_) #[true, true, true, true, false, true, false, false, false, false] rfl rfl (any_of HT_.out (by kernel_rfl)) (fun _ _ _ h => h) (Or.inl ⟨by rfl, ?_⟩) ?_ ?_
          rotate_left
          · intro w'
            go_simp
            with_reducible rfl
          rotate_left
          · simp only [Act.put, List.setIfInBounds_toArray, List.set_cons_zero, List.set_cons_succ, i64_w, i32_w]
            rfl
          refine take_ (i := 4) (N := some 12) (v := ?_) (a' := ?_) #[true, true, true, true, true, true, false, false, false, false] rfl rfl (take_ofW HT_.out HW_.out (by kernel_rfl)) (fun _ _ _ h => h) (Or.inl ⟨by rfl, ?_⟩) hHeld ?_ ?_
          rotate_left
          · rintro w' ⟨s0, s1, s2, s3⟩
            go_simp
            with_reducible rfl
          rotate_left
          · simp only [Act.put, List.setIfInBounds_toArray, List.set_cons_zero, List.set_cons_succ, i64_w, i32_w]
            rfl
          refine take_ (i := 6) (N := some 14) (v := ?_) (a' := ?_) #[true, true, true, true, true, true, true, false, false, false] rfl rfl (take_ofW HT_.out HW_.out (by kernel_rfl)) (fun _ _ _ h => h) (Or.inl ⟨by rfl, ?_⟩) hHeld ?_ ?_
          rotate_left
          · rintro w' ⟨s0, s1, s2, s3⟩
            go_simp
            with_reducible rfl
          rotate_left
          · simp only [Act.put, List.setIfInBounds_toArray, List.set_cons_zero, List.set_cons_succ, i64_w, i32_w]
            rfl
          refine pure_ (i := 7) (N := some 15) (v := ?_) (a' := ?_) #[true, true, true, true, true, true, true, true, false, false] rfl rfl (any_of HT_.out (by kernel_rfl)) (fun _ _ _ h => h) (Or.inl ⟨by rfl, ?_⟩) ?_ ?_
          rotate_left
          · intro w'
            go_simp
            with_reducible rfl
          rotate_left
          · simp only [Act.put, List.setIfInBounds_toArray, List.set_cons_zero, List.set_cons_succ, i64_w, i32_w]
            rfl
          refine pure_ (i := 8) (N := some 16) (v := ?_) (a' := ?_) #[true, true, true, true, true, true, true, true, true, false] rfl rfl (any_of HT_.out (by kernel_rfl)) (fun _ _ _ h => h) (Or.inl ⟨by rfl, ?_⟩) ?_ ?_
          rotate_left
          · intro w'
            go_simp
            with_reducible rfl
          rotate_left
          · simp only [Act.put, List.setIfInBounds_toArray, List.set_cons_zero, List.set_cons_succ, i64_w, i32_w]
            rfl
          refine last_ (i := 9) (N := none) #[true, true, true, true, true, true, true, true, true, true] rfl rfl (one_of HT_.out (by kernel_rfl)) (by decide) (fun K hK => ?_)
          refine skip_ (w1 := ?_) (by rfl) rfl ?_ ?_
          rotate_left
          · go_simp
            rfl
          refine hK.out _ _ ?_
          clear hK K
          refine done_ (done_of HT_.out (by kernel_rfl)) ?_
          try go_wp2
          have n0_ : Aside0 (Kd.R (Kd.int .i64) 3 (w12.setCell ⟨go6, (a1_0 : Int).toNat, none⟩ (.int .i64 (wrap64 ((rd t302 a1_0) - a1_2)))) w.heap.size (fun _ => True) (.slice (some ⟨go6, 0, none⟩) t302.length co13) y306) := ⟨by (with_reducible repeat (first | apply Kd.R_alloc | apply Kd.R_drewN | apply Kd.R_drew)); exact HQ14.out⟩
          have n1_ : Aside0 ((w12.setCell ⟨go6, (a1_0 : Int).toNat, none⟩ (.int .i64 (wrap64 ((rd t302 a1_0) - a1_2)))).heap[gb301]? = some (.cells #[.int .i64 a1_0, .int .i64 a1_1, .int .i64 a1_2] 49 (0, 0))) := ⟨by (with_reducible repeat (first | refine blk_drewN ?_ _ | refine blk_drew ?_ | refine blk_alloc ?_ _)); refine blk_far ?_ (by have h_ := Kd.R_ne HO304.out BK301.out (by decide); intro e_; exact h_ (by rw [e_]; rfl)) _; (with_reducible repeat (first | refine blk_drewN ?_ _ | refine blk_drew ?_ | refine blk_alloc ?_ _)); exact BK301.out⟩
          have n2_ : Aside0 (Below w.heap.size w (w12.setCell ⟨go6, (a1_0 : Int).toNat, none⟩ (.int .i64 (wrap64 ((rd t302 a1_0) - a1_2))))) := ⟨by repeat (first | (with_reducible first | exact HB.out | apply below_alloc | apply pw_below_drewN | apply below_drew1 | refine below_set ?_ GB6.out | refine below_set ?_ GE301.out) | exact HB.out)⟩
          (try clear HO304)
          (try clear BK301)
          (try clear HB)
          generalize (w12.setCell ⟨go6, (a1_0 : Int).toNat, none⟩ (.int .i64 (wrap64 ((rd t302 a1_0) - a1_2)))) = w15 at n0_ n1_ n2_ ⊢
          have HO304 := n0_
          have BK301 := n1_
          have HB := n2_
          clear n0_ n1_ n2_
          have n0_ := Aside0.mk (Kd.R_drew HO304.out)
          have n1_ := Aside0.mk (blk_drew BK301.out)
          have n2_ := Aside0.mk (below_drew1 HB.out)
          clear HO304
          clear BK301
          clear HB
          have HO304 := n0_
          have BK301 := n1_
          have HB := n2_
          clear n0_ n1_ n2_
          have p307 : 0 ≤ (a1_1 : Int) := of_decide_eq_true (by first | (with_reducible assumption) | assumption)
          have q307 : a1_1 < (y306.length : Int) := (by have h_ : (a1_1 : Int) < ((t302.length : Int) : Int) := of_decide_eq_true (by first | (with_reducible assumption) | assumption); first | (have e_ := (Kd.R_reads' HO304.out).1; omega) | simpa only [Ny306.out, List.length_set] using h_)
          have ql307 : ((a1_1 : Int) < ((t302.length : Int) : Int)) = True := eq_true (of_decide_eq_true (by first | (with_reducible assumption) | assumption))
          obtain ⟨ad307, e307, hx307_0⟩ := Kd.at_int (Kd.R_reads' HO304.out).2.2 a1_1 p307 q307
          obtain rfl : (⟨go6, 0, none⟩ : Addr) = ad307 := (by injection e307)
          (first | simp only [add_plain] at hx307_0 | simp only [add_at] at hx307_0 | simp only [Addr.add, Nat.zero_add] at hx307_0 | skip)
          replace p307 := eq_true p307
          replace q307 := eq_true q307
          have p9 : 0 ≤ (a1_1 : Int) := of_decide_eq_true (by first | (with_reducible assumption) | assumption)
          have q9 : (a1_1 : Int) < ((t302.length : Int) : Int) := of_decide_eq_true (by first | (with_reducible assumption) | assumption)
          obtain ⟨hx9_0, hf9_0⟩ := Kd.R_celln 0 HO304.out (a1_1 : Int) p9 q9
          replace p9 := eq_true p9
          replace q9 := eq_true q9
          have HP17 := Kd.R_putn HO304.out (a1_1 : Int) (wrap64 ((rd y306 a1_1) + a1_2))
          rw [← Ny308.out] at HP17
          have HQ17 := Aside0.mk HP17
          clear HP17
          refine start_ (n := 10) (S := fun w' => w'.cell? ⟨gb301, 0, none⟩ = some (.int .i64 a1_0) ∧ w'.cell? ⟨gb301, 1, none⟩ = some (.int .i64 a1_1) ∧ w'.cell? ⟨gb301, 2, none⟩ = some (.int .i64 a1_2) ∧ w'.cell? ⟨go6, (a1_1).toNat, none⟩ = some (.int .i64 (rd y306 a1_1))) (ds := [9]) #[false, false, false, false, false, false, false, false, false, false] (by kernel_rfl) rfl rfl ⟨(blk_cell BK301.out 0).trans rfl, (blk_cell BK301.out 1).trans rfl, (blk_cell BK301.out 2).trans rfl, hx307_0⟩ (fun hHeld => ?_); refine with_tabW impl_given.tab3 impl_given.bits3 (fun HT_ HW_ => ?_)
          generalize w15.drew = w16 at HO304 BK301 HB HQ14 HQ17 hf9_0 hx307_0 hx9_0 hHeld ⊢
          refine pure_ (i := 0) (N := some 17) (v := ?_) (a' := ?_) #[true, false, false, false, false, false, false, false, false, false] rfl rfl (any_of HT_.out (by kernel_rfl)) (fun _ _ _ h => h) (Or.inl ⟨by rfl, ?_⟩) ?_ ?_
          rotate_left
          · intro w'
            go_simp
            with_reducible rfl
          rotate_left
          · simp only [Act.put, List.setIfInBounds_toArray, List.set_cons_zero, List.set_cons_succ, i64_w, i32_w]
            rfl
          refine pure_ (i := 1) (N := some 18) (v := ?_) (a' := ?_) #[true, true, false, false, false, false, false, false, false, false] rfl rfl (any_of HT_.out (by kernel_rfl)) (fun _ _ _ h => h) (Or.inl ⟨by rfl, ?_⟩) ?_ ?_
          rotate_left
          · intro w'
            go_simp
            with_reducible rfl
          rotate_left
          · simp only [Act.put, List.setIfInBounds_toArray, List.set_cons_zero, List.set_cons_succ, i64_w, i32_w]
            rfl
          refine pure_ (i := 5) (N := some 22) (v := ?_) (a' := ?_) #[true, true, false, false, false, true, false, false, false, false] rfl rfl (any_of HT_.out (by kernel_rfl)) (fun _ _ _ h => h) (Or.inl ⟨by rfl, ?_⟩) ?_ ?_
          rotate_left
          · intro w'
            go_simp
            with_reducible rfl
          rotate_left
          · simp only [Act.put, List.setIfInBounds_toArray, List.set_cons_zero, List.set_cons_succ, i64_w, i32_w]
            rfl
          refine take_ (i := 2) (N := some 19) (v := ?_) (a' := ?_) #[true, true, true, false, false, true, false, false, false, false] rfl rfl (take_ofW HT_.out HW_.out (by kernel_rfl)) (fun _ _ _ h => h) (Or.inl ⟨by rfl, ?_⟩) hHeld ?_ ?_
          rotate_left
          · rintro w' ⟨s0, s1, s2, s3⟩
            go_simp
            with_reducible rfl
          rotate_left
          · simp only [Act.put, List.setIfInBounds_toArray, List.set_cons_zero, List.set_cons_succ, i64_w, i32_w]
            rfl
          refine pure_ (i := 3) (N := some 20) (v := ?_) (a' := ?_) #[true, true, true, true, false, true, false, false, false, false] rfl rfl (any_of HT_.out (by kernel_rfl)) (fun _ _ _ h => h) (Or.inl ⟨by rfl, ?_⟩) ?_ ?_
          rotate_left
          · intro w'
            go_simp
            with_reducible rfl
          rotate_left
          · simp only [Act.put, List.setIfInBounds_toArray, List.set_cons_zero, List.set_cons_succ, i64_w, i32_w]
            rfl
          refine take_ (i := 4) (N := some 21) (v := ?_) (a' := ?_) #[true, true, true, true, true, true, false, false, false, false] rfl rfl (take_ofW HT_.out HW_.out (by kernel_rfl)) (fun _ _ _ h => h) (Or.inl ⟨by rfl, ?_⟩) hHeld ?_ ?_
          rotate_left
          · rintro w' ⟨s0, s1, s2, s3⟩
            go_simp
            with_reducible rfl
          rotate_left
          · simp only [Act.put, List.setIfInBounds_toArray, List.set_cons_zero, List.set_cons_succ, i64_w, i32_w]
            rfl
          refine take_ (i := 6) (N := some 23) (v := ?_) (a' := ?_) #[true, true, true, true, true, true, true, false, false, false] rfl rfl (take_ofW HT_.out HW_.out (by kernel_rfl)) (fun _ _ _ h => h) (Or.inl ⟨by rfl, ?_⟩) hHeld ?_ ?_
          rotate_left
          · rintro w' ⟨s0, s1, s2, s3⟩
            go_simp
            with_reducible rfl
          rotate_left
          · simp only [Act.put, List.setIfInBounds_toArray, List.set_cons_zero, List.set_cons_succ, i64_w, i32_w]
            rfl
          refine pure_ (i := 7) (N := some 24) (v := ?_) (a' := ?_) #[true, true, true, true, true, true, true, true, false, false] rfl rfl (any_of HT_.out (by kernel_rfl)) (fun _ _ _ h => h) (Or.inl ⟨by rfl, ?_⟩) ?_ ?_
          rotate_left
          · intro w'
            go_simp
            with_reducible rfl
          rotate_left
          · simp only [Act.put, List.setIfInBounds_toArray, List.set_cons_zero, List.set_cons_succ, i64_w, i32_w]
            rfl
          refine pure_ (i := 8) (N := some 25) (v := ?_) (a' := ?_) #[true, true, true, true, true, true, true, true, true, false] rfl rfl (any_of HT_.out (by kernel_rfl)) (fun _ _ _ h => h) (Or.inl ⟨by rfl, ?_⟩) ?_ ?_
          rotate_left
          · intro w'
            go_simp
            with_reducible rfl
          rotate_left
          · simp only [Act.put, List.setIfInBounds_toArray, List.set_cons_zero, List.set_cons_succ, i64_w, i32_w]
            rfl
          refine last_ (i := 9) (N := none) #[true, true, true, true, true, true, true, true, true, true] rfl rfl (one_of HT_.out (by kernel_rfl)) (by decide) (fun K hK => ?_)
          refine skip_ (w1 := ?_) (by rfl) rfl ?_ ?_
          rotate_left
          · go_simp
            rfl
          refine hK.out _ _ ?_
          clear hK K
          refine done_ (done_of HT_.out (by kernel_rfl)) ?_
          try go_wp2
          go_ret
          exact ⟨_, by first | rfl | (simp [errW_none, errW_some] <;> rfl) | (simp [*, errW_none, errW_some] <;> rfl), by (with_reducible repeat (first | apply Kd.R_alloc | apply Kd.R_drewN | apply Kd.R_drew)); exact HQ17.out, by repeat (first | (with_reducible first | exact HB.out | apply below_alloc | apply pw_below_drewN | apply below_drew1 | refine below_set ?_ GB6.out | refine below_set ?_ GE301.out) | exact HB.out)⟩
        · rw [if_neg c8] at H
          exact absurd H (by simp)
      · rw [if_neg c7] at H
        exact absurd H (by simp)
    · rw [if_neg c5] at H
      exact absurd H (by simp)
  · rw [if_neg c4] at H
    exact absurd H (by simp)

end Go.Proofs.Ytkpojaooolefjaa.A

-- made by a program of this repo (wip/pp.py) through the kit's printer
namespace Go.Proofs.Ytkpojaooolefjaa.A
open Go.RowKit Go.Proofs.YtkpojaooolefjaaW.PrintWords Go.Proofs.YtkpojaooolefjaaW.PrintLast Go.Proofs.YtkpojaooolefjaaW.PrintMore
attribute [local go_sem] max2_int min2_int max_two min_two max_three min_three max_four min_four
set_option linter.unusedVariables false
set_option linter.unusedSimpArgs false

/-! ### impl_unitsFrom: function 47 -/
mutual
def impl_unitsFrom.l0 : Nat → List Int → List Int → List (List Int) → Int → Int → Option ((List (List Int)))
  | 0, _, _, _, _, _ => none
  | k + 1, x0, x1, x5, x12, x13 => if x13 < x12 then (impl_unitsFrom.l1 k x0 x1 x5 x13 x12 x13 (x0.length : Int) 0) else (some x5)
def impl_unitsFrom.l1 : Nat → List Int → List Int → List (List Int) → Int → Int → Int → Int → Int → Option ((List (List Int)))
  | 0, _, _, _, _, _, _, _, _ => none
  | k + 1, x0, x1, x5, x6, x12, x13, x17, x18 => if x18 < x17 then ((impl_isKind.f x0 x6 x18 1).bind fun t313 => (if t313 = true then ((impl_given.f x0 x6 x18 1).bind fun t314 => ((impl_ranking.f t314).bind fun t317 => ((impl_isMajorized.f k x1 t317).bind fun t320 => (if t320 = true then (if x5.length < 5864062014805 then (impl_unitsFrom.l1 k x0 x1 (x5 ++ [t317]) x6 x12 x13 x17 (wrap64 (x18 + 1))) else (none)) else (impl_unitsFrom.l1 k x0 x1 x5 x6 x12 x13 x17 (wrap64 (x18 + 1))))))) else (impl_unitsFrom.l1 k x0 x1 x5 x6 x12 x13 x17 (wrap64 (x18 + 1))))) else (impl_unitsFrom.l0 k x0 x1 x5 x12 (wrap64 (x13 + 1)))
end
def impl_unitsFrom.f (k : Nat) (l0 : List Int) (l1 : List Int) : Option ((List (List Int))) := impl_unitsFrom.l0 k l0 l1 (([] : List (List Int))) (l0.length : Int) 0
theorem impl_unitsFrom.mono_l : ∀ k, (∀ y0 y1 y2 y3 y4, LeO (impl_unitsFrom.l0 k y0 y1 y2 y3 y4) (impl_unitsFrom.l0 (k + 1) y0 y1 y2 y3 y4)) ∧ (∀ y0 y1 y2 y3 y4 y5 y6 y7, LeO (impl_unitsFrom.l1 k y0 y1 y2 y3 y4 y5 y6 y7) (impl_unitsFrom.l1 (k + 1) y0 y1 y2 y3 y4 y5 y6 y7))
  | 0 => ⟨fun _ _ _ _ _ r h => by simp [impl_unitsFrom.l0] at h, fun _ _ _ _ _ _ _ _ r h => by simp [impl_unitsFrom.l1] at h⟩
  | k + 1 => by
    obtain ⟨ih0, ih1⟩ := impl_unitsFrom.mono_l k
    refine ⟨?_, ?_⟩
    · intro y0 y1 y2 y3 y4
      unfold impl_unitsFrom.l0
      repeat' first
      | (with_reducible exact ih0 _ _ _ _ _)
      | (with_reducible exact ih1 _ _ _ _ _ _ _ _)
      | (with_reducible exact impl_isMajorized.mono _ _ _)
      | (with_reducible exact LeO.refl _)
      | (with_reducible exact LeO.none _)
      | (with_reducible refine LeO.ite ?_ ?_)
      | (with_reducible refine LeO.bind ?_ (fun _ => ?_))
      | exact ih0 _ _ _ _ _
      | exact ih1 _ _ _ _ _ _ _ _
      | exact impl_isMajorized.mono _ _ _
      | exact LeO.none _
      | refine LeO.ite ?_ ?_
      | refine LeO.bind ?_ (fun _ => ?_)
    · intro y0 y1 y2 y3 y4 y5 y6 y7
      unfold impl_unitsFrom.l1
      repeat' first
      | (with_reducible exact ih0 _ _ _ _ _)
      | (with_reducible exact ih1 _ _ _ _ _ _ _ _)
      | (with_reducible exact impl_isMajorized.mono _ _ _)
      | (with_reducible exact LeO.refl _)
      | (with_reducible exact LeO.none _)
      | (with_reducible refine LeO.ite ?_ ?_)
      | (with_reducible refine LeO.bind ?_ (fun _ => ?_))
      | exact ih0 _ _ _ _ _
      | exact ih1 _ _ _ _ _ _ _ _
      | exact impl_isMajorized.mono _ _ _
      | exact LeO.none _
      | refine LeO.ite ?_ ?_
      | refine LeO.bind ?_ (fun _ => ?_)
theorem impl_unitsFrom.mono : ∀ a0 a1 k, LeO (impl_unitsFrom.f k a0 a1) (impl_unitsFrom.f (k + 1) a0 a1) := by
  intro a0 a1 k
  obtain ⟨ih0, ih1⟩ := impl_unitsFrom.mono_l k
  unfold impl_unitsFrom.f
  repeat' first
      | (with_reducible exact ih0 _ _ _ _ _)
      | (with_reducible exact ih1 _ _ _ _ _ _ _ _)
      | (with_reducible exact impl_isMajorized.mono _ _ _)
      | (with_reducible exact LeO.refl _)
      | (with_reducible exact LeO.none _)
      | (with_reducible refine LeO.ite ?_ ?_)
      | (with_reducible refine LeO.bind ?_ (fun _ => ?_))
      | exact ih0 _ _ _ _ _
      | exact ih1 _ _ _ _ _ _ _ _
      | exact impl_isMajorized.mono _ _ _
      | exact LeO.none _
      | refine LeO.ite ?_ ?_
      | refine LeO.bind ?_ (fun _ => ?_)
set_option maxHeartbeats 8000000 in
set_option maxRecDepth 100000 in
theorem impl_unitsFrom.calls (k : Nat) (A0 : Option Addr) (c0 : Nat) (l0 : List Int) (A1 : Option Addr) (c1 : Nat) (l1 : List Int) (r : List (List Int)) (w : World) (hr0 : Kd.C (Kd.int .i64) w A0 l0.length l0) (hc0 : l0.length ≤ c0) (hr1 : Kd.C (Kd.int .i64) w A1 l1.length l1) (hc1 : l1.length ≤ c1) (h : impl_unitsFrom.f k l0 l1 = some r) :
    Calls Try.prog 47 #[.slice A0 l0.length c0, .slice A1 l1.length c1] w fun e w' => ∃ v0_ : Value, e = .returned (v0_) ∧ Kd.S (Kd.slice 3 (Kd.int .i64)) 22 w' w.heap.size (fun _ => True) v0_ r ∧ Below w.heap.size w w' := by
  have hu49 := Try.underlying49
  have HR0 := Aside0.mk hr0
  have HC0 := Aside0.mk hc0
  clear hr0 hc0
  have HR1 := Aside0.mk hr1
  have HC1 := Aside0.mk hc1
  clear hr1 hc1
  have HB := Aside0.mk (Below.refl w.heap.size w)
  have H : (impl_unitsFrom.l0 k l0 l1 (([] : List (List Int))) (l0.length : Int) 0) = some r := h
  clear h
  obtain ⟨y309, hy309⟩ : ∃ y_ : List (List Int), y_ = (([] : List (List Int))) := ⟨_, rfl⟩
  replace H : (impl_unitsFrom.l0 k l0 l1 y309 (l0.length : Int) 0) = some r := by first | (rw [hy309]; with_reducible exact H) | (have H2_ := (Option.bind_some _ _).symm.trans H; rw [hy309]; with_reducible exact H2_) | (have H2_ := (Option.bind_some _ _).symm.trans H; with_reducible exact H2_) | with_reducible exact H | (rw [hy309]; exact H) | exact H
  have Ny309 := Aside0.mk hy309
  clear hy309
  have H' := Aside0.mk H
  clear H
  go_enter Try.func47, Try.ntmps47
  go_wp2_with (first | ((with_reducible refine gate_dst (N := 10) rfl ?_); refine Kd.S_lit (Kd.slice 3 (Kd.int .i64)) _ 22 ?hg (N := 10) ?hd (xs := ([] : List (List Int))) (inner := []) (ok := fun _ => True) (okp := fun _ => True) ?hr ?hp (fun _ hk => hk) trivial (Below.refl _ _) (Nat.le_refl _) (by simp) ?_; (case hd => rfl); (case hg => rfl); (case hr => first | (go_simp; done) | (go_simp; rfl)); (case hp => exact (Reps.none _ _)); intro v310 w3 ho4 hb hg_ hnew_; clear hg_ hnew_; (first | rw [← Ny309.out] at ho4 | (simp only [Int.reduceToNat] at ho4; rw [← Ny309.out] at ho4)); have n0_ := Aside0.mk (Kd.S_lower ho4 (below_size (by repeat (first | (with_reducible first | exact HB.out | apply below_alloc | apply pw_below_drewN | apply below_drew1) | exact HB.out)))); have n1_ := Aside0.mk (below_step (by repeat (first | (with_reducible first | exact HB.out | apply below_alloc | apply pw_below_drewN | apply below_drew1) | exact HB.out)) hb); clear HB; have HO311 := n0_; have HB := n1_; clear n0_ n1_; clear hb ho4))
  go_loopg [5, 13] k (fun kq v5 v13 w' => ∃ (x5_1 : List (List Int)) (x13_1 : Int), v13 = .int .i64 x13_1 ∧ Aside0 (impl_unitsFrom.l0 kq l0 l1 x5_1 (l0.length : Int) x13_1 = some r) ∧ Aside0 (kq ≤ k) ∧ Aside0 (Kd.S (Kd.slice 3 (Kd.int .i64)) 22 w' w.heap.size (fun _ => True) v5 x5_1) ∧ Aside0 (Below w.heap.size w w'))
  case atStart => exact ⟨(y309), (0), (by first | rfl | (simp; done) | (simp [*]; done)), H', ⟨Nat.le_refl _⟩, ⟨by (with_reducible repeat (first | apply Kd.S_alloc | apply Kd.S_drewN | apply Kd.S_drew)); exact HO311.out⟩, ⟨by repeat (first | (with_reducible first | exact HB.out | apply below_alloc | apply pw_below_drewN | apply below_drew1) | exact HB.out)⟩⟩
  case round =>
    clear H'
    try clear c1
    try clear p2
    try clear c4
    obtain ⟨x5_1, x13_1, rfl, HA, HK1, HO_5, HB⟩ := hrel
    cases gk with
    | zero => exact absurd HA.out (by simp [impl_unitsFrom.l0])
    | succ k1 =>
      have H := HA.out
      clear HA
      simp only [impl_unitsFrom.l0] at H
      by_cases c5 : x13_1 < (l0.length : Int)
      · rw [if_pos c5] at H
        have c5b0 : decide (x13_1 < (l0.length : Int)) = true := decide_eq_true c5
        clear c5
        have H' := Aside0.mk H
        clear H
        go_wp2
        go_loopg [5, 18] k1 (fun kq v5 v18 w' => ∃ (x5_2 : List (List Int)) (x18_2 : Int), v18 = .int .i64 x18_2 ∧ Aside0 (impl_unitsFrom.l1 kq l0 l1 x5_2 x13_1 (l0.length : Int) x13_1 (l0.length : Int) x18_2 = some r) ∧ Aside0 (kq ≤ k1) ∧ Aside0 (Kd.S (Kd.slice 3 (Kd.int .i64)) 22 w' w.heap.size (fun _ => True) v5 x5_2) ∧ Aside0 (Below w.heap.size w w'))
        case atStart => exact ⟨(x5_1), (0), (by first | rfl | (simp; done) | (simp [*]; done)), H', ⟨Nat.le_refl _⟩, ⟨by (with_reducible repeat (first | apply Kd.S_alloc | apply Kd.S_drewN | apply Kd.S_drew)); exact HO_5.out⟩, ⟨by repeat (first | (with_reducible first | exact HB.out | apply below_alloc | apply pw_below_drewN | apply below_drew1) | exact HB.out)⟩⟩
        case round =>
          clear H'
          try clear c1
          try clear p2
          try clear c4
          try clear c5
          try clear c5b0
          try clear p2
          obtain ⟨x5_2, x18_2, rfl, HA, HK2, HO_5, HB⟩ := hrel
          cases gk with
          | zero => exact absurd HA.out (by simp [impl_unitsFrom.l1])
          | succ k2 =>
            have H := HA.out
            clear HA
            simp only [impl_unitsFrom.l1] at H
            by_cases c6 : x18_2 < (l0.length : Int)
            · rw [if_pos c6] at H
              have c6b0 : decide (x18_2 < (l0.length : Int)) = true := decide_eq_true c6
              clear c6
              replace H := Option.bind_eq_some_iff.mp H
              obtain ⟨t313, A70, H⟩ := H
              replace H : (if t313 = true then ((impl_given.f l0 x13_1 x18_2 1).bind fun t314 => ((impl_ranking.f t314).bind fun t317 => ((impl_isMajorized.f k2 l1 t317).bind fun t320 => (if t320 = true then (if x5_2.length < 5864062014805 then (impl_unitsFrom.l1 k2 l0 l1 (x5_2 ++ [t317]) x13_1 (l0.length : Int) x13_1 (l0.length : Int) (wrap64 (x18_2 + 1))) else (none)) else (impl_unitsFrom.l1 k2 l0 l1 x5_2 x13_1 (l0.length : Int) x13_1 (l0.length : Int) (wrap64 (x18_2 + 1))))))) else (impl_unitsFrom.l1 k2 l0 l1 x5_2 x13_1 (l0.length : Int) x13_1 (l0.length : Int) (wrap64 (x18_2 + 1)))) = some r := H
              have A7 := Aside0.mk A70
              clear A70
              by_cases c8 : t313 = true
              · subst c8
                have H1 : ((impl_given.f l0 x13_1 x18_2 1).bind fun t314 => ((impl_ranking.f t314).bind fun t317 => ((impl_isMajorized.f k2 l1 t317).bind fun t320 => (if t320 = true then (if x5_2.length < 5864062014805 then (impl_unitsFrom.l1 k2 l0 l1 (x5_2 ++ [t317]) x13_1 (l0.length : Int) x13_1 (l0.length : Int) (wrap64 (x18_2 + 1))) else (none)) else (impl_unitsFrom.l1 k2 l0 l1 x5_2 x13_1 (l0.length : Int) x13_1 (l0.length : Int) (wrap64 (x18_2 + 1))))))) = some r := by rw [if_pos rfl] at H; exact H
                clear H
                have H := H1
                clear H1
                replace H := Option.bind_eq_some_iff.mp H
                obtain ⟨t314, A90, H⟩ := H
                replace H : ((impl_ranking.f t314).bind fun t317 => ((impl_isMajorized.f k2 l1 t317).bind fun t320 => (if t320 = true then (if x5_2.length < 5864062014805 then (impl_unitsFrom.l1 k2 l0 l1 (x5_2 ++ [t317]) x13_1 (l0.length : Int) x13_1 (l0.length : Int) (wrap64 (x18_2 + 1))) else (none)) else (impl_unitsFrom.l1 k2 l0 l1 x5_2 x13_1 (l0.length : Int) x13_1 (l0.length : Int) (wrap64 (x18_2 + 1)))))) = some r := H
                have A9 := Aside0.mk A90
                clear A90
                replace H := Option.bind_eq_some_iff.mp H
                obtain ⟨t317, A100, H⟩ := H
                replace H : ((impl_isMajorized.f k2 l1 t317).bind fun t320 => (if t320 = true then (if x5_2.length < 5864062014805 then (impl_unitsFrom.l1 k2 l0 l1 (x5_2 ++ [t317]) x13_1 (l0.length : Int) x13_1 (l0.length : Int) (wrap64 (x18_2 + 1))) else (none)) else (impl_unitsFrom.l1 k2 l0 l1 x5_2 x13_1 (l0.length : Int) x13_1 (l0.length : Int) (wrap64 (x18_2 + 1))))) = some r := H
                have A10 := Aside0.mk A100
                clear A100
                replace H := Option.bind_eq_some_iff.mp H
                obtain ⟨t320, A110, H⟩ := H
                replace H : (if t320 = true then (if x5_2.length < 5864062014805 then (impl_unitsFrom.l1 k2 l0 l1 (x5_2 ++ [t317]) x13_1 (l0.length : Int) x13_1 (l0.length : Int) (wrap64 (x18_2 + 1))) else (none)) else (impl_unitsFrom.l1 k2 l0 l1 x5_2 x13_1 (l0.length : Int) x13_1 (l0.length : Int) (wrap64 (x18_2 + 1)))) = some r := H
                have A11 := Aside0.mk A110
                clear A110
                by_cases c12 : t320 = true
                · subst c12
                  have H1 : (if x5_2.length < 5864062014805 then (impl_unitsFrom.l1 k2 l0 l1 (x5_2 ++ [t317]) x13_1 (l0.length : Int) x13_1 (l0.length : Int) (wrap64 (x18_2 + 1))) else (none)) = some r := by rw [if_pos rfl] at H; exact H
                  clear H
                  have H := H1
                  clear H1
                  by_cases c13 : x5_2.length < 5864062014805
                  · rw [if_pos c13] at H
                    have LMc13 := Aside0.mk c13
                    clear c13
                    obtain ⟨y321, hy321⟩ : ∃ y_ : List (List Int), y_ = (x5_2 ++ [t317]) := ⟨_, rfl⟩
                    replace H : (impl_unitsFrom.l1 k2 l0 l1 y321 x13_1 (l0.length : Int) x13_1 (l0.length : Int) (wrap64 (x18_2 + 1))) = some r := by first | (rw [hy321]; with_reducible exact H) | (have H2_ := (Option.bind_some _ _).symm.trans H; rw [hy321]; with_reducible exact H2_) | (have H2_ := (Option.bind_some _ _).symm.trans H; with_reducible exact H2_) | with_reducible exact H | (rw [hy321]; exact H) | exact H
                    have Ny321 := Aside0.mk hy321
                    clear hy321
                    have H' := Aside0.mk H
                    clear H
                    go_wp2_with (first | ((with_reducible refine gate_dst (N := 8) rfl ?_); refine box_event ?hg (N := 8) ?hd (cs := #[.int .i64 0, .int .i64 0, .int .i64 0]) (t := 49) ?hr ?_; (case hd => rfl); (case hg => rfl); (case hr => first | (go_simp; done) | (go_simp; rfl)); intro gb312 hg w14 hbox hb; have n0_ := Aside0.mk (Kd.S_below (by (with_reducible repeat (first | apply Kd.S_alloc | apply Kd.S_drewN | apply Kd.S_drew)); exact HO_5.out) hb); have n1_ := Aside0.mk (below_step (by repeat (first | (with_reducible first | exact HB.out | apply below_alloc | apply pw_below_drewN | apply below_drew1) | exact HB.out)) hb); have n2_ := Aside0.mk (hbox); have n3_ := Aside0.mk ((by rw [hg]; exact (below_size (by repeat (first | (with_reducible first | exact HB.out | apply below_alloc | apply pw_below_drewN | apply below_drew1) | exact HB.out))) : w.heap.size ≤ gb312)); have n4_ := Aside0.mk ((by rw [hg]; exact (below_size (by repeat (first | (with_reducible first | exact HB.out | apply below_alloc | apply pw_below_drewN | apply below_drew1) | exact HB.out))) : w.heap.size ≤ gb312)); clear HO_5; clear HB; have HO_5 := n0_; have HB := n1_; have BK312 := n2_; have GW312 := n3_; have GE312 := n4_; clear n0_ n1_ n2_ n3_ n4_; clear hb hbox hg; have hcz15_0 : w14.cell? ⟨gb312, 0, none⟩ = some (.int .i64 0) := (blk_cell BK312.out 0).trans rfl; have hcz15_1 : w14.cell? ⟨gb312, 1, none⟩ = some (.int .i64 0) := (blk_cell BK312.out 1).trans rfl; have hcz15_2 : w14.cell? ⟨gb312, 2, none⟩ = some (.int .i64 0) := (blk_cell BK312.out 2).trans rfl; have hfz15_0 := blk_frozen BK312.out 0; have hfz15_1 := blk_frozen BK312.out 1; have hfz15_2 := blk_frozen BK312.out 2) | ((with_reducible refine gate_callee (f := 76) rfl ?_); refine goesL_ (some 26) rfl rfl Try.func76 (by kernel_rfl) rfl #[.slice A0 l0.length c0, .agg #[.int .i64 x13_1, .int .i64 x18_2, .int .i64 1]] rfl (by (try simp only [List.map_toArray, List.map_cons, List.map_nil]); first | done | rfl | (simp only [List.length_drop, List.length_take]; rfl)) ?_; (with_reducible refine (impl_isKind.calls _ _ l0 x13_1 x18_2 1 true _ ?side1 ?side2 A7.out).mono ?_); (case side1 => exact Kd.C_below HR0.out (by repeat (first | (with_reducible first | exact HB.out | apply below_alloc | apply pw_below_drewN | apply below_drew1 | refine below_set ?_ GE312.out) | exact HB.out))); (case side2 => exact HC0.out); rintro e w16 ⟨rfl, hb⟩; refine ⟨_, rfl, ?_⟩; have n0_ := Aside0.mk (Kd.S_below (by (with_reducible repeat (first | apply Kd.S_alloc | apply Kd.S_drewN | apply Kd.S_drew)); exact (Kd.S_mono (Kd.S_far (p := ⟨gb312, 2, none⟩) (Kd.S_far (p := ⟨gb312, 1, none⟩) (Kd.S_far (p := ⟨gb312, 0, none⟩) (Kd.S_types HO_5.out BK312.out (by decide)) (fun _ hk => hk.2) (.int .i64 x13_1)) (fun _ hk => hk.2) (.int .i64 x18_2)) (fun _ hk => hk.2) (.int .i64 1)) (fun _ h_ => h_.1))) hb); have n1_ := Aside0.mk (blk_below (g := gb312) (o := .cells #[.int .i64 x13_1, .int .i64 x18_2, .int .i64 1] 49 (0, 0)) (by (with_reducible repeat (first | refine blk_drewN ?_ _ | refine blk_drew ?_ | refine blk_alloc ?_ _)); refine blk_put (cs := #[.int .i64 x13_1, .int .i64 x18_2, .int .i64 0]) ?_ 2 _ rfl; (with_reducible repeat (first | refine blk_drewN ?_ _ | refine blk_drew ?_ | refine blk_alloc ?_ _)); refine blk_put (cs := #[.int .i64 x13_1, .int .i64 0, .int .i64 0]) ?_ 1 _ rfl; (with_reducible repeat (first | refine blk_drewN ?_ _ | refine blk_drew ?_ | refine blk_alloc ?_ _)); refine blk_put (cs := #[.int .i64 0, .int .i64 0, .int .i64 0]) ?_ 0 _ rfl; (with_reducible repeat (first | refine blk_drewN ?_ _ | refine blk_drew ?_ | refine blk_alloc ?_ _)); exact BK312.out) hb); have n2_ := Aside0.mk (below_step (by repeat (first | (with_reducible first | exact HB.out | apply below_alloc | apply pw_below_drewN | apply below_drew1 | refine below_set ?_ GE312.out) | exact HB.out)) hb); clear HO_5; clear BK312; clear HB; have HO_5 := n0_; have BK312 := n1_; have HB := n2_; clear n0_ n1_ n2_; (try clear hb); (try clear hb2); (try clear hk); (try clear hi); have hcz17_0 : w16.cell? ⟨gb312, 0, none⟩ = some (.int .i64 x13_1) := (blk_cell BK312.out 0).trans rfl; have hcz17_1 : w16.cell? ⟨gb312, 1, none⟩ = some (.int .i64 x18_2) := (blk_cell BK312.out 1).trans rfl; have hcz17_2 : w16.cell? ⟨gb312, 2, none⟩ = some (.int .i64 1) := (blk_cell BK312.out 2).trans rfl; have hfz17_0 := blk_frozen BK312.out 0; have hfz17_1 := blk_frozen BK312.out 1; have hfz17_2 := blk_frozen BK312.out 2) | ((with_reducible refine gate_callee (f := 77) rfl ?_); refine goesL_ (some 29) rfl rfl Try.func77 (by kernel_rfl) rfl #[.slice A0 l0.length c0, .agg #[.int .i64 x13_1, .int .i64 x18_2, .int .i64 1]] rfl (by (try simp only [List.map_toArray, List.map_cons, List.map_nil]); first | done | rfl | (simp only [List.length_drop, List.length_take]; rfl)) ?_; (with_reducible refine (impl_given.calls _ _ l0 x13_1 x18_2 1 t314 _ ?side1 ?side2 A9.out).mono ?_); (case side1 => repeat (first | exact (Kd.C_below HR0.out HB.out) | (with_reducible refine Kd.C_alloc ?_ _) | (with_reducible refine Kd.C_drewN ?_ _) | (with_reducible refine Kd.C_drew ?_))); (case side2 => exact HC0.out); rintro e w18 ⟨v315, rfl, ho0, hb⟩; refine ⟨_, rfl, ?_⟩; have n0_ := Aside0.mk (Kd.S_elder' (by (with_reducible repeat (first | apply Kd.S_alloc | apply Kd.S_drewN | apply Kd.S_drew)); exact HO_5.out) (Kd.R_base ho0) hb); have n1_ := Aside0.mk (Kd.R_lower ho0 (below_size (by repeat (first | (with_reducible first | exact HB.out | apply below_alloc | apply pw_below_drewN | apply below_drew1 | refine below_set ?_ GE312.out) | exact HB.out)))); have n2_ := Aside0.mk (blk_below (g := gb312) (o := .cells #[.int .i64 x13_1, .int .i64 x18_2, .int .i64 1] 49 (0, 0)) (by (with_reducible repeat (first | refine blk_drewN ?_ _ | refine blk_drew ?_ | refine blk_alloc ?_ _)); exact BK312.out) hb); have n3_ := Aside0.mk (below_step (by repeat (first | (with_reducible first | exact HB.out | apply below_alloc | apply pw_below_drewN | apply below_drew1 | refine below_set ?_ GE312.out) | exact HB.out)) hb); clear HO_5; clear BK312; clear HB; have HO_5 := n0_; have HO316 := n1_; have BK312 := n2_; have HB := n3_; clear n0_ n1_ n2_ n3_; (try clear hb); (try clear hb2); (try clear hk); (try clear hi); (try clear ho0); obtain ⟨Ao19, co19, eo19⟩ := Kd.R_slice HO316.out; subst eo19) | ((with_reducible refine gate_callee (f := 38) rfl ?_); refine goesL_ (some 30) rfl rfl Try.func38 (by kernel_rfl) rfl #[.slice Ao19 t314.length co19] rfl (by (try simp only [List.map_toArray, List.map_cons, List.map_nil]); first | done | rfl | (simp only [List.length_drop, List.length_take]; rfl)) ?_; (with_reducible refine (impl_ranking.calls _ _ t314 t317 _ ?side1 ?side2 A10.out).mono ?_); (case side1 => repeat (first | exact (Kd.R_reads' HO316.out).2.2 | (with_reducible refine Kd.C_alloc ?_ _) | (with_reducible refine Kd.C_drewN ?_ _) | (with_reducible refine Kd.C_drew ?_))); (case side2 => exact (Kd.R_reads' HO316.out).2.1); rintro e w20 ⟨v318, rfl, ho0, hb⟩; refine ⟨_, rfl, ?_⟩; have n0_ := Aside0.mk (Kd.S_elder' (by (with_reducible repeat (first | apply Kd.S_alloc | apply Kd.S_drewN | apply Kd.S_drew)); exact HO_5.out) (Kd.R_base ho0) hb); have n1_ := Aside0.mk (Kd.R_elder' (by (with_reducible repeat (first | apply Kd.R_alloc | apply Kd.R_drewN | apply Kd.R_drew)); exact HO316.out) (Kd.R_base ho0) hb); have n2_ := Aside0.mk (Kd.R_lower (Kd.R_new' ho0 (Kd.R_lt (by (with_reducible repeat (first | apply Kd.R_alloc | apply Kd.R_drewN | apply Kd.R_drew)); exact HO316.out))) (below_size (by repeat (first | (with_reducible first | exact HB.out | apply below_alloc | apply pw_below_drewN | apply below_drew1 | refine below_set ?_ GE312.out) | exact HB.out)))); have n3_ := Aside0.mk (blk_below (g := gb312) (o := .cells #[.int .i64 x13_1, .int .i64 x18_2, .int .i64 1] 49 (0, 0)) (by (with_reducible repeat (first | refine blk_drewN ?_ _ | refine blk_drew ?_ | refine blk_alloc ?_ _)); exact BK312.out) hb); have n4_ := Aside0.mk (below_step (by repeat (first | (with_reducible first | exact HB.out | apply below_alloc | apply pw_below_drewN | apply below_drew1 | refine below_set ?_ GE312.out) | exact HB.out)) hb); clear HO_5; clear HO316; clear BK312; clear HB; have HO_5 := n0_; have HO316 := n1_; have HO319 := n2_; have BK312 := n3_; have HB := n4_; clear n0_ n1_ n2_ n3_ n4_; (try clear hb); (try clear hb2); (try clear hk); (try clear hi); (try clear ho0); obtain ⟨Ao21, co21, eo21⟩ := Kd.R_slice HO319.out; subst eo21) | ((with_reducible refine gate_callee (f := 67) rfl ?_); refine goesL_ (some 33) rfl rfl Try.func67 (by kernel_rfl) rfl #[.slice A1 l1.length c1, .slice Ao21 t317.length co21] rfl (by (try simp only [List.map_toArray, List.map_cons, List.map_nil]); first | done | rfl | (simp only [List.length_drop, List.length_take]; rfl)) ?_; (with_reducible refine (impl_isMajorized.calls k2 _ _ l1 _ _ t317 true _ ?side1 ?side2 ?side3 ?side4 A11.out).mono ?_); (case side1 => repeat (first | exact (Kd.C_below HR1.out HB.out) | (with_reducible refine Kd.C_alloc ?_ _) | (with_reducible refine Kd.C_drewN ?_ _) | (with_reducible refine Kd.C_drew ?_))); (case side2 => exact HC1.out); (case side3 => repeat (first | exact (Kd.R_reads' HO319.out).2.2 | (with_reducible refine Kd.C_alloc ?_ _) | (with_reducible refine Kd.C_drewN ?_ _) | (with_reducible refine Kd.C_drew ?_))); (case side4 => exact (Kd.R_reads' HO319.out).2.1); rintro e w22 ⟨rfl, hb⟩; refine ⟨_, rfl, ?_⟩; have n0_ := Aside0.mk (Kd.S_below (by (with_reducible repeat (first | apply Kd.S_alloc | apply Kd.S_drewN | apply Kd.S_drew)); exact HO_5.out) hb); have n1_ := Aside0.mk (Kd.R_below (by (with_reducible repeat (first | apply Kd.R_alloc | apply Kd.R_drewN | apply Kd.R_drew)); exact HO316.out) hb); have n2_ := Aside0.mk (Kd.R_below (by (with_reducible repeat (first | apply Kd.R_alloc | apply Kd.R_drewN | apply Kd.R_drew)); exact HO319.out) hb); have n3_ := Aside0.mk (blk_below (g := gb312) (o := .cells #[.int .i64 x13_1, .int .i64 x18_2, .int .i64 1] 49 (0, 0)) (by (with_reducible repeat (first | refine blk_drewN ?_ _ | refine blk_drew ?_ | refine blk_alloc ?_ _)); exact BK312.out) hb); have n4_ := Aside0.mk (below_step (by repeat (first | (with_reducible first | exact HB.out | apply below_alloc | apply pw_below_drewN | apply below_drew1 | refine below_set ?_ GE312.out) | exact HB.out)) hb); clear HO_5; clear HO316; clear HO319; clear BK312; clear HB; have HO_5 := n0_; have HO316 := n1_; have HO319 := n2_; have BK312 := n3_; have HB := n4_; clear n0_ n1_ n2_ n3_ n4_; (try clear hb); (try clear hb2); (try clear hk); (try clear hi)) | ((with_reducible refine gate_builtin (b := .append) (xs := #[.tmp 34, .tmp 36]) rfl ?_); at_builtin; refine Kd.S_append (Kd.slice 3 (Kd.int .i64)) (w0 := w) w.heap.size rfl (.tmp 34) (.tmp 36) 35 22 (.slice none 0 0) 24 rfl Try.underlying35 info22 rfl (by decide) (by omega) u5 x5_2 t317 [.slice Ao21 t317.length co21] (fun k_ => some k_ ≠ (.slice Ao19 t314.length co19 : Value).ownBlock) (fun k_ => some k_ = (.slice Ao21 t317.length co21 : Value).ownBlock) rfl rfl ?aP (fun k_ hk_ => ((Kd.R_mono (ok' := fun k_ => ((fun k_ => some k_ ≠ (.slice Ao19 t314.length co19 : Value).ownBlock)) k_ ∧ some k_ ≠ (u5 : Value).ownBlock) (Kd.R_apart' (HO319.out) (Kd.S_typed HO_5.out) (by decide)) (fun k_ hk => ⟨hk.1.2, hk.2⟩))).1 k_ hk_.symm) ?aF ?aO ?aB ?aS ?aL ?_; (case aP => exact Kd.M_row (Kd.R_mono (Kd.R_tight rfl (Kd.R_mono (ok' := fun k_ => ((fun k_ => some k_ ≠ (.slice Ao19 t314.length co19 : Value).ownBlock)) k_ ∧ some k_ ≠ (u5 : Value).ownBlock) (Kd.R_apart' (HO319.out) (Kd.S_typed HO_5.out) (by decide)) (fun k_ hk => ⟨hk.1.2, hk.2⟩))) (fun _ h_ => h_))); (case aB => exact (by repeat (first | (with_reducible first | exact HB.out | apply below_alloc | apply pw_below_drewN | apply below_drew1 | refine below_set ?_ GE312.out) | exact HB.out))); (case aF => exact (fun k_ hk => Kd.fresh' (Kd.R_lt (by (with_reducible repeat (first | apply Kd.R_alloc | apply Kd.R_drewN | apply Kd.R_drew)); exact HO316.out)) k_ hk)); (case aO => exact (by (with_reducible repeat (first | apply Kd.S_alloc | apply Kd.S_drewN | apply Kd.S_drew)); exact Kd.S_mono HO_5.out (fun k_ hk => ⟨hk.1.2, fun e_ => hk.2 e_⟩))); (case aS => exact (below_size (by repeat (first | (with_reducible first | exact HB.out | apply below_alloc | apply pw_below_drewN | apply below_drew1 | refine below_set ?_ GE312.out) | exact HB.out)))); (case aL => have := LMc13.out; omega); intro v322 w23 ho hb hg hat; rw [← Ny321.out] at ho; have n0_ := Aside0.mk (blk_grown (g := gb312) (o := .cells #[.int .i64 x13_1, .int .i64 x18_2, .int .i64 1] 49 (0, 0)) (by (with_reducible repeat (first | refine blk_drewN ?_ _ | refine blk_drew ?_ | refine blk_alloc ?_ _)); exact BK312.out) hg (Kd.S_ne HO_5.out BK312.out (by decide))); have n1_ := Aside0.mk (Kd.R_over' (by (with_reducible repeat (first | apply Kd.R_alloc | apply Kd.R_drewN | apply Kd.R_drew)); exact HO316.out) (Kd.S_typed (by (with_reducible repeat (first | apply Kd.S_alloc | apply Kd.S_drewN | apply Kd.S_drew)); exact HO_5.out)) (by decide) hg); have n2_ := Aside0.mk (hb); have n3_ := Aside0.mk (ho); clear BK312; clear HO316; clear HB; clear HO_5; clear HO319; have BK312 := n0_; have HO316 := n1_; have HB := n2_; have HO323 := n3_; clear n0_ n1_ n2_ n3_; clear ho hb hg hat))
                    go_roundg k2
                    case measure => have := HK1.out; have := HK2.out; omega
                    case rel => exact ⟨(y321), (wrap64 (x18_2 + 1)), (by first | rfl | (simp; done) | (simp [*]; done)), H', ⟨by have := HK1.out; have := HK2.out; omega⟩, ⟨by (with_reducible repeat (first | apply Kd.S_alloc | apply Kd.S_drewN | apply Kd.S_drew)); exact Kd.S_mono HO323.out (fun _ hk => trivial)⟩, ⟨by repeat (first | (with_reducible first | exact HB.out | apply below_alloc | apply pw_below_drewN | apply below_drew1 | refine below_set ?_ GE312.out) | exact HB.out)⟩⟩
                  · rw [if_neg c13] at H
                    exact absurd H (by simp)
                · replace c12 := Bool.eq_false_iff.mpr c12
                  subst c12
                  have H1 : (impl_unitsFrom.l1 k2 l0 l1 x5_2 x13_1 (l0.length : Int) x13_1 (l0.length : Int) (wrap64 (x18_2 + 1))) = some r := by rw [if_neg (show ¬ (false = true) by decide)] at H; exact H
                  clear H
                  have H := H1
                  clear H1
                  have H' := Aside0.mk H
                  clear H
                  go_wp2_with (first | ((with_reducible refine gate_dst (N := 8) rfl ?_); refine box_event ?hg (N := 8) ?hd (cs := #[.int .i64 0, .int .i64 0, .int .i64 0]) (t := 49) ?hr ?_; (case hd => rfl); (case hg => rfl); (case hr => first | (go_simp; done) | (go_simp; rfl)); intro gb312 hg w24 hbox hb; have n0_ := Aside0.mk (Kd.S_below (by (with_reducible repeat (first | apply Kd.S_alloc | apply Kd.S_drewN | apply Kd.S_drew)); exact HO_5.out) hb); have n1_ := Aside0.mk (below_step (by repeat (first | (with_reducible first | exact HB.out | apply below_alloc | apply pw_below_drewN | apply below_drew1) | exact HB.out)) hb); have n2_ := Aside0.mk (hbox); have n3_ := Aside0.mk ((by rw [hg]; exact (below_size (by repeat (first | (with_reducible first | exact HB.out | apply below_alloc | apply pw_below_drewN | apply below_drew1) | exact HB.out))) : w.heap.size ≤ gb312)); have n4_ := Aside0.mk ((by rw [hg]; exact (below_size (by repeat (first | (with_reducible first | exact HB.out | apply below_alloc | apply pw_below_drewN | apply below_drew1) | exact HB.out))) : w.heap.size ≤ gb312)); clear HO_5; clear HB; have HO_5 := n0_; have HB := n1_; have BK312 := n2_; have GW312 := n3_; have GE312 := n4_; clear n0_ n1_ n2_ n3_ n4_; clear hb hbox hg; have hcz25_0 : w24.cell? ⟨gb312, 0, none⟩ = some (.int .i64 0) := (blk_cell BK312.out 0).trans rfl; have hcz25_1 : w24.cell? ⟨gb312, 1, none⟩ = some (.int .i64 0) := (blk_cell BK312.out 1).trans rfl; have hcz25_2 : w24.cell? ⟨gb312, 2, none⟩ = some (.int .i64 0) := (blk_cell BK312.out 2).trans rfl; have hfz25_0 := blk_frozen BK312.out 0; have hfz25_1 := blk_frozen BK312.out 1; have hfz25_2 := blk_frozen BK312.out 2) | ((with_reducible refine gate_callee (f := 76) rfl ?_); refine goesL_ (some 26) rfl rfl Try.func76 (by kernel_rfl) rfl #[.slice A0 l0.length c0, .agg #[.int .i64 x13_1, .int .i64 x18_2, .int .i64 1]] rfl (by (try simp only [List.map_toArray, List.map_cons, List.map_nil]); first | done | rfl | (simp only [List.length_drop, List.length_take]; rfl)) ?_; (with_reducible refine (impl_isKind.calls _ _ l0 x13_1 x18_2 1 true _ ?side1 ?side2 A7.out).mono ?_); (case side1 => exact Kd.C_below HR0.out (by repeat (first | (with_reducible first | exact HB.out | apply below_alloc | apply pw_below_drewN | apply below_drew1 | refine below_set ?_ GE312.out) | exact HB.out))); (case side2 => exact HC0.out); rintro e w26 ⟨rfl, hb⟩; refine ⟨_, rfl, ?_⟩; have n0_ := Aside0.mk (Kd.S_below (by (with_reducible repeat (first | apply Kd.S_alloc | apply Kd.S_drewN | apply Kd.S_drew)); exact (Kd.S_mono (Kd.S_far (p := ⟨gb312, 2, none⟩) (Kd.S_far (p := ⟨gb312, 1, none⟩) (Kd.S_far (p := ⟨gb312, 0, none⟩) (Kd.S_types HO_5.out BK312.out (by decide)) (fun _ hk => hk.2) (.int .i64 x13_1)) (fun _ hk => hk.2) (.int .i64 x18_2)) (fun _ hk => hk.2) (.int .i64 1)) (fun _ h_ => h_.1))) hb); have n1_ := Aside0.mk (blk_below (g := gb312) (o := .cells #[.int .i64 x13_1, .int .i64 x18_2, .int .i64 1] 49 (0, 0)) (by (with_reducible repeat (first | refine blk_drewN ?_ _ | refine blk_drew ?_ | refine blk_alloc ?_ _)); refine blk_put (cs := #[.int .i64 x13_1, .int .i64 x18_2, .int .i64 0]) ?_ 2 _ rfl; (with_reducible repeat (first | refine blk_drewN ?_ _ | refine blk_drew ?_ | refine blk_alloc ?_ _)); refine blk_put (cs := #[.int .i64 x13_1, .int .i64 0, .int .i64 0]) ?_ 1 _ rfl; (with_reducible repeat (first | refine blk_drewN ?_ _ | refine blk_drew ?_ | refine blk_alloc ?_ _)); refine blk_put (cs := #[.int .i64 0, .int .i64 0, .int .i64 0]) ?_ 0 _ rfl; (with_reducible repeat (first | refine blk_drewN ?_ _ | refine blk_drew ?_ | refine blk_alloc ?_ _)); exact BK312.out) hb); have n2_ := Aside0.mk (below_step (by repeat (first | (with_reducible first | exact HB.out | apply below_alloc | apply pw_below_drewN | apply below_drew1 | refine below_set ?_ GE312.out) | exact HB.out)) hb); clear HO_5; clear BK312; clear HB; have HO_5 := n0_; have BK312 := n1_; have HB := n2_; clear n0_ n1_ n2_; (try clear hb); (try clear hb2); (try clear hk); (try clear hi); have hcz27_0 : w26.cell? ⟨gb312, 0, none⟩ = some (.int .i64 x13_1) := (blk_cell BK312.out 0).trans rfl; have hcz27_1 : w26.cell? ⟨gb312, 1, none⟩ = some (.int .i64 x18_2) := (blk_cell BK312.out 1).trans rfl; have hcz27_2 : w26.cell? ⟨gb312, 2, none⟩ = some (.int .i64 1) := (blk_cell BK312.out 2).trans rfl; have hfz27_0 := blk_frozen BK312.out 0; have hfz27_1 := blk_frozen BK312.out 1; have hfz27_2 := blk_frozen BK312.out 2) | ((with_reducible refine gate_callee (f := 77) rfl ?_); refine goesL_ (some 29) rfl rfl Try.func77 (by kernel_rfl) rfl #[.slice A0 l0.length c0, .agg #[.int .i64 x13_1, .int .i64 x18_2, .int .i64 1]] rfl (by (try simp only [List.map_toArray, List.map_cons, List.map_nil]); first | done | rfl | (simp only [List.length_drop, List.length_take]; rfl)) ?_; (with_reducible refine (impl_given.calls _ _ l0 x13_1 x18_2 1 t314 _ ?side1 ?side2 A9.out).mono ?_); (case side1 => repeat (first | exact (Kd.C_below HR0.out HB.out) | (with_reducible refine Kd.C_alloc ?_ _) | (with_reducible refine Kd.C_drewN ?_ _) | (with_reducible refine Kd.C_drew ?_))); (case side2 => exact HC0.out); rintro e w28 ⟨v315, rfl, ho0, hb⟩; refine ⟨_, rfl, ?_⟩; have n0_ := Aside0.mk (Kd.S_elder' (by (with_reducible repeat (first | apply Kd.S_alloc | apply Kd.S_drewN | apply Kd.S_drew)); exact HO_5.out) (Kd.R_base ho0) hb); have n1_ := Aside0.mk (Kd.R_lower ho0 (below_size (by repeat (first | (with_reducible first | exact HB.out | apply below_alloc | apply pw_below_drewN | apply below_drew1 | refine below_set ?_ GE312.out) | exact HB.out)))); have n2_ := Aside0.mk (blk_below (g := gb312) (o := .cells #[.int .i64 x13_1, .int .i64 x18_2, .int .i64 1] 49 (0, 0)) (by (with_reducible repeat (first | refine blk_drewN ?_ _ | refine blk_drew ?_ | refine blk_alloc ?_ _)); exact BK312.out) hb); have n3_ := Aside0.mk (below_step (by repeat (first | (with_reducible first | exact HB.out | apply below_alloc | apply pw_below_drewN | apply below_drew1 | refine below_set ?_ GE312.out) | exact HB.out)) hb); clear HO_5; clear BK312; clear HB; have HO_5 := n0_; have HO316 := n1_; have BK312 := n2_; have HB := n3_; clear n0_ n1_ n2_ n3_; (try clear hb); (try clear hb2); (try clear hk); (try clear hi); (try clear ho0); obtain ⟨Ao29, co29, eo29⟩ := Kd.R_slice HO316.out; subst eo29) | ((with_reducible refine gate_callee (f := 38) rfl ?_); refine goesL_ (some 30) rfl rfl Try.func38 (by kernel_rfl) rfl #[.slice Ao29 t314.length co29] rfl (by (try simp only [List.map_toArray, List.map_cons, List.map_nil]); first | done | rfl | (simp only [List.length_drop, List.length_take]; rfl)) ?_; (with_reducible refine (impl_ranking.calls _ _ t314 t317 _ ?side1 ?side2 A10.out).mono ?_); (case side1 => repeat (first | exact (Kd.R_reads' HO316.out).2.2 | (with_reducible refine Kd.C_alloc ?_ _) | (with_reducible refine Kd.C_drewN ?_ _) | (with_reducible refine Kd.C_drew ?_))); (case side2 => exact (Kd.R_reads' HO316.out).2.1); rintro e w30 ⟨v318, rfl, ho0, hb⟩; refine ⟨_, rfl, ?_⟩; have n0_ := Aside0.mk (Kd.S_elder' (by (with_reducible repeat (first | apply Kd.S_alloc | apply Kd.S_drewN | apply Kd.S_drew)); exact HO_5.out) (Kd.R_base ho0) hb); have n1_ := Aside0.mk (Kd.R_elder' (by (with_reducible repeat (first | apply Kd.R_alloc | apply Kd.R_drewN | apply Kd.R_drew)); exact HO316.out) (Kd.R_base ho0) hb); have n2_ := Aside0.mk (Kd.R_lower (Kd.R_new' ho0 (Kd.R_lt (by (with_reducible repeat (first | apply Kd.R_alloc | apply Kd.R_drewN | apply Kd.R_drew)); exact HO316.out))) (below_size (by repeat (first | (with_reducible first | exact HB.out | apply below_alloc | apply pw_below_drewN | apply below_drew1 | refine below_set ?_ GE312.out) | exact HB.out)))); have n3_ := Aside0.mk (blk_below (g := gb312) (o := .cells #[.int .i64 x13_1, .int .i64 x18_2, .int .i64 1] 49 (0, 0)) (by (with_reducible repeat (first | refine blk_drewN ?_ _ | refine blk_drew ?_ | refine blk_alloc ?_ _)); exact BK312.out) hb); have n4_ := Aside0.mk (below_step (by repeat (first | (with_reducible first | exact HB.out | apply below_alloc | apply pw_below_drewN | apply below_drew1 | refine below_set ?_ GE312.out) | exact HB.out)) hb); clear HO_5; clear HO316; clear BK312; clear HB; have HO_5 := n0_; have HO316 := n1_; have HO319 := n2_; have BK312 := n3_; have HB := n4_; clear n0_ n1_ n2_ n3_ n4_; (try clear hb); (try clear hb2); (try clear hk); (try clear hi); (try clear ho0); obtain ⟨Ao31, co31, eo31⟩ := Kd.R_slice HO319.out; subst eo31) | ((with_reducible refine gate_callee (f := 67) rfl ?_); refine goesL_ (some 33) rfl rfl Try.func67 (by kernel_rfl) rfl #[.slice A1 l1.length c1, .slice Ao31 t317.length co31] rfl (by (try simp only [List.map_toArray, List.map_cons, List.map_nil]); first | done | rfl | (simp only [List.length_drop, List.length_take]; rfl)) ?_; (with_reducible refine (impl_isMajorized.calls k2 _ _ l1 _ _ t317 false _ ?side1 ?side2 ?side3 ?side4 A11.out).mono ?_); (case side1 => repeat (first | exact (Kd.C_below HR1.out HB.out) | (with_reducible refine Kd.C_alloc ?_ _) | (with_reducible refine Kd.C_drewN ?_ _) | (with_reducible refine Kd.C_drew ?_))); (case side2 => exact HC1.out); (case side3 => repeat (first | exact (Kd.R_reads' HO319.out).2.2 | (with_reducible refine Kd.C_alloc ?_ _) | (with_reducible refine Kd.C_drewN ?_ _) | (with_reducible refine Kd.C_drew ?_))); (case side4 => exact (Kd.R_reads' HO319.out).2.1); rintro e w32 ⟨rfl, hb⟩; refine ⟨_, rfl, ?_⟩; have n0_ := Aside0.mk (Kd.S_below (by (with_reducible repeat (first | apply Kd.S_alloc | apply Kd.S_drewN | apply Kd.S_drew)); exact HO_5.out) hb); have n1_ := Aside0.mk (Kd.R_below (by (with_reducible repeat (first | apply Kd.R_alloc | apply Kd.R_drewN | apply Kd.R_drew)); exact HO316.out) hb); have n2_ := Aside0.mk (Kd.R_below (by (with_reducible repeat (first | apply Kd.R_alloc | apply Kd.R_drewN | apply Kd.R_drew)); exact HO319.out) hb); have n3_ := Aside0.mk (blk_below (g := gb312) (o := .cells #[.int .i64 x13_1, .int .i64 x18_2, .int .i64 1] 49 (0, 0)) (by (with_reducible repeat (first | refine blk_drewN ?_ _ | refine blk_drew ?_ | refine blk_alloc ?_ _)); exact BK312.out) hb); have n4_ := Aside0.mk (below_step (by repeat (first | (with_reducible first | exact HB.out | apply below_alloc | apply pw_below_drewN | apply below_drew1 | refine below_set ?_ GE312.out) | exact HB.out)) hb); clear HO_5; clear HO316; clear HO319; clear BK312; clear HB; have HO_5 := n0_; have HO316 := n1_; have HO319 := n2_; have BK312 := n3_; have HB := n4_; clear n0_ n1_ n2_ n3_ n4_; (try clear hb); (try clear hb2); (try clear hk); (try clear hi)))
                  go_roundg k2
                  case measure => have := HK1.out; have := HK2.out; omega
                  case rel => exact ⟨(x5_2), (wrap64 (x18_2 + 1)), (by first | rfl | (simp; done) | (simp [*]; done)), H', ⟨by have := HK1.out; have := HK2.out; omega⟩, ⟨by (with_reducible repeat (first | apply Kd.S_alloc | apply Kd.S_drewN | apply Kd.S_drew)); exact Kd.S_mono HO_5.out (fun _ hk => trivial)⟩, ⟨by repeat (first | (with_reducible first | exact HB.out | apply below_alloc | apply pw_below_drewN | apply below_drew1 | refine below_set ?_ GE312.out) | exact HB.out)⟩⟩
              · replace c8 := Bool.eq_false_iff.mpr c8
                subst c8
                have H1 : (impl_unitsFrom.l1 k2 l0 l1 x5_2 x13_1 (l0.length : Int) x13_1 (l0.length : Int) (wrap64 (x18_2 + 1))) = some r := by rw [if_neg (show ¬ (false = true) by decide)] at H; exact H
                clear H
                have H := H1
                clear H1
                have H' := Aside0.mk H
                clear H
                go_wp2_with (first | ((with_reducible refine gate_dst (N := 8) rfl ?_); refine box_event ?hg (N := 8) ?hd (cs := #[.int .i64 0, .int .i64 0, .int .i64 0]) (t := 49) ?hr ?_; (case hd => rfl); (case hg => rfl); (case hr => first | (go_simp; done) | (go_simp; rfl)); intro gb312 hg w33 hbox hb; have n0_ := Aside0.mk (Kd.S_below (by (with_reducible repeat (first | apply Kd.S_alloc | apply Kd.S_drewN | apply Kd.S_drew)); exact HO_5.out) hb); have n1_ := Aside0.mk (below_step (by repeat (first | (with_reducible first | exact HB.out | apply below_alloc | apply pw_below_drewN | apply below_drew1) | exact HB.out)) hb); have n2_ := Aside0.mk (hbox); have n3_ := Aside0.mk ((by rw [hg]; exact (below_size (by repeat (first | (with_reducible first | exact HB.out | apply below_alloc | apply pw_below_drewN | apply below_drew1) | exact HB.out))) : w.heap.size ≤ gb312)); have n4_ := Aside0.mk ((by rw [hg]; exact (below_size (by repeat (first | (with_reducible first | exact HB.out | apply below_alloc | apply pw_below_drewN | apply below_drew1) | exact HB.out))) : w.heap.size ≤ gb312)); clear HO_5; clear HB; have HO_5 := n0_; have HB := n1_; have BK312 := n2_; have GW312 := n3_; have GE312 := n4_; clear n0_ n1_ n2_ n3_ n4_; clear hb hbox hg; have hcz34_0 : w33.cell? ⟨gb312, 0, none⟩ = some (.int .i64 0) := (blk_cell BK312.out 0).trans rfl; have hcz34_1 : w33.cell? ⟨gb312, 1, none⟩ = some (.int .i64 0) := (blk_cell BK312.out 1).trans rfl; have hcz34_2 : w33.cell? ⟨gb312, 2, none⟩ = some (.int .i64 0) := (blk_cell BK312.out 2).trans rfl; have hfz34_0 := blk_frozen BK312.out 0; have hfz34_1 := blk_frozen BK312.out 1; have hfz34_2 := blk_frozen BK312.out 2) | ((with_reducible refine gate_callee (f := 76) rfl ?_); refine goesL_ (some 26) rfl rfl Try.func76 (by kernel_rfl) rfl #[.slice A0 l0.length c0, .agg #[.int .i64 x13_1, .int .i64 x18_2, .int .i64 1]] rfl (by (try simp only [List.map_toArray, List.map_cons, List.map_nil]); first | done | rfl | (simp only [List.length_drop, List.length_take]; rfl)) ?_; (with_reducible refine (impl_isKind.calls _ _ l0 x13_1 x18_2 1 false _ ?side1 ?side2 A7.out).mono ?_); (case side1 => exact Kd.C_below HR0.out (by repeat (first | (with_reducible first | exact HB.out | apply below_alloc | apply pw_below_drewN | apply below_drew1 | refine below_set ?_ GE312.out) | exact HB.out))); (case side2 => exact HC0.out); rintro e w35 ⟨rfl, hb⟩; refine ⟨_, rfl, ?_⟩; have n0_ := Aside0.mk (Kd.S_below (by (with_reducible repeat (first | apply Kd.S_alloc | apply Kd.S_drewN | apply Kd.S_drew)); exact (Kd.S_mono (Kd.S_far (p := ⟨gb312, 2, none⟩) (Kd.S_far (p := ⟨gb312, 1, none⟩) (Kd.S_far (p := ⟨gb312, 0, none⟩) (Kd.S_types HO_5.out BK312.out (by decide)) (fun _ hk => hk.2) (.int .i64 x13_1)) (fun _ hk => hk.2) (.int .i64 x18_2)) (fun _ hk => hk.2) (.int .i64 1)) (fun _ h_ => h_.1))) hb); have n1_ := Aside0.mk (blk_below (g := gb312) (o := .cells #[.int .i64 x13_1, .int .i64 x18_2, .int .i64 1] 49 (0, 0)) (by (with_reducible repeat (first | refine blk_drewN ?_ _ | refine blk_drew ?_ | refine blk_alloc ?_ _)); refine blk_put (cs := #[.int .i64 x13_1, .int .i64 x18_2, .int .i64 0]) ?_ 2 _ rfl; (with_reducible repeat (first | refine blk_drewN ?_ _ | refine blk_drew ?_ | refine blk_alloc ?_ _)); refine blk_put (cs := #[.int .i64 x13_1, .int .i64 0, .int .i64 0]) ?_ 1 _ rfl; (with_reducible repeat (first | refine blk_drewN ?_ _ | refine blk_drew ?_ | refine blk_alloc ?_ _)); refine blk_put (cs := #[.int .i64 0, .int .i64 0, .int .i64 0]) ?_ 0 _ rfl; (with_reducible repeat (first | refine blk_drewN ?_ _ | refine blk_drew ?_ | refine blk_alloc ?_ _)); exact BK312.out) hb); have n2_ := Aside0.mk (below_step (by repeat (first | (with_reducible first | exact HB.out | apply below_alloc | apply pw_below_drewN | apply below_drew1 | refine below_set ?_ GE312.out) | exact HB.out)) hb); clear HO_5; clear BK312; clear HB; have HO_5 := n0_; have BK312 := n1_; have HB := n2_; clear n0_ n1_ n2_; (try clear hb); (try clear hb2); (try clear hk); (try clear hi)))
                go_roundg k2
                case measure => have := HK1.out; have := HK2.out; omega
                case rel => exact ⟨(x5_2), (wrap64 (x18_2 + 1)), (by first | rfl | (simp; done) | (simp [*]; done)), H', ⟨by have := HK1.out; have := HK2.out; omega⟩, ⟨by (with_reducible repeat (first | apply Kd.S_alloc | apply Kd.S_drewN | apply Kd.S_drew)); exact HO_5.out⟩, ⟨by repeat (first | (with_reducible first | exact HB.out | apply below_alloc | apply pw_below_drewN | apply below_drew1 | refine below_set ?_ GE312.out) | exact HB.out)⟩⟩
            · rw [if_neg c6] at H
              have c6b0 : decide (x18_2 < (l0.length : Int)) = false := decide_eq_false c6
              clear c6
              have H' := Aside0.mk H
              clear H
              go_wp2
              go_roundg k2
              case measure => have := HK1.out; have := HK2.out; omega
              case rel => exact ⟨(x5_2), (wrap64 (x13_1 + 1)), (by first | rfl | (simp; done) | (simp [*]; done)), H', ⟨by have := HK1.out; have := HK2.out; omega⟩, ⟨by (with_reducible repeat (first | apply Kd.S_alloc | apply Kd.S_drewN | apply Kd.S_drew)); exact HO_5.out⟩, ⟨by repeat (first | (with_reducible first | exact HB.out | apply below_alloc | apply pw_below_drewN | apply below_drew1) | exact HB.out)⟩⟩
      · rw [if_neg c5] at H
        have c5b0 : decide (x13_1 < (l0.length : Int)) = false := decide_eq_false c5
        clear c5
        obtain rfl := Option.some.inj H
        go_wp2
        go_ret
        exact ⟨_, by first | rfl | (simp [errW_none, errW_some] <;> rfl) | (simp [*, errW_none, errW_some] <;> rfl), by (with_reducible repeat (first | apply Kd.S_alloc | apply Kd.S_drewN | apply Kd.S_drew)); exact HO_5.out, by repeat (first | (with_reducible first | exact HB.out | apply below_alloc | apply pw_below_drewN | apply below_drew1) | exact HB.out)⟩

end Go.Proofs.Ytkpojaooolefjaa.A

-- made by a program of this repo (wip/pp.py) through the kit's printer
namespace Go.Proofs.Ytkpojaooolefjaa.A
open Go.RowKit Go.Proofs.YtkpojaooolefjaaW.PrintWords Go.Proofs.YtkpojaooolefjaaW.PrintLast Go.Proofs.YtkpojaooolefjaaW.PrintMore
attribute [local go_sem] max2_int min2_int max_two min_two max_three min_three max_four min_four
set_option linter.unusedVariables false
set_option linter.unusedSimpArgs false

/-! ### impl_GiftsBetween: function 15 -/
def impl_GiftsBetween.j0 : Nat → List Int → List Int → Bool → Option (Int × Bool)
  | 0, _, _, _ => none
  | k + 1, x0, x1, x15 => if x15 = true then (some (0, false)) else ((impl_ranking.f x1).bind fun t326 => ((impl_unitsFrom.f k t326 x0).bind fun t329 => (some ((t329.length : Int), true))))
def impl_GiftsBetween.f (k : Nat) (l0 : List Int) (l1 : List Int) : Option (Int × Bool) := (impl_areLists.f k l0 l1).bind fun t324 => (if t324 = true then ((impl_doFit.f k l0 l1).bind fun t325 => (impl_GiftsBetween.j0 k l0 l1 (!t325))) else (impl_GiftsBetween.j0 k l0 l1 true))
theorem impl_GiftsBetween.mono_l : ∀ k, (∀ y0 y1 y2, LeO (impl_GiftsBetween.j0 k y0 y1 y2) (impl_GiftsBetween.j0 (k + 1) y0 y1 y2))
  | 0 => fun _ _ _ r h => by simp [impl_GiftsBetween.j0] at h
  | k + 1 => by
    have ih0 := impl_GiftsBetween.mono_l k
    · intro y0 y1 y2
      unfold impl_GiftsBetween.j0
      repeat' first
      | (with_reducible exact ih0 _ _ _)
      | (with_reducible exact impl_areLists.mono _ _ _)
      | (with_reducible exact impl_doFit.mono _ _ _)
      | (with_reducible exact impl_unitsFrom.mono _ _ _)
      | (with_reducible exact LeO.refl _)
      | (with_reducible exact LeO.none _)
      | (with_reducible refine LeO.ite ?_ ?_)
      | (with_reducible refine LeO.bind ?_ (fun _ => ?_))
      | exact ih0 _ _ _
      | exact impl_areLists.mono _ _ _
      | exact impl_doFit.mono _ _ _
      | exact impl_unitsFrom.mono _ _ _
      | exact LeO.none _
      | refine LeO.ite ?_ ?_
      | refine LeO.bind ?_ (fun _ => ?_)
theorem impl_GiftsBetween.mono : ∀ a0 a1 k, LeO (impl_GiftsBetween.f k a0 a1) (impl_GiftsBetween.f (k + 1) a0 a1) := by
  intro a0 a1 k
  have ih0 := impl_GiftsBetween.mono_l k
  unfold impl_GiftsBetween.f
  repeat' first
      | (with_reducible exact ih0 _ _ _)
      | (with_reducible exact impl_areLists.mono _ _ _)
      | (with_reducible exact impl_doFit.mono _ _ _)
      | (with_reducible exact impl_unitsFrom.mono _ _ _)
      | (with_reducible exact LeO.refl _)
      | (with_reducible exact LeO.none _)
      | (with_reducible refine LeO.ite ?_ ?_)
      | (with_reducible refine LeO.bind ?_ (fun _ => ?_))
      | exact ih0 _ _ _
      | exact impl_areLists.mono _ _ _
      | exact impl_doFit.mono _ _ _
      | exact impl_unitsFrom.mono _ _ _
      | exact LeO.none _
      | refine LeO.ite ?_ ?_
      | refine LeO.bind ?_ (fun _ => ?_)
set_option maxHeartbeats 8000000 in
set_option maxRecDepth 100000 in
theorem impl_GiftsBetween.calls (k : Nat) (A0 : Option Addr) (c0 : Nat) (l0 : List Int) (A1 : Option Addr) (c1 : Nat) (l1 : List Int) (r1 : Int) (r2 : Bool) (w : World) (hr0 : Kd.C (Kd.int .i64) w A0 l0.length l0) (hc0 : l0.length ≤ c0) (hr1 : Kd.C (Kd.int .i64) w A1 l1.length l1) (hc1 : l1.length ≤ c1) (h : impl_GiftsBetween.f k l0 l1 = some (r1, r2)) :
    Calls Try.prog 15 #[.slice A0 l0.length c0, .slice A1 l1.length c1] w fun e w' => e = .returned (.tuple #[.int .i64 r1, .bool r2]) ∧ Below w.heap.size w w' := by
  have HR0 := Aside0.mk hr0
  have HC0 := Aside0.mk hc0
  clear hr0 hc0
  have HR1 := Aside0.mk hr1
  have HC1 := Aside0.mk hc1
  clear hr1 hc1
  have HB := Aside0.mk (Below.refl w.heap.size w)
  have H : ((impl_areLists.f k l0 l1).bind fun t324 => (if t324 = true then ((impl_doFit.f k l0 l1).bind fun t325 => (impl_GiftsBetween.j0 k l0 l1 (!t325))) else (impl_GiftsBetween.j0 k l0 l1 true))) = some (r1, r2) := h
  clear h
  have HC3 := Aside0.mk H
  clear H
  go_enter Try.func15, Try.ntmps15
  go_upto_region 1 with (fail)
  go_cut [15] (fun v15 wc => ∃ (kq : Nat) (x15_2 : Bool), v15 = .bool x15_2 ∧ Aside0 (impl_GiftsBetween.j0 kq l0 l1 x15_2 = some (r1, r2)) ∧ Aside0 (kq ≤ k) ∧ Aside0 (Below w.heap.size w wc))
  case first =>
    have H := HC3.out
    clear HC3
    replace H := Option.bind_eq_some_iff.mp H
    obtain ⟨t324, A40, H⟩ := H
    replace H : (if t324 = true then ((impl_doFit.f k l0 l1).bind fun t325 => (impl_GiftsBetween.j0 k l0 l1 (!t325))) else (impl_GiftsBetween.j0 k l0 l1 true)) = some (r1, r2) := H
    have A4 := Aside0.mk A40
    clear A40
    by_cases c5 : t324 = true
    · subst c5
      have H1 : ((impl_doFit.f k l0 l1).bind fun t325 => (impl_GiftsBetween.j0 k l0 l1 (!t325))) = some (r1, r2) := by rw [if_pos rfl] at H; exact H
      clear H
      have H := H1
      clear H1
      replace H := Option.bind_eq_some_iff.mp H
      obtain ⟨t325, A60, H⟩ := H
      replace H : (impl_GiftsBetween.j0 k l0 l1 (!t325)) = some (r1, r2) := H
      have A6 := Aside0.mk A60
      clear A60
      have H' := Aside0.mk H
      clear H
      go_wp2_with (first | ((with_reducible refine gate_callee (f := 45) rfl ?_); refine goesL_ (some 8) rfl rfl Try.func45 (by kernel_rfl) rfl #[.slice A0 l0.length c0, .slice A1 l1.length c1] rfl (by (try simp only [List.map_toArray, List.map_cons, List.map_nil]); first | done | rfl | (simp only [List.length_drop, List.length_take]; rfl)) ?_; (with_reducible refine (impl_areLists.calls k _ _ l0 _ _ l1 true _ ?side1 ?side2 ?side3 ?side4 A4.out).mono ?_); (case side1 => repeat (first | exact (Kd.C_below HR0.out HB.out) | (with_reducible refine Kd.C_alloc ?_ _) | (with_reducible refine Kd.C_drewN ?_ _) | (with_reducible refine Kd.C_drew ?_))); (case side2 => exact HC0.out); (case side3 => repeat (first | exact (Kd.C_below HR1.out HB.out) | (with_reducible refine Kd.C_alloc ?_ _) | (with_reducible refine Kd.C_drewN ?_ _) | (with_reducible refine Kd.C_drew ?_))); (case side4 => exact HC1.out); rintro e w' ⟨rfl, ⟨nd, rfl⟩⟩; refine ⟨_, rfl, ?_⟩) | (go_at_call 46; (with_reducible refine (impl_doFit.calls k _ _ l0 _ _ l1 t325 _ ?side1 ?side2 ?side3 ?side4 A6.out).mono ?_); (case side1 => repeat (first | exact (Kd.C_below HR0.out (by repeat (first | (with_reducible first | exact HB.out | apply below_alloc | apply pw_below_drewN | apply below_drew1) | exact HB.out))) | (with_reducible refine Kd.C_alloc ?_ _) | (with_reducible refine Kd.C_drewN ?_ _) | (with_reducible refine Kd.C_drew ?_))); (case side2 => exact HC0.out); (case side3 => repeat (first | exact (Kd.C_below HR1.out (by repeat (first | (with_reducible first | exact HB.out | apply below_alloc | apply pw_below_drewN | apply below_drew1) | exact HB.out))) | (with_reducible refine Kd.C_alloc ?_ _) | (with_reducible refine Kd.C_drewN ?_ _) | (with_reducible refine Kd.C_drew ?_))); (case side4 => exact HC1.out); rintro e w' ⟨rfl, ⟨nd, rfl⟩⟩))
      go_meet
      case rel => exact ⟨_, (!t325), (by first | rfl | (simp; done) | (simp [*]; done)), H', ⟨by first | omega | exact Nat.le_refl _⟩, ⟨by repeat (first | (with_reducible first | exact HB.out | apply below_alloc | apply pw_below_drewN | apply below_drew1) | exact HB.out)⟩⟩
    · replace c5 := Bool.eq_false_iff.mpr c5
      subst c5
      have H1 : (impl_GiftsBetween.j0 k l0 l1 true) = some (r1, r2) := by rw [if_neg (show ¬ (false = true) by decide)] at H; exact H
      clear H
      have H := H1
      clear H1
      have H' := Aside0.mk H
      clear H
      go_wp2_with (first | ((with_reducible refine gate_callee (f := 45) rfl ?_); refine goesL_ (some 8) rfl rfl Try.func45 (by kernel_rfl) rfl #[.slice A0 l0.length c0, .slice A1 l1.length c1] rfl (by (try simp only [List.map_toArray, List.map_cons, List.map_nil]); first | done | rfl | (simp only [List.length_drop, List.length_take]; rfl)) ?_; (with_reducible refine (impl_areLists.calls k _ _ l0 _ _ l1 false _ ?side1 ?side2 ?side3 ?side4 A4.out).mono ?_); (case side1 => repeat (first | exact (Kd.C_below HR0.out HB.out) | (with_reducible refine Kd.C_alloc ?_ _) | (with_reducible refine Kd.C_drewN ?_ _) | (with_reducible refine Kd.C_drew ?_))); (case side2 => exact HC0.out); (case side3 => repeat (first | exact (Kd.C_below HR1.out HB.out) | (with_reducible refine Kd.C_alloc ?_ _) | (with_reducible refine Kd.C_drewN ?_ _) | (with_reducible refine Kd.C_drew ?_))); (case side4 => exact HC1.out); rintro e w' ⟨rfl, ⟨nd, rfl⟩⟩; refine ⟨_, rfl, ?_⟩))
      go_meet
      case rel => exact ⟨_, (true), (by first | rfl | (simp; done) | (simp [*]; done)), H', ⟨by first | omega | exact Nat.le_refl _⟩, ⟨by repeat (first | (with_reducible first | exact HB.out | apply below_alloc | apply pw_below_drewN | apply below_drew1) | exact HB.out)⟩⟩
  case rest =>
    clear HC3
    try clear c1
    try clear p2
    try clear c4
    try clear c5
    obtain ⟨kq, x15_2, rfl, HA, HJ2, HB⟩ := hcut
    cases kq with
    | zero => exact absurd HA.out (by simp [impl_GiftsBetween.j0])
    | succ kj2 =>
      have H := HA.out
      clear HA
      simp only [impl_GiftsBetween.j0] at H
      by_cases c7 : x15_2 = true
      · subst c7
        have H1 : (some (0, false)) = some (r1, r2) := by rw [if_pos rfl] at H; exact H
        clear H
        have H := H1
        clear H1
        simp only [Option.some.injEq, Prod.mk.injEq] at H
        obtain ⟨rfl, rfl⟩ := H
        go_wp2
        go_ret2
        exact ⟨by first | rfl | (simp [errW_none, errW_some] <;> rfl) | (simp [*, errW_none, errW_some] <;> rfl), by repeat (first | (with_reducible first | exact HB.out | apply below_alloc | apply pw_below_drewN | apply below_drew1) | exact HB.out)⟩
      · replace c7 := Bool.eq_false_iff.mpr c7
        subst c7
        have H1 : ((impl_ranking.f l1).bind fun t326 => ((impl_unitsFrom.f kj2 t326 l0).bind fun t329 => (some ((t329.length : Int), true)))) = some (r1, r2) := by rw [if_neg (show ¬ (false = true) by decide)] at H; exact H
        clear H
        have H := H1
        clear H1
        replace H := Option.bind_eq_some_iff.mp H
        obtain ⟨t326, A80, H⟩ := H
        replace H : ((impl_unitsFrom.f kj2 t326 l0).bind fun t329 => (some ((t329.length : Int), true))) = some (r1, r2) := H
        have A8 := Aside0.mk A80
        clear A80
        replace H := Option.bind_eq_some_iff.mp H
        obtain ⟨t329, A90, H⟩ := H
        replace H : (some ((t329.length : Int), true)) = some (r1, r2) := H
        have A9 := Aside0.mk A90
        clear A90
        simp only [Option.some.injEq, Prod.mk.injEq] at H
        obtain ⟨rfl, rfl⟩ := H
        go_wp2_with (first | ((with_reducible refine gate_callee (f := 38) rfl ?_); refine goesL_ (some 17) rfl rfl Try.func38 (by kernel_rfl) rfl #[.slice A1 l1.length c1] rfl (by (try simp only [List.map_toArray, List.map_cons, List.map_nil]); first | done | rfl | (simp only [List.length_drop, List.length_take]; rfl)) ?_; (with_reducible refine (impl_ranking.calls _ _ l1 t326 _ ?side1 ?side2 A8.out).mono ?_); (case side1 => repeat (first | exact (Kd.C_below HR1.out HB.out) | (with_reducible refine Kd.C_alloc ?_ _) | (with_reducible refine Kd.C_drewN ?_ _) | (with_reducible refine Kd.C_drew ?_))); (case side2 => exact HC1.out); rintro e w10 ⟨v327, rfl, ho0, hb⟩; refine ⟨_, rfl, ?_⟩; have n0_ := Aside0.mk (Kd.R_lower ho0 (below_size (by repeat (first | (with_reducible first | exact HB.out | apply below_alloc | apply pw_below_drewN | apply below_drew1) | exact HB.out)))); have n1_ := Aside0.mk (below_step (by repeat (first | (with_reducible first | exact HB.out | apply below_alloc | apply pw_below_drewN | apply below_drew1) | exact HB.out)) hb); clear HB; have HO328 := n0_; have HB := n1_; clear n0_ n1_; (try clear hb); (try clear hb2); (try clear hk); (try clear hi); (try clear ho0); obtain ⟨Ao11, co11, eo11⟩ := Kd.R_slice HO328.out; subst eo11) | ((with_reducible refine gate_callee (f := 47) rfl ?_); refine goesL_ (some 19) rfl rfl Try.func47 (by kernel_rfl) rfl #[.slice Ao11 t326.length co11, .slice A0 l0.length c0] rfl (by (try simp only [List.map_toArray, List.map_cons, List.map_nil]); first | done | rfl | (simp only [List.length_drop, List.length_take]; rfl)) ?_; (with_reducible refine (impl_unitsFrom.calls kj2 _ _ t326 _ _ l0 t329 _ ?side1 ?side2 ?side3 ?side4 A9.out).mono ?_); (case side1 => repeat (first | exact (Kd.R_reads' HO328.out).2.2 | (with_reducible refine Kd.C_alloc ?_ _) | (with_reducible refine Kd.C_drewN ?_ _) | (with_reducible refine Kd.C_drew ?_))); (case side2 => exact (Kd.R_reads' HO328.out).2.1); (case side3 => repeat (first | exact (Kd.C_below HR0.out HB.out) | (with_reducible refine Kd.C_alloc ?_ _) | (with_reducible refine Kd.C_drewN ?_ _) | (with_reducible refine Kd.C_drew ?_))); (case side4 => exact HC0.out); rintro e w12 ⟨v330, rfl, ho0, hb⟩; refine ⟨_, rfl, ?_⟩; have n0_ := Aside0.mk (Kd.R_below (by (with_reducible repeat (first | apply Kd.R_alloc | apply Kd.R_drewN | apply Kd.R_drew)); exact HO328.out) hb); have n1_ := Aside0.mk (Kd.S_lower (Kd.S_new' ho0 (Kd.R_lt (by (with_reducible repeat (first | apply Kd.R_alloc | apply Kd.R_drewN | apply Kd.R_drew)); exact HO328.out))) (below_size (by repeat (first | (with_reducible first | exact HB.out | apply below_alloc | apply pw_below_drewN | apply below_drew1) | exact HB.out)))); have n2_ := Aside0.mk (below_step (by repeat (first | (with_reducible first | exact HB.out | apply below_alloc | apply pw_below_drewN | apply below_drew1) | exact HB.out)) hb); clear HO328; clear HB; have HO328 := n0_; have HO331 := n1_; have HB := n2_; clear n0_ n1_ n2_; (try clear hb); (try clear hb2); (try clear hk); (try clear hi); (try clear ho0); obtain ⟨Ao13, co13, eo13⟩ := Kd.S_slice HO331.out; subst eo13))
        go_ret2
        exact ⟨by first | rfl | (simp [errW_none, errW_some] <;> rfl) | (simp [*, errW_none, errW_some] <;> rfl), by repeat (first | (with_reducible first | exact HB.out | apply below_alloc | apply pw_below_drewN | apply below_drew1) | exact HB.out)⟩

end Go.Proofs.Ytkpojaooolefjaa.A

-- made by a program of this repo (wip/pp.py) through the kit's printer
namespace Go.Proofs.Ytkpojaooolefjaa.A
open Go.RowKit Go.Proofs.YtkpojaooolefjaaW.PrintWords Go.Proofs.YtkpojaooolefjaaW.PrintLast Go.Proofs.YtkpojaooolefjaaW.PrintMore
attribute [local go_sem] max2_int min2_int max_two min_two max_three min_three max_four min_four
set_option linter.unusedVariables false
set_option linter.unusedSimpArgs false

/-! ### laws_FnExactGiftsBetween: function 4 -/
def laws_FnExactGiftsBetween.j0 : Nat → List Int → List Int → List Int → List Int → Bool → Option (Bool)
  | 0, _, _, _, _, _ => none
  | k + 1, x0, x1, x7, x8, x42 => if x42 = true then (some false) else ((laws_toIntS.f k x0).bind fun t348 => ((laws_eqIntS.f k x7 t348).bind fun t351 => (if t351 = true then ((laws_toIntS.f k x1).bind fun t352 => ((laws_eqIntS.f k x8 t352).bind fun t355 => (if t355 = true then (some true) else (some false)))) else (some false))))
def laws_FnExactGiftsBetween.f (k : Nat) (l0 : List Int) (l1 : List Int) : Option (Bool) := if (l0.length : Int) > 1048576 then (some true) else (if (l1.length : Int) > 1048576 then (some true) else ((laws_toIntS.f k l0).bind fun t332 => ((laws_toIntS.f k l1).bind fun t335 => ((spec_GiftsBetween.f k t332 t335).bind fun bt338 => ((laws_toIntS.f k l0).bind fun t340 => ((laws_toIntS.f k l1).bind fun t343 => ((impl_GiftsBetween.f k t340 t343).bind fun bt346 => (if bt346.1 = bt338.1 then (laws_FnExactGiftsBetween.j0 k l0 l1 t340 t343 (bt346.2 != bt338.2)) else (laws_FnExactGiftsBetween.j0 k l0 l1 t340 t343 true)))))))))
theorem laws_FnExactGiftsBetween.mono_l : ∀ k, (∀ y0 y1 y2 y3 y4, LeO (laws_FnExactGiftsBetween.j0 k y0 y1 y2 y3 y4) (laws_FnExactGiftsBetween.j0 (k + 1) y0 y1 y2 y3 y4))
  | 0 => fun _ _ _ _ _ r h => by simp [laws_FnExactGiftsBetween.j0] at h
  | k + 1 => by
    have ih0 := laws_FnExactGiftsBetween.mono_l k
    · intro y0 y1 y2 y3 y4
      unfold laws_FnExactGiftsBetween.j0
      repeat' first
      | (with_reducible exact ih0 _ _ _ _ _)
      | (with_reducible exact impl_GiftsBetween.mono _ _ _)
      | (with_reducible exact laws_eqIntS.mono _ _ _)
      | (with_reducible exact laws_toIntS.mono _ _)
      | (with_reducible exact spec_GiftsBetween.mono _ _ _)
      | (with_reducible exact LeO.refl _)
      | (with_reducible exact LeO.none _)
      | (with_reducible refine LeO.ite ?_ ?_)
      | (with_reducible refine LeO.bind ?_ (fun _ => ?_))
      | exact ih0 _ _ _ _ _
      | exact impl_GiftsBetween.mono _ _ _
      | exact laws_eqIntS.mono _ _ _
      | exact laws_toIntS.mono _ _
      | exact spec_GiftsBetween.mono _ _ _
      | exact LeO.none _
      | refine LeO.ite ?_ ?_
      | refine LeO.bind ?_ (fun _ => ?_)
theorem laws_FnExactGiftsBetween.mono : ∀ a0 a1 k, LeO (laws_FnExactGiftsBetween.f k a0 a1) (laws_FnExactGiftsBetween.f (k + 1) a0 a1) := by
  intro a0 a1 k
  have ih0 := laws_FnExactGiftsBetween.mono_l k
  unfold laws_FnExactGiftsBetween.f
  repeat' first
      | (with_reducible exact ih0 _ _ _ _ _)
      | (with_reducible exact impl_GiftsBetween.mono _ _ _)
      | (with_reducible exact laws_eqIntS.mono _ _ _)
      | (with_reducible exact laws_toIntS.mono _ _)
      | (with_reducible exact spec_GiftsBetween.mono _ _ _)
      | (with_reducible exact LeO.refl _)
      | (with_reducible exact LeO.none _)
      | (with_reducible refine LeO.ite ?_ ?_)
      | (with_reducible refine LeO.bind ?_ (fun _ => ?_))
      | exact ih0 _ _ _ _ _
      | exact impl_GiftsBetween.mono _ _ _
      | exact laws_eqIntS.mono _ _ _
      | exact laws_toIntS.mono _ _
      | exact spec_GiftsBetween.mono _ _ _
      | exact LeO.none _
      | refine LeO.ite ?_ ?_
      | refine LeO.bind ?_ (fun _ => ?_)
set_option maxHeartbeats 8000000 in
set_option maxRecDepth 100000 in
theorem laws_FnExactGiftsBetween.calls (k : Nat) (A0 : Option Addr) (c0 : Nat) (l0 : List Int) (A1 : Option Addr) (c1 : Nat) (l1 : List Int) (r : Bool) (w : World) (hr0 : Kd.C (Kd.int .i64) w A0 l0.length l0) (hc0 : l0.length ≤ c0) (hr1 : Kd.C (Kd.int .i64) w A1 l1.length l1) (hc1 : l1.length ≤ c1) (h : laws_FnExactGiftsBetween.f k l0 l1 = some r) :
    Calls Try.prog 4 #[.slice A0 l0.length c0, .slice A1 l1.length c1] w fun e w' => e = .returned (.bool r) ∧ Below w.heap.size w w' := by
  have HR0 := Aside0.mk hr0
  have HC0 := Aside0.mk hc0
  clear hr0 hc0
  have HR1 := Aside0.mk hr1
  have HC1 := Aside0.mk hc1
  clear hr1 hc1
  have HB := Aside0.mk (Below.refl w.heap.size w)
  have H : (if (l0.length : Int) > 1048576 then (some true) else (if (l1.length : Int) > 1048576 then (some true) else ((laws_toIntS.f k l0).bind fun t332 => ((laws_toIntS.f k l1).bind fun t335 => ((spec_GiftsBetween.f k t332 t335).bind fun bt338 => ((laws_toIntS.f k l0).bind fun t340 => ((laws_toIntS.f k l1).bind fun t343 => ((impl_GiftsBetween.f k t340 t343).bind fun bt346 => (if bt346.1 = bt338.1 then (laws_FnExactGiftsBetween.j0 k l0 l1 t340 t343 (bt346.2 != bt338.2)) else (laws_FnExactGiftsBetween.j0 k l0 l1 t340 t343 true)))))))))) = some r := h
  clear h
  by_cases c3 : (l0.length : Int) > 1048576
  · rw [if_pos c3] at H
    have c3b0 : decide (1048576 < (l0.length : Int)) = true := decide_eq_true c3
    have c3b1 : decide (1048576 < l0.length) = true := decide_eq_true (by omega)
    clear c3
    obtain rfl := Option.some.inj H
    go_enter Try.func4, Try.ntmps4
    go_wp2
    go_ret
    exact ⟨by first | rfl | (simp [errW_none, errW_some] <;> rfl) | (simp [*, errW_none, errW_some] <;> rfl), by repeat (first | (with_reducible first | exact HB.out | apply below_alloc | apply pw_below_drewN | apply below_drew1) | exact HB.out)⟩
  · rw [if_neg c3] at H
    have c3b0 : decide (1048576 < (l0.length : Int)) = false := decide_eq_false c3
    have c3b1 : decide (1048576 < l0.length) = false := decide_eq_false (by omega)
    clear c3
    by_cases c4 : (l1.length : Int) > 1048576
    · rw [if_pos c4] at H
      have c4b0 : decide (1048576 < (l1.length : Int)) = true := decide_eq_true c4
      have c4b1 : decide (1048576 < l1.length) = true := decide_eq_true (by omega)
      clear c4
      obtain rfl := Option.some.inj H
      go_enter Try.func4, Try.ntmps4
      go_wp2
      go_ret
      exact ⟨by first | rfl | (simp [errW_none, errW_some] <;> rfl) | (simp [*, errW_none, errW_some] <;> rfl), by repeat (first | (with_reducible first | exact HB.out | apply below_alloc | apply pw_below_drewN | apply below_drew1) | exact HB.out)⟩
    · rw [if_neg c4] at H
      have c4b0 : decide (1048576 < (l1.length : Int)) = false := decide_eq_false c4
      have c4b1 : decide (1048576 < l1.length) = false := decide_eq_false (by omega)
      clear c4
      replace H := Option.bind_eq_some_iff.mp H
      obtain ⟨t332, A50, H⟩ := H
      replace H : ((laws_toIntS.f k l1).bind fun t335 => ((spec_GiftsBetween.f k t332 t335).bind fun bt338 => ((laws_toIntS.f k l0).bind fun t340 => ((laws_toIntS.f k l1).bind fun t343 => ((impl_GiftsBetween.f k t340 t343).bind fun bt346 => (if bt346.1 = bt338.1 then (laws_FnExactGiftsBetween.j0 k l0 l1 t340 t343 (bt346.2 != bt338.2)) else (laws_FnExactGiftsBetween.j0 k l0 l1 t340 t343 true))))))) = some r := H
      have A5 := Aside0.mk A50
      clear A50
      replace H := Option.bind_eq_some_iff.mp H
      obtain ⟨t335, A60, H⟩ := H
      replace H : ((spec_GiftsBetween.f k t332 t335).bind fun bt338 => ((laws_toIntS.f k l0).bind fun t340 => ((laws_toIntS.f k l1).bind fun t343 => ((impl_GiftsBetween.f k t340 t343).bind fun bt346 => (if bt346.1 = bt338.1 then (laws_FnExactGiftsBetween.j0 k l0 l1 t340 t343 (bt346.2 != bt338.2)) else (laws_FnExactGiftsBetween.j0 k l0 l1 t340 t343 true)))))) = some r := H
      have A6 := Aside0.mk A60
      clear A60
      replace H := Option.bind_eq_some_iff.mp H
      obtain ⟨⟨t338, t339⟩, A70, H⟩ := H
      replace H : ((laws_toIntS.f k l0).bind fun t340 => ((laws_toIntS.f k l1).bind fun t343 => ((impl_GiftsBetween.f k t340 t343).bind fun bt346 => (if bt346.1 = t338 then (laws_FnExactGiftsBetween.j0 k l0 l1 t340 t343 (bt346.2 != t339)) else (laws_FnExactGiftsBetween.j0 k l0 l1 t340 t343 true))))) = some r := H
      have A7 := Aside0.mk A70
      clear A70
      replace H := Option.bind_eq_some_iff.mp H
      obtain ⟨t340, A80, H⟩ := H
      replace H : ((laws_toIntS.f k l1).bind fun t343 => ((impl_GiftsBetween.f k t340 t343).bind fun bt346 => (if bt346.1 = t338 then (laws_FnExactGiftsBetween.j0 k l0 l1 t340 t343 (bt346.2 != t339)) else (laws_FnExactGiftsBetween.j0 k l0 l1 t340 t343 true)))) = some r := H
      have A8 := Aside0.mk A80
      clear A80
      replace H := Option.bind_eq_some_iff.mp H
      obtain ⟨t343, A90, H⟩ := H
      replace H : ((impl_GiftsBetween.f k t340 t343).bind fun bt346 => (if bt346.1 = t338 then (laws_FnExactGiftsBetween.j0 k l0 l1 t340 t343 (bt346.2 != t339)) else (laws_FnExactGiftsBetween.j0 k l0 l1 t340 t343 true))) = some r := H
      have A9 := Aside0.mk A90
      clear A90
      replace H := Option.bind_eq_some_iff.mp H
      obtain ⟨⟨t346, t347⟩, A100, H⟩ := H
      replace H : (if t346 = t338 then (laws_FnExactGiftsBetween.j0 k l0 l1 t340 t343 (t347 != t339)) else (laws_FnExactGiftsBetween.j0 k l0 l1 t340 t343 true)) = some r := H
      have A10 := Aside0.mk A100
      clear A100
      have HC11 := Aside0.mk H
      clear H
      go_enter Try.func4, Try.ntmps4
      go_upto_region 9 with (first | ((with_reducible refine gate_callee (f := 11) rfl ?_); refine goesL_ (some 19) rfl rfl Try.func11 (by kernel_rfl) rfl #[.slice A0 l0.length c0] rfl (by (try simp only [List.map_toArray, List.map_cons, List.map_nil]); first | done | rfl | (simp only [List.length_drop, List.length_take]; rfl)) ?_; (with_reducible refine (laws_toIntS.calls k _ _ l0 t332 _ ?side1 ?side2 A5.out).mono ?_); (case side1 => repeat (first | exact HR0.out | (with_reducible refine Kd.C_alloc ?_ _) | (with_reducible refine Kd.C_drewN ?_ _) | (with_reducible refine Kd.C_drew ?_))); (case side2 => exact HC0.out); rintro e w12 ⟨v333, rfl, ho0, hb⟩; refine ⟨_, rfl, ?_⟩; have n0_ := Aside0.mk (Kd.R_lower ho0 (below_size (by repeat (first | (with_reducible first | exact HB.out | apply below_alloc | apply pw_below_drewN | apply below_drew1) | exact HB.out)))); have n1_ := Aside0.mk (below_step (by repeat (first | (with_reducible first | exact HB.out | apply below_alloc | apply pw_below_drewN | apply below_drew1) | exact HB.out)) hb); clear HB; have HO334 := n0_; have HB := n1_; clear n0_ n1_; (try clear hb); (try clear hb2); (try clear hk); (try clear hi); (try clear ho0)) | ((with_reducible refine gate_callee (f := 11) rfl ?_); refine goesL_ (some 21) rfl rfl Try.func11 (by kernel_rfl) rfl #[.slice A1 l1.length c1] rfl (by (try simp only [List.map_toArray, List.map_cons, List.map_nil]); first | done | rfl | (simp only [List.length_drop, List.length_take]; rfl)) ?_; (with_reducible refine (laws_toIntS.calls k _ _ l1 t335 _ ?side1 ?side2 A6.out).mono ?_); (case side1 => repeat (first | exact (Kd.C_below HR1.out HB.out) | (with_reducible refine Kd.C_alloc ?_ _) | (with_reducible refine Kd.C_drewN ?_ _) | (with_reducible refine Kd.C_drew ?_))); (case side2 => exact HC1.out); rintro e w13 ⟨v336, rfl, ho0, hb⟩; refine ⟨_, rfl, ?_⟩; have n0_ := Aside0.mk (Kd.R_elder' (by (with_reducible repeat (first | apply Kd.R_alloc | apply Kd.R_drewN | apply Kd.R_drew)); exact HO334.out) (Kd.R_base ho0) hb); have n1_ := Aside0.mk (Kd.R_lower (Kd.R_new' ho0 (Kd.R_lt (by (with_reducible repeat (first | apply Kd.R_alloc | apply Kd.R_drewN | apply Kd.R_drew)); exact HO334.out))) (below_size (by repeat (first | (with_reducible first | exact HB.out | apply below_alloc | apply pw_below_drewN | apply below_drew1) | exact HB.out)))); have n2_ := Aside0.mk (below_step (by repeat (first | (with_reducible first | exact HB.out | apply below_alloc | apply pw_below_drewN | apply below_drew1) | exact HB.out)) hb); clear HO334; clear HB; have HO334 := n0_; have HO337 := n1_; have HB := n2_; clear n0_ n1_ n2_; (try clear hb); (try clear hb2); (try clear hk); (try clear hi); (try clear ho0); obtain ⟨Ao14, co14, eo14⟩ := Kd.R_slice HO334.out; subst eo14; obtain ⟨Ao15, co15, eo15⟩ := Kd.R_slice HO337.out; subst eo15) | ((with_reducible refine gate_callee (f := 14) rfl ?_); refine goesL_ (some 22) rfl rfl Try.func14 (by kernel_rfl) rfl #[.slice Ao14 t332.length co14, .slice Ao15 t335.length co15] rfl (by (try simp only [List.map_toArray, List.map_cons, List.map_nil]); first | done | rfl | (simp only [List.length_drop, List.length_take]; rfl)) ?_; (with_reducible refine (spec_GiftsBetween.calls k _ _ t332 _ _ t335 t338 t339 _ ?side1 ?side2 ?side3 ?side4 A7.out).mono ?_); (case side1 => repeat (first | exact (Kd.R_reads' HO334.out).2.2 | (with_reducible refine Kd.C_alloc ?_ _) | (with_reducible refine Kd.C_drewN ?_ _) | (with_reducible refine Kd.C_drew ?_))); (case side2 => exact (Kd.R_reads' HO334.out).2.1); (case side3 => repeat (first | exact (Kd.R_reads' HO337.out).2.2 | (with_reducible refine Kd.C_alloc ?_ _) | (with_reducible refine Kd.C_drewN ?_ _) | (with_reducible refine Kd.C_drew ?_))); (case side4 => exact (Kd.R_reads' HO337.out).2.1); rintro e w16 ⟨rfl, hb⟩; refine ⟨_, rfl, ?_⟩; have n0_ := Aside0.mk (Kd.R_below (by (with_reducible repeat (first | apply Kd.R_alloc | apply Kd.R_drewN | apply Kd.R_drew)); exact HO334.out) hb); have n1_ := Aside0.mk (Kd.R_below (by (with_reducible repeat (first | apply Kd.R_alloc | apply Kd.R_drewN | apply Kd.R_drew)); exact HO337.out) hb); have n2_ := Aside0.mk (below_step (by repeat (first | (with_reducible first | exact HB.out | apply below_alloc | apply pw_below_drewN | apply below_drew1) | exact HB.out)) hb); clear HO334; clear HO337; clear HB; have HO334 := n0_; have HO337 := n1_; have HB := n2_; clear n0_ n1_ n2_; (try clear hb); (try clear hb2); (try clear hk); (try clear hi)) | ((with_reducible refine gate_callee (f := 11) rfl ?_); refine goesL_ (some 26) rfl rfl Try.func11 (by kernel_rfl) rfl #[.slice A0 l0.length c0] rfl (by (try simp only [List.map_toArray, List.map_cons, List.map_nil]); first | done | rfl | (simp only [List.length_drop, List.length_take]; rfl)) ?_; (with_reducible refine (laws_toIntS.calls k _ _ l0 t340 _ ?side1 ?side2 A8.out).mono ?_); (case side1 => repeat (first | exact (Kd.C_below HR0.out HB.out) | (with_reducible refine Kd.C_alloc ?_ _) | (with_reducible refine Kd.C_drewN ?_ _) | (with_reducible refine Kd.C_drew ?_))); (case side2 => exact HC0.out); rintro e w17 ⟨v341, rfl, ho0, hb⟩; refine ⟨_, rfl, ?_⟩; have n0_ := Aside0.mk (Kd.R_elder' (by (with_reducible repeat (first | apply Kd.R_alloc | apply Kd.R_drewN | apply Kd.R_drew)); exact HO334.out) (Kd.R_base ho0) hb); have n1_ := Aside0.mk (Kd.R_elder' (by (with_reducible repeat (first | apply Kd.R_alloc | apply Kd.R_drewN | apply Kd.R_drew)); exact HO337.out) (Kd.R_base ho0) hb); have n2_ := Aside0.mk (Kd.R_lower (Kd.R_new' (Kd.R_new' ho0 (Kd.R_lt (by (with_reducible repeat (first | apply Kd.R_alloc | apply Kd.R_drewN | apply Kd.R_drew)); exact HO334.out))) (Kd.R_lt (by (with_reducible repeat (first | apply Kd.R_alloc | apply Kd.R_drewN | apply Kd.R_drew)); exact HO337.out))) (below_size (by repeat (first | (with_reducible first | exact HB.out | apply below_alloc | apply pw_below_drewN | apply below_drew1) | exact HB.out)))); have n3_ := Aside0.mk (below_step (by repeat (first | (with_reducible first | exact HB.out | apply below_alloc | apply pw_below_drewN | apply below_drew1) | exact HB.out)) hb); clear HO334; clear HO337; clear HB; have HO334 := n0_; have HO337 := n1_; have HO342 := n2_; have HB := n3_; clear n0_ n1_ n2_ n3_; (try clear hb); (try clear hb2); (try clear hk); (try clear hi); (try clear ho0)) | ((with_reducible refine gate_callee (f := 11) rfl ?_); refine goesL_ (some 28) rfl rfl Try.func11 (by kernel_rfl) rfl #[.slice A1 l1.length c1] rfl (by (try simp only [List.map_toArray, List.map_cons, List.map_nil]); first | done | rfl | (simp only [List.length_drop, List.length_take]; rfl)) ?_; (with_reducible refine (laws_toIntS.calls k _ _ l1 t343 _ ?side1 ?side2 A9.out).mono ?_); (case side1 => repeat (first | exact (Kd.C_below HR1.out HB.out) | (with_reducible refine Kd.C_alloc ?_ _) | (with_reducible refine Kd.C_drewN ?_ _) | (with_reducible refine Kd.C_drew ?_))); (case side2 => exact HC1.out); rintro e w18 ⟨v344, rfl, ho0, hb⟩; refine ⟨_, rfl, ?_⟩; have n0_ := Aside0.mk (Kd.R_elder' (by (with_reducible repeat (first | apply Kd.R_alloc | apply Kd.R_drewN | apply Kd.R_drew)); exact HO334.out) (Kd.R_base ho0) hb); have n1_ := Aside0.mk (Kd.R_elder' (by (with_reducible repeat (first | apply Kd.R_alloc | apply Kd.R_drewN | apply Kd.R_drew)); exact HO337.out) (Kd.R_base ho0) hb); have n2_ := Aside0.mk (Kd.R_elder' (by (with_reducible repeat (first | apply Kd.R_alloc | apply Kd.R_drewN | apply Kd.R_drew)); exact HO342.out) (Kd.R_base ho0) hb); have n3_ := Aside0.mk (Kd.R_lower (Kd.R_new' (Kd.R_new' (Kd.R_new' ho0 (Kd.R_lt (by (with_reducible repeat (first | apply Kd.R_alloc | apply Kd.R_drewN | apply Kd.R_drew)); exact HO334.out))) (Kd.R_lt (by (with_reducible repeat (first | apply Kd.R_alloc | apply Kd.R_drewN | apply Kd.R_drew)); exact HO337.out))) (Kd.R_lt (by (with_reducible repeat (first | apply Kd.R_alloc | apply Kd.R_drewN | apply Kd.R_drew)); exact HO342.out))) (below_size (by repeat (first | (with_reducible first | exact HB.out | apply below_alloc | apply pw_below_drewN | apply below_drew1) | exact HB.out)))); have n4_ := Aside0.mk (below_step (by repeat (first | (with_reducible first | exact HB.out | apply below_alloc | apply pw_below_drewN | apply below_drew1) | exact HB.out)) hb); clear HO334; clear HO337; clear HO342; clear HB; have HO334 := n0_; have HO337 := n1_; have HO342 := n2_; have HO345 := n3_; have HB := n4_; clear n0_ n1_ n2_ n3_ n4_; (try clear hb); (try clear hb2); (try clear hk); (try clear hi); (try clear ho0); obtain ⟨Ao19, co19, eo19⟩ := Kd.R_slice HO342.out; subst eo19; obtain ⟨Ao20, co20, eo20⟩ := Kd.R_slice HO345.out; subst eo20) | ((with_reducible refine gate_callee (f := 15) rfl ?_); refine goesL_ (some 32) rfl rfl Try.func15 (by kernel_rfl) rfl #[.slice Ao19 t340.length co19, .slice Ao20 t343.length co20] rfl (by (try simp only [List.map_toArray, List.map_cons, List.map_nil]); first | done | rfl | (simp only [List.length_drop, List.length_take]; rfl)) ?_; (with_reducible refine (impl_GiftsBetween.calls k _ _ t340 _ _ t343 t346 t347 _ ?side1 ?side2 ?side3 ?side4 A10.out).mono ?_); (case side1 => repeat (first | exact (Kd.R_reads' HO342.out).2.2 | (with_reducible refine Kd.C_alloc ?_ _) | (with_reducible refine Kd.C_drewN ?_ _) | (with_reducible refine Kd.C_drew ?_))); (case side2 => exact (Kd.R_reads' HO342.out).2.1); (case side3 => repeat (first | exact (Kd.R_reads' HO345.out).2.2 | (with_reducible refine Kd.C_alloc ?_ _) | (with_reducible refine Kd.C_drewN ?_ _) | (with_reducible refine Kd.C_drew ?_))); (case side4 => exact (Kd.R_reads' HO345.out).2.1); rintro e w21 ⟨rfl, hb⟩; refine ⟨_, rfl, ?_⟩; have n0_ := Aside0.mk (Kd.R_below (by (with_reducible repeat (first | apply Kd.R_alloc | apply Kd.R_drewN | apply Kd.R_drew)); exact HO334.out) hb); have n1_ := Aside0.mk (Kd.R_below (by (with_reducible repeat (first | apply Kd.R_alloc | apply Kd.R_drewN | apply Kd.R_drew)); exact HO337.out) hb); have n2_ := Aside0.mk (Kd.R_below (by (with_reducible repeat (first | apply Kd.R_alloc | apply Kd.R_drewN | apply Kd.R_drew)); exact HO342.out) hb); have n3_ := Aside0.mk (Kd.R_below (by (with_reducible repeat (first | apply Kd.R_alloc | apply Kd.R_drewN | apply Kd.R_drew)); exact HO345.out) hb); have n4_ := Aside0.mk (below_step (by repeat (first | (with_reducible first | exact HB.out | apply below_alloc | apply pw_below_drewN | apply below_drew1) | exact HB.out)) hb); clear HO334; clear HO337; clear HO342; clear HO345; clear HB; have HO334 := n0_; have HO337 := n1_; have HO342 := n2_; have HO345 := n3_; have HB := n4_; clear n0_ n1_ n2_ n3_ n4_; (try clear hb); (try clear hb2); (try clear hk); (try clear hi)))
      (try simp only [Act.put, List.setIfInBounds_toArray, List.set_cons_zero, List.set_cons_succ])
      go_cut [42] (fun v42 wc => ∃ (kq : Nat) (x42_10 : Bool), v42 = .bool x42_10 ∧ Aside0 (laws_FnExactGiftsBetween.j0 kq l0 l1 t340 t343 x42_10 = some r) ∧ Aside0 (kq ≤ k) ∧ Aside0 (Kd.R (Kd.int .i64) 3 wc w.heap.size (fun k_ => some k_ ≠ ((.slice Ao20 t343.length co20) : Value).ownBlock) (.slice Ao19 t340.length co19) t340) ∧ Aside0 (Kd.R (Kd.int .i64) 3 wc w.heap.size (fun k_ => some k_ ≠ ((.slice Ao19 t340.length co19) : Value).ownBlock) (.slice Ao20 t343.length co20) t343) ∧ Aside0 (Below w.heap.size w wc))
      case first =>
        have H := HC11.out
        clear HC11
        by_cases c22 : t346 = t338
        · rw [if_pos c22] at H
          have c22b0 : (t346 == t338) = true := beq_iff_eq.mpr c22
          have c22b1 : (t346 != t338) = false := bne_eq_false_iff_eq.mpr c22
          clear c22
          (first | rw [c22b0] | (simp only [i64_w, i32_w]; rw [c22b0]) | skip)
          have H' := Aside0.mk H
          clear H
          go_wp2
          go_meet
          case rel => exact ⟨_, ((t347 != t339)), (by first | rfl | (simp; done) | (simp [*]; done)), H', ⟨by first | omega | exact Nat.le_refl _⟩, ⟨by (with_reducible repeat (first | apply Kd.R_alloc | apply Kd.R_drewN | apply Kd.R_drew)); exact Kd.R_mono HO342.out (fun _ hk => hk.2)⟩, ⟨by (with_reducible repeat (first | apply Kd.R_alloc | apply Kd.R_drewN | apply Kd.R_drew)); exact Kd.R_mono HO345.out (fun _ hk => hk.2)⟩, ⟨by repeat (first | (with_reducible first | exact HB.out | apply below_alloc | apply pw_below_drewN | apply below_drew1) | exact HB.out)⟩⟩
        · rw [if_neg c22] at H
          have c22b0 : (t346 == t338) = false := beq_eq_false_iff_ne.mpr c22
          have c22b1 : (t346 != t338) = true := bne_iff_ne.mpr c22
          (first | rw [c22b0] | (simp only [i64_w, i32_w]; rw [c22b0]) | skip)
          have H' := Aside0.mk H
          clear H
          go_wp2
          go_meet
          case rel => exact ⟨_, (true), (by first | rfl | (simp; done) | (simp [*]; done)), H', ⟨by first | omega | exact Nat.le_refl _⟩, ⟨by (with_reducible repeat (first | apply Kd.R_alloc | apply Kd.R_drewN | apply Kd.R_drew)); exact Kd.R_mono HO342.out (fun _ hk => hk.2)⟩, ⟨by (with_reducible repeat (first | apply Kd.R_alloc | apply Kd.R_drewN | apply Kd.R_drew)); exact Kd.R_mono HO345.out (fun _ hk => hk.2)⟩, ⟨by repeat (first | (with_reducible first | exact HB.out | apply below_alloc | apply pw_below_drewN | apply below_drew1) | exact HB.out)⟩⟩
      case rest =>
        clear HC11
        try clear c1
        try clear c2
        try clear p2
        try clear c3
        try clear c3b0
        try clear c3b1
        try clear c4
        try clear c4b0
        try clear c4b1
        try clear c11
        try clear c14
        try clear c15
        try clear c22
        try clear c22b0
        try clear c22b1
        obtain ⟨kq, x42_10, rfl, HA, HJ10, HO_7, HO_8, HB⟩ := hcut
        cases kq with
        | zero => exact absurd HA.out (by simp [laws_FnExactGiftsBetween.j0])
        | succ kj10 =>
          have H := HA.out
          clear HA
          simp only [laws_FnExactGiftsBetween.j0] at H
          by_cases c23 : x42_10 = true
          · subst c23
            have H1 : (some false) = some r := by rw [if_pos rfl] at H; exact H
            clear H
            have H := H1
            clear H1
            obtain rfl := Option.some.inj H
            go_wp2
            go_ret
            exact ⟨by first | rfl | (simp [errW_none, errW_some] <;> rfl) | (simp [*, errW_none, errW_some] <;> rfl), by repeat (first | (with_reducible first | exact HB.out | apply below_alloc | apply pw_below_drewN | apply below_drew1) | exact HB.out)⟩
          · replace c23 := Bool.eq_false_iff.mpr c23
            subst c23
            have H1 : ((laws_toIntS.f kj10 l0).bind fun t348 => ((laws_eqIntS.f kj10 t340 t348).bind fun t351 => (if t351 = true then ((laws_toIntS.f kj10 l1).bind fun t352 => ((laws_eqIntS.f kj10 t343 t352).bind fun t355 => (if t355 = true then (some true) else (some false)))) else (some false)))) = some r := by rw [if_neg (show ¬ (false = true) by decide)] at H; exact H
            clear H
            have H := H1
            clear H1
            replace H := Option.bind_eq_some_iff.mp H
            obtain ⟨t348, A240, H⟩ := H
            replace H : ((laws_eqIntS.f kj10 t340 t348).bind fun t351 => (if t351 = true then ((laws_toIntS.f kj10 l1).bind fun t352 => ((laws_eqIntS.f kj10 t343 t352).bind fun t355 => (if t355 = true then (some true) else (some false)))) else (some false))) = some r := H
            have A24 := Aside0.mk A240
            clear A240
            replace H := Option.bind_eq_some_iff.mp H
            obtain ⟨t351, A250, H⟩ := H
            replace H : (if t351 = true then ((laws_toIntS.f kj10 l1).bind fun t352 => ((laws_eqIntS.f kj10 t343 t352).bind fun t355 => (if t355 = true then (some true) else (some false)))) else (some false)) = some r := H
            have A25 := Aside0.mk A250
            clear A250
            by_cases c26 : t351 = true
            · subst c26
              have H1 : ((laws_toIntS.f kj10 l1).bind fun t352 => ((laws_eqIntS.f kj10 t343 t352).bind fun t355 => (if t355 = true then (some true) else (some false)))) = some r := by rw [if_pos rfl] at H; exact H
              clear H
              have H := H1
              clear H1
              replace H := Option.bind_eq_some_iff.mp H
              obtain ⟨t352, A270, H⟩ := H
              replace H : ((laws_eqIntS.f kj10 t343 t352).bind fun t355 => (if t355 = true then (some true) else (some false))) = some r := H
              have A27 := Aside0.mk A270
              clear A270
              replace H := Option.bind_eq_some_iff.mp H
              obtain ⟨t355, A280, H⟩ := H
              replace H : (if t355 = true then (some true) else (some false)) = some r := H
              have A28 := Aside0.mk A280
              clear A280
              by_cases c29 : t355 = true
              · subst c29
                have H1 : (some true) = some r := by rw [if_pos rfl] at H; exact H
                clear H
                have H := H1
                clear H1
                obtain rfl := Option.some.inj H
                go_wp2_with (first | ((with_reducible refine gate_callee (f := 11) rfl ?_); refine goesL_ (some 45) rfl rfl Try.func11 (by kernel_rfl) rfl #[.slice A0 l0.length c0] rfl (by (try simp only [List.map_toArray, List.map_cons, List.map_nil]); first | done | rfl | (simp only [List.length_drop, List.length_take]; rfl)) ?_; (with_reducible refine (laws_toIntS.calls kj10 _ _ l0 t348 _ ?side1 ?side2 A24.out).mono ?_); (case side1 => repeat (first | exact (Kd.C_below HR0.out HB.out) | (with_reducible refine Kd.C_alloc ?_ _) | (with_reducible refine Kd.C_drewN ?_ _) | (with_reducible refine Kd.C_drew ?_))); (case side2 => exact HC0.out); rintro e w30 ⟨v349, rfl, ho0, hb⟩; refine ⟨_, rfl, ?_⟩; have n0_ := Aside0.mk (Kd.R_elder' (by (with_reducible repeat (first | apply Kd.R_alloc | apply Kd.R_drewN | apply Kd.R_drew)); exact HO_7.out) (Kd.R_base ho0) hb); have n1_ := Aside0.mk (Kd.R_elder' (by (with_reducible repeat (first | apply Kd.R_alloc | apply Kd.R_drewN | apply Kd.R_drew)); exact HO_8.out) (Kd.R_base ho0) hb); have n2_ := Aside0.mk (Kd.R_lower (Kd.R_new' (Kd.R_new' ho0 (Kd.R_lt (by (with_reducible repeat (first | apply Kd.R_alloc | apply Kd.R_drewN | apply Kd.R_drew)); exact HO_7.out))) (Kd.R_lt (by (with_reducible repeat (first | apply Kd.R_alloc | apply Kd.R_drewN | apply Kd.R_drew)); exact HO_8.out))) (below_size (by repeat (first | (with_reducible first | exact HB.out | apply below_alloc | apply pw_below_drewN | apply below_drew1) | exact HB.out)))); have n3_ := Aside0.mk (below_step (by repeat (first | (with_reducible first | exact HB.out | apply below_alloc | apply pw_below_drewN | apply below_drew1) | exact HB.out)) hb); clear HO_7; clear HO_8; clear HB; have HO_7 := n0_; have HO_8 := n1_; have HO350 := n2_; have HB := n3_; clear n0_ n1_ n2_ n3_; (try clear hb); (try clear hb2); (try clear hk); (try clear hi); (try clear ho0); obtain ⟨Ao31, co31, eo31⟩ := Kd.R_slice HO350.out; subst eo31) | ((with_reducible refine gate_callee (f := 13) rfl ?_); refine goesL_ (some 46) rfl rfl Try.func13 (by kernel_rfl) rfl #[.slice Ao19 t340.length co19, .slice Ao31 t348.length co31] rfl (by (try simp only [List.map_toArray, List.map_cons, List.map_nil]); first | done | rfl | (simp only [List.length_drop, List.length_take]; rfl)) ?_; (with_reducible refine (laws_eqIntS.calls kj10 _ _ t340 _ _ t348 true _ ?side1 ?side2 ?side3 ?side4 A25.out).mono ?_); (case side1 => repeat (first | exact (Kd.R_reads' HO_7.out).2.2 | (with_reducible refine Kd.C_alloc ?_ _) | (with_reducible refine Kd.C_drewN ?_ _) | (with_reducible refine Kd.C_drew ?_))); (case side2 => exact (Kd.R_reads' HO_7.out).2.1); (case side3 => repeat (first | exact (Kd.R_reads' HO350.out).2.2 | (with_reducible refine Kd.C_alloc ?_ _) | (with_reducible refine Kd.C_drewN ?_ _) | (with_reducible refine Kd.C_drew ?_))); (case side4 => exact (Kd.R_reads' HO350.out).2.1); rintro e w' ⟨rfl, ⟨nd, rfl⟩⟩; refine ⟨_, rfl, ?_⟩) | ((with_reducible refine gate_callee (f := 11) rfl ?_); refine goesL_ (some 50) rfl rfl Try.func11 (by kernel_rfl) rfl #[.slice A1 l1.length c1] rfl (by (try simp only [List.map_toArray, List.map_cons, List.map_nil]); first | done | rfl | (simp only [List.length_drop, List.length_take]; rfl)) ?_; (with_reducible refine (laws_toIntS.calls kj10 _ _ l1 t352 _ ?side1 ?side2 A27.out).mono ?_); (case side1 => repeat (first | exact (Kd.C_below HR1.out (by repeat (first | (with_reducible first | exact HB.out | apply below_alloc | apply pw_below_drewN | apply below_drew1) | exact HB.out))) | (with_reducible refine Kd.C_alloc ?_ _) | (with_reducible refine Kd.C_drewN ?_ _) | (with_reducible refine Kd.C_drew ?_))); (case side2 => exact HC1.out); rintro e w32 ⟨v353, rfl, ho0, hb⟩; refine ⟨_, rfl, ?_⟩; have n0_ := Aside0.mk (Kd.R_elder' (by (with_reducible repeat (first | apply Kd.R_alloc | apply Kd.R_drewN | apply Kd.R_drew)); exact HO_7.out) (Kd.R_base ho0) hb); have n1_ := Aside0.mk (Kd.R_elder' (by (with_reducible repeat (first | apply Kd.R_alloc | apply Kd.R_drewN | apply Kd.R_drew)); exact HO_8.out) (Kd.R_base ho0) hb); have n2_ := Aside0.mk (Kd.R_elder' (by (with_reducible repeat (first | apply Kd.R_alloc | apply Kd.R_drewN | apply Kd.R_drew)); exact HO350.out) (Kd.R_base ho0) hb); have n3_ := Aside0.mk (Kd.R_lower (Kd.R_new' (Kd.R_new' (Kd.R_new' ho0 (Kd.R_lt (by (with_reducible repeat (first | apply Kd.R_alloc | apply Kd.R_drewN | apply Kd.R_drew)); exact HO_7.out))) (Kd.R_lt (by (with_reducible repeat (first | apply Kd.R_alloc | apply Kd.R_drewN | apply Kd.R_drew)); exact HO_8.out))) (Kd.R_lt (by (with_reducible repeat (first | apply Kd.R_alloc | apply Kd.R_drewN | apply Kd.R_drew)); exact HO350.out))) (below_size (by repeat (first | (with_reducible first | exact HB.out | apply below_alloc | apply pw_below_drewN | apply below_drew1) | exact HB.out)))); have n4_ := Aside0.mk (below_step (by repeat (first | (with_reducible first | exact HB.out | apply below_alloc | apply pw_below_drewN | apply below_drew1) | exact HB.out)) hb); clear HO_7; clear HO_8; clear HO350; clear HB; have HO_7 := n0_; have HO_8 := n1_; have HO350 := n2_; have HO354 := n3_; have HB := n4_; clear n0_ n1_ n2_ n3_ n4_; (try clear hb); (try clear hb2); (try clear hk); (try clear hi); (try clear ho0); obtain ⟨Ao33, co33, eo33⟩ := Kd.R_slice HO354.out; subst eo33) | ((with_reducible refine gate_callee (f := 13) rfl ?_); refine goesL_ (some 51) rfl rfl Try.func13 (by kernel_rfl) rfl #[.slice Ao20 t343.length co20, .slice Ao33 t352.length co33] rfl (by (try simp only [List.map_toArray, List.map_cons, List.map_nil]); first | done | rfl | (simp only [List.length_drop, List.length_take]; rfl)) ?_; (with_reducible refine (laws_eqIntS.calls kj10 _ _ t343 _ _ t352 true _ ?side1 ?side2 ?side3 ?side4 A28.out).mono ?_); (case side1 => repeat (first | exact (Kd.R_reads' HO_8.out).2.2 | (with_reducible refine Kd.C_alloc ?_ _) | (with_reducible refine Kd.C_drewN ?_ _) | (with_reducible refine Kd.C_drew ?_))); (case side2 => exact (Kd.R_reads' HO_8.out).2.1); (case side3 => repeat (first | exact (Kd.R_reads' HO354.out).2.2 | (with_reducible refine Kd.C_alloc ?_ _) | (with_reducible refine Kd.C_drewN ?_ _) | (with_reducible refine Kd.C_drew ?_))); (case side4 => exact (Kd.R_reads' HO354.out).2.1); rintro e w' ⟨rfl, ⟨nd, rfl⟩⟩; refine ⟨_, rfl, ?_⟩))
                go_ret
                exact ⟨by first | rfl | (simp [errW_none, errW_some] <;> rfl) | (simp [*, errW_none, errW_some] <;> rfl), by repeat (first | (with_reducible first | exact HB.out | apply below_alloc | apply pw_below_drewN | apply below_drew1) | exact HB.out)⟩
              · replace c29 := Bool.eq_false_iff.mpr c29
                subst c29
                have H1 : (some false) = some r := by rw [if_neg (show ¬ (false = true) by decide)] at H; exact H
                clear H
                have H := H1
                clear H1
                obtain rfl := Option.some.inj H
                go_wp2_with (first | ((with_reducible refine gate_callee (f := 11) rfl ?_); refine goesL_ (some 45) rfl rfl Try.func11 (by kernel_rfl) rfl #[.slice A0 l0.length c0] rfl (by (try simp only [List.map_toArray, List.map_cons, List.map_nil]); first | done | rfl | (simp only [List.length_drop, List.length_take]; rfl)) ?_; (with_reducible refine (laws_toIntS.calls kj10 _ _ l0 t348 _ ?side1 ?side2 A24.out).mono ?_); (case side1 => repeat (first | exact (Kd.C_below HR0.out HB.out) | (with_reducible refine Kd.C_alloc ?_ _) | (with_reducible refine Kd.C_drewN ?_ _) | (with_reducible refine Kd.C_drew ?_))); (case side2 => exact HC0.out); rintro e w34 ⟨v349, rfl, ho0, hb⟩; refine ⟨_, rfl, ?_⟩; have n0_ := Aside0.mk (Kd.R_elder' (by (with_reducible repeat (first | apply Kd.R_alloc | apply Kd.R_drewN | apply Kd.R_drew)); exact HO_7.out) (Kd.R_base ho0) hb); have n1_ := Aside0.mk (Kd.R_elder' (by (with_reducible repeat (first | apply Kd.R_alloc | apply Kd.R_drewN | apply Kd.R_drew)); exact HO_8.out) (Kd.R_base ho0) hb); have n2_ := Aside0.mk (Kd.R_lower (Kd.R_new' (Kd.R_new' ho0 (Kd.R_lt (by (with_reducible repeat (first | apply Kd.R_alloc | apply Kd.R_drewN | apply Kd.R_drew)); exact HO_7.out))) (Kd.R_lt (by (with_reducible repeat (first | apply Kd.R_alloc | apply Kd.R_drewN | apply Kd.R_drew)); exact HO_8.out))) (below_size (by repeat (first | (with_reducible first | exact HB.out | apply below_alloc | apply pw_below_drewN | apply below_drew1) | exact HB.out)))); have n3_ := Aside0.mk (below_step (by repeat (first | (with_reducible first | exact HB.out | apply below_alloc | apply pw_below_drewN | apply below_drew1) | exact HB.out)) hb); clear HO_7; clear HO_8; clear HB; have HO_7 := n0_; have HO_8 := n1_; have HO350 := n2_; have HB := n3_; clear n0_ n1_ n2_ n3_; (try clear hb); (try clear hb2); (try clear hk); (try clear hi); (try clear ho0); obtain ⟨Ao35, co35, eo35⟩ := Kd.R_slice HO350.out; subst eo35) | ((with_reducible refine gate_callee (f := 13) rfl ?_); refine goesL_ (some 46) rfl rfl Try.func13 (by kernel_rfl) rfl #[.slice Ao19 t340.length co19, .slice Ao35 t348.length co35] rfl (by (try simp only [List.map_toArray, List.map_cons, List.map_nil]); first | done | rfl | (simp only [List.length_drop, List.length_take]; rfl)) ?_; (with_reducible refine (laws_eqIntS.calls kj10 _ _ t340 _ _ t348 true _ ?side1 ?side2 ?side3 ?side4 A25.out).mono ?_); (case side1 => repeat (first | exact (Kd.R_reads' HO_7.out).2.2 | (with_reducible refine Kd.C_alloc ?_ _) | (with_reducible refine Kd.C_drewN ?_ _) | (with_reducible refine Kd.C_drew ?_))); (case side2 => exact (Kd.R_reads' HO_7.out).2.1); (case side3 => repeat (first | exact (Kd.R_reads' HO350.out).2.2 | (with_reducible refine Kd.C_alloc ?_ _) | (with_reducible refine Kd.C_drewN ?_ _) | (with_reducible refine Kd.C_drew ?_))); (case side4 => exact (Kd.R_reads' HO350.out).2.1); rintro e w' ⟨rfl, ⟨nd, rfl⟩⟩; refine ⟨_, rfl, ?_⟩) | ((with_reducible refine gate_callee (f := 11) rfl ?_); refine goesL_ (some 50) rfl rfl Try.func11 (by kernel_rfl) rfl #[.slice A1 l1.length c1] rfl (by (try simp only [List.map_toArray, List.map_cons, List.map_nil]); first | done | rfl | (simp only [List.length_drop, List.length_take]; rfl)) ?_; (with_reducible refine (laws_toIntS.calls kj10 _ _ l1 t352 _ ?side1 ?side2 A27.out).mono ?_); (case side1 => repeat (first | exact (Kd.C_below HR1.out (by repeat (first | (with_reducible first | exact HB.out | apply below_alloc | apply pw_below_drewN | apply below_drew1) | exact HB.out))) | (with_reducible refine Kd.C_alloc ?_ _) | (with_reducible refine Kd.C_drewN ?_ _) | (with_reducible refine Kd.C_drew ?_))); (case side2 => exact HC1.out); rintro e w36 ⟨v353, rfl, ho0, hb⟩; refine ⟨_, rfl, ?_⟩; have n0_ := Aside0.mk (Kd.R_elder' (by (with_reducible repeat (first | apply Kd.R_alloc | apply Kd.R_drewN | apply Kd.R_drew)); exact HO_7.out) (Kd.R_base ho0) hb); have n1_ := Aside0.mk (Kd.R_elder' (by (with_reducible repeat (first | apply Kd.R_alloc | apply Kd.R_drewN | apply Kd.R_drew)); exact HO_8.out) (Kd.R_base ho0) hb); have n2_ := Aside0.mk (Kd.R_elder' (by (with_reducible repeat (first | apply Kd.R_alloc | apply Kd.R_drewN | apply Kd.R_drew)); exact HO350.out) (Kd.R_base ho0) hb); have n3_ := Aside0.mk (Kd.R_lower (Kd.R_new' (Kd.R_new' (Kd.R_new' ho0 (Kd.R_lt (by (with_reducible repeat (first | apply Kd.R_alloc | apply Kd.R_drewN | apply Kd.R_drew)); exact HO_7.out))) (Kd.R_lt (by (with_reducible repeat (first | apply Kd.R_alloc | apply Kd.R_drewN | apply Kd.R_drew)); exact HO_8.out))) (Kd.R_lt (by (with_reducible repeat (first | apply Kd.R_alloc | apply Kd.R_drewN | apply Kd.R_drew)); exact HO350.out))) (below_size (by repeat (first | (with_reducible first | exact HB.out | apply below_alloc | apply pw_below_drewN | apply below_drew1) | exact HB.out)))); have n4_ := Aside0.mk (below_step (by repeat (first | (with_reducible first | exact HB.out | apply below_alloc | apply pw_below_drewN | apply below_drew1) | exact HB.out)) hb); clear HO_7; clear HO_8; clear HO350; clear HB; have HO_7 := n0_; have HO_8 := n1_; have HO350 := n2_; have HO354 := n3_; have HB := n4_; clear n0_ n1_ n2_ n3_ n4_; (try clear hb); (try clear hb2); (try clear hk); (try clear hi); (try clear ho0); obtain ⟨Ao37, co37, eo37⟩ := Kd.R_slice HO354.out; subst eo37) | ((with_reducible refine gate_callee (f := 13) rfl ?_); refine goesL_ (some 51) rfl rfl Try.func13 (by kernel_rfl) rfl #[.slice Ao20 t343.length co20, .slice Ao37 t352.length co37] rfl (by (try simp only [List.map_toArray, List.map_cons, List.map_nil]); first | done | rfl | (simp only [List.length_drop, List.length_take]; rfl)) ?_; (with_reducible refine (laws_eqIntS.calls kj10 _ _ t343 _ _ t352 false _ ?side1 ?side2 ?side3 ?side4 A28.out).mono ?_); (case side1 => repeat (first | exact (Kd.R_reads' HO_8.out).2.2 | (with_reducible refine Kd.C_alloc ?_ _) | (with_reducible refine Kd.C_drewN ?_ _) | (with_reducible refine Kd.C_drew ?_))); (case side2 => exact (Kd.R_reads' HO_8.out).2.1); (case side3 => repeat (first | exact (Kd.R_reads' HO354.out).2.2 | (with_reducible refine Kd.C_alloc ?_ _) | (with_reducible refine Kd.C_drewN ?_ _) | (with_reducible refine Kd.C_drew ?_))); (case side4 => exact (Kd.R_reads' HO354.out).2.1); rintro e w' ⟨rfl, ⟨nd, rfl⟩⟩; refine ⟨_, rfl, ?_⟩))
                go_ret
                exact ⟨by first | rfl | (simp [errW_none, errW_some] <;> rfl) | (simp [*, errW_none, errW_some] <;> rfl), by repeat (first | (with_reducible first | exact HB.out | apply below_alloc | apply pw_below_drewN | apply below_drew1) | exact HB.out)⟩
            · replace c26 := Bool.eq_false_iff.mpr c26
              subst c26
              have H1 : (some false) = some r := by rw [if_neg (show ¬ (false = true) by decide)] at H; exact H
              clear H
              have H := H1
              clear H1
              obtain rfl := Option.some.inj H
              go_wp2_with (first | ((with_reducible refine gate_callee (f := 11) rfl ?_); refine goesL_ (some 45) rfl rfl Try.func11 (by kernel_rfl) rfl #[.slice A0 l0.length c0] rfl (by (try simp only [List.map_toArray, List.map_cons, List.map_nil]); first | done | rfl | (simp only [List.length_drop, List.length_take]; rfl)) ?_; (with_reducible refine (laws_toIntS.calls kj10 _ _ l0 t348 _ ?side1 ?side2 A24.out).mono ?_); (case side1 => repeat (first | exact (Kd.C_below HR0.out HB.out) | (with_reducible refine Kd.C_alloc ?_ _) | (with_reducible refine Kd.C_drewN ?_ _) | (with_reducible refine Kd.C_drew ?_))); (case side2 => exact HC0.out); rintro e w38 ⟨v349, rfl, ho0, hb⟩; refine ⟨_, rfl, ?_⟩; have n0_ := Aside0.mk (Kd.R_elder' (by (with_reducible repeat (first | apply Kd.R_alloc | apply Kd.R_drewN | apply Kd.R_drew)); exact HO_7.out) (Kd.R_base ho0) hb); have n1_ := Aside0.mk (Kd.R_elder' (by (with_reducible repeat (first | apply Kd.R_alloc | apply Kd.R_drewN | apply Kd.R_drew)); exact HO_8.out) (Kd.R_base ho0) hb); have n2_ := Aside0.mk (Kd.R_lower (Kd.R_new' (Kd.R_new' ho0 (Kd.R_lt (by (with_reducible repeat (first | apply Kd.R_alloc | apply Kd.R_drewN | apply Kd.R_drew)); exact HO_7.out))) (Kd.R_lt (by (with_reducible repeat (first | apply Kd.R_alloc | apply Kd.R_drewN | apply Kd.R_drew)); exact HO_8.out))) (below_size (by repeat (first | (with_reducible first | exact HB.out | apply below_alloc | apply pw_below_drewN | apply below_drew1) | exact HB.out)))); have n3_ := Aside0.mk (below_step (by repeat (first | (with_reducible first | exact HB.out | apply below_alloc | apply pw_below_drewN | apply below_drew1) | exact HB.out)) hb); clear HO_7; clear HO_8; clear HB; have HO_7 := n0_; have HO_8 := n1_; have HO350 := n2_; have HB := n3_; clear n0_ n1_ n2_ n3_; (try clear hb); (try clear hb2); (try clear hk); (try clear hi); (try clear ho0); obtain ⟨Ao39, co39, eo39⟩ := Kd.R_slice HO350.out; subst eo39) | ((with_reducible refine gate_callee (f := 13) rfl ?_); refine goesL_ (some 46) rfl rfl Try.func13 (by kernel_rfl) rfl #[.slice Ao19 t340.length co19, .slice Ao39 t348.length co39] rfl (by (try simp only [List.map_toArray, List.map_cons, List.map_nil]); first | done | rfl | (simp only [List.length_drop, List.length_take]; rfl)) ?_; (with_reducible refine (laws_eqIntS.calls kj10 _ _ t340 _ _ t348 false _ ?side1 ?side2 ?side3 ?side4 A25.out).mono ?_); (case side1 => repeat (first | exact (Kd.R_reads' HO_7.out).2.2 | (with_reducible refine Kd.C_alloc ?_ _) | (with_reducible refine Kd.C_drewN ?_ _) | (with_reducible refine Kd.C_drew ?_))); (case side2 => exact (Kd.R_reads' HO_7.out).2.1); (case side3 => repeat (first | exact (Kd.R_reads' HO350.out).2.2 | (with_reducible refine Kd.C_alloc ?_ _) | (with_reducible refine Kd.C_drewN ?_ _) | (with_reducible refine Kd.C_drew ?_))); (case side4 => exact (Kd.R_reads' HO350.out).2.1); rintro e w' ⟨rfl, ⟨nd, rfl⟩⟩; refine ⟨_, rfl, ?_⟩))
              go_ret
              exact ⟨by first | rfl | (simp [errW_none, errW_some] <;> rfl) | (simp [*, errW_none, errW_some] <;> rfl), by repeat (first | (with_reducible first | exact HB.out | apply below_alloc | apply pw_below_drewN | apply below_drew1) | exact HB.out)⟩

/-- THE ONE PURE STATEMENT of laws_FnExactGiftsBetween: yours. -/
def laws_FnExactGiftsBetween.Pure : Prop := ∀ (l0 : List Int) (l1 : List Int), l0.length ≤ maxLen → l0.length * 8 ≤ 140737488351232 → (∀ x ∈ l0, (Lit.int .i64 x).wf = true) → l1.length ≤ maxLen → l1.length * 8 ≤ 140737488351232 → (∀ x ∈ l1, (Lit.int .i64 x).wf = true) → ∃ k, laws_FnExactGiftsBetween.f k l0 l1 = some true
theorem laws_FnExactGiftsBetween.walk (P : laws_FnExactGiftsBetween.Pure) (a0 : Option Addr) (len0 cap0 : Nat) (z0 : List Int) (a1 : Option Addr) (len1 cap1 : Nat) (z1 : List Int) (w : World) (w0 : (a0 = none ∧ len0 = 0 ∧ cap0 = 0 ∧ z0 = []) ∨ ∃ x, a0 = some x ∧ len0 ≤ cap0 ∧ cap0 ≤ maxLen ∧ z0.length = cap0 ∧ (∀ i, i < z0.length → w.cell? (x.add i) = some (.int .i64 (z0.getD i 0))) ∧ ∀ n ∈ z0, (Lit.int .i64 n).wf = true) (y0 : len0 * 8 ≤ 140737488351232) (w1 : (a1 = none ∧ len1 = 0 ∧ cap1 = 0 ∧ z1 = []) ∨ ∃ x, a1 = some x ∧ len1 ≤ cap1 ∧ cap1 ≤ maxLen ∧ z1.length = cap1 ∧ (∀ i, i < z1.length → w.cell? (x.add i) = some (.int .i64 (z1.getD i 0))) ∧ ∀ n ∈ z1, (Lit.int .i64 n).wf = true) (y1 : len1 * 8 ≤ 140737488351232) :
    Calls Try.prog 4 #[.slice a0 len0 cap0, .slice a1 len1 cap1] w fun e w' => e = .returned (.bool true) ∧ Below w.heap.size w w' := by
  obtain ⟨l0, rfl, hr0, hm0, hw0, hc0⟩ := ReadsInt.ofRowC w0
  obtain ⟨l1, rfl, hr1, hm1, hw1, hc1⟩ := ReadsInt.ofRowC w1
  obtain ⟨k, h⟩ := P l0 l1 hm0 y0 hw0 hm1 y1 hw1
  refine (laws_FnExactGiftsBetween.calls k _ _ l0 _ _ l1 true w (Kd.C_of_reads (d := (0 : Int)) (h1 := fun _ => rfl) hr0) hc0 (Kd.C_of_reads (d := (0 : Int)) (h1 := fun _ => rfl) hr1) hc1 h).mono ?_
  rintro e w' ⟨rfl, hd⟩
  exact ⟨rfl, hd⟩

end Go.Proofs.Ytkpojaooolefjaa.A

namespace Go.Proofs.Ytkpojaooolefjaa.A
open Go.RowKit Go.Proofs.YtkpojaooolefjaaW.PrintWords Go.Proofs.YtkpojaooolefjaaW.PrintLast Go.Proofs.YtkpojaooolefjaaW.PrintMore
set_option linter.unusedVariables false
set_option linter.unusedSimpArgs false
/-! plain lemmas that all pure texts lean on -/
theorem w64 {x : Int} (h1 : -9223372036854775808 ≤ x) (h2 : x ≤ 9223372036854775807) : wrap64 x = x := by
  unfold wrap64
  omega
theorem wsucc {i : Nat} {n : Nat} (h : i < n) (hn : n ≤ 9223372036854775807) : wrap64 ((i : Int) + 1) = ((i + 1 : Nat) : Int) := by
  rw [w64 (by omega) (by omega)]
  omega
theorem rdn {xs : List Int} {i : Nat} (h : i < xs.length) : rd xs (i : Int) = xs[i] := by
  simp [rd, h]
theorem Ev.succ {α : Type} {g : Nat → Option α} {r : α} (h : Ev (fun k => g (k + 1)) r) : Ev g r := Ev.step (fun _ => rfl) h
theorem Ev.get {α : Type} {g : Nat → Option α} {r : α} (h : Ev g r) : ∃ k, g k = some r := Ev.rounds h
theorem Ev.ite {α : Type} {c : Prop} [Decidable c] {g f : Nat → Option α} {r s : α} (h : c → Ev g r) (h' : ¬ c → Ev f s) : Ev (fun k => if c then g k else f k) (if c then r else s) := by
  by_cases hc : c
  · simp only [hc, if_true]
    exact h hc
  · simp only [hc, if_false]
    exact h' hc
theorem Ev.bindEq {α β : Type} {g : Nat → Option α} {f : Nat → α → Option β} {a : α} {r : β} (h : Ev g a) (k : Ev (fun n => f n a) r) : Ev (fun n => (g n).bind (f n)) r := Ev.bind h k
/-- A loop over the elements of a list that is left early. -/
theorem ev_all {xs : List Int} {g : Nat → Int → Option Bool} (p : Int → Bool) (hend : Ev (fun k => g k (xs.length : Int)) true)
    (hyes : ∀ (i : Nat) (h : i < xs.length) r, p xs[i] = true → Ev (fun k => g k ((i + 1 : Nat) : Int)) r → Ev (fun k => g k (i : Int)) r)
    (hno : ∀ (i : Nat) (h : i < xs.length), p xs[i] = false → Ev (fun k => g k (i : Int)) false) :
    ∀ (n i : Nat), i + n = xs.length → Ev (fun k => g k (i : Int)) ((xs.drop i).all p)
  | 0, i, h => by
    rw [List.drop_eq_nil_of_le (by omega), show i = xs.length by omega]
    exact hend
  | n + 1, i, h => by
    have hi : i < xs.length := by omega
    rw [List.drop_eq_getElem_cons hi, List.all_cons]
    cases hp : p xs[i]
    · exact hno i hi hp
    · rw [Bool.true_and]
      exact hyes i hi _ hp (ev_all p hend hyes hno n (i + 1) (by omega))
/-- A loop over the elements of a list that carries a state. -/
theorem ev_fold {σ ρ : Type} {xs : List Int} {g : Nat → σ → Int → Option ρ} (step : σ → Int → σ) (I : σ → Nat → Prop) (fin : σ → ρ)
    (hend : ∀ s, I s xs.length → Ev (fun k => g k s (xs.length : Int)) (fin s))
    (hstep : ∀ (i : Nat) (h : i < xs.length) s r, I s i → I (step s xs[i]) (i + 1) → Ev (fun k => g k (step s xs[i]) ((i + 1 : Nat) : Int)) r → Ev (fun k => g k s (i : Int)) r)
    (hI : ∀ (i : Nat) (h : i < xs.length) s, I s i → I (step s xs[i]) (i + 1)) :
    ∀ (n i : Nat) (s : σ), i + n = xs.length → I s i → Ev (fun k => g k s (i : Int)) (fin ((xs.drop i).foldl step s))
  | 0, i, s, h, hs => by
    have e : i = xs.length := by omega
    subst e
    rw [List.drop_eq_nil_of_le (by omega)]
    exact hend s hs
  | n + 1, i, s, h, hs => by
    have hi : i < xs.length := by omega
    rw [List.drop_eq_getElem_cons hi, List.foldl_cons]
    exact hstep i hi s _ hs (hI i hi s hs) (ev_fold step I fin hend hstep hI n (i + 1) _ (by omega) (hI i hi s hs))
def okRow (l : List Int) : Prop := l.length ≤ 140737488355328
def big (n : Nat) : Prop := n ≤ 9223372036854775807
/-- A loop that builds a list, one element a round. -/
theorem ev_build {α ρ : Type} {g : Nat → List α → Int → Option ρ} (L : List α) (fin : ρ) (hend : Ev (fun k => g k L (L.length : Int)) fin)
    (hstep : ∀ (i : Nat) (h : i < L.length) r, Ev (fun k => g k (L.take i ++ [L[i]]) ((i + 1 : Nat) : Int)) r → Ev (fun k => g k (L.take i) (i : Int)) r) :
    ∀ (n i : Nat), i + n = L.length → Ev (fun k => g k (L.take i) (i : Int)) fin
  | 0, i, h => by
    have e : i = L.length := by omega
    subst e
    rw [List.take_of_length_le (Nat.le_refl _)]
    exact hend
  | n + 1, i, h => by
    have hi : i < L.length := by omega
    refine hstep i hi _ ?_
    rw [← List.take_succ_eq_append_getElem hi]
    exact ev_build L fin hend hstep n (i + 1) (by omega)
theorem wf_bd {a : Int} (h : (Lit.int .i64 a).wf = true) : -9223372036854775808 ≤ a ∧ a ≤ 9223372036854775807 := by
  simp only [Lit.wf, Bool.and_eq_true, decide_eq_true_eq] at h
  exact ⟨h.1, h.2⟩
theorem rdi {xs : List Int} {i : Int} (h0 : 0 ≤ i) (h1 : i < xs.length) : rd xs i = xs[i.toNat]'(by omega) := by
  unfold rd
  rw [List.getD_eq_getElem?_getD, List.getElem?_eq_getElem (by omega)]
  rfl
end Go.Proofs.Ytkpojaooolefjaa.A

-- made by a program of this repo (wip/pp.py) through the kit's printer
namespace Go.Proofs.Ytkpojaooolefjaa.A
open Go.RowKit Go.Proofs.YtkpojaooolefjaaW.PrintWords Go.Proofs.YtkpojaooolefjaaW.PrintLast Go.Proofs.YtkpojaooolefjaaW.PrintMore
attribute [local go_sem] max2_int min2_int max_two min_two max_three min_three max_four min_four
set_option linter.unusedVariables false
set_option linter.unusedSimpArgs false

/-! ### laws_toGift: function 51 -/
def laws_toGift.f (a0_0 : Int) (a0_1 : Int) (a0_2 : Int) : Option (Int × Int × Int) := some (a0_0, a0_1, a0_2)
set_option maxHeartbeats 8000000 in
set_option maxRecDepth 100000 in
theorem laws_toGift.calls (a0_0 : Int) (a0_1 : Int) (a0_2 : Int) (r1 : Int) (r2 : Int) (r3 : Int) (w : World) (h : laws_toGift.f a0_0 a0_1 a0_2 = some (r1, r2, r3)) :
    Calls Try.prog 51 #[.agg #[.int .i64 a0_0, .int .i64 a0_1, .int .i64 a0_2]] w fun e w' => e = .returned (.agg #[.int .i64 r1, .int .i64 r2, .int .i64 r3]) ∧ Below w.heap.size w w' := by
  have hu55 := Try.underlying55
  have hu49 := Try.underlying49
  have HB := Aside0.mk (Below.refl w.heap.size w)
  have H : (some (a0_0, a0_1, a0_2)) = some (r1, r2, r3) := h
  clear h
  simp only [Option.some.injEq, Prod.mk.injEq] at H
  obtain ⟨rfl, rfl, rfl⟩ := H
  go_enter Try.func51, Try.ntmps51
  go_wp2_with (first | ((with_reducible refine gate_dst (N := 1) rfl ?_); refine box_event ?hg (N := 1) ?hd (cs := #[.int .i64 a0_0, .int .i64 a0_1, .int .i64 a0_2]) (t := 55) ?hr ?_; (case hd => rfl); (case hg => rfl); (case hr => first | (go_simp; done) | (go_simp; rfl)); intro gb383 hg w2 hbox hb; have n0_ := Aside0.mk (below_step (by repeat (first | (with_reducible first | exact HB.out | apply below_alloc | apply pw_below_drewN | apply below_drew1) | exact HB.out)) hb); have n1_ := Aside0.mk (hbox); have n2_ := Aside0.mk ((by rw [hg]; exact (below_size (by repeat (first | (with_reducible first | exact HB.out | apply below_alloc | apply pw_below_drewN | apply below_drew1) | exact HB.out))) : w.heap.size ≤ gb383)); have n3_ := Aside0.mk ((by rw [hg]; exact (below_size (by repeat (first | (with_reducible first | exact HB.out | apply below_alloc | apply pw_below_drewN | apply below_drew1) | exact HB.out))) : w.heap.size ≤ gb383)); clear HB; have HB := n0_; have BK383 := n1_; have GW383 := n2_; have GE383 := n3_; clear n0_ n1_ n2_ n3_; clear hb hbox hg) | ((with_reducible refine gate_dst (N := 2) rfl ?_); refine box_event ?hg (N := 2) ?hd (cs := #[.int .i64 0, .int .i64 0, .int .i64 0]) (t := 49) ?hr ?_; (case hd => rfl); (case hg => rfl); (case hr => first | (go_simp; done) | (go_simp; rfl)); intro gb384 hg w3 hbox hb; have n0_ := Aside0.mk (blk_below (g := gb383) (o := .cells #[.int .i64 a0_0, .int .i64 a0_1, .int .i64 a0_2] 55 (0, 0)) (by (with_reducible repeat (first | refine blk_drewN ?_ _ | refine blk_drew ?_ | refine blk_alloc ?_ _)); exact BK383.out) hb); have n1_ := Aside0.mk (below_step (by repeat (first | (with_reducible first | exact HB.out | apply below_alloc | apply pw_below_drewN | apply below_drew1 | refine below_set ?_ GE383.out) | exact HB.out)) hb); have n2_ := Aside0.mk (hbox); have n3_ := Aside0.mk ((by rw [hg]; exact (below_size (by repeat (first | (with_reducible first | exact HB.out | apply below_alloc | apply pw_below_drewN | apply below_drew1 | refine below_set ?_ GE383.out) | exact HB.out))) : w.heap.size ≤ gb384)); have n4_ := Aside0.mk ((by rw [hg]; exact (below_size (by repeat (first | (with_reducible first | exact HB.out | apply below_alloc | apply pw_below_drewN | apply below_drew1 | refine below_set ?_ GE383.out) | exact HB.out))) : w.heap.size ≤ gb384)); have n5_ := Aside0.mk ((by rw [hg]; exact Nat.ne_of_lt (blk_lt (g := gb383) (o := .cells #[.int .i64 a0_0, .int .i64 a0_1, .int .i64 a0_2] 55 (0, 0)) (by (with_reducible repeat (first | refine blk_drewN ?_ _ | refine blk_drew ?_ | refine blk_alloc ?_ _)); exact BK383.out)) : gb383 ≠ gb384)); have n6_ := Aside0.mk ((by rw [hg]; exact Nat.ne_of_gt (blk_lt (g := gb383) (o := .cells #[.int .i64 a0_0, .int .i64 a0_1, .int .i64 a0_2] 55 (0, 0)) (by (with_reducible repeat (first | refine blk_drewN ?_ _ | refine blk_drew ?_ | refine blk_alloc ?_ _)); exact BK383.out)) : gb384 ≠ gb383)); clear BK383; clear HB; have BK383 := n0_; have HB := n1_; have BK384 := n2_; have GW384 := n3_; have GE384 := n4_; have NB383_384 := n5_; have NB384_383 := n6_; clear n0_ n1_ n2_ n3_ n4_ n5_ n6_; clear hb hbox hg) | ((with_reducible refine gate_dst (N := 3) rfl ?_); refine box_event ?hg (N := 3) ?hd (cs := #[.int .i64 0, .int .i64 0, .int .i64 0]) (t := 49) ?hr ?_; (case hd => rfl); (case hg => rfl); (case hr => first | (go_simp; done) | (go_simp; rfl)); intro gb385 hg w4 hbox hb; have n0_ := Aside0.mk (blk_below (g := gb383) (o := .cells #[.int .i64 a0_0, .int .i64 a0_1, .int .i64 a0_2] 55 (0, 0)) (by (with_reducible repeat (first | refine blk_drewN ?_ _ | refine blk_drew ?_ | refine blk_alloc ?_ _)); exact BK383.out) hb); have n1_ := Aside0.mk (blk_below (g := gb384) (o := .cells #[.int .i64 0, .int .i64 0, .int .i64 0] 49 (0, 0)) (by (with_reducible repeat (first | refine blk_drewN ?_ _ | refine blk_drew ?_ | refine blk_alloc ?_ _)); exact BK384.out) hb); have n2_ := Aside0.mk (below_step (by repeat (first | (with_reducible first | exact HB.out | apply below_alloc | apply pw_below_drewN | apply below_drew1 | refine below_set ?_ GE383.out | refine below_set ?_ GE384.out) | exact HB.out)) hb); have n3_ := Aside0.mk (hbox); have n4_ := Aside0.mk ((by rw [hg]; exact (below_size (by repeat (first | (with_reducible first | exact HB.out | apply below_alloc | apply pw_below_drewN | apply below_drew1 | refine below_set ?_ GE383.out | refine below_set ?_ GE384.out) | exact HB.out))) : w.heap.size ≤ gb385)); have n5_ := Aside0.mk ((by rw [hg]; exact (below_size (by repeat (first | (with_reducible first | exact HB.out | apply below_alloc | apply pw_below_drewN | apply below_drew1 | refine below_set ?_ GE383.out | refine below_set ?_ GE384.out) | exact HB.out))) : w.heap.size ≤ gb385)); have n6_ := Aside0.mk ((by rw [hg]; exact Nat.ne_of_lt (blk_lt (g := gb383) (o := .cells #[.int .i64 a0_0, .int .i64 a0_1, .int .i64 a0_2] 55 (0, 0)) (by (with_reducible repeat (first | refine blk_drewN ?_ _ | refine blk_drew ?_ | refine blk_alloc ?_ _)); exact BK383.out)) : gb383 ≠ gb385)); have n7_ := Aside0.mk ((by rw [hg]; exact Nat.ne_of_gt (blk_lt (g := gb383) (o := .cells #[.int .i64 a0_0, .int .i64 a0_1, .int .i64 a0_2] 55 (0, 0)) (by (with_reducible repeat (first | refine blk_drewN ?_ _ | refine blk_drew ?_ | refine blk_alloc ?_ _)); exact BK383.out)) : gb385 ≠ gb383)); have n8_ := Aside0.mk ((by rw [hg]; exact Nat.ne_of_lt (blk_lt (g := gb384) (o := .cells #[.int .i64 0, .int .i64 0, .int .i64 0] 49 (0, 0)) (by (with_reducible repeat (first | refine blk_drewN ?_ _ | refine blk_drew ?_ | refine blk_alloc ?_ _)); exact BK384.out)) : gb384 ≠ gb385)); have n9_ := Aside0.mk ((by rw [hg]; exact Nat.ne_of_gt (blk_lt (g := gb384) (o := .cells #[.int .i64 0, .int .i64 0, .int .i64 0] 49 (0, 0)) (by (with_reducible repeat (first | refine blk_drewN ?_ _ | refine blk_drew ?_ | refine blk_alloc ?_ _)); exact BK384.out)) : gb385 ≠ gb384)); clear BK383; clear BK384; clear HB; have BK383 := n0_; have BK384 := n1_; have HB := n2_; have BK385 := n3_; have GW385 := n4_; have GE385 := n5_; have NB383_385 := n6_; have NB385_383 := n7_; have NB384_385 := n8_; have NB385_384 := n9_; clear n0_ n1_ n2_ n3_ n4_ n5_ n6_ n7_ n8_ n9_; clear hb hbox hg; have hnb5 := NB383_384.out; have hnc5 := NB384_383.out; have hnb6 := NB383_385.out; have hnc6 := NB385_383.out; have hcz7_0 : w4.cell? ⟨gb383, 0, none⟩ = some (.int .i64 a0_0) := (blk_cell BK383.out 0).trans rfl; have hcz7_1 : w4.cell? ⟨gb383, 1, none⟩ = some (.int .i64 a0_1) := (blk_cell BK383.out 1).trans rfl; have hcz7_2 : w4.cell? ⟨gb383, 2, none⟩ = some (.int .i64 a0_2) := (blk_cell BK383.out 2).trans rfl; have hfz7_0 := blk_frozen BK383.out 0; have hfz7_1 := blk_frozen BK383.out 1; have hfz7_2 := blk_frozen BK383.out 2; have hnb8 := NB385_384.out; have hnc8 := NB384_385.out; have hcz9_0 : w4.cell? ⟨gb385, 0, none⟩ = some (.int .i64 0) := (blk_cell BK385.out 0).trans rfl; have hcz9_1 : w4.cell? ⟨gb385, 1, none⟩ = some (.int .i64 0) := (blk_cell BK385.out 1).trans rfl; have hcz9_2 : w4.cell? ⟨gb385, 2, none⟩ = some (.int .i64 0) := (blk_cell BK385.out 2).trans rfl; have hfz9_0 := blk_frozen BK385.out 0; have hfz9_1 := blk_frozen BK385.out 1; have hfz9_2 := blk_frozen BK385.out 2; have hcz10_0 : w4.cell? ⟨gb384, 0, none⟩ = some (.int .i64 0) := (blk_cell BK384.out 0).trans rfl; have hcz10_1 : w4.cell? ⟨gb384, 1, none⟩ = some (.int .i64 0) := (blk_cell BK384.out 1).trans rfl; have hcz10_2 : w4.cell? ⟨gb384, 2, none⟩ = some (.int .i64 0) := (blk_cell BK384.out 2).trans rfl; have hfz10_0 := blk_frozen BK384.out 0; have hfz10_1 := blk_frozen BK384.out 1; have hfz10_2 := blk_frozen BK384.out 2))
  refine bodyPost_ret (results_cell_row rfl _ _ gb384 49 #[.int .i64 a0_0, .int .i64 a0_1, .int .i64 a0_2] (0, 0) _ rfl (by (with_reducible repeat (first | refine blk_drewN ?_ _ | refine blk_drew ?_ | refine blk_alloc ?_ _)); refine blk_put (cs := #[.int .i64 a0_0, .int .i64 a0_1, .int .i64 0]) ?_ 2 _ rfl; (with_reducible repeat (first | refine blk_drewN ?_ _ | refine blk_drew ?_ | refine blk_alloc ?_ _)); refine blk_put (cs := #[.int .i64 a0_0, .int .i64 0, .int .i64 0]) ?_ 1 _ rfl; (with_reducible repeat (first | refine blk_drewN ?_ _ | refine blk_drew ?_ | refine blk_alloc ?_ _)); refine blk_put (cs := #[.int .i64 0, .int .i64 0, .int .i64 0]) ?_ 0 _ rfl; (with_reducible repeat (first | refine blk_drewN ?_ _ | refine blk_drew ?_ | refine blk_alloc ?_ _)); refine blk_far ?_ NB384_385.out _; (with_reducible repeat (first | refine blk_drewN ?_ _ | refine blk_drew ?_ | refine blk_alloc ?_ _)); refine blk_far ?_ NB384_385.out _; (with_reducible repeat (first | refine blk_drewN ?_ _ | refine blk_drew ?_ | refine blk_alloc ?_ _)); refine blk_far ?_ NB384_385.out _; (with_reducible repeat (first | refine blk_drewN ?_ _ | refine blk_drew ?_ | refine blk_alloc ?_ _)); exact BK384.out) Try.underlying49 rfl (by kernel_rfl)) rfl ?_
  exact ⟨by first | rfl | (simp [errW_none, errW_some] <;> rfl) | (simp [*, errW_none, errW_some] <;> rfl), by repeat (first | (with_reducible first | exact HB.out | apply below_alloc | apply pw_below_drewN | apply below_drew1 | refine below_set ?_ GE383.out | refine below_set ?_ GE384.out | refine below_set ?_ GE385.out) | exact HB.out)⟩

end Go.Proofs.Ytkpojaooolefjaa.A

namespace Go.Proofs.Ytkpojaooolefjaa.A
open Go.RowKit Go.Proofs.YtkpojaooolefjaaW.PrintWords Go.Proofs.YtkpojaooolefjaaW.PrintLast Go.Proofs.YtkpojaooolefjaaW.PrintMore
set_option linter.unusedVariables false
set_option linter.unusedSimpArgs false
theorem l1In_eq (a b c : Int) : spec_l1In.f a b c = some (decide (b ≤ a ∧ a ≤ c)) := by
  unfold spec_l1In.f
  by_cases h : b ≤ a <;> simp [h]
theorem within_eq (a b c : Int) : impl_within.f a b c = some (decide (b ≤ a ∧ a ≤ c)) := by
  unfold impl_within.f
  by_cases h : b ≤ a <;> simp [h]
end Go.Proofs.Ytkpojaooolefjaa.A

namespace Go.Proofs.Ytkpojaooolefjaa.A
open Go.RowKit Go.Proofs.YtkpojaooolefjaaW.PrintWords Go.Proofs.YtkpojaooolefjaaW.PrintLast Go.Proofs.YtkpojaooolefjaaW.PrintMore
set_option linter.unusedVariables false
set_option linter.unusedSimpArgs false
def inR (lo hi : Int) (xs : List Int) : Bool := xs.all fun x => decide (lo ≤ x ∧ x ≤ hi)
theorem l1All_ev (xs : List Int) (lo hi : Int) (hx : xs.length ≤ 9223372036854775807) : Ev (fun k => spec_l1All.f k xs lo hi) (inR lo hi xs) := by
  have h := ev_all (xs := xs) (g := fun k i => spec_l1All.l0 k lo hi xs (xs.length : Int) i) (fun x => decide (lo ≤ x ∧ x ≤ hi))
    (Ev.succ (by simp only [spec_l1All.l0, if_neg (Int.lt_irrefl _)]; exact Ev.now _))
    (fun i h r hp hr => Ev.succ (by
      simp only [spec_l1All.l0, if_pos (show (i : Int) < (xs.length : Int) by omega), if_pos (show (0 : Int) ≤ (i : Int) by omega), rdn h, l1In_eq, Option.bind_some, hp, if_true, wsucc h hx]
      exact hr))
    (fun i h hp => Ev.succ (by
      simp only [spec_l1All.l0, if_pos (show (i : Int) < (xs.length : Int) by omega), if_pos (show (0 : Int) ≤ (i : Int) by omega), rdn h, l1In_eq, Option.bind_some, hp]
      exact Ev.now _)) xs.length 0 (by omega)
  exact h
theorem allWithin_ev (xs : List Int) (lo hi : Int) (hx : xs.length ≤ 9223372036854775807) : Ev (fun k => impl_allWithin.f k xs lo hi) (inR lo hi xs) := by
  have h := ev_all (xs := xs) (g := fun k i => impl_allWithin.l0 k lo hi xs (xs.length : Int) i) (fun x => decide (lo ≤ x ∧ x ≤ hi))
    (Ev.succ (by simp only [impl_allWithin.l0, if_neg (Int.lt_irrefl _)]; exact Ev.now _))
    (fun i h r hp hr => Ev.succ (by
      simp only [impl_allWithin.l0, if_pos (show (i : Int) < (xs.length : Int) by omega), if_pos (show (0 : Int) ≤ (i : Int) by omega), rdn h, within_eq, Option.bind_some, hp, if_true, wsucc h hx]
      exact hr))
    (fun i h hp => Ev.succ (by
      simp only [impl_allWithin.l0, if_pos (show (i : Int) < (xs.length : Int) by omega), if_pos (show (0 : Int) ≤ (i : Int) by omega), rdn h, within_eq, Option.bind_some, hp]
      exact Ev.now _)) xs.length 0 (by omega)
  exact h
end Go.Proofs.Ytkpojaooolefjaa.A

namespace Go.Proofs.Ytkpojaooolefjaa.A
open Go.RowKit Go.Proofs.YtkpojaooolefjaaW.PrintWords Go.Proofs.YtkpojaooolefjaaW.PrintLast Go.Proofs.YtkpojaooolefjaaW.PrintMore
set_option linter.unusedVariables false
set_option linter.unusedSimpArgs false
def goodL (xs : List Int) : Bool := if (1 : Int) ≤ xs.length ∧ (xs.length : Int) ≤ 8 then inR 0 60 xs else false
theorem goodL_iff (xs : List Int) : goodL xs = true ↔ 1 ≤ xs.length ∧ xs.length ≤ 8 ∧ ∀ x ∈ xs, 0 ≤ x ∧ x ≤ 60 := by
  unfold goodL inR
  by_cases h : (1 : Int) ≤ xs.length ∧ (xs.length : Int) ≤ 8
  · rw [if_pos h]
    simp only [List.all_eq_true, decide_eq_true_eq]
    exact ⟨fun h' => ⟨by omega, by omega, h'⟩, fun h' => h'.2.2⟩
  · rw [if_neg h]
    constructor
    · intro h'
      cases h'
    · intro h'
      omega
theorem liGood_ev (xs : List Int) (hx : xs.length ≤ 9223372036854775807) : Ev (fun k => spec_liGood.f k xs) (goodL xs) := by
  unfold spec_liGood.f goodL
  simp only [l1In_eq, Option.bind_some, decide_eq_true_eq]
  exact Ev.ite (fun _ => Ev.bind (l1All_ev xs 0 60 hx) (Ev.now _)) (fun _ => Ev.now _)
theorem implIsList_ev (xs : List Int) (hx : xs.length ≤ 9223372036854775807) : Ev (fun k => impl_IsList.f k xs) (goodL xs) := by
  unfold impl_IsList.f goodL
  simp only [within_eq, Option.bind_some, decide_eq_true_eq]
  exact Ev.ite (fun _ => Ev.bind (allWithin_ev xs 0 60 hx) (Ev.now _)) (fun _ => Ev.now _)
end Go.Proofs.Ytkpojaooolefjaa.A

namespace Go.Proofs.Ytkpojaooolefjaa.A
open Go.RowKit Go.Proofs.YtkpojaooolefjaaW.PrintWords Go.Proofs.YtkpojaooolefjaaW.PrintLast Go.Proofs.YtkpojaooolefjaaW.PrintMore
set_option linter.unusedVariables false
set_option linter.unusedSimpArgs false
def isG (l : List Int) (f t a : Int) : Bool := decide ((0 ≤ f ∧ f ≤ (l.length : Int) - 1) ∧ (0 ≤ t ∧ t ≤ (l.length : Int) - 1) ∧ f ≠ t ∧ 1 ≤ a)
theorem giIs_eq (l : List Int) (f t a : Int) (hx : l.length ≤ 1048576) : spec_giIs.f l f t a = some (isG l f t a) := by
  unfold spec_giIs.f isG
  simp only [l1In_eq, Option.bind_some, w64 (x := (l.length : Int) - 1) (by omega) (by omega)]
  by_cases h1 : 0 ≤ f ∧ f ≤ (l.length : Int) - 1
  · by_cases h2 : 0 ≤ t ∧ t ≤ (l.length : Int) - 1
    · by_cases h3 : f = t
      · simp [h3]
      · by_cases h4 : 1 ≤ a <;> simp [h1, h2, h3, h4]
    · simp only [decide_eq_true h1, if_true, decide_eq_false h2, h2, false_and, and_false, decide_false, Bool.false_eq_true, if_false]
  · simp only [decide_eq_false h1, h1, false_and, decide_false, Bool.false_eq_true, if_false]
theorem isGift_eq (l : List Int) (f t a : Int) (hx : l.length ≤ 1048576) : impl_isGift.f l f t a = some (isG l f t a) := by
  unfold impl_isGift.f isG
  simp only [within_eq, Option.bind_some, w64 (x := (l.length : Int) - 1) (by omega) (by omega)]
  by_cases h1 : 0 ≤ f ∧ f ≤ (l.length : Int) - 1
  · by_cases h2 : 0 ≤ t ∧ t ≤ (l.length : Int) - 1
    · by_cases h3 : f = t
      · simp [h3]
      · by_cases h4 : 1 ≤ a <;> simp [h1, h2, h3, h4]
    · simp only [decide_eq_true h1, if_true, decide_eq_false h2, h2, false_and, and_false, decide_false, Bool.false_eq_true, if_false]
  · simp only [decide_eq_false h1, h1, false_and, decide_false, Bool.false_eq_true, if_false]
theorem isG_iff (l : List Int) (f t a : Int) : isG l f t a = true ↔ (0 ≤ f ∧ f < l.length) ∧ (0 ≤ t ∧ t < l.length) ∧ f ≠ t ∧ 1 ≤ a := by
  unfold isG
  rw [decide_eq_true_eq]
  omega
theorem rd_good {l : List Int} (hg : goodL l = true) {i : Int} (h0 : 0 ≤ i) (h1 : i < l.length) : 0 ≤ rd l i ∧ rd l i ≤ 60 := by
  have h := ((goodL_iff l).1 hg).2.2
  have hi : i.toNat < l.length := by omega
  have e : rd l i = l[i.toNat] := rdi h0 h1
  rw [e]
  exact h _ (List.getElem_mem hi)
def canB (l : List Int) (f t a : Int) : Bool := isG l f t a && (decide (a ≤ rd l f) && decide (a ≤ 60 - rd l t))
theorem canGive_eq (l : List Int) (f t a : Int) (hg : goodL l = true) : impl_canGive.f l f t a = some (canB l f t a) := by
  have hb := (goodL_iff l).1 hg
  unfold impl_canGive.f canB
  rw [isGift_eq l f t a (by omega)]
  simp only [Option.bind_some]
  by_cases h : isG l f t a = true
  · obtain ⟨h1, h2, h3, h4⟩ := (isG_iff l f t a).1 h
    have b1 := rd_good hg h1.1 h1.2
    have b2 := rd_good hg h2.1 h2.2
    simp only [h, if_true, if_pos h1.1, if_pos h1.2, if_pos h2.1, if_pos h2.2, w64 (x := 60 - rd l t) (by omega) (by omega), Bool.true_and]
    by_cases c : a ≤ rd l f
    · rw [if_pos c, decide_eq_true c, Bool.true_and]
    · rw [if_neg c, decide_eq_false c, Bool.false_and]
  · have h' : isG l f t a = false := Bool.eq_false_iff.2 h
    simp only [h', Bool.false_eq_true, if_false, Bool.false_and]
def kindB (l : List Int) (f t a : Int) : Bool := isG l f t a && (decide (a ≤ 60) && decide (rd l t + a ≤ rd l f - a))
theorem giKind_eq (l : List Int) (f t a : Int) (hg : goodL l = true) : spec_giKind.f l f t a = some (kindB l f t a) := by
  have hb := (goodL_iff l).1 hg
  unfold spec_giKind.f kindB
  rw [giIs_eq l f t a (by omega)]
  simp only [Option.bind_some]
  by_cases h : isG l f t a = true
  · obtain ⟨h1, h2, h3, h4⟩ := (isG_iff l f t a).1 h
    have b1 := rd_good hg h1.1 h1.2
    have b2 := rd_good hg h2.1 h2.2
    simp only [h, if_true, if_pos h1.1, if_pos h1.2, if_pos h2.1, if_pos h2.2, Bool.true_and]
    by_cases c : a ≤ 60
    · rw [if_pos c, decide_eq_true c, Bool.true_and, w64 (x := rd l f - a) (by omega) (by omega), w64 (x := rd l t + a) (by omega) (by omega)]
    · rw [if_neg c, decide_eq_false c, Bool.false_and]
  · have h' : isG l f t a = false := Bool.eq_false_iff.2 h
    simp only [h', Bool.false_eq_true, if_false, Bool.false_and]
theorem isKind_eq (l : List Int) (f t a : Int) (hg : goodL l = true) : impl_isKind.f l f t a = some (kindB l f t a) := by
  unfold impl_isKind.f kindB
  rw [canGive_eq l f t a hg]
  unfold canB
  simp only [Option.bind_some]
  by_cases h : isG l f t a = true
  · obtain ⟨h1, h2, h3, h4⟩ := (isG_iff l f t a).1 h
    have b1 := rd_good hg h1.1 h1.2
    have b2 := rd_good hg h2.1 h2.2
    simp only [h, if_pos h1.1, if_pos h1.2, if_pos h2.1, if_pos h2.2, Bool.true_and]
    by_cases c : a ≤ rd l f ∧ a ≤ 60 - rd l t
    · rw [decide_eq_true c.1, decide_eq_true c.2, decide_eq_true (show a ≤ 60 by omega), Bool.true_and, Bool.true_and, if_pos rfl, w64 (x := rd l f - a) (by omega) (by omega), w64 (x := rd l t + a) (by omega) (by omega)]
    · have e : (decide (a ≤ rd l f) && decide (a ≤ 60 - rd l t)) = false := by
        rw [← Bool.decide_and]
        exact decide_eq_false c
      have e2 : (decide (a ≤ 60) && decide (rd l t + a ≤ rd l f - a)) = false := by
        rw [← Bool.decide_and]
        exact decide_eq_false (by omega)
      simp only [e, e2, Bool.false_eq_true, if_false]
  · have h' : isG l f t a = false := Bool.eq_false_iff.2 h
    simp only [h', Bool.false_eq_true, if_false, Bool.false_and]
def kindR (l : List Int) (f t a : Int) : Bool × Bool := if goodL l = true then (if isG l f t a = true then (kindB l f t a, true) else (false, false)) else (false, false)
theorem toGift_eq (a b c : Int) : laws_toGift.f a b c = some (a, b, c) := rfl
def giveL (l : List Int) (f t a : Int) : List Int := (l.set f.toNat (rd l f - a)).set t.toNat (rd l t + a)
theorem rd_set_ne {l : List Int} {i j : Int} (x : Int) (h0 : 0 ≤ i) (h1 : 0 ≤ j) (h : i ≠ j) : rd (l.set i.toNat x) j = rd l j := by
  unfold rd
  rw [List.getD_eq_getElem?_getD, List.getD_eq_getElem?_getD, List.getElem?_set_ne (by omega)]
theorem rd_set_self {l : List Int} {i : Int} (x : Int) (h0 : 0 ≤ i) (h1 : i < l.length) : rd (l.set i.toNat x) i = x := by
  unfold rd
  rw [List.getD_eq_getElem?_getD, List.getElem?_set_self (by omega)]
  rfl
theorem mem_rd {l : List Int} {x : Int} (h : x ∈ l) : ∃ i : Int, 0 ≤ i ∧ i < l.length ∧ rd l i = x := by
  obtain ⟨i, hi, rfl⟩ := List.mem_iff_getElem.1 h
  exact ⟨(i : Int), by omega, by omega, rdn hi⟩
theorem rd_mem {l : List Int} {i : Int} (h0 : 0 ≤ i) (h1 : i < l.length) : rd l i ∈ l := by
  have hi : i.toNat < l.length := by omega
  have e : rd l i = l[i.toNat] := rdi h0 h1
  rw [e]
  exact List.getElem_mem hi
/-- Whether what is behind a gift is a list. -/
theorem give_good (l : List Int) (f t x y : Int) (hg : goodL l = true) (h1 : 0 ≤ f ∧ f < l.length) (h2 : 0 ≤ t ∧ t < l.length) (h3 : f ≠ t) : goodL ((l.set f.toNat x).set t.toNat y) = true ↔ (0 ≤ x ∧ x ≤ 60) ∧ 0 ≤ y ∧ y ≤ 60 := by
  have hb := (goodL_iff l).1 hg
  rw [goodL_iff]
  simp only [List.length_set]
  constructor
  · intro h
    have e1 : rd ((l.set f.toNat x).set t.toNat y) f = x := by rw [rd_set_ne _ h2.1 h1.1 (Ne.symm h3), rd_set_self _ h1.1 h1.2]
    have e2 : rd ((l.set f.toNat x).set t.toNat y) t = y := rd_set_self _ h2.1 (by rw [List.length_set]; exact h2.2)
    have m1 := h.2.2 _ (rd_mem (l := (l.set f.toNat x).set t.toNat y) h1.1 (by simp only [List.length_set]; exact h1.2))
    have m2 := h.2.2 _ (rd_mem (l := (l.set f.toNat x).set t.toNat y) h2.1 (by simp only [List.length_set]; exact h2.2))
    rw [e1] at m1
    rw [e2] at m2
    exact ⟨m1, m2⟩
  · rintro ⟨hx, hy⟩
    refine ⟨hb.1, hb.2.1, fun z hz => ?_⟩
    rcases List.mem_or_eq_of_mem_set hz with hz | rfl
    · rcases List.mem_or_eq_of_mem_set hz with hz | rfl
      · exact hb.2.2 z hz
      · exact hx
    · exact hy
def doR (l : List Int) (f t a : Int) : List Int × Bool := if goodL l = true then (if canB l f t a = true then (giveL l f t a, true) else ([], false)) else ([], false)
theorem canB_iff (l : List Int) (f t a : Int) : canB l f t a = true ↔ isG l f t a = true ∧ a ≤ rd l f ∧ a ≤ 60 - rd l t := by
  unfold canB
  simp only [Bool.and_eq_true, decide_eq_true_eq]
end Go.Proofs.Ytkpojaooolefjaa.A

namespace Go.Proofs.Ytkpojaooolefjaa.A
open Go.RowKit Go.Proofs.YtkpojaooolefjaaW.PrintWords Go.Proofs.YtkpojaooolefjaaW.PrintLast Go.Proofs.YtkpojaooolefjaaW.PrintMore
set_option linter.unusedVariables false
set_option linter.unusedSimpArgs false
theorem l1Own_eq (l : List Int) (hx : l.length ≤ 1048576) : spec_l1Own.f l = some l := by
  unfold spec_l1Own.f
  simp only [Option.bind_some, List.nil_append, List.length_nil, Nat.zero_add, if_pos (show l.length < 17592186044416 by omega)]
end Go.Proofs.Ytkpojaooolefjaa.A

namespace Go.Proofs.Ytkpojaooolefjaa.A
open Go.RowKit Go.Proofs.YtkpojaooolefjaaW.PrintWords Go.Proofs.YtkpojaooolefjaaW.PrintLast Go.Proofs.YtkpojaooolefjaaW.PrintMore
set_option linter.unusedVariables false
set_option linter.unusedSimpArgs false
theorem giDo_eq (l : List Int) (f t a : Int) (hx : l.length ≤ 1048576) (h1 : 0 ≤ f ∧ f < l.length) (h2 : 0 ≤ t ∧ t < l.length) (h3 : f ≠ t) : spec_giDo.f l f t a = some ((l.set f.toNat (wrap64 (rd l f - a))).set t.toNat (wrap64 (rd l t + a))) := by
  unfold spec_giDo.f
  simp only [l1Own_eq l hx, Option.bind_some, if_pos h1.1, if_pos h1.2, if_pos h2.1, if_pos h2.2, rd_set_ne _ h1.1 h2.1 h3]
theorem given_eq (l : List Int) (f t a : Int) (hx : l.length ≤ 1048576) (h1 : 0 ≤ f ∧ f < l.length) (h2 : 0 ≤ t ∧ t < l.length) (h3 : f ≠ t) : impl_given.f l f t a = some ((l.set f.toNat (wrap64 (rd l f - a))).set t.toNat (wrap64 (rd l t + a))) := by
  unfold impl_given.f slices_Clone_int_int.f
  simp only [if_pos (show l.length ≤ 17592186044416 by omega), Option.bind_some, if_pos h1.1, if_pos h1.2, if_pos h2.1, if_pos h2.2, rd_set_ne _ h1.1 h2.1 h3]
theorem given_can (l : List Int) (f t a : Int) (hg : goodL l = true) (h : canB l f t a = true) : impl_given.f l f t a = some (giveL l f t a) := by
  have hb := (goodL_iff l).1 hg
  obtain ⟨hG, c1, c2⟩ := (canB_iff l f t a).1 h
  obtain ⟨h1, h2, h3, h4⟩ := (isG_iff l f t a).1 hG
  have b1 := rd_good hg h1.1 h1.2
  have b2 := rd_good hg h2.1 h2.2
  rw [given_eq l f t a (by omega) h1 h2 h3, w64 (x := rd l f - a) (by omega) (by omega), w64 (x := rd l t + a) (by omega) (by omega)]
  rfl
end Go.Proofs.Ytkpojaooolefjaa.A

namespace Go.Proofs.Ytkpojaooolefjaa.A
open Go.RowKit Go.Proofs.YtkpojaooolefjaaW.PrintWords Go.Proofs.YtkpojaooolefjaaW.PrintLast Go.Proofs.YtkpojaooolefjaaW.PrintMore
set_option linter.unusedVariables false
set_option linter.unusedSimpArgs false
def insD : List Int → Int → List Int
  | [], x => [x]
  | y :: ys, x => if x ≤ y then y :: insD ys x else x :: y :: ys
def Desc (l : List Int) : Prop := l.Pairwise fun x y => y ≤ x
theorem insD_at (x : Int) : ∀ (out : List Int) (j : Nat), j ≤ out.length → (∀ i, i < j → ∀ h : i < out.length, x ≤ out[i]) → (∀ h : j < out.length, ¬ x ≤ out[j]) → insD out x = out.take j ++ [x] ++ out.drop j
  | [], j, hj, _, _ => by simp [insD]
  | y :: ys, 0, _, _, h => by
    have := h (by simp)
    simp only [List.getElem_cons_zero] at this
    simp [insD, this]
  | y :: ys, j + 1, hj, h1, h2 => by
    have h0 := h1 0 (by omega) (by simp)
    simp only [List.getElem_cons_zero] at h0
    have ih := insD_at x ys j (by simpa using hj) (fun i hi h => by have := h1 (i + 1) (by omega) (by simpa using h); simpa using this) (fun h => by have := h2 (by simpa using h); simpa using this)
    simp only [insD, if_pos h0, ih, List.take_succ_cons, List.drop_succ_cons, List.cons_append]
theorem insD_perm (x : Int) : ∀ out : List Int, (insD out x).Perm (x :: out)
  | [] => List.Perm.refl _
  | y :: ys => by
    unfold insD
    split
    · exact ((insD_perm x ys).cons y).trans (List.Perm.swap x y ys)
    · exact List.Perm.refl _
theorem insD_length (x : Int) (out : List Int) : (insD out x).length = out.length + 1 := by
  rw [(insD_perm x out).length_eq, List.length_cons]
theorem insD_desc (x : Int) : ∀ out : List Int, Desc out → Desc (insD out x)
  | [], _ => by simp [insD, Desc]
  | y :: ys, h => by
    unfold insD
    unfold Desc at h
    rw [List.pairwise_cons] at h
    split
    · next hc =>
      unfold Desc
      rw [List.pairwise_cons]
      refine ⟨fun z hz => ?_, insD_desc x ys h.2⟩
      rcases List.mem_cons.1 ((insD_perm x ys).mem_iff.1 hz) with rfl | hz
      · exact hc
      · exact h.1 z hz
    · next hc =>
      unfold Desc
      rw [List.pairwise_cons, List.pairwise_cons]
      refine ⟨fun z hz => ?_, h⟩
      rcases List.mem_cons.1 hz with rfl | hz
      · omega
      · have := h.1 z hz
        omega
theorem descL_perm (l : List Int) : (descL l).Perm l := List.mergeSort_perm l _
theorem descL_desc (l : List Int) : Desc (descL l) := by
  unfold descL Desc
  have h := List.pairwise_mergeSort (le := fun x y : Int => decide (y ≤ x)) (fun a b c h1 h2 => by simp only [decide_eq_true_eq] at *; omega) (fun a b => by simp only [Bool.or_eq_true, decide_eq_true_eq]; omega) l
  exact h.imp (fun h => by simpa using h)
theorem desc_unique {a b : List Int} (h : a.Perm b) (ha : Desc a) (hb : Desc b) : a = b :=
  List.Perm.eq_of_pairwise (le := fun x y : Int => y ≤ x) (fun x y _ _ h1 h2 => by omega) ha hb h
theorem descL_length (l : List Int) : (descL l).length = l.length := (descL_perm l).length_eq
theorem descL_mem {l : List Int} {x : Int} : x ∈ descL l ↔ x ∈ l := (descL_perm l).mem_iff
theorem descL_of_desc {l : List Int} (h : Desc l) : descL l = l := desc_unique (descL_perm l) (descL_desc l) h
theorem descL_descL (l : List Int) : descL (descL l) = descL l := descL_of_desc (descL_desc l)
theorem descL_perm_eq {a b : List Int} (h : a.Perm b) : descL a = descL b := desc_unique (((descL_perm a).trans h).trans (descL_perm b).symm) (descL_desc a) (descL_desc b)
theorem perm_sum {a b : List Int} (h : a.Perm b) : a.sum = b.sum := by
  induction h with
  | nil => rfl
  | cons x _ ih => simp only [List.sum_cons, ih]
  | swap x y l => simp only [List.sum_cons]; omega
  | trans _ _ ih1 ih2 => exact ih1.trans ih2
theorem descL_sum (l : List Int) : (descL l).sum = l.sum := perm_sum (descL_perm l)
theorem foldl_ins_perm : ∀ (l out : List Int), (l.foldl insD out).Perm (out ++ l)
  | [], out => by simp
  | x :: l, out => by
    rw [List.foldl_cons]
    refine (foldl_ins_perm l (insD out x)).trans ?_
    refine ((insD_perm x out).append_right l).trans ?_
    exact (List.perm_middle (a := x) (l₁ := out) (l₂ := l)).symm
theorem foldl_ins_desc : ∀ (l out : List Int), Desc out → Desc (l.foldl insD out)
  | [], out, h => h
  | x :: l, out, h => by
    rw [List.foldl_cons]
    exact foldl_ins_desc l _ (insD_desc x out h)
theorem foldl_ins (l : List Int) : l.foldl insD [] = descL l :=
  desc_unique ((by simpa using foldl_ins_perm l [] : (l.foldl insD []).Perm l).trans (descL_perm l).symm) (foldl_ins_desc l [] (by simp [Desc])) (descL_desc l)
def Sm (l : List Int) : Prop := l.length ≤ 1000 ∧ ∀ x ∈ l, 0 ≤ x ∧ x ≤ 1000
theorem good_sm {l : List Int} (h : goodL l = true) : Sm l := by
  have := (goodL_iff l).1 h
  exact ⟨by omega, fun x hx => by have := this.2.2 x hx; omega⟩
theorem sm_desc {l : List Int} (h : Sm l) : Sm (descL l) := ⟨by rw [descL_length]; exact h.1, fun x hx => h.2 x (descL_mem.1 hx)⟩
theorem good_desc (l : List Int) : goodL (descL l) = goodL l := by
  rw [Bool.eq_iff_iff, goodL_iff, goodL_iff, descL_length]
  simp only [descL_mem]
theorem ranking_eq {l : List Int} (h : Sm l) : impl_ranking.f l = some (descL l) := by
  unfold impl_ranking.f smallL
  rw [if_pos]
  simp only [Bool.and_eq_true, decide_eq_true_eq, List.all_eq_true]
  exact ⟨by have := h.1; omega, fun x hx => by have := h.2 x hx; omega⟩
theorem liRank_in (l : List Int) (x : Int) (i9 : Int) (out : List Int) (hout : out.length ≤ 1000000) (r : List Int) (hr : Ev (fun k => spec_liRank.l0 k (insD out x) l (l.length : Int) (wrap64 (i9 + 1))) r) :
    ∀ (n j : Nat), j + n = out.length → (∀ i, i < j → ∀ h : i < out.length, x ≤ out[i]) → Ev (fun k => spec_liRank.l1 k out x (j : Int) l (l.length : Int) i9) r
  | 0, j, h, hall => by
    refine Ev.succ ?_
    have e := insD_at x out j (by omega) hall (fun h' => by omega)
    simp only [spec_liRank.l1, if_neg (show ¬ (j : Int) < (out.length : Int) by omega), if_pos (show (0 : Int) ≤ (j : Int) by omega), if_pos (show (j : Int) ≤ (out.length : Int) by omega), Int.toNat_natCast, l1Own_eq (out.take j) (by rw [List.length_take]; omega), Option.bind_some, List.length_append, List.length_take, List.length_drop, List.length_cons, List.length_nil]
    simp only [if_pos (show min j out.length + (0 + 1) < 17592186044416 by omega), if_pos (show min j out.length + (0 + 1) + (out.length - j) < 17592186044416 by omega)]
    rw [e] at hr
    exact hr
  | n + 1, j, h, hall => by
    have hj : j < out.length := by omega
    refine Ev.succ ?_
    by_cases c : x ≤ out[j]
    · simp only [spec_liRank.l1, if_pos (show (j : Int) < (out.length : Int) by omega), if_pos (show (0 : Int) ≤ (j : Int) by omega), rdn hj, if_pos (show out[j] ≥ x from c), wsucc hj (by omega)]
      refine liRank_in l x i9 out hout r hr n (j + 1) (by omega) (fun i hi h' => ?_)
      by_cases e : i = j
      · subst e
        exact c
      · exact hall i (by omega) h'
    · have e := insD_at x out j (by omega) hall (fun h' => c)
      simp only [spec_liRank.l1, if_pos (show (j : Int) < (out.length : Int) by omega), if_pos (show (0 : Int) ≤ (j : Int) by omega), rdn hj, if_neg (show ¬ out[j] ≥ x from c), if_pos (show (j : Int) ≤ (out.length : Int) by omega), Int.toNat_natCast, l1Own_eq (out.take j) (by rw [List.length_take]; omega), Option.bind_some, List.length_append, List.length_take, List.length_drop, List.length_cons, List.length_nil]
      simp only [if_pos (show min j out.length + (0 + 1) < 17592186044416 by omega), if_pos (show min j out.length + (0 + 1) + (out.length - j) < 17592186044416 by omega)]
      rw [e] at hr
      exact hr
theorem liRank_ev (l : List Int) (hx : l.length ≤ 1000000) : Ev (fun k => spec_liRank.f k l) (descL l) := by
  unfold spec_liRank.f
  have h := ev_fold (xs := l) (g := fun k out i => spec_liRank.l0 k out l (l.length : Int) i) insD (fun out i => out.length = i) id
    (fun s _ => Ev.succ (by simp only [spec_liRank.l0, if_neg (Int.lt_irrefl _)]; exact Ev.now _))
    (fun i h s r hs _ hr => Ev.succ (by
      simp only [spec_liRank.l0, if_pos (show (i : Int) < (l.length : Int) by omega), if_pos (show (0 : Int) ≤ (i : Int) by omega), rdn h]
      exact liRank_in l l[i] (i : Int) s (by omega) r (by rw [wsucc h (by omega)]; exact hr) s.length 0 (by omega) (fun j hj => by omega)))
    (fun i h s hs => by rw [insD_length, hs]) l.length 0 [] (by omega) rfl
  rw [List.drop_zero, foldl_ins] at h
  exact h
end Go.Proofs.Ytkpojaooolefjaa.A

namespace Go.Proofs.Ytkpojaooolefjaa.A
open Go.RowKit Go.Proofs.YtkpojaooolefjaaW.PrintWords Go.Proofs.YtkpojaooolefjaaW.PrintLast Go.Proofs.YtkpojaooolefjaaW.PrintMore
set_option linter.unusedVariables false
set_option linter.unusedSimpArgs false
def psums : Int → List Int → List Int
  | _, [] => []
  | s, x :: l => (s + x) :: psums (s + x) l
def psStep (s : List Int × Int) (x : Int) : List Int × Int := (s.1 ++ [s.2 + x], s.2 + x)
theorem foldl_ps : ∀ (l : List Int) (s : List Int × Int), (l.foldl psStep s).1 = s.1 ++ psums s.2 l
  | [], s => by simp [psums]
  | x :: l, s => by
    rw [List.foldl_cons, foldl_ps l]
    simp [psStep, psums]
theorem psums_length : ∀ (l : List Int) (s : Int), (psums s l).length = l.length
  | [], _ => rfl
  | x :: l, s => by simp [psums, psums_length l]
theorem psums_bd : ∀ (l : List Int) (s : Int) (B : Int), 0 ≤ s → 0 ≤ B → (∀ x ∈ l, 0 ≤ x ∧ x ≤ B) → ∀ y ∈ psums s l, 0 ≤ y ∧ y ≤ s + B * l.length
  | [], s, B, _, _, _, y, hy => by simp [psums] at hy
  | x :: l, s, B, h0, hB, hx, y, hy => by
    have h1 := hx x List.mem_cons_self
    have hBl : 0 ≤ B * (l.length : Int) := Int.mul_nonneg hB (by omega)
    have e : B * ((x :: l).length : Int) = B * (l.length : Int) + B := by
      rw [List.length_cons, Int.natCast_add, Int.mul_add]
      simp
    rw [psums, List.mem_cons] at hy
    rw [e]
    rcases hy with rfl | hy
    · omega
    · have := psums_bd l (s + x) B (by omega) hB (fun z hz => hx z (List.mem_cons_of_mem _ hz)) y hy
      omega
theorem sums_bd {l : List Int} (h : Sm l) : ∀ y ∈ psums 0 l, 0 ≤ y ∧ y ≤ 1000000 := by
  intro y hy
  have h1 := psums_bd l 0 1000 (by omega) (by omega) h.2 y hy
  have h2 := h.1
  omega
theorem liSums_ev (l : List Int) (h : Sm l) : Ev (fun k => spec_liSums.f k l) (psums 0 l) := by
  unfold spec_liSums.f
  have hl := h.1
  have h := ev_fold (xs := l) (g := fun k s i => spec_liSums.l0 k s.1 s.2 l (l.length : Int) i) psStep (fun s i => s.1.length = i ∧ 0 ≤ s.2 ∧ s.2 ≤ 1000 * (i : Int)) (fun s => s.1)
    (fun s _ => Ev.succ (by simp only [spec_liSums.l0, if_neg (Int.lt_irrefl _)]; exact Ev.now _))
    (fun i hi s r hs _ hr => Ev.succ (by
      have hb := h.2 _ (List.getElem_mem hi)
      simp only [spec_liSums.l0, if_pos (show (i : Int) < (l.length : Int) by omega), if_pos (show (0 : Int) ≤ (i : Int) by omega), rdn hi, if_pos (show s.1.length < 17592186044416 by omega), wsucc hi (by omega), w64 (x := s.2 + l[i]) (by omega) (by omega)]
      exact hr))
    (fun i hi s hs => by
      have hb := h.2 _ (List.getElem_mem hi)
      simp only [psStep, List.length_append, List.length_cons, List.length_nil]
      omega) l.length 0 ([], 0) (by omega) (by simp)
  rw [List.drop_zero, foldl_ps] at h
  exact h
theorem partial_l (l : List Int) (h : Sm l) : Ev (fun k => impl_partial.l0 k [] 0 l (l.length : Int) 0) (psums 0 l) := by
  have hl := h.1
  have h := ev_fold (xs := l) (g := fun k s i => impl_partial.l0 k s.1 s.2 l (l.length : Int) i) psStep (fun s i => s.1.length = i ∧ 0 ≤ s.2 ∧ s.2 ≤ 1000 * (i : Int)) (fun s => s.1)
    (fun s _ => Ev.succ (by simp only [impl_partial.l0, if_neg (Int.lt_irrefl _)]; exact Ev.now _))
    (fun i hi s r hs _ hr => Ev.succ (by
      have hb := h.2 _ (List.getElem_mem hi)
      simp only [impl_partial.l0, if_pos (show (i : Int) < (l.length : Int) by omega), if_pos (show (0 : Int) ≤ (i : Int) by omega), rdn hi, if_pos (show s.1.length < 17592186044416 by omega), wsucc hi (by omega), w64 (x := s.2 + l[i]) (by omega) (by omega)]
      exact hr))
    (fun i hi s hs => by
      have hb := h.2 _ (List.getElem_mem hi)
      simp only [psStep, List.length_append, List.length_cons, List.length_nil]
      omega) l.length 0 ([], 0) (by omega) (by simp)
  rw [List.drop_zero, foldl_ps] at h
  exact h
def partL (l : List Int) : List Int := psums 0 (descL l)
theorem liPartial_ev (l : List Int) (h : Sm l) : Ev (fun k => spec_liPartial.f k l) (partL l) := by
  unfold spec_liPartial.f
  exact Ev.bind (liRank_ev l (by have := h.1; omega)) (Ev.bind (liSums_ev _ (sm_desc h)) (Ev.now _))
theorem partial_ev (l : List Int) (h : Sm l) : Ev (fun k => impl_partial.f k l) (partL l) := by
  unfold impl_partial.f
  simp only [ranking_eq h, Option.bind_some]
  exact partial_l _ (sm_desc h)
theorem partL_length (l : List Int) : (partL l).length = l.length := by
  unfold partL
  rw [psums_length, descL_length]
end Go.Proofs.Ytkpojaooolefjaa.A

namespace Go.Proofs.Ytkpojaooolefjaa.A
open Go.RowKit Go.Proofs.YtkpojaooolefjaaW.PrintWords Go.Proofs.YtkpojaooolefjaaW.PrintLast Go.Proofs.YtkpojaooolefjaaW.PrintMore
set_option linter.unusedVariables false
set_option linter.unusedSimpArgs false
theorem foldl_add : ∀ (l : List Int) (s : Int), l.foldl (fun s x => s + x) s = s + l.sum
  | [], s => by simp
  | x :: l, s => by
    rw [List.foldl_cons, foldl_add l, List.sum_cons]
    omega
theorem liSum_ev (l : List Int) (h : Sm l) : Ev (fun k => spec_liSum.f k l) l.sum := by
  unfold spec_liSum.f
  have hl := h.1
  have h := ev_fold (xs := l) (g := fun k s i => spec_liSum.l0 k s l (l.length : Int) i) (fun s x => s + x) (fun s i => 0 ≤ s ∧ s ≤ 1000 * (i : Int)) id
    (fun s _ => Ev.succ (by simp only [spec_liSum.l0, if_neg (Int.lt_irrefl _)]; exact Ev.now _))
    (fun i hi s r hs _ hr => Ev.succ (by
      have hb := h.2 _ (List.getElem_mem hi)
      simp only [spec_liSum.l0, if_pos (show (i : Int) < (l.length : Int) by omega), if_pos (show (0 : Int) ≤ (i : Int) by omega), rdn hi, wsucc hi (by omega), w64 (x := s + l[i]) (by omega) (by omega)]
      exact hr))
    (fun i hi s hs => by
      have hb := h.2 _ (List.getElem_mem hi)
      omega) l.length 0 0 (by omega) (by omega)
  rw [List.drop_zero, foldl_add, Int.zero_add] at h
  exact h
theorem total_ev (l : List Int) (h : Sm l) : Ev (fun k => impl_total.f k l) l.sum := by
  unfold impl_total.f
  have hl := h.1
  have h := ev_fold (xs := l) (g := fun k s i => impl_total.l0 k s l (l.length : Int) i) (fun s x => s + x) (fun s i => 0 ≤ s ∧ s ≤ 1000 * (i : Int)) id
    (fun s _ => Ev.succ (by simp only [impl_total.l0, if_neg (Int.lt_irrefl _)]; exact Ev.now _))
    (fun i hi s r hs _ hr => Ev.succ (by
      have hb := h.2 _ (List.getElem_mem hi)
      simp only [impl_total.l0, if_pos (show (i : Int) < (l.length : Int) by omega), if_pos (show (0 : Int) ≤ (i : Int) by omega), rdn hi, wsucc hi (by omega), w64 (x := s + l[i]) (by omega) (by omega)]
      exact hr))
    (fun i hi s hs => by
      have hb := h.2 _ (List.getElem_mem hi)
      omega) l.length 0 0 (by omega) (by omega)
  rw [List.drop_zero, foldl_add, Int.zero_add] at h
  exact h
def fitB (a b : List Int) : Bool := if (a.length : Int) = (b.length : Int) then (a.sum == b.sum) else false
theorem fitB_iff (a b : List Int) : fitB a b = true ↔ a.length = b.length ∧ a.sum = b.sum := by
  unfold fitB
  by_cases h : (a.length : Int) = (b.length : Int)
  · rw [if_pos h, beq_iff_eq]
    exact ⟨fun h' => ⟨by omega, h'⟩, fun h' => h'.2⟩
  · rw [if_neg h]
    exact ⟨fun h' => absurd h' (by decide), fun h' => absurd h'.1 (by omega)⟩
theorem liFit_ev (a b : List Int) (ha : Sm a) (hb : Sm b) : Ev (fun k => spec_liFit.f k a b) (fitB a b) := by
  unfold spec_liFit.f fitB
  exact Ev.ite (fun _ => Ev.bind (liSum_ev a ha) (Ev.bind (liSum_ev b hb) (Ev.now _))) (fun _ => Ev.now _)
theorem doFit_ev (a b : List Int) (ha : Sm a) (hb : Sm b) : Ev (fun k => impl_doFit.f k a b) (fitB a b) := by
  unfold impl_doFit.f fitB
  exact Ev.ite (fun _ => Ev.bind (total_ev a ha) (Ev.bind (total_ev b hb) (Ev.now _))) (fun _ => Ev.now _)
theorem areLists_ev (a b : List Int) (ha : a.length ≤ 1048576) (hb : b.length ≤ 1048576) : Ev (fun k => impl_areLists.f k a b) (if goodL a = true then goodL b else false) := by
  unfold impl_areLists.f
  exact Ev.bind (implIsList_ev a (by omega)) (Ev.ite (fun _ => Ev.bind (implIsList_ev b (by omega)) (Ev.now _)) (fun _ => Ev.now _))
end Go.Proofs.Ytkpojaooolefjaa.A

namespace Go.Proofs.Ytkpojaooolefjaa.A
open Go.RowKit Go.Proofs.YtkpojaooolefjaaW.PrintWords Go.Proofs.YtkpojaooolefjaaW.PrintLast Go.Proofs.YtkpojaooolefjaaW.PrintMore
set_option linter.unusedVariables false
set_option linter.unusedSimpArgs false
def overL : Int → List Int → List Int → Int
  | i, x :: xs, y :: ys => if x > y then i + 1 else overL (i + 1) xs ys
  | _, _, _ => 0
theorem liOver_l (p q : List Int) (h : p.length ≤ q.length) (hp : p.length ≤ 1000000) : ∀ (n i : Nat), i + n = p.length → Ev (fun k => spec_liOver.l0 k p q (p.length : Int) (i : Int)) (overL (i : Int) (p.drop i) (q.drop i))
  | 0, i, hi => by
    refine Ev.succ ?_
    simp only [spec_liOver.l0, if_neg (show ¬ (i : Int) < (p.length : Int) by omega)]
    rw [List.drop_eq_nil_of_le (by omega), overL]
    exact Ev.now _
    simp
  | n + 1, i, hi => by
    have h1 : i < p.length := by omega
    have h2 : i < q.length := by omega
    refine Ev.succ ?_
    simp only [spec_liOver.l0, if_pos (show (i : Int) < (p.length : Int) by omega), if_pos (show (i : Int) < (q.length : Int) by omega), if_pos (show (0 : Int) ≤ (i : Int) by omega), rdn h1, rdn h2, wsucc h1 (by omega)]
    rw [List.drop_eq_getElem_cons h1, List.drop_eq_getElem_cons h2, overL]
    refine Ev.ite (fun _ => ?_) (fun _ => ?_)
    · rw [show ((i : Int) + 1) = ((i + 1 : Nat) : Int) by omega]
      exact Ev.now _
    · rw [show ((i : Int) + 1) = ((i + 1 : Nat) : Int) by omega]
      exact liOver_l p q h hp n (i + 1) (by omega)
theorem refused_l (p q : List Int) (h : p.length ≤ q.length) (hp : p.length ≤ 1000000) : ∀ (n i : Nat), i + n = p.length → Ev (fun k => impl_refused.l0 k q p (p.length : Int) (i : Int)) (overL (i : Int) (p.drop i) (q.drop i))
  | 0, i, hi => by
    refine Ev.succ ?_
    simp only [impl_refused.l0, if_neg (show ¬ (i : Int) < (p.length : Int) by omega)]
    rw [List.drop_eq_nil_of_le (by omega), overL]
    exact Ev.now _
    simp
  | n + 1, i, hi => by
    have h1 : i < p.length := by omega
    have h2 : i < q.length := by omega
    refine Ev.succ ?_
    simp only [impl_refused.l0, if_pos (show (i : Int) < (p.length : Int) by omega), if_pos (show (i : Int) < (q.length : Int) by omega), if_pos (show (0 : Int) ≤ (i : Int) by omega), rdn h1, rdn h2, wsucc h1 (by omega)]
    rw [List.drop_eq_getElem_cons h1, List.drop_eq_getElem_cons h2, overL]
    refine Ev.ite (fun _ => ?_) (fun _ => ?_)
    · rw [show ((i : Int) + 1) = ((i + 1 : Nat) : Int) by omega]
      exact Ev.now _
    · rw [show ((i : Int) + 1) = ((i + 1 : Nat) : Int) by omega]
      exact refused_l p q h hp n (i + 1) (by omega)
def overR (a b : List Int) : Int := overL 0 (partL a) (partL b)
theorem liOver_ev (a b : List Int) (ha : Sm a) (hb : Sm b) (h : a.length ≤ b.length) : Ev (fun k => spec_liOver.f k a b) (overR a b) := by
  unfold spec_liOver.f
  exact Ev.bind (liPartial_ev a ha) (Ev.bind (liPartial_ev b hb) (liOver_l _ _ (by rw [partL_length, partL_length]; exact h) (by rw [partL_length]; have := ha.1; omega) (partL a).length 0 (by omega)))
theorem refused_ev (a b : List Int) (ha : Sm a) (hb : Sm b) (h : a.length ≤ b.length) : Ev (fun k => impl_refused.f k a b) (overR a b) := by
  unfold impl_refused.f
  exact Ev.bind (partial_ev b hb) (Ev.bind (partial_ev a ha) (refused_l _ _ (by rw [partL_length, partL_length]; exact h) (by rw [partL_length]; have := ha.1; omega) (partL a).length 0 (by omega)))
theorem overL_pos : ∀ (p q : List Int) (i : Int), 0 ≤ i → 0 ≤ overL i p q ∧ (overL i p q = 0 ∨ i < overL i p q)
  | [], q, i, _ => by simp [overL]
  | x :: p, [], i, _ => by simp [overL]
  | x :: p, y :: q, i, h => by
    unfold overL
    split
    · omega
    · have := overL_pos p q (i + 1) (by omega)
      omega
theorem overL_zero : ∀ (p q : List Int) (i : Int), 0 ≤ i → (overL i p q = 0 ↔ ∀ (j : Nat) (h1 : j < p.length) (h2 : j < q.length), p[j] ≤ q[j])
  | [], q, i, _ => by simp [overL]
  | x :: p, [], i, _ => by simp [overL]
  | x :: p, y :: q, i, h => by
    unfold overL
    by_cases c : x > y
    · rw [if_pos c]
      refine ⟨fun h' => by omega, fun h' => ?_⟩
      have := h' 0 (by simp) (by simp)
      simp only [List.getElem_cons_zero] at this
      omega
    · rw [if_neg c, overL_zero p q (i + 1) (by omega)]
      constructor
      · intro h' j h1 h2
        cases j with
        | zero => simp only [List.getElem_cons_zero]; omega
        | succ j =>
          rw [List.getElem_cons_succ, List.getElem_cons_succ]
          exact h' j (by rw [List.length_cons] at h1; omega) (by rw [List.length_cons] at h2; omega)
      · intro h' j h1 h2
        have h3 := h' (j + 1) (by rw [List.length_cons]; omega) (by rw [List.length_cons]; omega)
        rw [List.getElem_cons_succ, List.getElem_cons_succ] at h3
        exact h3
def majB (a b : List Int) : Bool := if fitB a b = true then (overR a b == 0) else false
theorem liBelow_ev (a b : List Int) (ha : Sm a) (hb : Sm b) : Ev (fun k => spec_liBelow.f k a b) (majB a b) := by
  unfold spec_liBelow.f majB
  exact Ev.bind (liFit_ev a b ha hb) (Ev.ite (fun h => Ev.bind (liOver_ev a b ha hb (by have := (fitB_iff a b).1 h; omega)) (Ev.now _)) (fun _ => Ev.now _))
theorem isMajorized_ev (a b : List Int) (ha : Sm a) (hb : Sm b) : Ev (fun k => impl_isMajorized.f k a b) (majB a b) := by
  unfold impl_isMajorized.f majB
  exact Ev.bind (doFit_ev a b ha hb) (Ev.ite (fun h => Ev.bind (refused_ev a b ha hb (by have := (fitB_iff a b).1 h; omega)) (Ev.now _)) (fun _ => Ev.now _))
theorem majB_iff (a b : List Int) : majB a b = true ↔ a.length = b.length ∧ a.sum = b.sum ∧ ∀ (j : Nat) (h1 : j < (partL a).length) (h2 : j < (partL b).length), (partL a)[j] ≤ (partL b)[j] := by
  unfold majB overR
  by_cases h : fitB a b = true
  · rw [if_pos h, beq_iff_eq, overL_zero _ _ _ (Int.le_refl _)]
    have := (fitB_iff a b).1 h
    simp only [this, true_and]
  · rw [if_neg h]
    rw [fitB_iff] at h
    constructor
    · intro h'
      exact absurd h' (by decide)
    · intro h'
      exact absurd ⟨h'.1, h'.2.1⟩ h
end Go.Proofs.Ytkpojaooolefjaa.A

namespace Go.Proofs.Ytkpojaooolefjaa.A
open Go.RowKit Go.Proofs.YtkpojaooolefjaaW.PrintWords Go.Proofs.YtkpojaooolefjaaW.PrintLast Go.Proofs.YtkpojaooolefjaaW.PrintMore
set_option linter.unusedVariables false
set_option linter.unusedSimpArgs false
def pre (x : List Int) (m : Nat) : Int := (x.take m).sum
theorem pre_zero (x : List Int) : pre x 0 = 0 := rfl
theorem pre_succ {x : List Int} {m : Nat} (h : m < x.length) : pre x (m + 1) = pre x m + rd x (m : Int) := by
  unfold pre
  rw [List.take_succ_eq_append_getElem h, List.sum_append, rdn h, List.sum_cons, List.sum_nil, Int.add_zero]
theorem pre_all {x : List Int} {m : Nat} (h : x.length ≤ m) : pre x m = x.sum := by
  unfold pre
  rw [List.take_of_length_le h]
theorem psums_get : ∀ (l : List Int) (s : Int) (j : Nat) (h : j < (psums s l).length), (psums s l)[j] = s + pre l (j + 1)
  | [], s, j, h => by simp [psums] at h
  | x :: l, s, 0, h => by simp [psums, pre]
  | x :: l, s, j + 1, h => by
    have h' : j < (psums (s + x) l).length := by
      rw [psums, List.length_cons] at h
      omega
    have := psums_get l (s + x) j h'
    simp only [psums, List.getElem_cons_succ]
    rw [this]
    simp only [pre, List.take_succ_cons, List.sum_cons]
    omega
/-- Every partial sum of t is at most that of x; the sums are one. -/
def Dom (x t : List Int) : Prop := x.length = t.length ∧ x.sum = t.sum ∧ ∀ m, pre t m ≤ pre x m
theorem majB_dom (a b : List Int) : majB a b = true ↔ Dom (descL b) (descL a) := by
  rw [majB_iff]
  unfold Dom
  rw [descL_length, descL_length, descL_sum, descL_sum]
  constructor
  · rintro ⟨h1, h2, h3⟩
    refine ⟨h1.symm, h2.symm, fun m => ?_⟩
    cases m with
    | zero => rw [pre_zero, pre_zero]; exact Int.le_refl _
    | succ m =>
      by_cases hm : m < a.length
      · have h := h3 m (by rw [partL_length]; exact hm) (by rw [partL_length]; omega)
        unfold partL at h
        rw [psums_get, psums_get] at h
        omega
      · rw [pre_all (by rw [descL_length]; omega), pre_all (by rw [descL_length]; omega), descL_sum, descL_sum]
        omega
  · rintro ⟨h1, h2, h3⟩
    refine ⟨h1.symm, h2.symm, fun j q1 q2 => ?_⟩
    have e1 : (partL a)[j] = 0 + pre (descL a) (j + 1) := psums_get _ _ _ q1
    have e2 : (partL b)[j] = 0 + pre (descL b) (j + 1) := psums_get _ _ _ q2
    have := h3 (j + 1)
    omega
theorem ext_rd {x t : List Int} (hl : x.length = t.length) (h : ∀ k : Nat, k < x.length → rd x (k : Int) = rd t (k : Int)) : x = t := by
  refine List.ext_getElem hl fun k h1 h2 => ?_
  have := h k h1
  rw [rdn h1, rdn h2] at this
  exact this
theorem desc_rd {x : List Int} (h : Desc x) {a b : Nat} (hab : a ≤ b) (hb : b < x.length) : rd x (b : Int) ≤ rd x (a : Int) := by
  rw [rdn hb, rdn (show a < x.length by omega)]
  rcases Nat.lt_or_ge a b with hlt | hge
  · unfold Desc at h
    exact List.pairwise_iff_getElem.1 h a b (by omega) hb hlt
  · have : a = b := by omega
    subst this
    exact Int.le_refl _
theorem desc_of_rd {x : List Int} (h : ∀ k : Nat, k + 1 < x.length → rd x ((k + 1 : Nat) : Int) ≤ rd x (k : Int)) : Desc x := by
  have key : ∀ (d a : Nat), a + d < x.length → rd x ((a + d : Nat) : Int) ≤ rd x (a : Int) := by
    intro d
    induction d with
    | zero => intro a _; exact Int.le_refl _
    | succ d ih =>
      intro a ha
      have h1 := ih a (by omega)
      have h2 := h (a + d) (by omega)
      have e : a + (d + 1) = a + d + 1 := by omega
      rw [e]
      omega
  unfold Desc
  rw [List.pairwise_iff_getElem]
  intro i j hi hj hij
  have := key (j - i) i (by omega)
  rw [show i + (j - i) = j from by omega, rdn hj, rdn hi] at this
  exact this
/-- Where the next gift of a path goes: the first number that is too small, and the last too large one ahead of it. -/
structure Nx (x t : List Int) (i j : Nat) : Prop where
  lt : i < j
  hj : j < x.length
  jlt : rd x (j : Int) < rd t (j : Int)
  bef : ∀ k : Nat, k < j → rd t (k : Int) ≤ rd x (k : Int)
  igt : rd t (i : Int) < rd x (i : Int)
  btw : ∀ k : Nat, i < k → k < j → rd x (k : Int) ≤ rd t (k : Int)
theorem least_lt (P : Nat → Prop) (n : Nat) : (∃ k, k < n ∧ P k) → ∃ j, j < n ∧ P j ∧ ∀ k, k < j → ¬ P k := by
  induction n with
  | zero => rintro ⟨k, hk, _⟩; omega
  | succ n ih =>
    rintro ⟨k, hk, hp⟩
    by_cases h : ∃ k, k < n ∧ P k
    · obtain ⟨j, h1, h2, h3⟩ := ih h
      exact ⟨j, by omega, h2, h3⟩
    · refine ⟨k, hk, hp, fun q hq hpq => h ⟨q, by omega, hpq⟩⟩
theorem last_lt (P : Nat → Prop) (n : Nat) : (∃ k, k < n ∧ P k) → ∃ j, j < n ∧ P j ∧ ∀ k, j < k → k < n → ¬ P k := by
  induction n with
  | zero => rintro ⟨k, hk, _⟩; omega
  | succ n ih =>
    rintro ⟨k, hk, hp⟩
    by_cases h : P n
    · exact ⟨n, by omega, h, fun q h1 h2 => by omega⟩
    · have hk' : k < n := by
        rcases Nat.lt_or_ge k n with h' | h'
        · exact h'
        · have : k = n := by omega
          subst this
          exact absurd hp h
      obtain ⟨j, h1, h2, h3⟩ := ih ⟨k, hk', hp⟩
      refine ⟨j, by omega, h2, fun q hq hq2 => ?_⟩
      rcases Nat.lt_or_ge q n with h' | h'
      · exact h3 q hq h'
      · have : q = n := by omega
        subst this
        exact h
theorem pre_le {x t : List Int} (hl : x.length = t.length) : ∀ m : Nat, m ≤ x.length → (∀ k : Nat, k < m → rd x (k : Int) ≤ rd t (k : Int)) → pre x m ≤ pre t m
  | 0, _, _ => by rw [pre_zero, pre_zero]; exact Int.le_refl _
  | m + 1, hm, h => by
    have ih := pre_le hl m (by omega) (fun k hk => h k (by omega))
    have := h m (by omega)
    rw [pre_succ (by omega), pre_succ (by omega)]
    omega
theorem pre_lt {x t : List Int} (hl : x.length = t.length) : ∀ m : Nat, m ≤ x.length → (∀ k : Nat, k < m → rd x (k : Int) ≤ rd t (k : Int)) → (∃ k : Nat, k < m ∧ rd x (k : Int) < rd t (k : Int)) → pre x m < pre t m
  | 0, _, _, ⟨k, hk, _⟩ => by omega
  | m + 1, hm, h, ⟨k, hk, hk2⟩ => by
    have h2 := h m (by omega)
    rw [pre_succ (by omega), pre_succ (by omega)]
    rcases Nat.lt_or_ge k m with hlt | hge
    · have := pre_lt hl m (by omega) (fun k hk => h k (by omega)) ⟨k, hlt, hk2⟩
      omega
    · have : k = m := by omega
      subst this
      have := pre_le hl k (by omega) (fun k hk => h k (by omega))
      omega
theorem nx_exists {x t : List Int} (hd : Dom x t) (hne : x ≠ t) : ∃ i j, Nx x t i j := by
  obtain ⟨hl, hs, hp⟩ := hd
  have h1 : ∃ k : Nat, k < x.length ∧ rd x (k : Int) < rd t (k : Int) := by
    refine Classical.byContradiction fun hno => ?_
    have hge : ∀ k : Nat, k < x.length → rd t (k : Int) ≤ rd x (k : Int) := fun k hk => by
      rcases Int.lt_or_le (rd x (k : Int)) (rd t (k : Int)) with h | h
      · exact absurd ⟨k, hk, h⟩ hno
      · exact h
    refine hne (ext_rd hl fun k hk => ?_)
    rcases Int.lt_or_le (rd t (k : Int)) (rd x (k : Int)) with h | h
    · have := pre_lt hl.symm x.length (by omega) (fun k hk => hge k hk) ⟨k, hk, h⟩
      rw [pre_all (by omega), pre_all (by omega)] at this
      omega
    · have := hge k hk
      omega
  obtain ⟨j, hj, hjlt, hbef⟩ := least_lt _ _ h1
  have hbef' : ∀ k : Nat, k < j → rd t (k : Int) ≤ rd x (k : Int) := fun k hk => by
    have := hbef k hk
    omega
  have h2 : ∃ k : Nat, k < j ∧ rd t (k : Int) < rd x (k : Int) := by
    refine Classical.byContradiction fun hno => ?_
    have hle : ∀ k : Nat, k < j + 1 → rd x (k : Int) ≤ rd t (k : Int) := fun k hk => by
      rcases Nat.lt_or_ge k j with h | h
      · rcases Int.lt_or_le (rd t (k : Int)) (rd x (k : Int)) with h' | h'
        · exact absurd ⟨k, h, h'⟩ hno
        · exact h'
      · have : k = j := by omega
        subst this
        omega
    have := pre_lt hl (j + 1) (by omega) hle ⟨j, by omega, hjlt⟩
    have := hp (j + 1)
    omega
  obtain ⟨i, hi, higt, hbtw⟩ := last_lt _ _ h2
  exact ⟨i, j, hi, hj, hjlt, hbef', higt, fun k h1 h2 => by
    have := hbtw k h1 h2
    omega⟩
theorem giveL_length (l : List Int) (f t a : Int) : (giveL l f t a).length = l.length := by
  unfold giveL
  rw [List.length_set, List.length_set]
theorem giveL_rd (l : List Int) (i j : Nat) (a : Int) (hi : i < l.length) (hj : j < l.length) (hij : i ≠ j) (k : Nat) : rd (giveL l (i : Int) (j : Int) a) (k : Int) = if k = j then rd l (j : Int) + a else if k = i then rd l (i : Int) - a else rd l (k : Int) := by
  unfold giveL
  by_cases h1 : k = j
  · subst h1
    rw [if_pos rfl, rd_set_self _ (by omega) (by rw [List.length_set]; omega)]
  · rw [if_neg h1, rd_set_ne _ (by omega) (by omega) (by omega)]
    by_cases h2 : k = i
    · subst h2
      rw [if_pos rfl, rd_set_self _ (by omega) (by omega)]
    · rw [if_neg h2, rd_set_ne _ (by omega) (by omega) (by omega)]
theorem giveL_pre (l : List Int) (i j : Nat) (a : Int) (hi : i < l.length) (hj : j < l.length) (hij : i ≠ j) : ∀ m : Nat, m ≤ l.length → pre (giveL l (i : Int) (j : Int) a) m = pre l m - (if i < m then a else 0) + (if j < m then a else 0)
  | 0, _ => by rw [pre_zero, pre_zero, if_neg (by omega), if_neg (by omega)]; omega
  | m + 1, h => by
    rw [pre_succ (by rw [giveL_length]; omega), pre_succ (by omega), giveL_pre l i j a hi hj hij m (by omega), giveL_rd l i j a hi hj hij m]
    by_cases h1 : m = j
    · subst h1
      rw [if_pos rfl, if_neg (show ¬ m < m by omega), if_pos (show m < m + 1 by omega)]
      by_cases h3 : i < m
      · rw [if_pos h3, if_pos (by omega)]; omega
      · rw [if_neg h3, if_neg (by omega)]; omega
    · rw [if_neg h1]
      by_cases h2 : m = i
      · subst h2
        rw [if_pos rfl, if_neg (show ¬ m < m by omega), if_pos (show m < m + 1 by omega)]
        by_cases h3 : j < m
        · rw [if_pos h3, if_pos (by omega)]; omega
        · rw [if_neg h3, if_neg (by omega)]; omega
      · rw [if_neg h2]
        have e1 : i < m + 1 ↔ i < m := by omega
        have e2 : j < m + 1 ↔ j < m := by omega
        simp only [e1, e2]
        omega
theorem giveL_sum (l : List Int) (i j : Nat) (a : Int) (hi : i < l.length) (hj : j < l.length) (hij : i ≠ j) : (giveL l (i : Int) (j : Int) a).sum = l.sum := by
  have h := giveL_pre l i j a hi hj hij l.length (Nat.le_refl _)
  rw [pre_all (by rw [giveL_length]; omega), pre_all (Nat.le_refl _), if_pos hi, if_pos hj] at h
  omega
end Go.Proofs.Ytkpojaooolefjaa.A

namespace Go.Proofs.Ytkpojaooolefjaa.A
open Go.RowKit Go.Proofs.YtkpojaooolefjaaW.PrintWords Go.Proofs.YtkpojaooolefjaaW.PrintLast Go.Proofs.YtkpojaooolefjaaW.PrintMore
set_option linter.unusedVariables false
set_option linter.unusedSimpArgs false
theorem partL_desc (x : List Int) : partL (descL x) = partL x := by
  unfold partL
  rw [descL_descL]
theorem majB_descR (a x : List Int) : majB a (descL x) = majB a x := by
  have h : majB a (descL x) = true ↔ majB a x = true := by
    rw [majB_dom, majB_dom, descL_descL]
  cases h1 : majB a (descL x) <;> cases h2 : majB a x <;> simp_all
/-- Whether a unit gift leads to a list that majorizes a still. -/
def unitB (p a : List Int) (i j : Nat) : Bool := kindB p (i : Int) (j : Int) 1 && majB a (giveL p (i : Int) (j : Int) 1)
def unitF (p a : List Int) (i j : Nat) : Option (List Int) := if unitB p a i j = true then some (descL (giveL p (i : Int) (j : Int) 1)) else none
def rowU (p a : List Int) (i j d : Nat) : List (List Int) := (List.range' j d).filterMap (unitF p a i)
def allU (p a : List Int) (i d : Nat) : List (List Int) := (List.range' i d).flatMap fun i => rowU p a i 0 p.length
theorem rowU_succ (p a : List Int) (i j d : Nat) : rowU p a i j (d + 1) = (if unitB p a i j = true then [descL (giveL p (i : Int) (j : Int) 1)] else []) ++ rowU p a i (j + 1) d := by
  unfold rowU
  rw [List.range'_succ, List.filterMap_cons]
  unfold unitF
  by_cases h : unitB p a i j = true
  · simp only [if_pos h]
    rfl
  · simp only [if_neg h]
    rfl
theorem rowU_le (p a : List Int) (i j d : Nat) : (rowU p a i j d).length ≤ d := by
  unfold rowU
  have := List.length_filterMap_le (unitF p a i) (List.range' j d)
  rw [List.length_range'] at this
  exact this
theorem allU_succ (p a : List Int) (i d : Nat) : allU p a i (d + 1) = rowU p a i 0 p.length ++ allU p a (i + 1) d := by
  unfold allU
  rw [List.range'_succ, List.flatMap_cons]
theorem allU_le (p a : List Int) : ∀ (d i : Nat), (allU p a i d).length ≤ d * p.length
  | 0, i => by simp [allU]
  | d + 1, i => by
    rw [allU_succ, List.length_append, Nat.succ_mul]
    have := allU_le p a d (i + 1)
    have := rowU_le p a i 0 p.length
    omega
theorem unit_give {p : List Int} {i j : Nat} (hg : goodL p = true) (h : kindB p (i : Int) (j : Int) 1 = true) : canB p (i : Int) (j : Int) 1 = true ∧ goodL (giveL p (i : Int) (j : Int) 1) = true ∧ spec_giDo.f p (i : Int) (j : Int) 1 = some (giveL p (i : Int) (j : Int) 1) := by
  unfold kindB at h
  simp only [Bool.and_eq_true, decide_eq_true_eq] at h
  obtain ⟨h1, h2, h3⟩ := h
  obtain ⟨q1, q2, q3, q4⟩ := (isG_iff _ _ _ _).1 h1
  have b1 := rd_good hg q1.1 q1.2
  have b2 := rd_good hg q2.1 q2.2
  have hb := (goodL_iff p).1 hg
  refine ⟨(canB_iff _ _ _ _).2 ⟨h1, by omega, by omega⟩, (give_good p _ _ _ _ hg q1 q2 q3).2 (by omega), ?_⟩
  rw [giDo_eq p _ _ _ (by omega) q1 q2 q3, w64 (x := rd p (i : Int) - 1) (by omega) (by omega), w64 (x := rd p (j : Int) + 1) (by omega) (by omega)]
  rfl
theorem implUnits_row (p a : List Int) (hp : goodL p = true) (ha : Sm a) (i : Nat) (r : List (List Int)) : ∀ (d j : Nat) (acc : List (List Int)), j + d = p.length → acc.length + d ≤ 1000000 → Ev (fun k => impl_unitsFrom.l0 k p a (acc ++ rowU p a i j d) (p.length : Int) (wrap64 ((i : Int) + 1))) r → Ev (fun k => impl_unitsFrom.l1 k p a acc (i : Int) (p.length : Int) (i : Int) (p.length : Int) (j : Int)) r
  | 0, j, acc, h, hb, hr => by
    refine Ev.succ ?_
    simp only [impl_unitsFrom.l1, if_neg (show ¬ (j : Int) < (p.length : Int) by omega)]
    simpa [rowU] using hr
  | d + 1, j, acc, h, hb, hr => by
    have hj : j < p.length := by omega
    have hlen := (goodL_iff p).1 hp
    refine Ev.succ ?_
    simp only [impl_unitsFrom.l1, if_pos (show (j : Int) < (p.length : Int) by omega), isKind_eq p _ _ _ hp, Option.bind_some, wsucc hj (by omega)]
    rw [rowU_succ] at hr
    by_cases hk : kindB p (i : Int) (j : Int) 1 = true
    · obtain ⟨hc, hgg, _⟩ := unit_give hp hk
      simp only [hk, if_true, given_can p _ _ _ hp hc, ranking_eq (good_sm hgg), Option.bind_some]
      refine Ev.bind (isMajorized_ev a _ ha (sm_desc (good_sm hgg))) ?_
      rw [majB_descR]
      by_cases hm : majB a (giveL p (i : Int) (j : Int) 1) = true
      · have hu : unitB p a i j = true := by unfold unitB; rw [hk, hm]; rfl
        rw [if_pos hu] at hr
        simp only [hm, if_true, if_pos (show acc.length < 5864062014805 by omega)]
        exact implUnits_row p a hp ha i r d (j + 1) _ (by omega) (by rw [List.length_append, List.length_singleton]; omega) (by rw [List.append_assoc]; exact hr)
      · have hu : ¬ unitB p a i j = true := by unfold unitB; rw [hk, Bool.eq_false_iff.2 hm]; decide
        rw [if_neg hu, List.nil_append] at hr
        simp only [if_neg hm]
        exact implUnits_row p a hp ha i r d (j + 1) _ (by omega) (by omega) hr
    · have hu : ¬ unitB p a i j = true := by unfold unitB; rw [Bool.eq_false_iff.2 hk]; exact Bool.false_ne_true
      rw [if_neg hu, List.nil_append] at hr
      simp only [if_neg hk]
      exact implUnits_row p a hp ha i r d (j + 1) _ (by omega) (by omega) hr
theorem implUnits_all (p a : List Int) (hp : goodL p = true) (ha : Sm a) : ∀ (d i : Nat) (acc : List (List Int)), i + d = p.length → acc.length + d * p.length ≤ 1000 → Ev (fun k => impl_unitsFrom.l0 k p a acc (p.length : Int) (i : Int)) (acc ++ allU p a i d)
  | 0, i, acc, h, hb => by
    refine Ev.succ ?_
    simp only [impl_unitsFrom.l0, if_neg (show ¬ (i : Int) < (p.length : Int) by omega)]
    simp only [allU, List.range'_zero, List.flatMap_nil, List.append_nil]
    exact Ev.now _
  | d + 1, i, acc, h, hb => by
    have hlen := (goodL_iff p).1 hp
    rw [Nat.succ_mul] at hb
    refine Ev.succ ?_
    simp only [impl_unitsFrom.l0, if_pos (show (i : Int) < (p.length : Int) by omega)]
    refine implUnits_row p a hp ha i _ p.length 0 acc (by omega) (by omega) ?_
    rw [wsucc (show i < p.length by omega) (by omega), allU_succ, ← List.append_assoc]
    have hr := rowU_le p a i 0 p.length
    exact implUnits_all p a hp ha d (i + 1) _ (by omega) (by rw [List.length_append]; omega)
theorem unitsFrom_ev (p a : List Int) (hp : goodL p = true) (ha : Sm a) : Ev (fun k => impl_unitsFrom.f k p a) (allU p a 0 p.length) := by
  have hlen := (goodL_iff p).1 hp
  have hm : p.length * p.length ≤ 8 * 8 := Nat.mul_le_mul hlen.2.1 hlen.2.1
  have := implUnits_all p a hp ha p.length 0 [] (by omega) (by rw [List.length_nil]; omega)
  rw [List.nil_append] at this
  exact this
theorem specBetween_row (p a : List Int) (hp : goodL p = true) (ha : Sm a) (i : Nat) (r : Int × Bool) : ∀ (d j : Nat) (c : Int), j + d = p.length → 0 ≤ c → c + d ≤ 1000000 → Ev (fun k => spec_GiftsBetween.l0 k a p (c + ((rowU p a i j d).length : Int)) (p.length : Int) (wrap64 ((i : Int) + 1))) r → Ev (fun k => spec_GiftsBetween.l1 k a p c (i : Int) (p.length : Int) (i : Int) (p.length : Int) (j : Int)) r
  | 0, j, c, h, h0, hb, hr => by
    refine Ev.succ ?_
    simp only [spec_GiftsBetween.l1, if_neg (show ¬ (j : Int) < (p.length : Int) by omega)]
    simpa [rowU] using hr
  | d + 1, j, c, h, h0, hb, hr => by
    have hj : j < p.length := by omega
    have hlen := (goodL_iff p).1 hp
    refine Ev.succ ?_
    simp only [spec_GiftsBetween.l1, if_pos (show (j : Int) < (p.length : Int) by omega), giKind_eq p _ _ _ hp, Option.bind_some, wsucc hj (by omega)]
    rw [rowU_succ] at hr
    by_cases hk : kindB p (i : Int) (j : Int) 1 = true
    · obtain ⟨hc, hgg, hdo⟩ := unit_give hp hk
      simp only [hk, if_true, hdo, Option.bind_some]
      refine Ev.bind (liBelow_ev a _ ha (good_sm hgg)) ?_
      by_cases hm : majB a (giveL p (i : Int) (j : Int) 1) = true
      · have hu : unitB p a i j = true := by unfold unitB; rw [hk, hm]; rfl
        rw [if_pos hu, List.length_append, List.length_singleton] at hr
        simp only [hm, if_true, w64 (x := c + 1) (by omega) (by omega)]
        refine specBetween_row p a hp ha i r d (j + 1) (c + 1) (by omega) (by omega) (by omega) ?_
        rw [show c + 1 + ((rowU p a i (j + 1) d).length : Int) = c + ((1 + (rowU p a i (j + 1) d).length : Nat) : Int) by omega]
        exact hr
      · have hu : ¬ unitB p a i j = true := by unfold unitB; rw [hk, Bool.eq_false_iff.2 hm]; decide
        rw [if_neg hu, List.nil_append] at hr
        simp only [if_neg hm]
        exact specBetween_row p a hp ha i r d (j + 1) c (by omega) h0 (by omega) hr
    · have hu : ¬ unitB p a i j = true := by unfold unitB; rw [Bool.eq_false_iff.2 hk]; exact Bool.false_ne_true
      rw [if_neg hu, List.nil_append] at hr
      simp only [if_neg hk]
      exact specBetween_row p a hp ha i r d (j + 1) c (by omega) h0 (by omega) hr
theorem specBetween_all (p a : List Int) (hp : goodL p = true) (ha : Sm a) : ∀ (d i : Nat) (c : Int), i + d = p.length → 0 ≤ c → c + d * p.length ≤ 1000 → Ev (fun k => spec_GiftsBetween.l0 k a p c (p.length : Int) (i : Int)) (c + ((allU p a i d).length : Int), true)
  | 0, i, c, h, h0, hb => by
    refine Ev.succ ?_
    simp only [spec_GiftsBetween.l0, if_neg (show ¬ (i : Int) < (p.length : Int) by omega)]
    simp only [allU, List.range'_zero, List.flatMap_nil, List.length_nil]
    rw [show c + ((0 : Nat) : Int) = c by omega]
    exact Ev.now _
  | d + 1, i, c, h, h0, hb => by
    have hlen := (goodL_iff p).1 hp
    have e : ((d + 1 : Nat) : Int) * (p.length : Int) = d * p.length + p.length := by rw [Int.natCast_add, Int.add_mul]; simp
    rw [e] at hb
    have hnn : (0 : Int) ≤ d * p.length := Int.mul_nonneg (by omega) (by omega)
    refine Ev.succ ?_
    simp only [spec_GiftsBetween.l0, if_pos (show (i : Int) < (p.length : Int) by omega)]
    refine specBetween_row p a hp ha i _ p.length 0 c (by omega) h0 (by omega) ?_
    have hr := rowU_le p a i 0 p.length
    rw [wsucc (show i < p.length by omega) (by omega), allU_succ, List.length_append, show c + ((rowU p a i 0 p.length).length + (allU p a (i + 1) d).length : Nat) = c + ((rowU p a i 0 p.length).length : Int) + ((allU p a (i + 1) d).length : Int) by omega]
    exact specBetween_all p a hp ha d (i + 1) _ (by omega) (by omega) (by omega)
def betweenR (a b : List Int) : Int × Bool := if goodL a = true then (if goodL b = true then (if fitB a b = true then (((allU (descL b) a 0 b.length).length : Int), true) else (0, false)) else (0, false)) else (0, false)
theorem specGiftsBetween_ev (a b : List Int) (ha : a.length ≤ 1048576) (hb : b.length ≤ 1048576) : Ev (fun k => spec_GiftsBetween.f k a b) (betweenR a b) := by
  unfold spec_GiftsBetween.f betweenR
  have J : Ev (fun k => spec_GiftsBetween.j0 k a b true) ((0 : Int), false) := Ev.succ (by simp only [spec_GiftsBetween.j0, if_true]; exact Ev.now _)
  refine Ev.bind (liGood_ev a (by omega)) (Ev.ite (fun ga => ?_) (fun _ => J))
  refine Ev.bind (liGood_ev b (by omega)) (Ev.ite (fun gb => ?_) (fun _ => J))
  refine Ev.bind (liFit_ev a b (good_sm ga) (good_sm gb)) ?_
  by_cases hf : fitB a b = true
  · simp only [hf, Bool.not_true, if_true]
    refine Ev.succ ?_
    simp only [spec_GiftsBetween.j0, Bool.false_eq_true, if_false]
    refine Ev.bind (liRank_ev b (by have := (good_sm gb).1; omega)) ?_
    have gb' : goodL (descL b) = true := by rw [good_desc]; exact gb
    have hlen := (goodL_iff _).1 gb'
    have hm : (descL b).length * (descL b).length ≤ 8 * 8 := Nat.mul_le_mul hlen.2.1 hlen.2.1
    have := specBetween_all (descL b) a gb' (good_sm ga) (descL b).length 0 0 (by omega) (by omega) (by rw [← Int.natCast_mul]; omega)
    rw [Int.zero_add, descL_length] at this
    rw [descL_length]
    exact this
  · have hf' : fitB a b = false := Bool.eq_false_iff.2 hf
    simp only [hf', Bool.not_false, Bool.false_eq_true, if_false]
    exact J
theorem implGiftsBetween_ev (a b : List Int) (ha : a.length ≤ 1048576) (hb : b.length ≤ 1048576) : Ev (fun k => impl_GiftsBetween.f k a b) (betweenR a b) := by
  unfold impl_GiftsBetween.f betweenR
  have J : Ev (fun k => impl_GiftsBetween.j0 k a b true) ((0 : Int), false) := Ev.succ (by simp only [impl_GiftsBetween.j0, if_true]; exact Ev.now _)
  refine Ev.bind (areLists_ev a b ha hb) ?_
  by_cases ga : goodL a = true
  · by_cases gb : goodL b = true
    · simp only [ga, gb, if_true]
      refine Ev.bind (doFit_ev a b (good_sm ga) (good_sm gb)) ?_
      by_cases hf : fitB a b = true
      · simp only [hf, Bool.not_true, if_true]
        refine Ev.succ ?_
        simp only [impl_GiftsBetween.j0, Bool.false_eq_true, if_false, ranking_eq (good_sm gb), Option.bind_some]
        have gb' : goodL (descL b) = true := by rw [good_desc]; exact gb
        have := unitsFrom_ev (descL b) a gb' (good_sm ga)
        rw [descL_length] at this
        exact Ev.bind this (Ev.now _)
      · have hf' : fitB a b = false := Bool.eq_false_iff.2 hf
        simp only [hf', Bool.not_false, Bool.false_eq_true, if_false]
        exact J
    · simp only [ga, if_true, if_neg gb]
      exact J
  · simp only [if_neg ga, Bool.false_eq_true, if_false]
    exact J
end Go.Proofs.Ytkpojaooolefjaa.A

namespace Go.Proofs.Ytkpojaooolefjaa.A
open Go.RowKit Go.Proofs.YtkpojaooolefjaaW.PrintWords Go.Proofs.YtkpojaooolefjaaW.PrintLast Go.Proofs.YtkpojaooolefjaaW.PrintMore
set_option linter.unusedVariables false
set_option linter.unusedSimpArgs false
theorem eqIntS_l (xs ys : List Int) (hx : xs.length ≤ 9223372036854775807) (hl : xs.length = ys.length) : ∀ (n i : Nat), i + n = xs.length → Ev (fun k => laws_eqIntS.l0 k xs ys (i : Int)) (decide (xs.drop i = ys.drop i))
  | 0, i, h => by
    refine Ev.succ ?_
    simp only [laws_eqIntS.l0, if_neg (show ¬ (i : Int) < (xs.length : Int) by omega)]
    rw [List.drop_eq_nil_of_le (by omega), List.drop_eq_nil_of_le (by omega)]
    exact Ev.now _
  | n + 1, i, h => by
    have hi : i < xs.length := by omega
    have hj : i < ys.length := by omega
    refine Ev.succ ?_
    simp only [laws_eqIntS.l0, if_pos (show (i : Int) < (xs.length : Int) by omega), if_pos (show (i : Int) < (ys.length : Int) by omega), if_pos (show (0 : Int) ≤ (i : Int) by omega), rdn hi, rdn hj, wsucc hi hx]
    rw [List.drop_eq_getElem_cons hi, List.drop_eq_getElem_cons hj]
    by_cases c : xs[i] = ys[i]
    · simp only [c, if_true, List.cons.injEq, true_and]
      exact eqIntS_l xs ys hx hl n (i + 1) (by omega)
    · simp only [c, if_false, List.cons.injEq, false_and, decide_false]
      exact Ev.now _
theorem eqIntS_ev (xs ys : List Int) (hx : xs.length ≤ 9223372036854775807) : Ev (fun k => laws_eqIntS.f k xs ys) (decide (xs = ys)) := by
  unfold laws_eqIntS.f
  by_cases h : xs.length = ys.length
  · simp only [if_pos (show (xs.length : Int) = (ys.length : Int) by omega)]
    exact eqIntS_l xs ys hx h xs.length 0 (by omega)
  · simp only [if_neg (show ¬ (xs.length : Int) = (ys.length : Int) by omega)]
    rw [decide_eq_false (fun e => h (by rw [e]))]
    exact Ev.now _
theorem eqIntS_self (xs : List Int) (hx : xs.length ≤ 9223372036854775807) : Ev (fun k => laws_eqIntS.f k xs xs) true := by
  have h := eqIntS_ev xs xs hx
  rw [decide_eq_true rfl] at h
  exact h
end Go.Proofs.Ytkpojaooolefjaa.A

namespace Go.Proofs.Ytkpojaooolefjaa.A
open Go.RowKit Go.Proofs.YtkpojaooolefjaaW.PrintWords Go.Proofs.YtkpojaooolefjaaW.PrintLast Go.Proofs.YtkpojaooolefjaaW.PrintMore
set_option linter.unusedVariables false
set_option linter.unusedSimpArgs false
theorem toIntS_l (xs : List Int) (hx : xs.length ≤ 35184372088832) : ∀ (n i : Nat) (ys : List Int), i + n = xs.length → ys.length = xs.length → ys.take i = xs.take i → Ev (fun k => laws_toIntS.l0 k xs ys (i : Int)) xs
  | 0, i, ys, h, hl, ht => by
    refine Ev.succ ?_
    simp only [laws_toIntS.l0, if_neg (show ¬ (i : Int) < (xs.length : Int) by omega)]
    rw [List.take_of_length_le (by omega), List.take_of_length_le (by omega)] at ht
    rw [ht]
    exact Ev.now _
  | n + 1, i, ys, h, hl, ht => by
    have hi : i < xs.length := by omega
    refine Ev.succ ?_
    simp only [laws_toIntS.l0, if_pos (show (i : Int) < (xs.length : Int) by omega), if_pos (show (i : Int) < (ys.length : Int) by omega), if_pos (show (0 : Int) ≤ (i : Int) by omega), rdn hi, wsucc hi (by omega), Int.toNat_natCast]
    refine toIntS_l xs hx n (i + 1) _ (by omega) (by rw [List.length_set]; exact hl) ?_
    rw [List.take_add_one, List.take_add_one, List.take_set_of_le (Nat.le_refl _), ht]
    congr 1
    rw [List.getElem?_set_self (by omega), List.getElem?_eq_getElem hi]
theorem toIntS_ev (xs : List Int) (hx : xs.length ≤ 35184372088832) : Ev (fun k => laws_toIntS.f k xs) xs := by
  unfold laws_toIntS.f
  simp only [if_pos (show (0 : Int) ≤ (xs.length : Int) by omega), Int.toNat_natCast, if_pos hx]
  exact toIntS_l xs hx xs.length 0 _ (by omega) (by simp) (by simp)
end Go.Proofs.Ytkpojaooolefjaa.A

/- The law FnExactGiftsBetween holds of the printed functions, for every argument: numbers and lists alone. -/
namespace Go.Proofs.Ytkpojaooolefjaa.Pure
open Go.RowKit Go.Proofs.Ytkpojaooolefjaa.A Go.Proofs.YtkpojaooolefjaaW.PrintWords Go.Proofs.YtkpojaooolefjaaW.PrintLast
set_option linter.unusedVariables false
set_option linter.unusedSimpArgs false
theorem FnExactGiftsBetween : laws_FnExactGiftsBetween.Pure := by
  intro l0 l1 _ _ _ _ _ _
  apply Ev.get
  unfold laws_FnExactGiftsBetween.f
  by_cases hl0 : (l0.length : Int) > 1048576
  · simp only [if_pos hl0]
    exact Ev.now _
  simp only [if_neg hl0]
  by_cases hl1 : (l1.length : Int) > 1048576
  · simp only [if_pos hl1]
    exact Ev.now _
  simp only [if_neg hl1]
  refine Ev.bind (toIntS_ev l0 (by omega)) ?_
  refine Ev.bind (toIntS_ev l1 (by omega)) ?_
  refine Ev.bind (specGiftsBetween_ev l0 l1 (by omega) (by omega) ) ?_
  refine Ev.bind (toIntS_ev l0 (by omega)) ?_
  refine Ev.bind (toIntS_ev l1 (by omega)) ?_
  refine Ev.bind (implGiftsBetween_ev l0 l1 (by omega) (by omega) ) ?_
  first | simp only [bne_self_eq_false, if_true, Bool.false_eq_true, if_false] | skip
  refine Ev.succ ?_
  simp only [laws_FnExactGiftsBetween.j0, Bool.false_eq_true, if_false]
  refine Ev.bind (toIntS_ev l0 (by omega)) ?_
  refine Ev.bind (eqIntS_self _ (by omega)) ?_
  first | simp only [bne_self_eq_false, if_true, Bool.false_eq_true, if_false] | skip
  refine Ev.bind (toIntS_ev l1 (by omega)) ?_
  refine Ev.bind (eqIntS_self _ (by omega)) ?_
  first | simp only [bne_self_eq_false, if_true, Bool.false_eq_true, if_false] | skip
  exact Ev.now _
end Go.Proofs.Ytkpojaooolefjaa.Pure
