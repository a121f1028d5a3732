/- What the law FnMixesAndStacks reaches, part 3: Lean functions with the same answers as the Go functions, the proofs that the Go code comes to these answers, and lemmas about them; no condition beyond those that each theorem names. -/
import Derived.Test.YtnlimjejllakoaaCFnMixesAndStacksw1
import Derived.Lib.VarintBits
import Derived.Lib.Zigzag
import Derived.Test.YtnlimjejllakoaaCFnMixesAndStacks1
import Derived.Test.YtnlimjejllakoaaCFnMixesAndStacks2
-- made by a program of this repo (wip/pp.py) through the kit's printer
namespace Go.Proofs.Ytnlimjejllakoaa.A
open Go.RowKit Go.Proofs.YtnlimjejllakoaaW.PrintWords Go.Proofs.YtnlimjejllakoaaW.PrintLast Go.Proofs.YtnlimjejllakoaaW.PrintMore
attribute [local go_sem] max2_int min2_int max_two min_two max_three min_three max_four min_four
set_option linter.unusedVariables false
set_option linter.unusedSimpArgs false

/-! ### spec_DrawStackLists: function 40 -/
def spec_DrawStackLists.f (k : Nat) (l0 : List Int) : Option (List Int × List Int) := (spec_l1Cur_list.f k l0 0 0 9).bind fun bt717 => ((spec_l1Cur_anyList.f k l0 bt717.2.1 bt717.2.2 9).bind fun bt722 => (some (bt717.1, bt722.1)))
set_option maxHeartbeats 8000000 in
set_option maxRecDepth 100000 in
theorem spec_DrawStackLists.calls (k : Nat) (A0 : Option Addr) (c0 : Nat) (l0 : List Int) (r1 : List Int) (r2 : List Int) (w : World) (hr0 : Kd.C (Kd.int .u8) w A0 l0.length l0) (hc0 : l0.length ≤ c0) (h : spec_DrawStackLists.f k l0 = some (r1, r2)) :
 Calls Try.prog 40 #[.slice A0 l0.length c0] w fun e w' => ∃ v0_ v1_ : Value, e = .returned (.tuple #[v0_, v1_]) ∧ Kd.R (Kd.int .i64) 3 w' w.heap.size (fun k_ => some k_ ≠ (v1_ : Value).ownBlock) v0_ r1 ∧ Kd.R (Kd.int .i64) 3 w' w.heap.size (fun k_ => some k_ ≠ (v0_ : Value).ownBlock) v1_ r2 ∧ Below w.heap.size w w' := by
 have hu75 := Try.underlying75
 have HR0 := Aside0.mk hr0
 have HC0 := Aside0.mk hc0
 clear hr0 hc0
 have HB := Aside0.mk (Below.refl w.heap.size w)
 have H : ((spec_l1Cur_list.f k l0 0 0 9).bind fun bt717 => ((spec_l1Cur_anyList.f k l0 bt717.2.1 bt717.2.2 9).bind fun bt722 => (some (bt717.1, bt722.1)))) = some (r1, r2) := h
 clear h
 replace H := Option.bind_eq_some_iff.mp H
 obtain ⟨⟨t717, t720, t721⟩, A20, H⟩ := H
 replace H : ((spec_l1Cur_anyList.f k l0 t720 t721 9).bind fun bt722 => (some (t717, bt722.1))) = some (r1, r2) := H
 have A2 := Aside0.mk A20
 clear A20
 replace H := Option.bind_eq_some_iff.mp H
 obtain ⟨⟨t722, t725, t726⟩, A30, H⟩ := H
 replace H : (some (t717, t722)) = some (r1, r2) := H
 have A3 := Aside0.mk A30
 clear A30
 simp only [Option.some.injEq, Prod.mk.injEq] at H
 obtain ⟨rfl, rfl⟩ := H
 go_enter Try.func40, Try.ntmps40
 go_wp2_with (first | ((with_reducible refine gate_dst (N := 7) rfl ?_); refine box_event ?hg (N := 7) ?hd (cs := #[.slice A0 l0.length c0, .int .i64 0, .int .u64 0]) (t := 75) ?hr ?_; (case hd => rfl); (case hg => rfl); (case hr => first | (go_simp; done) | (go_simp; rfl)); intro gb716 hg w4 hbox hb; have n0_ := Aside0.mk (below_step (by repeat (first | (with_reducible first | exact HB.out | apply below_alloc | apply pw_below_drewN | apply below_drew1) | exact HB.out)) hb); have n1_ := Aside0.mk ((show IsS75 w w4 gb716 l0 0 0 from ⟨_, _, hbox, (by rw [hg]; exact (below_size (by repeat (first | (with_reducible first | exact HB.out | apply below_alloc | apply pw_below_drewN | apply below_drew1) | exact HB.out)))), HR0.out⟩)); clear HB; have HB := n0_; have HI716 := n1_; clear n0_ n1_; clear hb hbox hg) | ((with_reducible refine gate_callee (f := 109) rfl ?_); refine goesL_ (some 9) rfl rfl Try.func109 (by kernel_rfl) rfl #[.pointer (some ⟨gb716, 0, none⟩), .int .i64 9] rfl (by (try simp only [List.map_toArray, List.map_cons, List.map_nil]); first | done | rfl | (simp only [List.length_drop, List.length_take]; rfl)) ?_; (with_reducible refine (spec_l1Cur_list.calls k gb716 l0 0 0 9 t717 t720 t721 w _ ?side1 ?side2 A2.out).mono ?_); (case side1 => repeat (first | (with_reducible first | exact HI716.out | apply IsS75.alloc | apply IsS75.drewN | apply IsS75.drew | apply IsS75.set_1 | apply IsS75.set_2) | exact HI716.out)); (case side2 => repeat (first | (with_reducible first | exact HB.out | apply below_alloc | apply pw_below_drewN | apply below_drew1 | refine below_set ?_ (IsS75.ge HI716.out)) | exact HB.out)); rintro e w5 ⟨v718, rfl, ho0, hi, hb, hk⟩; refine ⟨_, rfl, ?_⟩; have n0_ := Aside0.mk (Kd.R_lower ho0 (below_size (by repeat (first | (with_reducible first | exact HB.out | apply below_alloc | apply pw_below_drewN | apply below_drew1 | refine below_set ?_ (IsS75.ge HI716.out)) | exact HB.out)))); have n1_ := Aside0.mk (hb); have n2_ := Aside0.mk (hi); clear HB; clear HI716; have HO719 := n0_; have HB := n1_; have HI716 := n2_; clear n0_ n1_ n2_; (try clear hb); (try clear hb2); (try clear hk); (try clear hi); (try clear ho0)) | ((with_reducible refine gate_callee (f := 90) rfl ?_); refine goesL_ (some 11) rfl rfl Try.func90 (by kernel_rfl) rfl #[.pointer (some ⟨gb716, 0, none⟩), .int .i64 9] rfl (by (try simp only [List.map_toArray, List.map_cons, List.map_nil]); first | done | rfl | (simp only [List.length_drop, List.length_take]; rfl)) ?_; (with_reducible refine (spec_l1Cur_anyList.calls k gb716 l0 t720 t721 9 t722 t725 t726 w _ ?side1 ?side2 A3.out).mono ?_); (case side1 => repeat (first | (with_reducible first | exact HI716.out | apply IsS75.alloc | apply IsS75.drewN | apply IsS75.drew | apply IsS75.set_1 | apply IsS75.set_2) | exact HI716.out)); (case side2 => repeat (first | (with_reducible first | exact HB.out | apply below_alloc | apply pw_below_drewN | apply below_drew1 | refine below_set ?_ (IsS75.ge HI716.out)) | exact HB.out)); rintro e w6 ⟨v723, rfl, ho0, hi, hb, hk⟩; refine ⟨_, rfl, ?_⟩; have n0_ := Aside0.mk (Kd.R_mono (Kd.R_told (Kd.R_oldK (IsS75.apart (show IsS75 w _ gb716 l0 t720 t721 from by repeat (first | (with_reducible first | exact HI716.out | apply IsS75.alloc | apply IsS75.drewN | apply IsS75.drew | apply IsS75.set_1 | apply IsS75.set_2) | exact HI716.out)) (by (with_reducible repeat (first | apply Kd.R_alloc | apply Kd.R_drewN | apply Kd.R_drew)); exact HO719.out) (by decide)) hk) (Kd.R_base ho0)) (fun _ h_ => h_.1)); have n1_ := Aside0.mk (Kd.R_lower (Kd.R_new' ho0 (Kd.R_lt (by (with_reducible repeat (first | apply Kd.R_alloc | apply Kd.R_drewN | apply Kd.R_drew)); exact HO719.out))) (below_size (by repeat (first | (with_reducible first | exact HB.out | apply below_alloc | apply pw_below_drewN | apply below_drew1 | refine below_set ?_ (IsS75.ge HI716.out)) | exact HB.out)))); have n2_ := Aside0.mk (hb); have n3_ := Aside0.mk (hi); clear HO719; clear HB; clear HI716; have HO719 := n0_; have HO724 := n1_; have HB := n2_; have HI716 := n3_; clear n0_ n1_ n2_ n3_; (try clear hb); (try clear hb2); (try clear hk); (try clear hi); (try clear ho0)))
 go_ret2
 exact ⟨_, _, by first | rfl | (simp [errW_none, errW_some] <;> rfl) | (simp [*, errW_none, errW_some] <;> rfl), by (with_reducible repeat (first | apply Kd.R_alloc | apply Kd.R_drewN | apply Kd.R_drew)); exact Kd.R_mono HO719.out (fun _ hk => hk.2), by (with_reducible repeat (first | apply Kd.R_alloc | apply Kd.R_drewN | apply Kd.R_drew)); exact Kd.R_mono HO724.out (fun _ hk => hk.2), by repeat (first | (with_reducible first | exact HB.out | apply below_alloc | apply pw_below_drewN | apply below_drew1 | refine below_set ?_ (IsS75.ge HI716.out)) | exact HB.out)⟩

end Go.Proofs.Ytnlimjejllakoaa.A

-- made by a program of this repo (wip/pp.py) through the kit's printer
namespace Go.Proofs.Ytnlimjejllakoaa.A
open Go.RowKit Go.Proofs.YtnlimjejllakoaaW.PrintWords Go.Proofs.YtnlimjejllakoaaW.PrintLast Go.Proofs.YtnlimjejllakoaaW.PrintMore
attribute [local go_sem] max2_int min2_int max_two min_two max_three min_three max_four min_four
set_option linter.unusedVariables false
set_option linter.unusedSimpArgs false

/-! ### spec_StackLists: function 42 -/
def spec_StackLists.j0 : Nat → List Int → List Int → Bool → Option (List Int × Bool)
 | 0, _, _, _ => none
 | k + 1, x0, x1, x13 => if x13 = true then (some (([] : List Int), false)) else ((spec_l1Own.f x0).bind fun t730 => (if t730.length + x1.length < 17592186044416 then ((spec_liIf.f k (t730 ++ x1)).bind fun bt736 => (some (bt736.1, bt736.2))) else (none)))
def spec_StackLists.f (k : Nat) (l0 : List Int) (l1 : List Int) : Option (List Int × Bool) := (spec_liGood.f k l0).bind fun t728 => (if t728 = true then ((spec_liGood.f k l1).bind fun t729 => (spec_StackLists.j0 k l0 l1 (!t729))) else (spec_StackLists.j0 k l0 l1 true))
set_option maxHeartbeats 8000000 in
set_option maxRecDepth 100000 in
theorem spec_StackLists.calls (k : Nat) (A0 : Option Addr) (c0 : Nat) (l0 : List Int) (A1 : Option Addr) (c1 : Nat) (l1 : List Int) (r1 : List Int) (r2 : Bool) (w : World) (hr0 : Kd.C (Kd.int .i64) w A0 l0.length l0) (hc0 : l0.length ≤ c0) (hr1 : Kd.C (Kd.int .i64) w A1 l1.length l1) (hc1 : l1.length ≤ c1) (h : spec_StackLists.f k l0 l1 = some (r1, r2)) :
 Calls Try.prog 42 #[.slice A0 l0.length c0, .slice A1 l1.length c1] w fun e w' => ∃ v0_ : Value, e = .returned (.tuple #[v0_, .bool r2]) ∧ Kd.R (Kd.int .i64) 3 w' w.heap.size (fun _ => True) v0_ r1 ∧ Below w.heap.size w w' := by
 have HR0 := Aside0.mk hr0
 have HC0 := Aside0.mk hc0
 clear hr0 hc0
 have HR1 := Aside0.mk hr1
 have HC1 := Aside0.mk hc1
 clear hr1 hc1
 have HB := Aside0.mk (Below.refl w.heap.size w)
 have H : ((spec_liGood.f k l0).bind fun t728 => (if t728 = true then ((spec_liGood.f k l1).bind fun t729 => (spec_StackLists.j0 k l0 l1 (!t729))) else (spec_StackLists.j0 k l0 l1 true))) = some (r1, r2) := h
 clear h
 have HC3 := Aside0.mk H
 clear H
 go_enter Try.func42, Try.ntmps42
 go_upto_region 1 with (fail)
 go_cut [13] (fun v13 wc => ∃ (kq : Nat) (x13_2 : Bool), v13 = .bool x13_2 ∧ Aside0 (spec_StackLists.j0 kq l0 l1 x13_2 = some (r1, r2)) ∧ Aside0 (kq ≤ k) ∧ Aside0 (Below w.heap.size w wc))
 case first =>
  have H := HC3.out
  clear HC3
  replace H := Option.bind_eq_some_iff.mp H
  obtain ⟨t728, A40, H⟩ := H
  replace H : (if t728 = true then ((spec_liGood.f k l1).bind fun t729 => (spec_StackLists.j0 k l0 l1 (!t729))) else (spec_StackLists.j0 k l0 l1 true)) = some (r1, r2) := H
  have A4 := Aside0.mk A40
  clear A40
  by_cases c5 : t728 = true
  · subst c5
    have H1 : ((spec_liGood.f k l1).bind fun t729 => (spec_StackLists.j0 k l0 l1 (!t729))) = some (r1, r2) := by rw [if_pos rfl] at H; exact H
    clear H
    have H := H1
    clear H1
    replace H := Option.bind_eq_some_iff.mp H
    obtain ⟨t729, A60, H⟩ := H
    replace H : (spec_StackLists.j0 k l0 l1 (!t729)) = some (r1, r2) := H
    have A6 := Aside0.mk A60
    clear A60
    have H' := Aside0.mk H
    clear H
    go_wp2_with (first | ((with_reducible refine gate_callee (f := 94) rfl ?_); refine goesL_ (some 7) rfl rfl Try.func94 (by kernel_rfl) rfl #[.slice A0 l0.length c0] rfl (by (try simp only [List.map_toArray, List.map_cons, List.map_nil]); first | done | rfl | (simp only [List.length_drop, List.length_take]; rfl)) ?_; (with_reducible refine (spec_liGood.calls k _ _ l0 true _ ?side1 ?side2 A4.out).mono ?_); (case side1 => repeat (first | exact (Kd.C_below HR0.out HB.out) | (with_reducible refine Kd.C_alloc ?_ _) | (with_reducible refine Kd.C_drewN ?_ _) | (with_reducible refine Kd.C_drew ?_))); (case side2 => exact HC0.out); rintro e w' ⟨rfl, ⟨nd, rfl⟩⟩; refine ⟨_, rfl, ?_⟩) | (go_at_call 94; (with_reducible refine (spec_liGood.calls k _ _ l1 t729 _ ?side1 ?side2 A6.out).mono ?_); (case side1 => repeat (first | exact (Kd.C_below HR1.out (by repeat (first | (with_reducible first | exact HB.out | apply below_alloc | apply pw_below_drewN | apply below_drew1) | exact HB.out))) | (with_reducible refine Kd.C_alloc ?_ _) | (with_reducible refine Kd.C_drewN ?_ _) | (with_reducible refine Kd.C_drew ?_))); (case side2 => exact HC1.out); rintro e w' ⟨rfl, ⟨nd, rfl⟩⟩))
    go_meet
    case rel => exact ⟨_, (!t729), (by first | rfl | (simp; done) | (simp [*]; done)), H', ⟨by first | omega | exact Nat.le_refl _⟩, ⟨by repeat (first | (with_reducible first | exact HB.out | apply below_alloc | apply pw_below_drewN | apply below_drew1) | exact HB.out)⟩⟩
  · replace c5 := Bool.eq_false_iff.mpr c5
    subst c5
    have H1 : (spec_StackLists.j0 k l0 l1 true) = some (r1, r2) := by rw [if_neg (show ¬ (false = true) by decide)] at H; exact H
    clear H
    have H := H1
    clear H1
    have H' := Aside0.mk H
    clear H
    go_wp2_with (first | ((with_reducible refine gate_callee (f := 94) rfl ?_); refine goesL_ (some 7) rfl rfl Try.func94 (by kernel_rfl) rfl #[.slice A0 l0.length c0] rfl (by (try simp only [List.map_toArray, List.map_cons, List.map_nil]); first | done | rfl | (simp only [List.length_drop, List.length_take]; rfl)) ?_; (with_reducible refine (spec_liGood.calls k _ _ l0 false _ ?side1 ?side2 A4.out).mono ?_); (case side1 => repeat (first | exact (Kd.C_below HR0.out HB.out) | (with_reducible refine Kd.C_alloc ?_ _) | (with_reducible refine Kd.C_drewN ?_ _) | (with_reducible refine Kd.C_drew ?_))); (case side2 => exact HC0.out); rintro e w' ⟨rfl, ⟨nd, rfl⟩⟩; refine ⟨_, rfl, ?_⟩))
    go_meet
    case rel => exact ⟨_, (true), (by first | rfl | (simp; done) | (simp [*]; done)), H', ⟨by first | omega | exact Nat.le_refl _⟩, ⟨by repeat (first | (with_reducible first | exact HB.out | apply below_alloc | apply pw_below_drewN | apply below_drew1) | exact HB.out)⟩⟩
 case rest =>
  clear HC3
  try clear c1
  try clear p2
  try clear c4
  try clear c5
  obtain ⟨kq, x13_2, rfl, HA, HJ2, HB⟩ := hcut
  cases kq with
  | zero => exact absurd HA.out (by simp [spec_StackLists.j0])
  | succ kj2 =>
   have H := HA.out
   clear HA
   simp only [spec_StackLists.j0] at H
   by_cases c7 : x13_2 = true
   · subst c7
     have H1 : (some (([] : List Int), false)) = some (r1, r2) := by rw [if_pos rfl] at H; exact H
     clear H
     have H := H1
     clear H1
     simp only [Option.some.injEq, Prod.mk.injEq] at H
     obtain ⟨rfl, rfl⟩ := H
     go_wp2
     go_ret2
     exact ⟨_, by first | rfl | (simp [errW_none, errW_some] <;> rfl) | (simp [*, errW_none, errW_some] <;> rfl), by first | exact Kd.R_nil _ _ _ _ _ | exact Kd.N_nil _ _ _ _ _ | exact Kd.V_nil _ _ _ _ _ | exact Kd.Q_nil _ _ _ _ _ | exact Kd.S_nil _ _ _ _ _, by repeat (first | (with_reducible first | exact HB.out | apply below_alloc | apply pw_below_drewN | apply below_drew1) | exact HB.out)⟩
   · replace c7 := Bool.eq_false_iff.mpr c7
     subst c7
     have H1 : ((spec_l1Own.f l0).bind fun t730 => (if t730.length + l1.length < 17592186044416 then ((spec_liIf.f kj2 (t730 ++ l1)).bind fun bt736 => (some (bt736.1, bt736.2))) else (none))) = some (r1, r2) := by rw [if_neg (show ¬ (false = true) by decide)] at H; exact H
     clear H
     have H := H1
     clear H1
     replace H := Option.bind_eq_some_iff.mp H
     obtain ⟨t730, A80, H⟩ := H
     replace H : (if t730.length + l1.length < 17592186044416 then ((spec_liIf.f kj2 (t730 ++ l1)).bind fun bt736 => (some (bt736.1, bt736.2))) else (none)) = some (r1, r2) := H
     have A8 := Aside0.mk A80
     clear A80
     by_cases c9 : t730.length + l1.length < 17592186044416
     · rw [if_pos c9] at H
       have LMc9 := Aside0.mk c9
       clear c9
       obtain ⟨y733, hy733⟩ : ∃ y_ : List Int, y_ = (t730 ++ l1) := ⟨_, rfl⟩
       replace H : ((spec_liIf.f kj2 y733).bind fun bt736 => (some (bt736.1, bt736.2))) = some (r1, r2) := by first | (rw [hy733]; with_reducible exact H) | (have H2_ := (Option.bind_some _ _).symm.trans H; rw [hy733]; with_reducible exact H2_) | (have H2_ := (Option.bind_some _ _).symm.trans H; with_reducible exact H2_) | with_reducible exact H | (rw [hy733]; exact H) | exact H
       have Ny733 := Aside0.mk hy733
       clear hy733
       replace H := Option.bind_eq_some_iff.mp H
       obtain ⟨⟨t736, t739⟩, A100, H⟩ := H
       replace H : (some (t736, t739)) = some (r1, r2) := H
       have A10 := Aside0.mk A100
       clear A100
       simp only [Option.some.injEq, Prod.mk.injEq] at H
       obtain ⟨rfl, rfl⟩ := H
       go_wp2_with (first | ((with_reducible refine gate_callee (f := 111) rfl ?_); refine goesL_ (some 15) rfl rfl Try.func111 (by kernel_rfl) rfl #[.slice A0 l0.length c0] rfl (by (try simp only [List.map_toArray, List.map_cons, List.map_nil]); first | done | rfl | (simp only [List.length_drop, List.length_take]; rfl)) ?_; (with_reducible refine (spec_l1Own.calls _ _ l0 t730 _ ?side1 ?side2 A8.out).mono ?_); (case side1 => repeat (first | exact (Kd.C_below HR0.out HB.out) | (with_reducible refine Kd.C_alloc ?_ _) | (with_reducible refine Kd.C_drewN ?_ _) | (with_reducible refine Kd.C_drew ?_))); (case side2 => exact HC0.out); rintro e w11 ⟨v731, rfl, ho0, hb⟩; refine ⟨_, rfl, ?_⟩; have n0_ := Aside0.mk (Kd.R_lower ho0 (below_size (by repeat (first | (with_reducible first | exact HB.out | apply below_alloc | apply pw_below_drewN | apply below_drew1) | exact HB.out)))); have n1_ := Aside0.mk (below_step (by repeat (first | (with_reducible first | exact HB.out | apply below_alloc | apply pw_below_drewN | apply below_drew1) | exact HB.out)) hb); clear HB; have HO732 := n0_; have HB := n1_; clear n0_ n1_; (try clear hb); (try clear hb2); (try clear hk); (try clear hi); (try clear ho0)) | ((with_reducible refine gate_builtin (b := .append) (xs := #[.tmp 15, .tmp 16]) rfl ?_); at_builtin; refine Kd.R_append_rows (Kd.int .i64) (w0 := w) w.heap.size rfl (.tmp 15) (.tmp 16) 26 3 (.int .i64 0) 8 rfl Try.underlying26 info3 rfl (by decide) (by omega) v731 t730 l1 _ _ _ (fun _ => True) (fun _ => False) rfl rfl ?aO ?aR (fun _ _ h => h) (fun _ h => h.elim) ?aF ?aB ?aS ?aL ?_; (case aR => repeat (first | exact (Kd.C_below HR1.out HB.out) | (with_reducible refine Kd.C_alloc ?_ _) | (with_reducible refine Kd.C_drewN ?_ _) | (with_reducible refine Kd.C_drew ?_))); (case aB => exact (by repeat (first | (with_reducible first | exact HB.out | apply below_alloc | apply pw_below_drewN | apply below_drew1) | exact HB.out))); (case aF => exact (fun _ _ => trivial)); (case aO => exact (by (with_reducible repeat (first | apply Kd.R_alloc | apply Kd.R_drewN | apply Kd.R_drew)); exact HO732.out)); (case aS => exact (below_size (by repeat (first | (with_reducible first | exact HB.out | apply below_alloc | apply pw_below_drewN | apply below_drew1) | exact HB.out)))); (case aL => have := LMc9.out; omega); intro v734 w12 ho hb hg hat; rw [← Ny733.out] at ho; have n0_ := Aside0.mk (hb); have n1_ := Aside0.mk (ho); clear HB; clear HO732; have HB := n0_; have HO735 := n1_; clear n0_ n1_; clear ho hb hg hat; obtain ⟨Ao13, co13, eo13⟩ := Kd.R_slice HO735.out; subst eo13) | ((with_reducible refine gate_callee (f := 106) rfl ?_); refine goesL_ (some 18) rfl rfl Try.func106 (by kernel_rfl) rfl #[.slice Ao13 y733.length co13] rfl (by (try simp only [List.map_toArray, List.map_cons, List.map_nil]); first | done | rfl | (simp only [List.length_drop, List.length_take]; rfl)) ?_; (with_reducible refine (spec_liIf.calls kj2 (fun k_ => some k_ = (.slice Ao13 y733.length co13 : Value).ownBlock) (.slice Ao13 y733.length co13) y733 t736 t739 w _ ?side1 ?side2 A10.out).mono ?_); (case side1 => repeat (first | (with_reducible first | exact HB.out | apply below_alloc | apply pw_below_drewN | apply below_drew1) | exact HB.out)); (case side2 => exact Kd.R_tight rfl HO735.out); rintro e w14 ⟨v737, rfl, ho0, hb, hkp⟩; refine ⟨_, rfl, ?_⟩; have n0_ := Aside0.mk (Kd.R_mono (ok' := fun k_ => True) ho0 (fun k_ hk_ => trivial)); have n1_ := Aside0.mk (hb); clear HB; clear HO735; have HO738 := n0_; have HB := n1_; clear n0_ n1_; (try clear hb); (try clear hkp); (try clear ho0)))
       go_ret2
       exact ⟨_, by first | rfl | (simp [errW_none, errW_some] <;> rfl) | (simp [*, errW_none, errW_some] <;> rfl), by (with_reducible repeat (first | apply Kd.R_alloc | apply Kd.R_drewN | apply Kd.R_drew)); exact HO738.out, by repeat (first | (with_reducible first | exact HB.out | apply below_alloc | apply pw_below_drewN | apply below_drew1) | exact HB.out)⟩
     · rw [if_neg c9] at H
       exact absurd H (by simp)

end Go.Proofs.Ytnlimjejllakoaa.A

-- made by a program of this repo (wip/pp.py) through the kit's printer
namespace Go.Proofs.Ytnlimjejllakoaa.A
open Go.RowKit Go.Proofs.YtnlimjejllakoaaW.PrintWords Go.Proofs.YtnlimjejllakoaaW.PrintLast Go.Proofs.YtnlimjejllakoaaW.PrintMore
attribute [local go_sem] max2_int min2_int max_two min_two max_three min_three max_four min_four
set_option linter.unusedVariables false
set_option linter.unusedSimpArgs false

/-! ### laws_pSum: function 18 -/
def laws_pSum.l0 : Nat → Int → List Int → Int → Int → Option (Int)
 | 0, _, _, _, _ => none
 | k + 1, x3, x6, x7, x8 => if x8 < x7 then (if 0 ≤ x8 then (if x8 < (x6.length : Int) then (laws_pSum.l0 k (wrap64 (x3 + (rd x6 x8))) x6 x7 (wrap64 (x8 + 1))) else (none)) else (none)) else (some x3)
def laws_pSum.f (k : Nat) (l0 : List Int) : Option (Int) := laws_pSum.l0 k 0 l0 (l0.length : Int) 0
set_option maxHeartbeats 8000000 in
set_option maxRecDepth 100000 in
theorem laws_pSum.calls (k : Nat) (A0 : Option Addr) (c0 : Nat) (l0 : List Int) (r : Int) (w : World) (hr0 : Kd.C (Kd.int .i64) w A0 l0.length l0) (hc0 : l0.length ≤ c0) (h : laws_pSum.f k l0 = some r) :
 Calls Try.prog 18 #[.slice A0 l0.length c0] w fun e w' => e = .returned (.int .i64 r) ∧ Drawn0 w w' := by
 have HR0 := Aside0.mk hr0
 have HC0 := Aside0.mk hc0
 clear hr0 hc0
 have H : (laws_pSum.l0 k 0 l0 (l0.length : Int) 0) = some r := h
 clear h
 have H' := Aside0.mk H
 clear H
 go_enter Try.func18, Try.ntmps18
 go_wp2
 go_loopg [3, 8] k (fun kq v3 v8 w' => ∃ (x3_1 : Int) (x8_1 : Int), v3 = .int .i64 x3_1 ∧ v8 = .int .i64 x8_1 ∧ Aside0 (laws_pSum.l0 kq x3_1 l0 (l0.length : Int) x8_1 = some r) ∧ Aside0 (kq ≤ k) ∧ Drawn0 w w')
 case atStart => exact ⟨(0), (0), (by first | rfl | (simp; done) | (simp [*]; done)), (by first | rfl | (simp; done) | (simp [*]; done)), H', ⟨Nat.le_refl _⟩, by repeat (first | exact Drawn0.refl _ | apply Drawn0.step)⟩
 case round =>
  clear H'
  try clear c1
  obtain ⟨x3_1, x8_1, rfl, rfl, HA, HK1, ⟨m1, rfl⟩⟩ := hrel
  cases gk with
  | zero => exact absurd HA.out (by simp [laws_pSum.l0])
  | succ k1 =>
   have H := HA.out
   clear HA
   simp only [laws_pSum.l0] at H
   by_cases c2 : x8_1 < (l0.length : Int)
   · rw [if_pos c2] at H
     have c2b0 : decide (x8_1 < (l0.length : Int)) = true := decide_eq_true c2
     clear c2
     by_cases c3 : 0 ≤ x8_1
     · rw [if_pos c3] at H
       have c3b0 : decide (0 ≤ x8_1) = true := decide_eq_true c3
       clear c3
       by_cases c4 : x8_1 < (l0.length : Int)
       · rw [if_pos c4] at H
         have c4b0 : decide (x8_1 < (l0.length : Int)) = true := decide_eq_true c4
         clear c4
         have H' := Aside0.mk H
         clear H
         have p156 : 0 ≤ (x8_1 : Int) := of_decide_eq_true (by first | (with_reducible assumption) | assumption)
         have q156 : x8_1 < (l0.length : Int) := of_decide_eq_true (by first | (with_reducible assumption) | assumption)
         obtain ⟨ad156, e156, hx156_0⟩ := Kd.at_int HR0.out x8_1 p156 q156
         cases e156
         replace p156 := eq_true p156
         replace q156 := eq_true q156
         go_wp2
         go_roundg k1
         case measure => have := HK1.out; omega
         case rel => exact ⟨(wrap64 (x3_1 + (rd l0 x8_1))), (wrap64 (x8_1 + 1)), (by first | rfl | (simp; done) | (simp [*]; done)), (by first | rfl | (simp; done) | (simp [*]; done)), H', ⟨by have := HK1.out; omega⟩, by repeat (first | exact Drawn0.refl _ | apply Drawn0.step)⟩
       · rw [if_neg c4] at H
         exact absurd H (by simp)
     · rw [if_neg c3] at H
       exact absurd H (by simp)
   · rw [if_neg c2] at H
     have c2b0 : decide (x8_1 < (l0.length : Int)) = false := decide_eq_false c2
     clear c2
     obtain rfl := Option.some.inj H
     go_wp2
     go_ret
     exact ⟨by first | rfl | (simp; done) | (simp [*]; done), by repeat (first | exact Drawn0.refl _ | apply Drawn0.step)⟩

end Go.Proofs.Ytnlimjejllakoaa.A

-- made by a program of this repo (wip/pp.py) through the kit's printer
namespace Go.Proofs.Ytnlimjejllakoaa.A
open Go.RowKit Go.Proofs.YtnlimjejllakoaaW.PrintWords Go.Proofs.YtnlimjejllakoaaW.PrintLast Go.Proofs.YtnlimjejllakoaaW.PrintMore
attribute [local go_sem] max2_int min2_int max_two min_two max_three min_three max_four min_four
set_option linter.unusedVariables false
set_option linter.unusedSimpArgs false

/-! ### laws_pFit: function 43 -/
def laws_pFit.f (k : Nat) (l0 : List Int) (l1 : List Int) : Option (Bool) := if (l0.length : Int) = (l1.length : Int) then ((laws_pSum.f k l0).bind fun t740 => ((laws_pSum.f k l1).bind fun t741 => (some (t740 == t741)))) else (some false)
set_option maxHeartbeats 8000000 in
set_option maxRecDepth 100000 in
theorem laws_pFit.calls (k : Nat) (A0 : Option Addr) (c0 : Nat) (l0 : List Int) (A1 : Option Addr) (c1 : Nat) (l1 : List Int) (r : Bool) (w : World) (hr0 : Kd.C (Kd.int .i64) w A0 l0.length l0) (hc0 : l0.length ≤ c0) (hr1 : Kd.C (Kd.int .i64) w A1 l1.length l1) (hc1 : l1.length ≤ c1) (h : laws_pFit.f k l0 l1 = some r) :
 Calls Try.prog 43 #[.slice A0 l0.length c0, .slice A1 l1.length c1] w fun e w' => e = .returned (.bool r) ∧ Drawn0 w w' := by
 have HR0 := Aside0.mk hr0
 have HC0 := Aside0.mk hc0
 clear hr0 hc0
 have HR1 := Aside0.mk hr1
 have HC1 := Aside0.mk hc1
 clear hr1 hc1
 have H : (if (l0.length : Int) = (l1.length : Int) then ((laws_pSum.f k l0).bind fun t740 => ((laws_pSum.f k l1).bind fun t741 => (some (t740 == t741)))) else (some false)) = some r := h
 clear h
 by_cases c3 : (l0.length : Int) = (l1.length : Int)
 · rw [if_pos c3] at H
   have c3b0 : ((l0.length : Int) == (l1.length : Int)) = true := beq_iff_eq.mpr c3
   have c3b1 : ((l0.length : Int) != (l1.length : Int)) = false := bne_eq_false_iff_eq.mpr c3
   have c3b2 : (l0.length == l1.length) = true := by first | simpa using c3 | (simp at c3 ⊢; omega)
   clear c3
   replace H := Option.bind_eq_some_iff.mp H
   obtain ⟨t740, A40, H⟩ := H
   replace H : ((laws_pSum.f k l1).bind fun t741 => (some (t740 == t741))) = some r := H
   have A4 := Aside0.mk A40
   clear A40
   replace H := Option.bind_eq_some_iff.mp H
   obtain ⟨t741, A50, H⟩ := H
   replace H : (some (t740 == t741)) = some r := H
   have A5 := Aside0.mk A50
   clear A50
   obtain rfl := Option.some.inj H
   go_enter Try.func43, Try.ntmps43
   go_wp2_with (first | (go_at_call 18; (with_reducible refine (laws_pSum.calls k _ _ l0 t740 _ ?side1 ?side2 A4.out).mono ?_); (case side1 => repeat (first | exact HR0.out | (with_reducible refine Kd.C_alloc ?_ _) | (with_reducible refine Kd.C_drewN ?_ _) | (with_reducible refine Kd.C_drew ?_))); (case side2 => exact HC0.out); rintro e w' ⟨rfl, ⟨nd, rfl⟩⟩) | (go_at_call 18; (with_reducible refine (laws_pSum.calls k _ _ l1 t741 _ ?side1 ?side2 A5.out).mono ?_); (case side1 => repeat (first | exact HR1.out | (with_reducible refine Kd.C_alloc ?_ _) | (with_reducible refine Kd.C_drewN ?_ _) | (with_reducible refine Kd.C_drew ?_))); (case side2 => exact HC1.out); rintro e w' ⟨rfl, ⟨nd, rfl⟩⟩))
   go_ret
   exact ⟨by first | rfl | (simp; done) | (simp [*]; done), by repeat (first | exact Drawn0.refl _ | apply Drawn0.step)⟩
 · rw [if_neg c3] at H
   have c3b0 : ((l0.length : Int) == (l1.length : Int)) = false := beq_eq_false_iff_ne.mpr c3
   have c3b1 : ((l0.length : Int) != (l1.length : Int)) = true := bne_iff_ne.mpr c3
   have c3b2 : (l0.length == l1.length) = false := by first | simpa using c3 | (simp at c3 ⊢; omega)
   obtain rfl := Option.some.inj H
   go_enter Try.func43, Try.ntmps43
   go_wp2
   go_ret
   exact ⟨by first | rfl | (simp; done) | (simp [*]; done), by repeat (first | exact Drawn0.refl _ | apply Drawn0.step)⟩

end Go.Proofs.Ytnlimjejllakoaa.A

-- made by a program of this repo (wip/pp.py) through the kit's printer
namespace Go.Proofs.Ytnlimjejllakoaa.A
open Go.RowKit Go.Proofs.YtnlimjejllakoaaW.PrintWords Go.Proofs.YtnlimjejllakoaaW.PrintLast Go.Proofs.YtnlimjejllakoaaW.PrintMore
attribute [local go_sem] max2_int min2_int max_two min_two max_three min_three max_four min_four
set_option linter.unusedVariables false
set_option linter.unusedSimpArgs false

end Go.Proofs.Ytnlimjejllakoaa.A

-- made by a program of this repo (wip/pp.py) through the kit's printer
namespace Go.Proofs.Ytnlimjejllakoaa.A
open Go.RowKit Go.Proofs.YtnlimjejllakoaaW.PrintWords Go.Proofs.YtnlimjejllakoaaW.PrintLast Go.Proofs.YtnlimjejllakoaaW.PrintMore
attribute [local go_sem] max2_int min2_int max_two min_two max_three min_three max_four min_four
set_option linter.unusedVariables false
set_option linter.unusedSimpArgs false

end Go.Proofs.Ytnlimjejllakoaa.A

namespace Go.Proofs.Ytnlimjejllakoaa.A
open Go.RowKit Go.Proofs.YtnlimjejllakoaaW.PrintWords Go.Proofs.YtnlimjejllakoaaW.PrintLast Go.Proofs.YtnlimjejllakoaaW.PrintMore
set_option linter.unusedVariables false
set_option linter.unusedSimpArgs false
/-! plain lemmas that all pure texts lean on -/
theorem w64 {x : Int} (h1 : -9223372036854775808 ≤ x) (h2 : x ≤ 9223372036854775807) : wrap64 x = x := by
 unfold wrap64
 omega
theorem wsucc {i : Nat} {n : Nat} (h : i < n) (hn : n ≤ 9223372036854775807) : wrap64 ((i : Int) + 1) = ((i + 1 : Nat) : Int) := by
 rw [w64 (by omega) (by omega)]
 omega
theorem rdn {xs : List Int} {i : Nat} (h : i < xs.length) : rd xs (i : Int) = xs[i] := by
 simp [rd, h]
theorem Ev.succ {α : Type} {g : Nat → Option α} {r : α} (h : Ev (fun k => g (k + 1)) r) : Ev g r := Ev.step (fun _ => rfl) h
theorem Ev.get {α : Type} {g : Nat → Option α} {r : α} (h : Ev g r) : ∃ k, g k = some r := Ev.rounds h
theorem Ev.ite {α : Type} {c : Prop} [Decidable c] {g f : Nat → Option α} {r s : α} (h : c → Ev g r) (h' : ¬ c → Ev f s) : Ev (fun k => if c then g k else f k) (if c then r else s) := by
 by_cases hc : c
 · simp only [hc, if_true]
   exact h hc
 · simp only [hc, if_false]
   exact h' hc
/-- A loop over the elements of a list that is left early. -/
theorem ev_all {xs : List Int} {g : Nat → Int → Option Bool} (p : Int → Bool) (hend : Ev (fun k => g k (xs.length : Int)) true)
 (hyes : ∀ (i : Nat) (h : i < xs.length) r, p xs[i] = true → Ev (fun k => g k ((i + 1 : Nat) : Int)) r → Ev (fun k => g k (i : Int)) r)
 (hno : ∀ (i : Nat) (h : i < xs.length), p xs[i] = false → Ev (fun k => g k (i : Int)) false) :
 ∀ (n i : Nat), i + n = xs.length → Ev (fun k => g k (i : Int)) ((xs.drop i).all p)
 | 0, i, h => by
  rw [List.drop_eq_nil_of_le (by omega), show i = xs.length by omega]
  exact hend
 | n + 1, i, h => by
  have hi : i < xs.length := by omega
  rw [List.drop_eq_getElem_cons hi, List.all_cons]
  cases hp : p xs[i]
  · exact hno i hi hp
  · rw [Bool.true_and]
    exact hyes i hi _ hp (ev_all p hend hyes hno n (i + 1) (by omega))
/-- A loop over the elements of a list that carries a state. -/
theorem ev_fold {σ ρ : Type} {xs : List Int} {g : Nat → σ → Int → Option ρ} (step : σ → Int → σ) (I : σ → Nat → Prop) (fin : σ → ρ)
 (hend : ∀ s, I s xs.length → Ev (fun k => g k s (xs.length : Int)) (fin s))
 (hstep : ∀ (i : Nat) (h : i < xs.length) s r, I s i → I (step s xs[i]) (i + 1) → Ev (fun k => g k (step s xs[i]) ((i + 1 : Nat) : Int)) r → Ev (fun k => g k s (i : Int)) r)
 (hI : ∀ (i : Nat) (h : i < xs.length) s, I s i → I (step s xs[i]) (i + 1)) :
 ∀ (n i : Nat) (s : σ), i + n = xs.length → I s i → Ev (fun k => g k s (i : Int)) (fin ((xs.drop i).foldl step s))
 | 0, i, s, h, hs => by
  have e : i = xs.length := by omega
  subst e
  rw [List.drop_eq_nil_of_le (by omega)]
  exact hend s hs
 | n + 1, i, s, h, hs => by
  have hi : i < xs.length := by omega
  rw [List.drop_eq_getElem_cons hi, List.foldl_cons]
  exact hstep i hi s _ hs (hI i hi s hs) (ev_fold step I fin hend hstep hI n (i + 1) _ (by omega) (hI i hi s hs))
/-- A loop that builds a list, one element a round. -/
theorem ev_build {α ρ : Type} {g : Nat → List α → Int → Option ρ} (L : List α) (fin : ρ) (hend : Ev (fun k => g k L (L.length : Int)) fin)
 (hstep : ∀ (i : Nat) (h : i < L.length) r, Ev (fun k => g k (L.take i ++ [L[i]]) ((i + 1 : Nat) : Int)) r → Ev (fun k => g k (L.take i) (i : Int)) r) :
 ∀ (n i : Nat), i + n = L.length → Ev (fun k => g k (L.take i) (i : Int)) fin
 | 0, i, h => by
  have e : i = L.length := by omega
  subst e
  rw [List.take_of_length_le (Nat.le_refl _)]
  exact hend
 | n + 1, i, h => by
  have hi : i < L.length := by omega
  refine hstep i hi _ ?_
  rw [← List.take_succ_eq_append_getElem hi]
  exact ev_build L fin hend hstep n (i + 1) (by omega)
theorem rdi {xs : List Int} {i : Int} (h0 : 0 ≤ i) (h1 : i < xs.length) : rd xs i = xs[i.toNat]'(by omega) := by
 unfold rd
 rw [List.getD_eq_getElem?_getD, List.getElem?_eq_getElem (by omega)]
 rfl
end Go.Proofs.Ytnlimjejllakoaa.A

namespace Go.Proofs.Ytnlimjejllakoaa.A
open Go.RowKit Go.Proofs.YtnlimjejllakoaaW.PrintWords Go.Proofs.YtnlimjejllakoaaW.PrintLast Go.Proofs.YtnlimjejllakoaaW.PrintMore
set_option linter.unusedVariables false
set_option linter.unusedSimpArgs false
theorem foldl_add : ∀ (l : List Int) (s : Int), l.foldl (fun s x => s + x) s = s + l.sum
 | [], s => by simp
 | x :: l, s => by
  rw [List.foldl_cons, foldl_add l, List.sum_cons]
  omega
end Go.Proofs.Ytnlimjejllakoaa.A

namespace Go.Proofs.Ytnlimjejllakoaa.A
open Go.RowKit Go.Proofs.YtnlimjejllakoaaW.PrintWords Go.Proofs.YtnlimjejllakoaaW.PrintLast Go.Proofs.YtnlimjejllakoaaW.PrintMore
set_option linter.unusedVariables false
set_option linter.unusedSimpArgs false
theorem l1In_eq (a b c : Int) : spec_l1In.f a b c = some (decide (b ≤ a ∧ a ≤ c)) := by
 unfold spec_l1In.f
 by_cases h : b ≤ a <;> simp [h]
theorem within_eq (a b c : Int) : impl_within.f a b c = some (decide (b ≤ a ∧ a ≤ c)) := by
 unfold impl_within.f
 by_cases h : b ≤ a <;> simp [h]
end Go.Proofs.Ytnlimjejllakoaa.A

namespace Go.Proofs.Ytnlimjejllakoaa.A
open Go.RowKit Go.Proofs.YtnlimjejllakoaaW.PrintWords Go.Proofs.YtnlimjejllakoaaW.PrintLast Go.Proofs.YtnlimjejllakoaaW.PrintMore
set_option linter.unusedVariables false
set_option linter.unusedSimpArgs false
def inR (lo hi : Int) (xs : List Int) : Bool := xs.all fun x => decide (lo ≤ x ∧ x ≤ hi)
theorem l1All_ev (xs : List Int) (lo hi : Int) (hx : xs.length ≤ 9223372036854775807) : Ev (fun k => spec_l1All.f k xs lo hi) (inR lo hi xs) := by
 have h := ev_all (xs := xs) (g := fun k i => spec_l1All.l0 k lo hi xs (xs.length : Int) i) (fun x => decide (lo ≤ x ∧ x ≤ hi))
  (Ev.succ (by simp only [spec_l1All.l0, if_neg (Int.lt_irrefl _)]; exact Ev.now _))
  (fun i h r hp hr => Ev.succ (by
   simp only [spec_l1All.l0, if_pos (show (i : Int) < (xs.length : Int) by omega), if_pos (show (0 : Int) ≤ (i : Int) by omega), rdn h, l1In_eq, Option.bind_some, hp, if_true, wsucc h hx]
   exact hr))
  (fun i h hp => Ev.succ (by
   simp only [spec_l1All.l0, if_pos (show (i : Int) < (xs.length : Int) by omega), if_pos (show (0 : Int) ≤ (i : Int) by omega), rdn h, l1In_eq, Option.bind_some, hp]
   exact Ev.now _)) xs.length 0 (by omega)
 exact h
theorem allWithin_ev (xs : List Int) (lo hi : Int) (hx : xs.length ≤ 9223372036854775807) : Ev (fun k => impl_allWithin.f k xs lo hi) (inR lo hi xs) := by
 have h := ev_all (xs := xs) (g := fun k i => impl_allWithin.l0 k lo hi xs (xs.length : Int) i) (fun x => decide (lo ≤ x ∧ x ≤ hi))
  (Ev.succ (by simp only [impl_allWithin.l0, if_neg (Int.lt_irrefl _)]; exact Ev.now _))
  (fun i h r hp hr => Ev.succ (by
   simp only [impl_allWithin.l0, if_pos (show (i : Int) < (xs.length : Int) by omega), if_pos (show (0 : Int) ≤ (i : Int) by omega), rdn h, within_eq, Option.bind_some, hp, if_true, wsucc h hx]
   exact hr))
  (fun i h hp => Ev.succ (by
   simp only [impl_allWithin.l0, if_pos (show (i : Int) < (xs.length : Int) by omega), if_pos (show (0 : Int) ≤ (i : Int) by omega), rdn h, within_eq, Option.bind_some, hp]
   exact Ev.now _)) xs.length 0 (by omega)
 exact h
end Go.Proofs.Ytnlimjejllakoaa.A

namespace Go.Proofs.Ytnlimjejllakoaa.A
open Go.RowKit Go.Proofs.YtnlimjejllakoaaW.PrintWords Go.Proofs.YtnlimjejllakoaaW.PrintLast Go.Proofs.YtnlimjejllakoaaW.PrintMore
set_option linter.unusedVariables false
set_option linter.unusedSimpArgs false
def goodL (xs : List Int) : Bool := if (1 : Int) ≤ xs.length ∧ (xs.length : Int) ≤ 8 then inR 0 60 xs else false
theorem goodL_iff (xs : List Int) : goodL xs = true ↔ 1 ≤ xs.length ∧ xs.length ≤ 8 ∧ ∀ x ∈ xs, 0 ≤ x ∧ x ≤ 60 := by
 unfold goodL inR
 by_cases h : (1 : Int) ≤ xs.length ∧ (xs.length : Int) ≤ 8
 · rw [if_pos h]
   simp only [List.all_eq_true, decide_eq_true_eq]
   exact ⟨fun h' => ⟨by omega, by omega, h'⟩, fun h' => h'.2.2⟩
 · rw [if_neg h]
   constructor
   · intro h'
     cases h'
   · intro h'
     omega
theorem liGood_ev (xs : List Int) (hx : xs.length ≤ 9223372036854775807) : Ev (fun k => spec_liGood.f k xs) (goodL xs) := by
 unfold spec_liGood.f goodL
 simp only [l1In_eq, Option.bind_some, decide_eq_true_eq]
 exact Ev.ite (fun _ => Ev.bind (l1All_ev xs 0 60 hx) (Ev.now _)) (fun _ => Ev.now _)
theorem implIsList_ev (xs : List Int) (hx : xs.length ≤ 9223372036854775807) : Ev (fun k => impl_IsList.f k xs) (goodL xs) := by
 unfold impl_IsList.f goodL
 simp only [within_eq, Option.bind_some, decide_eq_true_eq]
 exact Ev.ite (fun _ => Ev.bind (allWithin_ev xs 0 60 hx) (Ev.now _)) (fun _ => Ev.now _)
end Go.Proofs.Ytnlimjejllakoaa.A

namespace Go.Proofs.Ytnlimjejllakoaa.A
open Go.RowKit Go.Proofs.YtnlimjejllakoaaW.PrintWords Go.Proofs.YtnlimjejllakoaaW.PrintLast Go.Proofs.YtnlimjejllakoaaW.PrintMore
set_option linter.unusedVariables false
set_option linter.unusedSimpArgs false
theorem l1Own_eq (l : List Int) (hx : l.length ≤ 1048576) : spec_l1Own.f l = some l := by
 unfold spec_l1Own.f
 simp only [Option.bind_some, List.nil_append, List.length_nil, Nat.zero_add, if_pos (show l.length < 17592186044416 by omega)]
end Go.Proofs.Ytnlimjejllakoaa.A

namespace Go.Proofs.Ytnlimjejllakoaa.A
open Go.RowKit Go.Proofs.YtnlimjejllakoaaW.PrintWords Go.Proofs.YtnlimjejllakoaaW.PrintLast Go.Proofs.YtnlimjejllakoaaW.PrintMore
set_option linter.unusedVariables false
set_option linter.unusedSimpArgs false
def insD : List Int → Int → List Int
 | [], x => [x]
 | y :: ys, x => if x ≤ y then y :: insD ys x else x :: y :: ys
def Desc (l : List Int) : Prop := l.Pairwise fun x y => y ≤ x
theorem insD_at (x : Int) : ∀ (out : List Int) (j : Nat), j ≤ out.length → (∀ i, i < j → ∀ h : i < out.length, x ≤ out[i]) → (∀ h : j < out.length, ¬ x ≤ out[j]) → insD out x = out.take j ++ [x] ++ out.drop j
 | [], j, hj, _, _ => by simp [insD]
 | y :: ys, 0, _, _, h => by
  have := h (by simp)
  simp only [List.getElem_cons_zero] at this
  simp [insD, this]
 | y :: ys, j + 1, hj, h1, h2 => by
  have h0 := h1 0 (by omega) (by simp)
  simp only [List.getElem_cons_zero] at h0
  have ih := insD_at x ys j (by simpa using hj) (fun i hi h => by have := h1 (i + 1) (by omega) (by simpa using h); simpa using this) (fun h => by have := h2 (by simpa using h); simpa using this)
  simp only [insD, if_pos h0, ih, List.take_succ_cons, List.drop_succ_cons, List.cons_append]
theorem insD_perm (x : Int) : ∀ out : List Int, (insD out x).Perm (x :: out)
 | [] => List.Perm.refl _
 | y :: ys => by
  unfold insD
  split
  · exact ((insD_perm x ys).cons y).trans (List.Perm.swap x y ys)
  · exact List.Perm.refl _
theorem insD_length (x : Int) (out : List Int) : (insD out x).length = out.length + 1 := by
 rw [(insD_perm x out).length_eq, List.length_cons]
theorem insD_desc (x : Int) : ∀ out : List Int, Desc out → Desc (insD out x)
 | [], _ => by simp [insD, Desc]
 | y :: ys, h => by
  unfold insD
  unfold Desc at h
  rw [List.pairwise_cons] at h
  split
  · next hc =>
    unfold Desc
    rw [List.pairwise_cons]
    refine ⟨fun z hz => ?_, insD_desc x ys h.2⟩
    rcases List.mem_cons.1 ((insD_perm x ys).mem_iff.1 hz) with rfl | hz
    · exact hc
    · exact h.1 z hz
  · next hc =>
    unfold Desc
    rw [List.pairwise_cons, List.pairwise_cons]
    refine ⟨fun z hz => ?_, h⟩
    rcases List.mem_cons.1 hz with rfl | hz
    · omega
    · have := h.1 z hz
      omega
theorem descL_perm (l : List Int) : (descL l).Perm l := List.mergeSort_perm l _
theorem descL_desc (l : List Int) : Desc (descL l) := by
 unfold descL Desc
 have h := List.pairwise_mergeSort (le := fun x y : Int => decide (y ≤ x)) (fun a b c h1 h2 => by simp only [decide_eq_true_eq] at *; omega) (fun a b => by simp only [Bool.or_eq_true, decide_eq_true_eq]; omega) l
 exact h.imp (fun h => by simpa using h)
theorem desc_unique {a b : List Int} (h : a.Perm b) (ha : Desc a) (hb : Desc b) : a = b :=
 List.Perm.eq_of_pairwise (le := fun x y : Int => y ≤ x) (fun x y _ _ h1 h2 => by omega) ha hb h
theorem descL_length (l : List Int) : (descL l).length = l.length := (descL_perm l).length_eq
theorem descL_mem {l : List Int} {x : Int} : x ∈ descL l ↔ x ∈ l := (descL_perm l).mem_iff
theorem descL_of_desc {l : List Int} (h : Desc l) : descL l = l := desc_unique (descL_perm l) (descL_desc l) h
theorem perm_sum {a b : List Int} (h : a.Perm b) : a.sum = b.sum := by
 induction h with
 | nil => rfl
 | cons x _ ih => simp only [List.sum_cons, ih]
 | swap x y l => simp only [List.sum_cons]; omega
 | trans _ _ ih1 ih2 => exact ih1.trans ih2
theorem descL_sum (l : List Int) : (descL l).sum = l.sum := perm_sum (descL_perm l)
theorem foldl_ins_perm : ∀ (l out : List Int), (l.foldl insD out).Perm (out ++ l)
 | [], out => by simp
 | x :: l, out => by
  rw [List.foldl_cons]
  refine (foldl_ins_perm l (insD out x)).trans ?_
  refine ((insD_perm x out).append_right l).trans ?_
  exact (List.perm_middle (a := x) (l₁ := out) (l₂ := l)).symm
theorem foldl_ins_desc : ∀ (l out : List Int), Desc out → Desc (l.foldl insD out)
 | [], out, h => h
 | x :: l, out, h => by
  rw [List.foldl_cons]
  exact foldl_ins_desc l _ (insD_desc x out h)
theorem foldl_ins (l : List Int) : l.foldl insD [] = descL l :=
 desc_unique ((by simpa using foldl_ins_perm l [] : (l.foldl insD []).Perm l).trans (descL_perm l).symm) (foldl_ins_desc l [] (by simp [Desc])) (descL_desc l)
def Sm (l : List Int) : Prop := l.length ≤ 1000 ∧ ∀ x ∈ l, 0 ≤ x ∧ x ≤ 1000
theorem good_sm {l : List Int} (h : goodL l = true) : Sm l := by
 have := (goodL_iff l).1 h
 exact ⟨by omega, fun x hx => by have := this.2.2 x hx; omega⟩
theorem sm_desc {l : List Int} (h : Sm l) : Sm (descL l) := ⟨by rw [descL_length]; exact h.1, fun x hx => h.2 x (descL_mem.1 hx)⟩
theorem ranking_eq {l : List Int} (h : Sm l) : impl_ranking.f l = some (descL l) := by
 unfold impl_ranking.f smallL
 rw [if_pos]
 simp only [Bool.and_eq_true, decide_eq_true_eq, List.all_eq_true]
 exact ⟨by have := h.1; omega, fun x hx => by have := h.2 x hx; omega⟩
theorem liRank_in (l : List Int) (x : Int) (i9 : Int) (out : List Int) (hout : out.length ≤ 1000000) (r : List Int) (hr : Ev (fun k => spec_liRank.l0 k (insD out x) l (l.length : Int) (wrap64 (i9 + 1))) r) :
 ∀ (n j : Nat), j + n = out.length → (∀ i, i < j → ∀ h : i < out.length, x ≤ out[i]) → Ev (fun k => spec_liRank.l1 k out x (j : Int) l (l.length : Int) i9) r
 | 0, j, h, hall => by
  refine Ev.succ ?_
  have e := insD_at x out j (by omega) hall (fun h' => by omega)
  simp only [spec_liRank.l1, if_neg (show ¬ (j : Int) < (out.length : Int) by omega), if_pos (show (0 : Int) ≤ (j : Int) by omega), if_pos (show (j : Int) ≤ (out.length : Int) by omega), Int.toNat_natCast, l1Own_eq (out.take j) (by rw [List.length_take]; omega), Option.bind_some, List.length_append, List.length_take, List.length_drop, List.length_cons, List.length_nil]
  simp only [if_pos (show min j out.length + (0 + 1) < 17592186044416 by omega), if_pos (show min j out.length + (0 + 1) + (out.length - j) < 17592186044416 by omega)]
  rw [e] at hr
  exact hr
 | n + 1, j, h, hall => by
  have hj : j < out.length := by omega
  refine Ev.succ ?_
  by_cases c : x ≤ out[j]
  · simp only [spec_liRank.l1, if_pos (show (j : Int) < (out.length : Int) by omega), if_pos (show (0 : Int) ≤ (j : Int) by omega), rdn hj, if_pos (show out[j] ≥ x from c), wsucc hj (by omega)]
    refine liRank_in l x i9 out hout r hr n (j + 1) (by omega) (fun i hi h' => ?_)
    by_cases e : i = j
    · subst e
      exact c
    · exact hall i (by omega) h'
  · have e := insD_at x out j (by omega) hall (fun h' => c)
    simp only [spec_liRank.l1, if_pos (show (j : Int) < (out.length : Int) by omega), if_pos (show (0 : Int) ≤ (j : Int) by omega), rdn hj, if_neg (show ¬ out[j] ≥ x from c), if_pos (show (j : Int) ≤ (out.length : Int) by omega), Int.toNat_natCast, l1Own_eq (out.take j) (by rw [List.length_take]; omega), Option.bind_some, List.length_append, List.length_take, List.length_drop, List.length_cons, List.length_nil]
    simp only [if_pos (show min j out.length + (0 + 1) < 17592186044416 by omega), if_pos (show min j out.length + (0 + 1) + (out.length - j) < 17592186044416 by omega)]
    rw [e] at hr
    exact hr
theorem liRank_ev (l : List Int) (hx : l.length ≤ 1000000) : Ev (fun k => spec_liRank.f k l) (descL l) := by
 unfold spec_liRank.f
 have h := ev_fold (xs := l) (g := fun k out i => spec_liRank.l0 k out l (l.length : Int) i) insD (fun out i => out.length = i) id
  (fun s _ => Ev.succ (by simp only [spec_liRank.l0, if_neg (Int.lt_irrefl _)]; exact Ev.now _))
  (fun i h s r hs _ hr => Ev.succ (by
   simp only [spec_liRank.l0, if_pos (show (i : Int) < (l.length : Int) by omega), if_pos (show (0 : Int) ≤ (i : Int) by omega), rdn h]
   exact liRank_in l l[i] (i : Int) s (by omega) r (by rw [wsucc h (by omega)]; exact hr) s.length 0 (by omega) (fun j hj => by omega)))
  (fun i h s hs => by rw [insD_length, hs]) l.length 0 [] (by omega) rfl
 rw [List.drop_zero, foldl_ins] at h
 exact h
end Go.Proofs.Ytnlimjejllakoaa.A

namespace Go.Proofs.Ytnlimjejllakoaa.A
open Go.RowKit Go.Proofs.YtnlimjejllakoaaW.PrintWords Go.Proofs.YtnlimjejllakoaaW.PrintLast Go.Proofs.YtnlimjejllakoaaW.PrintMore
set_option linter.unusedVariables false
set_option linter.unusedSimpArgs false
theorem total_ev (l : List Int) (h : Sm l) : Ev (fun k => impl_total.f k l) l.sum := by
 unfold impl_total.f
 have hl := h.1
 have h := ev_fold (xs := l) (g := fun k s i => impl_total.l0 k s l (l.length : Int) i) (fun s x => s + x) (fun s i => 0 ≤ s ∧ s ≤ 1000 * (i : Int)) id
  (fun s _ => Ev.succ (by simp only [impl_total.l0, if_neg (Int.lt_irrefl _)]; exact Ev.now _))
  (fun i hi s r hs _ hr => Ev.succ (by
   have hb := h.2 _ (List.getElem_mem hi)
   simp only [impl_total.l0, if_pos (show (i : Int) < (l.length : Int) by omega), if_pos (show (0 : Int) ≤ (i : Int) by omega), rdn hi, wsucc hi (by omega), w64 (x := s + l[i]) (by omega) (by omega)]
   exact hr))
  (fun i hi s hs => by
   have hb := h.2 _ (List.getElem_mem hi)
   omega) l.length 0 0 (by omega) (by omega)
 rw [List.drop_zero, foldl_add, Int.zero_add] at h
 exact h
def fitB (a b : List Int) : Bool := if (a.length : Int) = (b.length : Int) then (a.sum == b.sum) else false
theorem fitB_iff (a b : List Int) : fitB a b = true ↔ a.length = b.length ∧ a.sum = b.sum := by
 unfold fitB
 by_cases h : (a.length : Int) = (b.length : Int)
 · rw [if_pos h, beq_iff_eq]
   exact ⟨fun h' => ⟨by omega, h'⟩, fun h' => h'.2⟩
 · rw [if_neg h]
   exact ⟨fun h' => absurd h' (by decide), fun h' => absurd h'.1 (by omega)⟩
theorem doFit_ev (a b : List Int) (ha : Sm a) (hb : Sm b) : Ev (fun k => impl_doFit.f k a b) (fitB a b) := by
 unfold impl_doFit.f fitB
 exact Ev.ite (fun _ => Ev.bind (total_ev a ha) (Ev.bind (total_ev b hb) (Ev.now _))) (fun _ => Ev.now _)
theorem areLists_ev (a b : List Int) (ha : a.length ≤ 1048576) (hb : b.length ≤ 1048576) : Ev (fun k => impl_areLists.f k a b) (if goodL a = true then goodL b else false) := by
 unfold impl_areLists.f
 exact Ev.bind (implIsList_ev a (by omega)) (Ev.ite (fun _ => Ev.bind (implIsList_ev b (by omega)) (Ev.now _)) (fun _ => Ev.now _))
end Go.Proofs.Ytnlimjejllakoaa.A

/- StackLists: slices.Concat of two lists by hand (slices.Grow at nil inside). -/
namespace Go.Proofs.Ytnlimjejllakoaa.A
open Go.RowKit Go.Proofs.YtnlimjejllakoaaW.PrintWords Go.Proofs.YtnlimjejllakoaaW.PrintLast Go.Proofs.YtnlimjejllakoaaW.PrintMore
attribute [local go_sem] max2_int min2_int max_two min_two max_three min_three max_four min_four
set_option linter.unusedVariables false
set_option linter.unusedSimpArgs false


set_option maxHeartbeats 2000000 in
set_option maxRecDepth 100000 in
theorem grow_nil (n : Int) (hn : 0 ≤ n) (hb : n ≤ 1000000000) (w : World) : Calls Try.prog 149 #[.slice none 0 0, .int .i64 n] w fun e w' => ∃ v0_ : Value, e = .returned v0_ ∧ Kd.R (Kd.int .i64) 3 w' w.heap.size (fun _ => True) v0_ ([] : List Int) ∧ Below w.heap.size w w' := by
 have HB := Aside0.mk (Below.refl w.heap.size w)
 by_cases h : 0 < n
 · have h1 : decide (n < 0) = false := decide_eq_false (by omega)
   have h2 : decide (0 < n) = true := decide_eq_true h
   go_enter Try.func149, Try.ntmps149
   go_wp2_with ((with_reducible refine gate_builtin (b := .append) (xs := #[.tmp 20, .tmp 21]) rfl ?_); at_builtin; refine Kd.R_append_zeros (Kd.int .i64) (w0 := w) w.heap.size rfl (.tmp 20) (.tmp 21) 26 3 3 (.int .i64 0) 8 rfl Try.underlying26 Try.underlying3 info3 rfl (by decide) (by omega) (.slice none 0 0) [] 0 n (fun _ => True) rfl rfl ?aZ (fun _ _ => trivial) ?aO hn ?aB ?aS ?aL ?_; (case aZ => exact rfl); (case aO => exact Kd.R_nil _ _ _ _ _); (case aB => exact (by repeat (first | (with_reducible first | exact HB.out | apply below_alloc | apply pw_below_drewN | apply below_drew1) | exact HB.out))); (case aS => exact (below_size (by repeat (first | (with_reducible first | exact HB.out | apply below_alloc | apply pw_below_drewN | apply below_drew1) | exact HB.out)))); (case aL => simp; omega); intro v1 w1 ho hb1 hg hat; have HO := Aside0.mk ho; have HB2 := Aside0.mk hb1; clear ho hb1 hg hat HB; have HB := HB2; clear HB2; obtain ⟨A1, c1, e1⟩ := Kd.R_slice HO.out; subst e1)
   go_ret
   refine ⟨_, rfl, ?_, by repeat (first | (with_reducible first | exact HB.out | apply below_alloc | apply pw_below_drewN | apply below_drew1) | exact HB.out)⟩
   have := Kd.R_take HO.out (m := 0) (Nat.zero_le _)
   simpa using this
 · have h0 : n = 0 := by omega
   subst h0
   go_enter Try.func149, Try.ntmps149
   go_wp2
   go_ret
   exact ⟨_, rfl, Kd.R_nil _ _ _ _ _, by repeat (first | (with_reducible first | exact HB.out | apply below_alloc | apply pw_below_drewN | apply below_drew1) | exact HB.out)⟩
set_option maxHeartbeats 4000000 in
set_option maxRecDepth 100000 in
theorem concat2 (A0 A1 : Option Addr) (c0 c1 : Nat) (l0 l1 : List Int) (B : Nat) (W : World) (hc0 : W.cell? ⟨B, 0, none⟩ = some (.slice A0 l0.length c0)) (hc1 : W.cell? ⟨B, 1, none⟩ = some (.slice A1 l1.length c1)) (hr0 : Kd.C (Kd.int .i64) W A0 l0.length l0) (hr1 : Kd.C (Kd.int .i64) W A1 l1.length l1) (b0 : l0.length ≤ 2000000) (b1 : l1.length ≤ 2000000) :
 Calls Try.prog 110 #[.slice (some ⟨B, 0, none⟩) 2 2] W fun e w' => ∃ v0_ : Value, e = .returned v0_ ∧ Kd.R (Kd.int .i64) 3 w' W.heap.size (fun _ => True) v0_ (l0 ++ l1) ∧ Below W.heap.size W w' := by
 have HC0 := Aside0.mk hc0
 have HC1 := Aside0.mk hc1
 have HR0 := Aside0.mk hr0
 have HR1 := Aside0.mk hr1
 have B0 := Aside0.mk b0
 have B1 := Aside0.mk b1
 have HG := Aside0.mk (fun (w : World) => grow_nil ((l0.length : Int) + (l1.length : Int)) (by omega) (by omega) w)
 clear hc0 hc1 hr0 hr1 b0 b1
 go_enter Try.func110, Try.ntmps110
 go_wp2
 go_loopg [3, 11] 3 (fun g v3 v11 wr => ∃ (i x3 : Int) (q : Nat), v11 = .int .i64 i ∧ v3 = .int .i64 x3 ∧ wr = W.drewN q ∧ Aside0 ((i = 0 ∧ x3 = 0 ∧ 2 ≤ g) ∨ (i = 1 ∧ x3 = (l0.length : Int) ∧ 1 ≤ g) ∨ (i = 2 ∧ x3 = (l0.length : Int) + (l1.length : Int))))
 case atStart => exact ⟨0, 0, 0, rfl, rfl, rfl, ⟨.inl ⟨rfl, rfl, by omega⟩⟩⟩
 case round =>
  obtain ⟨i, x3, q, rfl, rfl, rfl, HA⟩ := hrel
  rcases HA.out with ⟨rfl, rfl, hg⟩ | ⟨rfl, rfl, hg⟩ | ⟨rfl, rfl⟩
  · have hce := HC0.out
    have hb := B0.out
    have h1 : (0 : Int) ≤ (l0.length : Int) := by omega
    have h2 : decide ((l0.length : Int) < 0) = false := decide_eq_false (by omega)
    clear HA
    go_wp2
    go_roundg 1
    case measure => omega
    case rel => exact ⟨1, (l0.length : Int), _, rfl, by first | rfl | (congr 1; (try unfold wrap64); omega), rfl, ⟨.inr (.inl ⟨rfl, rfl, by omega⟩)⟩⟩
  · have hce := HC1.out
    have hb0 := B0.out
    have hb1 := B1.out
    have h2 : decide ((l0.length : Int) + (l1.length : Int) < 0) = false := decide_eq_false (by omega)
    clear HA
    go_wp2
    go_roundg 0
    case measure => omega
    case rel => exact ⟨2, (l0.length : Int) + (l1.length : Int), _, rfl, by first | rfl | (congr 1; (try unfold wrap64); omega), rfl, ⟨.inr (.inr ⟨rfl, rfl⟩)⟩⟩
  · clear HA
    go_wp2_with (go_at_call 149; refine (HG.out _).mono ?_; rintro e w1 ⟨v, rfl, ho, hb⟩; have HO := Aside0.mk (Kd.R_lower ho (by first | exact Nat.le_refl _ | simp)); have HB := Aside0.mk (below_step (by repeat (first | exact Below.refl _ _ | apply below_alloc | apply pw_below_drewN | apply below_drew1)) hb : Below W.heap.size W w1); clear ho hb)
    go_loopg [6, 27] 3 (fun g v6 v27 wr => ∃ (i : Int) (xs : List Int), v27 = .int .i64 i ∧ Aside0 (Kd.R (Kd.int .i64) 3 wr W.heap.size (fun _ => True) v6 xs) ∧ Aside0 (Below W.heap.size W wr) ∧ Aside0 ((i = 0 ∧ xs = [] ∧ 2 ≤ g) ∨ (i = 1 ∧ xs = l0 ∧ 1 ≤ g) ∨ (i = 2 ∧ xs = l0 ++ l1)))
    case atStart => exact ⟨0, [], rfl, ⟨by (with_reducible repeat (first | apply Kd.R_alloc | apply Kd.R_drewN | apply Kd.R_drew)); exact HO.out⟩, ⟨by repeat (first | (with_reducible first | exact HB.out | apply below_alloc | apply pw_below_drewN | apply below_drew1) | exact HB.out)⟩, ⟨.inl ⟨rfl, rfl, by omega⟩⟩⟩
    case round =>
     clear HO HB
     obtain ⟨i, xs, rfl, HO, HB, HA⟩ := hrel
     rcases HA.out with ⟨rfl, rfl, hg⟩ | ⟨rfl, rfl, hg⟩ | ⟨rfl, rfl⟩
     · have hce := pw_cell_below HB.out HC0.out
       clear HA
       go_wp2_with ((with_reducible refine gate_builtin (b := .append) (xs := #[.tmp 31, .tmp 32]) rfl ?_); at_builtin; refine Kd.R_append_rows (Kd.int .i64) (w0 := W) W.heap.size rfl (.tmp 31) (.tmp 32) 26 3 (.int .i64 0) 8 rfl Try.underlying26 info3 rfl (by decide) (by omega) _ [] l0 _ _ _ (fun _ => True) (fun _ => False) rfl rfl ?aO ?aR (fun _ _ h => h) (fun _ h => h.elim) ?aF ?aB ?aS ?aL ?_; (case aR => repeat (first | exact (Kd.C_below HR0.out HB.out) | (with_reducible refine Kd.C_alloc ?_ _) | (with_reducible refine Kd.C_drewN ?_ _) | (with_reducible refine Kd.C_drew ?_))); (case aB => exact (by repeat (first | (with_reducible first | exact HB.out | apply below_alloc | apply pw_below_drewN | apply below_drew1) | exact HB.out))); (case aF => exact (fun _ _ => trivial)); (case aO => exact (by (with_reducible repeat (first | apply Kd.R_alloc | apply Kd.R_drewN | apply Kd.R_drew)); exact HO.out)); (case aS => exact (below_size (by repeat (first | (with_reducible first | exact HB.out | apply below_alloc | apply pw_below_drewN | apply below_drew1) | exact HB.out)))); (case aL => have := B0.out; simp; omega); intro v2 w2 ho hb hgr hat; have HO2 := Aside0.mk ho; have HB2 := Aside0.mk hb; clear ho hb hgr hat hce HO HB)
       go_roundg 1
       case measure => omega
       case rel => exact ⟨1, l0, rfl, ⟨by (with_reducible repeat (first | apply Kd.R_alloc | apply Kd.R_drewN | apply Kd.R_drew)); simpa using HO2.out⟩, ⟨by repeat (first | (with_reducible first | exact HB2.out | apply below_alloc | apply pw_below_drewN | apply below_drew1) | exact HB2.out)⟩, ⟨.inr (.inl ⟨rfl, rfl, by omega⟩)⟩⟩
     · have hce := pw_cell_below HB.out HC1.out
       clear HA
       go_wp2_with ((with_reducible refine gate_builtin (b := .append) (xs := #[.tmp 31, .tmp 32]) rfl ?_); at_builtin; refine Kd.R_append_rows (Kd.int .i64) (w0 := W) W.heap.size rfl (.tmp 31) (.tmp 32) 26 3 (.int .i64 0) 8 rfl Try.underlying26 info3 rfl (by decide) (by omega) _ xs l1 _ _ _ (fun _ => True) (fun _ => False) rfl rfl ?aO ?aR (fun _ _ h => h) (fun _ h => h.elim) ?aF ?aB ?aS ?aL ?_; (case aR => repeat (first | exact (Kd.C_below HR1.out HB.out) | (with_reducible refine Kd.C_alloc ?_ _) | (with_reducible refine Kd.C_drewN ?_ _) | (with_reducible refine Kd.C_drew ?_))); (case aB => exact (by repeat (first | (with_reducible first | exact HB.out | apply below_alloc | apply pw_below_drewN | apply below_drew1) | exact HB.out))); (case aF => exact (fun _ _ => trivial)); (case aO => exact (by (with_reducible repeat (first | apply Kd.R_alloc | apply Kd.R_drewN | apply Kd.R_drew)); exact HO.out)); (case aS => exact (below_size (by repeat (first | (with_reducible first | exact HB.out | apply below_alloc | apply pw_below_drewN | apply below_drew1) | exact HB.out)))); (case aL => have := B0.out; have := B1.out; omega); intro v2 w2 ho hb hgr hat; have HO2 := Aside0.mk ho; have HB2 := Aside0.mk hb; clear ho hb hgr hat hce HO HB)
       go_roundg 0
       case measure => omega
       case rel => exact ⟨2, _, rfl, ⟨by (with_reducible repeat (first | apply Kd.R_alloc | apply Kd.R_drewN | apply Kd.R_drew)); exact HO2.out⟩, ⟨by repeat (first | (with_reducible first | exact HB2.out | apply below_alloc | apply pw_below_drewN | apply below_drew1) | exact HB2.out)⟩, ⟨.inr (.inr ⟨rfl, rfl⟩)⟩⟩
     · clear HA
       go_wp2
       go_ret
       exact ⟨_, rfl, by (with_reducible repeat (first | apply Kd.R_alloc | apply Kd.R_drewN | apply Kd.R_drew)); exact HO.out, by repeat (first | (with_reducible first | exact HB.out | apply below_alloc | apply pw_below_drewN | apply below_drew1) | exact HB.out)⟩
def stackR (a b : List Int) : List Int × Bool := if (if goodL a = true then goodL b else false) = true then (if goodL (a ++ b) = true then (a ++ b, true) else ([], false)) else ([], false)
def impl_StackLists.f (l0 : List Int) (l1 : List Int) : Option (List Int × Bool) := if l0.length ≤ 1048576 ∧ l1.length ≤ 1048576 then some (stackR l0 l1) else none
set_option maxHeartbeats 4000000 in
set_option maxRecDepth 100000 in
theorem impl_StackLists.calls (A0 : Option Addr) (c0 : Nat) (l0 : List Int) (A1 : Option Addr) (c1 : Nat) (l1 : List Int) (r1 : List Int) (r2 : Bool) (w : World) (hr0 : Kd.C (Kd.int .i64) w A0 l0.length l0) (hc0 : l0.length ≤ c0) (hr1 : Kd.C (Kd.int .i64) w A1 l1.length l1) (hc1 : l1.length ≤ c1) (h : impl_StackLists.f l0 l1 = some (r1, r2)) :
 Calls Try.prog 41 #[.slice A0 l0.length c0, .slice A1 l1.length c1] w fun e w' => ∃ v0_ : Value, e = .returned (.tuple #[v0_, .bool r2]) ∧ Kd.R (Kd.int .i64) 3 w' w.heap.size (fun _ => True) v0_ r1 ∧ Below w.heap.size w w' := by
 unfold impl_StackLists.f at h
 split at h
 next hs =>
  obtain ⟨hs0, hs1⟩ := hs
  have h := Option.some.inj h
  obtain ⟨k1, hA⟩ := Ev.get (areLists_ev l0 l1 hs0 hs1)
  obtain ⟨k2, hI⟩ := Ev.get (implIsList_ev (l0 ++ l1) (by rw [List.length_append]; omega))
  have hcon := concat2 A0 A1 c0 c1 l0 l1 w.heap.size (w.alloc (.cells #[.slice A0 l0.length c0, .slice A1 l1.length c1] 26)) (by simp) (by simp) (Kd.C_alloc hr0 _) (Kd.C_alloc hr1 _) (by omega) (by omega)
  have hst : stackR l0 l1 = if (if goodL l0 = true then goodL l1 else false) = true then (if goodL (l0 ++ l1) = true then (l0 ++ l1, true) else ([], false)) else ([], false) := rfl
  rw [hst] at h
  clear hst
  generalize l0 ++ l1 = y at hcon hI h
  have HR0 := Aside0.mk hr0
  have HR1 := Aside0.mk hr1
  have HC0 := Aside0.mk hc0
  have HC1 := Aside0.mk hc1
  have AA1 := Aside0.mk hA
  have AA2 := Aside0.mk hI
  have HCON := Aside0.mk hcon
  have HW := Aside0.mk h
  have HB := Aside0.mk (Below.refl w.heap.size w)
  clear hcon hr0 hr1 hc0 hc1 hA hI h hs0 hs1
  by_cases a : (if goodL l0 = true then goodL l1 else false) = true
  · rw [a] at AA1
    by_cases b : goodL y = true
    · have e : (r1, r2) = (y, true) := by
       rw [← HW.out, if_pos a, if_pos b]
      obtain ⟨e1, e2⟩ := Prod.mk.inj e
      subst e2
      rw [e1]
      clear e1
      rw [b] at AA2
      clear a b e HW
      go_enter Try.func41, Try.ntmps41
      go_wp2_with (first | (go_at_call 110; refine (HCON.out).mono ?_; rintro e w1 ⟨v, rfl, ho, hb⟩; have HO := Aside0.mk (Kd.R_lower ho (below_size (by repeat (first | (with_reducible first | exact HB.out | apply below_alloc | apply pw_below_drewN | apply below_drew1) | exact HB.out)))); have HB2 := Aside0.mk (below_step (by repeat (first | (with_reducible first | exact HB.out | apply below_alloc | apply pw_below_drewN | apply below_drew1) | exact HB.out)) hb); clear ho hb HB; have HB := HB2; clear HB2; obtain ⟨Ao, co, eo⟩ := Kd.R_slice HO.out; subst eo) | (go_at_call 107; (with_reducible refine (impl_areLists.calls k1 _ _ l0 _ _ l1 true _ ?side1 ?side2 ?side3 ?side4 AA1.out).mono ?_); (case side1 => repeat (first | exact (Kd.C_below HR0.out HB.out) | (with_reducible refine Kd.C_alloc ?_ _) | (with_reducible refine Kd.C_drewN ?_ _) | (with_reducible refine Kd.C_drew ?_))); (case side2 => exact HC0.out); (case side3 => repeat (first | exact (Kd.C_below HR1.out HB.out) | (with_reducible refine Kd.C_alloc ?_ _) | (with_reducible refine Kd.C_drewN ?_ _) | (with_reducible refine Kd.C_drew ?_))); (case side4 => exact HC1.out); rintro e w' ⟨rfl, ⟨nd, rfl⟩⟩) | (go_at_call 19; (with_reducible refine (impl_IsList.calls k2 _ _ y true _ ?side1 ?side2 AA2.out).mono ?_); (case side1 => repeat (first | exact (Kd.R_reads' HO.out).2.2 | (with_reducible refine Kd.C_alloc ?_ _) | (with_reducible refine Kd.C_drewN ?_ _) | (with_reducible refine Kd.C_drew ?_))); (case side2 => exact (Kd.R_reads' HO.out).2.1); rintro e w' ⟨rfl, ⟨nd, rfl⟩⟩))
      go_ret2
      exact ⟨_, rfl, by (with_reducible repeat (first | apply Kd.R_alloc | apply Kd.R_drewN | apply Kd.R_drew)); exact HO.out, by repeat (first | (with_reducible first | exact HB.out | apply below_alloc | apply pw_below_drewN | apply below_drew1) | exact HB.out)⟩
    · have e : (r1, r2) = ([], false) := by
       rw [← HW.out, if_pos a, if_neg b]
      obtain ⟨rfl, rfl⟩ := Prod.mk.inj e
      rw [Bool.eq_false_iff.2 b] at AA2
      clear a b e HW
      go_enter Try.func41, Try.ntmps41
      go_wp2_with (first | (go_at_call 110; refine (HCON.out).mono ?_; rintro e w1 ⟨v, rfl, ho, hb⟩; have HO := Aside0.mk (Kd.R_lower ho (below_size (by repeat (first | (with_reducible first | exact HB.out | apply below_alloc | apply pw_below_drewN | apply below_drew1) | exact HB.out)))); have HB2 := Aside0.mk (below_step (by repeat (first | (with_reducible first | exact HB.out | apply below_alloc | apply pw_below_drewN | apply below_drew1) | exact HB.out)) hb); clear ho hb HB; have HB := HB2; clear HB2; obtain ⟨Ao, co, eo⟩ := Kd.R_slice HO.out; subst eo) | (go_at_call 107; (with_reducible refine (impl_areLists.calls k1 _ _ l0 _ _ l1 true _ ?side1 ?side2 ?side3 ?side4 AA1.out).mono ?_); (case side1 => repeat (first | exact (Kd.C_below HR0.out HB.out) | (with_reducible refine Kd.C_alloc ?_ _) | (with_reducible refine Kd.C_drewN ?_ _) | (with_reducible refine Kd.C_drew ?_))); (case side2 => exact HC0.out); (case side3 => repeat (first | exact (Kd.C_below HR1.out HB.out) | (with_reducible refine Kd.C_alloc ?_ _) | (with_reducible refine Kd.C_drewN ?_ _) | (with_reducible refine Kd.C_drew ?_))); (case side4 => exact HC1.out); rintro e w' ⟨rfl, ⟨nd, rfl⟩⟩) | (go_at_call 19; (with_reducible refine (impl_IsList.calls k2 _ _ y false _ ?side1 ?side2 AA2.out).mono ?_); (case side1 => repeat (first | exact (Kd.R_reads' HO.out).2.2 | (with_reducible refine Kd.C_alloc ?_ _) | (with_reducible refine Kd.C_drewN ?_ _) | (with_reducible refine Kd.C_drew ?_))); (case side2 => exact (Kd.R_reads' HO.out).2.1); rintro e w' ⟨rfl, ⟨nd, rfl⟩⟩))
      go_ret2
      exact ⟨_, rfl, Kd.R_nil _ _ _ _ _, by repeat (first | (with_reducible first | exact HB.out | apply below_alloc | apply pw_below_drewN | apply below_drew1) | exact HB.out)⟩
  · have e : (r1, r2) = ([], false) := by
     rw [← HW.out, if_neg a]
    obtain ⟨rfl, rfl⟩ := Prod.mk.inj e
    rw [Bool.eq_false_iff.2 a] at AA1
    clear a e HW
    go_enter Try.func41, Try.ntmps41
    go_wp2_with (first | (go_at_call 110; refine (HCON.out).mono ?_; rintro e w1 ⟨v, rfl, ho, hb⟩; have HO := Aside0.mk (Kd.R_lower ho (below_size (by repeat (first | (with_reducible first | exact HB.out | apply below_alloc | apply pw_below_drewN | apply below_drew1) | exact HB.out)))); have HB2 := Aside0.mk (below_step (by repeat (first | (with_reducible first | exact HB.out | apply below_alloc | apply pw_below_drewN | apply below_drew1) | exact HB.out)) hb); clear ho hb HB; have HB := HB2; clear HB2; obtain ⟨Ao, co, eo⟩ := Kd.R_slice HO.out; subst eo) | (go_at_call 107; (with_reducible refine (impl_areLists.calls k1 _ _ l0 _ _ l1 false _ ?side1 ?side2 ?side3 ?side4 AA1.out).mono ?_); (case side1 => repeat (first | exact (Kd.C_below HR0.out HB.out) | (with_reducible refine Kd.C_alloc ?_ _) | (with_reducible refine Kd.C_drewN ?_ _) | (with_reducible refine Kd.C_drew ?_))); (case side2 => exact HC0.out); (case side3 => repeat (first | exact (Kd.C_below HR1.out HB.out) | (with_reducible refine Kd.C_alloc ?_ _) | (with_reducible refine Kd.C_drewN ?_ _) | (with_reducible refine Kd.C_drew ?_))); (case side4 => exact HC1.out); rintro e w' ⟨rfl, ⟨nd, rfl⟩⟩))
    go_ret2
    exact ⟨_, rfl, Kd.R_nil _ _ _ _ _, by repeat (first | (with_reducible first | exact HB.out | apply below_alloc | apply pw_below_drewN | apply below_drew1) | exact HB.out)⟩
 next => cases h
end Go.Proofs.Ytnlimjejllakoaa.A

-- made by a program of this repo (wip/pp.py) through the kit's printer
namespace Go.Proofs.Ytnlimjejllakoaa.A
open Go.RowKit Go.Proofs.YtnlimjejllakoaaW.PrintWords Go.Proofs.YtnlimjejllakoaaW.PrintLast Go.Proofs.YtnlimjejllakoaaW.PrintMore
attribute [local go_sem] max2_int min2_int max_two min_two max_three min_three max_four min_four
set_option linter.unusedVariables false
set_option linter.unusedSimpArgs false

/-! ### laws_FnMixesAndStacks: function 6 -/
mutual
def laws_FnMixesAndStacks.j0 : Nat → List Int → List Int → List Int → List Int → List Int → Bool → Bool → Option (Bool)
 | 0, _, _, _, _, _, _, _ => none
 | k + 1, x0, x1, x5, x6, x7, x10, x54 => if x54 = true then (some false) else (if x10 = true then (laws_FnMixesAndStacks.l0 k x0 x1 x6 x7 ([] : List Int) x5 (x5.length : Int) 0) else (laws_FnMixesAndStacks.j2 k x0 x1))
def laws_FnMixesAndStacks.j2 : Nat → List Int → List Int → Option (Bool)
 | 0, _, _ => none
 | k + 1, x0, x1 => (spec_DrawIsMajorized.f k x1).bind fun bt764 => ((spec_DrawStackLists.f k x0).bind fun bt770 => ((impl_StackLists.f bt764.1 bt770.1).bind fun bt776 => ((impl_StackLists.f bt764.2 bt770.1).bind fun bt780 => ((impl_StackLists.f bt770.1 bt770.2).bind fun bt784 => ((spec_StackLists.f k bt770.1 bt770.2).bind fun bt788 => (if (bt784.2 != bt788.2) = true then (laws_FnMixesAndStacks.j3 k bt764.1 bt764.2 bt776.1 bt776.2 bt780.1 bt780.2 true) else ((laws_pSame.f k bt784.1 bt788.1).bind fun t792 => (laws_FnMixesAndStacks.j3 k bt764.1 bt764.2 bt776.1 bt776.2 bt780.1 bt780.2 (!t792)))))))))
def laws_FnMixesAndStacks.j3 : Nat → List Int → List Int → List Int → Bool → List Int → Bool → Bool → Option (Bool)
 | 0, _, _, _, _, _, _, _ => none
 | k + 1, x14, x15, x18, x19, x20, x21, x119 => if x119 = true then (some false) else (if x19 = true then (if x21 = true then ((laws_pFit.f k x14 x15).bind fun t793 => (laws_FnMixesAndStacks.j4 k x14 x15 x18 x20 (!t793))) else (laws_FnMixesAndStacks.j4 k x14 x15 x18 x20 true)) else (laws_FnMixesAndStacks.j4 k x14 x15 x18 x20 true))
def laws_FnMixesAndStacks.j4 : Nat → List Int → List Int → List Int → List Int → Bool → Option (Bool)
 | 0, _, _, _, _, _ => none
 | k + 1, x14, x15, x18, x20, x131 => if x131 = true then (some true) else ((laws_pBelow.f k x14 x15).bind fun t794 => ((laws_pBelow.f k x18 x20).bind fun t795 => (some (t794 == t795))))
def laws_FnMixesAndStacks.l0 : Nat → List Int → List Int → List Int → List Int → List Int → List Int → Int → Int → Option (Bool)
 | 0, _, _, _, _, _, _, _, _ => none
 | k + 1, x0, x1, x6, x7, x11, x56, x57, x58 => if x58 < x57 then (if 0 ≤ x58 then (if x58 < (x56.length : Int) then (if x58 < (x6.length : Int) then (if x11.length < 17592186044416 then (laws_FnMixesAndStacks.l0 k x0 x1 x6 x7 (x11 ++ [wrap64 ((rd x56 x58) + (rd x6 x58))]) x56 x57 (wrap64 (x58 + 1))) else (none)) else (none)) else (none)) else (none)) else ((laws_pBelow.f k x11 x7).bind fun t763 => (if t763 = true then (laws_FnMixesAndStacks.j2 k x0 x1) else (some false)))
end
def laws_FnMixesAndStacks.f (k : Nat) (l0 : List Int) (l1 : List Int) : Option (Bool) := (laws_big.f l0 l1).bind fun t742 => (if t742 = true then (some true) else ((spec_DrawMixOf.f k l0).bind fun bt743 => ((impl_MixOf.f k bt743.1 bt743.2).bind fun bt749 => ((spec_MixOf.f k bt743.1 bt743.2).bind fun bt753 => (if (bt749.2 != bt753.2) = true then (laws_FnMixesAndStacks.j0 k l0 l1 bt743.1 bt743.2 bt749.1 bt753.2 true) else ((laws_pSame.f k bt749.1 bt753.1).bind fun t757 => (laws_FnMixesAndStacks.j0 k l0 l1 bt743.1 bt743.2 bt749.1 bt753.2 (!t757))))))))
set_option maxHeartbeats 8000000 in
set_option maxRecDepth 100000 in
theorem laws_FnMixesAndStacks.calls (k : Nat) (A0 : Option Addr) (c0 : Nat) (l0 : List Int) (A1 : Option Addr) (c1 : Nat) (l1 : List Int) (r : Bool) (w : World) (hr0 : Kd.C (Kd.int .u8) w A0 l0.length l0) (hc0 : l0.length ≤ c0) (hr1 : Kd.C (Kd.int .u8) w A1 l1.length l1) (hc1 : l1.length ≤ c1) (h : laws_FnMixesAndStacks.f k l0 l1 = some r) :
 Calls Try.prog 6 #[.slice A0 l0.length c0, .slice A1 l1.length c1] w fun e w' => e = .returned (.bool r) ∧ Below w.heap.size w w' := by
 have HR0 := Aside0.mk hr0
 have HC0 := Aside0.mk hc0
 clear hr0 hc0
 have HR1 := Aside0.mk hr1
 have HC1 := Aside0.mk hc1
 clear hr1 hc1
 have HB := Aside0.mk (Below.refl w.heap.size w)
 have H : ((laws_big.f l0 l1).bind fun t742 => (if t742 = true then (some true) else ((spec_DrawMixOf.f k l0).bind fun bt743 => ((impl_MixOf.f k bt743.1 bt743.2).bind fun bt749 => ((spec_MixOf.f k bt743.1 bt743.2).bind fun bt753 => (if (bt749.2 != bt753.2) = true then (laws_FnMixesAndStacks.j0 k l0 l1 bt743.1 bt743.2 bt749.1 bt753.2 true) else ((laws_pSame.f k bt749.1 bt753.1).bind fun t757 => (laws_FnMixesAndStacks.j0 k l0 l1 bt743.1 bt743.2 bt749.1 bt753.2 (!t757))))))))) = some r := h
 clear h
 replace H := Option.bind_eq_some_iff.mp H
 obtain ⟨t742, A30, H⟩ := H
 replace H : (if t742 = true then (some true) else ((spec_DrawMixOf.f k l0).bind fun bt743 => ((impl_MixOf.f k bt743.1 bt743.2).bind fun bt749 => ((spec_MixOf.f k bt743.1 bt743.2).bind fun bt753 => (if (bt749.2 != bt753.2) = true then (laws_FnMixesAndStacks.j0 k l0 l1 bt743.1 bt743.2 bt749.1 bt753.2 true) else ((laws_pSame.f k bt749.1 bt753.1).bind fun t757 => (laws_FnMixesAndStacks.j0 k l0 l1 bt743.1 bt743.2 bt749.1 bt753.2 (!t757)))))))) = some r := H
 have A3 := Aside0.mk A30
 clear A30
 by_cases c4 : t742 = true
 · subst c4
   have H1 : (some true) = some r := by rw [if_pos rfl] at H; exact H
   clear H
   have H := H1
   clear H1
   obtain rfl := Option.some.inj H
   go_enter Try.func6, Try.ntmps6
   go_wp2_with (first | ((with_reducible refine gate_callee (f := 13) rfl ?_); refine goesL_ (some 28) rfl rfl Try.func13 (by kernel_rfl) rfl #[.slice A0 l0.length c0, .slice A1 l1.length c1] rfl (by (try simp only [List.map_toArray, List.map_cons, List.map_nil]); first | done | rfl | (simp only [List.length_drop, List.length_take]; rfl)) ?_; (with_reducible refine (laws_big.calls _ _ l0 _ _ l1 true _ ?side1 ?side2 ?side3 ?side4 A3.out).mono ?_); (case side1 => repeat (first | exact HR0.out | (with_reducible refine Kd.C_alloc ?_ _) | (with_reducible refine Kd.C_drewN ?_ _) | (with_reducible refine Kd.C_drew ?_))); (case side2 => exact HC0.out); (case side3 => repeat (first | exact HR1.out | (with_reducible refine Kd.C_alloc ?_ _) | (with_reducible refine Kd.C_drewN ?_ _) | (with_reducible refine Kd.C_drew ?_))); (case side4 => exact HC1.out); rintro e w' ⟨rfl, ⟨nd, rfl⟩⟩; refine ⟨_, rfl, ?_⟩))
   go_ret
   exact ⟨by first | rfl | (simp [errW_none, errW_some] <;> rfl) | (simp [*, errW_none, errW_some] <;> rfl), by repeat (first | (with_reducible first | exact HB.out | apply below_alloc | apply pw_below_drewN | apply below_drew1) | exact HB.out)⟩
 · replace c4 := Bool.eq_false_iff.mpr c4
   subst c4
   have H1 : ((spec_DrawMixOf.f k l0).bind fun bt743 => ((impl_MixOf.f k bt743.1 bt743.2).bind fun bt749 => ((spec_MixOf.f k bt743.1 bt743.2).bind fun bt753 => (if (bt749.2 != bt753.2) = true then (laws_FnMixesAndStacks.j0 k l0 l1 bt743.1 bt743.2 bt749.1 bt753.2 true) else ((laws_pSame.f k bt749.1 bt753.1).bind fun t757 => (laws_FnMixesAndStacks.j0 k l0 l1 bt743.1 bt743.2 bt749.1 bt753.2 (!t757))))))) = some r := by rw [if_neg (show ¬ (false = true) by decide)] at H; exact H
   clear H
   have H := H1
   clear H1
   replace H := Option.bind_eq_some_iff.mp H
   obtain ⟨⟨t743, t744⟩, A50, H⟩ := H
   replace H : ((impl_MixOf.f k t743 t744).bind fun bt749 => ((spec_MixOf.f k t743 t744).bind fun bt753 => (if (bt749.2 != bt753.2) = true then (laws_FnMixesAndStacks.j0 k l0 l1 t743 t744 bt749.1 bt753.2 true) else ((laws_pSame.f k bt749.1 bt753.1).bind fun t757 => (laws_FnMixesAndStacks.j0 k l0 l1 t743 t744 bt749.1 bt753.2 (!t757)))))) = some r := H
   have A5 := Aside0.mk A50
   clear A50
   replace H := Option.bind_eq_some_iff.mp H
   obtain ⟨⟨t749, t750⟩, A60, H⟩ := H
   replace H : ((spec_MixOf.f k t743 t744).bind fun bt753 => (if (t750 != bt753.2) = true then (laws_FnMixesAndStacks.j0 k l0 l1 t743 t744 t749 bt753.2 true) else ((laws_pSame.f k t749 bt753.1).bind fun t757 => (laws_FnMixesAndStacks.j0 k l0 l1 t743 t744 t749 bt753.2 (!t757))))) = some r := H
   have A6 := Aside0.mk A60
   clear A60
   replace H := Option.bind_eq_some_iff.mp H
   obtain ⟨⟨t753, t754⟩, A70, H⟩ := H
   replace H : (if (t750 != t754) = true then (laws_FnMixesAndStacks.j0 k l0 l1 t743 t744 t749 t754 true) else ((laws_pSame.f k t749 t753).bind fun t757 => (laws_FnMixesAndStacks.j0 k l0 l1 t743 t744 t749 t754 (!t757)))) = some r := H
   have A7 := Aside0.mk A70
   clear A70
   have HC8 := Aside0.mk H
   clear H
   go_enter Try.func6, Try.ntmps6
   go_upto_region 6 with (first | ((with_reducible refine gate_callee (f := 13) rfl ?_); refine goesL_ (some 28) rfl rfl Try.func13 (by kernel_rfl) rfl #[.slice A0 l0.length c0, .slice A1 l1.length c1] rfl (by (try simp only [List.map_toArray, List.map_cons, List.map_nil]); first | done | rfl | (simp only [List.length_drop, List.length_take]; rfl)) ?_; (with_reducible refine (laws_big.calls _ _ l0 _ _ l1 false _ ?side1 ?side2 ?side3 ?side4 A3.out).mono ?_); (case side1 => repeat (first | exact HR0.out | (with_reducible refine Kd.C_alloc ?_ _) | (with_reducible refine Kd.C_drewN ?_ _) | (with_reducible refine Kd.C_drew ?_))); (case side2 => exact HC0.out); (case side3 => repeat (first | exact HR1.out | (with_reducible refine Kd.C_alloc ?_ _) | (with_reducible refine Kd.C_drewN ?_ _) | (with_reducible refine Kd.C_drew ?_))); (case side4 => exact HC1.out); rintro e w' ⟨rfl, ⟨nd, rfl⟩⟩; refine ⟨_, rfl, ?_⟩) | ((with_reducible refine gate_callee (f := 37) rfl ?_); refine goesL_ (some 31) rfl rfl Try.func37 (by kernel_rfl) rfl #[.slice A0 l0.length c0] rfl (by (try simp only [List.map_toArray, List.map_cons, List.map_nil]); first | done | rfl | (simp only [List.length_drop, List.length_take]; rfl)) ?_; (with_reducible refine (spec_DrawMixOf.calls k _ _ l0 t743 t744 _ ?side1 ?side2 A5.out).mono ?_); (case side1 => repeat (first | exact HR0.out | (with_reducible refine Kd.C_alloc ?_ _) | (with_reducible refine Kd.C_drewN ?_ _) | (with_reducible refine Kd.C_drew ?_))); (case side2 => exact HC0.out); rintro e w9 ⟨v745, v747, rfl, ho0, ho1, hb⟩; refine ⟨_, rfl, ?_⟩; have n0_ := Aside0.mk (Kd.R_lower ho0 (below_size (by repeat (first | (with_reducible first | exact HB.out | apply below_alloc | apply pw_below_drewN | apply below_drew1) | exact HB.out)))); have n1_ := Aside0.mk (Kd.R_lower ho1 (below_size (by repeat (first | (with_reducible first | exact HB.out | apply below_alloc | apply pw_below_drewN | apply below_drew1) | exact HB.out)))); have n2_ := Aside0.mk (below_step (by repeat (first | (with_reducible first | exact HB.out | apply below_alloc | apply pw_below_drewN | apply below_drew1) | exact HB.out)) hb); clear HB; have HO746 := n0_; have HO748 := n1_; have HB := n2_; clear n0_ n1_ n2_; (try clear hb); (try clear hb2); (try clear hk); (try clear hi); (try clear ho0); (try clear ho1); obtain ⟨Ao10, co10, eo10⟩ := Kd.R_slice HO746.out; subst eo10; obtain ⟨Ao11, co11, eo11⟩ := Kd.R_slice HO748.out; subst eo11) | ((with_reducible refine gate_callee (f := 38) rfl ?_); refine goesL_ (some 37) rfl rfl Try.func38 (by kernel_rfl) rfl #[.slice Ao10 t743.length co10, .slice Ao11 t744.length co11] rfl (by (try simp only [List.map_toArray, List.map_cons, List.map_nil]); first | done | rfl | (simp only [List.length_drop, List.length_take]; rfl)) ?_; (with_reducible refine (impl_MixOf.calls k _ _ t743 _ _ t744 t749 t750 _ ?side1 ?side2 ?side3 ?side4 A6.out).mono ?_); (case side1 => repeat (first | exact (Kd.R_reads' HO746.out).2.2 | (with_reducible refine Kd.C_alloc ?_ _) | (with_reducible refine Kd.C_drewN ?_ _) | (with_reducible refine Kd.C_drew ?_))); (case side2 => exact (Kd.R_reads' HO746.out).2.1); (case side3 => repeat (first | exact (Kd.R_reads' HO748.out).2.2 | (with_reducible refine Kd.C_alloc ?_ _) | (with_reducible refine Kd.C_drewN ?_ _) | (with_reducible refine Kd.C_drew ?_))); (case side4 => exact (Kd.R_reads' HO748.out).2.1); rintro e w12 ⟨v751, rfl, ho0, hb⟩; refine ⟨_, rfl, ?_⟩; have n0_ := Aside0.mk (Kd.R_elder' (by (with_reducible repeat (first | apply Kd.R_alloc | apply Kd.R_drewN | apply Kd.R_drew)); exact HO746.out) (Kd.R_base ho0) hb); have n1_ := Aside0.mk (Kd.R_elder' (by (with_reducible repeat (first | apply Kd.R_alloc | apply Kd.R_drewN | apply Kd.R_drew)); exact HO748.out) (Kd.R_base ho0) hb); have n2_ := Aside0.mk (Kd.R_lower (Kd.R_new' (Kd.R_new' ho0 (Kd.R_lt (by (with_reducible repeat (first | apply Kd.R_alloc | apply Kd.R_drewN | apply Kd.R_drew)); exact HO746.out))) (Kd.R_lt (by (with_reducible repeat (first | apply Kd.R_alloc | apply Kd.R_drewN | apply Kd.R_drew)); exact HO748.out))) (below_size (by repeat (first | (with_reducible first | exact HB.out | apply below_alloc | apply pw_below_drewN | apply below_drew1) | exact HB.out)))); have n3_ := Aside0.mk (below_step (by repeat (first | (with_reducible first | exact HB.out | apply below_alloc | apply pw_below_drewN | apply below_drew1) | exact HB.out)) hb); clear HO746; clear HO748; clear HB; have HO746 := n0_; have HO748 := n1_; have HO752 := n2_; have HB := n3_; clear n0_ n1_ n2_ n3_; (try clear hb); (try clear hb2); (try clear hk); (try clear hi); (try clear ho0)) | ((with_reducible refine gate_callee (f := 39) rfl ?_); refine goesL_ (some 43) rfl rfl Try.func39 (by kernel_rfl) rfl #[.slice Ao10 t743.length co10, .slice Ao11 t744.length co11] rfl (by (try simp only [List.map_toArray, List.map_cons, List.map_nil]); first | done | rfl | (simp only [List.length_drop, List.length_take]; rfl)) ?_; (with_reducible refine (spec_MixOf.calls k _ _ t743 _ _ t744 t753 t754 _ ?side1 ?side2 ?side3 ?side4 A7.out).mono ?_); (case side1 => repeat (first | exact (Kd.R_reads' HO746.out).2.2 | (with_reducible refine Kd.C_alloc ?_ _) | (with_reducible refine Kd.C_drewN ?_ _) | (with_reducible refine Kd.C_drew ?_))); (case side2 => exact (Kd.R_reads' HO746.out).2.1); (case side3 => repeat (first | exact (Kd.R_reads' HO748.out).2.2 | (with_reducible refine Kd.C_alloc ?_ _) | (with_reducible refine Kd.C_drewN ?_ _) | (with_reducible refine Kd.C_drew ?_))); (case side4 => exact (Kd.R_reads' HO748.out).2.1); rintro e w13 ⟨v755, rfl, ho0, hb⟩; refine ⟨_, rfl, ?_⟩; have n0_ := Aside0.mk (Kd.R_elder' (by (with_reducible repeat (first | apply Kd.R_alloc | apply Kd.R_drewN | apply Kd.R_drew)); exact HO746.out) (Kd.R_base ho0) hb); have n1_ := Aside0.mk (Kd.R_elder' (by (with_reducible repeat (first | apply Kd.R_alloc | apply Kd.R_drewN | apply Kd.R_drew)); exact HO748.out) (Kd.R_base ho0) hb); have n2_ := Aside0.mk (Kd.R_elder' (by (with_reducible repeat (first | apply Kd.R_alloc | apply Kd.R_drewN | apply Kd.R_drew)); exact HO752.out) (Kd.R_base ho0) hb); have n3_ := Aside0.mk (Kd.R_lower (Kd.R_new' (Kd.R_new' (Kd.R_new' ho0 (Kd.R_lt (by (with_reducible repeat (first | apply Kd.R_alloc | apply Kd.R_drewN | apply Kd.R_drew)); exact HO746.out))) (Kd.R_lt (by (with_reducible repeat (first | apply Kd.R_alloc | apply Kd.R_drewN | apply Kd.R_drew)); exact HO748.out))) (Kd.R_lt (by (with_reducible repeat (first | apply Kd.R_alloc | apply Kd.R_drewN | apply Kd.R_drew)); exact HO752.out))) (below_size (by repeat (first | (with_reducible first | exact HB.out | apply below_alloc | apply pw_below_drewN | apply below_drew1) | exact HB.out)))); have n4_ := Aside0.mk (below_step (by repeat (first | (with_reducible first | exact HB.out | apply below_alloc | apply pw_below_drewN | apply below_drew1) | exact HB.out)) hb); clear HO746; clear HO748; clear HO752; clear HB; have HO746 := n0_; have HO748 := n1_; have HO752 := n2_; have HO756 := n3_; have HB := n4_; clear n0_ n1_ n2_ n3_ n4_; (try clear hb); (try clear hb2); (try clear hk); (try clear hi); (try clear ho0)))
   (try simp only [Act.put, List.setIfInBounds_toArray, List.set_cons_zero, List.set_cons_succ])
   go_cut [54] (fun v54 wc => ∃ (kq : Nat) (x54_7 : Bool), v54 = .bool x54_7 ∧ Aside0 (laws_FnMixesAndStacks.j0 kq l0 l1 t743 t744 t749 t754 x54_7 = some r) ∧ Aside0 (kq ≤ k) ∧ Aside0 (Kd.R (Kd.int .i64) 3 wc w.heap.size (fun k_ => some k_ ≠ ((.slice Ao11 t744.length co11) : Value).ownBlock ∧ some k_ ≠ (v751 : Value).ownBlock) (.slice Ao10 t743.length co10) t743) ∧ Aside0 (Kd.R (Kd.int .i64) 3 wc w.heap.size (fun k_ => some k_ ≠ ((.slice Ao10 t743.length co10) : Value).ownBlock ∧ some k_ ≠ (v751 : Value).ownBlock) (.slice Ao11 t744.length co11) t744) ∧ Aside0 (Kd.R (Kd.int .i64) 3 wc w.heap.size (fun k_ => some k_ ≠ ((.slice Ao10 t743.length co10) : Value).ownBlock ∧ some k_ ≠ ((.slice Ao11 t744.length co11) : Value).ownBlock) v751 t749) ∧ Aside0 (Below w.heap.size w wc))
   case first => as_aux_lemma =>
    have H := HC8.out
    clear HC8
    by_cases c14 : (t750 != t754) = true
    · rw [if_pos c14] at H
      have c14b0 : (t750 != t754) = true := c14
      (try (have c14b1 : decide (t750 = t754) = false := by simpa using c14))
      (try (have c14b2 : (t750 == t754) = false := by simpa using c14))
      (try (have c14b3 : ¬ (t750 = t754) := by simpa using c14))
      clear c14
      (first | rw [c14b0] | (simp only [i64_w, i32_w]; rw [c14b0]) | skip)
      have H' := Aside0.mk H
      clear H
      go_wp2
      go_meet
      case rel => exact ⟨_, (true), (by first | rfl | (simp; done) | (simp [*]; done)), H', ⟨by first | omega | exact Nat.le_refl _⟩, ⟨by (with_reducible repeat (first | apply Kd.R_alloc | apply Kd.R_drewN | apply Kd.R_drew)); exact Kd.R_mono HO746.out (fun _ hk => ⟨hk.1.1, hk.1.2⟩)⟩, ⟨by (with_reducible repeat (first | apply Kd.R_alloc | apply Kd.R_drewN | apply Kd.R_drew)); exact Kd.R_mono HO748.out (fun _ hk => ⟨hk.1.1, hk.1.2⟩)⟩, ⟨by (with_reducible repeat (first | apply Kd.R_alloc | apply Kd.R_drewN | apply Kd.R_drew)); exact Kd.R_mono HO752.out (fun _ hk => ⟨hk.1.1.2, hk.1.2⟩)⟩, ⟨by repeat (first | (with_reducible first | exact HB.out | apply below_alloc | apply pw_below_drewN | apply below_drew1) | exact HB.out)⟩⟩
    · rw [if_neg c14] at H
      have c14b0 : (t750 != t754) = false := by simpa using c14
      (try (have c14b1 : decide (t750 = t754) = true := by simpa using c14))
      (try (have c14b2 : (t750 == t754) = true := by simpa using c14))
      clear c14
      (first | rw [c14b0] | (simp only [i64_w, i32_w]; rw [c14b0]) | skip)
      replace H := Option.bind_eq_some_iff.mp H
      obtain ⟨t757, A150, H⟩ := H
      replace H : (laws_FnMixesAndStacks.j0 k l0 l1 t743 t744 t749 t754 (!t757)) = some r := H
      have A15 := Aside0.mk A150
      clear A150
      have H' := Aside0.mk H
      clear H
      obtain ⟨Ao16, co16, eo16⟩ := Kd.R_slice HO752.out
      subst eo16
      obtain ⟨Ao17, co17, eo17⟩ := Kd.R_slice HO756.out
      subst eo17
      go_wp2_with (first | (go_at_call 17; (with_reducible refine (laws_pSame.calls k _ _ t749 _ _ t753 t757 _ ?side1 ?side2 ?side3 ?side4 A15.out).mono ?_); (case side1 => repeat (first | exact (Kd.R_reads' HO752.out).2.2 | (with_reducible refine Kd.C_alloc ?_ _) | (with_reducible refine Kd.C_drewN ?_ _) | (with_reducible refine Kd.C_drew ?_))); (case side2 => exact (Kd.R_reads' HO752.out).2.1); (case side3 => repeat (first | exact (Kd.R_reads' HO756.out).2.2 | (with_reducible refine Kd.C_alloc ?_ _) | (with_reducible refine Kd.C_drewN ?_ _) | (with_reducible refine Kd.C_drew ?_))); (case side4 => exact (Kd.R_reads' HO756.out).2.1); rintro e w' ⟨rfl, ⟨nd, rfl⟩⟩))
      go_meet
      case rel => exact ⟨_, (!t757), (by first | rfl | (simp; done) | (simp [*]; done)), H', ⟨by first | omega | exact Nat.le_refl _⟩, ⟨by (with_reducible repeat (first | apply Kd.R_alloc | apply Kd.R_drewN | apply Kd.R_drew)); exact Kd.R_mono HO746.out (fun _ hk => ⟨hk.1.1, hk.1.2⟩)⟩, ⟨by (with_reducible repeat (first | apply Kd.R_alloc | apply Kd.R_drewN | apply Kd.R_drew)); exact Kd.R_mono HO748.out (fun _ hk => ⟨hk.1.1, hk.1.2⟩)⟩, ⟨by (with_reducible repeat (first | apply Kd.R_alloc | apply Kd.R_drewN | apply Kd.R_drew)); exact Kd.R_mono HO752.out (fun _ hk => ⟨hk.1.1.2, hk.1.2⟩)⟩, ⟨by repeat (first | (with_reducible first | exact HB.out | apply below_alloc | apply pw_below_drewN | apply below_drew1) | exact HB.out)⟩⟩
   case rest => as_aux_lemma =>
    clear HC8
    try clear c1
    try clear p2
    try clear c3
    try clear c4
    try clear c6
    try clear c13
    try clear c14
    try clear c14b0
    try clear c14b1
    try clear c14b2
    obtain ⟨kq, x54_7, rfl, HA, HJ7, HO_5, HO_6, HO_7, HB⟩ := hcut
    cases kq with
    | zero => exact absurd HA.out (by simp [laws_FnMixesAndStacks.j0])
    | succ kj7 =>
     have H := HA.out
     clear HA
     simp only [laws_FnMixesAndStacks.j0] at H
     by_cases c18 : x54_7 = true
     · subst c18
       have H1 : (some false) = some r := by rw [if_pos rfl] at H; exact H
       clear H
       have H := H1
       clear H1
       obtain rfl := Option.some.inj H
       go_wp2
       go_ret
       exact ⟨by first | rfl | (simp [errW_none, errW_some] <;> rfl) | (simp [*, errW_none, errW_some] <;> rfl), by repeat (first | (with_reducible first | exact HB.out | apply below_alloc | apply pw_below_drewN | apply below_drew1) | exact HB.out)⟩
     · replace c18 := Bool.eq_false_iff.mpr c18
       subst c18
       have H1 : (if t754 = true then (laws_FnMixesAndStacks.l0 kj7 l0 l1 t744 t749 ([] : List Int) t743 (t743.length : Int) 0) else (laws_FnMixesAndStacks.j2 kj7 l0 l1)) = some r := by rw [if_neg (show ¬ (false = true) by decide)] at H; exact H
       clear H
       have H := H1
       clear H1
       have HC19 := Aside0.mk H
       clear H
       go_upto_if 55 with (fail)
       go_cut [] (fun wc => ∃ (kq : Nat), Aside0 (laws_FnMixesAndStacks.j2 kq l0 l1 = some r) ∧ Aside0 (kq ≤ kj7) ∧ Aside0 (Below w.heap.size w wc))
       case first => as_aux_lemma =>
        have H := HC19.out
        clear HC19
        by_cases c20 : t754 = true
        · subst c20
          have H1 : (laws_FnMixesAndStacks.l0 kj7 l0 l1 t744 t749 ([] : List Int) t743 (t743.length : Int) 0) = some r := by rw [if_pos rfl] at H; exact H
          clear H
          have H := H1
          clear H1
          have H' := Aside0.mk H
          clear H
          go_wp2
          go_loopg [11, 58] kj7 (fun kq v11 v58 w' => ∃ (x11_2 : List Int) (x58_2 : Int), v58 = .int .i64 x58_2 ∧ Aside0 (laws_FnMixesAndStacks.l0 kq l0 l1 t744 t749 x11_2 t743 (t743.length : Int) x58_2 = some r) ∧ Aside0 (kq ≤ kj7) ∧ Aside0 (Kd.R (Kd.int .i64) 3 w' w.heap.size (fun k_ => some k_ ≠ (v751 : Value).ownBlock ∧ some k_ ≠ (v11 : Value).ownBlock ∧ some k_ ≠ ((.slice Ao10 t743.length co10) : Value).ownBlock) (.slice Ao11 t744.length co11) t744) ∧ Aside0 (Kd.R (Kd.int .i64) 3 w' w.heap.size (fun k_ => some k_ ≠ ((.slice Ao11 t744.length co11) : Value).ownBlock ∧ some k_ ≠ (v11 : Value).ownBlock ∧ some k_ ≠ ((.slice Ao10 t743.length co10) : Value).ownBlock) v751 t749) ∧ Aside0 (Kd.R (Kd.int .i64) 3 w' w.heap.size (fun k_ => some k_ ≠ ((.slice Ao11 t744.length co11) : Value).ownBlock ∧ some k_ ≠ (v751 : Value).ownBlock ∧ some k_ ≠ ((.slice Ao10 t743.length co10) : Value).ownBlock) v11 x11_2) ∧ Aside0 (Kd.R (Kd.int .i64) 3 w' w.heap.size (fun k_ => some k_ ≠ ((.slice Ao11 t744.length co11) : Value).ownBlock ∧ some k_ ≠ (v751 : Value).ownBlock ∧ some k_ ≠ (v11 : Value).ownBlock) (.slice Ao10 t743.length co10) t743) ∧ Aside0 (Below w.heap.size w w'))
          case atStart => exact ⟨(([] : List Int)), (0), (by first | rfl | (simp; done) | (simp [*]; done)), H', ⟨Nat.le_refl _⟩, ⟨by (with_reducible repeat (first | apply Kd.R_alloc | apply Kd.R_drewN | apply Kd.R_drew)); exact Kd.R_mono HO_6.out (fun _ hk => ⟨hk.2, ⟨(by simp [Value.ownBlock]), hk.1⟩⟩)⟩, ⟨by (with_reducible repeat (first | apply Kd.R_alloc | apply Kd.R_drewN | apply Kd.R_drew)); exact Kd.R_mono HO_7.out (fun _ hk => ⟨hk.2, ⟨(by simp [Value.ownBlock]), hk.1⟩⟩)⟩, ⟨by first | exact Kd.R_nil _ _ _ _ _ | exact Kd.N_nil _ _ _ _ _ | exact Kd.V_nil _ _ _ _ _ | exact Kd.Q_nil _ _ _ _ _ | exact Kd.S_nil _ _ _ _ _⟩, ⟨by (with_reducible repeat (first | apply Kd.R_alloc | apply Kd.R_drewN | apply Kd.R_drew)); exact Kd.R_mono HO_5.out (fun _ hk => ⟨hk.1, ⟨hk.2, (by simp [Value.ownBlock])⟩⟩)⟩, ⟨by repeat (first | (with_reducible first | exact HB.out | apply below_alloc | apply pw_below_drewN | apply below_drew1) | exact HB.out)⟩⟩
          case round =>
           clear H'
           try clear c1
           try clear c2
           try clear p2
           try clear c3
           try clear c4
           try clear c6
           try clear c13
           try clear c14
           try clear c14b0
           try clear c14b1
           try clear c14b2
           try clear c18
           try clear c20
           try clear p2
           obtain ⟨x11_2, x58_2, rfl, HA, HK2, HO_6, HO_7, HO_11, HO_56, HB⟩ := hrel
           cases gk with
           | zero => exact absurd HA.out (by simp [laws_FnMixesAndStacks.l0])
           | succ k2 =>
            have H := HA.out
            clear HA
            simp only [laws_FnMixesAndStacks.l0] at H
            by_cases c21 : x58_2 < (t743.length : Int)
            · rw [if_pos c21] at H
              have c21b0 : decide (x58_2 < (t743.length : Int)) = true := decide_eq_true c21
              clear c21
              (first | rw [c21b0] | (simp only [i64_w, i32_w]; rw [c21b0]) | skip)
              by_cases c22 : 0 ≤ x58_2
              · rw [if_pos c22] at H
                have c22b0 : decide (0 ≤ x58_2) = true := decide_eq_true c22
                clear c22
                by_cases c23 : x58_2 < (t743.length : Int)
                · rw [if_pos c23] at H
                  have c23b0 : decide (x58_2 < (t743.length : Int)) = true := decide_eq_true c23
                  clear c23
                  by_cases c24 : x58_2 < (t744.length : Int)
                  · rw [if_pos c24] at H
                    have c24b0 : decide (x58_2 < (t744.length : Int)) = true := decide_eq_true c24
                    clear c24
                    by_cases c25 : x11_2.length < 17592186044416
                    · rw [if_pos c25] at H
                      have LMc25 := Aside0.mk c25
                      clear c25
                      obtain ⟨y760, hy760⟩ : ∃ y_ : List Int, y_ = (x11_2 ++ [wrap64 ((rd t743 x58_2) + (rd t744 x58_2))]) := ⟨_, rfl⟩
                      replace H : (laws_FnMixesAndStacks.l0 k2 l0 l1 t744 t749 y760 t743 (t743.length : Int) (wrap64 (x58_2 + 1))) = some r := by first | (rw [hy760]; with_reducible exact H) | (have H2_ := (Option.bind_some _ _).symm.trans H; rw [hy760]; with_reducible exact H2_) | (have H2_ := (Option.bind_some _ _).symm.trans H; with_reducible exact H2_) | with_reducible exact H | (rw [hy760]; exact H) | exact H
                      have Ny760 := Aside0.mk hy760
                      clear hy760
                      have H' := Aside0.mk H
                      clear H
                      have p758 : 0 ≤ (x58_2 : Int) := of_decide_eq_true (by first | (with_reducible assumption) | assumption)
                      have q758 : x58_2 < (t743.length : Int) := of_decide_eq_true (by first | (with_reducible assumption) | assumption)
                      obtain ⟨ad758, e758, hx758_0⟩ := Kd.at_int (Kd.R_reads' HO_56.out).2.2 x58_2 p758 q758
                      cases e758
                      replace p758 := eq_true p758
                      replace q758 := eq_true q758
                      have p759 : 0 ≤ (x58_2 : Int) := of_decide_eq_true (by first | (with_reducible assumption) | assumption)
                      have q759 : x58_2 < (t744.length : Int) := of_decide_eq_true (by first | (with_reducible assumption) | assumption)
                      obtain ⟨ad759, e759, hx759_0⟩ := Kd.at_int (Kd.R_reads' HO_6.out).2.2 x58_2 p759 q759
                      cases e759
                      replace p759 := eq_true p759
                      replace q759 := eq_true q759
                      go_wp2_with (first | ((with_reducible refine gate_builtin (b := .append) (xs := #[.tmp 63, .tmp 70]) rfl ?_); at_builtin; refine Kd.R_append (Kd.int .i64) (w0 := w) w.heap.size rfl (.tmp 63) (.tmp 70) 26 3 (.int .i64 0) 8 rfl Try.underlying26 info3 rfl (by decide) (by omega) u11 x11_2 (wrap64 ((rd t743 x58_2) + (rd t744 x58_2))) [.int .i64 (wrap64 ((rd t743 x58_2) + (rd t744 x58_2)))] (fun k_ => some k_ ≠ (.slice (some ad759) t744.length co11 : Value).ownBlock ∧ some k_ ≠ (v751 : Value).ownBlock ∧ some k_ ≠ (.slice (some ad758) t743.length co10 : Value).ownBlock) (fun _ => False) rfl rfl ?aP (fun _ hk => hk.elim) ?aF ?aO ?aB ?aS ?aL ?_; (case aP => exact rfl); (case aB => exact (by repeat (first | (with_reducible first | exact HB.out | apply below_alloc | apply pw_below_drewN | apply below_drew1) | exact HB.out))); (case aF => exact (fun k_ hk => ⟨Kd.fresh' (Kd.R_lt (by (with_reducible repeat (first | apply Kd.R_alloc | apply Kd.R_drewN | apply Kd.R_drew)); exact HO_6.out)) k_ hk, Kd.fresh' (Kd.R_lt (by (with_reducible repeat (first | apply Kd.R_alloc | apply Kd.R_drewN | apply Kd.R_drew)); exact HO_7.out)) k_ hk, Kd.fresh' (Kd.R_lt (by (with_reducible repeat (first | apply Kd.R_alloc | apply Kd.R_drewN | apply Kd.R_drew)); exact HO_56.out)) k_ hk⟩)); (case aO => exact (by (with_reducible repeat (first | apply Kd.R_alloc | apply Kd.R_drewN | apply Kd.R_drew)); exact HO_11.out)); (case aS => exact (below_size (by repeat (first | (with_reducible first | exact HB.out | apply below_alloc | apply pw_below_drewN | apply below_drew1) | exact HB.out)))); (case aL => have := LMc25.out; omega); intro v761 w26 ho hb hg hat; rw [← Ny760.out] at ho; have n0_ := Aside0.mk (Kd.R_after (ok := (fun k_ => some k_ ≠ (v751 : Value).ownBlock ∧ some k_ ≠ (.slice (some ad758) t743.length co10 : Value).ownBlock)) (by (with_reducible repeat (first | apply Kd.R_alloc | apply Kd.R_drewN | apply Kd.R_drew)); exact Kd.R_mono HO_6.out (fun _ hk => ⟨⟨hk.1, hk.2.2⟩, hk.2.1⟩)) hg hat); have n1_ := Aside0.mk (Kd.R_after (ok := (fun k_ => some k_ ≠ (.slice (some ad759) t744.length co11 : Value).ownBlock ∧ some k_ ≠ (.slice (some ad758) t743.length co10 : Value).ownBlock)) (by (with_reducible repeat (first | apply Kd.R_alloc | apply Kd.R_drewN | apply Kd.R_drew)); exact Kd.R_mono HO_7.out (fun _ hk => ⟨⟨hk.1, hk.2.2⟩, hk.2.1⟩)) hg hat); have n2_ := Aside0.mk (Kd.R_after (ok := (fun k_ => some k_ ≠ (.slice (some ad759) t744.length co11 : Value).ownBlock ∧ some k_ ≠ (v751 : Value).ownBlock)) (by (with_reducible repeat (first | apply Kd.R_alloc | apply Kd.R_drewN | apply Kd.R_drew)); exact Kd.R_mono HO_56.out (fun _ hk => ⟨⟨hk.1, hk.2.1⟩, hk.2.2⟩)) hg hat); have n3_ := Aside0.mk (hb); have n4_ := Aside0.mk (ho); clear HO_6; clear HO_7; clear HO_56; clear HB; clear HO_11; have HO_6 := n0_; have HO_7 := n1_; have HO_56 := n2_; have HB := n3_; have HO762 := n4_; clear n0_ n1_ n2_ n3_ n4_; clear ho hb hg hat))
                      go_roundg k2
                      case measure => have := HJ7.out; have := HK2.out; omega
                      case rel => exact ⟨(y760), (wrap64 (x58_2 + 1)), (by first | rfl | (simp; done) | (simp [*]; done)), H', ⟨by have := HJ7.out; have := HK2.out; omega⟩, ⟨by (with_reducible repeat (first | apply Kd.R_alloc | apply Kd.R_drewN | apply Kd.R_drew)); exact Kd.R_mono HO_6.out (fun _ hk => ⟨hk.1.1, ⟨hk.2, hk.1.2⟩⟩)⟩, ⟨by (with_reducible repeat (first | apply Kd.R_alloc | apply Kd.R_drewN | apply Kd.R_drew)); exact Kd.R_mono HO_7.out (fun _ hk => ⟨hk.1.1, ⟨hk.2, hk.1.2⟩⟩)⟩, ⟨by (with_reducible repeat (first | apply Kd.R_alloc | apply Kd.R_drewN | apply Kd.R_drew)); exact HO762.out⟩, ⟨by (with_reducible repeat (first | apply Kd.R_alloc | apply Kd.R_drewN | apply Kd.R_drew)); exact Kd.R_mono HO_56.out (fun _ hk => ⟨hk.1.1, ⟨hk.1.2, hk.2⟩⟩)⟩, ⟨by repeat (first | (with_reducible first | exact HB.out | apply below_alloc | apply pw_below_drewN | apply below_drew1) | exact HB.out)⟩⟩
                    · rw [if_neg c25] at H
                      exact absurd H (by simp)
                  · rw [if_neg c24] at H
                    exact absurd H (by simp)
                · rw [if_neg c23] at H
                  exact absurd H (by simp)
              · rw [if_neg c22] at H
                exact absurd H (by simp)
            · rw [if_neg c21] at H
              have c21b0 : decide (x58_2 < (t743.length : Int)) = false := decide_eq_false c21
              clear c21
              (first | rw [c21b0] | (simp only [i64_w, i32_w]; rw [c21b0]) | skip)
              replace H := Option.bind_eq_some_iff.mp H
              obtain ⟨t763, A270, H⟩ := H
              replace H : (if t763 = true then (laws_FnMixesAndStacks.j2 k2 l0 l1) else (some false)) = some r := H
              have A27 := Aside0.mk A270
              clear A270
              by_cases c28 : t763 = true
              · subst c28
                have H1 : (laws_FnMixesAndStacks.j2 k2 l0 l1) = some r := by rw [if_pos rfl] at H; exact H
                clear H
                have H := H1
                clear H1
                have H' := Aside0.mk H
                clear H
                obtain ⟨Ao29, co29, eo29⟩ := Kd.R_slice HO_11.out
                subst eo29
                obtain ⟨Ao30, co30, eo30⟩ := Kd.R_slice HO_7.out
                subst eo30
                go_wp2_with (first | ((with_reducible refine gate_callee (f := 22) rfl ?_); refine goesL_ (some 75) rfl rfl Try.func22 (by kernel_rfl) rfl #[.slice Ao29 x11_2.length co29, .slice Ao30 t749.length co30] rfl (by (try simp only [List.map_toArray, List.map_cons, List.map_nil]); first | done | rfl | (simp only [List.length_drop, List.length_take]; rfl)) ?_; (with_reducible refine (laws_pBelow.calls k2 _ _ x11_2 _ _ t749 true _ ?side1 ?side2 ?side3 ?side4 A27.out).mono ?_); (case side1 => repeat (first | exact (Kd.R_reads' HO_11.out).2.2 | (with_reducible refine Kd.C_alloc ?_ _) | (with_reducible refine Kd.C_drewN ?_ _) | (with_reducible refine Kd.C_drew ?_))); (case side2 => exact (Kd.R_reads' HO_11.out).2.1); (case side3 => repeat (first | exact (Kd.R_reads' HO_7.out).2.2 | (with_reducible refine Kd.C_alloc ?_ _) | (with_reducible refine Kd.C_drewN ?_ _) | (with_reducible refine Kd.C_drew ?_))); (case side4 => exact (Kd.R_reads' HO_7.out).2.1); rintro e w31 ⟨rfl, hb⟩; refine ⟨_, rfl, ?_⟩; have n0_ := Aside0.mk (Kd.R_below (by (with_reducible repeat (first | apply Kd.R_alloc | apply Kd.R_drewN | apply Kd.R_drew)); exact HO_6.out) hb); have n1_ := Aside0.mk (Kd.R_below (by (with_reducible repeat (first | apply Kd.R_alloc | apply Kd.R_drewN | apply Kd.R_drew)); exact HO_7.out) hb); have n2_ := Aside0.mk (Kd.R_below (by (with_reducible repeat (first | apply Kd.R_alloc | apply Kd.R_drewN | apply Kd.R_drew)); exact HO_11.out) hb); have n3_ := Aside0.mk (Kd.R_below (by (with_reducible repeat (first | apply Kd.R_alloc | apply Kd.R_drewN | apply Kd.R_drew)); exact HO_56.out) hb); have n4_ := Aside0.mk (below_step (by repeat (first | (with_reducible first | exact HB.out | apply below_alloc | apply pw_below_drewN | apply below_drew1) | exact HB.out)) hb); clear HO_6; clear HO_7; clear HO_11; clear HO_56; clear HB; have HO_6 := n0_; have HO_7 := n1_; have HO_11 := n2_; have HO_56 := n3_; have HB := n4_; clear n0_ n1_ n2_ n3_ n4_; (try clear hb); (try clear hb2); (try clear hk); (try clear hi)))
                go_meet
                case rel => exact ⟨_, H', ⟨by have := HJ7.out; have := HK2.out; first | omega | exact Nat.le_refl _⟩, ⟨by repeat (first | (with_reducible first | exact HB.out | apply below_alloc | apply pw_below_drewN | apply below_drew1) | exact HB.out)⟩⟩
              · replace c28 := Bool.eq_false_iff.mpr c28
                subst c28
                have H1 : (some false) = some r := by rw [if_neg (show ¬ (false = true) by decide)] at H; exact H
                clear H
                have H := H1
                clear H1
                obtain rfl := Option.some.inj H
                obtain ⟨Ao32, co32, eo32⟩ := Kd.R_slice HO_11.out
                subst eo32
                obtain ⟨Ao33, co33, eo33⟩ := Kd.R_slice HO_7.out
                subst eo33
                go_wp2_with (first | ((with_reducible refine gate_callee (f := 22) rfl ?_); refine goesL_ (some 75) rfl rfl Try.func22 (by kernel_rfl) rfl #[.slice Ao32 x11_2.length co32, .slice Ao33 t749.length co33] rfl (by (try simp only [List.map_toArray, List.map_cons, List.map_nil]); first | done | rfl | (simp only [List.length_drop, List.length_take]; rfl)) ?_; (with_reducible refine (laws_pBelow.calls k2 _ _ x11_2 _ _ t749 false _ ?side1 ?side2 ?side3 ?side4 A27.out).mono ?_); (case side1 => repeat (first | exact (Kd.R_reads' HO_11.out).2.2 | (with_reducible refine Kd.C_alloc ?_ _) | (with_reducible refine Kd.C_drewN ?_ _) | (with_reducible refine Kd.C_drew ?_))); (case side2 => exact (Kd.R_reads' HO_11.out).2.1); (case side3 => repeat (first | exact (Kd.R_reads' HO_7.out).2.2 | (with_reducible refine Kd.C_alloc ?_ _) | (with_reducible refine Kd.C_drewN ?_ _) | (with_reducible refine Kd.C_drew ?_))); (case side4 => exact (Kd.R_reads' HO_7.out).2.1); rintro e w34 ⟨rfl, hb⟩; refine ⟨_, rfl, ?_⟩; have n0_ := Aside0.mk (Kd.R_below (by (with_reducible repeat (first | apply Kd.R_alloc | apply Kd.R_drewN | apply Kd.R_drew)); exact HO_6.out) hb); have n1_ := Aside0.mk (Kd.R_below (by (with_reducible repeat (first | apply Kd.R_alloc | apply Kd.R_drewN | apply Kd.R_drew)); exact HO_7.out) hb); have n2_ := Aside0.mk (Kd.R_below (by (with_reducible repeat (first | apply Kd.R_alloc | apply Kd.R_drewN | apply Kd.R_drew)); exact HO_11.out) hb); have n3_ := Aside0.mk (Kd.R_below (by (with_reducible repeat (first | apply Kd.R_alloc | apply Kd.R_drewN | apply Kd.R_drew)); exact HO_56.out) hb); have n4_ := Aside0.mk (below_step (by repeat (first | (with_reducible first | exact HB.out | apply below_alloc | apply pw_below_drewN | apply below_drew1) | exact HB.out)) hb); clear HO_6; clear HO_7; clear HO_11; clear HO_56; clear HB; have HO_6 := n0_; have HO_7 := n1_; have HO_11 := n2_; have HO_56 := n3_; have HB := n4_; clear n0_ n1_ n2_ n3_ n4_; (try clear hb); (try clear hb2); (try clear hk); (try clear hi)))
                go_ret
                exact ⟨by first | rfl | (simp [errW_none, errW_some] <;> rfl) | (simp [*, errW_none, errW_some] <;> rfl), by repeat (first | (with_reducible first | exact HB.out | apply below_alloc | apply pw_below_drewN | apply below_drew1) | exact HB.out)⟩
        · replace c20 := Bool.eq_false_iff.mpr c20
          subst c20
          have H1 : (laws_FnMixesAndStacks.j2 kj7 l0 l1) = some r := by rw [if_neg (show ¬ (false = true) by decide)] at H; exact H
          clear H
          have H := H1
          clear H1
          have H' := Aside0.mk H
          clear H
          go_wp2
          go_meet
          case rel => exact ⟨_, H', ⟨by have := HJ7.out; first | omega | exact Nat.le_refl _⟩, ⟨by repeat (first | (with_reducible first | exact HB.out | apply below_alloc | apply pw_below_drewN | apply below_drew1) | exact HB.out)⟩⟩
       case rest => as_aux_lemma =>
        clear HC19
        try clear c1
        try clear c2
        try clear p2
        try clear c3
        try clear c4
        try clear c6
        try clear p6
        try clear p7
        try clear q7
        try clear hx7
        try clear c13
        try clear c14
        try clear c14b0
        try clear c14b1
        try clear c14b2
        try clear c18
        try clear c20
        try clear c21
        try clear c21b0
        try clear c22
        try clear c22b0
        try clear c23
        try clear c23b0
        try clear c24
        try clear c24b0
        try clear c25
        try clear c28
        try clear hx758_0
        try clear hx759_0
        try clear p2
        try clear p758
        try clear p759
        try clear q758
        try clear q759
        obtain ⟨kq, HA, HJ18, HB⟩ := hcut
        cases kq with
        | zero => exact absurd HA.out (by simp [laws_FnMixesAndStacks.j2])
        | succ kj18 =>
         have H := HA.out
         clear HA
         simp only [laws_FnMixesAndStacks.j2] at H
         replace H := Option.bind_eq_some_iff.mp H
         obtain ⟨⟨t764, t765⟩, A350, H⟩ := H
         replace H : ((spec_DrawStackLists.f kj18 l0).bind fun bt770 => ((impl_StackLists.f t764 bt770.1).bind fun bt776 => ((impl_StackLists.f t765 bt770.1).bind fun bt780 => ((impl_StackLists.f bt770.1 bt770.2).bind fun bt784 => ((spec_StackLists.f kj18 bt770.1 bt770.2).bind fun bt788 => (if (bt784.2 != bt788.2) = true then (laws_FnMixesAndStacks.j3 kj18 t764 t765 bt776.1 bt776.2 bt780.1 bt780.2 true) else ((laws_pSame.f kj18 bt784.1 bt788.1).bind fun t792 => (laws_FnMixesAndStacks.j3 kj18 t764 t765 bt776.1 bt776.2 bt780.1 bt780.2 (!t792))))))))) = some r := H
         have A35 := Aside0.mk A350
         clear A350
         replace H := Option.bind_eq_some_iff.mp H
         obtain ⟨⟨t770, t771⟩, A360, H⟩ := H
         replace H : ((impl_StackLists.f t764 t770).bind fun bt776 => ((impl_StackLists.f t765 t770).bind fun bt780 => ((impl_StackLists.f t770 t771).bind fun bt784 => ((spec_StackLists.f kj18 t770 t771).bind fun bt788 => (if (bt784.2 != bt788.2) = true then (laws_FnMixesAndStacks.j3 kj18 t764 t765 bt776.1 bt776.2 bt780.1 bt780.2 true) else ((laws_pSame.f kj18 bt784.1 bt788.1).bind fun t792 => (laws_FnMixesAndStacks.j3 kj18 t764 t765 bt776.1 bt776.2 bt780.1 bt780.2 (!t792)))))))) = some r := H
         have A36 := Aside0.mk A360
         clear A360
         replace H := Option.bind_eq_some_iff.mp H
         obtain ⟨⟨t776, t777⟩, A370, H⟩ := H
         replace H : ((impl_StackLists.f t765 t770).bind fun bt780 => ((impl_StackLists.f t770 t771).bind fun bt784 => ((spec_StackLists.f kj18 t770 t771).bind fun bt788 => (if (bt784.2 != bt788.2) = true then (laws_FnMixesAndStacks.j3 kj18 t764 t765 t776 t777 bt780.1 bt780.2 true) else ((laws_pSame.f kj18 bt784.1 bt788.1).bind fun t792 => (laws_FnMixesAndStacks.j3 kj18 t764 t765 t776 t777 bt780.1 bt780.2 (!t792))))))) = some r := H
         have A37 := Aside0.mk A370
         clear A370
         replace H := Option.bind_eq_some_iff.mp H
         obtain ⟨⟨t780, t781⟩, A380, H⟩ := H
         replace H : ((impl_StackLists.f t770 t771).bind fun bt784 => ((spec_StackLists.f kj18 t770 t771).bind fun bt788 => (if (bt784.2 != bt788.2) = true then (laws_FnMixesAndStacks.j3 kj18 t764 t765 t776 t777 t780 t781 true) else ((laws_pSame.f kj18 bt784.1 bt788.1).bind fun t792 => (laws_FnMixesAndStacks.j3 kj18 t764 t765 t776 t777 t780 t781 (!t792)))))) = some r := H
         have A38 := Aside0.mk A380
         clear A380
         replace H := Option.bind_eq_some_iff.mp H
         obtain ⟨⟨t784, t785⟩, A390, H⟩ := H
         replace H : ((spec_StackLists.f kj18 t770 t771).bind fun bt788 => (if (t785 != bt788.2) = true then (laws_FnMixesAndStacks.j3 kj18 t764 t765 t776 t777 t780 t781 true) else ((laws_pSame.f kj18 t784 bt788.1).bind fun t792 => (laws_FnMixesAndStacks.j3 kj18 t764 t765 t776 t777 t780 t781 (!t792))))) = some r := H
         have A39 := Aside0.mk A390
         clear A390
         replace H := Option.bind_eq_some_iff.mp H
         obtain ⟨⟨t788, t789⟩, A400, H⟩ := H
         replace H : (if (t785 != t789) = true then (laws_FnMixesAndStacks.j3 kj18 t764 t765 t776 t777 t780 t781 true) else ((laws_pSame.f kj18 t784 t788).bind fun t792 => (laws_FnMixesAndStacks.j3 kj18 t764 t765 t776 t777 t780 t781 (!t792)))) = some r := H
         have A40 := Aside0.mk A400
         clear A400
         have HC41 := Aside0.mk H
         clear H
         go_upto_region 23 with (first | ((with_reducible refine gate_callee (f := 20) rfl ?_); refine goesL_ (some 79) rfl rfl Try.func20 (by kernel_rfl) rfl #[.slice A1 l1.length c1] rfl (by (try simp only [List.map_toArray, List.map_cons, List.map_nil]); first | done | rfl | (simp only [List.length_drop, List.length_take]; rfl)) ?_; (with_reducible refine (spec_DrawIsMajorized.calls kj18 _ _ l1 t764 t765 _ ?side1 ?side2 A35.out).mono ?_); (case side1 => repeat (first | exact (Kd.C_below HR1.out HB.out) | (with_reducible refine Kd.C_alloc ?_ _) | (with_reducible refine Kd.C_drewN ?_ _) | (with_reducible refine Kd.C_drew ?_))); (case side2 => exact HC1.out); rintro e w42 ⟨v766, v768, rfl, ho0, ho1, hb⟩; refine ⟨_, rfl, ?_⟩; have n0_ := Aside0.mk (Kd.R_lower ho0 (below_size (by repeat (first | (with_reducible first | exact HB.out | apply below_alloc | apply pw_below_drewN | apply below_drew1) | exact HB.out)))); have n1_ := Aside0.mk (Kd.R_lower ho1 (below_size (by repeat (first | (with_reducible first | exact HB.out | apply below_alloc | apply pw_below_drewN | apply below_drew1) | exact HB.out)))); have n2_ := Aside0.mk (below_step (by repeat (first | (with_reducible first | exact HB.out | apply below_alloc | apply pw_below_drewN | apply below_drew1) | exact HB.out)) hb); clear HB; have HO767 := n0_; have HO769 := n1_; have HB := n2_; clear n0_ n1_ n2_; (try clear hb); (try clear hb2); (try clear hk); (try clear hi); (try clear ho0); (try clear ho1)) | ((with_reducible refine gate_callee (f := 40) rfl ?_); refine goesL_ (some 84) rfl rfl Try.func40 (by kernel_rfl) rfl #[.slice A0 l0.length c0] rfl (by (try simp only [List.map_toArray, List.map_cons, List.map_nil]); first | done | rfl | (simp only [List.length_drop, List.length_take]; rfl)) ?_; (with_reducible refine (spec_DrawStackLists.calls kj18 _ _ l0 t770 t771 _ ?side1 ?side2 A36.out).mono ?_); (case side1 => repeat (first | exact (Kd.C_below HR0.out HB.out) | (with_reducible refine Kd.C_alloc ?_ _) | (with_reducible refine Kd.C_drewN ?_ _) | (with_reducible refine Kd.C_drew ?_))); (case side2 => exact HC0.out); rintro e w43 ⟨v772, v774, rfl, ho0, ho1, hb⟩; refine ⟨_, rfl, ?_⟩; have n0_ := Aside0.mk (Kd.R_mono (Kd.R_told (Kd.R_told (Kd.R_old (by (with_reducible repeat (first | apply Kd.R_alloc | apply Kd.R_drewN | apply Kd.R_drew)); exact HO767.out) hb) (Kd.R_base ho0)) (Kd.R_base ho1)) (fun _ h_ => h_.1)); have n1_ := Aside0.mk (Kd.R_mono (Kd.R_told (Kd.R_told (Kd.R_old (by (with_reducible repeat (first | apply Kd.R_alloc | apply Kd.R_drewN | apply Kd.R_drew)); exact HO769.out) hb) (Kd.R_base ho0)) (Kd.R_base ho1)) (fun _ h_ => h_.1)); have n2_ := Aside0.mk (Kd.R_lower (Kd.R_new' (Kd.R_new' ho0 (Kd.R_lt (by (with_reducible repeat (first | apply Kd.R_alloc | apply Kd.R_drewN | apply Kd.R_drew)); exact HO767.out))) (Kd.R_lt (by (with_reducible repeat (first | apply Kd.R_alloc | apply Kd.R_drewN | apply Kd.R_drew)); exact HO769.out))) (below_size (by repeat (first | (with_reducible first | exact HB.out | apply below_alloc | apply pw_below_drewN | apply below_drew1) | exact HB.out)))); have n3_ := Aside0.mk (Kd.R_lower (Kd.R_new' (Kd.R_new' ho1 (Kd.R_lt (by (with_reducible repeat (first | apply Kd.R_alloc | apply Kd.R_drewN | apply Kd.R_drew)); exact HO767.out))) (Kd.R_lt (by (with_reducible repeat (first | apply Kd.R_alloc | apply Kd.R_drewN | apply Kd.R_drew)); exact HO769.out))) (below_size (by repeat (first | (with_reducible first | exact HB.out | apply below_alloc | apply pw_below_drewN | apply below_drew1) | exact HB.out)))); have n4_ := Aside0.mk (below_step (by repeat (first | (with_reducible first | exact HB.out | apply below_alloc | apply pw_below_drewN | apply below_drew1) | exact HB.out)) hb); clear HO767; clear HO769; clear HB; have HO767 := n0_; have HO769 := n1_; have HO773 := n2_; have HO775 := n3_; have HB := n4_; clear n0_ n1_ n2_ n3_ n4_; (try clear hb); (try clear hb2); (try clear hk); (try clear hi); (try clear ho0); (try clear ho1); obtain ⟨Ao44, co44, eo44⟩ := Kd.R_slice HO767.out; subst eo44; obtain ⟨Ao45, co45, eo45⟩ := Kd.R_slice HO773.out; subst eo45) | ((with_reducible refine gate_callee (f := 41) rfl ?_); refine goesL_ (some 90) rfl rfl Try.func41 (by kernel_rfl) rfl #[.slice Ao44 t764.length co44, .slice Ao45 t770.length co45] rfl (by (try simp only [List.map_toArray, List.map_cons, List.map_nil]); first | done | rfl | (simp only [List.length_drop, List.length_take]; rfl)) ?_; (with_reducible refine (impl_StackLists.calls _ _ t764 _ _ t770 t776 t777 _ ?side1 ?side2 ?side3 ?side4 A37.out).mono ?_); (case side1 => repeat (first | exact (Kd.R_reads' HO767.out).2.2 | (with_reducible refine Kd.C_alloc ?_ _) | (with_reducible refine Kd.C_drewN ?_ _) | (with_reducible refine Kd.C_drew ?_))); (case side2 => exact (Kd.R_reads' HO767.out).2.1); (case side3 => repeat (first | exact (Kd.R_reads' HO773.out).2.2 | (with_reducible refine Kd.C_alloc ?_ _) | (with_reducible refine Kd.C_drewN ?_ _) | (with_reducible refine Kd.C_drew ?_))); (case side4 => exact (Kd.R_reads' HO773.out).2.1); rintro e w46 ⟨v778, rfl, ho0, hb⟩; refine ⟨_, rfl, ?_⟩; have n0_ := Aside0.mk (Kd.R_elder' (by (with_reducible repeat (first | apply Kd.R_alloc | apply Kd.R_drewN | apply Kd.R_drew)); exact HO767.out) (Kd.R_base ho0) hb); have n1_ := Aside0.mk (Kd.R_elder' (by (with_reducible repeat (first | apply Kd.R_alloc | apply Kd.R_drewN | apply Kd.R_drew)); exact HO769.out) (Kd.R_base ho0) hb); have n2_ := Aside0.mk (Kd.R_elder' (by (with_reducible repeat (first | apply Kd.R_alloc | apply Kd.R_drewN | apply Kd.R_drew)); exact HO773.out) (Kd.R_base ho0) hb); have n3_ := Aside0.mk (Kd.R_elder' (by (with_reducible repeat (first | apply Kd.R_alloc | apply Kd.R_drewN | apply Kd.R_drew)); exact HO775.out) (Kd.R_base ho0) hb); have n4_ := Aside0.mk (Kd.R_lower (Kd.R_new' (Kd.R_new' (Kd.R_new' (Kd.R_new' ho0 (Kd.R_lt (by (with_reducible repeat (first | apply Kd.R_alloc | apply Kd.R_drewN | apply Kd.R_drew)); exact HO767.out))) (Kd.R_lt (by (with_reducible repeat (first | apply Kd.R_alloc | apply Kd.R_drewN | apply Kd.R_drew)); exact HO769.out))) (Kd.R_lt (by (with_reducible repeat (first | apply Kd.R_alloc | apply Kd.R_drewN | apply Kd.R_drew)); exact HO773.out))) (Kd.R_lt (by (with_reducible repeat (first | apply Kd.R_alloc | apply Kd.R_drewN | apply Kd.R_drew)); exact HO775.out))) (below_size (by repeat (first | (with_reducible first | exact HB.out | apply below_alloc | apply pw_below_drewN | apply below_drew1) | exact HB.out)))); have n5_ := Aside0.mk (below_step (by repeat (first | (with_reducible first | exact HB.out | apply below_alloc | apply pw_below_drewN | apply below_drew1) | exact HB.out)) hb); clear HO767; clear HO769; clear HO773; clear HO775; clear HB; have HO767 := n0_; have HO769 := n1_; have HO773 := n2_; have HO775 := n3_; have HO779 := n4_; have HB := n5_; clear n0_ n1_ n2_ n3_ n4_ n5_; (try clear hb); (try clear hb2); (try clear hk); (try clear hi); (try clear ho0); obtain ⟨Ao47, co47, eo47⟩ := Kd.R_slice HO769.out; subst eo47) | ((with_reducible refine gate_callee (f := 41) rfl ?_); refine goesL_ (some 96) rfl rfl Try.func41 (by kernel_rfl) rfl #[.slice Ao47 t765.length co47, .slice Ao45 t770.length co45] rfl (by (try simp only [List.map_toArray, List.map_cons, List.map_nil]); first | done | rfl | (simp only [List.length_drop, List.length_take]; rfl)) ?_; (with_reducible refine (impl_StackLists.calls _ _ t765 _ _ t770 t780 t781 _ ?side1 ?side2 ?side3 ?side4 A38.out).mono ?_); (case side1 => repeat (first | exact (Kd.R_reads' HO769.out).2.2 | (with_reducible refine Kd.C_alloc ?_ _) | (with_reducible refine Kd.C_drewN ?_ _) | (with_reducible refine Kd.C_drew ?_))); (case side2 => exact (Kd.R_reads' HO769.out).2.1); (case side3 => repeat (first | exact (Kd.R_reads' HO773.out).2.2 | (with_reducible refine Kd.C_alloc ?_ _) | (with_reducible refine Kd.C_drewN ?_ _) | (with_reducible refine Kd.C_drew ?_))); (case side4 => exact (Kd.R_reads' HO773.out).2.1); rintro e w48 ⟨v782, rfl, ho0, hb⟩; refine ⟨_, rfl, ?_⟩; have n0_ := Aside0.mk (Kd.R_elder' (by (with_reducible repeat (first | apply Kd.R_alloc | apply Kd.R_drewN | apply Kd.R_drew)); exact HO767.out) (Kd.R_base ho0) hb); have n1_ := Aside0.mk (Kd.R_elder' (by (with_reducible repeat (first | apply Kd.R_alloc | apply Kd.R_drewN | apply Kd.R_drew)); exact HO769.out) (Kd.R_base ho0) hb); have n2_ := Aside0.mk (Kd.R_elder' (by (with_reducible repeat (first | apply Kd.R_alloc | apply Kd.R_drewN | apply Kd.R_drew)); exact HO773.out) (Kd.R_base ho0) hb); have n3_ := Aside0.mk (Kd.R_elder' (by (with_reducible repeat (first | apply Kd.R_alloc | apply Kd.R_drewN | apply Kd.R_drew)); exact HO775.out) (Kd.R_base ho0) hb); have n4_ := Aside0.mk (Kd.R_elder' (by (with_reducible repeat (first | apply Kd.R_alloc | apply Kd.R_drewN | apply Kd.R_drew)); exact HO779.out) (Kd.R_base ho0) hb); have n5_ := Aside0.mk (Kd.R_lower (Kd.R_new' (Kd.R_new' (Kd.R_new' (Kd.R_new' (Kd.R_new' ho0 (Kd.R_lt (by (with_reducible repeat (first | apply Kd.R_alloc | apply Kd.R_drewN | apply Kd.R_drew)); exact HO767.out))) (Kd.R_lt (by (with_reducible repeat (first | apply Kd.R_alloc | apply Kd.R_drewN | apply Kd.R_drew)); exact HO769.out))) (Kd.R_lt (by (with_reducible repeat (first | apply Kd.R_alloc | apply Kd.R_drewN | apply Kd.R_drew)); exact HO773.out))) (Kd.R_lt (by (with_reducible repeat (first | apply Kd.R_alloc | apply Kd.R_drewN | apply Kd.R_drew)); exact HO775.out))) (Kd.R_lt (by (with_reducible repeat (first | apply Kd.R_alloc | apply Kd.R_drewN | apply Kd.R_drew)); exact HO779.out))) (below_size (by repeat (first | (with_reducible first | exact HB.out | apply below_alloc | apply pw_below_drewN | apply below_drew1) | exact HB.out)))); have n6_ := Aside0.mk (below_step (by repeat (first | (with_reducible first | exact HB.out | apply below_alloc | apply pw_below_drewN | apply below_drew1) | exact HB.out)) hb); clear HO767; clear HO769; clear HO773; clear HO775; clear HO779; clear HB; have HO767 := n0_; have HO769 := n1_; have HO773 := n2_; have HO775 := n3_; have HO779 := n4_; have HO783 := n5_; have HB := n6_; clear n0_ n1_ n2_ n3_ n4_ n5_ n6_; (try clear hb); (try clear hb2); (try clear hk); (try clear hi); (try clear ho0); obtain ⟨Ao49, co49, eo49⟩ := Kd.R_slice HO775.out; subst eo49) | ((with_reducible refine gate_callee (f := 41) rfl ?_); refine goesL_ (some 102) rfl rfl Try.func41 (by kernel_rfl) rfl #[.slice Ao45 t770.length co45, .slice Ao49 t771.length co49] rfl (by (try simp only [List.map_toArray, List.map_cons, List.map_nil]); first | done | rfl | (simp only [List.length_drop, List.length_take]; rfl)) ?_; (with_reducible refine (impl_StackLists.calls _ _ t770 _ _ t771 t784 t785 _ ?side1 ?side2 ?side3 ?side4 A39.out).mono ?_); (case side1 => repeat (first | exact (Kd.R_reads' HO773.out).2.2 | (with_reducible refine Kd.C_alloc ?_ _) | (with_reducible refine Kd.C_drewN ?_ _) | (with_reducible refine Kd.C_drew ?_))); (case side2 => exact (Kd.R_reads' HO773.out).2.1); (case side3 => repeat (first | exact (Kd.R_reads' HO775.out).2.2 | (with_reducible refine Kd.C_alloc ?_ _) | (with_reducible refine Kd.C_drewN ?_ _) | (with_reducible refine Kd.C_drew ?_))); (case side4 => exact (Kd.R_reads' HO775.out).2.1); rintro e w50 ⟨v786, rfl, ho0, hb⟩; refine ⟨_, rfl, ?_⟩; have n0_ := Aside0.mk (Kd.R_elder' (by (with_reducible repeat (first | apply Kd.R_alloc | apply Kd.R_drewN | apply Kd.R_drew)); exact HO767.out) (Kd.R_base ho0) hb); have n1_ := Aside0.mk (Kd.R_elder' (by (with_reducible repeat (first | apply Kd.R_alloc | apply Kd.R_drewN | apply Kd.R_drew)); exact HO769.out) (Kd.R_base ho0) hb); have n2_ := Aside0.mk (Kd.R_elder' (by (with_reducible repeat (first | apply Kd.R_alloc | apply Kd.R_drewN | apply Kd.R_drew)); exact HO773.out) (Kd.R_base ho0) hb); have n3_ := Aside0.mk (Kd.R_elder' (by (with_reducible repeat (first | apply Kd.R_alloc | apply Kd.R_drewN | apply Kd.R_drew)); exact HO775.out) (Kd.R_base ho0) hb); have n4_ := Aside0.mk (Kd.R_elder' (by (with_reducible repeat (first | apply Kd.R_alloc | apply Kd.R_drewN | apply Kd.R_drew)); exact HO779.out) (Kd.R_base ho0) hb); have n5_ := Aside0.mk (Kd.R_elder' (by (with_reducible repeat (first | apply Kd.R_alloc | apply Kd.R_drewN | apply Kd.R_drew)); exact HO783.out) (Kd.R_base ho0) hb); have n6_ := Aside0.mk (Kd.R_lower (Kd.R_new' (Kd.R_new' (Kd.R_new' (Kd.R_new' (Kd.R_new' (Kd.R_new' ho0 (Kd.R_lt (by (with_reducible repeat (first | apply Kd.R_alloc | apply Kd.R_drewN | apply Kd.R_drew)); exact HO767.out))) (Kd.R_lt (by (with_reducible repeat (first | apply Kd.R_alloc | apply Kd.R_drewN | apply Kd.R_drew)); exact HO769.out))) (Kd.R_lt (by (with_reducible repeat (first | apply Kd.R_alloc | apply Kd.R_drewN | apply Kd.R_drew)); exact HO773.out))) (Kd.R_lt (by (with_reducible repeat (first | apply Kd.R_alloc | apply Kd.R_drewN | apply Kd.R_drew)); exact HO775.out))) (Kd.R_lt (by (with_reducible repeat (first | apply Kd.R_alloc | apply Kd.R_drewN | apply Kd.R_drew)); exact HO779.out))) (Kd.R_lt (by (with_reducible repeat (first | apply Kd.R_alloc | apply Kd.R_drewN | apply Kd.R_drew)); exact HO783.out))) (below_size (by repeat (first | (with_reducible first | exact HB.out | apply below_alloc | apply pw_below_drewN | apply below_drew1) | exact HB.out)))); have n7_ := Aside0.mk (below_step (by repeat (first | (with_reducible first | exact HB.out | apply below_alloc | apply pw_below_drewN | apply below_drew1) | exact HB.out)) hb); clear HO767; clear HO769; clear HO773; clear HO775; clear HO779; clear HO783; clear HB; have HO767 := n0_; have HO769 := n1_; have HO773 := n2_; have HO775 := n3_; have HO779 := n4_; have HO783 := n5_; have HO787 := n6_; have HB := n7_; clear n0_ n1_ n2_ n3_ n4_ n5_ n6_ n7_; (try clear hb); (try clear hb2); (try clear hk); (try clear hi); (try clear ho0)) | ((with_reducible refine gate_callee (f := 42) rfl ?_); refine goesL_ (some 108) rfl rfl Try.func42 (by kernel_rfl) rfl #[.slice Ao45 t770.length co45, .slice Ao49 t771.length co49] rfl (by (try simp only [List.map_toArray, List.map_cons, List.map_nil]); first | done | rfl | (simp only [List.length_drop, List.length_take]; rfl)) ?_; (with_reducible refine (spec_StackLists.calls kj18 _ _ t770 _ _ t771 t788 t789 _ ?side1 ?side2 ?side3 ?side4 A40.out).mono ?_); (case side1 => repeat (first | exact (Kd.R_reads' HO773.out).2.2 | (with_reducible refine Kd.C_alloc ?_ _) | (with_reducible refine Kd.C_drewN ?_ _) | (with_reducible refine Kd.C_drew ?_))); (case side2 => exact (Kd.R_reads' HO773.out).2.1); (case side3 => repeat (first | exact (Kd.R_reads' HO775.out).2.2 | (with_reducible refine Kd.C_alloc ?_ _) | (with_reducible refine Kd.C_drewN ?_ _) | (with_reducible refine Kd.C_drew ?_))); (case side4 => exact (Kd.R_reads' HO775.out).2.1); rintro e w51 ⟨v790, rfl, ho0, hb⟩; refine ⟨_, rfl, ?_⟩; have n0_ := Aside0.mk (Kd.R_elder' (by (with_reducible repeat (first | apply Kd.R_alloc | apply Kd.R_drewN | apply Kd.R_drew)); exact HO767.out) (Kd.R_base ho0) hb); have n1_ := Aside0.mk (Kd.R_elder' (by (with_reducible repeat (first | apply Kd.R_alloc | apply Kd.R_drewN | apply Kd.R_drew)); exact HO769.out) (Kd.R_base ho0) hb); have n2_ := Aside0.mk (Kd.R_elder' (by (with_reducible repeat (first | apply Kd.R_alloc | apply Kd.R_drewN | apply Kd.R_drew)); exact HO773.out) (Kd.R_base ho0) hb); have n3_ := Aside0.mk (Kd.R_elder' (by (with_reducible repeat (first | apply Kd.R_alloc | apply Kd.R_drewN | apply Kd.R_drew)); exact HO775.out) (Kd.R_base ho0) hb); have n4_ := Aside0.mk (Kd.R_elder' (by (with_reducible repeat (first | apply Kd.R_alloc | apply Kd.R_drewN | apply Kd.R_drew)); exact HO779.out) (Kd.R_base ho0) hb); have n5_ := Aside0.mk (Kd.R_elder' (by (with_reducible repeat (first | apply Kd.R_alloc | apply Kd.R_drewN | apply Kd.R_drew)); exact HO783.out) (Kd.R_base ho0) hb); have n6_ := Aside0.mk (Kd.R_elder' (by (with_reducible repeat (first | apply Kd.R_alloc | apply Kd.R_drewN | apply Kd.R_drew)); exact HO787.out) (Kd.R_base ho0) hb); have n7_ := Aside0.mk (Kd.R_lower (Kd.R_new' (Kd.R_new' (Kd.R_new' (Kd.R_new' (Kd.R_new' (Kd.R_new' (Kd.R_new' ho0 (Kd.R_lt (by (with_reducible repeat (first | apply Kd.R_alloc | apply Kd.R_drewN | apply Kd.R_drew)); exact HO767.out))) (Kd.R_lt (by (with_reducible repeat (first | apply Kd.R_alloc | apply Kd.R_drewN | apply Kd.R_drew)); exact HO769.out))) (Kd.R_lt (by (with_reducible repeat (first | apply Kd.R_alloc | apply Kd.R_drewN | apply Kd.R_drew)); exact HO773.out))) (Kd.R_lt (by (with_reducible repeat (first | apply Kd.R_alloc | apply Kd.R_drewN | apply Kd.R_drew)); exact HO775.out))) (Kd.R_lt (by (with_reducible repeat (first | apply Kd.R_alloc | apply Kd.R_drewN | apply Kd.R_drew)); exact HO779.out))) (Kd.R_lt (by (with_reducible repeat (first | apply Kd.R_alloc | apply Kd.R_drewN | apply Kd.R_drew)); exact HO783.out))) (Kd.R_lt (by (with_reducible repeat (first | apply Kd.R_alloc | apply Kd.R_drewN | apply Kd.R_drew)); exact HO787.out))) (below_size (by repeat (first | (with_reducible first | exact HB.out | apply below_alloc | apply pw_below_drewN | apply below_drew1) | exact HB.out)))); have n8_ := Aside0.mk (below_step (by repeat (first | (with_reducible first | exact HB.out | apply below_alloc | apply pw_below_drewN | apply below_drew1) | exact HB.out)) hb); clear HO767; clear HO769; clear HO773; clear HO775; clear HO779; clear HO783; clear HO787; clear HB; have HO767 := n0_; have HO769 := n1_; have HO773 := n2_; have HO775 := n3_; have HO779 := n4_; have HO783 := n5_; have HO787 := n6_; have HO791 := n7_; have HB := n8_; clear n0_ n1_ n2_ n3_ n4_ n5_ n6_ n7_ n8_; (try clear hb); (try clear hb2); (try clear hk); (try clear hi); (try clear ho0)))
         (try simp only [Act.put, List.setIfInBounds_toArray, List.set_cons_zero, List.set_cons_succ])
         go_cut [119] (fun v119 wc => ∃ (kq : Nat) (x119_40 : Bool), v119 = .bool x119_40 ∧ Aside0 (laws_FnMixesAndStacks.j3 kq t764 t765 t776 t777 t780 t781 x119_40 = some r) ∧ Aside0 (kq ≤ kj18) ∧ Aside0 (Kd.R (Kd.int .i64) 3 wc w.heap.size (fun k_ => some k_ ≠ ((.slice Ao47 t765.length co47) : Value).ownBlock ∧ some k_ ≠ (v778 : Value).ownBlock ∧ some k_ ≠ (v782 : Value).ownBlock) (.slice Ao44 t764.length co44) t764) ∧ Aside0 (Kd.R (Kd.int .i64) 3 wc w.heap.size (fun k_ => some k_ ≠ ((.slice Ao44 t764.length co44) : Value).ownBlock ∧ some k_ ≠ (v778 : Value).ownBlock ∧ some k_ ≠ (v782 : Value).ownBlock) (.slice Ao47 t765.length co47) t765) ∧ Aside0 (Kd.R (Kd.int .i64) 3 wc w.heap.size (fun k_ => some k_ ≠ ((.slice Ao44 t764.length co44) : Value).ownBlock ∧ some k_ ≠ ((.slice Ao47 t765.length co47) : Value).ownBlock ∧ some k_ ≠ (v782 : Value).ownBlock) v778 t776) ∧ Aside0 (Kd.R (Kd.int .i64) 3 wc w.heap.size (fun k_ => some k_ ≠ ((.slice Ao44 t764.length co44) : Value).ownBlock ∧ some k_ ≠ ((.slice Ao47 t765.length co47) : Value).ownBlock ∧ some k_ ≠ (v778 : Value).ownBlock) v782 t780) ∧ Aside0 (Below w.heap.size w wc))
         case first => as_aux_lemma =>
          have H := HC41.out
          clear HC41
          by_cases c52 : (t785 != t789) = true
          · rw [if_pos c52] at H
            have c52b0 : (t785 != t789) = true := c52
            (try (have c52b1 : decide (t785 = t789) = false := by simpa using c52))
            (try (have c52b2 : (t785 == t789) = false := by simpa using c52))
            (try (have c52b3 : ¬ (t785 = t789) := by simpa using c52))
            clear c52
            (first | rw [c52b0] | (simp only [i64_w, i32_w]; rw [c52b0]) | skip)
            have H' := Aside0.mk H
            clear H
            go_wp2
            go_meet
            case rel => exact ⟨_, (true), (by first | rfl | (simp; done) | (simp [*]; done)), H', ⟨by have := HJ7.out; have := HJ18.out; first | omega | exact Nat.le_refl _⟩, ⟨by (with_reducible repeat (first | apply Kd.R_alloc | apply Kd.R_drewN | apply Kd.R_drew)); exact Kd.R_mono HO767.out (fun _ hk => ⟨hk.1.1.1.1.1.1, ⟨hk.1.1.1.2, hk.1.1.2⟩⟩)⟩, ⟨by (with_reducible repeat (first | apply Kd.R_alloc | apply Kd.R_drewN | apply Kd.R_drew)); exact Kd.R_mono HO769.out (fun _ hk => ⟨hk.1.1.1.1.1.1, ⟨hk.1.1.1.2, hk.1.1.2⟩⟩)⟩, ⟨by (with_reducible repeat (first | apply Kd.R_alloc | apply Kd.R_drewN | apply Kd.R_drew)); exact Kd.R_mono HO779.out (fun _ hk => ⟨hk.1.1.1.1.1.1.2, ⟨hk.1.1.1.1.1.2, hk.1.1.2⟩⟩)⟩, ⟨by (with_reducible repeat (first | apply Kd.R_alloc | apply Kd.R_drewN | apply Kd.R_drew)); exact Kd.R_mono HO783.out (fun _ hk => ⟨hk.1.1.1.1.1.1.2, ⟨hk.1.1.1.1.1.2, hk.1.1.2⟩⟩)⟩, ⟨by repeat (first | (with_reducible first | exact HB.out | apply below_alloc | apply pw_below_drewN | apply below_drew1) | exact HB.out)⟩⟩
          · rw [if_neg c52] at H
            have c52b0 : (t785 != t789) = false := by simpa using c52
            (try (have c52b1 : decide (t785 = t789) = true := by simpa using c52))
            (try (have c52b2 : (t785 == t789) = true := by simpa using c52))
            clear c52
            (first | rw [c52b0] | (simp only [i64_w, i32_w]; rw [c52b0]) | skip)
            replace H := Option.bind_eq_some_iff.mp H
            obtain ⟨t792, A530, H⟩ := H
            replace H : (laws_FnMixesAndStacks.j3 kj18 t764 t765 t776 t777 t780 t781 (!t792)) = some r := H
            have A53 := Aside0.mk A530
            clear A530
            have H' := Aside0.mk H
            clear H
            obtain ⟨Ao54, co54, eo54⟩ := Kd.R_slice HO787.out
            subst eo54
            obtain ⟨Ao55, co55, eo55⟩ := Kd.R_slice HO791.out
            subst eo55
            go_wp2_with (first | (go_at_call 17; (with_reducible refine (laws_pSame.calls kj18 _ _ t784 _ _ t788 t792 _ ?side1 ?side2 ?side3 ?side4 A53.out).mono ?_); (case side1 => repeat (first | exact (Kd.R_reads' HO787.out).2.2 | (with_reducible refine Kd.C_alloc ?_ _) | (with_reducible refine Kd.C_drewN ?_ _) | (with_reducible refine Kd.C_drew ?_))); (case side2 => exact (Kd.R_reads' HO787.out).2.1); (case side3 => repeat (first | exact (Kd.R_reads' HO791.out).2.2 | (with_reducible refine Kd.C_alloc ?_ _) | (with_reducible refine Kd.C_drewN ?_ _) | (with_reducible refine Kd.C_drew ?_))); (case side4 => exact (Kd.R_reads' HO791.out).2.1); rintro e w' ⟨rfl, ⟨nd, rfl⟩⟩))
            go_meet
            case rel => exact ⟨_, (!t792), (by first | rfl | (simp; done) | (simp [*]; done)), H', ⟨by have := HJ7.out; have := HJ18.out; first | omega | exact Nat.le_refl _⟩, ⟨by (with_reducible repeat (first | apply Kd.R_alloc | apply Kd.R_drewN | apply Kd.R_drew)); exact Kd.R_mono HO767.out (fun _ hk => ⟨hk.1.1.1.1.1.1, ⟨hk.1.1.1.2, hk.1.1.2⟩⟩)⟩, ⟨by (with_reducible repeat (first | apply Kd.R_alloc | apply Kd.R_drewN | apply Kd.R_drew)); exact Kd.R_mono HO769.out (fun _ hk => ⟨hk.1.1.1.1.1.1, ⟨hk.1.1.1.2, hk.1.1.2⟩⟩)⟩, ⟨by (with_reducible repeat (first | apply Kd.R_alloc | apply Kd.R_drewN | apply Kd.R_drew)); exact Kd.R_mono HO779.out (fun _ hk => ⟨hk.1.1.1.1.1.1.2, ⟨hk.1.1.1.1.1.2, hk.1.1.2⟩⟩)⟩, ⟨by (with_reducible repeat (first | apply Kd.R_alloc | apply Kd.R_drewN | apply Kd.R_drew)); exact Kd.R_mono HO783.out (fun _ hk => ⟨hk.1.1.1.1.1.1.2, ⟨hk.1.1.1.1.1.2, hk.1.1.2⟩⟩)⟩, ⟨by repeat (first | (with_reducible first | exact HB.out | apply below_alloc | apply pw_below_drewN | apply below_drew1) | exact HB.out)⟩⟩
         case rest => as_aux_lemma =>
          clear HC41
          try clear c1
          try clear c2
          try clear p2
          try clear c3
          try clear c4
          try clear c5
          try clear c6
          try clear p6
          try clear p7
          try clear q7
          try clear hx7
          try clear c13
          try clear c14
          try clear c14b0
          try clear c14b1
          try clear c14b2
          try clear c18
          try clear c20
          try clear c21
          try clear c21b0
          try clear c22
          try clear c22b0
          try clear c23
          try clear c23b0
          try clear c24
          try clear c24b0
          try clear c25
          try clear c28
          try clear c37
          try clear c38
          try clear c39
          try clear c40
          try clear c41
          try clear c42
          try clear c52
          try clear c52b0
          try clear c52b1
          try clear c52b2
          try clear hx758_0
          try clear hx759_0
          try clear p2
          try clear p6
          try clear p7
          try clear p758
          try clear p759
          try clear q7
          try clear q758
          try clear q759
          obtain ⟨kq, x119_40, rfl, HA, HJ40, HO_14, HO_15, HO_18, HO_20, HB⟩ := hcut
          cases kq with
          | zero => exact absurd HA.out (by simp [laws_FnMixesAndStacks.j3])
          | succ kj40 =>
           have H := HA.out
           clear HA
           simp only [laws_FnMixesAndStacks.j3] at H
           by_cases c56 : x119_40 = true
           · subst c56
             have H1 : (some false) = some r := by rw [if_pos rfl] at H; exact H
             clear H
             have H := H1
             clear H1
             obtain rfl := Option.some.inj H
             go_wp2
             go_ret
             exact ⟨by first | rfl | (simp [errW_none, errW_some] <;> rfl) | (simp [*, errW_none, errW_some] <;> rfl), by repeat (first | (with_reducible first | exact HB.out | apply below_alloc | apply pw_below_drewN | apply below_drew1) | exact HB.out)⟩
           · replace c56 := Bool.eq_false_iff.mpr c56
             subst c56
             have H1 : (if t777 = true then (if t781 = true then ((laws_pFit.f kj40 t764 t765).bind fun t793 => (laws_FnMixesAndStacks.j4 kj40 t764 t765 t776 t780 (!t793))) else (laws_FnMixesAndStacks.j4 kj40 t764 t765 t776 t780 true)) else (laws_FnMixesAndStacks.j4 kj40 t764 t765 t776 t780 true)) = some r := by rw [if_neg (show ¬ (false = true) by decide)] at H; exact H
             clear H
             have H := H1
             clear H1
             have HC57 := Aside0.mk H
             clear H
             go_upto_region 25 with (fail)
             go_cut [131] (fun v131 wc => ∃ (kq : Nat) (x131_56 : Bool), v131 = .bool x131_56 ∧ Aside0 (laws_FnMixesAndStacks.j4 kq t764 t765 t776 t780 x131_56 = some r) ∧ Aside0 (kq ≤ kj40) ∧ Aside0 (Kd.R (Kd.int .i64) 3 wc w.heap.size (fun k_ => some k_ ≠ ((.slice Ao47 t765.length co47) : Value).ownBlock ∧ some k_ ≠ (v778 : Value).ownBlock ∧ some k_ ≠ (v782 : Value).ownBlock) (.slice Ao44 t764.length co44) t764) ∧ Aside0 (Kd.R (Kd.int .i64) 3 wc w.heap.size (fun k_ => some k_ ≠ ((.slice Ao44 t764.length co44) : Value).ownBlock ∧ some k_ ≠ (v778 : Value).ownBlock ∧ some k_ ≠ (v782 : Value).ownBlock) (.slice Ao47 t765.length co47) t765) ∧ Aside0 (Kd.R (Kd.int .i64) 3 wc w.heap.size (fun k_ => some k_ ≠ ((.slice Ao44 t764.length co44) : Value).ownBlock ∧ some k_ ≠ ((.slice Ao47 t765.length co47) : Value).ownBlock ∧ some k_ ≠ (v782 : Value).ownBlock) v778 t776) ∧ Aside0 (Kd.R (Kd.int .i64) 3 wc w.heap.size (fun k_ => some k_ ≠ ((.slice Ao44 t764.length co44) : Value).ownBlock ∧ some k_ ≠ ((.slice Ao47 t765.length co47) : Value).ownBlock ∧ some k_ ≠ (v778 : Value).ownBlock) v782 t780) ∧ Aside0 (Below w.heap.size w wc))
             case first => as_aux_lemma =>
              have H := HC57.out
              clear HC57
              by_cases c58 : t777 = true
              · subst c58
                have H1 : (if t781 = true then ((laws_pFit.f kj40 t764 t765).bind fun t793 => (laws_FnMixesAndStacks.j4 kj40 t764 t765 t776 t780 (!t793))) else (laws_FnMixesAndStacks.j4 kj40 t764 t765 t776 t780 true)) = some r := by rw [if_pos rfl] at H; exact H
                clear H
                have H := H1
                clear H1
                by_cases c59 : t781 = true
                · subst c59
                  have H1 : ((laws_pFit.f kj40 t764 t765).bind fun t793 => (laws_FnMixesAndStacks.j4 kj40 t764 t765 t776 t780 (!t793))) = some r := by rw [if_pos rfl] at H; exact H
                  clear H
                  have H := H1
                  clear H1
                  replace H := Option.bind_eq_some_iff.mp H
                  obtain ⟨t793, A600, H⟩ := H
                  replace H : (laws_FnMixesAndStacks.j4 kj40 t764 t765 t776 t780 (!t793)) = some r := H
                  have A60 := Aside0.mk A600
                  clear A600
                  have H' := Aside0.mk H
                  clear H
                  go_wp2_with (first | (go_at_call 43; (with_reducible refine (laws_pFit.calls kj40 _ _ t764 _ _ t765 t793 _ ?side1 ?side2 ?side3 ?side4 A60.out).mono ?_); (case side1 => repeat (first | exact (Kd.R_reads' HO_14.out).2.2 | (with_reducible refine Kd.C_alloc ?_ _) | (with_reducible refine Kd.C_drewN ?_ _) | (with_reducible refine Kd.C_drew ?_))); (case side2 => exact (Kd.R_reads' HO_14.out).2.1); (case side3 => repeat (first | exact (Kd.R_reads' HO_15.out).2.2 | (with_reducible refine Kd.C_alloc ?_ _) | (with_reducible refine Kd.C_drewN ?_ _) | (with_reducible refine Kd.C_drew ?_))); (case side4 => exact (Kd.R_reads' HO_15.out).2.1); rintro e w' ⟨rfl, ⟨nd, rfl⟩⟩))
                  go_meet
                  case rel => exact ⟨_, (!t793), (by first | rfl | (simp; done) | (simp [*]; done)), H', ⟨by have := HJ7.out; have := HJ18.out; have := HJ40.out; first | omega | exact Nat.le_refl _⟩, ⟨by (with_reducible repeat (first | apply Kd.R_alloc | apply Kd.R_drewN | apply Kd.R_drew)); exact HO_14.out⟩, ⟨by (with_reducible repeat (first | apply Kd.R_alloc | apply Kd.R_drewN | apply Kd.R_drew)); exact HO_15.out⟩, ⟨by (with_reducible repeat (first | apply Kd.R_alloc | apply Kd.R_drewN | apply Kd.R_drew)); exact HO_18.out⟩, ⟨by (with_reducible repeat (first | apply Kd.R_alloc | apply Kd.R_drewN | apply Kd.R_drew)); exact HO_20.out⟩, ⟨by repeat (first | (with_reducible first | exact HB.out | apply below_alloc | apply pw_below_drewN | apply below_drew1) | exact HB.out)⟩⟩
                · replace c59 := Bool.eq_false_iff.mpr c59
                  subst c59
                  have H1 : (laws_FnMixesAndStacks.j4 kj40 t764 t765 t776 t780 true) = some r := by rw [if_neg (show ¬ (false = true) by decide)] at H; exact H
                  clear H
                  have H := H1
                  clear H1
                  have H' := Aside0.mk H
                  clear H
                  go_wp2
                  go_meet
                  case rel => exact ⟨_, (true), (by first | rfl | (simp; done) | (simp [*]; done)), H', ⟨by have := HJ7.out; have := HJ18.out; have := HJ40.out; first | omega | exact Nat.le_refl _⟩, ⟨by (with_reducible repeat (first | apply Kd.R_alloc | apply Kd.R_drewN | apply Kd.R_drew)); exact HO_14.out⟩, ⟨by (with_reducible repeat (first | apply Kd.R_alloc | apply Kd.R_drewN | apply Kd.R_drew)); exact HO_15.out⟩, ⟨by (with_reducible repeat (first | apply Kd.R_alloc | apply Kd.R_drewN | apply Kd.R_drew)); exact HO_18.out⟩, ⟨by (with_reducible repeat (first | apply Kd.R_alloc | apply Kd.R_drewN | apply Kd.R_drew)); exact HO_20.out⟩, ⟨by repeat (first | (with_reducible first | exact HB.out | apply below_alloc | apply pw_below_drewN | apply below_drew1) | exact HB.out)⟩⟩
              · replace c58 := Bool.eq_false_iff.mpr c58
                subst c58
                have H1 : (laws_FnMixesAndStacks.j4 kj40 t764 t765 t776 t780 true) = some r := by rw [if_neg (show ¬ (false = true) by decide)] at H; exact H
                clear H
                have H := H1
                clear H1
                have H' := Aside0.mk H
                clear H
                go_wp2
                go_meet
                case rel => exact ⟨_, (true), (by first | rfl | (simp; done) | (simp [*]; done)), H', ⟨by have := HJ7.out; have := HJ18.out; have := HJ40.out; first | omega | exact Nat.le_refl _⟩, ⟨by (with_reducible repeat (first | apply Kd.R_alloc | apply Kd.R_drewN | apply Kd.R_drew)); exact HO_14.out⟩, ⟨by (with_reducible repeat (first | apply Kd.R_alloc | apply Kd.R_drewN | apply Kd.R_drew)); exact HO_15.out⟩, ⟨by (with_reducible repeat (first | apply Kd.R_alloc | apply Kd.R_drewN | apply Kd.R_drew)); exact HO_18.out⟩, ⟨by (with_reducible repeat (first | apply Kd.R_alloc | apply Kd.R_drewN | apply Kd.R_drew)); exact HO_20.out⟩, ⟨by repeat (first | (with_reducible first | exact HB.out | apply below_alloc | apply pw_below_drewN | apply below_drew1) | exact HB.out)⟩⟩
             case rest => as_aux_lemma =>
              clear HC57
              try clear c1
              try clear c2
              try clear p2
              try clear c3
              try clear c4
              try clear c5
              try clear c6
              try clear p6
              try clear p7
              try clear q7
              try clear hx7
              try clear c13
              try clear c14
              try clear c14b0
              try clear c14b1
              try clear c14b2
              try clear c18
              try clear c20
              try clear c21
              try clear c21b0
              try clear c22
              try clear c22b0
              try clear c23
              try clear c23b0
              try clear c24
              try clear c24b0
              try clear c25
              try clear c28
              try clear c37
              try clear c38
              try clear c39
              try clear c40
              try clear c41
              try clear c42
              try clear c52
              try clear c52b0
              try clear c52b1
              try clear c52b2
              try clear c56
              try clear c58
              try clear c59
              try clear hx758_0
              try clear hx759_0
              try clear p2
              try clear p6
              try clear p7
              try clear p758
              try clear p759
              try clear q7
              try clear q758
              try clear q759
              obtain ⟨kq, x131_56, rfl, HA, HJ56, HO_14, HO_15, HO_18, HO_20, HB⟩ := hcut
              cases kq with
              | zero => exact absurd HA.out (by simp [laws_FnMixesAndStacks.j4])
              | succ kj56 =>
               have H := HA.out
               clear HA
               simp only [laws_FnMixesAndStacks.j4] at H
               by_cases c61 : x131_56 = true
               · subst c61
                 have H1 : (some true) = some r := by rw [if_pos rfl] at H; exact H
                 clear H
                 have H := H1
                 clear H1
                 obtain rfl := Option.some.inj H
                 go_wp2
                 go_ret
                 exact ⟨by first | rfl | (simp [errW_none, errW_some] <;> rfl) | (simp [*, errW_none, errW_some] <;> rfl), by repeat (first | (with_reducible first | exact HB.out | apply below_alloc | apply pw_below_drewN | apply below_drew1) | exact HB.out)⟩
               · replace c61 := Bool.eq_false_iff.mpr c61
                 subst c61
                 have H1 : ((laws_pBelow.f kj56 t764 t765).bind fun t794 => ((laws_pBelow.f kj56 t776 t780).bind fun t795 => (some (t794 == t795)))) = some r := by rw [if_neg (show ¬ (false = true) by decide)] at H; exact H
                 clear H
                 have H := H1
                 clear H1
                 replace H := Option.bind_eq_some_iff.mp H
                 obtain ⟨t794, A620, H⟩ := H
                 replace H : ((laws_pBelow.f kj56 t776 t780).bind fun t795 => (some (t794 == t795))) = some r := H
                 have A62 := Aside0.mk A620
                 clear A620
                 replace H := Option.bind_eq_some_iff.mp H
                 obtain ⟨t795, A630, H⟩ := H
                 replace H : (some (t794 == t795)) = some r := H
                 have A63 := Aside0.mk A630
                 clear A630
                 obtain rfl := Option.some.inj H
                 go_wp2_with (first | ((with_reducible refine gate_callee (f := 22) rfl ?_); refine goesL_ (some 134) rfl rfl Try.func22 (by kernel_rfl) rfl #[.slice Ao44 t764.length co44, .slice Ao47 t765.length co47] rfl (by (try simp only [List.map_toArray, List.map_cons, List.map_nil]); first | done | rfl | (simp only [List.length_drop, List.length_take]; rfl)) ?_; (with_reducible refine (laws_pBelow.calls kj56 _ _ t764 _ _ t765 t794 _ ?side1 ?side2 ?side3 ?side4 A62.out).mono ?_); (case side1 => repeat (first | exact (Kd.R_reads' HO_14.out).2.2 | (with_reducible refine Kd.C_alloc ?_ _) | (with_reducible refine Kd.C_drewN ?_ _) | (with_reducible refine Kd.C_drew ?_))); (case side2 => exact (Kd.R_reads' HO_14.out).2.1); (case side3 => repeat (first | exact (Kd.R_reads' HO_15.out).2.2 | (with_reducible refine Kd.C_alloc ?_ _) | (with_reducible refine Kd.C_drewN ?_ _) | (with_reducible refine Kd.C_drew ?_))); (case side4 => exact (Kd.R_reads' HO_15.out).2.1); rintro e w64 ⟨rfl, hb⟩; refine ⟨_, rfl, ?_⟩; have n0_ := Aside0.mk (Kd.R_below (by (with_reducible repeat (first | apply Kd.R_alloc | apply Kd.R_drewN | apply Kd.R_drew)); exact HO_14.out) hb); have n1_ := Aside0.mk (Kd.R_below (by (with_reducible repeat (first | apply Kd.R_alloc | apply Kd.R_drewN | apply Kd.R_drew)); exact HO_15.out) hb); have n2_ := Aside0.mk (Kd.R_below (by (with_reducible repeat (first | apply Kd.R_alloc | apply Kd.R_drewN | apply Kd.R_drew)); exact HO_18.out) hb); have n3_ := Aside0.mk (Kd.R_below (by (with_reducible repeat (first | apply Kd.R_alloc | apply Kd.R_drewN | apply Kd.R_drew)); exact HO_20.out) hb); have n4_ := Aside0.mk (below_step (by repeat (first | (with_reducible first | exact HB.out | apply below_alloc | apply pw_below_drewN | apply below_drew1) | exact HB.out)) hb); clear HO_14; clear HO_15; clear HO_18; clear HO_20; clear HB; have HO_14 := n0_; have HO_15 := n1_; have HO_18 := n2_; have HO_20 := n3_; have HB := n4_; clear n0_ n1_ n2_ n3_ n4_; (try clear hb); (try clear hb2); (try clear hk); (try clear hi); obtain ⟨Ao65, co65, eo65⟩ := Kd.R_slice HO_18.out; subst eo65; obtain ⟨Ao66, co66, eo66⟩ := Kd.R_slice HO_20.out; subst eo66) | ((with_reducible refine gate_callee (f := 22) rfl ?_); refine goesL_ (some 137) rfl rfl Try.func22 (by kernel_rfl) rfl #[.slice Ao65 t776.length co65, .slice Ao66 t780.length co66] rfl (by (try simp only [List.map_toArray, List.map_cons, List.map_nil]); first | done | rfl | (simp only [List.length_drop, List.length_take]; rfl)) ?_; (with_reducible refine (laws_pBelow.calls kj56 _ _ t776 _ _ t780 t795 _ ?side1 ?side2 ?side3 ?side4 A63.out).mono ?_); (case side1 => repeat (first | exact (Kd.R_reads' HO_18.out).2.2 | (with_reducible refine Kd.C_alloc ?_ _) | (with_reducible refine Kd.C_drewN ?_ _) | (with_reducible refine Kd.C_drew ?_))); (case side2 => exact (Kd.R_reads' HO_18.out).2.1); (case side3 => repeat (first | exact (Kd.R_reads' HO_20.out).2.2 | (with_reducible refine Kd.C_alloc ?_ _) | (with_reducible refine Kd.C_drewN ?_ _) | (with_reducible refine Kd.C_drew ?_))); (case side4 => exact (Kd.R_reads' HO_20.out).2.1); rintro e w67 ⟨rfl, hb⟩; refine ⟨_, rfl, ?_⟩; have n0_ := Aside0.mk (Kd.R_below (by (with_reducible repeat (first | apply Kd.R_alloc | apply Kd.R_drewN | apply Kd.R_drew)); exact HO_14.out) hb); have n1_ := Aside0.mk (Kd.R_below (by (with_reducible repeat (first | apply Kd.R_alloc | apply Kd.R_drewN | apply Kd.R_drew)); exact HO_15.out) hb); have n2_ := Aside0.mk (Kd.R_below (by (with_reducible repeat (first | apply Kd.R_alloc | apply Kd.R_drewN | apply Kd.R_drew)); exact HO_18.out) hb); have n3_ := Aside0.mk (Kd.R_below (by (with_reducible repeat (first | apply Kd.R_alloc | apply Kd.R_drewN | apply Kd.R_drew)); exact HO_20.out) hb); have n4_ := Aside0.mk (below_step (by repeat (first | (with_reducible first | exact HB.out | apply below_alloc | apply pw_below_drewN | apply below_drew1) | exact HB.out)) hb); clear HO_14; clear HO_15; clear HO_18; clear HO_20; clear HB; have HO_14 := n0_; have HO_15 := n1_; have HO_18 := n2_; have HO_20 := n3_; have HB := n4_; clear n0_ n1_ n2_ n3_ n4_; (try clear hb); (try clear hb2); (try clear hk); (try clear hi)))
                 go_ret
                 exact ⟨by first | rfl | (simp [errW_none, errW_some] <;> rfl) | (simp [*, errW_none, errW_some] <;> rfl), by repeat (first | (with_reducible first | exact HB.out | apply below_alloc | apply pw_below_drewN | apply below_drew1) | exact HB.out)⟩

/-- THE ONE PURE STATEMENT of laws_FnMixesAndStacks: yours. -/
def laws_FnMixesAndStacks.Pure : Prop := ∀ (l0 : List Int) (l1 : List Int), l0.length ≤ maxLen → l0.length * 1 ≤ 140737488351232 → (∀ x ∈ l0, (Lit.int .u8 x).wf = true) → l1.length ≤ maxLen → l1.length * 1 ≤ 140737488351232 → (∀ x ∈ l1, (Lit.int .u8 x).wf = true) → ∃ k, laws_FnMixesAndStacks.f k l0 l1 = some true
theorem laws_FnMixesAndStacks.walk (P : laws_FnMixesAndStacks.Pure) (a0 : Option Addr) (len0 cap0 : Nat) (z0 : List Int) (a1 : Option Addr) (len1 cap1 : Nat) (z1 : List Int) (w : World) (w0 : (a0 = none ∧ len0 = 0 ∧ cap0 = 0 ∧ z0 = []) ∨ ∃ x, a0 = some x ∧ len0 ≤ cap0 ∧ cap0 ≤ maxLen ∧ z0.length = cap0 ∧ (∀ i, i < z0.length → w.cell? (x.add i) = some (.int .u8 (z0.getD i 0))) ∧ ∀ n ∈ z0, (Lit.int .u8 n).wf = true) (y0 : len0 * 1 ≤ 140737488351232) (w1 : (a1 = none ∧ len1 = 0 ∧ cap1 = 0 ∧ z1 = []) ∨ ∃ x, a1 = some x ∧ len1 ≤ cap1 ∧ cap1 ≤ maxLen ∧ z1.length = cap1 ∧ (∀ i, i < z1.length → w.cell? (x.add i) = some (.int .u8 (z1.getD i 0))) ∧ ∀ n ∈ z1, (Lit.int .u8 n).wf = true) (y1 : len1 * 1 ≤ 140737488351232) :
 Calls Try.prog 6 #[.slice a0 len0 cap0, .slice a1 len1 cap1] w fun e w' => e = .returned (.bool true) ∧ Below w.heap.size w w' := by
 obtain ⟨l0, rfl, hr0, hm0, hw0, hc0⟩ := ReadsInt.ofRowC w0
 obtain ⟨l1, rfl, hr1, hm1, hw1, hc1⟩ := ReadsInt.ofRowC w1
 obtain ⟨k, h⟩ := P l0 l1 hm0 y0 hw0 hm1 y1 hw1
 refine (laws_FnMixesAndStacks.calls k _ _ l0 _ _ l1 true w (Kd.C_of_reads (d := (0 : Int)) (h1 := fun _ => rfl) hr0) hc0 (Kd.C_of_reads (d := (0 : Int)) (h1 := fun _ => rfl) hr1) hc1 h).mono ?_
 rintro e w' ⟨rfl, hd⟩
 exact ⟨rfl, hd⟩

end Go.Proofs.Ytnlimjejllakoaa.A

-- made by a program of this repo (wip/pp.py) through the kit's printer
namespace Go.Proofs.Ytnlimjejllakoaa.A
open Go.RowKit Go.Proofs.YtnlimjejllakoaaW.PrintWords Go.Proofs.YtnlimjejllakoaaW.PrintLast Go.Proofs.YtnlimjejllakoaaW.PrintMore
attribute [local go_sem] max2_int min2_int max_two min_two max_three min_three max_four min_four
set_option linter.unusedVariables false
set_option linter.unusedSimpArgs false

end Go.Proofs.Ytnlimjejllakoaa.A

-- made by a program of this repo (wip/pp.py) through the kit's printer
namespace Go.Proofs.Ytnlimjejllakoaa.A
open Go.RowKit Go.Proofs.YtnlimjejllakoaaW.PrintWords Go.Proofs.YtnlimjejllakoaaW.PrintLast Go.Proofs.YtnlimjejllakoaaW.PrintMore
attribute [local go_sem] max2_int min2_int max_two min_two max_three min_three max_four min_four
set_option linter.unusedVariables false
set_option linter.unusedSimpArgs false

end Go.Proofs.Ytnlimjejllakoaa.A

-- made by a program of this repo (wip/pp.py) through the kit's printer
namespace Go.Proofs.Ytnlimjejllakoaa.A
open Go.RowKit Go.Proofs.YtnlimjejllakoaaW.PrintWords Go.Proofs.YtnlimjejllakoaaW.PrintLast Go.Proofs.YtnlimjejllakoaaW.PrintMore
attribute [local go_sem] max2_int min2_int max_two min_two max_three min_three max_four min_four
set_option linter.unusedVariables false
set_option linter.unusedSimpArgs false

end Go.Proofs.Ytnlimjejllakoaa.A

-- made by a program of this repo (wip/pp.py) through the kit's printer
namespace Go.Proofs.Ytnlimjejllakoaa.A
open Go.RowKit Go.Proofs.YtnlimjejllakoaaW.PrintWords Go.Proofs.YtnlimjejllakoaaW.PrintLast Go.Proofs.YtnlimjejllakoaaW.PrintMore
attribute [local go_sem] max2_int min2_int max_two min_two max_three min_three max_four min_four
set_option linter.unusedVariables false
set_option linter.unusedSimpArgs false

end Go.Proofs.Ytnlimjejllakoaa.A

-- made by a program of this repo (wip/pp.py) through the kit's printer
namespace Go.Proofs.Ytnlimjejllakoaa.A
open Go.RowKit Go.Proofs.YtnlimjejllakoaaW.PrintWords Go.Proofs.YtnlimjejllakoaaW.PrintLast Go.Proofs.YtnlimjejllakoaaW.PrintMore
attribute [local go_sem] max2_int min2_int max_two min_two max_three min_three max_four min_four
set_option linter.unusedVariables false
set_option linter.unusedSimpArgs false

end Go.Proofs.Ytnlimjejllakoaa.A

namespace Go.Proofs.Ytnlimjejllakoaa.A
open Go.RowKit Go.Proofs.YtnlimjejllakoaaW.PrintWords Go.Proofs.YtnlimjejllakoaaW.PrintLast Go.Proofs.YtnlimjejllakoaaW.PrintMore
set_option linter.unusedVariables false
set_option linter.unusedSimpArgs false
theorem mem_rd {l : List Int} {x : Int} (h : x ∈ l) : ∃ i : Int, 0 ≤ i ∧ i < l.length ∧ rd l i = x := by
 obtain ⟨i, hi, rfl⟩ := List.mem_iff_getElem.1 h
 exact ⟨(i : Int), by omega, by omega, rdn hi⟩
theorem rd_mem {l : List Int} {i : Int} (h0 : 0 ≤ i) (h1 : i < l.length) : rd l i ∈ l := by
 have hi : i.toNat < l.length := by omega
 have e : rd l i = l[i.toNat] := rdi h0 h1
 rw [e]
 exact List.getElem_mem hi
end Go.Proofs.Ytnlimjejllakoaa.A

namespace Go.Proofs.Ytnlimjejllakoaa.A
open Go.RowKit Go.Proofs.YtnlimjejllakoaaW.PrintWords Go.Proofs.YtnlimjejllakoaaW.PrintLast Go.Proofs.YtnlimjejllakoaaW.PrintMore
set_option linter.unusedVariables false
set_option linter.unusedSimpArgs false
/-! what the draws give: small numbers and short lists -/
theorem tmod_bd (x n : Int) (h0 : 0 ≤ x) (hn : 0 < n) : 0 ≤ Int.tmod x n ∧ Int.tmod x n < n := by
 rw [Int.tmod_eq_emod_of_nonneg h0]
 exact ⟨Int.emod_nonneg _ (by omega), Int.emod_lt_of_pos _ hn⟩
theorem and255 (z : Int) : 0 ≤ Go.bits .and .u64 (IntKind.u64.wrap z / 1099511627776) 255 ∧ Go.bits .and .u64 (IntKind.u64.wrap z / 1099511627776) 255 ≤ 255 := by
 have e := IntKind.wrap_u64 z
 have h := bits_mask .u64 64 (by decide) wraps_u64 8 (by decide) (IntKind.u64.wrap z / 1099511627776) (by omega) (by omega)
 have h' : Go.bits .and .u64 (IntKind.u64.wrap z / 1099511627776) 255 = IntKind.u64.wrap z / 1099511627776 % 256 := by simpa using h
 rw [h']
 omega
def Bytes (l : List Int) : Prop := l.length ≤ 1048576 ∧ ∀ x ∈ l, 0 ≤ x ∧ x ≤ 255
theorem next_ev (l : List Int) (hl : Bytes l) (a s : Int) (h0 : 0 ≤ a) (h1 : a ≤ 1000000000) : ∃ x s', spec_l1Cur_next.f l a s = some (x, a + 1, s') ∧ 0 ≤ x ∧ x ≤ 255 := by
 have hb := hl.1
 unfold spec_l1Cur_next.f
 rw [w64 (x := a + 1) (by omega) (by omega)]
 by_cases c : a < (l.length : Int)
 · simp only [if_pos c, if_pos h0]
   have hx := hl.2 _ (rd_mem h0 c)
   by_cases c2 : a + 1 ≤ (l.length : Int)
   · simp only [if_pos c2]
     refine ⟨_, _, rfl, ?_⟩
     rw [w64 (by omega) (by omega)]
     exact hx
   · omega
 · simp only [if_neg c]
   by_cases c2 : a + 1 ≤ (l.length : Int)
   · omega
   · simp only [if_neg c2]
     refine ⟨_, _, rfl, ?_⟩
     have := and255 (IntKind.u64.wrap (IntKind.u64.wrap (s * 6364136223846793005) + 0) + 1442695040888963407)
     rw [w64 (by omega) (by omega)]
     exact this
theorem pick_ev (l : List Int) (hl : Bytes l) (a s n : Int) (h0 : 0 ≤ a) (h1 : a ≤ 900000000) : ∃ x a' s', spec_l1Cur_pick.f l a s n = some (x, a', s') ∧ 0 ≤ x ∧ (x = 0 ∨ x < n) ∧ a ≤ a' ∧ a' ≤ a + 2 := by
 unfold spec_l1Cur_pick.f
 by_cases c : n ≤ 1
 · simp only [if_pos c]
   exact ⟨_, _, _, rfl, by omega, by omega, by omega, by omega⟩
 · simp only [if_neg c]
   obtain ⟨x, s1, e1, b1, b2⟩ := next_ev l hl a s h0 (by omega)
   simp only [e1, Option.bind_some]
   by_cases c2 : n > 200
   · simp only [if_pos c2]
     obtain ⟨y, s2, e2, b3, b4⟩ := next_ev l hl (a + 1) s1 (by omega) (by omega)
     simp only [e2, Option.bind_some, if_neg (show ¬ n = 0 by omega)]
     have t := tmod_bd (x * 256 + y) n (by omega) (by omega)
     refine ⟨_, _, _, rfl, ?_⟩
     rw [w64 (x := x * 256) (by omega) (by omega), w64 (x := x * 256 + y) (by omega) (by omega)]
     omega
   · simp only [if_neg c2, if_neg (show ¬ n = 0 by omega)]
     have t := tmod_bd x n (by omega) (by omega)
     exact ⟨_, _, _, rfl, by omega, by omega, by omega, by omega⟩
theorem one_ev (l : List Int) (hl : Bytes l) (a s n : Int) (h0 : 0 ≤ a) (h1 : a ≤ 900000000) : ∃ x a' s', spec_l1Cur_one.f l a s n = some (x, a', s') ∧ a ≤ a' ∧ a' ≤ a + 2 := by
 unfold spec_l1Cur_one.f
 obtain ⟨x, a', s', e, _, _, b1, b2⟩ := pick_ev l hl a s n h0 h1
 simp only [e, Option.bind_some]
 exact ⟨_, _, _, rfl, b1, b2⟩
theorem among_ev (l : List Int) (hl : Bytes l) (a s : Int) (L : List Int) (hL : 0 < L.length) (h0 : 0 ≤ a) (h1 : a ≤ 900000000) : ∃ x a' s', spec_l1Cur_among.f l a s L = some (x, a', s') ∧ x ∈ L ∧ a ≤ a' ∧ a' ≤ a + 2 := by
 unfold spec_l1Cur_among.f
 obtain ⟨x, a', s', e, b0, b, b1, b2⟩ := pick_ev l hl a s (L.length : Int) h0 h1
 simp only [e, Option.bind_some, if_pos b0, if_pos (show x < (L.length : Int) by omega)]
 exact ⟨_, _, _, rfl, rd_mem b0 (by omega), b1, b2⟩
/-- Short lists of small numbers. -/
structure Bd (n m : Int) (l : List Int) : Prop where
 len : (l.length : Int) ≤ n
 low : ∀ x ∈ l, -1 ≤ x
 high : ∀ x ∈ l, x ≤ m
theorem Bd.le {n m n' m' : Int} {l : List Int} (h : Bd n m l) (h1 : n ≤ n') (h2 : m ≤ m') : Bd n' m' l := ⟨by have := h.len; omega, h.low, fun x hx => by have := h.high x hx; omega⟩
theorem Bd.snoc {n m : Int} {l : List Int} (h : Bd n m l) {x : Int} (h1 : -1 ≤ x) (h2 : x ≤ m) : Bd (n + 1) m (l ++ [x]) := by
 refine ⟨by have := h.len; rw [List.length_append]; simp; omega, fun y hy => ?_, fun y hy => ?_⟩
 · rcases List.mem_append.1 hy with hy | hy
   · exact h.low y hy
   · have : y = x := by simpa using hy
     omega
 · rcases List.mem_append.1 hy with hy | hy
   · exact h.high y hy
   · have : y = x := by simpa using hy
     omega
theorem Bd.nil (n m : Int) (h : 0 ≤ n) : Bd n m [] := ⟨by simpa using h, fun x hx => by simp at hx, fun x hx => by simp at hx⟩
theorem list_l (l : List Int) (hl : Bytes l) (m : Int) (hm : 0 ≤ m) (hm2 : m ≤ 1000) : ∀ (d : Nat) (acc : List Int) (a s : Int), (d : Int) ≤ 10 → acc.length ≤ 10 → 0 ≤ a → a ≤ 800000000 + 10 * (10 - (d : Int)) → Bd (10 - (d : Int)) m acc → ∃ r a' s', Ev (fun k => spec_l1Cur_list.l0 k m acc (d : Int) l a s) (r, a', s') ∧ Bd 10 m r ∧ a ≤ a' ∧ a' ≤ a + 2 * (d : Int)
 | 0, acc, a, s, hd, hc, h0, h1, hb => by
  refine ⟨acc, a, s, Ev.succ ?_, hb.le (by omega) (by omega), by omega, by omega⟩
  simp only [spec_l1Cur_list.l0, if_neg (show ¬ ((0 : Nat) : Int) > 0 by omega)]
  exact Ev.now _
 | d + 1, acc, a, s, hd, hc, h0, h1, hb => by
  obtain ⟨x, a1, s1, e, b0, b, b1, b2⟩ := pick_ev l hl a s (m + 1) h0 (by omega)
  have hl1 := hb.len
  obtain ⟨r, a', s', h, hr, q1, q2⟩ := list_l l hl m hm hm2 d (acc ++ [x]) a1 s1 (by omega) (by rw [List.length_append]; simp; omega) (by omega) (by omega) ((hb.snoc (by omega) (by omega)).le (by omega) (by omega))
  refine ⟨r, a', s', Ev.succ ?_, hr, by omega, by omega⟩
  simp only [spec_l1Cur_list.l0, if_pos (show ((d + 1 : Nat) : Int) > 0 by omega), w64 (x := m + 1) (by omega) (by omega), e, Option.bind_some, if_pos (show acc.length < 17592186044416 by omega), w64 (x := ((d + 1 : Nat) : Int) - 1) (by omega) (by omega)]
  rw [show ((d + 1 : Nat) : Int) - 1 = (d : Int) by omega]
  exact h
theorem list_ev (l : List Int) (hl : Bytes l) (m : Int) (hm : 0 ≤ m) (hm2 : m ≤ 1000) (a s : Int) (h0 : 0 ≤ a) (h1 : a ≤ 700000000) : ∃ r a' s', Ev (fun k => spec_l1Cur_list.f k l a s m) (r, a', s') ∧ Bd 10 m r ∧ a ≤ a' ∧ a' ≤ a + 100 := by
 obtain ⟨x, a1, s1, e, b0, b, b1, b2⟩ := pick_ev l hl a s 6 h0 (by omega)
 obtain ⟨d, hd⟩ := Int.eq_ofNat_of_zero_le (show 0 ≤ 1 + x by omega)
 have hd' : 1 + x = (d : Int) := hd
 obtain ⟨r, a', s', h, hr, q1, q2⟩ := list_l l hl m hm hm2 d [] a1 s1 (by omega) (by simp) (by omega) (by omega) (Bd.nil _ _ (by omega))
 refine ⟨r, a', s', ?_, hr, by omega, by omega⟩
 unfold spec_l1Cur_list.f
 simp only [e, Option.bind_some, w64 (x := 1 + x) (by omega) (by omega)]
 rw [hd']
 exact h
theorem any_l (l : List Int) (hl : Bytes l) (m : Int) (hm : 9 ≤ m) (hm2 : m ≤ 1000) : ∀ (d : Nat) (acc : List Int) (a s : Int), d ≤ 12 → acc.length + d = 12 → 0 ≤ a → a ≤ 800000000 + 10 * (acc.length : Int) → Bd 12 m acc → ∃ r a' s', Ev (fun k => spec_l1Cur_anyList.l0 k acc l a s) (r, a', s') ∧ Bd 12 m r ∧ a ≤ a' ∧ a' ≤ a + 2 + 4 * (d : Int)
 | 0, acc, a, s, hd, hc, h0, h1, hb => by
  obtain ⟨x, a1, s1, e, b0, b, b1, b2⟩ := pick_ev l hl a s 2 h0 (by omega)
  refine ⟨acc, a1, s1, Ev.succ ?_, hb, by omega, by omega⟩
  simp only [spec_l1Cur_anyList.l0, e, Option.bind_some, w64 (x := 8 + x) (by omega) (by omega), if_neg (show ¬ (acc.length : Int) < 8 + x by omega)]
  exact Ev.now _
 | d + 1, acc, a, s, hd, hc, h0, h1, hb => by
  obtain ⟨x, a1, s1, e, b0, b, b1, b2⟩ := pick_ev l hl a s 2 h0 (by omega)
  by_cases c : (acc.length : Int) < 8 + x
  · obtain ⟨y, a2, s2, e2, c0, c3, c1, c2⟩ := pick_ev l hl a1 s1 9 (by omega) (by omega)
    have hbb : Bd 12 m (acc ++ [y]) := by
     refine ⟨by rw [List.length_append]; simp; omega, fun z hz => ?_, fun z hz => ?_⟩
     · rcases List.mem_append.1 hz with hz | hz
       · exact hb.low z hz
       · have : z = y := by simpa using hz
         omega
     · rcases List.mem_append.1 hz with hz | hz
       · exact hb.high z hz
       · have : z = y := by simpa using hz
         omega
    obtain ⟨r, a', s', h, hr, q1, q2⟩ := any_l l hl m hm hm2 d (acc ++ [y]) a2 s2 (by omega) (by rw [List.length_append]; simp; omega) (by omega) (by rw [List.length_append]; simp; omega) hbb
    refine ⟨r, a', s', Ev.succ ?_, hr, by omega, by omega⟩
    simp only [spec_l1Cur_anyList.l0, e, Option.bind_some, w64 (x := 8 + x) (by omega) (by omega), if_pos c, e2, if_pos (show acc.length < 17592186044416 by omega)]
    exact h
  · refine ⟨acc, a1, s1, Ev.succ ?_, hb, by omega, by omega⟩
    simp only [spec_l1Cur_anyList.l0, e, Option.bind_some, w64 (x := 8 + x) (by omega) (by omega), if_neg c]
    exact Ev.now _
theorem anyList_ev (l : List Int) (hl : Bytes l) (m : Int) (hm : 0 ≤ m) (hm2 : m ≤ 1000) (a s : Int) (h0 : 0 ≤ a) (h1 : a ≤ 600000000) : ∃ r a' s', Ev (fun k => spec_l1Cur_anyList.f k l a s m) (r, a', s') ∧ Bd 12 (max m 61) r ∧ a ≤ a' ∧ a' ≤ a + 200 := by
 obtain ⟨L, a1, s1, e1, hL, b1, b2⟩ := list_ev l hl m hm hm2 a s h0 (by omega)
 obtain ⟨x, a2, s2, e2, c0, c3, c1, c2⟩ := pick_ev l hl a1 s1 14 (by omega) (by omega)
 have hlen := hL.len
 have hL' : Bd 12 (max m 61) L := hL.le (by omega) (by omega)
 by_cases t0 : x = 0
 · obtain ⟨y, a3, s3, e3, hy, d1, d2⟩ := among_ev l hl a2 s2 [-1, 0, 60, 61] (by simp) (by omega) (by omega)
   have hy' : -1 ≤ y ∧ y ≤ 61 := by
    simp at hy
    omega
   refine ⟨L ++ [y], a3, s3, ?_, (Bd.snoc (hL.le (n' := 10) (m' := max m 61) (by omega) (by omega)) hy'.1 (by omega)).le (by omega) (by omega), by omega, by omega⟩
   unfold spec_l1Cur_anyList.f
   refine Ev.bind e1 ?_
   simp only [e2, Option.bind_some, if_pos t0, e3, if_pos (show L.length < 17592186044416 by omega)]
   exact Ev.now _
 · by_cases t1 : x = 1
   · obtain ⟨r, a3, s3, e3, hr, d1, d2⟩ := any_l l hl (max m 61) (by omega) (by omega) (12 - L.length) L a2 s2 (by omega) (by omega) (by omega) (by omega) hL'
     refine ⟨r, a3, s3, ?_, hr, by omega, by omega⟩
     unfold spec_l1Cur_anyList.f
     refine Ev.bind e1 ?_
     simp only [e2, Option.bind_some, if_neg t0, if_pos t1]
     exact e3
   · by_cases t2 : x = 2
     · refine ⟨[], a2, s2, ?_, Bd.nil _ _ (by omega), by omega, by omega⟩
       unfold spec_l1Cur_anyList.f
       refine Ev.bind e1 ?_
       simp only [e2, Option.bind_some, if_neg t0, if_neg t1, if_pos t2]
       exact Ev.now _
     · refine ⟨L, a2, s2, ?_, hL', by omega, by omega⟩
       unfold spec_l1Cur_anyList.f
       refine Ev.bind e1 ?_
       simp only [e2, Option.bind_some, if_neg t0, if_neg t1, if_neg t2]
       exact Ev.now _
end Go.Proofs.Ytnlimjejllakoaa.A

-- made by a program of this repo (wip/pp.py) through the kit's printer
namespace Go.Proofs.Ytnlimjejllakoaa.A
open Go.RowKit Go.Proofs.YtnlimjejllakoaaW.PrintWords Go.Proofs.YtnlimjejllakoaaW.PrintLast Go.Proofs.YtnlimjejllakoaaW.PrintMore
attribute [local go_sem] max2_int min2_int max_two min_two max_three min_three max_four min_four
set_option linter.unusedVariables false
set_option linter.unusedSimpArgs false

end Go.Proofs.Ytnlimjejllakoaa.A

-- made by a program of this repo (wip/pp.py) through the kit's printer
namespace Go.Proofs.Ytnlimjejllakoaa.A
open Go.RowKit Go.Proofs.YtnlimjejllakoaaW.PrintWords Go.Proofs.YtnlimjejllakoaaW.PrintLast Go.Proofs.YtnlimjejllakoaaW.PrintMore
attribute [local go_sem] max2_int min2_int max_two min_two max_three min_three max_four min_four
set_option linter.unusedVariables false
set_option linter.unusedSimpArgs false

end Go.Proofs.Ytnlimjejllakoaa.A

namespace Go.Proofs.Ytnlimjejllakoaa.A
open Go.RowKit Go.Proofs.YtnlimjejllakoaaW.PrintWords Go.Proofs.YtnlimjejllakoaaW.PrintLast Go.Proofs.YtnlimjejllakoaaW.PrintMore
set_option linter.unusedVariables false
set_option linter.unusedSimpArgs false
/-! the draw of two lists that fit, mostly -/
theorem Bd.set {n m : Int} {l : List Int} (h : Bd n m l) (i : Nat) {x : Int} (h1 : -1 ≤ x) (h2 : x ≤ m) : Bd n m (l.set i x) := by
 refine ⟨by rw [List.length_set]; exact h.len, fun y hy => ?_, fun y hy => ?_⟩
 · rcases List.mem_or_eq_of_mem_set hy with hy | rfl
   · exact h.low y hy
   · exact h1
 · rcases List.mem_or_eq_of_mem_set hy with hy | rfl
   · exact h.high y hy
   · exact h2
theorem fit_end (l : List Int) (hl : Bytes l) (b acc : List Int) (n : Int) (hb : Bd 12 100 b) (hx : Bd 12 100 acc) (a s : Int) (h0 : 0 ≤ a) (h1 : a ≤ 800000000) : ∃ x y a' s', Ev (fun k => spec_l1Cur_fitting.j1 k b acc n false l a s) (x, y, a', s') ∧ Bd 12 100 x ∧ Bd 12 100 y ∧ a ≤ a' ∧ a' ≤ a + 10 := by
 obtain ⟨t, a1, s1, e, b1, b2⟩ := one_ev l hl a s 5 h0 (by omega)
 cases t with
 | true =>
  refine ⟨b, acc, a1, s1, Ev.succ ?_, hb, hx, by omega, by omega⟩
  simp only [spec_l1Cur_fitting.j1, Bool.false_eq_true, if_false, e, Option.bind_some, if_true]
  exact Ev.now _
 | false =>
  refine ⟨acc, b, a1, s1, Ev.succ ?_, hx, hb, by omega, by omega⟩
  simp only [spec_l1Cur_fitting.j1, Bool.false_eq_true, if_false, e, Option.bind_some]
  exact Ev.now _
theorem fit_l (l : List Int) (hl : Bytes l) (b : List Int) (hb : Bd 12 100 b) : ∀ (d : Nat) (acc : List Int) (a s : Int), (d : Int) ≤ 12 → 0 ≤ a → a ≤ 700000000 - 100 * (d : Int) → Bd 12 (80 - (d : Int)) acc → ∃ x y a' s', Ev (fun k => spec_l1Cur_fitting.l0 k b acc (d : Int) l a s) (x, y, a', s') ∧ Bd 12 100 x ∧ Bd 12 100 y ∧ a ≤ a' ∧ a' ≤ a + 10 + 30 * (d : Int) := by
 intro d
 induction d with
 | zero =>
  intro acc a s hd h0 h1 hacc
  obtain ⟨x, y, a', s', e, q1, q2, q3, q4⟩ := fit_end l hl b acc ((0 : Nat) : Int) hb (hacc.le (by omega) (by omega)) a s h0 (by omega)
  refine ⟨x, y, a', s', Ev.succ ?_, q1, q2, q3, by omega⟩
  simp only [spec_l1Cur_fitting.l0, if_neg (show ¬ ((0 : Nat) : Int) > 0 by omega)]
  exact e
 | succ d ih =>
  intro acc a s hd h0 h1 hacc
  have hlen := hacc.len
  have hbig : Bd 12 100 acc := hacc.le (by omega) (by omega)
  by_cases c : (acc.length : Int) > 1
  · obtain ⟨i, a1, s1, e1, p0, p, p1, p2⟩ := pick_ev l hl a s (acc.length : Int) h0 (by omega)
    obtain ⟨j, a2, s2, e2, r0, r, r1, r2⟩ := pick_ev l hl a1 s1 (acc.length : Int) (by omega) (by omega)
    have hi : i < (acc.length : Int) := by omega
    have hj : j < (acc.length : Int) := by omega
    have b1 := hacc.high _ (rd_mem p0 hi)
    have b2 := hacc.low _ (rd_mem p0 hi)
    have keep : ∀ (a3 s3 : Int), a2 ≤ a3 → a3 ≤ a2 + 2 → ∃ x y a' s', Ev (fun k => spec_l1Cur_fitting.l0 k b acc (wrap64 (((d + 1 : Nat) : Int) - 1)) l a3 s3) (x, y, a', s') ∧ Bd 12 100 x ∧ Bd 12 100 y ∧ a3 ≤ a' ∧ a' ≤ a3 + 10 + 30 * (d : Int) := fun a3 s3 g1 g2 => by
     rw [w64 (by omega) (by omega), show ((d + 1 : Nat) : Int) - 1 = (d : Int) by omega]
     exact ih acc a3 s3 (by omega) (by omega) (by omega) (hacc.le (by omega) (by omega))
    have move : rd acc i > 0 → ∀ (a3 s3 : Int), a2 ≤ a3 → a3 ≤ a2 + 2 → ∃ x y a' s', Ev (fun k => spec_l1Cur_fitting.l0 k b ((acc.set i.toNat (wrap64 (rd acc i - 1))).set j.toNat (wrap64 (rd (acc.set i.toNat (wrap64 (rd acc i - 1))) j + 1))) (wrap64 (((d + 1 : Nat) : Int) - 1)) l a3 s3) (x, y, a', s') ∧ Bd 12 100 x ∧ Bd 12 100 y ∧ a3 ≤ a' ∧ a' ≤ a3 + 10 + 30 * (d : Int) := fun hp a3 s3 g1 g2 => by
     rw [w64 (x := ((d + 1 : Nat) : Int) - 1) (by omega) (by omega), show ((d + 1 : Nat) : Int) - 1 = (d : Int) by omega, w64 (x := rd acc i - 1) (by omega) (by omega)]
     have h1 : Bd 12 (80 - ((d + 1 : Nat) : Int)) (acc.set i.toNat (rd acc i - 1)) := hacc.set _ (by omega) (by omega)
     have c1 := h1.high _ (rd_mem (l := acc.set i.toNat (rd acc i - 1)) r0 (by rw [List.length_set]; exact hj))
     have c2 := h1.low _ (rd_mem (l := acc.set i.toNat (rd acc i - 1)) r0 (by rw [List.length_set]; exact hj))
     rw [w64 (x := rd (acc.set i.toNat (rd acc i - 1)) j + 1) (by omega) (by omega)]
     exact ih _ a3 s3 (by omega) (by omega) (by omega) ((h1.le (n' := 12) (m' := 80 - (d : Int)) (by omega) (by omega)).set _ (by omega) (by omega))
    have body : ∃ x y a' s', Ev (fun k => spec_l1Cur_fitting.j1 k b acc ((d + 1 : Nat) : Int) true l a s) (x, y, a', s') ∧ Bd 12 100 x ∧ Bd 12 100 y ∧ a ≤ a' ∧ a' ≤ a + 20 + 30 * (d : Int) := by
     by_cases t1 : rd acc i > 0
     · by_cases t2 : rd acc i > rd acc j
       · obtain ⟨x, y, a', s', h, q1, q2, q3, q4⟩ := move t1 a2 s2 (by omega) (by omega)
         refine ⟨x, y, a', s', Ev.succ ?_, q1, q2, by omega, by omega⟩
         simp only [spec_l1Cur_fitting.j1, if_true, e1, e2, Option.bind_some, if_pos p0, if_pos hi, if_pos t1, if_pos r0, if_pos hj, if_pos t2]
         exact h
       · obtain ⟨t, a3, s3, e3, f1, f2⟩ := one_ev l hl a2 s2 4 (by omega) (by omega)
         cases t with
         | true =>
          obtain ⟨x, y, a', s', h, q1, q2, q3, q4⟩ := move t1 a3 s3 (by omega) (by omega)
          refine ⟨x, y, a', s', Ev.succ ?_, q1, q2, by omega, by omega⟩
          simp only [spec_l1Cur_fitting.j1, if_true, e1, e2, e3, Option.bind_some, if_pos p0, if_pos hi, if_pos t1, if_pos r0, if_pos hj, if_neg t2]
          exact h
         | false =>
          obtain ⟨x, y, a', s', h, q1, q2, q3, q4⟩ := keep a3 s3 (by omega) (by omega)
          refine ⟨x, y, a', s', Ev.succ ?_, q1, q2, by omega, by omega⟩
          simp only [spec_l1Cur_fitting.j1, if_true, e1, e2, e3, Option.bind_some, if_pos p0, if_pos hi, if_pos t1, if_pos r0, if_pos hj, if_neg t2, Bool.false_eq_true, if_false]
          exact h
     · obtain ⟨x, y, a', s', h, q1, q2, q3, q4⟩ := keep a2 s2 (by omega) (by omega)
       refine ⟨x, y, a', s', Ev.succ ?_, q1, q2, by omega, by omega⟩
       simp only [spec_l1Cur_fitting.j1, if_true, e1, e2, Option.bind_some, if_pos p0, if_pos hi, if_neg t1]
       exact h
    obtain ⟨x, y, a', s', h, q1, q2, q3, q4⟩ := body
    refine ⟨x, y, a', s', Ev.succ ?_, q1, q2, by omega, by omega⟩
    simp only [spec_l1Cur_fitting.l0, if_pos (show ((d + 1 : Nat) : Int) > 0 by omega), decide_eq_true c]
    exact h
  · obtain ⟨x, y, a', s', e, q1, q2, q3, q4⟩ := fit_end l hl b acc ((d + 1 : Nat) : Int) hb hbig a s h0 (by omega)
    refine ⟨x, y, a', s', Ev.succ ?_, q1, q2, q3, by omega⟩
    simp only [spec_l1Cur_fitting.l0, if_pos (show ((d + 1 : Nat) : Int) > 0 by omega), decide_eq_false c]
    exact e
theorem fitting_ev (l : List Int) (hl : Bytes l) (m : Int) (hm : 0 ≤ m) (hm2 : m ≤ 61) (a s : Int) (h0 : 0 ≤ a) (h1 : a ≤ 500000000) : ∃ x y a' s', Ev (fun k => spec_l1Cur_fitting.f k l a s m) (x, y, a', s') ∧ Bd 12 100 x ∧ Bd 12 100 y ∧ a ≤ a' ∧ a' ≤ a + 1000 := by
 obtain ⟨b, a1, s1, e1, hb, b1, b2⟩ := anyList_ev l hl m hm (by omega) a s h0 (by omega)
 obtain ⟨t, a2, s2, e2, c1, c2⟩ := one_ev l hl a1 s1 5 (by omega) (by omega)
 have hb' : Bd 12 100 b := hb.le (by omega) (by omega)
 cases t with
 | true =>
  obtain ⟨q, a3, s3, e3, hq, d1, d2⟩ := anyList_ev l hl m hm (by omega) a2 s2 (by omega) (by omega)
  refine ⟨q, b, a3, s3, ?_, hq.le (by omega) (by omega), hb', by omega, by omega⟩
  unfold spec_l1Cur_fitting.f
  refine Ev.bind e1 ?_
  simp only [e2, Option.bind_some, if_true]
  exact Ev.bind e3 (Ev.now _)
 | false =>
  obtain ⟨n, a3, s3, e3, n0, n1, d1, d2⟩ := pick_ev l hl a2 s2 12 (by omega) (by omega)
  obtain ⟨d, hd⟩ := Int.eq_ofNat_of_zero_le n0
  have hd' : n = (d : Int) := hd
  have hlen := hb.len
  obtain ⟨x, y, a', s', h, q1, q2, q3, q4⟩ := fit_l l hl b hb' d b a3 s3 (by omega) (by omega) (by omega) (hb.le (by omega) (by omega))
  refine ⟨x, y, a', s', ?_, q1, q2, by omega, by omega⟩
  unfold spec_l1Cur_fitting.f
  refine Ev.bind e1 ?_
  simp only [e2, Option.bind_some, Bool.false_eq_true, if_false, l1Own_eq b (by omega), e3]
  rw [hd']
  exact h
theorem drawMaj_ev (l : List Int) (hl : Bytes l) : ∃ x y, Ev (fun k => spec_DrawIsMajorized.f k l) (x, y) ∧ Bd 12 100 x ∧ Bd 12 100 y := by
 obtain ⟨x, y, a', s', e, h1, h2, _, _⟩ := fitting_ev l hl 9 (by omega) (by omega) 0 0 (by omega) (by omega)
 refine ⟨x, y, ?_, h1, h2⟩
 unfold spec_DrawIsMajorized.f
 exact Ev.bind e (Ev.now _)
end Go.Proofs.Ytnlimjejllakoaa.A

namespace Go.Proofs.Ytnlimjejllakoaa.A
open Go.RowKit Go.Proofs.YtnlimjejllakoaaW.PrintWords Go.Proofs.YtnlimjejllakoaaW.PrintLast Go.Proofs.YtnlimjejllakoaaW.PrintMore
set_option linter.unusedVariables false
set_option linter.unusedSimpArgs false
/-! the draws of lists that are mixed or stacked -/
theorem Bd.take {n m : Int} {l : List Int} (h : Bd n m l) (k : Nat) : Bd n m (l.take k) := ⟨by have := h.len; rw [List.length_take]; omega, fun x hx => h.low x (List.mem_of_mem_take hx), fun x hx => h.high x (List.mem_of_mem_take hx)⟩
theorem drawMix_l (l : List Int) (hl : Bytes l) (x : List Int) (hx : Bd 12 100 x) : ∀ (d : Nat) (y : List Int) (a s : Int), d ≤ 12 → (x.length - y.length) = d → 0 ≤ a → a ≤ 700000000 - 100 * (d : Int) → Bd 12 100 y → ∃ p q, Ev (fun k => spec_DrawMixOf.l0 k x y l a s) (p, q) ∧ Bd 12 100 p ∧ Bd 12 100 q := by
 intro d
 induction d with
 | zero =>
  intro y a s hd he h0 h1 hy
  refine ⟨x, y.take x.length, Ev.succ ?_, hx, hy.take _⟩
  simp only [spec_DrawMixOf.l0, if_neg (show ¬ (y.length : Int) < (x.length : Int) by omega), if_pos (show (0 : Int) ≤ (x.length : Int) by omega), if_pos (show (x.length : Int) ≤ (y.length : Int) by omega), Int.toNat_natCast]
  exact Ev.now _
 | succ d ih =>
  intro y a s hd he h0 h1 hy
  have hlx := hx.len
  have hly := hy.len
  obtain ⟨z, a1, s1, e, p0, p, p1, p2⟩ := pick_ev l hl a s 40 h0 (by omega)
  have hb : Bd 12 100 (y ++ [z]) := by
   refine ⟨by rw [List.length_append]; simp; omega, fun w hw => ?_, fun w hw => ?_⟩
   · rcases List.mem_append.1 hw with hw | hw
     · exact hy.low w hw
     · have : w = z := by simpa using hw
       omega
   · rcases List.mem_append.1 hw with hw | hw
     · exact hy.high w hw
     · have : w = z := by simpa using hw
       omega
  obtain ⟨u, v, h, q1, q2⟩ := ih (y ++ [z]) a1 s1 (by omega) (by rw [List.length_append]; simp; omega) (by omega) (by omega) hb
  refine ⟨u, v, Ev.succ ?_, q1, q2⟩
  simp only [spec_DrawMixOf.l0, if_pos (show (y.length : Int) < (x.length : Int) by omega), e, Option.bind_some, if_pos (show y.length < 17592186044416 by omega)]
  exact h
theorem drawMix_ev (l : List Int) (hl : Bytes l) : ∃ x y, Ev (fun k => spec_DrawMixOf.f k l) (x, y) ∧ Bd 12 100 x ∧ Bd 12 100 y := by
 obtain ⟨x, a1, s1, e1, hx, b1, b2⟩ := anyList_ev l hl 30 (by omega) (by omega) 0 0 (by omega) (by omega)
 obtain ⟨t, a2, s2, e2, c1, c2⟩ := one_ev l hl a1 s1 2 (by omega) (by omega)
 have hx' : Bd 12 100 x := hx.le (by omega) (by omega)
 cases t with
 | true =>
  obtain ⟨y, z, a3, s3, e3, hy, hz, d1, d2⟩ := fitting_ev l hl 9 (by omega) (by omega) a2 s2 (by omega) (by omega)
  have hlx := hx.len
  obtain ⟨p, q, h, q1, q2⟩ := drawMix_l l hl x hx' (x.length - y.length) y a3 s3 (by omega) rfl (by omega) (by omega) hy
  refine ⟨p, q, ?_, q1, q2⟩
  unfold spec_DrawMixOf.f
  refine Ev.bind e1 ?_
  simp only [e2, Option.bind_some, if_true]
  exact Ev.bind e3 h
 | false =>
  obtain ⟨y, a3, s3, e3, hy, d1, d2⟩ := anyList_ev l hl 30 (by omega) (by omega) a2 s2 (by omega) (by omega)
  refine ⟨x, y, ?_, hx', hy.le (by omega) (by omega)⟩
  unfold spec_DrawMixOf.f
  refine Ev.bind e1 ?_
  simp only [e2, Option.bind_some, Bool.false_eq_true, if_false]
  exact Ev.bind e3 (Ev.now _)
theorem drawStack_ev (l : List Int) (hl : Bytes l) : ∃ x y, Ev (fun k => spec_DrawStackLists.f k l) (x, y) ∧ Bd 12 100 x ∧ Bd 12 100 y := by
 obtain ⟨x, a1, s1, e1, hx, b1, b2⟩ := list_ev l hl 9 (by omega) (by omega) 0 0 (by omega) (by omega)
 obtain ⟨y, a2, s2, e2, hy, c1, c2⟩ := anyList_ev l hl 9 (by omega) (by omega) a1 s1 (by omega) (by omega)
 refine ⟨x, y, ?_, hx.le (by omega) (by omega), hy.le (by omega) (by omega)⟩
 unfold spec_DrawStackLists.f
 exact Ev.bind e1 (Ev.bind e2 (Ev.now _))
end Go.Proofs.Ytnlimjejllakoaa.A

-- made by a program of this repo (wip/pp.py) through the kit's printer
namespace Go.Proofs.Ytnlimjejllakoaa.A
open Go.RowKit Go.Proofs.YtnlimjejllakoaaW.PrintWords Go.Proofs.YtnlimjejllakoaaW.PrintLast Go.Proofs.YtnlimjejllakoaaW.PrintMore
attribute [local go_sem] max2_int min2_int max_two min_two max_three min_three max_four min_four
set_option linter.unusedVariables false
set_option linter.unusedSimpArgs false

/-! ### impl_CompareLists: function 49 -/
mutual
def impl_CompareLists.j0 : Nat → List Int → List Int → Bool → Option (ByteArray × Bool)
 | 0, _, _, _ => none
 | k + 1, x0, x1, x17 => if x17 = true then (some ((⟨#[]⟩ : ByteArray), false)) else ((impl_isMajorized.f k x0 x1).bind fun t841 => ((impl_isMajorized.f k x1 x0).bind fun t842 => (if t841 = true then (impl_CompareLists.j1 k t841 t842 t842) else (impl_CompareLists.j1 k t841 t842 false))))
def impl_CompareLists.j1 : Nat → Bool → Bool → Bool → Option (ByteArray × Bool)
 | 0, _, _, _ => none
 | k + 1, x6, x7, x24 => if x24 = true then (some ((⟨#[101, 113, 117, 97, 108]⟩ : ByteArray), true)) else (if x6 = true then (some ((⟨#[108, 101, 115, 115]⟩ : ByteArray), true)) else (if x7 = true then (some ((⟨#[103, 114, 101, 97, 116, 101, 114]⟩ : ByteArray), true)) else (some ((⟨#[97, 112, 97, 114, 116]⟩ : ByteArray), true))))
end
end Go.Proofs.Ytnlimjejllakoaa.A

-- made by a program of this repo (wip/pp.py) through the kit's printer
namespace Go.Proofs.Ytnlimjejllakoaa.A
open Go.RowKit Go.Proofs.YtnlimjejllakoaaW.PrintWords Go.Proofs.YtnlimjejllakoaaW.PrintLast Go.Proofs.YtnlimjejllakoaaW.PrintMore
attribute [local go_sem] max2_int min2_int max_two min_two max_three min_three max_four min_four
set_option linter.unusedVariables false
set_option linter.unusedSimpArgs false

/-! ### spec_liSums: function 150 -/
def spec_liSums.l0 : Nat → List Int → Int → List Int → Int → Int → Option (List Int)
 | 0, _, _, _, _, _ => none
 | k + 1, x3, x4, x7, x8, x9 => if x9 < x8 then (if 0 ≤ x9 then (if x9 < (x7.length : Int) then (if x3.length < 17592186044416 then (spec_liSums.l0 k (x3 ++ [wrap64 (x4 + (rd x7 x9))]) (wrap64 (x4 + (rd x7 x9))) x7 x8 (wrap64 (x9 + 1))) else (none)) else (none)) else (none)) else (some x3)
def spec_liSums.f (k : Nat) (l0 : List Int) : Option (List Int) := spec_liSums.l0 k ([] : List Int) 0 l0 (l0.length : Int) 0
end Go.Proofs.Ytnlimjejllakoaa.A

-- made by a program of this repo (wip/pp.py) through the kit's printer
namespace Go.Proofs.Ytnlimjejllakoaa.A
open Go.RowKit Go.Proofs.YtnlimjejllakoaaW.PrintWords Go.Proofs.YtnlimjejllakoaaW.PrintLast Go.Proofs.YtnlimjejllakoaaW.PrintMore
attribute [local go_sem] max2_int min2_int max_two min_two max_three min_three max_four min_four
set_option linter.unusedVariables false
set_option linter.unusedSimpArgs false

/-! ### spec_liPartial: function 123 -/
def spec_liPartial.f (k : Nat) (l0 : List Int) : Option (List Int) := (spec_liRank.f k l0).bind fun t815 => ((spec_liSums.f k t815).bind fun t818 => (some t818))
end Go.Proofs.Ytnlimjejllakoaa.A

-- made by a program of this repo (wip/pp.py) through the kit's printer
namespace Go.Proofs.Ytnlimjejllakoaa.A
open Go.RowKit Go.Proofs.YtnlimjejllakoaaW.PrintWords Go.Proofs.YtnlimjejllakoaaW.PrintLast Go.Proofs.YtnlimjejllakoaaW.PrintMore
attribute [local go_sem] max2_int min2_int max_two min_two max_three min_three max_four min_four
set_option linter.unusedVariables false
set_option linter.unusedSimpArgs false

end Go.Proofs.Ytnlimjejllakoaa.A

-- made by a program of this repo (wip/pp.py) through the kit's printer
namespace Go.Proofs.Ytnlimjejllakoaa.A
open Go.RowKit Go.Proofs.YtnlimjejllakoaaW.PrintWords Go.Proofs.YtnlimjejllakoaaW.PrintLast Go.Proofs.YtnlimjejllakoaaW.PrintMore
attribute [local go_sem] max2_int min2_int max_two min_two max_three min_three max_four min_four
set_option linter.unusedVariables false
set_option linter.unusedSimpArgs false

end Go.Proofs.Ytnlimjejllakoaa.A

-- made by a program of this repo (wip/pp.py) through the kit's printer
namespace Go.Proofs.Ytnlimjejllakoaa.A
open Go.RowKit Go.Proofs.YtnlimjejllakoaaW.PrintWords Go.Proofs.YtnlimjejllakoaaW.PrintLast Go.Proofs.YtnlimjejllakoaaW.PrintMore
attribute [local go_sem] max2_int min2_int max_two min_two max_three min_three max_four min_four
set_option linter.unusedVariables false
set_option linter.unusedSimpArgs false

end Go.Proofs.Ytnlimjejllakoaa.A

-- made by a program of this repo (wip/pp.py) through the kit's printer
namespace Go.Proofs.Ytnlimjejllakoaa.A
open Go.RowKit Go.Proofs.YtnlimjejllakoaaW.PrintWords Go.Proofs.YtnlimjejllakoaaW.PrintLast Go.Proofs.YtnlimjejllakoaaW.PrintMore
attribute [local go_sem] max2_int min2_int max_two min_two max_three min_three max_four min_four
set_option linter.unusedVariables false
set_option linter.unusedSimpArgs false

end Go.Proofs.Ytnlimjejllakoaa.A

namespace Go.Proofs.Ytnlimjejllakoaa.A
open Go.RowKit Go.Proofs.YtnlimjejllakoaaW.PrintWords Go.Proofs.YtnlimjejllakoaaW.PrintLast Go.Proofs.YtnlimjejllakoaaW.PrintMore
set_option linter.unusedVariables false
set_option linter.unusedSimpArgs false
def psums : Int → List Int → List Int
 | _, [] => []
 | s, x :: l => (s + x) :: psums (s + x) l
def psStep (s : List Int × Int) (x : Int) : List Int × Int := (s.1 ++ [s.2 + x], s.2 + x)
theorem foldl_ps : ∀ (l : List Int) (s : List Int × Int), (l.foldl psStep s).1 = s.1 ++ psums s.2 l
 | [], s => by simp [psums]
 | x :: l, s => by
  rw [List.foldl_cons, foldl_ps l]
  simp [psStep, psums]
theorem psums_length : ∀ (l : List Int) (s : Int), (psums s l).length = l.length
 | [], _ => rfl
 | x :: l, s => by simp [psums, psums_length l]
theorem partial_l (l : List Int) (h : Sm l) : Ev (fun k => impl_partial.l0 k [] 0 l (l.length : Int) 0) (psums 0 l) := by
 have hl := h.1
 have h := ev_fold (xs := l) (g := fun k s i => impl_partial.l0 k s.1 s.2 l (l.length : Int) i) psStep (fun s i => s.1.length = i ∧ 0 ≤ s.2 ∧ s.2 ≤ 1000 * (i : Int)) (fun s => s.1)
  (fun s _ => Ev.succ (by simp only [impl_partial.l0, if_neg (Int.lt_irrefl _)]; exact Ev.now _))
  (fun i hi s r hs _ hr => Ev.succ (by
   have hb := h.2 _ (List.getElem_mem hi)
   simp only [impl_partial.l0, if_pos (show (i : Int) < (l.length : Int) by omega), if_pos (show (0 : Int) ≤ (i : Int) by omega), rdn hi, if_pos (show s.1.length < 17592186044416 by omega), wsucc hi (by omega), w64 (x := s.2 + l[i]) (by omega) (by omega)]
   exact hr))
  (fun i hi s hs => by
   have hb := h.2 _ (List.getElem_mem hi)
   simp only [psStep, List.length_append, List.length_cons, List.length_nil]
   omega) l.length 0 ([], 0) (by omega) (by simp)
 rw [List.drop_zero, foldl_ps] at h
 exact h
def partL (l : List Int) : List Int := psums 0 (descL l)
theorem partial_ev (l : List Int) (h : Sm l) : Ev (fun k => impl_partial.f k l) (partL l) := by
 unfold impl_partial.f
 simp only [ranking_eq h, Option.bind_some]
 exact partial_l _ (sm_desc h)
theorem partL_length (l : List Int) : (partL l).length = l.length := by
 unfold partL
 rw [psums_length, descL_length]
end Go.Proofs.Ytnlimjejllakoaa.A

namespace Go.Proofs.Ytnlimjejllakoaa.A
open Go.RowKit Go.Proofs.YtnlimjejllakoaaW.PrintWords Go.Proofs.YtnlimjejllakoaaW.PrintLast Go.Proofs.YtnlimjejllakoaaW.PrintMore
set_option linter.unusedVariables false
set_option linter.unusedSimpArgs false
def overL : Int → List Int → List Int → Int
 | i, x :: xs, y :: ys => if x > y then i + 1 else overL (i + 1) xs ys
 | _, _, _ => 0
theorem refused_l (p q : List Int) (h : p.length ≤ q.length) (hp : p.length ≤ 1000000) : ∀ (n i : Nat), i + n = p.length → Ev (fun k => impl_refused.l0 k q p (p.length : Int) (i : Int)) (overL (i : Int) (p.drop i) (q.drop i))
 | 0, i, hi => by
  refine Ev.succ ?_
  simp only [impl_refused.l0, if_neg (show ¬ (i : Int) < (p.length : Int) by omega)]
  rw [List.drop_eq_nil_of_le (by omega), overL]
  exact Ev.now _
  simp
 | n + 1, i, hi => by
  have h1 : i < p.length := by omega
  have h2 : i < q.length := by omega
  refine Ev.succ ?_
  simp only [impl_refused.l0, if_pos (show (i : Int) < (p.length : Int) by omega), if_pos (show (i : Int) < (q.length : Int) by omega), if_pos (show (0 : Int) ≤ (i : Int) by omega), rdn h1, rdn h2, wsucc h1 (by omega)]
  rw [List.drop_eq_getElem_cons h1, List.drop_eq_getElem_cons h2, overL]
  refine Ev.ite (fun _ => ?_) (fun _ => ?_)
  · rw [show ((i : Int) + 1) = ((i + 1 : Nat) : Int) by omega]
    exact Ev.now _
  · rw [show ((i : Int) + 1) = ((i + 1 : Nat) : Int) by omega]
    exact refused_l p q h hp n (i + 1) (by omega)
def overR (a b : List Int) : Int := overL 0 (partL a) (partL b)
theorem refused_ev (a b : List Int) (ha : Sm a) (hb : Sm b) (h : a.length ≤ b.length) : Ev (fun k => impl_refused.f k a b) (overR a b) := by
 unfold impl_refused.f
 exact Ev.bind (partial_ev b hb) (Ev.bind (partial_ev a ha) (refused_l _ _ (by rw [partL_length, partL_length]; exact h) (by rw [partL_length]; have := ha.1; omega) (partL a).length 0 (by omega)))
theorem overL_zero : ∀ (p q : List Int) (i : Int), 0 ≤ i → (overL i p q = 0 ↔ ∀ (j : Nat) (h1 : j < p.length) (h2 : j < q.length), p[j] ≤ q[j])
 | [], q, i, _ => by simp [overL]
 | x :: p, [], i, _ => by simp [overL]
 | x :: p, y :: q, i, h => by
  unfold overL
  by_cases c : x > y
  · rw [if_pos c]
    refine ⟨fun h' => by omega, fun h' => ?_⟩
    have := h' 0 (by simp) (by simp)
    simp only [List.getElem_cons_zero] at this
    omega
  · rw [if_neg c, overL_zero p q (i + 1) (by omega)]
    constructor
    · intro h' j h1 h2
      cases j with
      | zero => simp only [List.getElem_cons_zero]; omega
      | succ j =>
       rw [List.getElem_cons_succ, List.getElem_cons_succ]
       exact h' j (by rw [List.length_cons] at h1; omega) (by rw [List.length_cons] at h2; omega)
    · intro h' j h1 h2
      have h3 := h' (j + 1) (by rw [List.length_cons]; omega) (by rw [List.length_cons]; omega)
      rw [List.getElem_cons_succ, List.getElem_cons_succ] at h3
      exact h3
def majB (a b : List Int) : Bool := if fitB a b = true then (overR a b == 0) else false
theorem isMajorized_ev (a b : List Int) (ha : Sm a) (hb : Sm b) : Ev (fun k => impl_isMajorized.f k a b) (majB a b) := by
 unfold impl_isMajorized.f majB
 exact Ev.bind (doFit_ev a b ha hb) (Ev.ite (fun h => Ev.bind (refused_ev a b ha hb (by have := (fitB_iff a b).1 h; omega)) (Ev.now _)) (fun _ => Ev.now _))
theorem majB_iff (a b : List Int) : majB a b = true ↔ a.length = b.length ∧ a.sum = b.sum ∧ ∀ (j : Nat) (h1 : j < (partL a).length) (h2 : j < (partL b).length), (partL a)[j] ≤ (partL b)[j] := by
 unfold majB overR
 by_cases h : fitB a b = true
 · rw [if_pos h, beq_iff_eq, overL_zero _ _ _ (Int.le_refl _)]
   have := (fitB_iff a b).1 h
   simp only [this, true_and]
 · rw [if_neg h]
   rw [fitB_iff] at h
   constructor
   · intro h'
     exact absurd h' (by decide)
   · intro h'
     exact absurd ⟨h'.1, h'.2.1⟩ h
end Go.Proofs.Ytnlimjejllakoaa.A

namespace Go.Proofs.Ytnlimjejllakoaa.A
open Go.RowKit Go.Proofs.YtnlimjejllakoaaW.PrintWords Go.Proofs.YtnlimjejllakoaaW.PrintLast Go.Proofs.YtnlimjejllakoaaW.PrintMore
set_option linter.unusedVariables false
set_option linter.unusedSimpArgs false
end Go.Proofs.Ytnlimjejllakoaa.A

namespace Go.Proofs.Ytnlimjejllakoaa.A
open Go.RowKit Go.Proofs.YtnlimjejllakoaaW.PrintWords Go.Proofs.YtnlimjejllakoaaW.PrintLast Go.Proofs.YtnlimjejllakoaaW.PrintMore
set_option linter.unusedVariables false
set_option linter.unusedSimpArgs false
end Go.Proofs.Ytnlimjejllakoaa.A

-- made by a program of this repo (wip/pp.py) through the kit's printer
namespace Go.Proofs.Ytnlimjejllakoaa.A
open Go.RowKit Go.Proofs.YtnlimjejllakoaaW.PrintWords Go.Proofs.YtnlimjejllakoaaW.PrintLast Go.Proofs.YtnlimjejllakoaaW.PrintMore
attribute [local go_sem] max2_int min2_int max_two min_two max_three min_three max_four min_four
set_option linter.unusedVariables false
set_option linter.unusedSimpArgs false

/-! ### impl_conjugate: function 93 -/
mutual
def impl_conjugate.l0 : Nat → Int → List Int → List Int → Int → Int → Option (List Int)
 | 0, _, _, _, _, _ => none
 | k + 1, x1, x5, x11, x12, x13 => if x13 < x12 then (if 0 ≤ x13 then (if x13 < (x11.length : Int) then (impl_conjugate.l1 k x1 x5 x11 x12 x13 (mn (rd x11 x13) x1) 0) else (none)) else (none)) else (some x5)
def impl_conjugate.l1 : Nat → Int → List Int → List Int → Int → Int → Int → Int → Option (List Int)
 | 0, _, _, _, _, _, _, _ => none
 | k + 1, x1, x5, x11, x12, x13, x19, x20 => if x20 < x19 then (if 0 ≤ x20 then (if x20 < (x5.length : Int) then (impl_conjugate.l1 k x1 (x5.set (x20 : Int).toNat (wrap64 ((rd x5 x20) + 1))) x11 x12 x13 x19 (wrap64 (x20 + 1))) else (none)) else (none)) else (impl_conjugate.l0 k x1 x5 x11 x12 (wrap64 (x13 + 1)))
end
end Go.Proofs.Ytnlimjejllakoaa.A

-- made by a program of this repo (wip/pp.py) through the kit's printer
namespace Go.Proofs.Ytnlimjejllakoaa.A
open Go.RowKit Go.Proofs.YtnlimjejllakoaaW.PrintWords Go.Proofs.YtnlimjejllakoaaW.PrintLast Go.Proofs.YtnlimjejllakoaaW.PrintMore
attribute [local go_sem] max2_int min2_int max_two min_two max_three min_three max_four min_four
set_option linter.unusedVariables false
set_option linter.unusedSimpArgs false

/-! ### spec_liConjugate: function 96 -/
mutual
def spec_liConjugate.l0 : Nat → Int → List Int → List Int → Int → Int → Option (List Int)
 | 0, _, _, _, _, _ => none
 | k + 1, x1, x5, x11, x12, x13 => if x13 < x12 then (if 0 ≤ x13 then (if x13 < (x11.length : Int) then (spec_liConjugate.l1 k x1 x5 (rd x11 x13) 0 x11 x12 x13) else (none)) else (none)) else (some x5)
def spec_liConjugate.l1 : Nat → Int → List Int → Int → Int → List Int → Int → Int → Option (List Int)
 | 0, _, _, _, _, _, _, _ => none
 | k + 1, x1, x5, x7, x8, x11, x12, x13 => if x8 < x7 then (if x8 < x1 then (if 0 ≤ x8 then (if x8 < (x5.length : Int) then (spec_liConjugate.l1 k x1 (x5.set (x8 : Int).toNat (wrap64 ((rd x5 x8) + 1))) x7 (wrap64 (x8 + 1)) x11 x12 x13) else (none)) else (none)) else (spec_liConjugate.l0 k x1 x5 x11 x12 (wrap64 (x13 + 1)))) else (spec_liConjugate.l0 k x1 x5 x11 x12 (wrap64 (x13 + 1)))
end
end Go.Proofs.Ytnlimjejllakoaa.A

namespace Go.Proofs.Ytnlimjejllakoaa.A
open Go.RowKit Go.Proofs.YtnlimjejllakoaaW.PrintWords Go.Proofs.YtnlimjejllakoaaW.PrintLast Go.Proofs.YtnlimjejllakoaaW.PrintMore
set_option linter.unusedVariables false
set_option linter.unusedSimpArgs false
end Go.Proofs.Ytnlimjejllakoaa.A

-- made by a program of this repo (wip/pp.py) through the kit's printer
namespace Go.Proofs.Ytnlimjejllakoaa.A
open Go.RowKit Go.Proofs.YtnlimjejllakoaaW.PrintWords Go.Proofs.YtnlimjejllakoaaW.PrintLast Go.Proofs.YtnlimjejllakoaaW.PrintMore
attribute [local go_sem] max2_int min2_int max_two min_two max_three min_three max_four min_four
set_option linter.unusedVariables false
set_option linter.unusedSimpArgs false

end Go.Proofs.Ytnlimjejllakoaa.A

-- made by a program of this repo (wip/pp.py) through the kit's printer
namespace Go.Proofs.Ytnlimjejllakoaa.A
open Go.RowKit Go.Proofs.YtnlimjejllakoaaW.PrintWords Go.Proofs.YtnlimjejllakoaaW.PrintLast Go.Proofs.YtnlimjejllakoaaW.PrintMore
attribute [local go_sem] max2_int min2_int max_two min_two max_three min_three max_four min_four
set_option linter.unusedVariables false
set_option linter.unusedSimpArgs false

/-! ### spec_liFrom: function 124 -/
def spec_liFrom.l0 : Nat → List Int → Int → List Int → Int → Int → Option (List Int)
 | 0, _, _, _, _, _ => none
 | k + 1, x3, x4, x7, x8, x9 => if x9 < x8 then (if 0 ≤ x9 then (if x9 < (x7.length : Int) then (if x3.length < 17592186044416 then (spec_liFrom.l0 k (x3 ++ [wrap64 ((rd x7 x9) - x4)]) (rd x7 x9) x7 x8 (wrap64 (x9 + 1))) else (none)) else (none)) else (none)) else (some x3)
def spec_liFrom.f (k : Nat) (l0 : List Int) : Option (List Int) := spec_liFrom.l0 k ([] : List Int) 0 l0 (l0.length : Int) 0
end Go.Proofs.Ytnlimjejllakoaa.A

-- made by a program of this repo (wip/pp.py) through the kit's printer
namespace Go.Proofs.Ytnlimjejllakoaa.A
open Go.RowKit Go.Proofs.YtnlimjejllakoaaW.PrintWords Go.Proofs.YtnlimjejllakoaaW.PrintLast Go.Proofs.YtnlimjejllakoaaW.PrintMore
attribute [local go_sem] max2_int min2_int max_two min_two max_three min_three max_four min_four
set_option linter.unusedVariables false
set_option linter.unusedSimpArgs false

end Go.Proofs.Ytnlimjejllakoaa.A

-- made by a program of this repo (wip/pp.py) through the kit's printer
namespace Go.Proofs.Ytnlimjejllakoaa.A
open Go.RowKit Go.Proofs.YtnlimjejllakoaaW.PrintWords Go.Proofs.YtnlimjejllakoaaW.PrintLast Go.Proofs.YtnlimjejllakoaaW.PrintMore
attribute [local go_sem] max2_int min2_int max_two min_two max_three min_three max_four min_four
set_option linter.unusedVariables false
set_option linter.unusedSimpArgs false

/-! ### spec_l1Least: function 120 -/
def spec_l1Least.f (a0 : Int) (a1 : Int) : Option (Int) := if a0 < a1 then (some a0) else (some a1)
end Go.Proofs.Ytnlimjejllakoaa.A

-- made by a program of this repo (wip/pp.py) through the kit's printer
namespace Go.Proofs.Ytnlimjejllakoaa.A
open Go.RowKit Go.Proofs.YtnlimjejllakoaaW.PrintWords Go.Proofs.YtnlimjejllakoaaW.PrintLast Go.Proofs.YtnlimjejllakoaaW.PrintMore
attribute [local go_sem] max2_int min2_int max_two min_two max_three min_three max_four min_four
set_option linter.unusedVariables false
set_option linter.unusedSimpArgs false

/-! ### spec_MeetOf: function 56 -/
mutual
def spec_MeetOf.j0 : Nat → List Int → List Int → Bool → Option (List Int × Bool)
 | 0, _, _, _ => none
 | k + 1, x0, x1, x23 => if x23 = true then (some (([] : List Int), false)) else ((spec_liPartial.f k x0).bind fun t1011 => ((spec_liPartial.f k x1).bind fun t1014 => (spec_MeetOf.l0 k t1011 t1014 ([] : List Int) (t1011.length : Int) 0)))
def spec_MeetOf.l0 : Nat → List Int → List Int → List Int → Int → Int → Option (List Int × Bool)
 | 0, _, _, _, _, _ => none
 | k + 1, x6, x7, x8, x29, x30 => if x30 < x29 then (if 0 ≤ x30 then (if x30 < (x6.length : Int) then (if x30 < (x7.length : Int) then ((spec_l1Least.f (rd x6 x30) (rd x7 x30)).bind fun t1019 => (if x8.length < 17592186044416 then (spec_MeetOf.l0 k x6 x7 (x8 ++ [t1019]) x29 (wrap64 (x30 + 1))) else (none))) else (none)) else (none)) else (none)) else ((spec_liFrom.f k x8).bind fun t1023 => (some (t1023, true)))
end
end Go.Proofs.Ytnlimjejllakoaa.A

namespace Go.Proofs.Ytnlimjejllakoaa.A
open Go.RowKit Go.Proofs.YtnlimjejllakoaaW.PrintWords Go.Proofs.YtnlimjejllakoaaW.PrintLast Go.Proofs.YtnlimjejllakoaaW.PrintMore
set_option linter.unusedVariables false
set_option linter.unusedSimpArgs false
end Go.Proofs.Ytnlimjejllakoaa.A

namespace Go.Proofs.Ytnlimjejllakoaa.A
open Go.RowKit Go.Proofs.YtnlimjejllakoaaW.PrintWords Go.Proofs.YtnlimjejllakoaaW.PrintLast Go.Proofs.YtnlimjejllakoaaW.PrintMore
set_option linter.unusedVariables false
set_option linter.unusedSimpArgs false
end Go.Proofs.Ytnlimjejllakoaa.A

namespace Go.Proofs.Ytnlimjejllakoaa.A
open Go.RowKit Go.Proofs.YtnlimjejllakoaaW.PrintWords Go.Proofs.YtnlimjejllakoaaW.PrintLast Go.Proofs.YtnlimjejllakoaaW.PrintMore
set_option linter.unusedVariables false
set_option linter.unusedSimpArgs false
end Go.Proofs.Ytnlimjejllakoaa.A

namespace Go.Proofs.Ytnlimjejllakoaa.A
open Go.RowKit Go.Proofs.YtnlimjejllakoaaW.PrintWords Go.Proofs.YtnlimjejllakoaaW.PrintLast Go.Proofs.YtnlimjejllakoaaW.PrintMore
set_option linter.unusedVariables false
set_option linter.unusedSimpArgs false
def pre (x : List Int) (m : Nat) : Int := (x.take m).sum
theorem pre_zero (x : List Int) : pre x 0 = 0 := rfl
theorem pre_succ {x : List Int} {m : Nat} (h : m < x.length) : pre x (m + 1) = pre x m + rd x (m : Int) := by
 unfold pre
 rw [List.take_succ_eq_append_getElem h, List.sum_append, rdn h, List.sum_cons, List.sum_nil, Int.add_zero]
theorem pre_all {x : List Int} {m : Nat} (h : x.length ≤ m) : pre x m = x.sum := by
 unfold pre
 rw [List.take_of_length_le h]
theorem psums_get : ∀ (l : List Int) (s : Int) (j : Nat) (h : j < (psums s l).length), (psums s l)[j] = s + pre l (j + 1)
 | [], s, j, h => by simp [psums] at h
 | x :: l, s, 0, h => by simp [psums, pre]
 | x :: l, s, j + 1, h => by
  have h' : j < (psums (s + x) l).length := by
   rw [psums, List.length_cons] at h
   omega
  have := psums_get l (s + x) j h'
  simp only [psums, List.getElem_cons_succ]
  rw [this]
  simp only [pre, List.take_succ_cons, List.sum_cons]
  omega
/-- Every partial sum of t is at most that of x; the sums are one. -/
def Dom (x t : List Int) : Prop := x.length = t.length ∧ x.sum = t.sum ∧ ∀ m, pre t m ≤ pre x m
theorem majB_dom (a b : List Int) : majB a b = true ↔ Dom (descL b) (descL a) := by
 rw [majB_iff]
 unfold Dom
 rw [descL_length, descL_length, descL_sum, descL_sum]
 constructor
 · rintro ⟨h1, h2, h3⟩
   refine ⟨h1.symm, h2.symm, fun m => ?_⟩
   cases m with
   | zero => rw [pre_zero, pre_zero]; exact Int.le_refl _
   | succ m =>
    by_cases hm : m < a.length
    · have h := h3 m (by rw [partL_length]; exact hm) (by rw [partL_length]; omega)
      unfold partL at h
      rw [psums_get, psums_get] at h
      omega
    · rw [pre_all (by rw [descL_length]; omega), pre_all (by rw [descL_length]; omega), descL_sum, descL_sum]
      omega
 · rintro ⟨h1, h2, h3⟩
   refine ⟨h1.symm, h2.symm, fun j q1 q2 => ?_⟩
   have e1 : (partL a)[j] = 0 + pre (descL a) (j + 1) := psums_get _ _ _ q1
   have e2 : (partL b)[j] = 0 + pre (descL b) (j + 1) := psums_get _ _ _ q2
   have := h3 (j + 1)
   omega
theorem desc_rd {x : List Int} (h : Desc x) {a b : Nat} (hab : a ≤ b) (hb : b < x.length) : rd x (b : Int) ≤ rd x (a : Int) := by
 rw [rdn hb, rdn (show a < x.length by omega)]
 rcases Nat.lt_or_ge a b with hlt | hge
 · unfold Desc at h
   exact List.pairwise_iff_getElem.1 h a b (by omega) hb hlt
 · have : a = b := by omega
   subst this
   exact Int.le_refl _
theorem desc_of_rd {x : List Int} (h : ∀ k : Nat, k + 1 < x.length → rd x ((k + 1 : Nat) : Int) ≤ rd x (k : Int)) : Desc x := by
 have key : ∀ (d a : Nat), a + d < x.length → rd x ((a + d : Nat) : Int) ≤ rd x (a : Int) := by
  intro d
  induction d with
  | zero => intro a _; exact Int.le_refl _
  | succ d ih =>
   intro a ha
   have h1 := ih a (by omega)
   have h2 := h (a + d) (by omega)
   have e : a + (d + 1) = a + d + 1 := by omega
   rw [e]
   omega
 unfold Desc
 rw [List.pairwise_iff_getElem]
 intro i j hi hj hij
 have := key (j - i) i (by omega)
 rw [show i + (j - i) = j from by omega, rdn hj, rdn hi] at this
 exact this
end Go.Proofs.Ytnlimjejllakoaa.A

namespace Go.Proofs.Ytnlimjejllakoaa.A
open Go.RowKit Go.Proofs.YtnlimjejllakoaaW.PrintWords Go.Proofs.YtnlimjejllakoaaW.PrintLast Go.Proofs.YtnlimjejllakoaaW.PrintMore
set_option linter.unusedVariables false
set_option linter.unusedSimpArgs false
/-! being majorized, told by the excess over each number -/
def ex (l : List Int) (t : Int) : Int := (l.map fun x => max (x - t) 0).sum
theorem ex_nil (t : Int) : ex [] t = 0 := rfl
theorem ex_cons (x : Int) (l : List Int) (t : Int) : ex (x :: l) t = max (x - t) 0 + ex l t := by simp [ex]
theorem ex_append (a b : List Int) (t : Int) : ex (a ++ b) t = ex a t + ex b t := by simp [ex]
theorem ex_perm {a b : List Int} (h : a.Perm b) (t : Int) : ex a t = ex b t := perm_sum (h.map _)
theorem ex_desc (a : List Int) (t : Int) : ex (descL a) t = ex a t := ex_perm (descL_perm a) t
theorem ex_nn : ∀ (l : List Int) (t : Int), 0 ≤ ex l t
 | [], t => by rw [ex_nil]; exact Int.le_refl _
 | x :: l, t => by
  have := ex_nn l t
  rw [ex_cons]
  omega
theorem pre_cons (x : Int) (l : List Int) (m : Nat) : pre (x :: l) (m + 1) = x + pre l m := by simp [pre]
theorem pre_ex (t : Int) : ∀ (l : List Int) (m : Nat), m ≤ l.length → pre l m ≤ m * t + ex l t
 | l, 0, _ => by
  have := ex_nn l t
  rw [pre_zero]
  simp
  exact this
 | [], m + 1, h => by simp at h
 | x :: l, m + 1, h => by
  have ih := pre_ex t l m (by simpa using h)
  rw [pre_cons, ex_cons, Int.natCast_add, Int.add_mul]
  simp only [Int.natCast_one, Int.one_mul]
  omega
theorem pre_ex_eq (t : Int) : ∀ (l : List Int) (k : Nat), k ≤ l.length → (∀ i (h : i < l.length), i < k → t ≤ l[i]) → (∀ i (h : i < l.length), k ≤ i → l[i] ≤ t) → pre l k = k * t + ex l t
 | [], k, h, _, _ => by
  have : k = 0 := by simpa using h
  subst this
  simp [pre_zero, ex_nil]
 | x :: l, 0, h, h1, h2 => by
  have ih := pre_ex_eq t l 0 (Nat.zero_le _) (fun i _ hi => absurd hi (Nat.not_lt_zero _)) (fun i hi _ => h2 (i + 1) (by simpa using hi) (Nat.zero_le _))
  have hx : x ≤ t := h2 0 (by simp) (Nat.le_refl _)
  rw [pre_zero] at ih ⊢
  rw [ex_cons]
  simp at ih ⊢
  omega
 | x :: l, k + 1, h, h1, h2 => by
  have ih := pre_ex_eq t l k (by simpa using h) (fun i hi hk => h1 (i + 1) (by simpa using hi) (by omega)) (fun i hi hk => h2 (i + 1) (by simpa using hi) (by omega))
  have hx : t ≤ x := h1 0 (by simp) (by omega)
  rw [pre_cons, ex_cons, Int.natCast_add, Int.add_mul]
  simp only [Int.natCast_one, Int.one_mul]
  omega
theorem cut_exists (t : Int) : ∀ (l : List Int), Desc l → ∃ k, k ≤ l.length ∧ (∀ i (h : i < l.length), i < k → t ≤ l[i]) ∧ (∀ i (h : i < l.length), k ≤ i → l[i] ≤ t)
 | [], _ => ⟨0, Nat.le_refl _, fun i h => absurd h (Nat.not_lt_zero _), fun i h => absurd h (Nat.not_lt_zero _)⟩
 | x :: l, hd => by
  unfold Desc at hd
  rw [List.pairwise_cons] at hd
  by_cases hx : t ≤ x
  · obtain ⟨k, h1, h2, h3⟩ := cut_exists t l hd.2
    refine ⟨k + 1, by simpa using h1, fun i h hi => ?_, fun i h hi => ?_⟩
    · cases i with
      | zero => exact hx
      | succ i => exact h2 i (by simpa using h) (by omega)
    · cases i with
      | zero => omega
      | succ i => exact h3 i (by simpa using h) (by omega)
  · refine ⟨0, Nat.zero_le _, fun i h hi => absurd hi (Nat.not_lt_zero _), fun i h _ => ?_⟩
    cases i with
    | zero =>
     show x ≤ t
     omega
    | succ i =>
     have hi : i < l.length := by simpa using h
     have := hd.1 l[i] (List.getElem_mem hi)
     show l[i] ≤ t
     omega
theorem ex_pre {l : List Int} (hd : Desc l) (t : Int) : ∃ k, k ≤ l.length ∧ pre l k = k * t + ex l t := by
 obtain ⟨k, h1, h2, h3⟩ := cut_exists t l hd
 exact ⟨k, h1, pre_ex_eq t l k h1 h2 h3⟩
theorem pre_at {l : List Int} (hd : Desc l) (m : Nat) (hm : m < l.length) : pre l (m + 1) = (m + 1 : Nat) * rd l (m : Int) + ex l (rd l (m : Int)) := by
 refine pre_ex_eq _ l (m + 1) hm (fun i h hi => ?_) (fun i h hi => ?_)
 · have := desc_rd hd (show i ≤ m by omega) hm
   rw [rdn h] at this
   exact this
 · have := desc_rd hd (show m ≤ i by omega) h
   rw [rdn h] at this
   exact this
theorem dom_ex {x y : List Int} (hx : Desc x) (hy : Desc y) : Dom y x ↔ x.length = y.length ∧ x.sum = y.sum ∧ ∀ t, ex x t ≤ ex y t := by
 unfold Dom
 constructor
 · rintro ⟨h1, h2, h3⟩
   refine ⟨h1.symm, h2.symm, fun t => ?_⟩
   obtain ⟨k, hk, e⟩ := ex_pre hx t
   have a := h3 k
   have b := pre_ex t y k (by omega)
   omega
 · rintro ⟨h1, h2, h3⟩
   refine ⟨h1.symm, h2.symm, fun m => ?_⟩
   cases m with
   | zero => rw [pre_zero, pre_zero]; exact Int.le_refl _
   | succ m =>
    by_cases hm : m < y.length
    · have a := pre_at hy m hm
      have b := pre_ex (rd y (m : Int)) x (m + 1) (by omega)
      have c := h3 (rd y (m : Int))
      omega
    · rw [pre_all (by omega), pre_all (by omega)]
      omega
theorem maj_ex (a b : List Int) : majB a b = true ↔ a.length = b.length ∧ a.sum = b.sum ∧ ∀ t, ex a t ≤ ex b t := by
 rw [majB_dom, dom_ex (descL_desc a) (descL_desc b), descL_length, descL_length, descL_sum, descL_sum]
 simp only [ex_desc]
end Go.Proofs.Ytnlimjejllakoaa.A

namespace Go.Proofs.Ytnlimjejllakoaa.A
open Go.RowKit Go.Proofs.YtnlimjejllakoaaW.PrintWords Go.Proofs.YtnlimjejllakoaaW.PrintLast Go.Proofs.YtnlimjejllakoaaW.PrintMore
set_option linter.unusedVariables false
set_option linter.unusedSimpArgs false
end Go.Proofs.Ytnlimjejllakoaa.A

namespace Go.Proofs.Ytnlimjejllakoaa.A
open Go.RowKit Go.Proofs.YtnlimjejllakoaaW.PrintWords Go.Proofs.YtnlimjejllakoaaW.PrintLast Go.Proofs.YtnlimjejllakoaaW.PrintMore
set_option linter.unusedVariables false
set_option linter.unusedSimpArgs false
theorem liIf_ev (l : List Int) (hx : l.length ≤ 1048576) : Ev (fun k => spec_liIf.f k l) (if goodL l = true then (l, true) else ([], false)) := by
 unfold spec_liIf.f
 exact Ev.bind (liGood_ev l (by omega)) (Ev.ite (fun _ => Ev.now _) (fun _ => Ev.now _))
end Go.Proofs.Ytnlimjejllakoaa.A

namespace Go.Proofs.Ytnlimjejllakoaa.A
open Go.RowKit Go.Proofs.YtnlimjejllakoaaW.PrintWords Go.Proofs.YtnlimjejllakoaaW.PrintLast Go.Proofs.YtnlimjejllakoaaW.PrintMore
set_option linter.unusedVariables false
set_option linter.unusedSimpArgs false
def zipL (f : Int → Int → Int) (a b : List Int) : List Int := List.zipWith f a b
theorem specMix_l (p q : List Int) (hl : p.length = q.length) (hp : Sm p) (hq : Sm q) : Ev (fun k => spec_MixOf.l0 k p q [] (p.length : Int) 0) (if goodL (zipL (· + ·) p q) = true then (zipL (· + ·) p q, true) else ([], false)) := by
 have hz : (zipL (· + ·) p q).length = p.length := by unfold zipL; rw [List.length_zipWith]; omega
 have h1 := hp.1
 have h := ev_build (g := fun k acc i => spec_MixOf.l0 k p q acc (p.length : Int) i) (zipL (· + ·) p q) (if goodL (zipL (· + ·) p q) = true then (zipL (· + ·) p q, true) else ([], false))
  (Ev.succ (by
   simp only [spec_MixOf.l0, hz, if_neg (Int.lt_irrefl _)]
   refine Ev.bind (liIf_ev _ (by rw [hz]; omega)) ?_
   split <;> exact Ev.now _))
  (fun i h r hr => Ev.succ (by
   have hi : i < p.length := by rw [hz] at h; exact h
   have hj : i < q.length := by omega
   have e : (zipL (· + ·) p q)[i] = p[i] + q[i] := by simp [zipL]
   have b1 := hp.2 _ (List.getElem_mem hi)
   have b2 := hq.2 _ (List.getElem_mem hj)
   simp only [spec_MixOf.l0, if_pos (show (i : Int) < (p.length : Int) by omega), if_pos (show (i : Int) < (q.length : Int) by omega), if_pos (show (0 : Int) ≤ (i : Int) by omega), rdn hi, rdn hj, wsucc hi (by omega), if_pos (show ((zipL (· + ·) p q).take i).length < 17592186044416 by rw [List.length_take, hz]; omega), w64 (x := p[i] + q[i]) (by omega) (by omega)]
   rw [e] at hr
   exact hr)) p.length 0 (by rw [hz]; omega)
 exact h
theorem implMix_l (p q : List Int) (hl : p.length = q.length) (hp : Sm p) (hq : Sm q) : ∀ (n i : Nat) (xs : List Int), i + n = q.length → xs = (zipL (· + ·) p q).take i ++ p.drop i → Ev (fun k => impl_MixOf.l0 k xs q (q.length : Int) (i : Int)) (if goodL (zipL (· + ·) p q) = true then (zipL (· + ·) p q, true) else ([], false))
 | 0, i, xs, h, hx => by
  have hz : (zipL (· + ·) p q).length = p.length := by unfold zipL; rw [List.length_zipWith]; omega
  have h1 := hp.1
  rw [List.take_of_length_le (by omega), List.drop_eq_nil_of_le (by omega), List.append_nil] at hx
  subst hx
  refine Ev.succ ?_
  simp only [impl_MixOf.l0, if_neg (show ¬ (i : Int) < (q.length : Int) by omega)]
  exact Ev.bind (implIsList_ev _ (by rw [hz]; omega)) (Ev.ite (fun _ => Ev.now _) (fun _ => Ev.now _))
 | n + 1, i, xs, h, hx => by
  have hz : (zipL (· + ·) p q).length = p.length := by unfold zipL; rw [List.length_zipWith]; omega
  have h1 := hp.1
  have hi : i < p.length := by omega
  have hj : i < q.length := by omega
  have b1 := hp.2 _ (List.getElem_mem hi)
  have b2 := hq.2 _ (List.getElem_mem hj)
  have hlt : ((zipL (· + ·) p q).take i).length = i := by rw [List.length_take]; omega
  have hxl : xs.length = p.length := by rw [hx, List.length_append, hlt, List.length_drop]; omega
  have er : rd xs (i : Int) = p[i] := by
   rw [rdn (by omega)]
   simp only [hx]
   rw [List.getElem_append_right (by omega)]
   simp only [hlt, Nat.sub_self, List.getElem_drop, Nat.add_zero]
  refine Ev.succ ?_
  simp only [impl_MixOf.l0, if_pos (show (i : Int) < (q.length : Int) by omega), if_pos (show (i : Int) < (xs.length : Int) by omega), if_pos (show (0 : Int) ≤ (i : Int) by omega), er, rdn hj, wsucc hj (by omega), w64 (x := p[i] + q[i]) (by omega) (by omega), Int.toNat_natCast]
  refine implMix_l p q hl hp hq n (i + 1) _ (by omega) ?_
  rw [hx, List.set_append_right _ _ (by omega), hlt, Nat.sub_self, List.drop_eq_getElem_cons hi, List.set_cons_zero, List.take_succ_eq_append_getElem (by omega), List.append_assoc]
  simp [zipL]
def mixR (a b : List Int) : List Int × Bool := if goodL a = true then (if goodL b = true then (if (a.length : Int) = (b.length : Int) then (if goodL (zipL (· + ·) (descL a) (descL b)) = true then (zipL (· + ·) (descL a) (descL b), true) else ([], false)) else ([], false)) else ([], false)) else ([], false)
theorem specMixOf_ev (a b : List Int) (ha : a.length ≤ 1048576) (hb : b.length ≤ 1048576) : Ev (fun k => spec_MixOf.f k a b) (mixR a b) := by
 unfold spec_MixOf.f mixR
 have J : Ev (fun k => spec_MixOf.j0 k a b true) (([] : List Int), false) := Ev.succ (by simp only [spec_MixOf.j0, if_true]; exact Ev.now _)
 refine Ev.bind (liGood_ev a (by omega)) (Ev.ite (fun ga => ?_) (fun _ => J))
 refine Ev.bind (liGood_ev b (by omega)) (Ev.ite (fun gb => ?_) (fun _ => J))
 by_cases hl : (a.length : Int) = (b.length : Int)
 · rw [if_pos hl, hl]
   simp only [bne_self_eq_false]
   refine Ev.succ ?_
   simp only [spec_MixOf.j0, Bool.false_eq_true, if_false]
   exact Ev.bind (liRank_ev a (by have := (good_sm ga).1; omega)) (Ev.bind (liRank_ev b (by have := (good_sm gb).1; omega)) (specMix_l _ _ (by rw [descL_length, descL_length]; omega) (sm_desc (good_sm ga)) (sm_desc (good_sm gb))))
 · rw [if_neg hl]
   have e : ((a.length : Int) != (b.length : Int)) = true := by rw [bne_iff_ne]; exact hl
   simp only [e]
   exact J
theorem implMixOf_ev (a b : List Int) (ha : a.length ≤ 1048576) (hb : b.length ≤ 1048576) : Ev (fun k => impl_MixOf.f k a b) (mixR a b) := by
 unfold impl_MixOf.f mixR
 refine Ev.bind (areLists_ev a b ha hb) ?_
 by_cases ga : goodL a = true
 · by_cases gb : goodL b = true
   · simp only [ga, gb, if_true]
     by_cases hl : (a.length : Int) = (b.length : Int)
     · rw [if_pos hl, hl]
       simp only [bne_self_eq_false]
       refine Ev.succ ?_
       simp only [impl_MixOf.j0, Bool.false_eq_true, if_false, ranking_eq (good_sm ga), ranking_eq (good_sm gb), Option.bind_some]
       exact implMix_l _ _ (by rw [descL_length, descL_length]; omega) (sm_desc (good_sm ga)) (sm_desc (good_sm gb)) (descL b).length 0 _ (by omega) (by simp)
     · rw [if_neg hl]
       have e : ((a.length : Int) != (b.length : Int)) = true := by rw [bne_iff_ne]; exact hl
       simp only [e]
       exact Ev.succ (by simp only [impl_MixOf.j0, if_true]; exact Ev.now _)
   · simp only [ga, if_true, if_neg gb, Bool.false_eq_true, if_false]
     exact Ev.succ (by simp only [impl_MixOf.j0, if_true]; exact Ev.now _)
 · simp only [if_neg ga, Bool.false_eq_true, if_false]
   exact Ev.succ (by simp only [impl_MixOf.j0, if_true]; exact Ev.now _)
theorem mixR_len (a b : List Int) (ha : a.length ≤ 1048576) (hb : b.length ≤ 1048576) : (mixR a b).1.length ≤ 1048576 := by
 have h : (zipL (· + ·) (descL a) (descL b)).length ≤ a.length := by
  unfold zipL
  rw [List.length_zipWith, descL_length]
  omega
 unfold mixR
 repeat' split
 all_goals (first | (simp only; omega) | simp)
end Go.Proofs.Ytnlimjejllakoaa.A

-- made by a program of this repo (wip/pp.py) through the kit's printer
namespace Go.Proofs.Ytnlimjejllakoaa.A
open Go.RowKit Go.Proofs.YtnlimjejllakoaaW.PrintWords Go.Proofs.YtnlimjejllakoaaW.PrintLast Go.Proofs.YtnlimjejllakoaaW.PrintMore
attribute [local go_sem] max2_int min2_int max_two min_two max_three min_three max_four min_four
set_option linter.unusedVariables false
set_option linter.unusedSimpArgs false

end Go.Proofs.Ytnlimjejllakoaa.A

-- made by a program of this repo (wip/pp.py) through the kit's printer
namespace Go.Proofs.Ytnlimjejllakoaa.A
open Go.RowKit Go.Proofs.YtnlimjejllakoaaW.PrintWords Go.Proofs.YtnlimjejllakoaaW.PrintLast Go.Proofs.YtnlimjejllakoaaW.PrintMore
attribute [local go_sem] max2_int min2_int max_two min_two max_three min_three max_four min_four
set_option linter.unusedVariables false
set_option linter.unusedSimpArgs false

end Go.Proofs.Ytnlimjejllakoaa.A

-- made by a program of this repo (wip/pp.py) through the kit's printer
namespace Go.Proofs.Ytnlimjejllakoaa.A
open Go.RowKit Go.Proofs.YtnlimjejllakoaaW.PrintWords Go.Proofs.YtnlimjejllakoaaW.PrintLast Go.Proofs.YtnlimjejllakoaaW.PrintMore
attribute [local go_sem] max2_int min2_int max_two min_two max_three min_three max_four min_four
set_option linter.unusedVariables false
set_option linter.unusedSimpArgs false

end Go.Proofs.Ytnlimjejllakoaa.A

-- made by a program of this repo (wip/pp.py) through the kit's printer
namespace Go.Proofs.Ytnlimjejllakoaa.A
open Go.RowKit Go.Proofs.YtnlimjejllakoaaW.PrintWords Go.Proofs.YtnlimjejllakoaaW.PrintLast Go.Proofs.YtnlimjejllakoaaW.PrintMore
attribute [local go_sem] max2_int min2_int max_two min_two max_three min_three max_four min_four
set_option linter.unusedVariables false
set_option linter.unusedSimpArgs false

end Go.Proofs.Ytnlimjejllakoaa.A

-- made by a program of this repo (wip/pp.py) through the kit's printer
namespace Go.Proofs.Ytnlimjejllakoaa.A
open Go.RowKit Go.Proofs.YtnlimjejllakoaaW.PrintWords Go.Proofs.YtnlimjejllakoaaW.PrintLast Go.Proofs.YtnlimjejllakoaaW.PrintMore
attribute [local go_sem] max2_int min2_int max_two min_two max_three min_three max_four min_four
set_option linter.unusedVariables false
set_option linter.unusedSimpArgs false

end Go.Proofs.Ytnlimjejllakoaa.A

namespace Go.Proofs.Ytnlimjejllakoaa.A
open Go.RowKit Go.Proofs.YtnlimjejllakoaaW.PrintWords Go.Proofs.YtnlimjejllakoaaW.PrintLast Go.Proofs.YtnlimjejllakoaaW.PrintMore
set_option linter.unusedVariables false
set_option linter.unusedSimpArgs false
end Go.Proofs.Ytnlimjejllakoaa.A

-- made by a program of this repo (wip/pp.py) through the kit's printer
namespace Go.Proofs.Ytnlimjejllakoaa.A
open Go.RowKit Go.Proofs.YtnlimjejllakoaaW.PrintWords Go.Proofs.YtnlimjejllakoaaW.PrintLast Go.Proofs.YtnlimjejllakoaaW.PrintMore
attribute [local go_sem] max2_int min2_int max_two min_two max_three min_three max_four min_four
set_option linter.unusedVariables false
set_option linter.unusedSimpArgs false

end Go.Proofs.Ytnlimjejllakoaa.A

namespace Go.Proofs.Ytnlimjejllakoaa.A
open Go.RowKit Go.Proofs.YtnlimjejllakoaaW.PrintWords Go.Proofs.YtnlimjejllakoaaW.PrintLast Go.Proofs.YtnlimjejllakoaaW.PrintMore
set_option linter.unusedVariables false
set_option linter.unusedSimpArgs false
end Go.Proofs.Ytnlimjejllakoaa.A

namespace Go.Proofs.Ytnlimjejllakoaa.A
open Go.RowKit Go.Proofs.YtnlimjejllakoaaW.PrintWords Go.Proofs.YtnlimjejllakoaaW.PrintLast Go.Proofs.YtnlimjejllakoaaW.PrintMore
set_option linter.unusedVariables false
set_option linter.unusedSimpArgs false
end Go.Proofs.Ytnlimjejllakoaa.A

namespace Go.Proofs.Ytnlimjejllakoaa.A
open Go.RowKit Go.Proofs.YtnlimjejllakoaaW.PrintWords Go.Proofs.YtnlimjejllakoaaW.PrintLast Go.Proofs.YtnlimjejllakoaaW.PrintMore
set_option linter.unusedVariables false
set_option linter.unusedSimpArgs false
theorem ex_zip (s t : Int) : ∀ (a b : List Int), a.length = b.length → ex (zipL (· + ·) a b) (s + t) ≤ ex a s + ex b t
 | [], [], _ => by simp [zipL, ex_nil]
 | x :: a, y :: b, h => by
  have ih := ex_zip s t a b (by simpa using h)
  unfold zipL at ih ⊢
  rw [List.zipWith_cons_cons, ex_cons, ex_cons, ex_cons]
  omega
 | [], y :: b, h => by simp at h
 | x :: a, [], h => by simp at h
theorem zip_length {a b : List Int} (h : a.length = b.length) : (zipL (· + ·) a b).length = a.length := by
 unfold zipL
 rw [List.length_zipWith]
 omega
theorem zip_sum : ∀ (a b : List Int), a.length = b.length → (zipL (· + ·) a b).sum = a.sum + b.sum
 | [], [], _ => by simp [zipL]
 | x :: a, y :: b, h => by
  have ih := zip_sum a b (by simpa using h)
  unfold zipL at ih ⊢
  rw [List.zipWith_cons_cons, List.sum_cons, List.sum_cons, List.sum_cons]
  omega
 | [], y :: b, h => by simp at h
 | x :: a, [], h => by simp at h
theorem zip_rd {a b : List Int} (h : a.length = b.length) {k : Nat} (hk : k < a.length) : rd (zipL (· + ·) a b) (k : Int) = rd a (k : Int) + rd b (k : Int) := by
 rw [rdn (by rw [zip_length h]; exact hk), rdn hk, rdn (show k < b.length by omega)]
 simp only [zipL, List.getElem_zipWith]
theorem zip_pre {a b : List Int} (h : a.length = b.length) : ∀ m : Nat, m ≤ a.length → pre (zipL (· + ·) a b) m = pre a m + pre b m
 | 0, _ => by simp [pre_zero]
 | m + 1, hm => by
  rw [pre_succ (by rw [zip_length h]; omega), pre_succ (by omega), pre_succ (by omega), zip_pre h m (by omega), zip_rd h (by omega)]
  omega
theorem zip_desc {a b : List Int} (h : a.length = b.length) (ha : Desc a) (hb : Desc b) : Desc (zipL (· + ·) a b) := by
 refine desc_of_rd fun k hk => ?_
 rw [zip_length h] at hk
 have h1 := desc_rd ha (show k ≤ k + 1 by omega) hk
 have h2 := desc_rd hb (show k ≤ k + 1 by omega) (by omega)
 rw [zip_rd h hk, zip_rd h (by omega)]
 omega
/-- Numbers added in any order are more even than those added by rank. -/
theorem mix_maj {a b : List Int} (h : a.length = b.length) : majB (zipL (· + ·) a b) (zipL (· + ·) (descL a) (descL b)) = true := by
 have hd : (descL a).length = (descL b).length := by rw [descL_length, descL_length, h]
 rw [majB_dom, descL_of_desc (zip_desc hd (descL_desc a) (descL_desc b))]
 refine ⟨by rw [zip_length hd, descL_length, descL_length, zip_length h], by rw [zip_sum _ _ hd, descL_sum, descL_sum, descL_sum, zip_sum _ _ h], fun m => ?_⟩
 cases m with
 | zero => rw [pre_zero, pre_zero]; exact Int.le_refl _
 | succ m =>
  by_cases hm : m < a.length
  · have e1 := pre_at (descL_desc a) m (by rw [descL_length]; exact hm)
    have e2 := pre_at (descL_desc b) m (by rw [descL_length]; omega)
    have e3 := pre_ex (rd (descL a) (m : Int) + rd (descL b) (m : Int)) (descL (zipL (· + ·) a b)) (m + 1) (by rw [descL_length, zip_length h]; omega)
    have e4 := ex_zip (rd (descL a) (m : Int)) (rd (descL b) (m : Int)) a b h
    rw [ex_desc] at e1 e2 e3
    rw [Int.mul_add] at e3
    rw [zip_pre hd _ (by rw [descL_length]; omega), e1, e2]
    omega
  · rw [pre_all (by rw [descL_length, zip_length h]; omega), pre_all (by rw [zip_length hd, descL_length]; omega), descL_sum, zip_sum _ _ h, zip_sum _ _ hd, descL_sum, descL_sum]
    exact Int.le_refl _
/-- Lists that are stacked keep the order of their parts. -/
theorem stack_maj (c d e : List Int) : majB (c ++ e) (d ++ e) = majB c d := by
 rw [Bool.eq_iff_iff, maj_ex, maj_ex, List.length_append, List.length_append, List.sum_append, List.sum_append]
 simp only [ex_append]
 constructor
 · rintro ⟨h1, h2, h3⟩
   exact ⟨by omega, by omega, fun t => by have := h3 t; omega⟩
 · rintro ⟨h1, h2, h3⟩
   exact ⟨by omega, by omega, fun t => by have := h3 t; omega⟩
end Go.Proofs.Ytnlimjejllakoaa.A

-- made by a program of this repo (wip/pp.py) through the kit's printer
namespace Go.Proofs.Ytnlimjejllakoaa.A
open Go.RowKit Go.Proofs.YtnlimjejllakoaaW.PrintWords Go.Proofs.YtnlimjejllakoaaW.PrintLast Go.Proofs.YtnlimjejllakoaaW.PrintMore
attribute [local go_sem] max2_int min2_int max_two min_two max_three min_three max_four min_four
set_option linter.unusedVariables false
set_option linter.unusedSimpArgs false

end Go.Proofs.Ytnlimjejllakoaa.A

-- made by a program of this repo (wip/pp.py) through the kit's printer
namespace Go.Proofs.Ytnlimjejllakoaa.A
open Go.RowKit Go.Proofs.YtnlimjejllakoaaW.PrintWords Go.Proofs.YtnlimjejllakoaaW.PrintLast Go.Proofs.YtnlimjejllakoaaW.PrintMore
attribute [local go_sem] max2_int min2_int max_two min_two max_three min_three max_four min_four
set_option linter.unusedVariables false
set_option linter.unusedSimpArgs false

end Go.Proofs.Ytnlimjejllakoaa.A

-- made by a program of this repo (wip/pp.py) through the kit's printer
namespace Go.Proofs.Ytnlimjejllakoaa.A
open Go.RowKit Go.Proofs.YtnlimjejllakoaaW.PrintWords Go.Proofs.YtnlimjejllakoaaW.PrintLast Go.Proofs.YtnlimjejllakoaaW.PrintMore
attribute [local go_sem] max2_int min2_int max_two min_two max_three min_three max_four min_four
set_option linter.unusedVariables false
set_option linter.unusedSimpArgs false

end Go.Proofs.Ytnlimjejllakoaa.A

-- made by a program of this repo (wip/pp.py) through the kit's printer
namespace Go.Proofs.Ytnlimjejllakoaa.A
open Go.RowKit Go.Proofs.YtnlimjejllakoaaW.PrintWords Go.Proofs.YtnlimjejllakoaaW.PrintLast Go.Proofs.YtnlimjejllakoaaW.PrintMore
attribute [local go_sem] max2_int min2_int max_two min_two max_three min_three max_four min_four
set_option linter.unusedVariables false
set_option linter.unusedSimpArgs false

end Go.Proofs.Ytnlimjejllakoaa.A

-- made by a program of this repo (wip/pp.py) through the kit's printer
namespace Go.Proofs.Ytnlimjejllakoaa.A
open Go.RowKit Go.Proofs.YtnlimjejllakoaaW.PrintWords Go.Proofs.YtnlimjejllakoaaW.PrintLast Go.Proofs.YtnlimjejllakoaaW.PrintMore
attribute [local go_sem] max2_int min2_int max_two min_two max_three min_three max_four min_four
set_option linter.unusedVariables false
set_option linter.unusedSimpArgs false

end Go.Proofs.Ytnlimjejllakoaa.A

namespace Go.Proofs.Ytnlimjejllakoaa.A
open Go.RowKit Go.Proofs.YtnlimjejllakoaaW.PrintWords Go.Proofs.YtnlimjejllakoaaW.PrintLast Go.Proofs.YtnlimjejllakoaaW.PrintMore
set_option linter.unusedVariables false
set_option linter.unusedSimpArgs false
def majR (a b : List Int) : Bool × Bool := if goodL a = true then (if goodL b = true then (majB a b, true) else (false, false)) else (false, false)
theorem implIsMajorized_ev (a b : List Int) (ha : a.length ≤ 1048576) (hb : b.length ≤ 1048576) : Ev (fun k => impl_IsMajorized.f k a b) (majR a b) := by
 unfold impl_IsMajorized.f majR
 refine Ev.bind (areLists_ev a b ha hb) ?_
 by_cases ga : goodL a = true
 · by_cases gb : goodL b = true
   · simp only [ga, gb, if_true]
     exact Ev.bind (isMajorized_ev a b (good_sm ga) (good_sm gb)) (Ev.now _)
   · simp only [ga, if_true, if_neg gb]
     exact Ev.now _
 · simp only [if_neg ga, Bool.false_eq_true, if_false]
   exact Ev.now _
end Go.Proofs.Ytnlimjejllakoaa.A

-- made by a program of this repo (wip/pp.py) through the kit's printer
namespace Go.Proofs.Ytnlimjejllakoaa.A
open Go.RowKit Go.Proofs.YtnlimjejllakoaaW.PrintWords Go.Proofs.YtnlimjejllakoaaW.PrintLast Go.Proofs.YtnlimjejllakoaaW.PrintMore
attribute [local go_sem] max2_int min2_int max_two min_two max_three min_three max_four min_four
set_option linter.unusedVariables false
set_option linter.unusedSimpArgs false

end Go.Proofs.Ytnlimjejllakoaa.A

-- made by a program of this repo (wip/pp.py) through the kit's printer
namespace Go.Proofs.Ytnlimjejllakoaa.A
open Go.RowKit Go.Proofs.YtnlimjejllakoaaW.PrintWords Go.Proofs.YtnlimjejllakoaaW.PrintLast Go.Proofs.YtnlimjejllakoaaW.PrintMore
attribute [local go_sem] max2_int min2_int max_two min_two max_three min_three max_four min_four
set_option linter.unusedVariables false
set_option linter.unusedSimpArgs false

end Go.Proofs.Ytnlimjejllakoaa.A

-- made by a program of this repo (wip/pp.py) through the kit's printer
namespace Go.Proofs.Ytnlimjejllakoaa.A
open Go.RowKit Go.Proofs.YtnlimjejllakoaaW.PrintWords Go.Proofs.YtnlimjejllakoaaW.PrintLast Go.Proofs.YtnlimjejllakoaaW.PrintMore
attribute [local go_sem] max2_int min2_int max_two min_two max_three min_three max_four min_four
set_option linter.unusedVariables false
set_option linter.unusedSimpArgs false

end Go.Proofs.Ytnlimjejllakoaa.A

namespace Go.Proofs.Ytnlimjejllakoaa.A
open Go.RowKit Go.Proofs.YtnlimjejllakoaaW.PrintWords Go.Proofs.YtnlimjejllakoaaW.PrintLast Go.Proofs.YtnlimjejllakoaaW.PrintMore
set_option linter.unusedVariables false
set_option linter.unusedSimpArgs false
def betB (a b : List Int) : Bool := if goodL a = true then (if goodL b = true then majB a b else false) else false
end Go.Proofs.Ytnlimjejllakoaa.A

namespace Go.Proofs.Ytnlimjejllakoaa.A
open Go.RowKit Go.Proofs.YtnlimjejllakoaaW.PrintWords Go.Proofs.YtnlimjejllakoaaW.PrintLast Go.Proofs.YtnlimjejllakoaaW.PrintMore
set_option linter.unusedVariables false
set_option linter.unusedSimpArgs false
/-! the words that the laws share -/
theorem Ev.ite' {α : Type} {c : Prop} [Decidable c] {g f : Nat → Option α} {r : α} (h : c → Ev g r) (h' : ¬ c → Ev f r) : Ev (fun k => if c then g k else f k) r := by
 by_cases hc : c
 · simp only [hc, if_true]
   exact h hc
 · simp only [hc, if_false]
   exact h' hc
theorem big_eq (a b : List Int) (ha : a.length ≤ 140737488355328) : laws_big.f a b = some (decide ((a.length : Int) > 1048576 ∨ (b.length : Int) > 1048576 - (a.length : Int))) := by
 unfold laws_big.f
 rw [w64 (x := 1048576 - (a.length : Int)) (by omega) (by omega)]
 by_cases h : (a.length : Int) > 1048576
 · simp [h]
 · simp only [if_neg h]
   congr 1
   by_cases h2 : (b.length : Int) > 1048576 - (a.length : Int)
   · rw [decide_eq_true h2, decide_eq_true (.inr h2)]
   · rw [decide_eq_false h2, decide_eq_false (by omega)]
theorem bytes_of {l : List Int} (h : l.length ≤ 1048576) (hx : ∀ x ∈ l, (Lit.int .u8 x).wf = true) : Bytes l := by
 refine ⟨h, fun x hm => ?_⟩
 have := hx x hm
 simp only [Lit.wf, Bool.and_eq_true, decide_eq_true_eq] at this
 exact ⟨this.1, this.2⟩
theorem pSame_l (xs ys : List Int) (hx : xs.length ≤ 9223372036854775807) (hl : xs.length = ys.length) : ∀ (n i : Nat), i + n = xs.length → Ev (fun k => laws_pSame.l0 k xs ys (xs.length : Int) (i : Int)) (decide (xs.drop i = ys.drop i))
 | 0, i, h => by
  refine Ev.succ ?_
  simp only [laws_pSame.l0, if_neg (show ¬ (i : Int) < (xs.length : Int) by omega)]
  rw [List.drop_eq_nil_of_le (by omega), List.drop_eq_nil_of_le (by omega), decide_eq_true rfl]
  exact Ev.now _
 | n + 1, i, h => by
  have hi : i < xs.length := by omega
  have hj : i < ys.length := by omega
  refine Ev.succ ?_
  simp only [laws_pSame.l0, if_pos (show (i : Int) < (xs.length : Int) by omega), if_pos (show (0 : Int) ≤ (i : Int) by omega), if_pos (show (i : Int) < (ys.length : Int) by omega), rdn hi, rdn hj, wsucc hi hx]
  rw [List.drop_eq_getElem_cons hi, List.drop_eq_getElem_cons hj]
  by_cases c : xs[i] = ys[i]
  · simp only [if_pos c, c, List.cons.injEq, true_and]
    exact pSame_l xs ys hx hl n (i + 1) (by omega)
  · simp only [if_neg c, List.cons.injEq, c, false_and, decide_false]
    exact Ev.now _
theorem pSame_ev (xs ys : List Int) (hx : xs.length ≤ 9223372036854775807) : Ev (fun k => laws_pSame.f k xs ys) (decide (xs = ys)) := by
 unfold laws_pSame.f
 by_cases h : (xs.length : Int) = (ys.length : Int)
 · simp only [if_pos h]
   exact pSame_l xs ys hx (by omega) xs.length 0 (by omega)
 · simp only [if_neg h]
   rw [decide_eq_false (fun e => h (by rw [e]))]
   exact Ev.now _
theorem pSame_self (xs : List Int) (hx : xs.length ≤ 9223372036854775807) : Ev (fun k => laws_pSame.f k xs xs) true := by
 have h := pSame_ev xs xs hx
 rw [decide_eq_true rfl] at h
 exact h
theorem pSum_ev (l : List Int) (n m : Int) (h : Bd n m l) (hn : n ≤ 1000) (hm : m ≤ 100000) (hm0 : 0 ≤ m) : Ev (fun k => laws_pSum.f k l) l.sum := by
 unfold laws_pSum.f
 have hl := h.len
 have h := ev_fold (xs := l) (g := fun k s i => laws_pSum.l0 k s l (l.length : Int) i) (fun s x => s + x) (fun s i => -(i : Int) ≤ s ∧ s ≤ 100000 * (i : Int)) id
  (fun s _ => Ev.succ (by simp only [laws_pSum.l0, if_neg (Int.lt_irrefl _)]; exact Ev.now _))
  (fun i hi s r hs _ hr => Ev.succ (by
   have h1 := h.low _ (List.getElem_mem hi)
   have h2 := h.high _ (List.getElem_mem hi)
   simp only [laws_pSum.l0, if_pos (show (i : Int) < (l.length : Int) by omega), if_pos (show (0 : Int) ≤ (i : Int) by omega), rdn hi, wsucc hi (by omega), w64 (x := s + l[i]) (by omega) (by omega)]
   exact hr))
  (fun i hi s hs => by
   have h1 := h.low _ (List.getElem_mem hi)
   have h2 := h.high _ (List.getElem_mem hi)
   omega) l.length 0 0 (by omega) (by omega)
 rw [List.drop_zero, foldl_add, Int.zero_add] at h
 exact h
theorem pBelow_ev (a b : List Int) (ha : a.length ≤ 1048576) (hb : b.length ≤ 1048576) : Ev (fun k => laws_pBelow.f k a b) (betB a b) := by
 unfold laws_pBelow.f betB
 refine Ev.bind (implIsMajorized_ev a b ha hb) ?_
 unfold majR
 by_cases ga : goodL a = true
 · by_cases gb : goodL b = true
   · simp only [ga, gb, if_true]
     exact Ev.now _
   · simp only [ga, if_true, if_neg gb, Bool.false_eq_true, if_false]
     exact Ev.now _
 · simp only [if_neg ga, Bool.false_eq_true, if_false]
   exact Ev.now _
theorem pBelow_good {a b : List Int} (ga : goodL a = true) (gb : goodL b = true) : Ev (fun k => laws_pBelow.f k a b) (majB a b) := by
 have g1 := (goodL_iff a).1 ga
 have g2 := (goodL_iff b).1 gb
 have h := pBelow_ev a b (by omega) (by omega)
 unfold betB at h
 rw [if_pos ga, if_pos gb] at h
 exact h
theorem pFit_ev (a b : List Int) (n m : Int) (ha : Bd n m a) (hb : Bd n m b) (hn : n ≤ 1000) (hm : m ≤ 100000) (hm0 : 0 ≤ m) : Ev (fun k => laws_pFit.f k a b) (fitB a b) := by
 unfold laws_pFit.f fitB
 refine Ev.ite (fun h => ?_) (fun h => Ev.now _)
 exact Ev.bind (pSum_ev a n m ha hn hm hm0) (Ev.bind (pSum_ev b n m hb hn hm hm0) (Ev.now _))
theorem big_cut (l0 l1 : List Int) (g0 : l0.length * 1 ≤ 140737488351232) (x0 : ∀ x ∈ l0, (Lit.int .u8 x).wf = true) (x1 : ∀ x ∈ l1, (Lit.int .u8 x).wf = true) : laws_big.f l0 l1 = some true ∨ laws_big.f l0 l1 = some false ∧ Bytes l0 ∧ Bytes l1 := by
 rw [big_eq l0 l1 (by omega)]
 by_cases hb : (l0.length : Int) > 1048576 ∨ (l1.length : Int) > 1048576 - (l0.length : Int)
 · rw [decide_eq_true hb]
   exact .inl rfl
 · rw [decide_eq_false hb]
   exact .inr ⟨rfl, bytes_of (by omega) x0, bytes_of (by omega) x1⟩
end Go.Proofs.Ytnlimjejllakoaa.A

namespace Go.Proofs.Ytnlimjejllakoaa.A
open Go.RowKit Go.Proofs.YtnlimjejllakoaaW.PrintWords Go.Proofs.YtnlimjejllakoaaW.PrintLast Go.Proofs.YtnlimjejllakoaaW.PrintMore
set_option linter.unusedVariables false
set_option linter.unusedSimpArgs false
theorem specStackLists_ev (a b : List Int) (ha : a.length ≤ 1048576) (hb : b.length ≤ 1048576) : Ev (fun k => spec_StackLists.f k a b) (stackR a b) := by
 unfold spec_StackLists.f stackR
 refine Ev.bind (liGood_ev a (by omega)) ?_
 by_cases ga : goodL a = true
 · simp only [ga, if_true]
   refine Ev.bind (liGood_ev b (by omega)) (Ev.succ ?_)
   by_cases gb : goodL b = true
   · have g1 := (goodL_iff a).1 ga
     have g2 := (goodL_iff b).1 gb
     simp only [spec_StackLists.j0, gb, Bool.not_true, Bool.false_eq_true, if_false, if_true, l1Own_eq a ha, Option.bind_some, if_pos (show a.length + b.length < 17592186044416 by omega)]
     refine Ev.bind (liIf_ev (a ++ b) (by rw [List.length_append]; omega)) ?_
     exact Ev.now _
   · simp only [spec_StackLists.j0, Bool.eq_false_iff.2 gb, Bool.not_false, if_true, Bool.false_eq_true, if_false]
     exact Ev.now _
 · simp only [if_neg ga, Bool.false_eq_true, if_false]
   refine Ev.succ ?_
   simp only [spec_StackLists.j0, if_true]
   exact Ev.now _
theorem stack_eq (a b : List Int) (ha : a.length ≤ 1048576) (hb : b.length ≤ 1048576) : impl_StackLists.f a b = some (stackR a b) := by
 unfold impl_StackLists.f
 rw [if_pos ⟨ha, hb⟩]
theorem stackR_len (a b : List Int) : (stackR a b).1.length ≤ 8 := by
 unfold stackR
 by_cases c : (if goodL a = true then goodL b else false) = true
 · rw [if_pos c]
   by_cases d : goodL (a ++ b) = true
   · rw [if_pos d]
     exact ((goodL_iff _).1 d).2.1
   · rw [if_neg d]
     simp
 · rw [if_neg c]
   simp
theorem stackR_true {a b : List Int} (h : (stackR a b).2 = true) : (stackR a b).1 = a ++ b ∧ goodL a = true ∧ goodL b = true ∧ goodL (a ++ b) = true := by
 unfold stackR at h ⊢
 by_cases c : (if goodL a = true then goodL b else false) = true
 · rw [if_pos c] at h ⊢
   by_cases d : goodL (a ++ b) = true
   · rw [if_pos d] at h ⊢
     by_cases ga : goodL a = true
     · rw [if_pos ga] at c
       exact ⟨rfl, ga, c, d⟩
     · rw [if_neg ga] at c
       cases c
   · rw [if_neg d] at h
     cases h
 · rw [if_neg c] at h
   cases h
end Go.Proofs.Ytnlimjejllakoaa.A

/- The law FnMixesAndStacks holds of the printed functions, for every argument: numbers and lists alone. -/
namespace Go.Proofs.Ytnlimjejllakoaa.Pure
open Go.RowKit Go.Proofs.Ytnlimjejllakoaa.A Go.Proofs.YtnlimjejllakoaaW.PrintWords Go.Proofs.YtnlimjejllakoaaW.PrintLast
set_option linter.unusedVariables false
set_option linter.unusedSimpArgs false
theorem mix_j4 (x y u v : List Int) (gx : goodL x = true) (gy : goodL y = true) (gu : goodL u = true) (gv : goodL v = true) (h : majB x y = majB u v) : Ev (fun k => laws_FnMixesAndStacks.j4 k x y u v false) true := by
 refine Ev.succ ?_
 simp only [laws_FnMixesAndStacks.j4, Bool.false_eq_true, if_false]
 refine Ev.bind (pBelow_good gx gy) (Ev.bind (pBelow_good gu gv) ?_)
 rw [h, beq_self_eq_true]
 exact Ev.now _
theorem mix_j4' (x y u v : List Int) : Ev (fun k => laws_FnMixesAndStacks.j4 k x y u v true) true := by
 refine Ev.succ ?_
 simp only [laws_FnMixesAndStacks.j4, if_true]
 exact Ev.now _
theorem mix_j2 (l0 l1 : List Int) (h0 : Bytes l0) (h1 : Bytes l1) : Ev (fun k => laws_FnMixesAndStacks.j2 k l0 l1) true := by
 refine Ev.succ ?_
 simp only [laws_FnMixesAndStacks.j2]
 obtain ⟨c, d, e1, hc, hd⟩ := drawMaj_ev l1 h1
 obtain ⟨e, f, e2, he, hf⟩ := drawStack_ev l0 h0
 have lc := hc.len
 have ld := hd.len
 have le := he.len
 have lf := hf.len
 refine Ev.bind e1 (Ev.bind e2 ?_)
 simp only [stack_eq c e (by omega) (by omega), stack_eq d e (by omega) (by omega), stack_eq e f (by omega) (by omega), Option.bind_some]
 refine Ev.bind (specStackLists_ev e f (by omega) (by omega)) ?_
 simp only [bne_self_eq_false, Bool.false_eq_true, if_false]
 have hl := stackR_len e f
 refine Ev.bind (pSame_self _ (by omega)) ?_
 simp only [Bool.not_true]
 refine Ev.succ ?_
 simp only [laws_FnMixesAndStacks.j3, Bool.false_eq_true, if_false]
 refine Ev.ite' (fun c1 => ?_) (fun _ => mix_j4' _ _ _ _)
 refine Ev.ite' (fun c2 => ?_) (fun _ => mix_j4' _ _ _ _)
 obtain ⟨q1, gc, ge, g1⟩ := stackR_true c1
 obtain ⟨q2, gd, _, g2⟩ := stackR_true c2
 refine Ev.bind (pFit_ev c d 12 100 hc hd (by omega) (by omega) (by omega)) ?_
 rw [q1, q2]
 cases hfit : fitB c d with
 | true =>
  simp only [Bool.not_true]
  exact mix_j4 c d _ _ gc gd g1 g2 (stack_maj c d e).symm
 | false =>
  simp only [Bool.not_false]
  exact mix_j4' _ _ _ _
theorem mix_l0 (l0 l1 x y z : List Int) (h0 : Bytes l0) (h1 : Bytes l1) (gx : goodL x = true) (gy : goodL y = true) (gz : goodL z = true) (hl : x.length = y.length) (gp : goodL (zipL (· + ·) x y) = true) (hm : majB (zipL (· + ·) x y) z = true) : Ev (fun k => laws_FnMixesAndStacks.l0 k l0 l1 y z [] x (x.length : Int) 0) true := by
 have b1 := (goodL_iff x).1 gx
 have b2 := (goodL_iff y).1 gy
 have hz : (zipL (· + ·) x y).length = x.length := zip_length hl
 have h := ev_build (g := fun k acc i => laws_FnMixesAndStacks.l0 k l0 l1 y z acc x (x.length : Int) i) (zipL (· + ·) x y) true (by
  refine Ev.succ ?_
  simp only [laws_FnMixesAndStacks.l0, if_neg (show ¬ ((zipL (· + ·) x y).length : Int) < (x.length : Int) by omega)]
  refine Ev.bind (pBelow_good gp gz) ?_
  rw [hm]
  simp only [if_true]
  exact mix_j2 l0 l1 h0 h1) (fun i hi r hr => by
  have hi1 : i < x.length := by omega
  have hi2 : i < y.length := by omega
  have c1 := b1.2.2 _ (List.getElem_mem hi1)
  have c2 := b2.2.2 _ (List.getElem_mem hi2)
  refine Ev.succ ?_
  have e : (zipL (· + ·) x y)[i] = x[i] + y[i] := by simp [zipL]
  rw [e] at hr
  simp only [laws_FnMixesAndStacks.l0, if_pos (show (i : Int) < (x.length : Int) by omega), if_pos (show (0 : Int) ≤ (i : Int) by omega), if_pos (show (i : Int) < (y.length : Int) by omega), rdn hi1, rdn hi2, w64 (x := x[i] + y[i]) (by omega) (by omega), wsucc hi1 (by omega), if_pos (show ((zipL (· + ·) x y).take i).length < 17592186044416 by rw [List.length_take]; omega)]
  exact hr) (zipL (· + ·) x y).length 0 (by omega)
 exact h
theorem FnMixesAndStacks : laws_FnMixesAndStacks.Pure := by
 intro l0 l1 _ g0 x0 _ g1 x1
 apply Ev.get
 unfold laws_FnMixesAndStacks.f
 rcases big_cut l0 l1 g0 x0 x1 with hb | ⟨hb, b0, b1⟩
 · simp only [hb, Option.bind_some, if_true]
   exact Ev.now _
 · simp only [hb, Option.bind_some, Bool.false_eq_true, if_false]
   obtain ⟨x, y, e, hx, hy⟩ := drawMix_ev l0 b0
   have lx := hx.len
   have ly := hy.len
   have hr := mixR_len x y (by omega) (by omega)
   refine Ev.bind e (Ev.bind (implMixOf_ev x y (by omega) (by omega)) (Ev.bind (specMixOf_ev x y (by omega) (by omega)) ?_))
   simp only [bne_self_eq_false, Bool.false_eq_true, if_false]
   refine Ev.bind (pSame_self _ (by omega)) ?_
   simp only [Bool.not_true]
   refine Ev.succ ?_
   simp only [laws_FnMixesAndStacks.j0, Bool.false_eq_true, if_false]
   refine Ev.ite' (fun c => ?_) (fun _ => mix_j2 l0 l1 b0 b1)
   unfold mixR at c ⊢
   by_cases gx : goodL x = true
   · by_cases gy : goodL y = true
     · by_cases hl : (x.length : Int) = (y.length : Int)
       · by_cases gz : goodL (zipL (· + ·) (descL x) (descL y)) = true
         · rw [if_pos gx, if_pos gy, if_pos hl, if_pos gz]
           have hl' : x.length = y.length := by omega
           have hm := mix_maj hl'
           have b3 := (goodL_iff x).1 gx
           have b4 := (goodL_iff y).1 gy
           have b5 := (goodL_iff _).1 gz
           refine mix_l0 l0 l1 x y _ b0 b1 gx gy gz hl' ?_ hm
           have hzl := zip_length hl'
           refine (goodL_iff _).2 ⟨by omega, by omega, fun v hv => ?_⟩
           obtain ⟨i, hi, rfl⟩ := List.mem_iff_getElem.1 hv
           have hi1 : i < x.length := by omega
           have hi2 : i < y.length := by omega
           have e1 : (zipL (· + ·) x y)[i] = x[i] + y[i] := by simp [zipL]
           have c1 := b3.2.2 _ (List.getElem_mem hi1)
           have c2 := b4.2.2 _ (List.getElem_mem hi2)
           rw [e1]
           refine ⟨by omega, ?_⟩
           have t0 : ∀ (w : List Int) (j : Nat) (hj : j < w.length), w[j] ≤ rd (descL w) ((0 : Nat) : Int) := fun w j hj => by
            have hm := descL_mem.2 (List.getElem_mem hj)
            obtain ⟨q, q0, q1, q2⟩ := mem_rd hm
            obtain ⟨qn, rfl⟩ := Int.eq_ofNat_of_zero_le q0
            have := desc_rd (descL_desc w) (Nat.zero_le qn) (by have : ((qn : Nat) : Int) = Int.ofNat qn := rfl; omega)
            have e : rd (descL w) (Int.ofNat qn) = rd (descL w) (qn : Int) := rfl
            omega
           have m1 := t0 x i hi1
           have m2 := t0 y i hi2
           have hd : (descL x).length = (descL y).length := by rw [descL_length, descL_length, hl']
           have z0 := zip_rd hd (k := 0) (by rw [descL_length]; omega)
           have z1 := b5.2.2 _ (rd_mem (l := zipL (· + ·) (descL x) (descL y)) (i := ((0 : Nat) : Int)) (by omega) (by rw [zip_length hd, descL_length]; omega))
           omega
         · rw [if_pos gx, if_pos gy, if_pos hl, if_neg gz] at c
           cases c
       · rw [if_pos gx, if_pos gy, if_neg hl] at c
         cases c
     · rw [if_pos gx, if_neg gy] at c
       cases c
   · rw [if_neg gx] at c
     cases c
end Go.Proofs.Ytnlimjejllakoaa.Pure
