/- What the law FnListTexts reaches, part 2: Lean functions with the same answers as the Go functions, the proofs that the Go code comes to these answers, and lemmas about them; no condition beyond those that each theorem names. -/
import Derived.Shelf.Strconv.Itoa3
import Derived.Shelf.Strings.OnBuilder
import Derived.Test.YtimkfjekbimmhaaDoorProg
import Derived.Shelf.LaysM
import Derived.Shelf.Strings.Split
import Derived.Shelf.Strconv.AtoiAll
import Derived.Lib.AtoiErrMem
import Derived.Deep.AppendLies
import Derived.Lib.VarintBits
import Derived.Lib.Zigzag
import Derived.Lib.Split
import Derived.Lib.IndexLaws
import Derived.Lib.IndexBytes
import Derived.Test.YtimkfjekbimmhaaDoorCFnListTexts1
-- made by a program of this repo (wip/pp.py) through the kit's printer
namespace Go.Proofs.YtimkfjekbimmhaaDoor.A
open Go.RowKit Go.Proofs.YtimkfjekbimmhaaDoorW.PrintWords Go.Proofs.YtimkfjekbimmhaaDoorW.PrintLast Go.Proofs.YtimkfjekbimmhaaDoorW.PrintMore
attribute [local go_sem] max2_int min2_int max_two min_two max_three min_three max_four min_four
set_option linter.unusedVariables false
set_option linter.unusedSimpArgs false

/-! ### spec_l1Cur_anyList: function 19 -/
def spec_l1Cur_anyList.l0 : Nat → List Int → List Int → Int → Int → Option (List Int × Int × Int)
  | 0, _, _, _, _ => none
  | k + 1, x5, x1000, x1001, x1002 => (spec_l1Cur_pick.f x1000 x1001 x1002 2).bind fun bt138 => (if (x5.length : Int) < (wrap64 (8 + bt138.1)) then ((spec_l1Cur_pick.f x1000 bt138.2.1 bt138.2.2 9).bind fun bt141 => (if x5.length < 17592186044416 then (spec_l1Cur_anyList.l0 k (x5 ++ [bt141.1]) x1000 bt141.2.1 bt141.2.2) else (none))) else (some (x5, bt138.2.1, bt138.2.2)))
def spec_l1Cur_anyList.f (k : Nat) (s0_0 : List Int) (s0_1 : Int) (s0_2 : Int) (a1 : Int) : Option (List Int × Int × Int) := (spec_l1Cur_list.f k s0_0 s0_1 s0_2 a1).bind fun bt121 => ((spec_l1Cur_pick.f s0_0 bt121.2.1 bt121.2.2 14).bind fun bt126 => (if bt126.1 = 0 then ((spec_l1Cur_among.f s0_0 bt126.2.1 bt126.2.2 (([(-1), 0, 60, 61] : List Int))).bind fun bt132 => (if bt121.1.length < 17592186044416 then (some ((bt121.1 ++ [bt132.1]), bt132.2.1, bt132.2.2)) else (none))) else (if bt126.1 = 1 then (spec_l1Cur_anyList.l0 k bt121.1 s0_0 bt126.2.1 bt126.2.2) else (if bt126.1 = 2 then (some (([] : List Int), bt126.2.1, bt126.2.2)) else (some (bt121.1, bt126.2.1, bt126.2.2))))))
set_option maxHeartbeats 8000000 in
set_option maxRecDepth 100000 in
theorem spec_l1Cur_anyList.calls (k : Nat) (g : Nat) (s0_0 : List Int) (s0_1 : Int) (s0_2 : Int) (a1 : Int) (r1 : List Int) (r2 : Int) (r3 : Int) (w0 w : World) (hI : IsS39 w0 w g s0_0 s0_1 s0_2) (hB : Below w0.heap.size w0 w) (h : spec_l1Cur_anyList.f k s0_0 s0_1 s0_2 a1 = some (r1, r2, r3)) :
    Calls Tryd.prog 19 #[.pointer (some ⟨g, 0, none⟩), .int .i64 a1] w fun e w' => ∃ v0_ : Value, e = .returned (v0_) ∧ Kd.R (Kd.int .i64) 3 w' w.heap.size (fun _ => True) v0_ r1 ∧ IsS39 w0 w' g s0_0 r2 r3 ∧ Below w0.heap.size w0 w' ∧ KeepBut w w' g none := by
  have HI0 := Aside0.mk hI
  have HK := Aside0.mk (KeepBut.refl w g none)
  have HL := Aside0.mk hB.size
  clear hI
  have HW0 := Aside0.mk hB.size
  have HB := Aside0.mk hB
  clear hB
  have H : ((spec_l1Cur_list.f k s0_0 s0_1 s0_2 a1).bind fun bt121 => ((spec_l1Cur_pick.f s0_0 bt121.2.1 bt121.2.2 14).bind fun bt126 => (if bt126.1 = 0 then ((spec_l1Cur_among.f s0_0 bt126.2.1 bt126.2.2 (([(-1), 0, 60, 61] : List Int))).bind fun bt132 => (if bt121.1.length < 17592186044416 then (some ((bt121.1 ++ [bt132.1]), bt132.2.1, bt132.2.2)) else (none))) else (if bt126.1 = 1 then (spec_l1Cur_anyList.l0 k bt121.1 s0_0 bt126.2.1 bt126.2.2) else (if bt126.1 = 2 then (some (([] : List Int), bt126.2.1, bt126.2.2)) else (some (bt121.1, bt126.2.1, bt126.2.2))))))) = some (r1, r2, r3) := h
  clear h
  replace H := Option.bind_eq_some_iff.mp H
  obtain ⟨⟨t121, t124, t125⟩, A30, H⟩ := H
  replace H : ((spec_l1Cur_pick.f s0_0 t124 t125 14).bind fun bt126 => (if bt126.1 = 0 then ((spec_l1Cur_among.f s0_0 bt126.2.1 bt126.2.2 (([(-1), 0, 60, 61] : List Int))).bind fun bt132 => (if t121.length < 17592186044416 then (some ((t121 ++ [bt132.1]), bt132.2.1, bt132.2.2)) else (none))) else (if bt126.1 = 1 then (spec_l1Cur_anyList.l0 k t121 s0_0 bt126.2.1 bt126.2.2) else (if bt126.1 = 2 then (some (([] : List Int), bt126.2.1, bt126.2.2)) else (some (t121, bt126.2.1, bt126.2.2)))))) = some (r1, r2, r3) := H
  have A3 := Aside0.mk A30
  clear A30
  replace H := Option.bind_eq_some_iff.mp H
  obtain ⟨⟨t126, t127, t128⟩, A40, H⟩ := H
  replace H : (if t126 = 0 then ((spec_l1Cur_among.f s0_0 t127 t128 (([(-1), 0, 60, 61] : List Int))).bind fun bt132 => (if t121.length < 17592186044416 then (some ((t121 ++ [bt132.1]), bt132.2.1, bt132.2.2)) else (none))) else (if t126 = 1 then (spec_l1Cur_anyList.l0 k t121 s0_0 t127 t128) else (if t126 = 2 then (some (([] : List Int), t127, t128)) else (some (t121, t127, t128))))) = some (r1, r2, r3) := H
  have A4 := Aside0.mk A40
  clear A40
  by_cases c5 : t126 = 0
  · rw [if_pos c5] at H
    have c5b0 : (t126 == 0) = true := beq_iff_eq.mpr c5
    have c5b1 : (t126 != 0) = false := bne_eq_false_iff_eq.mpr c5
    clear c5
    obtain ⟨y129, hy129⟩ : ∃ y_ : List Int, y_ = (([(-1), 0, 60, 61] : List Int)) := ⟨_, rfl⟩
    replace H : ((spec_l1Cur_among.f s0_0 t127 t128 y129).bind fun bt132 => (if t121.length < 17592186044416 then (some ((t121 ++ [bt132.1]), bt132.2.1, bt132.2.2)) else (none))) = some (r1, r2, r3) := by first | (rw [hy129]; with_reducible exact H) | (have H2_ := (Option.bind_some _ _).symm.trans H; rw [hy129]; with_reducible exact H2_) | (have H2_ := (Option.bind_some _ _).symm.trans H; with_reducible exact H2_) | with_reducible exact H | (rw [hy129]; exact H) | exact H
    have Ny129 := Aside0.mk hy129
    clear hy129
    replace H := Option.bind_eq_some_iff.mp H
    obtain ⟨⟨t132, t133, t134⟩, A60, H⟩ := H
    replace H : (if t121.length < 17592186044416 then (some ((t121 ++ [t132]), t133, t134)) else (none)) = some (r1, r2, r3) := H
    have A6 := Aside0.mk A60
    clear A60
    by_cases c7 : t121.length < 17592186044416
    · rw [if_pos c7] at H
      have LMc7 := Aside0.mk c7
      clear c7
      obtain ⟨y135, hy135⟩ : ∃ y_ : List Int, y_ = (t121 ++ [t132]) := ⟨_, rfl⟩
      replace H : (some (y135, t133, t134)) = some (r1, r2, r3) := by first | (rw [hy135]; with_reducible exact H) | (have H2_ := (Option.bind_some _ _).symm.trans H; rw [hy135]; with_reducible exact H2_) | (have H2_ := (Option.bind_some _ _).symm.trans H; with_reducible exact H2_) | with_reducible exact H | (rw [hy135]; exact H) | exact H
      have Ny135 := Aside0.mk hy135
      clear hy135
      simp only [Option.some.injEq, Prod.mk.injEq] at H
      obtain ⟨rfl, rfl, rfl⟩ := H
      go_enter Tryd.func19, Tryd.ntmps19
      go_wp2_with (first | ((with_reducible refine gate_callee (f := 27) rfl ?_); refine goesL_ (some 8) rfl rfl Tryd.func27 (by kernel_rfl) rfl #[.pointer (some ⟨g, 0, none⟩), .int .i64 a1] rfl (by (try simp only [List.map_toArray, List.map_cons, List.map_nil]); first | done | rfl | (simp only [List.length_drop, List.length_take]; rfl)) ?_; (with_reducible refine (spec_l1Cur_list.calls k g s0_0 s0_1 s0_2 a1 t121 t124 t125 w0 _ ?side1 ?side2 A3.out).mono ?_); (case side1 => repeat (first | (with_reducible first | exact HI0.out | apply IsS39.alloc | apply IsS39.drewN | apply IsS39.drew | apply IsS39.set_1 | apply IsS39.set_2) | exact HI0.out)); (case side2 => repeat (first | (with_reducible first | exact HB.out | apply below_alloc | apply pw_below_drewN | apply below_drew1 | refine below_set ?_ (IsS39.ge HI0.out)) | exact HB.out)); rintro e w8 ⟨v122, rfl, ho0, hi, hb, hk⟩; refine ⟨_, rfl, ?_⟩; have n0_ := Aside0.mk (Kd.R_lower ho0 (keep_size (w := w) (g := g) (row := none) (by repeat (first | (with_reducible first | exact HK.out | apply KeepBut.set_ | apply keep_drewN | apply keep_drew | apply keep_alloc) | exact HK.out)))); have n1_ := Aside0.mk (KeepBut.trans (by repeat (first | (with_reducible first | exact HK.out | apply KeepBut.set_ | apply keep_drewN | apply keep_drew | apply keep_alloc) | exact HK.out)) hk (.inl rfl)); have n2_ := Aside0.mk (hb); have n3_ := Aside0.mk (hi); clear HK; clear HB; clear HI0; have HO123 := n0_; have HK := n1_; have HB := n2_; have HI0 := n3_; clear n0_ n1_ n2_ n3_; (try clear hb); (try clear hb2); (try clear hk); (try clear hi); (try clear ho0)) | ((with_reducible refine gate_callee (f := 33) rfl ?_); refine goesL_ (some 10) rfl rfl Tryd.func33 (by kernel_rfl) rfl #[.pointer (some ⟨g, 0, none⟩), .int .i64 14] rfl (by (try simp only [List.map_toArray, List.map_cons, List.map_nil]); first | done | rfl | (simp only [List.length_drop, List.length_take]; rfl)) ?_; (with_reducible refine (spec_l1Cur_pick.calls g s0_0 t124 t125 14 t126 t127 t128 w0 _ ?side1 ?side2 A4.out).mono ?_); (case side1 => repeat (first | (with_reducible first | exact HI0.out | apply IsS39.alloc | apply IsS39.drewN | apply IsS39.drew | apply IsS39.set_1 | apply IsS39.set_2) | exact HI0.out)); (case side2 => repeat (first | (with_reducible first | exact HB.out | apply below_alloc | apply pw_below_drewN | apply below_drew1 | refine below_set ?_ (IsS39.ge HI0.out)) | exact HB.out)); rintro e w9 ⟨rfl, hi, hb, hk⟩; refine ⟨_, rfl, ?_⟩; have n0_ := Aside0.mk (Kd.R_mono (Kd.R_keep (IsS39.apart (show IsS39 w0 _ g s0_0 t124 t125 from by repeat (first | (with_reducible first | exact HI0.out | apply IsS39.alloc | apply IsS39.drewN | apply IsS39.drew | apply IsS39.set_1 | apply IsS39.set_2) | exact HI0.out)) (by (with_reducible repeat (first | apply Kd.R_alloc | apply Kd.R_drewN | apply Kd.R_drew)); exact HO123.out) (by decide)) hk (fun _ h => h.2)) (fun _ h => h.1)); have n1_ := Aside0.mk (KeepBut.trans (by repeat (first | (with_reducible first | exact HK.out | apply KeepBut.set_ | apply keep_drewN | apply keep_drew | apply keep_alloc) | exact HK.out)) hk (.inl rfl)); have n2_ := Aside0.mk (hb); have n3_ := Aside0.mk (hi); clear HO123; clear HK; clear HB; clear HI0; have HO123 := n0_; have HK := n1_; have HB := n2_; have HI0 := n3_; clear n0_ n1_ n2_ n3_; (try clear hb); (try clear hb2); (try clear hk); (try clear hi)) | ((with_reducible refine gate_dst (N := 15) rfl ?_); refine Kd.R_lit (Kd.int .i64) _ 3 ?hg (N := 15) ?hd (xs := ([(-1), 0, 60, 61] : List Int)) (inner := [.int .i64 (-1), .int .i64 0, .int .i64 60, .int .i64 61]) (ok := fun _ => True) (okp := fun _ => True) ?hr ?hp (fun _ hk => hk) trivial (Below.refl _ _) (Nat.le_refl _) (by simp) ?_; (case hd => rfl); (case hg => rfl); (case hr => first | (go_simp; done) | (go_simp; rfl)); (case hp => exact (Reps.one (show Kd.M (Kd.int .i64) _ _ _ (-1) [.int .i64 (-1)] from rfl) (Reps.one (show Kd.M (Kd.int .i64) _ _ _ 0 [.int .i64 0] from rfl) (Reps.one (show Kd.M (Kd.int .i64) _ _ _ 60 [.int .i64 60] from rfl) (Reps.one (show Kd.M (Kd.int .i64) _ _ _ 61 [.int .i64 61] from rfl) (Reps.none _ _)))))); intro v130 w10 ho11 hb hg_ hnew_; clear hg_ hnew_; (first | rw [← Ny129.out] at ho11 | (simp only [Int.reduceToNat] at ho11; rw [← Ny129.out] at ho11)); have n0_ := Aside0.mk (Kd.R_elder' (by (with_reducible repeat (first | apply Kd.R_alloc | apply Kd.R_drewN | apply Kd.R_drew)); exact HO123.out) (Kd.R_base ho11) hb); have n1_ := Aside0.mk (Kd.R_lower (Kd.R_new' ho11 (Kd.R_lt (by (with_reducible repeat (first | apply Kd.R_alloc | apply Kd.R_drewN | apply Kd.R_drew)); exact HO123.out))) (keep_size (w := w) (g := g) (row := none) (by repeat (first | (with_reducible first | exact HK.out | apply KeepBut.set_ | apply keep_drewN | apply keep_drew | apply keep_alloc) | exact HK.out)))); have n2_ := Aside0.mk (IsS39.below (by repeat (first | (with_reducible first | exact HI0.out | apply IsS39.alloc | apply IsS39.drewN | apply IsS39.drew | apply IsS39.set_1 | apply IsS39.set_2) | exact HI0.out)) hb); have n3_ := Aside0.mk (KeepBut.trans (by repeat (first | (with_reducible first | exact HK.out | apply KeepBut.set_ | apply keep_drewN | apply keep_drew | apply keep_alloc) | exact HK.out)) (KeepBut.of_below hb g none) (.inl rfl)); have n4_ := Aside0.mk (below_step (by repeat (first | (with_reducible first | exact HB.out | apply below_alloc | apply pw_below_drewN | apply below_drew1 | refine below_set ?_ (IsS39.ge HI0.out)) | exact HB.out)) hb); clear HO123; clear HI0; clear HK; clear HB; have HO123 := n0_; have HO131 := n1_; have HI0 := n2_; have HK := n3_; have HB := n4_; clear n0_ n1_ n2_ n3_ n4_; clear hb ho11; obtain ⟨Ao12, co12, eo12⟩ := Kd.R_slice HO131.out; subst eo12) | ((with_reducible refine gate_callee (f := 34) rfl ?_); refine goesL_ (some 16) rfl rfl Tryd.func34 (by kernel_rfl) rfl #[.pointer (some ⟨g, 0, none⟩), .slice Ao12 y129.length co12] rfl (by (try simp only [List.map_toArray, List.map_cons, List.map_nil]); first | done | rfl | (simp only [List.length_drop, List.length_take]; rfl)) ?_; (with_reducible refine (spec_l1Cur_among.calls g s0_0 t127 t128 _ _ y129 t132 t133 t134 w0 _ ?side1 ?side2 ?side3 ?side4 ?side5 A6.out).mono ?_); (case side1 => repeat (first | (with_reducible first | exact HI0.out | apply IsS39.alloc | apply IsS39.drewN | apply IsS39.drew | apply IsS39.set_1 | apply IsS39.set_2) | exact HI0.out)); (case side2 => repeat (first | (with_reducible first | exact HB.out | apply below_alloc | apply pw_below_drewN | apply below_drew1 | refine below_set ?_ (IsS39.ge HI0.out)) | exact HB.out)); (case side3 => repeat (first | exact (Kd.R_reads' HO131.out).2.2 | (with_reducible refine Kd.C_alloc ?_ _) | (with_reducible refine Kd.C_drewN ?_ _) | (with_reducible refine Kd.C_drew ?_))); (case side4 => exact (Kd.R_reads' HO131.out).2.1); (case side5 => exact far_slice (IsS39.own_ne HI0.out HO131.out (by decide))); rintro e w13 ⟨rfl, hi, hb, hk⟩; refine ⟨_, rfl, ?_⟩; have n0_ := Aside0.mk (Kd.R_mono (Kd.R_keep (IsS39.apart (show IsS39 w0 _ g s0_0 t127 t128 from by repeat (first | (with_reducible first | exact HI0.out | apply IsS39.alloc | apply IsS39.drewN | apply IsS39.drew | apply IsS39.set_1 | apply IsS39.set_2) | exact HI0.out)) (by (with_reducible repeat (first | apply Kd.R_alloc | apply Kd.R_drewN | apply Kd.R_drew)); exact HO123.out) (by decide)) hk (fun _ h => h.2)) (fun _ h => h.1)); have n1_ := Aside0.mk (Kd.R_mono (Kd.R_keep (IsS39.apart (show IsS39 w0 _ g s0_0 t127 t128 from by repeat (first | (with_reducible first | exact HI0.out | apply IsS39.alloc | apply IsS39.drewN | apply IsS39.drew | apply IsS39.set_1 | apply IsS39.set_2) | exact HI0.out)) (by (with_reducible repeat (first | apply Kd.R_alloc | apply Kd.R_drewN | apply Kd.R_drew)); exact HO131.out) (by decide)) hk (fun _ h => h.2)) (fun _ h => h.1)); have n2_ := Aside0.mk (KeepBut.trans (by repeat (first | (with_reducible first | exact HK.out | apply KeepBut.set_ | apply keep_drewN | apply keep_drew | apply keep_alloc) | exact HK.out)) hk (.inl rfl)); have n3_ := Aside0.mk (hb); have n4_ := Aside0.mk (hi); clear HO123; clear HO131; clear HK; clear HB; clear HI0; have HO123 := n0_; have HO131 := n1_; have HK := n2_; have HB := n3_; have HI0 := n4_; clear n0_ n1_ n2_ n3_ n4_; (try clear hb); (try clear hb2); (try clear hk); (try clear hi)) | ((with_reducible refine gate_builtin (b := .append) (xs := #[.tmp 13, .tmp 17]) rfl ?_); at_builtin; refine Kd.R_append (Kd.int .i64) w.heap.size rfl (.tmp 13) (.tmp 17) 24 3 (.int .i64 0) 8 rfl Tryd.underlying24 info3 rfl (by decide) (by omega) v122 t121 t132 [.int .i64 t132] (fun k_ => some k_ ≠ (.slice Ao12 y129.length co12 : Value).ownBlock) (fun _ => False) rfl rfl ?aP (fun _ hk => hk.elim) ?aF ?aO (Below.refl _ _) ?aS ?aL ?_; (case aP => exact rfl); (case aF => exact (fun k_ hk => Kd.fresh' (Kd.R_lt (by (with_reducible repeat (first | apply Kd.R_alloc | apply Kd.R_drewN | apply Kd.R_drew)); exact HO131.out)) k_ hk)); (case aO => exact (by (with_reducible repeat (first | apply Kd.R_alloc | apply Kd.R_drewN | apply Kd.R_drew)); exact Kd.R_mono HO123.out (fun _ hk => hk.2))); (case aS => exact (keep_size (w := w) (g := g) (row := none) (by repeat (first | (with_reducible first | exact HK.out | apply KeepBut.set_ | apply keep_drewN | apply keep_drew | apply keep_alloc) | exact HK.out)))); (case aL => have := LMc7.out; omega); intro v136 w14 ho hb hg hat; rw [← Ny135.out] at ho; have n0_ := Aside0.mk (IsS39.grown (by repeat (first | (with_reducible first | exact HI0.out | apply IsS39.alloc | apply IsS39.drewN | apply IsS39.drew | apply IsS39.set_1 | apply IsS39.set_2) | exact HI0.out)) hg (IsS39.own_ne HI0.out HO123.out (by decide))); have n1_ := Aside0.mk (Kd.R_after (ok := (fun _ => True)) (by (with_reducible repeat (first | apply Kd.R_alloc | apply Kd.R_drewN | apply Kd.R_drew)); exact HO131.out) hg hat); have n2_ := Aside0.mk (below_weaken (by repeat (first | (with_reducible first | exact HB.out | apply below_alloc | apply pw_below_drewN | apply below_drew1 | refine below_set ?_ (IsS39.ge HI0.out)) | exact HB.out)) HL.out hb); have n3_ := Aside0.mk (KeepBut.trans (by repeat (first | (with_reducible first | exact HK.out | apply KeepBut.set_ | apply keep_drewN | apply keep_drew | apply keep_alloc) | exact HK.out)) (KeepBut.of_grown hg g) (Kd.R_base2 HO123.out)); have n4_ := Aside0.mk (ho); clear HI0; clear HO131; clear HB; clear HK; clear HO123; have HI0 := n0_; have HO131 := n1_; have HB := n2_; have HK := n3_; have HO137 := n4_; clear n0_ n1_ n2_ n3_ n4_; clear ho hb hg hat))
      go_ret
      exact ⟨_, by first | rfl | (simp [errW_none, errW_some] <;> rfl) | (simp [*, errW_none, errW_some] <;> rfl), by (with_reducible repeat (first | apply Kd.R_alloc | apply Kd.R_drewN | apply Kd.R_drew)); exact Kd.R_mono HO137.out (fun _ hk => trivial), by repeat (first | (with_reducible first | exact HI0.out | apply IsS39.alloc | apply IsS39.drewN | apply IsS39.drew | apply IsS39.set_1 | apply IsS39.set_2) | exact HI0.out), by repeat (first | (with_reducible first | exact HB.out | apply below_alloc | apply pw_below_drewN | apply below_drew1 | refine below_set ?_ (IsS39.ge HI0.out)) | exact HB.out), by repeat (first | (with_reducible first | exact HK.out | apply KeepBut.set_ | apply keep_drewN | apply keep_drew | apply keep_alloc) | exact HK.out)⟩
    · rw [if_neg c7] at H
      exact absurd H (by simp)
  · rw [if_neg c5] at H
    have c5b0 : (t126 == 0) = false := beq_eq_false_iff_ne.mpr c5
    have c5b1 : (t126 != 0) = true := bne_iff_ne.mpr c5
    by_cases c15 : t126 = 1
    · rw [if_pos c15] at H
      have c15b0 : (t126 == 1) = true := beq_iff_eq.mpr c15
      have c15b1 : (t126 != 1) = false := bne_eq_false_iff_eq.mpr c15
      clear c15
      have H' := Aside0.mk H
      clear H
      go_enter Tryd.func19, Tryd.ntmps19
      go_wp2_with (first | ((with_reducible refine gate_callee (f := 27) rfl ?_); refine goesL_ (some 8) rfl rfl Tryd.func27 (by kernel_rfl) rfl #[.pointer (some ⟨g, 0, none⟩), .int .i64 a1] rfl (by (try simp only [List.map_toArray, List.map_cons, List.map_nil]); first | done | rfl | (simp only [List.length_drop, List.length_take]; rfl)) ?_; (with_reducible refine (spec_l1Cur_list.calls k g s0_0 s0_1 s0_2 a1 t121 t124 t125 w0 _ ?side1 ?side2 A3.out).mono ?_); (case side1 => repeat (first | (with_reducible first | exact HI0.out | apply IsS39.alloc | apply IsS39.drewN | apply IsS39.drew | apply IsS39.set_1 | apply IsS39.set_2) | exact HI0.out)); (case side2 => repeat (first | (with_reducible first | exact HB.out | apply below_alloc | apply pw_below_drewN | apply below_drew1 | refine below_set ?_ (IsS39.ge HI0.out)) | exact HB.out)); rintro e w16 ⟨v122, rfl, ho0, hi, hb, hk⟩; refine ⟨_, rfl, ?_⟩; have n0_ := Aside0.mk (Kd.R_lower ho0 (keep_size (w := w) (g := g) (row := none) (by repeat (first | (with_reducible first | exact HK.out | apply KeepBut.set_ | apply keep_drewN | apply keep_drew | apply keep_alloc) | exact HK.out)))); have n1_ := Aside0.mk (KeepBut.trans (by repeat (first | (with_reducible first | exact HK.out | apply KeepBut.set_ | apply keep_drewN | apply keep_drew | apply keep_alloc) | exact HK.out)) hk (.inl rfl)); have n2_ := Aside0.mk (hb); have n3_ := Aside0.mk (hi); clear HK; clear HB; clear HI0; have HO123 := n0_; have HK := n1_; have HB := n2_; have HI0 := n3_; clear n0_ n1_ n2_ n3_; (try clear hb); (try clear hb2); (try clear hk); (try clear hi); (try clear ho0)) | ((with_reducible refine gate_callee (f := 33) rfl ?_); refine goesL_ (some 10) rfl rfl Tryd.func33 (by kernel_rfl) rfl #[.pointer (some ⟨g, 0, none⟩), .int .i64 14] rfl (by (try simp only [List.map_toArray, List.map_cons, List.map_nil]); first | done | rfl | (simp only [List.length_drop, List.length_take]; rfl)) ?_; (with_reducible refine (spec_l1Cur_pick.calls g s0_0 t124 t125 14 t126 t127 t128 w0 _ ?side1 ?side2 A4.out).mono ?_); (case side1 => repeat (first | (with_reducible first | exact HI0.out | apply IsS39.alloc | apply IsS39.drewN | apply IsS39.drew | apply IsS39.set_1 | apply IsS39.set_2) | exact HI0.out)); (case side2 => repeat (first | (with_reducible first | exact HB.out | apply below_alloc | apply pw_below_drewN | apply below_drew1 | refine below_set ?_ (IsS39.ge HI0.out)) | exact HB.out)); rintro e w17 ⟨rfl, hi, hb, hk⟩; refine ⟨_, rfl, ?_⟩; have n0_ := Aside0.mk (Kd.R_mono (Kd.R_keep (IsS39.apart (show IsS39 w0 _ g s0_0 t124 t125 from by repeat (first | (with_reducible first | exact HI0.out | apply IsS39.alloc | apply IsS39.drewN | apply IsS39.drew | apply IsS39.set_1 | apply IsS39.set_2) | exact HI0.out)) (by (with_reducible repeat (first | apply Kd.R_alloc | apply Kd.R_drewN | apply Kd.R_drew)); exact HO123.out) (by decide)) hk (fun _ h => h.2)) (fun _ h => h.1)); have n1_ := Aside0.mk (KeepBut.trans (by repeat (first | (with_reducible first | exact HK.out | apply KeepBut.set_ | apply keep_drewN | apply keep_drew | apply keep_alloc) | exact HK.out)) hk (.inl rfl)); have n2_ := Aside0.mk (hb); have n3_ := Aside0.mk (hi); clear HO123; clear HK; clear HB; clear HI0; have HO123 := n0_; have HK := n1_; have HB := n2_; have HI0 := n3_; clear n0_ n1_ n2_ n3_; (try clear hb); (try clear hb2); (try clear hk); (try clear hi)))
      go_loopg [5] k (fun kq v5 w' => ∃ (x5_1 : List Int) (x1001_1 : Int) (x1002_1 : Int), Aside0 (spec_l1Cur_anyList.l0 kq x5_1 s0_0 x1001_1 x1002_1 = some (r1, r2, r3)) ∧ Aside0 (kq ≤ k) ∧ Aside0 (Kd.R (Kd.int .i64) 3 w' w.heap.size (fun _ => True) v5 x5_1) ∧ Aside0 (IsS39 w0 w' g s0_0 x1001_1 x1002_1) ∧ Aside0 (KeepBut w w' g none) ∧ Aside0 (Below w0.heap.size w0 w'))
      case atStart => exact ⟨(t121), (t127), (t128), H', ⟨Nat.le_refl _⟩, ⟨by (with_reducible repeat (first | apply Kd.R_alloc | apply Kd.R_drewN | apply Kd.R_drew)); exact HO123.out⟩, ⟨by repeat (first | (with_reducible first | exact HI0.out | apply IsS39.alloc | apply IsS39.drewN | apply IsS39.drew | apply IsS39.set_1 | apply IsS39.set_2) | exact HI0.out)⟩, ⟨by repeat (first | (with_reducible first | exact HK.out | apply KeepBut.set_ | apply keep_drewN | apply keep_drew | apply keep_alloc) | exact HK.out)⟩, ⟨by repeat (first | (with_reducible first | exact HB.out | apply below_alloc | apply pw_below_drewN | apply below_drew1 | refine below_set ?_ (IsS39.ge HI0.out)) | exact HB.out)⟩⟩
      case round =>
        clear H'
        try clear c1
        try clear c2
        try clear p2
        try clear c3
        try clear c5
        try clear c5b0
        try clear c5b1
        try clear c7
        try clear c15
        try clear c15b0
        try clear c15b1
        obtain ⟨x5_1, x1001_1, x1002_1, HA, HK1, HO_5, HI0, HK, HB⟩ := hrel
        cases gk with
        | zero => exact absurd HA.out (by simp [spec_l1Cur_anyList.l0])
        | succ k1 =>
          have H := HA.out
          clear HA
          simp only [spec_l1Cur_anyList.l0] at H
          replace H := Option.bind_eq_some_iff.mp H
          obtain ⟨⟨t138, t139, t140⟩, A180, H⟩ := H
          replace H : (if (x5_1.length : Int) < (wrap64 (8 + t138)) then ((spec_l1Cur_pick.f s0_0 t139 t140 9).bind fun bt141 => (if x5_1.length < 17592186044416 then (spec_l1Cur_anyList.l0 k1 (x5_1 ++ [bt141.1]) s0_0 bt141.2.1 bt141.2.2) else (none))) else (some (x5_1, t139, t140))) = some (r1, r2, r3) := H
          have A18 := Aside0.mk A180
          clear A180
          by_cases c19 : (x5_1.length : Int) < (wrap64 (8 + t138))
          · rw [if_pos c19] at H
            have c19b0 : decide ((x5_1.length : Int) < (wrap64 (8 + t138))) = true := decide_eq_true c19
            clear c19
            replace H := Option.bind_eq_some_iff.mp H
            obtain ⟨⟨t141, t142, t143⟩, A200, H⟩ := H
            replace H : (if x5_1.length < 17592186044416 then (spec_l1Cur_anyList.l0 k1 (x5_1 ++ [t141]) s0_0 t142 t143) else (none)) = some (r1, r2, r3) := H
            have A20 := Aside0.mk A200
            clear A200
            by_cases c21 : x5_1.length < 17592186044416
            · rw [if_pos c21] at H
              have LMc21 := Aside0.mk c21
              clear c21
              obtain ⟨y144, hy144⟩ : ∃ y_ : List Int, y_ = (x5_1 ++ [t141]) := ⟨_, rfl⟩
              replace H : (spec_l1Cur_anyList.l0 k1 y144 s0_0 t142 t143) = some (r1, r2, r3) := by first | (rw [hy144]; with_reducible exact H) | (have H2_ := (Option.bind_some _ _).symm.trans H; rw [hy144]; with_reducible exact H2_) | (have H2_ := (Option.bind_some _ _).symm.trans H; with_reducible exact H2_) | with_reducible exact H | (rw [hy144]; exact H) | exact H
              have Ny144 := Aside0.mk hy144
              clear hy144
              have H' := Aside0.mk H
              clear H
              obtain ⟨Ao22, co22, eo22⟩ := Kd.R_slice HO_5.out
              subst eo22
              go_wp2_with (first | ((with_reducible refine gate_callee (f := 33) rfl ?_); refine goesL_ (some 24) rfl rfl Tryd.func33 (by kernel_rfl) rfl #[.pointer (some ⟨g, 0, none⟩), .int .i64 2] rfl (by (try simp only [List.map_toArray, List.map_cons, List.map_nil]); first | done | rfl | (simp only [List.length_drop, List.length_take]; rfl)) ?_; (with_reducible refine (spec_l1Cur_pick.calls g s0_0 x1001_1 x1002_1 2 t138 t139 t140 w0 _ ?side1 ?side2 A18.out).mono ?_); (case side1 => repeat (first | (with_reducible first | exact HI0.out | apply IsS39.alloc | apply IsS39.drewN | apply IsS39.drew | apply IsS39.set_1 | apply IsS39.set_2) | exact HI0.out)); (case side2 => repeat (first | (with_reducible first | exact HB.out | apply below_alloc | apply pw_below_drewN | apply below_drew1 | refine below_set ?_ (IsS39.ge HI0.out)) | exact HB.out)); rintro e w23 ⟨rfl, hi, hb, hk⟩; refine ⟨_, rfl, ?_⟩; have n0_ := Aside0.mk (Kd.R_mono (Kd.R_keep (IsS39.apart (show IsS39 w0 _ g s0_0 x1001_1 x1002_1 from by repeat (first | (with_reducible first | exact HI0.out | apply IsS39.alloc | apply IsS39.drewN | apply IsS39.drew | apply IsS39.set_1 | apply IsS39.set_2) | exact HI0.out)) (by (with_reducible repeat (first | apply Kd.R_alloc | apply Kd.R_drewN | apply Kd.R_drew)); exact HO_5.out) (by decide)) hk (fun _ h => h.2)) (fun _ h => h.1)); have n1_ := Aside0.mk (KeepBut.trans (by repeat (first | (with_reducible first | exact HK.out | apply KeepBut.set_ | apply keep_drewN | apply keep_drew | apply keep_alloc) | exact HK.out)) hk (.inl rfl)); have n2_ := Aside0.mk (hb); have n3_ := Aside0.mk (hi); clear HO_5; clear HK; clear HB; clear HI0; have HO_5 := n0_; have HK := n1_; have HB := n2_; have HI0 := n3_; clear n0_ n1_ n2_ n3_; (try clear hb); (try clear hb2); (try clear hk); (try clear hi)) | ((with_reducible refine gate_callee (f := 33) rfl ?_); refine goesL_ (some 29) rfl rfl Tryd.func33 (by kernel_rfl) rfl #[.pointer (some ⟨g, 0, none⟩), .int .i64 9] rfl (by (try simp only [List.map_toArray, List.map_cons, List.map_nil]); first | done | rfl | (simp only [List.length_drop, List.length_take]; rfl)) ?_; (with_reducible refine (spec_l1Cur_pick.calls g s0_0 t139 t140 9 t141 t142 t143 w0 _ ?side1 ?side2 A20.out).mono ?_); (case side1 => repeat (first | (with_reducible first | exact HI0.out | apply IsS39.alloc | apply IsS39.drewN | apply IsS39.drew | apply IsS39.set_1 | apply IsS39.set_2) | exact HI0.out)); (case side2 => repeat (first | (with_reducible first | exact HB.out | apply below_alloc | apply pw_below_drewN | apply below_drew1 | refine below_set ?_ (IsS39.ge HI0.out)) | exact HB.out)); rintro e w24 ⟨rfl, hi, hb, hk⟩; refine ⟨_, rfl, ?_⟩; have n0_ := Aside0.mk (Kd.R_mono (Kd.R_keep (IsS39.apart (show IsS39 w0 _ g s0_0 t139 t140 from by repeat (first | (with_reducible first | exact HI0.out | apply IsS39.alloc | apply IsS39.drewN | apply IsS39.drew | apply IsS39.set_1 | apply IsS39.set_2) | exact HI0.out)) (by (with_reducible repeat (first | apply Kd.R_alloc | apply Kd.R_drewN | apply Kd.R_drew)); exact HO_5.out) (by decide)) hk (fun _ h => h.2)) (fun _ h => h.1)); have n1_ := Aside0.mk (KeepBut.trans (by repeat (first | (with_reducible first | exact HK.out | apply KeepBut.set_ | apply keep_drewN | apply keep_drew | apply keep_alloc) | exact HK.out)) hk (.inl rfl)); have n2_ := Aside0.mk (hb); have n3_ := Aside0.mk (hi); clear HO_5; clear HK; clear HB; clear HI0; have HO_5 := n0_; have HK := n1_; have HB := n2_; have HI0 := n3_; clear n0_ n1_ n2_ n3_; (try clear hb); (try clear hb2); (try clear hk); (try clear hi)) | ((with_reducible refine gate_builtin (b := .append) (xs := #[.tmp 27, .tmp 30]) rfl ?_); at_builtin; refine Kd.R_append (Kd.int .i64) w.heap.size rfl (.tmp 27) (.tmp 30) 24 3 (.int .i64 0) 8 rfl Tryd.underlying24 info3 rfl (by decide) (by omega) (.slice Ao22 x5_1.length co22) x5_1 t141 [.int .i64 t141] (fun _ => True) (fun _ => False) rfl rfl ?aP (fun _ hk => hk.elim) ?aF ?aO (Below.refl _ _) ?aS ?aL ?_; (case aP => exact rfl); (case aF => exact (fun _ _ => trivial)); (case aO => exact (by (with_reducible repeat (first | apply Kd.R_alloc | apply Kd.R_drewN | apply Kd.R_drew)); exact HO_5.out)); (case aS => exact (keep_size (w := w) (g := g) (row := none) (by repeat (first | (with_reducible first | exact HK.out | apply KeepBut.set_ | apply keep_drewN | apply keep_drew | apply keep_alloc) | exact HK.out)))); (case aL => have := LMc21.out; omega); intro v145 w25 ho hb hg hat; rw [← Ny144.out] at ho; have n0_ := Aside0.mk (IsS39.grown (by repeat (first | (with_reducible first | exact HI0.out | apply IsS39.alloc | apply IsS39.drewN | apply IsS39.drew | apply IsS39.set_1 | apply IsS39.set_2) | exact HI0.out)) hg (IsS39.own_ne HI0.out HO_5.out (by decide))); have n1_ := Aside0.mk (below_weaken (by repeat (first | (with_reducible first | exact HB.out | apply below_alloc | apply pw_below_drewN | apply below_drew1 | refine below_set ?_ (IsS39.ge HI0.out)) | exact HB.out)) HL.out hb); have n2_ := Aside0.mk (KeepBut.trans (by repeat (first | (with_reducible first | exact HK.out | apply KeepBut.set_ | apply keep_drewN | apply keep_drew | apply keep_alloc) | exact HK.out)) (KeepBut.of_grown hg g) (Kd.R_base2 HO_5.out)); have n3_ := Aside0.mk (ho); clear HI0; clear HB; clear HK; clear HO_5; have HI0 := n0_; have HB := n1_; have HK := n2_; have HO146 := n3_; clear n0_ n1_ n2_ n3_; clear ho hb hg hat))
              go_roundg k1
              case measure => have := HK1.out; omega
              case rel => exact ⟨(y144), (t142), (t143), H', ⟨by have := HK1.out; omega⟩, ⟨by (with_reducible repeat (first | apply Kd.R_alloc | apply Kd.R_drewN | apply Kd.R_drew)); exact HO146.out⟩, ⟨by repeat (first | (with_reducible first | exact HI0.out | apply IsS39.alloc | apply IsS39.drewN | apply IsS39.drew | apply IsS39.set_1 | apply IsS39.set_2) | exact HI0.out)⟩, ⟨by repeat (first | (with_reducible first | exact HK.out | apply KeepBut.set_ | apply keep_drewN | apply keep_drew | apply keep_alloc) | exact HK.out)⟩, ⟨by repeat (first | (with_reducible first | exact HB.out | apply below_alloc | apply pw_below_drewN | apply below_drew1 | refine below_set ?_ (IsS39.ge HI0.out)) | exact HB.out)⟩⟩
            · rw [if_neg c21] at H
              exact absurd H (by simp)
          · rw [if_neg c19] at H
            have c19b0 : decide ((x5_1.length : Int) < (wrap64 (8 + t138))) = false := decide_eq_false c19
            clear c19
            simp only [Option.some.injEq, Prod.mk.injEq] at H
            obtain ⟨rfl, rfl, rfl⟩ := H
            obtain ⟨Ao26, co26, eo26⟩ := Kd.R_slice HO_5.out
            subst eo26
            go_wp2_with (first | ((with_reducible refine gate_callee (f := 33) rfl ?_); refine goesL_ (some 24) rfl rfl Tryd.func33 (by kernel_rfl) rfl #[.pointer (some ⟨g, 0, none⟩), .int .i64 2] rfl (by (try simp only [List.map_toArray, List.map_cons, List.map_nil]); first | done | rfl | (simp only [List.length_drop, List.length_take]; rfl)) ?_; (with_reducible refine (spec_l1Cur_pick.calls g s0_0 x1001_1 x1002_1 2 t138 t139 t140 w0 _ ?side1 ?side2 A18.out).mono ?_); (case side1 => repeat (first | (with_reducible first | exact HI0.out | apply IsS39.alloc | apply IsS39.drewN | apply IsS39.drew | apply IsS39.set_1 | apply IsS39.set_2) | exact HI0.out)); (case side2 => repeat (first | (with_reducible first | exact HB.out | apply below_alloc | apply pw_below_drewN | apply below_drew1 | refine below_set ?_ (IsS39.ge HI0.out)) | exact HB.out)); rintro e w27 ⟨rfl, hi, hb, hk⟩; refine ⟨_, rfl, ?_⟩; have n0_ := Aside0.mk (Kd.R_mono (Kd.R_keep (IsS39.apart (show IsS39 w0 _ g s0_0 x1001_1 x1002_1 from by repeat (first | (with_reducible first | exact HI0.out | apply IsS39.alloc | apply IsS39.drewN | apply IsS39.drew | apply IsS39.set_1 | apply IsS39.set_2) | exact HI0.out)) (by (with_reducible repeat (first | apply Kd.R_alloc | apply Kd.R_drewN | apply Kd.R_drew)); exact HO_5.out) (by decide)) hk (fun _ h => h.2)) (fun _ h => h.1)); have n1_ := Aside0.mk (KeepBut.trans (by repeat (first | (with_reducible first | exact HK.out | apply KeepBut.set_ | apply keep_drewN | apply keep_drew | apply keep_alloc) | exact HK.out)) hk (.inl rfl)); have n2_ := Aside0.mk (hb); have n3_ := Aside0.mk (hi); clear HO_5; clear HK; clear HB; clear HI0; have HO_5 := n0_; have HK := n1_; have HB := n2_; have HI0 := n3_; clear n0_ n1_ n2_ n3_; (try clear hb); (try clear hb2); (try clear hk); (try clear hi)))
            go_ret
            exact ⟨_, by first | rfl | (simp [errW_none, errW_some] <;> rfl) | (simp [*, errW_none, errW_some] <;> rfl), by (with_reducible repeat (first | apply Kd.R_alloc | apply Kd.R_drewN | apply Kd.R_drew)); exact HO_5.out, by repeat (first | (with_reducible first | exact HI0.out | apply IsS39.alloc | apply IsS39.drewN | apply IsS39.drew | apply IsS39.set_1 | apply IsS39.set_2) | exact HI0.out), by repeat (first | (with_reducible first | exact HB.out | apply below_alloc | apply pw_below_drewN | apply below_drew1 | refine below_set ?_ (IsS39.ge HI0.out)) | exact HB.out), by repeat (first | (with_reducible first | exact HK.out | apply KeepBut.set_ | apply keep_drewN | apply keep_drew | apply keep_alloc) | exact HK.out)⟩
    · rw [if_neg c15] at H
      have c15b0 : (t126 == 1) = false := beq_eq_false_iff_ne.mpr c15
      have c15b1 : (t126 != 1) = true := bne_iff_ne.mpr c15
      by_cases c28 : t126 = 2
      · rw [if_pos c28] at H
        have c28b0 : (t126 == 2) = true := beq_iff_eq.mpr c28
        have c28b1 : (t126 != 2) = false := bne_eq_false_iff_eq.mpr c28
        clear c28
        simp only [Option.some.injEq, Prod.mk.injEq] at H
        obtain ⟨rfl, rfl, rfl⟩ := H
        go_enter Tryd.func19, Tryd.ntmps19
        go_wp2_with (first | ((with_reducible refine gate_callee (f := 27) rfl ?_); refine goesL_ (some 8) rfl rfl Tryd.func27 (by kernel_rfl) rfl #[.pointer (some ⟨g, 0, none⟩), .int .i64 a1] rfl (by (try simp only [List.map_toArray, List.map_cons, List.map_nil]); first | done | rfl | (simp only [List.length_drop, List.length_take]; rfl)) ?_; (with_reducible refine (spec_l1Cur_list.calls k g s0_0 s0_1 s0_2 a1 t121 t124 t125 w0 _ ?side1 ?side2 A3.out).mono ?_); (case side1 => repeat (first | (with_reducible first | exact HI0.out | apply IsS39.alloc | apply IsS39.drewN | apply IsS39.drew | apply IsS39.set_1 | apply IsS39.set_2) | exact HI0.out)); (case side2 => repeat (first | (with_reducible first | exact HB.out | apply below_alloc | apply pw_below_drewN | apply below_drew1 | refine below_set ?_ (IsS39.ge HI0.out)) | exact HB.out)); rintro e w29 ⟨v122, rfl, ho0, hi, hb, hk⟩; refine ⟨_, rfl, ?_⟩; have n0_ := Aside0.mk (Kd.R_lower ho0 (keep_size (w := w) (g := g) (row := none) (by repeat (first | (with_reducible first | exact HK.out | apply KeepBut.set_ | apply keep_drewN | apply keep_drew | apply keep_alloc) | exact HK.out)))); have n1_ := Aside0.mk (KeepBut.trans (by repeat (first | (with_reducible first | exact HK.out | apply KeepBut.set_ | apply keep_drewN | apply keep_drew | apply keep_alloc) | exact HK.out)) hk (.inl rfl)); have n2_ := Aside0.mk (hb); have n3_ := Aside0.mk (hi); clear HK; clear HB; clear HI0; have HO123 := n0_; have HK := n1_; have HB := n2_; have HI0 := n3_; clear n0_ n1_ n2_ n3_; (try clear hb); (try clear hb2); (try clear hk); (try clear hi); (try clear ho0)) | ((with_reducible refine gate_callee (f := 33) rfl ?_); refine goesL_ (some 10) rfl rfl Tryd.func33 (by kernel_rfl) rfl #[.pointer (some ⟨g, 0, none⟩), .int .i64 14] rfl (by (try simp only [List.map_toArray, List.map_cons, List.map_nil]); first | done | rfl | (simp only [List.length_drop, List.length_take]; rfl)) ?_; (with_reducible refine (spec_l1Cur_pick.calls g s0_0 t124 t125 14 t126 t127 t128 w0 _ ?side1 ?side2 A4.out).mono ?_); (case side1 => repeat (first | (with_reducible first | exact HI0.out | apply IsS39.alloc | apply IsS39.drewN | apply IsS39.drew | apply IsS39.set_1 | apply IsS39.set_2) | exact HI0.out)); (case side2 => repeat (first | (with_reducible first | exact HB.out | apply below_alloc | apply pw_below_drewN | apply below_drew1 | refine below_set ?_ (IsS39.ge HI0.out)) | exact HB.out)); rintro e w30 ⟨rfl, hi, hb, hk⟩; refine ⟨_, rfl, ?_⟩; have n0_ := Aside0.mk (Kd.R_mono (Kd.R_keep (IsS39.apart (show IsS39 w0 _ g s0_0 t124 t125 from by repeat (first | (with_reducible first | exact HI0.out | apply IsS39.alloc | apply IsS39.drewN | apply IsS39.drew | apply IsS39.set_1 | apply IsS39.set_2) | exact HI0.out)) (by (with_reducible repeat (first | apply Kd.R_alloc | apply Kd.R_drewN | apply Kd.R_drew)); exact HO123.out) (by decide)) hk (fun _ h => h.2)) (fun _ h => h.1)); have n1_ := Aside0.mk (KeepBut.trans (by repeat (first | (with_reducible first | exact HK.out | apply KeepBut.set_ | apply keep_drewN | apply keep_drew | apply keep_alloc) | exact HK.out)) hk (.inl rfl)); have n2_ := Aside0.mk (hb); have n3_ := Aside0.mk (hi); clear HO123; clear HK; clear HB; clear HI0; have HO123 := n0_; have HK := n1_; have HB := n2_; have HI0 := n3_; clear n0_ n1_ n2_ n3_; (try clear hb); (try clear hb2); (try clear hk); (try clear hi)))
        go_ret
        exact ⟨_, by first | rfl | (simp [errW_none, errW_some] <;> rfl) | (simp [*, errW_none, errW_some] <;> rfl), by first | exact Kd.R_nil _ _ _ _ _ | exact Kd.N_nil _ _ _ _ _ | exact Kd.V_nil _ _ _ _ _ | exact Kd.Q_nil _ _ _ _ _ | exact Kd.S_nil _ _ _ _ _, by repeat (first | (with_reducible first | exact HI0.out | apply IsS39.alloc | apply IsS39.drewN | apply IsS39.drew | apply IsS39.set_1 | apply IsS39.set_2) | exact HI0.out), by repeat (first | (with_reducible first | exact HB.out | apply below_alloc | apply pw_below_drewN | apply below_drew1 | refine below_set ?_ (IsS39.ge HI0.out)) | exact HB.out), by repeat (first | (with_reducible first | exact HK.out | apply KeepBut.set_ | apply keep_drewN | apply keep_drew | apply keep_alloc) | exact HK.out)⟩
      · rw [if_neg c28] at H
        have c28b0 : (t126 == 2) = false := beq_eq_false_iff_ne.mpr c28
        have c28b1 : (t126 != 2) = true := bne_iff_ne.mpr c28
        simp only [Option.some.injEq, Prod.mk.injEq] at H
        obtain ⟨rfl, rfl, rfl⟩ := H
        go_enter Tryd.func19, Tryd.ntmps19
        go_wp2_with (first | ((with_reducible refine gate_callee (f := 27) rfl ?_); refine goesL_ (some 8) rfl rfl Tryd.func27 (by kernel_rfl) rfl #[.pointer (some ⟨g, 0, none⟩), .int .i64 a1] rfl (by (try simp only [List.map_toArray, List.map_cons, List.map_nil]); first | done | rfl | (simp only [List.length_drop, List.length_take]; rfl)) ?_; (with_reducible refine (spec_l1Cur_list.calls k g s0_0 s0_1 s0_2 a1 t121 t124 t125 w0 _ ?side1 ?side2 A3.out).mono ?_); (case side1 => repeat (first | (with_reducible first | exact HI0.out | apply IsS39.alloc | apply IsS39.drewN | apply IsS39.drew | apply IsS39.set_1 | apply IsS39.set_2) | exact HI0.out)); (case side2 => repeat (first | (with_reducible first | exact HB.out | apply below_alloc | apply pw_below_drewN | apply below_drew1 | refine below_set ?_ (IsS39.ge HI0.out)) | exact HB.out)); rintro e w31 ⟨v122, rfl, ho0, hi, hb, hk⟩; refine ⟨_, rfl, ?_⟩; have n0_ := Aside0.mk (Kd.R_lower ho0 (keep_size (w := w) (g := g) (row := none) (by repeat (first | (with_reducible first | exact HK.out | apply KeepBut.set_ | apply keep_drewN | apply keep_drew | apply keep_alloc) | exact HK.out)))); have n1_ := Aside0.mk (KeepBut.trans (by repeat (first | (with_reducible first | exact HK.out | apply KeepBut.set_ | apply keep_drewN | apply keep_drew | apply keep_alloc) | exact HK.out)) hk (.inl rfl)); have n2_ := Aside0.mk (hb); have n3_ := Aside0.mk (hi); clear HK; clear HB; clear HI0; have HO123 := n0_; have HK := n1_; have HB := n2_; have HI0 := n3_; clear n0_ n1_ n2_ n3_; (try clear hb); (try clear hb2); (try clear hk); (try clear hi); (try clear ho0)) | ((with_reducible refine gate_callee (f := 33) rfl ?_); refine goesL_ (some 10) rfl rfl Tryd.func33 (by kernel_rfl) rfl #[.pointer (some ⟨g, 0, none⟩), .int .i64 14] rfl (by (try simp only [List.map_toArray, List.map_cons, List.map_nil]); first | done | rfl | (simp only [List.length_drop, List.length_take]; rfl)) ?_; (with_reducible refine (spec_l1Cur_pick.calls g s0_0 t124 t125 14 t126 t127 t128 w0 _ ?side1 ?side2 A4.out).mono ?_); (case side1 => repeat (first | (with_reducible first | exact HI0.out | apply IsS39.alloc | apply IsS39.drewN | apply IsS39.drew | apply IsS39.set_1 | apply IsS39.set_2) | exact HI0.out)); (case side2 => repeat (first | (with_reducible first | exact HB.out | apply below_alloc | apply pw_below_drewN | apply below_drew1 | refine below_set ?_ (IsS39.ge HI0.out)) | exact HB.out)); rintro e w32 ⟨rfl, hi, hb, hk⟩; refine ⟨_, rfl, ?_⟩; have n0_ := Aside0.mk (Kd.R_mono (Kd.R_keep (IsS39.apart (show IsS39 w0 _ g s0_0 t124 t125 from by repeat (first | (with_reducible first | exact HI0.out | apply IsS39.alloc | apply IsS39.drewN | apply IsS39.drew | apply IsS39.set_1 | apply IsS39.set_2) | exact HI0.out)) (by (with_reducible repeat (first | apply Kd.R_alloc | apply Kd.R_drewN | apply Kd.R_drew)); exact HO123.out) (by decide)) hk (fun _ h => h.2)) (fun _ h => h.1)); have n1_ := Aside0.mk (KeepBut.trans (by repeat (first | (with_reducible first | exact HK.out | apply KeepBut.set_ | apply keep_drewN | apply keep_drew | apply keep_alloc) | exact HK.out)) hk (.inl rfl)); have n2_ := Aside0.mk (hb); have n3_ := Aside0.mk (hi); clear HO123; clear HK; clear HB; clear HI0; have HO123 := n0_; have HK := n1_; have HB := n2_; have HI0 := n3_; clear n0_ n1_ n2_ n3_; (try clear hb); (try clear hb2); (try clear hk); (try clear hi)))
        go_ret
        exact ⟨_, by first | rfl | (simp [errW_none, errW_some] <;> rfl) | (simp [*, errW_none, errW_some] <;> rfl), by (with_reducible repeat (first | apply Kd.R_alloc | apply Kd.R_drewN | apply Kd.R_drew)); exact HO123.out, by repeat (first | (with_reducible first | exact HI0.out | apply IsS39.alloc | apply IsS39.drewN | apply IsS39.drew | apply IsS39.set_1 | apply IsS39.set_2) | exact HI0.out), by repeat (first | (with_reducible first | exact HB.out | apply below_alloc | apply pw_below_drewN | apply below_drew1 | refine below_set ?_ (IsS39.ge HI0.out)) | exact HB.out), by repeat (first | (with_reducible first | exact HK.out | apply KeepBut.set_ | apply keep_drewN | apply keep_drew | apply keep_alloc) | exact HK.out)⟩

end Go.Proofs.YtimkfjekbimmhaaDoor.A

-- made by a program of this repo (wip/pp.py) through the kit's printer
namespace Go.Proofs.YtimkfjekbimmhaaDoor.A
open Go.RowKit Go.Proofs.YtimkfjekbimmhaaDoorW.PrintWords Go.Proofs.YtimkfjekbimmhaaDoorW.PrintLast Go.Proofs.YtimkfjekbimmhaaDoorW.PrintMore
attribute [local go_sem] max2_int min2_int max_two min_two max_three min_three max_four min_four
set_option linter.unusedVariables false
set_option linter.unusedSimpArgs false

/-! ### spec_DrawListText: function 7 -/
def spec_DrawListText.f (k : Nat) (l0 : List Int) : Option (List Int) := (spec_l1Cur_anyList.f k l0 0 0 60).bind fun bt148 => (some bt148.1)
set_option maxHeartbeats 8000000 in
set_option maxRecDepth 100000 in
theorem spec_DrawListText.calls (k : Nat) (A0 : Option Addr) (c0 : Nat) (l0 : List Int) (r : List Int) (w : World) (hr0 : Kd.C (Kd.int .u8) w A0 l0.length l0) (hc0 : l0.length ≤ c0) (h : spec_DrawListText.f k l0 = some r) :
    Calls Tryd.prog 7 #[.slice A0 l0.length c0] w fun e w' => ∃ v0_ : Value, e = .returned (v0_) ∧ Kd.R (Kd.int .i64) 3 w' w.heap.size (fun _ => True) v0_ r ∧ Below w.heap.size w w' := by
  have hu39 := Tryd.underlying39
  have HR0 := Aside0.mk hr0
  have HC0 := Aside0.mk hc0
  clear hr0 hc0
  have HB := Aside0.mk (Below.refl w.heap.size w)
  have H : ((spec_l1Cur_anyList.f k l0 0 0 60).bind fun bt148 => (some bt148.1)) = some r := h
  clear h
  replace H := Option.bind_eq_some_iff.mp H
  obtain ⟨⟨t148, t151, t152⟩, A20, H⟩ := H
  replace H : (some t148) = some r := H
  have A2 := Aside0.mk A20
  clear A20
  obtain rfl := Option.some.inj H
  go_enter Tryd.func7, Tryd.ntmps7
  go_wp2_with (first | ((with_reducible refine gate_dst (N := 6) rfl ?_); refine box_event ?hg (N := 6) ?hd (cs := #[.slice A0 l0.length c0, .int .i64 0, .int .u64 0]) (t := 39) ?hr ?_; (case hd => rfl); (case hg => rfl); (case hr => first | (go_simp; done) | (go_simp; rfl)); intro gb147 hg w3 hbox hb; have n0_ := Aside0.mk (below_step (by repeat (first | (with_reducible first | exact HB.out | apply below_alloc | apply pw_below_drewN | apply below_drew1) | exact HB.out)) hb); have n1_ := Aside0.mk ((show IsS39 w w3 gb147 l0 0 0 from ⟨_, _, hbox, (by rw [hg]; exact (below_size (by repeat (first | (with_reducible first | exact HB.out | apply below_alloc | apply pw_below_drewN | apply below_drew1) | exact HB.out)))), HR0.out⟩)); clear HB; have HB := n0_; have HI147 := n1_; clear n0_ n1_; clear hb hbox hg) | ((with_reducible refine gate_callee (f := 19) rfl ?_); refine goesL_ (some 8) rfl rfl Tryd.func19 (by kernel_rfl) rfl #[.pointer (some ⟨gb147, 0, none⟩), .int .i64 60] rfl (by (try simp only [List.map_toArray, List.map_cons, List.map_nil]); first | done | rfl | (simp only [List.length_drop, List.length_take]; rfl)) ?_; (with_reducible refine (spec_l1Cur_anyList.calls k gb147 l0 0 0 60 t148 t151 t152 w _ ?side1 ?side2 A2.out).mono ?_); (case side1 => repeat (first | (with_reducible first | exact HI147.out | apply IsS39.alloc | apply IsS39.drewN | apply IsS39.drew | apply IsS39.set_1 | apply IsS39.set_2) | exact HI147.out)); (case side2 => repeat (first | (with_reducible first | exact HB.out | apply below_alloc | apply pw_below_drewN | apply below_drew1 | refine below_set ?_ (IsS39.ge HI147.out)) | exact HB.out)); rintro e w4 ⟨v149, rfl, ho0, hi, hb, hk⟩; refine ⟨_, rfl, ?_⟩; have n0_ := Aside0.mk (Kd.R_lower ho0 (below_size (by repeat (first | (with_reducible first | exact HB.out | apply below_alloc | apply pw_below_drewN | apply below_drew1 | refine below_set ?_ (IsS39.ge HI147.out)) | exact HB.out)))); have n1_ := Aside0.mk (hb); have n2_ := Aside0.mk (hi); clear HB; clear HI147; have HO150 := n0_; have HB := n1_; have HI147 := n2_; clear n0_ n1_ n2_; (try clear hb); (try clear hb2); (try clear hk); (try clear hi); (try clear ho0)))
  go_ret
  exact ⟨_, by first | rfl | (simp [errW_none, errW_some] <;> rfl) | (simp [*, errW_none, errW_some] <;> rfl), by (with_reducible repeat (first | apply Kd.R_alloc | apply Kd.R_drewN | apply Kd.R_drew)); exact HO150.out, by repeat (first | (with_reducible first | exact HB.out | apply below_alloc | apply pw_below_drewN | apply below_drew1 | refine below_set ?_ (IsS39.ge HI147.out)) | exact HB.out)⟩

end Go.Proofs.YtimkfjekbimmhaaDoor.A

/-
  DERIVED: THE SHELF's CONTRACTS AT THIS DUMP, IN PLAIN WORDS (tools/lay-plain.mjs out of 'YtimkfjekbimmhaaDoorShelfT.lean', which tools/lay-shelf.mjs wrote): THE SAME DECLARATIONS UNDER THE SAME NAMES: 'import', 'namespace', 'open', 'def', 'theorem' AND NOTHING ELSE: no command of the shelf's: FOR A HAND-IN. Each laying: the table of numbers ('.._ren') and one theorem, a field a fact of the dump's own or the kernel's comparison; each contract: ONE APPLICATION.
-/
namespace Go.Proofs
open Go.Shelf
def Tryd.itoaL_ren : Go.Shelf.Ren := ⟨fun | 171 => 35 | 243 => 44 | 246 => 56 | 283 => 66 | 284 => 67 | 285 => 68 | 286 => 69 | 129 => 80 | 317 => 79 | 318 => 81 | 319 => 82 | 320 => 83 | 337 => 86 | 338 => 87 | n => n, fun | 3 => 3 | 9 => 9 | 2 => 2 | 4 => 4 | 171 => 87 | 0 => 0 | 53 => 37 | 37 => 22 | 5 => 5 | 173 => 90 | 212 => 100 | 51 => 101 | 20 => 20 | 213 => 102 | 46 => 75 | 232 => 111 | 233 => 112 | n => n, fun | 17 => 3 | 18 => 6 | 19 => 7 | n => n⟩
theorem Tryd.itoaL : Go.Proofs.Lays.n171 Tryd.prog Tryd.itoaL_ren := {
  mixed := by kernel_rfl
  f129 := Tryd.func80.trans (congrArg some (by kernel_rfl))
  f171 := Tryd.func35.trans (congrArg some (by kernel_rfl))
  f243 := Tryd.func44.trans (congrArg some (by kernel_rfl))
  f246 := Tryd.func56.trans (congrArg some (by kernel_rfl))
  f283 := Tryd.func66.trans (congrArg some (by kernel_rfl))
  f284 := Tryd.func67.trans (congrArg some (by kernel_rfl))
  f285 := Tryd.func68.trans (congrArg some (by kernel_rfl))
  f286 := Tryd.func69.trans (congrArg some (by kernel_rfl))
  f317 := Tryd.func79.trans (congrArg some (by kernel_rfl))
  f318 := Tryd.func81.trans (congrArg some (by kernel_rfl))
  f319 := Tryd.func82.trans (congrArg some (by kernel_rfl))
  f320 := Tryd.func83.trans (congrArg some (by kernel_rfl))
  f337 := Tryd.func86.trans (congrArg some (by kernel_rfl))
  f338 := Tryd.func87.trans (congrArg some (by kernel_rfl))
  t0 := Tryd.underlying0
  a0 := Tryd.isAgg0
  z0 := Tryd.sizeOf0
  v0 := Tryd.zeroValue0
  t2 := Tryd.underlying2
  a2 := Tryd.isAgg2
  z2 := Tryd.sizeOf2
  v2 := Tryd.zeroValue2
  t3 := Tryd.underlying3
  a3 := Tryd.isAgg3
  z3 := Tryd.sizeOf3
  v3 := Tryd.zeroValue3
  t4 := Tryd.underlying4
  a4 := Tryd.isAgg4
  z4 := Tryd.sizeOf4
  v4 := Tryd.zeroValue4
  t5 := Tryd.underlying5
  a5 := Tryd.isAgg5
  z5 := Tryd.sizeOf5
  v5 := Tryd.zeroValue5
  t9 := Tryd.underlying9
  a9 := Tryd.isAgg9
  z9 := Tryd.sizeOf9
  v9 := Tryd.zeroValue9
  t20 := Tryd.underlying20
  a20 := Tryd.isAgg20
  z20 := Tryd.sizeOf20
  v20 := Tryd.zeroValue20
  t37 := Tryd.underlying22
  a37 := Tryd.isAgg22
  z37 := Tryd.sizeOf22
  v37 := Tryd.zeroValue22
  t46 := Tryd.underlying75
  a46 := Tryd.isAgg75
  z46 := Tryd.sizeOf75
  v46 := Tryd.zeroValue75
  t51 := Tryd.underlying101
  a51 := Tryd.isAgg101
  z51 := Tryd.sizeOf101
  v51 := Tryd.zeroValue101
  t53 := Tryd.underlying37
  a53 := Tryd.isAgg37
  z53 := Tryd.sizeOf37
  v53 := Tryd.zeroValue37
  t171 := Tryd.underlying87
  a171 := Tryd.isAgg87
  z171 := Tryd.sizeOf87
  v171 := Tryd.zeroValue87
  t173 := Tryd.underlying90
  a173 := Tryd.isAgg90
  z173 := Tryd.sizeOf90
  v173 := Tryd.zeroValue90
  t212 := Tryd.underlying100
  a212 := Tryd.isAgg100
  z212 := Tryd.sizeOf100
  v212 := Tryd.zeroValue100
  t213 := Tryd.underlying102
  a213 := Tryd.isAgg102
  z213 := Tryd.sizeOf102
  t232 := Tryd.underlying111
  a232 := Tryd.isAgg111
  z232 := Tryd.sizeOf111
  v232 := Tryd.zeroValue111
  t233 := Tryd.underlying112
  a233 := Tryd.isAgg112
  z233 := Tryd.sizeOf112
  v233 := Tryd.zeroValue112
  g17 := by kernel_rfl
  g18 := by kernel_rfl
  g19 := by kernel_rfl }
def Tryd.joinL_ren : Go.Shelf.Ren := ⟨fun | 156 => 36 | 165 => 45 | 166 => 46 | 169 => 47 | 240 => 57 | 241 => 58 | 276 => 70 | 277 => 71 | n => n, fun | 31 => 44 | 9 => 9 | 3 => 3 | 4 => 4 | 0 => 0 | 20 => 20 | 72 => 64 | 76 => 48 | 70 => 62 | 37 => 22 | 75 => 47 | 127 => 77 | 164 => 92 | 5 => 5 | 80 => 66 | n => n, fun | n => n⟩
theorem Tryd.joinL : Go.Proofs.Lays.n156 Tryd.prog Tryd.joinL_ren := {
  mixed := by kernel_rfl
  f156 := Tryd.func36.trans (congrArg some (by kernel_rfl))
  f165 := Tryd.func45.trans (congrArg some (by kernel_rfl))
  f166 := Tryd.func46.trans (congrArg some (by kernel_rfl))
  f169 := Tryd.func47.trans (congrArg some (by kernel_rfl))
  f240 := Tryd.func57.trans (congrArg some (by kernel_rfl))
  f241 := Tryd.func58.trans (congrArg some (by kernel_rfl))
  f276 := Tryd.func70.trans (congrArg some (by kernel_rfl))
  f277 := Tryd.func71.trans (congrArg some (by kernel_rfl))
  t0 := Tryd.underlying0
  a0 := Tryd.isAgg0
  z0 := Tryd.sizeOf0
  v0 := Tryd.zeroValue0
  t3 := Tryd.underlying3
  a3 := Tryd.isAgg3
  z3 := Tryd.sizeOf3
  v3 := Tryd.zeroValue3
  t4 := Tryd.underlying4
  a4 := Tryd.isAgg4
  z4 := Tryd.sizeOf4
  v4 := Tryd.zeroValue4
  t9 := Tryd.underlying9
  a9 := Tryd.isAgg9
  z9 := Tryd.sizeOf9
  v9 := Tryd.zeroValue9
  t20 := Tryd.underlying20
  a20 := Tryd.isAgg20
  z20 := Tryd.sizeOf20
  v20 := Tryd.zeroValue20
  t31 := Tryd.underlying44
  a31 := Tryd.isAgg44
  z31 := Tryd.sizeOf44
  v31 := Tryd.zeroValue44
  t37 := Tryd.underlying22
  a37 := Tryd.isAgg22
  z37 := Tryd.sizeOf22
  v37 := Tryd.zeroValue22
  t70 := Tryd.underlying62
  a70 := Tryd.isAgg62
  z70 := Tryd.sizeOf62
  v70 := Tryd.zeroValue62
  t72 := Tryd.underlying64
  a72 := Tryd.isAgg64
  z72 := Tryd.sizeOf64
  v72 := Tryd.zeroValue64
  t75 := Tryd.underlying47
  a75 := Tryd.isAgg47
  z75 := Tryd.sizeOf47
  v75 := Tryd.zeroValue47
  t76 := Tryd.underlying48
  a76 := Tryd.isAgg48
  z76 := Tryd.sizeOf48
  v76 := Tryd.zeroValue48
  t127 := Tryd.underlying77
  a127 := Tryd.isAgg77
  z127 := Tryd.sizeOf77
  v127 := Tryd.zeroValue77
  t164 := Tryd.underlying92
  a164 := Tryd.isAgg92
  z164 := Tryd.sizeOf92
  v164 := Tryd.zeroValue92 }
theorem Tryd.joinX : Builder.Extra Tryd.prog Tryd.joinL_ren := {
  sizeBuilder := by kernel_rfl
  liesBuilder := by kernel_rfl
  t5 := Tryd.underlying5
  a5 := Tryd.isAgg5
  z5 := Tryd.sizeOf5
  v5 := Tryd.zeroValue5
  infoByte := by kernel_rfl
  cellsByte := by kernel_rfl
  sizeByte := by kernel_rfl
  neB5 := by decide }
end Go.Proofs

/- strconv.Itoa at numbers below a hundred, strings.Join (the shelf's contracts, laid). -/
namespace Go.Proofs.YtimkfjekbimmhaaDoor.A
open Go.RowKit Go.Proofs.YtimkfjekbimmhaaDoorW.PrintWords Go.Proofs.YtimkfjekbimmhaaDoorW.PrintLast Go.Proofs.YtimkfjekbimmhaaDoorW.PrintMore
attribute [local go_sem] max2_int min2_int max_two min_two max_three min_three max_four min_four
set_option linter.unusedVariables false
set_option linter.unusedSimpArgs false

open Go.Lib
def strconv_Itoa_35.f (a0 : Int) : Option ByteArray := if 0 ≤ a0 ∧ a0 < 100 then some ⟨(Go.Lib.decDigits a0.toNat).toArray⟩ else none
theorem strconv_Itoa_35.calls (a0 : Int) (r : ByteArray) (w : World) (h : strconv_Itoa_35.f a0 = some r) :
    Calls Tryd.prog 35 #[.int .i64 a0] w fun e w' => e = .returned (.string r) ∧ Below w.heap.size w w' := by
  unfold strconv_Itoa_35.f at h
  split at h
  · next hb =>
    have hr := Option.some.inj h
    obtain ⟨i, rfl⟩ := Int.eq_ofNat_of_zero_le hb.1
    have hc := Go.Proofs.Any.strconv_Itoa_small Tryd.itoaL i (by omega) w
    change Calls Tryd.prog 35 _ _ _ at hc
    refine hc.mono ?_
    rintro e w' ⟨rfl, rfl⟩
    refine ⟨?_, Below.refl _ _⟩
    rw [← hr, Int.toNat_natCast]
  · cases h
end Go.Proofs.YtimkfjekbimmhaaDoor.A

/- strings.Join (the shelf's contract, laid). -/
namespace Go.Proofs.YtimkfjekbimmhaaDoor.A
open Go.RowKit Go.Proofs.YtimkfjekbimmhaaDoorW.PrintWords Go.Proofs.YtimkfjekbimmhaaDoorW.PrintLast Go.Proofs.YtimkfjekbimmhaaDoorW.PrintMore
attribute [local go_sem] max2_int min2_int max_two min_two max_three min_three max_four min_four
set_option linter.unusedVariables false
set_option linter.unusedSimpArgs false

open Go.Lib
theorem own_spot {w : World} {base : Nat} {e : TypeId} {size n m : Nat} {A : Option Addr} {c : Nat} {xs : List Value} (h : w.ownsRow base e size (.slice A n c) m xs) : ∀ ad, A = some ad → ad.spot = none := by
  rintro ad rfl
  rcases h.2 with ⟨h2, _⟩ | ⟨g, cap, cur, h2, _⟩
  · cases h2
  · cases h2
    rfl
theorem spotR {α : Type} {d : Kd α} {e : Nat} {W : World} {base : Nat} {ok : Nat → Prop} {A : Option Addr} {n c : Nat} {xs : List α} (h : Aside0 (Kd.R d e W base ok (.slice A n c) xs)) : ∀ ad, A = some ad → ad.spot = none := by
  obtain ⟨_, inner, ho, _⟩ := h.out
  exact own_spot ho
def joinL (l0 : List ByteArray) (a1 : ByteArray) : List UInt8 := Go.Lib.join (l0.map (·.data.toList)) a1.data.toList
def strings_Join.f (l0 : List ByteArray) (a1 : ByteArray) : Option ByteArray := if l0.length ≤ 140737488355328 ∧ (joinL l0 a1).length ≤ 140737488355328 then some ⟨(joinL l0 a1).toArray⟩ else none
theorem strings_Join.calls (A0 : Option Addr) (c0 : Nat) (l0 : List ByteArray) (a1 : ByteArray) (r : ByteArray) (w : World) (hr0 : Kd.C Kd.string w A0 l0.length l0) (hc0 : l0.length ≤ c0) (h : strings_Join.f l0 a1 = some r) (hs : ∀ ad, A0 = some ad → ad.spot = none := by exact spotR (by assumption)) :
    Calls Tryd.prog 36 #[.slice A0 l0.length c0, .string a1] w fun e w' => e = .returned (.string r) ∧ Below w.heap.size w w' := by
  unfold strings_Join.f at h
  split at h
  · next hb =>
    have hr := Option.some.inj h
    have hn := (Kd.reads_of_C (d := ByteArray.empty) (h1 := fun _ => rfl) hr0).2.2
    cases l0 with
    | nil =>
      have hc := Go.Proofs.Any.strings_Join_none Tryd.joinL Tryd.joinX A0 c0 a1 w
      change Calls Tryd.prog 36 _ _ _ at hc
      refine hc.mono ?_
      rintro e w' ⟨rfl, rfl⟩
      refine ⟨?_, Below.refl _ _⟩
      rw [← hr]
      rfl
    | cons x t =>
      obtain ⟨ad, e, hcell⟩ := hn (by simp)
      subst e
      have h0 := hcell 0 (by simp)
      have hsp := hs _ rfl
      obtain ⟨blk, off, spot⟩ := ad
      simp only at hsp
      subst hsp
      have hat : ∀ j, (⟨blk, off, none⟩ : Addr).add j = ⟨blk, off + j, none⟩ := fun j => by
        unfold Addr.add
        split
        · next e => subst e; rfl
        · rfl
      have hc := Go.Proofs.Any.strings_Join Tryd.joinL Tryd.joinX blk off c0 (x :: t) a1 w (fun j y hj => ?_) ?_ hb.1 hc0 hb.2
      · change Calls Tryd.prog 36 _ _ _ at hc
        refine hc.mono ?_
        rintro e w' ⟨rfl, hw⟩
        refine ⟨?_, hw⟩
        rw [← hr]
        rfl
      · have hjl := (List.getElem?_eq_some_iff.1 hj).1
        have := hcell j hjl
        rw [hat] at this
        rw [this, List.getD_eq_getElem?_getD, hj]
        rfl
      · exact World.block_lt_of_cell? w _ h0
  · cases h
end Go.Proofs.YtimkfjekbimmhaaDoor.A

-- made by a program of this repo (wip/pp.py) through the kit's printer
namespace Go.Proofs.YtimkfjekbimmhaaDoor.A
open Go.RowKit Go.Proofs.YtimkfjekbimmhaaDoorW.PrintWords Go.Proofs.YtimkfjekbimmhaaDoorW.PrintLast Go.Proofs.YtimkfjekbimmhaaDoorW.PrintMore
attribute [local go_sem] max2_int min2_int max_two min_two max_three min_three max_four min_four
set_option linter.unusedVariables false
set_option linter.unusedSimpArgs false

/-! ### impl_listText: function 20 -/
def impl_listText.l0 : Nat → List ByteArray → List Int → Int → Int → Option (ByteArray)
  | 0, _, _, _, _ => none
  | k + 1, x3, x7, x8, x9 => if x9 < x8 then (if 0 ≤ x9 then (if x9 < (x7.length : Int) then ((strconv_Itoa_35.f (rd x7 x9)).bind fun t180 => (if x3.length < 8796093022208 then (impl_listText.l0 k (x3 ++ [t180]) x7 x8 (wrap64 (x9 + 1))) else (none))) else (none)) else (none)) else ((strings_Join.f x3 (⟨#[32]⟩ : ByteArray)).bind fun t184 => (some t184))
def impl_listText.f (k : Nat) (l0 : List Int) : Option (ByteArray) := impl_listText.l0 k (([] : List ByteArray)) l0 (l0.length : Int) 0
set_option maxHeartbeats 8000000 in
set_option maxRecDepth 100000 in
theorem impl_listText.calls (k : Nat) (A0 : Option Addr) (c0 : Nat) (l0 : List Int) (r : ByteArray) (w : World) (hr0 : Kd.C (Kd.int .i64) w A0 l0.length l0) (hc0 : l0.length ≤ c0) (h : impl_listText.f k l0 = some r) :
    Calls Tryd.prog 20 #[.slice A0 l0.length c0] w fun e w' => e = .returned (.string r) ∧ Below w.heap.size w w' := by
  have HR0 := Aside0.mk hr0
  have HC0 := Aside0.mk hc0
  clear hr0 hc0
  have HB := Aside0.mk (Below.refl w.heap.size w)
  have H : (impl_listText.l0 k (([] : List ByteArray)) l0 (l0.length : Int) 0) = some r := h
  clear h
  obtain ⟨y176, hy176⟩ : ∃ y_ : List ByteArray, y_ = (([] : List ByteArray)) := ⟨_, rfl⟩
  replace H : (impl_listText.l0 k y176 l0 (l0.length : Int) 0) = some r := by first | (rw [hy176]; with_reducible exact H) | (have H2_ := (Option.bind_some _ _).symm.trans H; rw [hy176]; with_reducible exact H2_) | (have H2_ := (Option.bind_some _ _).symm.trans H; with_reducible exact H2_) | with_reducible exact H | (rw [hy176]; exact H) | exact H
  have Ny176 := Aside0.mk hy176
  clear hy176
  have H' := Aside0.mk H
  clear H
  go_enter Tryd.func20, Tryd.ntmps20
  go_wp2_with (first | ((with_reducible refine gate_dst (N := 6) rfl ?_); refine Kd.R_lit Kd.string _ 9 ?hg (N := 6) ?hd (xs := ([] : List ByteArray)) (inner := []) (ok := fun _ => True) (okp := fun _ => True) ?hr ?hp (fun _ hk => hk) trivial (Below.refl _ _) (Nat.le_refl _) (by simp) ?_; (case hd => rfl); (case hg => rfl); (case hr => first | (go_simp; done) | (go_simp; rfl)); (case hp => exact (Reps.none _ _)); intro v177 w2 ho3 hb hg_ hnew_; clear hg_ hnew_; (first | rw [← Ny176.out] at ho3 | (simp only [Int.reduceToNat] at ho3; rw [← Ny176.out] at ho3)); have n0_ := Aside0.mk (Kd.R_lower ho3 (below_size (by repeat (first | (with_reducible first | exact HB.out | apply below_alloc | apply pw_below_drewN | apply below_drew1) | exact HB.out)))); have n1_ := Aside0.mk (below_step (by repeat (first | (with_reducible first | exact HB.out | apply below_alloc | apply pw_below_drewN | apply below_drew1) | exact HB.out)) hb); clear HB; have HO178 := n0_; have HB := n1_; clear n0_ n1_; clear hb ho3))
  go_loopg [3, 9] k (fun kq v3 v9 w' => ∃ (x3_1 : List ByteArray) (x9_1 : Int), v9 = .int .i64 x9_1 ∧ Aside0 (impl_listText.l0 kq x3_1 l0 (l0.length : Int) x9_1 = some r) ∧ Aside0 (kq ≤ k) ∧ Aside0 (Kd.R Kd.string 9 w' w.heap.size (fun _ => True) v3 x3_1) ∧ Aside0 (Below w.heap.size w w'))
  case atStart => exact ⟨(y176), (0), (by first | rfl | (simp; done) | (simp [*]; done)), H', ⟨Nat.le_refl _⟩, ⟨by (with_reducible repeat (first | apply Kd.R_alloc | apply Kd.R_drewN | apply Kd.R_drew)); exact HO178.out⟩, ⟨by repeat (first | (with_reducible first | exact HB.out | apply below_alloc | apply pw_below_drewN | apply below_drew1) | exact HB.out)⟩⟩
  case round =>
    clear H'
    try clear c2
    try clear p2
    obtain ⟨x3_1, x9_1, rfl, HA, HK1, HO_3, HB⟩ := hrel
    cases gk with
    | zero => exact absurd HA.out (by simp [impl_listText.l0])
    | succ k1 =>
      have H := HA.out
      clear HA
      simp only [impl_listText.l0] at H
      by_cases c4 : x9_1 < (l0.length : Int)
      · rw [if_pos c4] at H
        have c4b0 : decide (x9_1 < (l0.length : Int)) = true := decide_eq_true c4
        clear c4
        by_cases c5 : 0 ≤ x9_1
        · rw [if_pos c5] at H
          have c5b0 : decide (0 ≤ x9_1) = true := decide_eq_true c5
          clear c5
          by_cases c6 : x9_1 < (l0.length : Int)
          · rw [if_pos c6] at H
            have c6b0 : decide (x9_1 < (l0.length : Int)) = true := decide_eq_true c6
            clear c6
            replace H := Option.bind_eq_some_iff.mp H
            obtain ⟨t180, A70, H⟩ := H
            replace H : (if x3_1.length < 8796093022208 then (impl_listText.l0 k1 (x3_1 ++ [t180]) l0 (l0.length : Int) (wrap64 (x9_1 + 1))) else (none)) = some r := H
            have A7 := Aside0.mk A70
            clear A70
            by_cases c8 : x3_1.length < 8796093022208
            · rw [if_pos c8] at H
              have LMc8 := Aside0.mk c8
              clear c8
              obtain ⟨y181, hy181⟩ : ∃ y_ : List ByteArray, y_ = (x3_1 ++ [t180]) := ⟨_, rfl⟩
              replace H : (impl_listText.l0 k1 y181 l0 (l0.length : Int) (wrap64 (x9_1 + 1))) = some r := by first | (rw [hy181]; with_reducible exact H) | (have H2_ := (Option.bind_some _ _).symm.trans H; rw [hy181]; with_reducible exact H2_) | (have H2_ := (Option.bind_some _ _).symm.trans H; with_reducible exact H2_) | with_reducible exact H | (rw [hy181]; exact H) | exact H
              have Ny181 := Aside0.mk hy181
              clear hy181
              have H' := Aside0.mk H
              clear H
              have p179 : 0 ≤ (x9_1 : Int) := of_decide_eq_true (by first | (with_reducible assumption) | assumption)
              have q179 : x9_1 < (l0.length : Int) := of_decide_eq_true (by first | (with_reducible assumption) | assumption)
              obtain ⟨ad179, e179, hx179_0⟩ := Kd.at_int HR0.out x9_1 p179 q179
              cases e179
              replace hx179_0 := (HB.out.cell (World.block_lt_of_cell? w _ hx179_0)).trans hx179_0
              replace p179 := eq_true p179
              replace q179 := eq_true q179
              go_wp2_with (first | ((with_reducible refine gate_callee (f := 35) rfl ?_); refine goesL_ (some 15) rfl rfl Tryd.func35 (by kernel_rfl) rfl #[.int .i64 (rd l0 x9_1)] rfl (by (try simp only [List.map_toArray, List.map_cons, List.map_nil]); first | done | rfl | (simp only [List.length_drop, List.length_take]; rfl)) ?_; (with_reducible refine (strconv_Itoa_35.calls (rd l0 x9_1) t180 _ A7.out).mono ?_); rintro e w9 ⟨rfl, hb⟩; refine ⟨_, rfl, ?_⟩; have n0_ := Aside0.mk (Kd.R_below (by (with_reducible repeat (first | apply Kd.R_alloc | apply Kd.R_drewN | apply Kd.R_drew)); exact HO_3.out) hb); have n1_ := Aside0.mk (below_step (by repeat (first | (with_reducible first | exact HB.out | apply below_alloc | apply pw_below_drewN | apply below_drew1) | exact HB.out)) hb); clear HO_3; clear HB; have HO_3 := n0_; have HB := n1_; clear n0_ n1_; (try clear hb); (try clear hb2); (try clear hk); (try clear hi)) | ((with_reducible refine gate_builtin (b := .append) (xs := #[.tmp 13, .tmp 16]) rfl ?_); at_builtin; refine Kd.R_append Kd.string (w0 := w) w.heap.size rfl (.tmp 13) (.tmp 16) 44 9 (.string ⟨#[]⟩) 16 rfl Tryd.underlying44 info9 rfl (by decide) (by omega) u3 x3_1 t180 [.string t180] (fun _ => True) (fun _ => False) rfl rfl ?aP (fun _ hk => hk.elim) ?aF ?aO ?aB ?aS ?aL ?_; (case aP => exact rfl); (case aB => exact (by repeat (first | (with_reducible first | exact HB.out | apply below_alloc | apply pw_below_drewN | apply below_drew1) | exact HB.out))); (case aF => exact (fun _ _ => trivial)); (case aO => exact (by (with_reducible repeat (first | apply Kd.R_alloc | apply Kd.R_drewN | apply Kd.R_drew)); exact HO_3.out)); (case aS => exact (below_size (by repeat (first | (with_reducible first | exact HB.out | apply below_alloc | apply pw_below_drewN | apply below_drew1) | exact HB.out)))); (case aL => have := LMc8.out; omega); intro v182 w10 ho hb hg hat; rw [← Ny181.out] at ho; have n0_ := Aside0.mk (hb); have n1_ := Aside0.mk (ho); clear HB; clear HO_3; have HB := n0_; have HO183 := n1_; clear n0_ n1_; clear ho hb hg hat))
              go_roundg k1
              case measure => have := HK1.out; omega
              case rel => exact ⟨(y181), (wrap64 (x9_1 + 1)), (by first | rfl | (simp; done) | (simp [*]; done)), H', ⟨by have := HK1.out; omega⟩, ⟨by (with_reducible repeat (first | apply Kd.R_alloc | apply Kd.R_drewN | apply Kd.R_drew)); exact HO183.out⟩, ⟨by repeat (first | (with_reducible first | exact HB.out | apply below_alloc | apply pw_below_drewN | apply below_drew1) | exact HB.out)⟩⟩
            · rw [if_neg c8] at H
              exact absurd H (by simp)
          · rw [if_neg c6] at H
            exact absurd H (by simp)
        · rw [if_neg c5] at H
          exact absurd H (by simp)
      · rw [if_neg c4] at H
        have c4b0 : decide (x9_1 < (l0.length : Int)) = false := decide_eq_false c4
        clear c4
        replace H := Option.bind_eq_some_iff.mp H
        obtain ⟨t184, A110, H⟩ := H
        replace H : (some t184) = some r := H
        have A11 := Aside0.mk A110
        clear A110
        obtain rfl := Option.some.inj H
        obtain ⟨Ao12, co12, eo12⟩ := Kd.R_slice HO_3.out
        subst eo12
        go_wp2_with (first | ((with_reducible refine gate_callee (f := 36) rfl ?_); refine goesL_ (some 20) rfl rfl Tryd.func36 (by kernel_rfl) rfl #[.slice Ao12 x3_1.length co12, .string (⟨#[32]⟩ : ByteArray)] rfl (by (try simp only [List.map_toArray, List.map_cons, List.map_nil]); first | done | rfl | (simp only [List.length_drop, List.length_take]; rfl)) ?_; (with_reducible refine (strings_Join.calls _ _ x3_1 (⟨#[32]⟩ : ByteArray) t184 _ ?side1 ?side2 A11.out).mono ?_); (case side1 => repeat (first | exact (Kd.R_reads' HO_3.out).2.2 | (with_reducible refine Kd.C_alloc ?_ _) | (with_reducible refine Kd.C_drewN ?_ _) | (with_reducible refine Kd.C_drew ?_))); (case side2 => exact (Kd.R_reads' HO_3.out).2.1); rintro e w13 ⟨rfl, hb⟩; refine ⟨_, rfl, ?_⟩; have n0_ := Aside0.mk (Kd.R_below (by (with_reducible repeat (first | apply Kd.R_alloc | apply Kd.R_drewN | apply Kd.R_drew)); exact HO_3.out) hb); have n1_ := Aside0.mk (below_step (by repeat (first | (with_reducible first | exact HB.out | apply below_alloc | apply pw_below_drewN | apply below_drew1) | exact HB.out)) hb); clear HO_3; clear HB; have HO_3 := n0_; have HB := n1_; clear n0_ n1_; (try clear hb); (try clear hb2); (try clear hk); (try clear hi)))
        go_ret
        exact ⟨by first | rfl | (simp [errW_none, errW_some] <;> rfl) | (simp [*, errW_none, errW_some] <;> rfl), by repeat (first | (with_reducible first | exact HB.out | apply below_alloc | apply pw_below_drewN | apply below_drew1) | exact HB.out)⟩

end Go.Proofs.YtimkfjekbimmhaaDoor.A

-- made by a program of this repo (wip/pp.py) through the kit's printer
namespace Go.Proofs.YtimkfjekbimmhaaDoor.A
open Go.RowKit Go.Proofs.YtimkfjekbimmhaaDoorW.PrintWords Go.Proofs.YtimkfjekbimmhaaDoorW.PrintLast Go.Proofs.YtimkfjekbimmhaaDoorW.PrintMore
attribute [local go_sem] max2_int min2_int max_two min_two max_three min_three max_four min_four
set_option linter.unusedVariables false
set_option linter.unusedSimpArgs false

/-! ### impl_ListText: function 8 -/
def impl_ListText.f (k : Nat) (l0 : List Int) : Option (ByteArray × Bool) := (impl_IsList.f k l0).bind fun t185 => (if t185 = true then ((impl_listText.f k l0).bind fun t186 => (some (t186, true))) else (some ((⟨#[]⟩ : ByteArray), false)))
set_option maxHeartbeats 8000000 in
set_option maxRecDepth 100000 in
theorem impl_ListText.calls (k : Nat) (A0 : Option Addr) (c0 : Nat) (l0 : List Int) (r1 : ByteArray) (r2 : Bool) (w : World) (hr0 : Kd.C (Kd.int .i64) w A0 l0.length l0) (hc0 : l0.length ≤ c0) (h : impl_ListText.f k l0 = some (r1, r2)) :
    Calls Tryd.prog 8 #[.slice A0 l0.length c0] w fun e w' => e = .returned (.tuple #[.string r1, .bool r2]) ∧ Below w.heap.size w w' := by
  have HR0 := Aside0.mk hr0
  have HC0 := Aside0.mk hc0
  clear hr0 hc0
  have HB := Aside0.mk (Below.refl w.heap.size w)
  have H : ((impl_IsList.f k l0).bind fun t185 => (if t185 = true then ((impl_listText.f k l0).bind fun t186 => (some (t186, true))) else (some ((⟨#[]⟩ : ByteArray), false)))) = some (r1, r2) := h
  clear h
  replace H := Option.bind_eq_some_iff.mp H
  obtain ⟨t185, A20, H⟩ := H
  replace H : (if t185 = true then ((impl_listText.f k l0).bind fun t186 => (some (t186, true))) else (some ((⟨#[]⟩ : ByteArray), false))) = some (r1, r2) := H
  have A2 := Aside0.mk A20
  clear A20
  by_cases c3 : t185 = true
  · subst c3
    have H1 : ((impl_listText.f k l0).bind fun t186 => (some (t186, true))) = some (r1, r2) := by rw [if_pos rfl] at H; exact H
    clear H
    have H := H1
    clear H1
    replace H := Option.bind_eq_some_iff.mp H
    obtain ⟨t186, A40, H⟩ := H
    replace H : (some (t186, true)) = some (r1, r2) := H
    have A4 := Aside0.mk A40
    clear A40
    simp only [Option.some.injEq, Prod.mk.injEq] at H
    obtain ⟨rfl, rfl⟩ := H
    go_enter Tryd.func8, Tryd.ntmps8
    go_wp2_with (first | ((with_reducible refine gate_callee (f := 10) rfl ?_); refine goesL_ (some 5) rfl rfl Tryd.func10 (by kernel_rfl) rfl #[.slice A0 l0.length c0] rfl (by (try simp only [List.map_toArray, List.map_cons, List.map_nil]); first | done | rfl | (simp only [List.length_drop, List.length_take]; rfl)) ?_; (with_reducible refine (impl_IsList.calls k _ _ l0 true _ ?side1 ?side2 A2.out).mono ?_); (case side1 => repeat (first | exact HR0.out | (with_reducible refine Kd.C_alloc ?_ _) | (with_reducible refine Kd.C_drewN ?_ _) | (with_reducible refine Kd.C_drew ?_))); (case side2 => exact HC0.out); rintro e w' ⟨rfl, ⟨nd, rfl⟩⟩; refine ⟨_, rfl, ?_⟩) | ((with_reducible refine gate_callee (f := 20) rfl ?_); refine goesL_ (some 8) rfl rfl Tryd.func20 (by kernel_rfl) rfl #[.slice A0 l0.length c0] rfl (by (try simp only [List.map_toArray, List.map_cons, List.map_nil]); first | done | rfl | (simp only [List.length_drop, List.length_take]; rfl)) ?_; (with_reducible refine (impl_listText.calls k _ _ l0 t186 _ ?side1 ?side2 A4.out).mono ?_); (case side1 => repeat (first | exact HR0.out | (with_reducible refine Kd.C_alloc ?_ _) | (with_reducible refine Kd.C_drewN ?_ _) | (with_reducible refine Kd.C_drew ?_))); (case side2 => exact HC0.out); rintro e w5 ⟨rfl, hb⟩; refine ⟨_, rfl, ?_⟩; have n0_ := Aside0.mk (below_step (by repeat (first | (with_reducible first | exact HB.out | apply below_alloc | apply pw_below_drewN | apply below_drew1) | exact HB.out)) hb); clear HB; have HB := n0_; clear n0_; (try clear hb); (try clear hb2); (try clear hk); (try clear hi)))
    go_ret2
    exact ⟨by first | rfl | (simp [errW_none, errW_some] <;> rfl) | (simp [*, errW_none, errW_some] <;> rfl), by repeat (first | (with_reducible first | exact HB.out | apply below_alloc | apply pw_below_drewN | apply below_drew1) | exact HB.out)⟩
  · replace c3 := Bool.eq_false_iff.mpr c3
    subst c3
    have H1 : (some ((⟨#[]⟩ : ByteArray), false)) = some (r1, r2) := by rw [if_neg (show ¬ (false = true) by decide)] at H; exact H
    clear H
    have H := H1
    clear H1
    simp only [Option.some.injEq, Prod.mk.injEq] at H
    obtain ⟨rfl, rfl⟩ := H
    go_enter Tryd.func8, Tryd.ntmps8
    go_wp2_with (first | ((with_reducible refine gate_callee (f := 10) rfl ?_); refine goesL_ (some 5) rfl rfl Tryd.func10 (by kernel_rfl) rfl #[.slice A0 l0.length c0] rfl (by (try simp only [List.map_toArray, List.map_cons, List.map_nil]); first | done | rfl | (simp only [List.length_drop, List.length_take]; rfl)) ?_; (with_reducible refine (impl_IsList.calls k _ _ l0 false _ ?side1 ?side2 A2.out).mono ?_); (case side1 => repeat (first | exact HR0.out | (with_reducible refine Kd.C_alloc ?_ _) | (with_reducible refine Kd.C_drewN ?_ _) | (with_reducible refine Kd.C_drew ?_))); (case side2 => exact HC0.out); rintro e w' ⟨rfl, ⟨nd, rfl⟩⟩; refine ⟨_, rfl, ?_⟩))
    go_ret2
    exact ⟨by first | rfl | (simp [errW_none, errW_some] <;> rfl) | (simp [*, errW_none, errW_some] <;> rfl), by repeat (first | (with_reducible first | exact HB.out | apply below_alloc | apply pw_below_drewN | apply below_drew1) | exact HB.out)⟩

end Go.Proofs.YtimkfjekbimmhaaDoor.A

-- made by a program of this repo (wip/pp.py) through the kit's printer
namespace Go.Proofs.YtimkfjekbimmhaaDoor.A
open Go.RowKit Go.Proofs.YtimkfjekbimmhaaDoorW.PrintWords Go.Proofs.YtimkfjekbimmhaaDoorW.PrintLast Go.Proofs.YtimkfjekbimmhaaDoorW.PrintMore
attribute [local go_sem] max2_int min2_int max_two min_two max_three min_three max_four min_four
set_option linter.unusedVariables false
set_option linter.unusedSimpArgs false

/-! ### spec_ListText: function 9 -/
def spec_ListText.f (k : Nat) (l0 : List Int) : Option (ByteArray × Bool) := (spec_liGood.f k l0).bind fun t201 => (if t201 = true then ((spec_liText.f k l0).bind fun t202 => (some (t202, true))) else (some ((⟨#[]⟩ : ByteArray), false)))
set_option maxHeartbeats 8000000 in
set_option maxRecDepth 100000 in
theorem spec_ListText.calls (k : Nat) (A0 : Option Addr) (c0 : Nat) (l0 : List Int) (r1 : ByteArray) (r2 : Bool) (w : World) (hr0 : Kd.C (Kd.int .i64) w A0 l0.length l0) (hc0 : l0.length ≤ c0) (h : spec_ListText.f k l0 = some (r1, r2)) :
    Calls Tryd.prog 9 #[.slice A0 l0.length c0] w fun e w' => e = .returned (.tuple #[.string r1, .bool r2]) ∧ Below w.heap.size w w' := by
  have HR0 := Aside0.mk hr0
  have HC0 := Aside0.mk hc0
  clear hr0 hc0
  have HB := Aside0.mk (Below.refl w.heap.size w)
  have H : ((spec_liGood.f k l0).bind fun t201 => (if t201 = true then ((spec_liText.f k l0).bind fun t202 => (some (t202, true))) else (some ((⟨#[]⟩ : ByteArray), false)))) = some (r1, r2) := h
  clear h
  replace H := Option.bind_eq_some_iff.mp H
  obtain ⟨t201, A20, H⟩ := H
  replace H : (if t201 = true then ((spec_liText.f k l0).bind fun t202 => (some (t202, true))) else (some ((⟨#[]⟩ : ByteArray), false))) = some (r1, r2) := H
  have A2 := Aside0.mk A20
  clear A20
  by_cases c3 : t201 = true
  · subst c3
    have H1 : ((spec_liText.f k l0).bind fun t202 => (some (t202, true))) = some (r1, r2) := by rw [if_pos rfl] at H; exact H
    clear H
    have H := H1
    clear H1
    replace H := Option.bind_eq_some_iff.mp H
    obtain ⟨t202, A40, H⟩ := H
    replace H : (some (t202, true)) = some (r1, r2) := H
    have A4 := Aside0.mk A40
    clear A40
    simp only [Option.some.injEq, Prod.mk.injEq] at H
    obtain ⟨rfl, rfl⟩ := H
    go_enter Tryd.func9, Tryd.ntmps9
    go_wp2_with (first | ((with_reducible refine gate_callee (f := 21) rfl ?_); refine goesL_ (some 5) rfl rfl Tryd.func21 (by kernel_rfl) rfl #[.slice A0 l0.length c0] rfl (by (try simp only [List.map_toArray, List.map_cons, List.map_nil]); first | done | rfl | (simp only [List.length_drop, List.length_take]; rfl)) ?_; (with_reducible refine (spec_liGood.calls k _ _ l0 true _ ?side1 ?side2 A2.out).mono ?_); (case side1 => repeat (first | exact HR0.out | (with_reducible refine Kd.C_alloc ?_ _) | (with_reducible refine Kd.C_drewN ?_ _) | (with_reducible refine Kd.C_drew ?_))); (case side2 => exact HC0.out); rintro e w' ⟨rfl, ⟨nd, rfl⟩⟩; refine ⟨_, rfl, ?_⟩) | ((with_reducible refine gate_callee (f := 22) rfl ?_); refine goesL_ (some 8) rfl rfl Tryd.func22 (by kernel_rfl) rfl #[.slice A0 l0.length c0] rfl (by (try simp only [List.map_toArray, List.map_cons, List.map_nil]); first | done | rfl | (simp only [List.length_drop, List.length_take]; rfl)) ?_; (with_reducible refine (spec_liText.calls k _ _ l0 t202 _ ?side1 ?side2 A4.out).mono ?_); (case side1 => repeat (first | exact HR0.out | (with_reducible refine Kd.C_alloc ?_ _) | (with_reducible refine Kd.C_drewN ?_ _) | (with_reducible refine Kd.C_drew ?_))); (case side2 => exact HC0.out); rintro e w5 ⟨rfl, hb⟩; refine ⟨_, rfl, ?_⟩; have n0_ := Aside0.mk (below_step (by repeat (first | (with_reducible first | exact HB.out | apply below_alloc | apply pw_below_drewN | apply below_drew1) | exact HB.out)) hb); clear HB; have HB := n0_; clear n0_; (try clear hb); (try clear hb2); (try clear hk); (try clear hi)))
    go_ret2
    exact ⟨by first | rfl | (simp [errW_none, errW_some] <;> rfl) | (simp [*, errW_none, errW_some] <;> rfl), by repeat (first | (with_reducible first | exact HB.out | apply below_alloc | apply pw_below_drewN | apply below_drew1) | exact HB.out)⟩
  · replace c3 := Bool.eq_false_iff.mpr c3
    subst c3
    have H1 : (some ((⟨#[]⟩ : ByteArray), false)) = some (r1, r2) := by rw [if_neg (show ¬ (false = true) by decide)] at H; exact H
    clear H
    have H := H1
    clear H1
    simp only [Option.some.injEq, Prod.mk.injEq] at H
    obtain ⟨rfl, rfl⟩ := H
    go_enter Tryd.func9, Tryd.ntmps9
    go_wp2_with (first | ((with_reducible refine gate_callee (f := 21) rfl ?_); refine goesL_ (some 5) rfl rfl Tryd.func21 (by kernel_rfl) rfl #[.slice A0 l0.length c0] rfl (by (try simp only [List.map_toArray, List.map_cons, List.map_nil]); first | done | rfl | (simp only [List.length_drop, List.length_take]; rfl)) ?_; (with_reducible refine (spec_liGood.calls k _ _ l0 false _ ?side1 ?side2 A2.out).mono ?_); (case side1 => repeat (first | exact HR0.out | (with_reducible refine Kd.C_alloc ?_ _) | (with_reducible refine Kd.C_drewN ?_ _) | (with_reducible refine Kd.C_drew ?_))); (case side2 => exact HC0.out); rintro e w' ⟨rfl, ⟨nd, rfl⟩⟩; refine ⟨_, rfl, ?_⟩))
    go_ret2
    exact ⟨by first | rfl | (simp [errW_none, errW_some] <;> rfl) | (simp [*, errW_none, errW_some] <;> rfl), by repeat (first | (with_reducible first | exact HB.out | apply below_alloc | apply pw_below_drewN | apply below_drew1) | exact HB.out)⟩

end Go.Proofs.YtimkfjekbimmhaaDoor.A

/-
  DERIVED: THE SHELF's CONTRACTS AT THIS DUMP, IN PLAIN WORDS (tools/lay-plain.mjs out of 'YtimkfjekbimmhaaDoorShelfS.lean', which tools/lay-shelf.mjs wrote): THE SAME DECLARATIONS UNDER THE SAME NAMES: 'import', 'namespace', 'open', 'def', 'theorem' AND NOTHING ELSE: no command of the shelf's: FOR A HAND-IN. Each laying: the table of numbers ('.._ren') and one theorem, a field a fact of the dump's own or the kernel's comparison; each contract: ONE APPLICATION.
-/
namespace Go.Proofs
open Go.Shelf
def Tryd.splitL_ren : Go.Shelf.Ren := ⟨fun | 147 => 25 | 221 => 40 | 268 => 48 | 138 => 49 | 143 => 50 | 195 => 59 | 197 => 60 | 218 => 61 | 219 => 62 | 260 => 72 | 217 => 73 | 225 => 74 | 224 => 75 | 267 => 76 | 266 => 84 | 314 => 85 | n => n, fun | 9 => 9 | 3 => 3 | 31 => 44 | 4 => 4 | 0 => 0 | 105 => 78 | 21 => 21 | 5 => 5 | 46 => 75 | 119 => 104 | 139 => 107 | 138 => 106 | 146 => 108 | 51 => 101 | n => n, fun | 1 => 2 | 3 => 4 | 4 => 5 | n => n⟩
theorem Tryd.splitL : Go.Proofs.LaysM.n147 Tryd.prog Tryd.splitL_ren := {
  mixed := by kernel_rfl
  f138 := Tryd.func49.trans (congrArg some (by kernel_rfl))
  f143 := Tryd.func50.trans (congrArg some (by kernel_rfl))
  f147 := Tryd.func25.trans (congrArg some (by kernel_rfl))
  f195 := Tryd.func59.trans (congrArg some (by kernel_rfl))
  f197 := Tryd.func60.trans (congrArg some (by kernel_rfl))
  f217 := Tryd.func73.trans (congrArg some (by kernel_rfl))
  f218 := Tryd.func61.trans (congrArg some (by kernel_rfl))
  f219 := Tryd.func62.trans (congrArg some (by kernel_rfl))
  f221 := Tryd.func40.trans (congrArg some (by kernel_rfl))
  f224 := Tryd.func75.trans (congrArg some (by kernel_rfl))
  f225 := Tryd.func74.trans (congrArg some (by kernel_rfl))
  f260 := Tryd.func72.trans (congrArg some (by kernel_rfl))
  f266 := Tryd.func84.trans (congrArg some (by kernel_rfl))
  f267 := Tryd.func76.trans (congrArg some (by kernel_rfl))
  f268 := Tryd.func48.trans (congrArg some (by kernel_rfl))
  f314 := Tryd.func85.trans (congrArg some (by kernel_rfl))
  t0 := Tryd.underlying0
  a0 := Tryd.isAgg0
  z0 := Tryd.sizeOf0
  v0 := Tryd.zeroValue0
  t3 := Tryd.underlying3
  a3 := Tryd.isAgg3
  z3 := Tryd.sizeOf3
  v3 := Tryd.zeroValue3
  t4 := Tryd.underlying4
  a4 := Tryd.isAgg4
  z4 := Tryd.sizeOf4
  v4 := Tryd.zeroValue4
  t5 := Tryd.underlying5
  a5 := Tryd.isAgg5
  z5 := Tryd.sizeOf5
  v5 := Tryd.zeroValue5
  t9 := Tryd.underlying9
  a9 := Tryd.isAgg9
  z9 := Tryd.sizeOf9
  v9 := Tryd.zeroValue9
  t21 := Tryd.underlying21
  a21 := Tryd.isAgg21
  z21 := Tryd.sizeOf21
  v21 := Tryd.zeroValue21
  t31 := Tryd.underlying44
  a31 := Tryd.isAgg44
  z31 := Tryd.sizeOf44
  v31 := Tryd.zeroValue44
  t46 := Tryd.underlying75
  a46 := Tryd.isAgg75
  z46 := Tryd.sizeOf75
  v46 := Tryd.zeroValue75
  t51 := Tryd.underlying101
  a51 := Tryd.isAgg101
  z51 := Tryd.sizeOf101
  v51 := Tryd.zeroValue101
  t105 := Tryd.underlying78
  a105 := Tryd.isAgg78
  z105 := Tryd.sizeOf78
  v105 := Tryd.zeroValue78
  t119 := Tryd.underlying104
  a119 := Tryd.isAgg104
  z119 := Tryd.sizeOf104
  t138 := Tryd.underlying106
  a138 := Tryd.isAgg106
  z138 := Tryd.sizeOf106
  v138 := Tryd.zeroValue106
  t139 := Tryd.underlying107
  a139 := Tryd.isAgg107
  z139 := Tryd.sizeOf107
  v139 := Tryd.zeroValue107
  t146 := Tryd.underlying108
  a146 := Tryd.isAgg108
  z146 := Tryd.sizeOf108
  v146 := Tryd.zeroValue108
  g1 := by kernel_rfl
  g3 := by kernel_rfl
  g4 := by kernel_rfl
  i0 := by kernel_rfl
  i3 := by kernel_rfl
  i4 := by kernel_rfl
  i5 := by kernel_rfl
  i9 := by kernel_rfl
  i21 := by kernel_rfl
  i31 := by kernel_rfl
  i46 := by kernel_rfl
  i51 := by kernel_rfl
  i105 := by kernel_rfl
  i138 := by kernel_rfl
  i139 := by kernel_rfl
  i146 := by kernel_rfl
  m1 := by kernel_rfl
  s1_3 := fun w h => Go.Proofs.cell_of_shapedOpen_int (zero := #[.int .i64 0]) (t := 3) h (of_decide_eq_true (by kernel_rfl)) (by kernel_rfl) rfl (by kernel_rfl) (by kernel_rfl) Tryd.underlying3
  m3 := by kernel_rfl
  m4 := by kernel_rfl }
end Go.Proofs

/-
  DERIVED: THE SHELF's CONTRACTS AT THIS DUMP, IN PLAIN WORDS (tools/lay-plain.mjs out of 'YtimkfjekbimmhaaDoorShelfA.lean', which tools/lay-shelf.mjs wrote): THE SAME DECLARATIONS UNDER THE SAME NAMES: 'import', 'namespace', 'open', 'def', 'theorem' AND NOTHING ELSE: no command of the shelf's: FOR A HAND-IN. Each laying: the table of numbers ('.._ren') and one theorem, a field a fact of the dump's own or the kernel's comparison; each contract: ONE APPLICATION.
-/
namespace Go.Proofs
open Go.Shelf
def Tryd.atoiL_ren : Go.Shelf.Ren := ⟨fun | 172 => 26 | 244 => 41 | 245 => 42 | 247 => 51 | 279 => 52 | 280 => 53 | 281 => 54 | 282 => 55 | 287 => 63 | 316 => 64 | 171 => 35 | 205 => 65 | 321 => 77 | 322 => 78 | 243 => 44 | 246 => 56 | 283 => 66 | 284 => 67 | 285 => 68 | 286 => 69 | 129 => 80 | 317 => 79 | 318 => 81 | 319 => 82 | 320 => 83 | 337 => 86 | 338 => 87 | n => n, fun | 9 => 9 | 3 => 3 | 75 => 47 | 76 => 48 | 4 => 4 | 5 => 5 | 167 => 69 | 37 => 22 | 0 => 0 | 85 => 70 | 2 => 2 | 168 => 72 | 53 => 37 | 175 => 81 | 46 => 75 | 210 => 85 | 127 => 77 | 145 => 98 | 143 => 96 | 21 => 21 | 171 => 87 | 173 => 90 | 212 => 100 | 51 => 101 | 20 => 20 | 213 => 102 | 232 => 111 | 233 => 112 | 80 => 66 | n => n, fun | 15 => 0 | 16 => 1 | 17 => 3 | 18 => 6 | 19 => 7 | n => n⟩
theorem Tryd.atoiL : Go.Proofs.LaysC.n172 Tryd.prog Tryd.atoiL_ren := {
  mixed := by kernel_rfl
  f129 := Tryd.func80.trans (congrArg some (by kernel_rfl))
  f171 := Tryd.func35.trans (congrArg some (by kernel_rfl))
  f172 := Tryd.func26.trans (congrArg some (by kernel_rfl))
  f205 := Tryd.func65.trans (congrArg some (by kernel_rfl))
  f243 := Tryd.func44.trans (congrArg some (by kernel_rfl))
  f244 := Tryd.func41.trans (congrArg some (by kernel_rfl))
  f245 := Tryd.func42.trans (congrArg some (by kernel_rfl))
  f246 := Tryd.func56.trans (congrArg some (by kernel_rfl))
  f247 := Tryd.func51.trans (congrArg some (by kernel_rfl))
  f279 := Tryd.func52.trans (congrArg some (by kernel_rfl))
  f280 := Tryd.func53.trans (congrArg some (by kernel_rfl))
  f281 := Tryd.func54.trans (congrArg some (by kernel_rfl))
  f282 := Tryd.func55.trans (congrArg some (by kernel_rfl))
  f283 := Tryd.func66.trans (congrArg some (by kernel_rfl))
  f284 := Tryd.func67.trans (congrArg some (by kernel_rfl))
  f285 := Tryd.func68.trans (congrArg some (by kernel_rfl))
  f286 := Tryd.func69.trans (congrArg some (by kernel_rfl))
  f287 := Tryd.func63.trans (congrArg some (by kernel_rfl))
  f316 := Tryd.func64.trans (congrArg some (by kernel_rfl))
  f317 := Tryd.func79.trans (congrArg some (by kernel_rfl))
  f318 := Tryd.func81.trans (congrArg some (by kernel_rfl))
  f319 := Tryd.func82.trans (congrArg some (by kernel_rfl))
  f320 := Tryd.func83.trans (congrArg some (by kernel_rfl))
  f321 := Tryd.func77.trans (congrArg some (by kernel_rfl))
  f322 := Tryd.func78.trans (congrArg some (by kernel_rfl))
  f337 := Tryd.func86.trans (congrArg some (by kernel_rfl))
  f338 := Tryd.func87.trans (congrArg some (by kernel_rfl))
  t0 := Tryd.underlying0
  a0 := Tryd.isAgg0
  z0 := Tryd.sizeOf0
  v0 := Tryd.zeroValue0
  t2 := Tryd.underlying2
  a2 := Tryd.isAgg2
  z2 := Tryd.sizeOf2
  v2 := Tryd.zeroValue2
  t3 := Tryd.underlying3
  a3 := Tryd.isAgg3
  z3 := Tryd.sizeOf3
  v3 := Tryd.zeroValue3
  t4 := Tryd.underlying4
  a4 := Tryd.isAgg4
  z4 := Tryd.sizeOf4
  v4 := Tryd.zeroValue4
  t5 := Tryd.underlying5
  a5 := Tryd.isAgg5
  z5 := Tryd.sizeOf5
  v5 := Tryd.zeroValue5
  t9 := Tryd.underlying9
  a9 := Tryd.isAgg9
  z9 := Tryd.sizeOf9
  v9 := Tryd.zeroValue9
  t20 := Tryd.underlying20
  a20 := Tryd.isAgg20
  z20 := Tryd.sizeOf20
  v20 := Tryd.zeroValue20
  t21 := Tryd.underlying21
  a21 := Tryd.isAgg21
  z21 := Tryd.sizeOf21
  v21 := Tryd.zeroValue21
  t37 := Tryd.underlying22
  a37 := Tryd.isAgg22
  z37 := Tryd.sizeOf22
  v37 := Tryd.zeroValue22
  t46 := Tryd.underlying75
  a46 := Tryd.isAgg75
  z46 := Tryd.sizeOf75
  v46 := Tryd.zeroValue75
  t51 := Tryd.underlying101
  a51 := Tryd.isAgg101
  z51 := Tryd.sizeOf101
  v51 := Tryd.zeroValue101
  t53 := Tryd.underlying37
  a53 := Tryd.isAgg37
  z53 := Tryd.sizeOf37
  v53 := Tryd.zeroValue37
  t75 := Tryd.underlying47
  a75 := Tryd.isAgg47
  z75 := Tryd.sizeOf47
  v75 := Tryd.zeroValue47
  t76 := Tryd.underlying48
  a76 := Tryd.isAgg48
  z76 := Tryd.sizeOf48
  v76 := Tryd.zeroValue48
  t85 := Tryd.underlying70
  a85 := Tryd.isAgg70
  z85 := Tryd.sizeOf70
  v85 := Tryd.zeroValue70
  t127 := Tryd.underlying77
  a127 := Tryd.isAgg77
  z127 := Tryd.sizeOf77
  v127 := Tryd.zeroValue77
  t143 := Tryd.underlying96
  a143 := Tryd.isAgg96
  z143 := Tryd.sizeOf96
  v143 := Tryd.zeroValue96
  t145 := Tryd.underlying98
  a145 := Tryd.isAgg98
  z145 := Tryd.sizeOf98
  v145 := Tryd.zeroValue98
  t167 := Tryd.underlying69
  a167 := Tryd.isAgg69
  z167 := Tryd.sizeOf69
  v167 := Tryd.zeroValue69
  t168 := Tryd.underlying72
  a168 := Tryd.isAgg72
  z168 := Tryd.sizeOf72
  v168 := Tryd.zeroValue72
  t171 := Tryd.underlying87
  a171 := Tryd.isAgg87
  z171 := Tryd.sizeOf87
  v171 := Tryd.zeroValue87
  t173 := Tryd.underlying90
  a173 := Tryd.isAgg90
  z173 := Tryd.sizeOf90
  v173 := Tryd.zeroValue90
  t175 := Tryd.underlying81
  a175 := Tryd.isAgg81
  z175 := Tryd.sizeOf81
  v175 := Tryd.zeroValue81
  t210 := Tryd.underlying85
  a210 := Tryd.isAgg85
  z210 := Tryd.sizeOf85
  v210 := Tryd.zeroValue85
  t212 := Tryd.underlying100
  a212 := Tryd.isAgg100
  z212 := Tryd.sizeOf100
  v212 := Tryd.zeroValue100
  t213 := Tryd.underlying102
  a213 := Tryd.isAgg102
  z213 := Tryd.sizeOf102
  t232 := Tryd.underlying111
  a232 := Tryd.isAgg111
  z232 := Tryd.sizeOf111
  v232 := Tryd.zeroValue111
  t233 := Tryd.underlying112
  a233 := Tryd.isAgg112
  z233 := Tryd.sizeOf112
  v233 := Tryd.zeroValue112
  g15 := by kernel_rfl
  g16 := by kernel_rfl
  g17 := by kernel_rfl
  g18 := by kernel_rfl
  g19 := by kernel_rfl
  t80 := Tryd.underlying66
  a80 := Tryd.isAgg66
  z80 := Tryd.sizeOf66
  v80 := Tryd.zeroValue66
  i0 := by kernel_rfl
  i2 := by kernel_rfl
  i3 := by kernel_rfl
  i4 := by kernel_rfl
  i5 := by kernel_rfl
  i9 := by kernel_rfl
  i20 := by kernel_rfl
  i21 := by kernel_rfl
  i37 := by kernel_rfl
  i46 := by kernel_rfl
  i51 := by kernel_rfl
  i53 := by kernel_rfl
  i75 := by kernel_rfl
  i76 := by kernel_rfl
  i80 := by kernel_rfl
  i85 := by kernel_rfl
  i127 := by kernel_rfl
  i143 := by kernel_rfl
  i145 := by kernel_rfl
  i167 := by kernel_rfl
  i168 := by kernel_rfl
  i171 := by kernel_rfl
  i173 := by kernel_rfl
  i175 := by kernel_rfl
  i210 := by kernel_rfl
  i212 := by kernel_rfl
  i232 := by kernel_rfl
  i233 := by kernel_rfl
  m15 := by kernel_rfl
  m16 := by kernel_rfl
  m17 := by kernel_rfl
  m18 := by kernel_rfl
  m19 := by kernel_rfl
  c0 := by kernel_rfl
  c2 := by kernel_rfl
  c3 := by kernel_rfl
  c4 := by kernel_rfl
  c5 := by kernel_rfl
  c9 := by kernel_rfl
  c20 := by kernel_rfl
  c21 := by kernel_rfl
  c37 := by kernel_rfl
  c46 := by kernel_rfl
  c51 := by kernel_rfl
  c53 := by kernel_rfl
  c75 := by kernel_rfl
  c76 := by kernel_rfl
  c80 := by kernel_rfl
  c85 := by kernel_rfl
  c127 := by kernel_rfl
  c143 := by kernel_rfl
  c145 := by kernel_rfl
  c167 := by kernel_rfl
  c168 := by kernel_rfl
  c171 := by kernel_rfl
  c173 := by kernel_rfl
  c175 := by kernel_rfl
  c210 := by kernel_rfl
  c212 := by kernel_rfl
  c213 := by kernel_rfl
  c232 := by kernel_rfl
  c233 := by kernel_rfl }
end Go.Proofs

namespace Go.Proofs.YtimkfjekbimmhaaDoor.A
open Go.RowKit Go.Proofs.YtimkfjekbimmhaaDoorW.PrintWords Go.Proofs.YtimkfjekbimmhaaDoorW.PrintLast Go.Proofs.YtimkfjekbimmhaaDoorW.PrintMore
set_option linter.unusedVariables false
set_option linter.unusedSimpArgs false
/-! plain lemmas that all pure texts lean on -/
theorem w64 {x : Int} (h1 : -9223372036854775808 ≤ x) (h2 : x ≤ 9223372036854775807) : wrap64 x = x := by
  unfold wrap64
  omega
theorem wsucc {i : Nat} {n : Nat} (h : i < n) (hn : n ≤ 9223372036854775807) : wrap64 ((i : Int) + 1) = ((i + 1 : Nat) : Int) := by
  rw [w64 (by omega) (by omega)]
  omega
theorem rdn {xs : List Int} {i : Nat} (h : i < xs.length) : rd xs (i : Int) = xs[i] := by
  simp [rd, h]
theorem Ev.succ {α : Type} {g : Nat → Option α} {r : α} (h : Ev (fun k => g (k + 1)) r) : Ev g r := Ev.step (fun _ => rfl) h
theorem Ev.get {α : Type} {g : Nat → Option α} {r : α} (h : Ev g r) : ∃ k, g k = some r := Ev.rounds h
theorem Ev.ite {α : Type} {c : Prop} [Decidable c] {g f : Nat → Option α} {r s : α} (h : c → Ev g r) (h' : ¬ c → Ev f s) : Ev (fun k => if c then g k else f k) (if c then r else s) := by
  by_cases hc : c
  · simp only [hc, if_true]
    exact h hc
  · simp only [hc, if_false]
    exact h' hc
/-- A loop over the elements of a list that is left early. -/
theorem ev_all {xs : List Int} {g : Nat → Int → Option Bool} (p : Int → Bool) (hend : Ev (fun k => g k (xs.length : Int)) true)
    (hyes : ∀ (i : Nat) (h : i < xs.length) r, p xs[i] = true → Ev (fun k => g k ((i + 1 : Nat) : Int)) r → Ev (fun k => g k (i : Int)) r)
    (hno : ∀ (i : Nat) (h : i < xs.length), p xs[i] = false → Ev (fun k => g k (i : Int)) false) :
    ∀ (n i : Nat), i + n = xs.length → Ev (fun k => g k (i : Int)) ((xs.drop i).all p)
  | 0, i, h => by
    rw [List.drop_eq_nil_of_le (by omega), show i = xs.length by omega]
    exact hend
  | n + 1, i, h => by
    have hi : i < xs.length := by omega
    rw [List.drop_eq_getElem_cons hi, List.all_cons]
    cases hp : p xs[i]
    · exact hno i hi hp
    · rw [Bool.true_and]
      exact hyes i hi _ hp (ev_all p hend hyes hno n (i + 1) (by omega))
theorem rdi {xs : List Int} {i : Int} (h0 : 0 ≤ i) (h1 : i < xs.length) : rd xs i = xs[i.toNat]'(by omega) := by
  unfold rd
  rw [List.getD_eq_getElem?_getD, List.getElem?_eq_getElem (by omega)]
  rfl
end Go.Proofs.YtimkfjekbimmhaaDoor.A

/- impl.ParseList: strings.SplitN and strconv.Atoi by the shelf's contracts; what they read of the library's variables is asked of the world. -/
namespace Go.Proofs.YtimkfjekbimmhaaDoor.A
open Go.RowKit Go.Proofs.YtimkfjekbimmhaaDoorW.PrintWords Go.Proofs.YtimkfjekbimmhaaDoorW.PrintLast Go.Proofs.YtimkfjekbimmhaaDoorW.PrintMore
attribute [local go_sem] max2_int min2_int max_two min_two max_three min_three max_four min_four
set_option linter.unusedVariables false
set_option linter.unusedSimpArgs false

open Go.Lib
theorem ba_inj {a b : ByteArray} (h : a.toList = b.toList) : a = b := by
  rw [Go.Lib.toList_data, Go.Lib.toList_data] at h
  rw [← Go.Lib.mk_data a, ← Go.Lib.mk_data b, h]
def StrZ (w : World) : Prop := (∃ m, w.cell? ⟨2, 0, none⟩ = some (.int .i64 m)) ∧ (∃ e, w.cell? ⟨0, 0, none⟩ = some e ∧ (e = .nilIface ∨ ∃ te pe, e = .iface te pe)) ∧ (∃ e, w.cell? ⟨1, 0, none⟩ = some e ∧ (e = .nilIface ∨ ∃ te pe, e = .iface te pe))
theorem cellZ_below {w w' : World} {p : Addr} {v : Value} (h : w.cell? p = some v) (hb : Below w.heap.size w w') : w'.cell? p = some v := by
  rw [hb.cell (World.block_lt_of_cell? w _ h)]
  exact h
theorem strZ_below {w w' : World} (h : StrZ w) (hb : Below w.heap.size w w') : StrZ w' := by
  obtain ⟨⟨m, hm⟩, ⟨e1, h1, k1⟩, ⟨e2, h2, k2⟩⟩ := h
  exact ⟨⟨m, cellZ_below hm hb⟩, ⟨e1, cellZ_below h1 hb, k1⟩, ⟨e2, cellZ_below h2 hb, k2⟩⟩
def atoiS : List ByteArray → Option (List Int)
  | [] => some []
  | x :: r => match Go.Lib.atoiAll x.data.toList with
    | .ok v => (atoiS r).map (v :: ·)
    | _ => none
def wordsS (s : ByteArray) : List ByteArray := Go.Lib.splitB ⟨#[32]⟩ 0 (min 9 (s.size + 1) - 1) s
def impl_ParseList.f (k : Nat) (a0 : ByteArray) : Option (List Int × Bool) := if a0.size ≤ 16777216 then (match atoiS (wordsS a0) with
  | none => some ([], false)
  | some l => (impl_IsList.f k l).bind fun g => if g = true then ((impl_listText.f k l).bind fun t => some (if t = a0 then (l, true) else ([], false))) else some ([], false)) else none
theorem atoi_calls (s : ByteArray) (w : World) (hs : s.size ≤ 16777216) (hZ : StrZ w) :
    Calls Tryd.prog 26 #[.string s] w fun e w' => (∃ (x : Int) (ev : Value), e = .returned (.tuple #[.int .i64 x, ev]) ∧ ((∃ v, Go.Lib.atoiAll s.data.toList = .ok v ∧ x = v ∧ ev = .nilIface) ∨ ((∀ v, Go.Lib.atoiAll s.data.toList ≠ .ok v) ∧ ∃ T N, ev = .iface T (.pointer (some ⟨N, 0, none⟩))))) ∧ Below w.heap.size w w' := by
  obtain ⟨_, ⟨e1, h1, k1⟩, ⟨e2, h2, k2⟩⟩ := hZ
  cases hq : Go.Lib.atoiAll s.data.toList
  · rename_i v
    have hc := Go.Proofs.Any.strconv_Atoi_ok Tryd.atoiL s (by omega) v hq w
    change Calls Tryd.prog 26 _ _ _ at hc
    refine hc.mono ?_
    rintro e w' ⟨rfl, hw⟩
    refine ⟨⟨v, .nilIface, rfl, .inl ⟨v, rfl, rfl, rfl⟩⟩, ?_⟩
    rcases hw with rfl | ⟨t, rfl⟩
    · exact Below.refl _ _
    · exact Go.Lib.bytesWorld_below _ _ _
  · have hc := Go.Proofs.Any.strconv_Atoi_syntax Tryd.atoiL s (by omega) hq e1 w h1 k1
    change Calls Tryd.prog 26 _ _ _ at hc
    refine hc.mono ?_
    rintro e w' ⟨N, rfl, _, _, hb⟩
    exact ⟨⟨_, _, rfl, .inr ⟨fun v h => (by cases h), _, N, rfl⟩⟩, hb⟩
  · have hc := Go.Proofs.Any.strconv_Atoi_range Tryd.atoiL s (by omega) hq e2 w h2 k2
    change Calls Tryd.prog 26 _ _ _ at hc
    refine hc.mono ?_
    rintro e w' ⟨N, rfl, _, _, hb⟩
    exact ⟨⟨_, _, rfl, .inr ⟨fun v h => (by cases h), _, N, rfl⟩⟩, hb⟩
theorem splitB_sizes (sep : ByteArray) (save : Nat) : ∀ (k : Nat) (s : ByteArray), ∀ x ∈ Go.Lib.splitB sep save k s, x.size ≤ s.size
  | 0, s, x, hx => by
    rw [Go.Lib.splitB_zero, List.mem_singleton] at hx
    rw [hx]
    exact Nat.le_refl _
  | k + 1, s, x, hx => by
    unfold Go.Lib.splitB at hx
    split at hx
    · rw [List.mem_singleton] at hx
      rw [hx]
      exact Nat.le_refl _
    · rcases List.mem_cons.1 hx with h | h
      · rw [h, ByteArray.size_extract]
        omega
      · have := splitB_sizes sep save k _ x h
        rw [ByteArray.size_extract] at this
        omega
theorem split_calls (s : ByteArray) (w : World) (hs : s.size ≤ 16777216) (hZ : StrZ w) :
    Calls Tryd.prog 25 #[.string s, .string ⟨#[32]⟩, .int .i64 9] w fun e w' => ∃ c, e = .returned (.slice (some ⟨w.heap.size, 0, none⟩) (wordsS s).length c) ∧ (∀ j x, (wordsS s)[j]? = some x → w'.cell? ⟨w.heap.size, j, none⟩ = some (.string x)) ∧ (wordsS s).length ≤ c ∧ Below w.heap.size w w' := by
  obtain ⟨⟨m, hm⟩, _⟩ := hZ
  have hc := Go.Proofs.Any.strings_SplitN { Tryd.splitL with } Tryd.splitL.i9 s ⟨#[32]⟩ 9 m w (by omega) hm (by decide) (by omega) (by omega)
  change Calls Tryd.prog 25 #[.string s, .string ⟨#[32]⟩, .int .i64 9] w _ at hc
  have hl := Go.Lib.splitB_length_le ⟨#[32]⟩ 0 (min 9 (s.size + 1) - 1) s
  refine hc.mono ?_
  rintro e w' ⟨rfl, rfl⟩
  refine ⟨_, rfl, fun j x hj => ?_, by unfold wordsS; omega, below_alloc (Below.refl _ _) _⟩
  have hjl := (List.getElem?_eq_some_iff.1 hj).1
  have hcell : (Go.Lib.cellsOf (wordsS s) (min 9 (s.size + 1)))[j]? = some (.string x) := by
    unfold Go.Lib.cellsOf
    rw [List.getElem?_toArray, List.getElem?_append_left (by rw [List.length_map]; exact hjl), List.getElem?_map, hj]
    rfl
  show (w.alloc (.cells (Go.Lib.cellsOf (wordsS s) (min 9 (s.size + 1))) _)).cell? ⟨w.heap.size, j, none⟩ = _
  rw [← hcell]
  simp
set_option maxHeartbeats 8000000 in
set_option maxRecDepth 100000 in
theorem impl_ParseList.calls (k : Nat) (a0 : ByteArray) (r1 : List Int) (r2 : Bool) (w : World) (h : impl_ParseList.f k a0 = some (r1, r2)) (hT : StrZ w := by exact strZ_below HT.out (by repeat (first | (with_reducible first | exact HB.out | apply below_alloc | apply pw_below_drewN | apply below_drew1) | exact HB.out))) :
    Calls Tryd.prog 11 #[.string a0] w fun e w' => ∃ v0_ : Value, e = .returned (.tuple #[v0_, .bool r2]) ∧ Kd.R (Kd.int .i64) 3 w' w.heap.size (fun _ => True) v0_ r1 ∧ Below w.heap.size w w' := by
  unfold impl_ParseList.f at h
  split at h
  case isFalse => cases h
  case isTrue hsz =>
  have HT := Aside0.mk hT
  have HSZ := Aside0.mk hsz
  have HH := Aside0.mk h
  have HB := Aside0.mk (Below.refl w.heap.size w)
  have HWS := Aside0.mk (fun x (hx : x ∈ wordsS a0) => Nat.le_trans (splitB_sizes _ _ _ _ x hx) hsz)
  have hlen : (wordsS a0).length ≤ 9 := by
    have := Go.Lib.splitB_length_le ⟨#[32]⟩ 0 (min 9 (a0.size + 1) - 1) a0
    unfold wordsS
    omega
  have HLEN := Aside0.mk hlen
  have HSP := Aside0.mk (fun (W : World) (hb : Below w.heap.size w W) => split_calls a0 W hsz (strZ_below hT hb))
  obtain ⟨ws, hws⟩ : ∃ ws, ws = wordsS a0 := ⟨_, rfl⟩
  rw [← hws] at HH HWS HLEN HSP
  clear h hT hsz hlen hws
  have hnil : ([] : List Int) = [] := rfl
  obtain ⟨y1, hy1⟩ : ∃ y : List Int, y = [] := ⟨[], rfl⟩
  have Ny1 := Aside0.mk hy1
  clear hy1 hnil
  go_enter Tryd.func11, Tryd.ntmps11
  go_wp2_with (first | ((with_reducible refine gate_dst (N := 9) rfl ?_); refine Kd.R_lit (Kd.int .i64) _ 3 ?hg (N := 9) ?hd (xs := ([] : List Int)) (inner := []) (ok := fun _ => True) (okp := fun _ => True) ?hr ?hp (fun _ hk => hk) trivial (Below.refl _ _) (Nat.le_refl _) (by simp) ?_; (case hd => rfl); (case hg => rfl); (case hr => first | (go_simp; done) | (go_simp; rfl)); (case hp => exact (Reps.none _ _)); intro v145 w2 ho3 hb hg_ hnew_; clear hg_ hnew_; have n0_ := Aside0.mk (Kd.R_lower ho3 (below_size (by repeat (first | (with_reducible first | exact HB.out | apply below_alloc | apply pw_below_drewN | apply below_drew1) | exact HB.out)))); have n1_ := Aside0.mk (below_step (by repeat (first | (with_reducible first | exact HB.out | apply below_alloc | apply pw_below_drewN | apply below_drew1) | exact HB.out)) hb); clear HB; have HO4 := n0_; have HB := n1_; clear n0_ n1_; clear hb ho3) | (go_at_call 25; refine (HSP.out _ (by repeat (first | (with_reducible first | exact HB.out | apply below_alloc | apply pw_below_drewN | apply below_drew1) | exact HB.out))).mono ?_; rintro e w5 ⟨cc, rfl, hcl, hcc, hb⟩; have HO5 := Aside0.mk (Kd.R_below (Kd.R_mono (ok' := fun k => k ≠ w2.heap.size) (Kd.R_bound (by (with_reducible repeat (first | apply Kd.R_alloc | apply Kd.R_drewN | apply Kd.R_drew)); exact HO4.out)) (fun k hk => by have h_ : k < w2.heap.size := hk.2.2.1; omega)) hb); have HB5 := Aside0.mk (below_step (by repeat (first | (with_reducible first | exact HB.out | apply below_alloc | apply pw_below_drewN | apply below_drew1) | exact HB.out)) hb); have HCL := Aside0.mk hcl; have HLT := Aside0.mk (show w2.heap.size < w5.heap.size ∨ ws.length = 0 by rcases Nat.eq_zero_or_pos ws.length with h_ | h_; (case inl => exact .inr h_); exact .inl (World.block_lt_of_cell? w5 _ (hcl 0 ws[0] (List.getElem?_eq_getElem h_)))); clear HO4 HB hcl hb; have HO4 := HO5; have HB := HB5; clear HO5 HB5))
  go_loopg [4, 13] ws.length (fun g v4 v13 wr => ∃ (i d : Nat) (acc : List Int), v13 = .int .i64 (i : Int) ∧ i + d = ws.length ∧ d ≤ g ∧ acc.length = i ∧ Aside0 ((atoiS (ws.drop i)).map (acc ++ ·) = atoiS ws) ∧ Aside0 (Kd.R (Kd.int .i64) 3 wr w.heap.size (fun k => k ≠ w2.heap.size) v4 acc) ∧ Aside0 (Below w.heap.size w wr) ∧ Aside0 (∀ j x, ws[j]? = some x → wr.cell? ⟨w2.heap.size, j, none⟩ = some (.string x)) ∧ Aside0 (w2.heap.size < wr.heap.size ∨ ws.length = 0))
  case atStart => exact ⟨0, ws.length, [], rfl, by omega, Nat.le_refl _, rfl, ⟨by rw [List.drop_zero]; cases atoiS ws <;> simp⟩, HO4, HB, HCL, HLT⟩
  case round =>
    clear HCL HLT
    obtain ⟨i, d, acc, rfl, hid, hdg, hacc, HL, HO4, HB, HCL, HLT⟩ := hrel
    have HAC := Aside0.mk hacc
    have HAL := Aside0.mk (show acc.length ≤ 9 by have := HLEN.out; omega)
    clear hacc
    cases d with
    | zero =>
      have hie : i = ws.length := by omega
      have hl := HL.out
      rw [hie, List.drop_eq_nil_of_le (Nat.le_refl _)] at hl
      have hl2 : atoiS ws = some acc := by rw [← hl]; simp [atoiS]
      have hh := HH.out
      rw [hl2] at hh
      simp only at hh
      obtain ⟨g, hg, hh⟩ := Option.bind_eq_some_iff.mp hh
      have HG := Aside0.mk hg
      have hnot : ¬ (i : Int) < (ws.length : Int) := by omega
      have hnotb := decide_eq_false hnot
      obtain ⟨Ao, co, eo⟩ := Kd.R_slice HO4.out
      subst eo
      clear hl hl2 hg HL hnot HH
      cases g with
      | false =>
        obtain ⟨rfl, rfl⟩ : [] = r1 ∧ false = r2 := by simpa using hh
        clear hh
        go_wp2_with (go_at_call 10; (refine (impl_IsList.calls k _ _ acc false _ ?side1 ?side2 HG.out).mono ?_); (case side1 => repeat (first | exact (Kd.R_reads' HO4.out).2.2 | (with_reducible refine Kd.C_alloc ?_ _) | (with_reducible refine Kd.C_drewN ?_ _) | (with_reducible refine Kd.C_drew ?_))); (case side2 => exact (Kd.R_reads' HO4.out).2.1); rintro e w' ⟨rfl, ⟨nd, rfl⟩⟩)
        go_ret2
        exact ⟨_, rfl, Kd.R_nil _ _ _ _ _, (by repeat (first | (with_reducible first | exact HB.out | apply below_alloc | apply pw_below_drewN | apply below_drew1) | exact HB.out))⟩
      | true =>
        rw [if_pos rfl] at hh
        obtain ⟨t, ht, hh⟩ := Option.bind_eq_some_iff.mp hh
        have HTX := Aside0.mk ht
        clear ht
        by_cases c : t = a0
        · subst c
          rw [if_pos rfl] at hh
          obtain ⟨rfl, rfl⟩ : acc = r1 ∧ true = r2 := by simpa using hh
          clear hh
          go_wp2_with (first | (go_at_call 10; (refine (impl_IsList.calls k _ _ acc true _ ?side1 ?side2 HG.out).mono ?_); (case side1 => repeat (first | exact (Kd.R_reads' HO4.out).2.2 | (with_reducible refine Kd.C_alloc ?_ _) | (with_reducible refine Kd.C_drewN ?_ _) | (with_reducible refine Kd.C_drew ?_))); (case side2 => exact (Kd.R_reads' HO4.out).2.1); rintro e w' ⟨rfl, ⟨nd, rfl⟩⟩) | (go_at_call 20; (refine (impl_listText.calls k _ _ acc t _ ?side1 ?side2 HTX.out).mono ?_); (case side1 => repeat (first | exact (Kd.R_reads' HO4.out).2.2 | (with_reducible refine Kd.C_alloc ?_ _) | (with_reducible refine Kd.C_drewN ?_ _) | (with_reducible refine Kd.C_drew ?_))); (case side2 => exact (Kd.R_reads' HO4.out).2.1); rintro e w9 ⟨rfl, hb⟩; have HO6 := Aside0.mk (Kd.R_below (by (with_reducible repeat (first | apply Kd.R_alloc | apply Kd.R_drewN | apply Kd.R_drew)); exact HO4.out) hb); have HB6 := Aside0.mk (below_step (by repeat (first | (with_reducible first | exact HB.out | apply below_alloc | apply pw_below_drewN | apply below_drew1) | exact HB.out)) hb); clear HO4 HB hb; have HO4 := HO6; have HB := HB6; clear HO6 HB6))
          go_ret2
          exact ⟨_, rfl, Kd.R_mono (by (with_reducible repeat (first | apply Kd.R_alloc | apply Kd.R_drewN | apply Kd.R_drew)); exact HO4.out) (fun _ _ => trivial), (by repeat (first | (with_reducible first | exact HB.out | apply below_alloc | apply pw_below_drewN | apply below_drew1) | exact HB.out))⟩
        · rw [if_neg c] at hh
          obtain ⟨rfl, rfl⟩ : [] = r1 ∧ false = r2 := by simpa using hh
          clear hh
          have c1 : ¬ t.toList = a0.toList := fun e => c (ba_inj e)
          have c1b : (t.toList == a0.toList) = false := beq_eq_false_iff_ne.mpr c1
          have c1c : decide (t.toList = a0.toList) = false := decide_eq_false c1
          go_wp2_with (first | (go_at_call 10; (refine (impl_IsList.calls k _ _ acc true _ ?side1 ?side2 HG.out).mono ?_); (case side1 => repeat (first | exact (Kd.R_reads' HO4.out).2.2 | (with_reducible refine Kd.C_alloc ?_ _) | (with_reducible refine Kd.C_drewN ?_ _) | (with_reducible refine Kd.C_drew ?_))); (case side2 => exact (Kd.R_reads' HO4.out).2.1); rintro e w' ⟨rfl, ⟨nd, rfl⟩⟩) | (go_at_call 20; (refine (impl_listText.calls k _ _ acc t _ ?side1 ?side2 HTX.out).mono ?_); (case side1 => repeat (first | exact (Kd.R_reads' HO4.out).2.2 | (with_reducible refine Kd.C_alloc ?_ _) | (with_reducible refine Kd.C_drewN ?_ _) | (with_reducible refine Kd.C_drew ?_))); (case side2 => exact (Kd.R_reads' HO4.out).2.1); rintro e w9 ⟨rfl, hb⟩; have HO6 := Aside0.mk (Kd.R_below (by (with_reducible repeat (first | apply Kd.R_alloc | apply Kd.R_drewN | apply Kd.R_drew)); exact HO4.out) hb); have HB6 := Aside0.mk (below_step (by repeat (first | (with_reducible first | exact HB.out | apply below_alloc | apply pw_below_drewN | apply below_drew1) | exact HB.out)) hb); clear HO4 HB hb; have HO4 := HO6; have HB := HB6; clear HO6 HB6))
          go_ret2
          exact ⟨_, rfl, Kd.R_nil _ _ _ _ _, (by repeat (first | (with_reducible first | exact HB.out | apply below_alloc | apply pw_below_drewN | apply below_drew1) | exact HB.out))⟩
    | succ d =>
      have hi : i < ws.length := by omega
      have hcell := HCL.out i ws[i] (List.getElem?_eq_getElem hi)
      have HLT2 := Aside0.mk (show w2.heap.size < wr.heap.size by rcases HLT.out with h_ | h_; (case inl => exact h_); omega)
      have hsz := HWS.out _ (List.getElem_mem hi)
      obtain ⟨x, hx⟩ : ∃ x, x = ws[i] := ⟨_, rfl⟩
      have hdrop : atoiS (ws.drop i) = match Go.Lib.atoiAll x.data.toList with | .ok v => (atoiS (ws.drop (i + 1))).map (v :: ·) | _ => none := by
        rw [List.drop_eq_getElem_cons hi, hx]
        rfl
      rw [← hx] at hcell hsz
      have HAT := Aside0.mk (fun (W : World) (hb : Below w.heap.size w W) => atoi_calls x W hsz (strZ_below HT.out hb))
      have hil : (i : Int) < (ws.length : Int) := by omega
      have hilb := decide_eq_true hil
      have hi0 : (0 : Int) ≤ (i : Int) := by omega
      have HID := Aside0.mk hid
      clear hsz hx hil hid
      by_cases hq : ∃ v, Go.Lib.atoiAll x.data.toList = .ok v
      · obtain ⟨v, hv⟩ := hq
        have HQ := Aside0.mk hv
        have HL2 := Aside0.mk (show (atoiS (ws.drop (i + 1))).map ((acc ++ [v]) ++ ·) = atoiS ws by
          have h2 := HL.out
          rw [hdrop, hv] at h2
          rw [← h2]
          cases atoiS (ws.drop (i + 1)) <;> simp)
        clear hv hdrop HL
        go_wp2_with (first | (go_at_call 26; refine (HAT.out _ (by repeat (first | (with_reducible first | exact HB.out | apply below_alloc | apply pw_below_drewN | apply below_drew1) | exact HB.out))).mono ?_; rintro e w7 ⟨⟨x7, ev7, rfl, hx⟩, hb⟩; (rcases hx with ⟨v', hv', rfl, rfl⟩ | ⟨hno, _⟩; (case inr => exact absurd HQ.out (hno v)); obtain rfl : v = x7 := by have h_ := HQ.out.symm.trans hv'; cases h_; rfl); have HO5 := Aside0.mk (Kd.R_below (by (with_reducible repeat (first | apply Kd.R_alloc | apply Kd.R_drewN | apply Kd.R_drew)); exact HO4.out) hb); have HB5 := Aside0.mk (below_step (by repeat (first | (with_reducible first | exact HB.out | apply below_alloc | apply pw_below_drewN | apply below_drew1) | exact HB.out)) hb); have HCL5 := Aside0.mk (fun j x_ h_ => cellZ_below (HCL.out j x_ h_) hb); have HLT5 := Aside0.mk (Nat.lt_of_lt_of_le HLT2.out hb.size); clear HO4 HB hb HCL HLT2; have HO4 := HO5; have HB := HB5; have HCL := HCL5; have HLT2 := HLT5; clear HO5 HB5 HCL5 HLT5) | ((with_reducible refine gate_builtin (b := .append) (xs := #[.tmp 24, .tmp 26]) rfl ?_); at_builtin; refine Kd.R_append (Kd.int .i64) (w0 := w) w.heap.size rfl (.tmp 24) (.tmp 26) 24 3 (.int .i64 0) 8 rfl Tryd.underlying24 info3 rfl (by decide) (by omega) u4 acc v [.int .i64 v] (fun k => k ≠ w2.heap.size) (fun _ => False) rfl rfl ?aP (fun _ hk => hk.elim) ?aF ?aO ?aB ?aS ?aL ?_; (case aP => exact rfl); (case aB => exact (by repeat (first | (with_reducible first | exact HB.out | apply below_alloc | apply pw_below_drewN | apply below_drew1) | exact HB.out))); (case aF => exact (fun k_ hk_ => by have h_ : _ ≤ k_ := hk_; have h2_ := HLT2.out; (try simp at h_); omega)); (case aO => exact (by (with_reducible repeat (first | apply Kd.R_alloc | apply Kd.R_drewN | apply Kd.R_drew)); exact HO4.out)); (case aS => exact (below_size (by repeat (first | (with_reducible first | exact HB.out | apply below_alloc | apply pw_below_drewN | apply below_drew1) | exact HB.out)))); (case aL => have := HAL.out; omega); intro v149 w8 ho hb hg hat; have n0_ := Aside0.mk hb; have n1_ := Aside0.mk ho; have n2_ := Aside0.mk (fun j x_ h_ => (World.grownBy.cell_far hg ⟨w2.heap.size, j, none⟩ (World.block_lt_of_cell? _ _ (HCL.out j x_ h_)) (fun e_ => HO4.out.1 _ e_.symm rfl)).trans (HCL.out j x_ h_)); have n3_ := Aside0.mk (World.block_lt_of_cell? w8 _ (n2_.out i _ (List.getElem?_eq_getElem hi))); clear HB HO4 HCL HLT2; have HB := n0_; have HO4 := n1_; have HCL := n2_; have HLT2 := n3_; clear n0_ n1_ n2_ n3_; clear ho hb hg hat))
        go_roundg d
        case measure => omega
        case rel => exact ⟨i + 1, d, acc ++ [v], by rw [wsucc hi (by have := HLEN.out; omega)], by have := HID.out; omega, Nat.le_refl _, by rw [List.length_append, HAC.out]; rfl, HL2, ⟨(by (with_reducible repeat (first | apply Kd.R_alloc | apply Kd.R_drewN | apply Kd.R_drew)); exact HO4.out)⟩, ⟨(by repeat (first | (with_reducible first | exact HB.out | apply below_alloc | apply pw_below_drewN | apply below_drew1) | exact HB.out))⟩, HCL, ⟨.inl HLT2.out⟩⟩
      · have HQ := Aside0.mk (show ∀ v, Go.Lib.atoiAll x.data.toList ≠ .ok v from fun v h => hq ⟨v, h⟩)
        have hh := HH.out
        have hnone : atoiS ws = none := by
          rw [← HL.out, hdrop]
          cases hz : Go.Lib.atoiAll x.data.toList
          · exact absurd hz (HQ.out _)
          · rfl
          · rfl
        rw [hnone] at hh
        obtain ⟨rfl, rfl⟩ : [] = r1 ∧ false = r2 := by simpa using hh
        clear hh hnone hdrop hq HL HH
        go_wp2_with (go_at_call 26; refine (HAT.out _ (by repeat (first | (with_reducible first | exact HB.out | apply below_alloc | apply pw_below_drewN | apply below_drew1) | exact HB.out))).mono ?_; rintro e w7 ⟨⟨x7, ev7, rfl, hx⟩, hb⟩; (rcases hx with ⟨v', hv', _, _⟩ | ⟨_, T7, N7, rfl⟩; (case inl => exact absurd hv' (HQ.out v'))); have HO5 := Aside0.mk (Kd.R_below (by (with_reducible repeat (first | apply Kd.R_alloc | apply Kd.R_drewN | apply Kd.R_drew)); exact HO4.out) hb); have HB5 := Aside0.mk (below_step (by repeat (first | (with_reducible first | exact HB.out | apply below_alloc | apply pw_below_drewN | apply below_drew1) | exact HB.out)) hb); have HCL5 := Aside0.mk (fun j x_ h_ => cellZ_below (HCL.out j x_ h_) hb); have HLT5 := Aside0.mk (Nat.lt_of_lt_of_le HLT2.out hb.size); clear HO4 HB hb HCL HLT2; have HO4 := HO5; have HB := HB5; have HCL := HCL5; have HLT2 := HLT5; clear HO5 HB5 HCL5 HLT5)
        go_ret2
        exact ⟨_, rfl, Kd.R_nil _ _ _ _ _, (by repeat (first | (with_reducible first | exact HB.out | apply below_alloc | apply pw_below_drewN | apply below_drew1) | exact HB.out))⟩
end Go.Proofs.YtimkfjekbimmhaaDoor.A

-- made by a program of this repo (wip/pp.py) through the kit's printer
namespace Go.Proofs.YtimkfjekbimmhaaDoor.A
open Go.RowKit Go.Proofs.YtimkfjekbimmhaaDoorW.PrintWords Go.Proofs.YtimkfjekbimmhaaDoorW.PrintLast Go.Proofs.YtimkfjekbimmhaaDoorW.PrintMore
attribute [local go_sem] max2_int min2_int max_two min_two max_three min_three max_four min_four
set_option linter.unusedVariables false
set_option linter.unusedSimpArgs false

/-! ### laws_FnListTexts: function 3 -/
mutual
def laws_FnListTexts.j0 : Nat → List Int → List Int → ByteArray → Bool → Bool → Option (Bool)
  | 0, _, _, _, _, _ => none
  | k + 1, x1, x5, x6, x7, x47 => if x47 = true then (some false) else (if x7 = true then ((impl_ParseList.f k x6).bind fun bt282 => (if bt282.2 = true then ((laws_pSame.f k bt282.1 x5).bind fun t286 => (if t286 = true then (laws_FnListTexts.j1 k x1) else (some false))) else (some false))) else (laws_FnListTexts.j1 k x1))
def laws_FnListTexts.j1 : Nat → List Int → Option (Bool)
  | 0, _ => none
  | k + 1, x1 => (spec_DrawParseList.f k x1).bind fun t287 => ((impl_ParseList.f k t287).bind fun bt288 => ((spec_ParseList.f k t287).bind fun bt292 => (if (bt288.2 != bt292.2) = true then (laws_FnListTexts.j2 k t287 bt288.1 bt288.2 true) else ((laws_pSame.f k bt288.1 bt292.1).bind fun t296 => (laws_FnListTexts.j2 k t287 bt288.1 bt288.2 (!t296))))))
def laws_FnListTexts.j2 : Nat → ByteArray → List Int → Bool → Bool → Option (Bool)
  | 0, _, _, _, _ => none
  | k + 1, x12, x13, x14, x82 => if x82 = true then (some false) else (if x14 = true then ((impl_ListText.f k x13).bind fun bt297 => (if bt297.2 = true then (some (bt297.1.toList == x12.toList)) else (some false))) else (some true))
end
def laws_FnListTexts.f (k : Nat) (l0 : List Int) (l1 : List Int) : Option (Bool) := (laws_big.f l0 l1).bind fun t273 => (if t273 = true then (some true) else ((spec_DrawListText.f k l0).bind fun t274 => ((impl_ListText.f k t274).bind fun bt277 => ((spec_ListText.f k t274).bind fun bt279 => (if (bt277.2 != bt279.2) = true then (laws_FnListTexts.j0 k l1 t274 bt277.1 bt277.2 true) else (if bt277.1.toList = bt279.1.toList then ((impl_IsList.f k t274).bind fun t281 => (laws_FnListTexts.j0 k l1 t274 bt277.1 bt277.2 (bt277.2 != t281))) else (laws_FnListTexts.j0 k l1 t274 bt277.1 bt277.2 true)))))))
set_option maxHeartbeats 8000000 in
set_option maxRecDepth 100000 in
theorem laws_FnListTexts.calls (k : Nat) (A0 : Option Addr) (c0 : Nat) (l0 : List Int) (A1 : Option Addr) (c1 : Nat) (l1 : List Int) (r : Bool) (w : World) (hr0 : Kd.C (Kd.int .u8) w A0 l0.length l0) (hc0 : l0.length ≤ c0) (hr1 : Kd.C (Kd.int .u8) w A1 l1.length l1) (hc1 : l1.length ≤ c1) (h : laws_FnListTexts.f k l0 l1 = some r) (hT : StrZ w := by exact strZ_below HT.out (by repeat (first | (with_reducible first | exact HB.out | apply below_alloc | apply pw_below_drewN | apply below_drew1) | exact HB.out))) :
    Calls Tryd.prog 3 #[.slice A0 l0.length c0, .slice A1 l1.length c1] w fun e w' => e = .returned (.bool r) ∧ Below w.heap.size w w' := by
  have HT := Aside0.mk hT
  clear hT
  have HR0 := Aside0.mk hr0
  have HC0 := Aside0.mk hc0
  clear hr0 hc0
  have HR1 := Aside0.mk hr1
  have HC1 := Aside0.mk hc1
  clear hr1 hc1
  have HB := Aside0.mk (Below.refl w.heap.size w)
  have H : ((laws_big.f l0 l1).bind fun t273 => (if t273 = true then (some true) else ((spec_DrawListText.f k l0).bind fun t274 => ((impl_ListText.f k t274).bind fun bt277 => ((spec_ListText.f k t274).bind fun bt279 => (if (bt277.2 != bt279.2) = true then (laws_FnListTexts.j0 k l1 t274 bt277.1 bt277.2 true) else (if bt277.1.toList = bt279.1.toList then ((impl_IsList.f k t274).bind fun t281 => (laws_FnListTexts.j0 k l1 t274 bt277.1 bt277.2 (bt277.2 != t281))) else (laws_FnListTexts.j0 k l1 t274 bt277.1 bt277.2 true)))))))) = some r := h
  clear h
  replace H := Option.bind_eq_some_iff.mp H
  obtain ⟨t273, A30, H⟩ := H
  replace H : (if t273 = true then (some true) else ((spec_DrawListText.f k l0).bind fun t274 => ((impl_ListText.f k t274).bind fun bt277 => ((spec_ListText.f k t274).bind fun bt279 => (if (bt277.2 != bt279.2) = true then (laws_FnListTexts.j0 k l1 t274 bt277.1 bt277.2 true) else (if bt277.1.toList = bt279.1.toList then ((impl_IsList.f k t274).bind fun t281 => (laws_FnListTexts.j0 k l1 t274 bt277.1 bt277.2 (bt277.2 != t281))) else (laws_FnListTexts.j0 k l1 t274 bt277.1 bt277.2 true))))))) = some r := H
  have A3 := Aside0.mk A30
  clear A30
  by_cases c4 : t273 = true
  · subst c4
    have H1 : (some true) = some r := by rw [if_pos rfl] at H; exact H
    clear H
    have H := H1
    clear H1
    obtain rfl := Option.some.inj H
    go_enter Tryd.func3, Tryd.ntmps3
    go_wp2_with (first | ((with_reducible refine gate_callee (f := 6) rfl ?_); refine goesL_ (some 21) rfl rfl Tryd.func6 (by kernel_rfl) rfl #[.slice A0 l0.length c0, .slice A1 l1.length c1] rfl (by (try simp only [List.map_toArray, List.map_cons, List.map_nil]); first | done | rfl | (simp only [List.length_drop, List.length_take]; rfl)) ?_; (with_reducible refine (laws_big.calls _ _ l0 _ _ l1 true _ ?side1 ?side2 ?side3 ?side4 A3.out).mono ?_); (case side1 => repeat (first | exact HR0.out | (with_reducible refine Kd.C_alloc ?_ _) | (with_reducible refine Kd.C_drewN ?_ _) | (with_reducible refine Kd.C_drew ?_))); (case side2 => exact HC0.out); (case side3 => repeat (first | exact HR1.out | (with_reducible refine Kd.C_alloc ?_ _) | (with_reducible refine Kd.C_drewN ?_ _) | (with_reducible refine Kd.C_drew ?_))); (case side4 => exact HC1.out); rintro e w' ⟨rfl, ⟨nd, rfl⟩⟩; refine ⟨_, rfl, ?_⟩))
    go_ret
    exact ⟨by first | rfl | (simp [errW_none, errW_some] <;> rfl) | (simp [*, errW_none, errW_some] <;> rfl), by repeat (first | (with_reducible first | exact HB.out | apply below_alloc | apply pw_below_drewN | apply below_drew1) | exact HB.out)⟩
  · replace c4 := Bool.eq_false_iff.mpr c4
    subst c4
    have H1 : ((spec_DrawListText.f k l0).bind fun t274 => ((impl_ListText.f k t274).bind fun bt277 => ((spec_ListText.f k t274).bind fun bt279 => (if (bt277.2 != bt279.2) = true then (laws_FnListTexts.j0 k l1 t274 bt277.1 bt277.2 true) else (if bt277.1.toList = bt279.1.toList then ((impl_IsList.f k t274).bind fun t281 => (laws_FnListTexts.j0 k l1 t274 bt277.1 bt277.2 (bt277.2 != t281))) else (laws_FnListTexts.j0 k l1 t274 bt277.1 bt277.2 true)))))) = some r := by rw [if_neg (show ¬ (false = true) by decide)] at H; exact H
    clear H
    have H := H1
    clear H1
    replace H := Option.bind_eq_some_iff.mp H
    obtain ⟨t274, A50, H⟩ := H
    replace H : ((impl_ListText.f k t274).bind fun bt277 => ((spec_ListText.f k t274).bind fun bt279 => (if (bt277.2 != bt279.2) = true then (laws_FnListTexts.j0 k l1 t274 bt277.1 bt277.2 true) else (if bt277.1.toList = bt279.1.toList then ((impl_IsList.f k t274).bind fun t281 => (laws_FnListTexts.j0 k l1 t274 bt277.1 bt277.2 (bt277.2 != t281))) else (laws_FnListTexts.j0 k l1 t274 bt277.1 bt277.2 true))))) = some r := H
    have A5 := Aside0.mk A50
    clear A50
    replace H := Option.bind_eq_some_iff.mp H
    obtain ⟨⟨t277, t278⟩, A60, H⟩ := H
    replace H : ((spec_ListText.f k t274).bind fun bt279 => (if (t278 != bt279.2) = true then (laws_FnListTexts.j0 k l1 t274 t277 t278 true) else (if t277.toList = bt279.1.toList then ((impl_IsList.f k t274).bind fun t281 => (laws_FnListTexts.j0 k l1 t274 t277 t278 (t278 != t281))) else (laws_FnListTexts.j0 k l1 t274 t277 t278 true)))) = some r := H
    have A6 := Aside0.mk A60
    clear A60
    replace H := Option.bind_eq_some_iff.mp H
    obtain ⟨⟨t279, t280⟩, A70, H⟩ := H
    replace H : (if (t278 != t280) = true then (laws_FnListTexts.j0 k l1 t274 t277 t278 true) else (if t277.toList = t279.toList then ((impl_IsList.f k t274).bind fun t281 => (laws_FnListTexts.j0 k l1 t274 t277 t278 (t278 != t281))) else (laws_FnListTexts.j0 k l1 t274 t277 t278 true))) = some r := H
    have A7 := Aside0.mk A70
    clear A70
    have HC8 := Aside0.mk H
    clear H
    go_enter Tryd.func3, Tryd.ntmps3
    go_upto_region 6 with (first | ((with_reducible refine gate_callee (f := 6) rfl ?_); refine goesL_ (some 21) rfl rfl Tryd.func6 (by kernel_rfl) rfl #[.slice A0 l0.length c0, .slice A1 l1.length c1] rfl (by (try simp only [List.map_toArray, List.map_cons, List.map_nil]); first | done | rfl | (simp only [List.length_drop, List.length_take]; rfl)) ?_; (with_reducible refine (laws_big.calls _ _ l0 _ _ l1 false _ ?side1 ?side2 ?side3 ?side4 A3.out).mono ?_); (case side1 => repeat (first | exact HR0.out | (with_reducible refine Kd.C_alloc ?_ _) | (with_reducible refine Kd.C_drewN ?_ _) | (with_reducible refine Kd.C_drew ?_))); (case side2 => exact HC0.out); (case side3 => repeat (first | exact HR1.out | (with_reducible refine Kd.C_alloc ?_ _) | (with_reducible refine Kd.C_drewN ?_ _) | (with_reducible refine Kd.C_drew ?_))); (case side4 => exact HC1.out); rintro e w' ⟨rfl, ⟨nd, rfl⟩⟩; refine ⟨_, rfl, ?_⟩) | ((with_reducible refine gate_callee (f := 7) rfl ?_); refine goesL_ (some 23) rfl rfl Tryd.func7 (by kernel_rfl) rfl #[.slice A0 l0.length c0] rfl (by (try simp only [List.map_toArray, List.map_cons, List.map_nil]); first | done | rfl | (simp only [List.length_drop, List.length_take]; rfl)) ?_; (with_reducible refine (spec_DrawListText.calls k _ _ l0 t274 _ ?side1 ?side2 A5.out).mono ?_); (case side1 => repeat (first | exact HR0.out | (with_reducible refine Kd.C_alloc ?_ _) | (with_reducible refine Kd.C_drewN ?_ _) | (with_reducible refine Kd.C_drew ?_))); (case side2 => exact HC0.out); rintro e w9 ⟨v275, rfl, ho0, hb⟩; refine ⟨_, rfl, ?_⟩; have n0_ := Aside0.mk (Kd.R_lower ho0 (below_size (by repeat (first | (with_reducible first | exact HB.out | apply below_alloc | apply pw_below_drewN | apply below_drew1) | exact HB.out)))); have n1_ := Aside0.mk (below_step (by repeat (first | (with_reducible first | exact HB.out | apply below_alloc | apply pw_below_drewN | apply below_drew1) | exact HB.out)) hb); clear HB; have HO276 := n0_; have HB := n1_; clear n0_ n1_; (try clear hb); (try clear hb2); (try clear hk); (try clear hi); (try clear ho0); obtain ⟨Ao10, co10, eo10⟩ := Kd.R_slice HO276.out; subst eo10) | ((with_reducible refine gate_callee (f := 8) rfl ?_); refine goesL_ (some 26) rfl rfl Tryd.func8 (by kernel_rfl) rfl #[.slice Ao10 t274.length co10] rfl (by (try simp only [List.map_toArray, List.map_cons, List.map_nil]); first | done | rfl | (simp only [List.length_drop, List.length_take]; rfl)) ?_; (with_reducible refine (impl_ListText.calls k _ _ t274 t277 t278 _ ?side1 ?side2 A6.out).mono ?_); (case side1 => repeat (first | exact (Kd.R_reads' HO276.out).2.2 | (with_reducible refine Kd.C_alloc ?_ _) | (with_reducible refine Kd.C_drewN ?_ _) | (with_reducible refine Kd.C_drew ?_))); (case side2 => exact (Kd.R_reads' HO276.out).2.1); rintro e w11 ⟨rfl, hb⟩; refine ⟨_, rfl, ?_⟩; have n0_ := Aside0.mk (Kd.R_below (by (with_reducible repeat (first | apply Kd.R_alloc | apply Kd.R_drewN | apply Kd.R_drew)); exact HO276.out) hb); have n1_ := Aside0.mk (below_step (by repeat (first | (with_reducible first | exact HB.out | apply below_alloc | apply pw_below_drewN | apply below_drew1) | exact HB.out)) hb); clear HO276; clear HB; have HO276 := n0_; have HB := n1_; clear n0_ n1_; (try clear hb); (try clear hb2); (try clear hk); (try clear hi)) | ((with_reducible refine gate_callee (f := 9) rfl ?_); refine goesL_ (some 31) rfl rfl Tryd.func9 (by kernel_rfl) rfl #[.slice Ao10 t274.length co10] rfl (by (try simp only [List.map_toArray, List.map_cons, List.map_nil]); first | done | rfl | (simp only [List.length_drop, List.length_take]; rfl)) ?_; (with_reducible refine (spec_ListText.calls k _ _ t274 t279 t280 _ ?side1 ?side2 A7.out).mono ?_); (case side1 => repeat (first | exact (Kd.R_reads' HO276.out).2.2 | (with_reducible refine Kd.C_alloc ?_ _) | (with_reducible refine Kd.C_drewN ?_ _) | (with_reducible refine Kd.C_drew ?_))); (case side2 => exact (Kd.R_reads' HO276.out).2.1); rintro e w12 ⟨rfl, hb⟩; refine ⟨_, rfl, ?_⟩; have n0_ := Aside0.mk (Kd.R_below (by (with_reducible repeat (first | apply Kd.R_alloc | apply Kd.R_drewN | apply Kd.R_drew)); exact HO276.out) hb); have n1_ := Aside0.mk (below_step (by repeat (first | (with_reducible first | exact HB.out | apply below_alloc | apply pw_below_drewN | apply below_drew1) | exact HB.out)) hb); clear HO276; clear HB; have HO276 := n0_; have HB := n1_; clear n0_ n1_; (try clear hb); (try clear hb2); (try clear hk); (try clear hi)))
    (try simp only [Act.put, List.setIfInBounds_toArray, List.set_cons_zero, List.set_cons_succ])
    go_cut [47] (fun v47 wc => ∃ (kq : Nat) (x47_7 : Bool), v47 = .bool x47_7 ∧ Aside0 (laws_FnListTexts.j0 kq l1 t274 t277 t278 x47_7 = some r) ∧ Aside0 (kq ≤ k) ∧ Aside0 (Kd.R (Kd.int .i64) 3 wc w.heap.size (fun _ => True) (.slice Ao10 t274.length co10) t274) ∧ Aside0 (Below w.heap.size w wc))
    case first => as_aux_lemma =>
      have H := HC8.out
      clear HC8
      by_cases c13 : (t278 != t280) = true
      · rw [if_pos c13] at H
        have c13b0 : (t278 != t280) = true := c13
        (try (have c13b1 : decide (t278 = t280) = false := by simpa using c13))
        (try (have c13b2 : (t278 == t280) = false := by simpa using c13))
        (try (have c13b3 : ¬ (t278 = t280) := by simpa using c13))
        clear c13
        (first | rw [c13b0] | (simp only [i64_w, i32_w]; rw [c13b0]) | skip)
        have H' := Aside0.mk H
        clear H
        go_wp2
        go_meet
        case rel => exact ⟨_, (true), (by first | rfl | (simp; done) | (simp [*]; done)), H', ⟨by first | omega | exact Nat.le_refl _⟩, ⟨by (with_reducible repeat (first | apply Kd.R_alloc | apply Kd.R_drewN | apply Kd.R_drew)); exact HO276.out⟩, ⟨by repeat (first | (with_reducible first | exact HB.out | apply below_alloc | apply pw_below_drewN | apply below_drew1) | exact HB.out)⟩⟩
      · rw [if_neg c13] at H
        have c13b0 : (t278 != t280) = false := by simpa using c13
        (try (have c13b1 : decide (t278 = t280) = true := by simpa using c13))
        (try (have c13b2 : (t278 == t280) = true := by simpa using c13))
        clear c13
        (first | rw [c13b0] | (simp only [i64_w, i32_w]; rw [c13b0]) | skip)
        by_cases c14 : t277.toList = t279.toList
        · rw [if_pos c14] at H
          have c14b0 : (t277.toList == t279.toList) = true := beq_iff_eq.mpr c14
          have c14b1 : (t277.toList != t279.toList) = false := bne_eq_false_iff_eq.mpr c14
          clear c14
          replace H := Option.bind_eq_some_iff.mp H
          obtain ⟨t281, A150, H⟩ := H
          replace H : (laws_FnListTexts.j0 k l1 t274 t277 t278 (t278 != t281)) = some r := H
          have A15 := Aside0.mk A150
          clear A150
          have H' := Aside0.mk H
          clear H
          go_wp2_with (first | (go_at_call 10; (with_reducible refine (impl_IsList.calls k _ _ t274 t281 _ ?side1 ?side2 A15.out).mono ?_); (case side1 => repeat (first | exact (Kd.R_reads' HO276.out).2.2 | (with_reducible refine Kd.C_alloc ?_ _) | (with_reducible refine Kd.C_drewN ?_ _) | (with_reducible refine Kd.C_drew ?_))); (case side2 => exact (Kd.R_reads' HO276.out).2.1); rintro e w' ⟨rfl, ⟨nd, rfl⟩⟩))
          go_meet
          case rel => exact ⟨_, ((t278 != t281)), (by first | rfl | (simp; done) | (simp [*]; done)), H', ⟨by first | omega | exact Nat.le_refl _⟩, ⟨by (with_reducible repeat (first | apply Kd.R_alloc | apply Kd.R_drewN | apply Kd.R_drew)); exact HO276.out⟩, ⟨by repeat (first | (with_reducible first | exact HB.out | apply below_alloc | apply pw_below_drewN | apply below_drew1) | exact HB.out)⟩⟩
        · rw [if_neg c14] at H
          have c14b0 : (t277.toList == t279.toList) = false := beq_eq_false_iff_ne.mpr c14
          have c14b1 : (t277.toList != t279.toList) = true := bne_iff_ne.mpr c14
          have H' := Aside0.mk H
          clear H
          go_wp2
          go_meet
          case rel => exact ⟨_, (true), (by first | rfl | (simp; done) | (simp [*]; done)), H', ⟨by first | omega | exact Nat.le_refl _⟩, ⟨by (with_reducible repeat (first | apply Kd.R_alloc | apply Kd.R_drewN | apply Kd.R_drew)); exact HO276.out⟩, ⟨by repeat (first | (with_reducible first | exact HB.out | apply below_alloc | apply pw_below_drewN | apply below_drew1) | exact HB.out)⟩⟩
    case rest => as_aux_lemma =>
      clear HC8
      try clear c1
      try clear p2
      try clear c3
      try clear c4
      try clear c6
      try clear c7
      try clear c8
      try clear c9
      try clear c13
      try clear c13b0
      try clear c13b1
      try clear c13b2
      try clear c14
      try clear c14b0
      try clear c14b1
      obtain ⟨kq, x47_7, rfl, HA, HJ7, HO_5, HB⟩ := hcut
      cases kq with
      | zero => exact absurd HA.out (by simp [laws_FnListTexts.j0])
      | succ kj7 =>
        have H := HA.out
        clear HA
        simp only [laws_FnListTexts.j0] at H
        by_cases c16 : x47_7 = true
        · subst c16
          have H1 : (some false) = some r := by rw [if_pos rfl] at H; exact H
          clear H
          have H := H1
          clear H1
          obtain rfl := Option.some.inj H
          go_wp2
          go_ret
          exact ⟨by first | rfl | (simp [errW_none, errW_some] <;> rfl) | (simp [*, errW_none, errW_some] <;> rfl), by repeat (first | (with_reducible first | exact HB.out | apply below_alloc | apply pw_below_drewN | apply below_drew1) | exact HB.out)⟩
        · replace c16 := Bool.eq_false_iff.mpr c16
          subst c16
          have H1 : (if t278 = true then ((impl_ParseList.f kj7 t277).bind fun bt282 => (if bt282.2 = true then ((laws_pSame.f kj7 bt282.1 t274).bind fun t286 => (if t286 = true then (laws_FnListTexts.j1 kj7 l1) else (some false))) else (some false))) else (laws_FnListTexts.j1 kj7 l1)) = some r := by rw [if_neg (show ¬ (false = true) by decide)] at H; exact H
          clear H
          have H := H1
          clear H1
          have HC17 := Aside0.mk H
          clear H
          go_upto_if 48 with (fail)
          go_cut [] (fun wc => ∃ (kq : Nat), Aside0 (laws_FnListTexts.j1 kq l1 = some r) ∧ Aside0 (kq ≤ kj7) ∧ Aside0 (Below w.heap.size w wc))
          case first => as_aux_lemma =>
            have H := HC17.out
            clear HC17
            by_cases c18 : t278 = true
            · subst c18
              have H1 : ((impl_ParseList.f kj7 t277).bind fun bt282 => (if bt282.2 = true then ((laws_pSame.f kj7 bt282.1 t274).bind fun t286 => (if t286 = true then (laws_FnListTexts.j1 kj7 l1) else (some false))) else (some false))) = some r := by rw [if_pos rfl] at H; exact H
              clear H
              have H := H1
              clear H1
              replace H := Option.bind_eq_some_iff.mp H
              obtain ⟨⟨t282, t283⟩, A190, H⟩ := H
              replace H : (if t283 = true then ((laws_pSame.f kj7 t282 t274).bind fun t286 => (if t286 = true then (laws_FnListTexts.j1 kj7 l1) else (some false))) else (some false)) = some r := H
              have A19 := Aside0.mk A190
              clear A190
              by_cases c20 : t283 = true
              · subst c20
                have H1 : ((laws_pSame.f kj7 t282 t274).bind fun t286 => (if t286 = true then (laws_FnListTexts.j1 kj7 l1) else (some false))) = some r := by rw [if_pos rfl] at H; exact H
                clear H
                have H := H1
                clear H1
                replace H := Option.bind_eq_some_iff.mp H
                obtain ⟨t286, A210, H⟩ := H
                replace H : (if t286 = true then (laws_FnListTexts.j1 kj7 l1) else (some false)) = some r := H
                have A21 := Aside0.mk A210
                clear A210
                by_cases c22 : t286 = true
                · subst c22
                  have H1 : (laws_FnListTexts.j1 kj7 l1) = some r := by rw [if_pos rfl] at H; exact H
                  clear H
                  have H := H1
                  clear H1
                  have H' := Aside0.mk H
                  clear H
                  go_wp2_with (first | ((with_reducible refine gate_callee (f := 11) rfl ?_); refine goesL_ (some 51) rfl rfl Tryd.func11 (by kernel_rfl) rfl #[.string t277] rfl (by (try simp only [List.map_toArray, List.map_cons, List.map_nil]); first | done | rfl | (simp only [List.length_drop, List.length_take]; rfl)) ?_; (with_reducible refine (impl_ParseList.calls kj7 t277 t282 true _ A19.out).mono ?_); rintro e w23 ⟨v284, rfl, ho0, hb⟩; refine ⟨_, rfl, ?_⟩; have n0_ := Aside0.mk (Kd.R_elder' (by (with_reducible repeat (first | apply Kd.R_alloc | apply Kd.R_drewN | apply Kd.R_drew)); exact HO_5.out) (Kd.R_base ho0) hb); have n1_ := Aside0.mk (Kd.R_lower (Kd.R_new' ho0 (Kd.R_lt (by (with_reducible repeat (first | apply Kd.R_alloc | apply Kd.R_drewN | apply Kd.R_drew)); exact HO_5.out))) (below_size (by repeat (first | (with_reducible first | exact HB.out | apply below_alloc | apply pw_below_drewN | apply below_drew1) | exact HB.out)))); have n2_ := Aside0.mk (below_step (by repeat (first | (with_reducible first | exact HB.out | apply below_alloc | apply pw_below_drewN | apply below_drew1) | exact HB.out)) hb); clear HO_5; clear HB; have HO_5 := n0_; have HO285 := n1_; have HB := n2_; clear n0_ n1_ n2_; (try clear hb); (try clear hb2); (try clear hk); (try clear hi); (try clear ho0); obtain ⟨Ao24, co24, eo24⟩ := Kd.R_slice HO285.out; subst eo24) | (go_at_call 12; (with_reducible refine (laws_pSame.calls kj7 _ _ t282 _ _ t274 true _ ?side1 ?side2 ?side3 ?side4 A21.out).mono ?_); (case side1 => repeat (first | exact (Kd.R_reads' HO285.out).2.2 | (with_reducible refine Kd.C_alloc ?_ _) | (with_reducible refine Kd.C_drewN ?_ _) | (with_reducible refine Kd.C_drew ?_))); (case side2 => exact (Kd.R_reads' HO285.out).2.1); (case side3 => repeat (first | exact (Kd.R_reads' HO_5.out).2.2 | (with_reducible refine Kd.C_alloc ?_ _) | (with_reducible refine Kd.C_drewN ?_ _) | (with_reducible refine Kd.C_drew ?_))); (case side4 => exact (Kd.R_reads' HO_5.out).2.1); rintro e w' ⟨rfl, ⟨nd, rfl⟩⟩))
                  go_meet
                  case rel => exact ⟨_, H', ⟨by have := HJ7.out; first | omega | exact Nat.le_refl _⟩, ⟨by repeat (first | (with_reducible first | exact HB.out | apply below_alloc | apply pw_below_drewN | apply below_drew1) | exact HB.out)⟩⟩
                · replace c22 := Bool.eq_false_iff.mpr c22
                  subst c22
                  have H1 : (some false) = some r := by rw [if_neg (show ¬ (false = true) by decide)] at H; exact H
                  clear H
                  have H := H1
                  clear H1
                  obtain rfl := Option.some.inj H
                  go_wp2_with (first | ((with_reducible refine gate_callee (f := 11) rfl ?_); refine goesL_ (some 51) rfl rfl Tryd.func11 (by kernel_rfl) rfl #[.string t277] rfl (by (try simp only [List.map_toArray, List.map_cons, List.map_nil]); first | done | rfl | (simp only [List.length_drop, List.length_take]; rfl)) ?_; (with_reducible refine (impl_ParseList.calls kj7 t277 t282 true _ A19.out).mono ?_); rintro e w25 ⟨v284, rfl, ho0, hb⟩; refine ⟨_, rfl, ?_⟩; have n0_ := Aside0.mk (Kd.R_elder' (by (with_reducible repeat (first | apply Kd.R_alloc | apply Kd.R_drewN | apply Kd.R_drew)); exact HO_5.out) (Kd.R_base ho0) hb); have n1_ := Aside0.mk (Kd.R_lower (Kd.R_new' ho0 (Kd.R_lt (by (with_reducible repeat (first | apply Kd.R_alloc | apply Kd.R_drewN | apply Kd.R_drew)); exact HO_5.out))) (below_size (by repeat (first | (with_reducible first | exact HB.out | apply below_alloc | apply pw_below_drewN | apply below_drew1) | exact HB.out)))); have n2_ := Aside0.mk (below_step (by repeat (first | (with_reducible first | exact HB.out | apply below_alloc | apply pw_below_drewN | apply below_drew1) | exact HB.out)) hb); clear HO_5; clear HB; have HO_5 := n0_; have HO285 := n1_; have HB := n2_; clear n0_ n1_ n2_; (try clear hb); (try clear hb2); (try clear hk); (try clear hi); (try clear ho0); obtain ⟨Ao26, co26, eo26⟩ := Kd.R_slice HO285.out; subst eo26) | (go_at_call 12; (with_reducible refine (laws_pSame.calls kj7 _ _ t282 _ _ t274 false _ ?side1 ?side2 ?side3 ?side4 A21.out).mono ?_); (case side1 => repeat (first | exact (Kd.R_reads' HO285.out).2.2 | (with_reducible refine Kd.C_alloc ?_ _) | (with_reducible refine Kd.C_drewN ?_ _) | (with_reducible refine Kd.C_drew ?_))); (case side2 => exact (Kd.R_reads' HO285.out).2.1); (case side3 => repeat (first | exact (Kd.R_reads' HO_5.out).2.2 | (with_reducible refine Kd.C_alloc ?_ _) | (with_reducible refine Kd.C_drewN ?_ _) | (with_reducible refine Kd.C_drew ?_))); (case side4 => exact (Kd.R_reads' HO_5.out).2.1); rintro e w' ⟨rfl, ⟨nd, rfl⟩⟩))
                  go_ret
                  exact ⟨by first | rfl | (simp [errW_none, errW_some] <;> rfl) | (simp [*, errW_none, errW_some] <;> rfl), by repeat (first | (with_reducible first | exact HB.out | apply below_alloc | apply pw_below_drewN | apply below_drew1) | exact HB.out)⟩
              · replace c20 := Bool.eq_false_iff.mpr c20
                subst c20
                have H1 : (some false) = some r := by rw [if_neg (show ¬ (false = true) by decide)] at H; exact H
                clear H
                have H := H1
                clear H1
                obtain rfl := Option.some.inj H
                go_wp2_with (first | ((with_reducible refine gate_callee (f := 11) rfl ?_); refine goesL_ (some 51) rfl rfl Tryd.func11 (by kernel_rfl) rfl #[.string t277] rfl (by (try simp only [List.map_toArray, List.map_cons, List.map_nil]); first | done | rfl | (simp only [List.length_drop, List.length_take]; rfl)) ?_; (with_reducible refine (impl_ParseList.calls kj7 t277 t282 false _ A19.out).mono ?_); rintro e w27 ⟨v284, rfl, ho0, hb⟩; refine ⟨_, rfl, ?_⟩; have n0_ := Aside0.mk (Kd.R_elder' (by (with_reducible repeat (first | apply Kd.R_alloc | apply Kd.R_drewN | apply Kd.R_drew)); exact HO_5.out) (Kd.R_base ho0) hb); have n1_ := Aside0.mk (Kd.R_lower (Kd.R_new' ho0 (Kd.R_lt (by (with_reducible repeat (first | apply Kd.R_alloc | apply Kd.R_drewN | apply Kd.R_drew)); exact HO_5.out))) (below_size (by repeat (first | (with_reducible first | exact HB.out | apply below_alloc | apply pw_below_drewN | apply below_drew1) | exact HB.out)))); have n2_ := Aside0.mk (below_step (by repeat (first | (with_reducible first | exact HB.out | apply below_alloc | apply pw_below_drewN | apply below_drew1) | exact HB.out)) hb); clear HO_5; clear HB; have HO_5 := n0_; have HO285 := n1_; have HB := n2_; clear n0_ n1_ n2_; (try clear hb); (try clear hb2); (try clear hk); (try clear hi); (try clear ho0)))
                go_ret
                exact ⟨by first | rfl | (simp [errW_none, errW_some] <;> rfl) | (simp [*, errW_none, errW_some] <;> rfl), by repeat (first | (with_reducible first | exact HB.out | apply below_alloc | apply pw_below_drewN | apply below_drew1) | exact HB.out)⟩
            · replace c18 := Bool.eq_false_iff.mpr c18
              subst c18
              have H1 : (laws_FnListTexts.j1 kj7 l1) = some r := by rw [if_neg (show ¬ (false = true) by decide)] at H; exact H
              clear H
              have H := H1
              clear H1
              have H' := Aside0.mk H
              clear H
              go_wp2
              go_meet
              case rel => exact ⟨_, H', ⟨by have := HJ7.out; first | omega | exact Nat.le_refl _⟩, ⟨by repeat (first | (with_reducible first | exact HB.out | apply below_alloc | apply pw_below_drewN | apply below_drew1) | exact HB.out)⟩⟩
          case rest => as_aux_lemma =>
            clear HC17
            try clear c1
            try clear c2
            try clear p2
            try clear c3
            try clear c4
            try clear c6
            try clear c7
            try clear c8
            try clear c9
            try clear c11
            try clear c13
            try clear c13b0
            try clear c13b1
            try clear c13b2
            try clear c14
            try clear c14b0
            try clear c14b1
            try clear c16
            try clear c18
            try clear c20
            try clear c22
            try clear p2
            obtain ⟨kq, HA, HJ16, HB⟩ := hcut
            cases kq with
            | zero => exact absurd HA.out (by simp [laws_FnListTexts.j1])
            | succ kj16 =>
              have H := HA.out
              clear HA
              simp only [laws_FnListTexts.j1] at H
              replace H := Option.bind_eq_some_iff.mp H
              obtain ⟨t287, A280, H⟩ := H
              replace H : ((impl_ParseList.f kj16 t287).bind fun bt288 => ((spec_ParseList.f kj16 t287).bind fun bt292 => (if (bt288.2 != bt292.2) = true then (laws_FnListTexts.j2 kj16 t287 bt288.1 bt288.2 true) else ((laws_pSame.f kj16 bt288.1 bt292.1).bind fun t296 => (laws_FnListTexts.j2 kj16 t287 bt288.1 bt288.2 (!t296)))))) = some r := H
              have A28 := Aside0.mk A280
              clear A280
              replace H := Option.bind_eq_some_iff.mp H
              obtain ⟨⟨t288, t289⟩, A290, H⟩ := H
              replace H : ((spec_ParseList.f kj16 t287).bind fun bt292 => (if (t289 != bt292.2) = true then (laws_FnListTexts.j2 kj16 t287 t288 t289 true) else ((laws_pSame.f kj16 t288 bt292.1).bind fun t296 => (laws_FnListTexts.j2 kj16 t287 t288 t289 (!t296))))) = some r := H
              have A29 := Aside0.mk A290
              clear A290
              replace H := Option.bind_eq_some_iff.mp H
              obtain ⟨⟨t292, t293⟩, A300, H⟩ := H
              replace H : (if (t289 != t293) = true then (laws_FnListTexts.j2 kj16 t287 t288 t289 true) else ((laws_pSame.f kj16 t288 t292).bind fun t296 => (laws_FnListTexts.j2 kj16 t287 t288 t289 (!t296)))) = some r := H
              have A30 := Aside0.mk A300
              clear A300
              have HC31 := Aside0.mk H
              clear H
              go_upto_region 15 with (first | ((with_reducible refine gate_callee (f := 13) rfl ?_); refine goesL_ (some 63) rfl rfl Tryd.func13 (by kernel_rfl) rfl #[.slice A1 l1.length c1] rfl (by (try simp only [List.map_toArray, List.map_cons, List.map_nil]); first | done | rfl | (simp only [List.length_drop, List.length_take]; rfl)) ?_; (with_reducible refine (spec_DrawParseList.calls kj16 _ _ l1 t287 _ ?side1 ?side2 A28.out).mono ?_); (case side1 => repeat (first | exact (Kd.C_below HR1.out HB.out) | (with_reducible refine Kd.C_alloc ?_ _) | (with_reducible refine Kd.C_drewN ?_ _) | (with_reducible refine Kd.C_drew ?_))); (case side2 => exact HC1.out); rintro e w32 ⟨rfl, hb⟩; refine ⟨_, rfl, ?_⟩; have n0_ := Aside0.mk (below_step (by repeat (first | (with_reducible first | exact HB.out | apply below_alloc | apply pw_below_drewN | apply below_drew1) | exact HB.out)) hb); clear HB; have HB := n0_; clear n0_; (try clear hb); (try clear hb2); (try clear hk); (try clear hi)) | ((with_reducible refine gate_callee (f := 11) rfl ?_); refine goesL_ (some 66) rfl rfl Tryd.func11 (by kernel_rfl) rfl #[.string t287] rfl (by (try simp only [List.map_toArray, List.map_cons, List.map_nil]); first | done | rfl | (simp only [List.length_drop, List.length_take]; rfl)) ?_; (with_reducible refine (impl_ParseList.calls kj16 t287 t288 t289 _ A29.out).mono ?_); rintro e w33 ⟨v290, rfl, ho0, hb⟩; refine ⟨_, rfl, ?_⟩; have n0_ := Aside0.mk (Kd.R_lower ho0 (below_size (by repeat (first | (with_reducible first | exact HB.out | apply below_alloc | apply pw_below_drewN | apply below_drew1) | exact HB.out)))); have n1_ := Aside0.mk (below_step (by repeat (first | (with_reducible first | exact HB.out | apply below_alloc | apply pw_below_drewN | apply below_drew1) | exact HB.out)) hb); clear HB; have HO291 := n0_; have HB := n1_; clear n0_ n1_; (try clear hb); (try clear hb2); (try clear hk); (try clear hi); (try clear ho0)) | ((with_reducible refine gate_callee (f := 14) rfl ?_); refine goesL_ (some 71) rfl rfl Tryd.func14 (by kernel_rfl) rfl #[.string t287] rfl (by (try simp only [List.map_toArray, List.map_cons, List.map_nil]); first | done | rfl | (simp only [List.length_drop, List.length_take]; rfl)) ?_; (with_reducible refine (spec_ParseList.calls kj16 t287 t292 t293 _ A30.out).mono ?_); rintro e w34 ⟨v294, rfl, ho0, hb⟩; refine ⟨_, rfl, ?_⟩; have n0_ := Aside0.mk (Kd.R_elder' (by (with_reducible repeat (first | apply Kd.R_alloc | apply Kd.R_drewN | apply Kd.R_drew)); exact HO291.out) (Kd.R_base ho0) hb); have n1_ := Aside0.mk (Kd.R_lower (Kd.R_new' ho0 (Kd.R_lt (by (with_reducible repeat (first | apply Kd.R_alloc | apply Kd.R_drewN | apply Kd.R_drew)); exact HO291.out))) (below_size (by repeat (first | (with_reducible first | exact HB.out | apply below_alloc | apply pw_below_drewN | apply below_drew1) | exact HB.out)))); have n2_ := Aside0.mk (below_step (by repeat (first | (with_reducible first | exact HB.out | apply below_alloc | apply pw_below_drewN | apply below_drew1) | exact HB.out)) hb); clear HO291; clear HB; have HO291 := n0_; have HO295 := n1_; have HB := n2_; clear n0_ n1_ n2_; (try clear hb); (try clear hb2); (try clear hk); (try clear hi); (try clear ho0)))
              (try simp only [Act.put, List.setIfInBounds_toArray, List.set_cons_zero, List.set_cons_succ])
              go_cut [82] (fun v82 wc => ∃ (kq : Nat) (x82_30 : Bool), v82 = .bool x82_30 ∧ Aside0 (laws_FnListTexts.j2 kq t287 t288 t289 x82_30 = some r) ∧ Aside0 (kq ≤ kj16) ∧ Aside0 (Kd.R (Kd.int .i64) 3 wc w.heap.size (fun _ => True) v290 t288) ∧ Aside0 (Below w.heap.size w wc))
              case first => as_aux_lemma =>
                have H := HC31.out
                clear HC31
                by_cases c35 : (t289 != t293) = true
                · rw [if_pos c35] at H
                  have c35b0 : (t289 != t293) = true := c35
                  (try (have c35b1 : decide (t289 = t293) = false := by simpa using c35))
                  (try (have c35b2 : (t289 == t293) = false := by simpa using c35))
                  (try (have c35b3 : ¬ (t289 = t293) := by simpa using c35))
                  clear c35
                  (first | rw [c35b0] | (simp only [i64_w, i32_w]; rw [c35b0]) | skip)
                  have H' := Aside0.mk H
                  clear H
                  go_wp2
                  go_meet
                  case rel => exact ⟨_, (true), (by first | rfl | (simp; done) | (simp [*]; done)), H', ⟨by have := HJ7.out; have := HJ16.out; first | omega | exact Nat.le_refl _⟩, ⟨by (with_reducible repeat (first | apply Kd.R_alloc | apply Kd.R_drewN | apply Kd.R_drew)); exact Kd.R_mono HO291.out (fun _ hk => trivial)⟩, ⟨by repeat (first | (with_reducible first | exact HB.out | apply below_alloc | apply pw_below_drewN | apply below_drew1) | exact HB.out)⟩⟩
                · rw [if_neg c35] at H
                  have c35b0 : (t289 != t293) = false := by simpa using c35
                  (try (have c35b1 : decide (t289 = t293) = true := by simpa using c35))
                  (try (have c35b2 : (t289 == t293) = true := by simpa using c35))
                  clear c35
                  (first | rw [c35b0] | (simp only [i64_w, i32_w]; rw [c35b0]) | skip)
                  replace H := Option.bind_eq_some_iff.mp H
                  obtain ⟨t296, A360, H⟩ := H
                  replace H : (laws_FnListTexts.j2 kj16 t287 t288 t289 (!t296)) = some r := H
                  have A36 := Aside0.mk A360
                  clear A360
                  have H' := Aside0.mk H
                  clear H
                  obtain ⟨Ao37, co37, eo37⟩ := Kd.R_slice HO291.out
                  subst eo37
                  obtain ⟨Ao38, co38, eo38⟩ := Kd.R_slice HO295.out
                  subst eo38
                  go_wp2_with (first | (go_at_call 12; (with_reducible refine (laws_pSame.calls kj16 _ _ t288 _ _ t292 t296 _ ?side1 ?side2 ?side3 ?side4 A36.out).mono ?_); (case side1 => repeat (first | exact (Kd.R_reads' HO291.out).2.2 | (with_reducible refine Kd.C_alloc ?_ _) | (with_reducible refine Kd.C_drewN ?_ _) | (with_reducible refine Kd.C_drew ?_))); (case side2 => exact (Kd.R_reads' HO291.out).2.1); (case side3 => repeat (first | exact (Kd.R_reads' HO295.out).2.2 | (with_reducible refine Kd.C_alloc ?_ _) | (with_reducible refine Kd.C_drewN ?_ _) | (with_reducible refine Kd.C_drew ?_))); (case side4 => exact (Kd.R_reads' HO295.out).2.1); rintro e w' ⟨rfl, ⟨nd, rfl⟩⟩))
                  go_meet
                  case rel => exact ⟨_, (!t296), (by first | rfl | (simp; done) | (simp [*]; done)), H', ⟨by have := HJ7.out; have := HJ16.out; first | omega | exact Nat.le_refl _⟩, ⟨by (with_reducible repeat (first | apply Kd.R_alloc | apply Kd.R_drewN | apply Kd.R_drew)); exact Kd.R_mono HO291.out (fun _ hk => trivial)⟩, ⟨by repeat (first | (with_reducible first | exact HB.out | apply below_alloc | apply pw_below_drewN | apply below_drew1) | exact HB.out)⟩⟩
              case rest => as_aux_lemma =>
                clear HC31
                try clear c1
                try clear c2
                try clear p2
                try clear c3
                try clear c4
                try clear c6
                try clear c7
                try clear c8
                try clear c9
                try clear c11
                try clear c13
                try clear c13b0
                try clear c13b1
                try clear c13b2
                try clear c14
                try clear c14b0
                try clear c14b1
                try clear c16
                try clear c18
                try clear c20
                try clear c22
                try clear c35
                try clear c35b0
                try clear c35b1
                try clear c35b2
                try clear p2
                obtain ⟨kq, x82_30, rfl, HA, HJ30, HO_13, HB⟩ := hcut
                cases kq with
                | zero => exact absurd HA.out (by simp [laws_FnListTexts.j2])
                | succ kj30 =>
                  have H := HA.out
                  clear HA
                  simp only [laws_FnListTexts.j2] at H
                  by_cases c39 : x82_30 = true
                  · subst c39
                    have H1 : (some false) = some r := by rw [if_pos rfl] at H; exact H
                    clear H
                    have H := H1
                    clear H1
                    obtain rfl := Option.some.inj H
                    go_wp2
                    go_ret
                    exact ⟨by first | rfl | (simp [errW_none, errW_some] <;> rfl) | (simp [*, errW_none, errW_some] <;> rfl), by repeat (first | (with_reducible first | exact HB.out | apply below_alloc | apply pw_below_drewN | apply below_drew1) | exact HB.out)⟩
                  · replace c39 := Bool.eq_false_iff.mpr c39
                    subst c39
                    have H1 : (if t289 = true then ((impl_ListText.f kj30 t288).bind fun bt297 => (if bt297.2 = true then (some (bt297.1.toList == t287.toList)) else (some false))) else (some true)) = some r := by rw [if_neg (show ¬ (false = true) by decide)] at H; exact H
                    clear H
                    have H := H1
                    clear H1
                    by_cases c40 : t289 = true
                    · subst c40
                      have H1 : ((impl_ListText.f kj30 t288).bind fun bt297 => (if bt297.2 = true then (some (bt297.1.toList == t287.toList)) else (some false))) = some r := by rw [if_pos rfl] at H; exact H
                      clear H
                      have H := H1
                      clear H1
                      replace H := Option.bind_eq_some_iff.mp H
                      obtain ⟨⟨t297, t298⟩, A410, H⟩ := H
                      replace H : (if t298 = true then (some (t297.toList == t287.toList)) else (some false)) = some r := H
                      have A41 := Aside0.mk A410
                      clear A410
                      by_cases c42 : t298 = true
                      · subst c42
                        have H1 : (some (t297.toList == t287.toList)) = some r := by rw [if_pos rfl] at H; exact H
                        clear H
                        have H := H1
                        clear H1
                        obtain rfl := Option.some.inj H
                        obtain ⟨Ao43, co43, eo43⟩ := Kd.R_slice HO_13.out
                        subst eo43
                        go_wp2_with (first | ((with_reducible refine gate_callee (f := 8) rfl ?_); refine goesL_ (some 87) rfl rfl Tryd.func8 (by kernel_rfl) rfl #[.slice Ao43 t288.length co43] rfl (by (try simp only [List.map_toArray, List.map_cons, List.map_nil]); first | done | rfl | (simp only [List.length_drop, List.length_take]; rfl)) ?_; (with_reducible refine (impl_ListText.calls kj30 _ _ t288 t297 true _ ?side1 ?side2 A41.out).mono ?_); (case side1 => repeat (first | exact (Kd.R_reads' HO_13.out).2.2 | (with_reducible refine Kd.C_alloc ?_ _) | (with_reducible refine Kd.C_drewN ?_ _) | (with_reducible refine Kd.C_drew ?_))); (case side2 => exact (Kd.R_reads' HO_13.out).2.1); rintro e w44 ⟨rfl, hb⟩; refine ⟨_, rfl, ?_⟩; have n0_ := Aside0.mk (Kd.R_below (by (with_reducible repeat (first | apply Kd.R_alloc | apply Kd.R_drewN | apply Kd.R_drew)); exact HO_13.out) hb); have n1_ := Aside0.mk (below_step (by repeat (first | (with_reducible first | exact HB.out | apply below_alloc | apply pw_below_drewN | apply below_drew1) | exact HB.out)) hb); clear HO_13; clear HB; have HO_13 := n0_; have HB := n1_; clear n0_ n1_; (try clear hb); (try clear hb2); (try clear hk); (try clear hi)))
                        go_ret
                        exact ⟨by first | rfl | (simp [errW_none, errW_some] <;> rfl) | (simp [*, errW_none, errW_some] <;> rfl), by repeat (first | (with_reducible first | exact HB.out | apply below_alloc | apply pw_below_drewN | apply below_drew1) | exact HB.out)⟩
                      · replace c42 := Bool.eq_false_iff.mpr c42
                        subst c42
                        have H1 : (some false) = some r := by rw [if_neg (show ¬ (false = true) by decide)] at H; exact H
                        clear H
                        have H := H1
                        clear H1
                        obtain rfl := Option.some.inj H
                        obtain ⟨Ao45, co45, eo45⟩ := Kd.R_slice HO_13.out
                        subst eo45
                        go_wp2_with (first | ((with_reducible refine gate_callee (f := 8) rfl ?_); refine goesL_ (some 87) rfl rfl Tryd.func8 (by kernel_rfl) rfl #[.slice Ao45 t288.length co45] rfl (by (try simp only [List.map_toArray, List.map_cons, List.map_nil]); first | done | rfl | (simp only [List.length_drop, List.length_take]; rfl)) ?_; (with_reducible refine (impl_ListText.calls kj30 _ _ t288 t297 false _ ?side1 ?side2 A41.out).mono ?_); (case side1 => repeat (first | exact (Kd.R_reads' HO_13.out).2.2 | (with_reducible refine Kd.C_alloc ?_ _) | (with_reducible refine Kd.C_drewN ?_ _) | (with_reducible refine Kd.C_drew ?_))); (case side2 => exact (Kd.R_reads' HO_13.out).2.1); rintro e w46 ⟨rfl, hb⟩; refine ⟨_, rfl, ?_⟩; have n0_ := Aside0.mk (Kd.R_below (by (with_reducible repeat (first | apply Kd.R_alloc | apply Kd.R_drewN | apply Kd.R_drew)); exact HO_13.out) hb); have n1_ := Aside0.mk (below_step (by repeat (first | (with_reducible first | exact HB.out | apply below_alloc | apply pw_below_drewN | apply below_drew1) | exact HB.out)) hb); clear HO_13; clear HB; have HO_13 := n0_; have HB := n1_; clear n0_ n1_; (try clear hb); (try clear hb2); (try clear hk); (try clear hi)))
                        go_ret
                        exact ⟨by first | rfl | (simp [errW_none, errW_some] <;> rfl) | (simp [*, errW_none, errW_some] <;> rfl), by repeat (first | (with_reducible first | exact HB.out | apply below_alloc | apply pw_below_drewN | apply below_drew1) | exact HB.out)⟩
                    · replace c40 := Bool.eq_false_iff.mpr c40
                      subst c40
                      have H1 : (some true) = some r := by rw [if_neg (show ¬ (false = true) by decide)] at H; exact H
                      clear H
                      have H := H1
                      clear H1
                      obtain rfl := Option.some.inj H
                      go_wp2
                      go_ret
                      exact ⟨by first | rfl | (simp [errW_none, errW_some] <;> rfl) | (simp [*, errW_none, errW_some] <;> rfl), by repeat (first | (with_reducible first | exact HB.out | apply below_alloc | apply pw_below_drewN | apply below_drew1) | exact HB.out)⟩

/-- THE ONE PURE STATEMENT of laws_FnListTexts: yours. -/
def laws_FnListTexts.Pure : Prop := ∀ (l0 : List Int) (l1 : List Int), l0.length ≤ maxLen → l0.length * 1 ≤ 140737488351232 → (∀ x ∈ l0, (Lit.int .u8 x).wf = true) → l1.length ≤ maxLen → l1.length * 1 ≤ 140737488351232 → (∀ x ∈ l1, (Lit.int .u8 x).wf = true) → ∃ k, laws_FnListTexts.f k l0 l1 = some true
theorem laws_FnListTexts.walk (P : laws_FnListTexts.Pure) (a0 : Option Addr) (len0 cap0 : Nat) (z0 : List Int) (a1 : Option Addr) (len1 cap1 : Nat) (z1 : List Int) (w : World) (w0 : (a0 = none ∧ len0 = 0 ∧ cap0 = 0 ∧ z0 = []) ∨ ∃ x, a0 = some x ∧ len0 ≤ cap0 ∧ cap0 ≤ maxLen ∧ z0.length = cap0 ∧ (∀ i, i < z0.length → w.cell? (x.add i) = some (.int .u8 (z0.getD i 0))) ∧ ∀ n ∈ z0, (Lit.int .u8 n).wf = true) (y0 : len0 * 1 ≤ 140737488351232) (w1 : (a1 = none ∧ len1 = 0 ∧ cap1 = 0 ∧ z1 = []) ∨ ∃ x, a1 = some x ∧ len1 ≤ cap1 ∧ cap1 ≤ maxLen ∧ z1.length = cap1 ∧ (∀ i, i < z1.length → w.cell? (x.add i) = some (.int .u8 (z1.getD i 0))) ∧ ∀ n ∈ z1, (Lit.int .u8 n).wf = true) (y1 : len1 * 1 ≤ 140737488351232) (hT : StrZ w) :
    Calls Tryd.prog 3 #[.slice a0 len0 cap0, .slice a1 len1 cap1] w fun e w' => e = .returned (.bool true) ∧ Below w.heap.size w w' := by
  have HT := Aside0.mk hT
  clear hT
  have HB := Aside0.mk (Below.refl w.heap.size w)
  obtain ⟨l0, rfl, hr0, hm0, hw0, hc0⟩ := ReadsInt.ofRowC w0
  obtain ⟨l1, rfl, hr1, hm1, hw1, hc1⟩ := ReadsInt.ofRowC w1
  obtain ⟨k, h⟩ := P l0 l1 hm0 y0 hw0 hm1 y1 hw1
  refine (laws_FnListTexts.calls k _ _ l0 _ _ l1 true w (Kd.C_of_reads (d := (0 : Int)) (h1 := fun _ => rfl) hr0) hc0 (Kd.C_of_reads (d := (0 : Int)) (h1 := fun _ => rfl) hr1) hc1 h).mono ?_
  rintro e w' ⟨rfl, hd⟩
  exact ⟨rfl, hd⟩

end Go.Proofs.YtimkfjekbimmhaaDoor.A

namespace Go.Proofs.YtimkfjekbimmhaaDoor.A
open Go.RowKit Go.Proofs.YtimkfjekbimmhaaDoorW.PrintWords Go.Proofs.YtimkfjekbimmhaaDoorW.PrintLast Go.Proofs.YtimkfjekbimmhaaDoorW.PrintMore
set_option linter.unusedVariables false
set_option linter.unusedSimpArgs false
theorem l1In_eq (a b c : Int) : spec_l1In.f a b c = some (decide (b ≤ a ∧ a ≤ c)) := by
  unfold spec_l1In.f
  by_cases h : b ≤ a <;> simp [h]
theorem within_eq (a b c : Int) : impl_within.f a b c = some (decide (b ≤ a ∧ a ≤ c)) := by
  unfold impl_within.f
  by_cases h : b ≤ a <;> simp [h]
end Go.Proofs.YtimkfjekbimmhaaDoor.A

namespace Go.Proofs.YtimkfjekbimmhaaDoor.A
open Go.RowKit Go.Proofs.YtimkfjekbimmhaaDoorW.PrintWords Go.Proofs.YtimkfjekbimmhaaDoorW.PrintLast Go.Proofs.YtimkfjekbimmhaaDoorW.PrintMore
set_option linter.unusedVariables false
set_option linter.unusedSimpArgs false
def inR (lo hi : Int) (xs : List Int) : Bool := xs.all fun x => decide (lo ≤ x ∧ x ≤ hi)
theorem l1All_ev (xs : List Int) (lo hi : Int) (hx : xs.length ≤ 9223372036854775807) : Ev (fun k => spec_l1All.f k xs lo hi) (inR lo hi xs) := by
  have h := ev_all (xs := xs) (g := fun k i => spec_l1All.l0 k lo hi xs (xs.length : Int) i) (fun x => decide (lo ≤ x ∧ x ≤ hi))
    (Ev.succ (by simp only [spec_l1All.l0, if_neg (Int.lt_irrefl _)]; exact Ev.now _))
    (fun i h r hp hr => Ev.succ (by
      simp only [spec_l1All.l0, if_pos (show (i : Int) < (xs.length : Int) by omega), if_pos (show (0 : Int) ≤ (i : Int) by omega), rdn h, l1In_eq, Option.bind_some, hp, if_true, wsucc h hx]
      exact hr))
    (fun i h hp => Ev.succ (by
      simp only [spec_l1All.l0, if_pos (show (i : Int) < (xs.length : Int) by omega), if_pos (show (0 : Int) ≤ (i : Int) by omega), rdn h, l1In_eq, Option.bind_some, hp]
      exact Ev.now _)) xs.length 0 (by omega)
  exact h
theorem allWithin_ev (xs : List Int) (lo hi : Int) (hx : xs.length ≤ 9223372036854775807) : Ev (fun k => impl_allWithin.f k xs lo hi) (inR lo hi xs) := by
  have h := ev_all (xs := xs) (g := fun k i => impl_allWithin.l0 k lo hi xs (xs.length : Int) i) (fun x => decide (lo ≤ x ∧ x ≤ hi))
    (Ev.succ (by simp only [impl_allWithin.l0, if_neg (Int.lt_irrefl _)]; exact Ev.now _))
    (fun i h r hp hr => Ev.succ (by
      simp only [impl_allWithin.l0, if_pos (show (i : Int) < (xs.length : Int) by omega), if_pos (show (0 : Int) ≤ (i : Int) by omega), rdn h, within_eq, Option.bind_some, hp, if_true, wsucc h hx]
      exact hr))
    (fun i h hp => Ev.succ (by
      simp only [impl_allWithin.l0, if_pos (show (i : Int) < (xs.length : Int) by omega), if_pos (show (0 : Int) ≤ (i : Int) by omega), rdn h, within_eq, Option.bind_some, hp]
      exact Ev.now _)) xs.length 0 (by omega)
  exact h
end Go.Proofs.YtimkfjekbimmhaaDoor.A

namespace Go.Proofs.YtimkfjekbimmhaaDoor.A
open Go.RowKit Go.Proofs.YtimkfjekbimmhaaDoorW.PrintWords Go.Proofs.YtimkfjekbimmhaaDoorW.PrintLast Go.Proofs.YtimkfjekbimmhaaDoorW.PrintMore
set_option linter.unusedVariables false
set_option linter.unusedSimpArgs false
def goodL (xs : List Int) : Bool := if (1 : Int) ≤ xs.length ∧ (xs.length : Int) ≤ 8 then inR 0 60 xs else false
theorem goodL_iff (xs : List Int) : goodL xs = true ↔ 1 ≤ xs.length ∧ xs.length ≤ 8 ∧ ∀ x ∈ xs, 0 ≤ x ∧ x ≤ 60 := by
  unfold goodL inR
  by_cases h : (1 : Int) ≤ xs.length ∧ (xs.length : Int) ≤ 8
  · rw [if_pos h]
    simp only [List.all_eq_true, decide_eq_true_eq]
    exact ⟨fun h' => ⟨by omega, by omega, h'⟩, fun h' => h'.2.2⟩
  · rw [if_neg h]
    constructor
    · intro h'
      cases h'
    · intro h'
      omega
theorem liGood_ev (xs : List Int) (hx : xs.length ≤ 9223372036854775807) : Ev (fun k => spec_liGood.f k xs) (goodL xs) := by
  unfold spec_liGood.f goodL
  simp only [l1In_eq, Option.bind_some, decide_eq_true_eq]
  exact Ev.ite (fun _ => Ev.bind (l1All_ev xs 0 60 hx) (Ev.now _)) (fun _ => Ev.now _)
theorem implIsList_ev (xs : List Int) (hx : xs.length ≤ 9223372036854775807) : Ev (fun k => impl_IsList.f k xs) (goodL xs) := by
  unfold impl_IsList.f goodL
  simp only [within_eq, Option.bind_some, decide_eq_true_eq]
  exact Ev.ite (fun _ => Ev.bind (allWithin_ev xs 0 60 hx) (Ev.now _)) (fun _ => Ev.now _)
end Go.Proofs.YtimkfjekbimmhaaDoor.A

namespace Go.Proofs.YtimkfjekbimmhaaDoor.A
open Go.RowKit Go.Proofs.YtimkfjekbimmhaaDoorW.PrintWords Go.Proofs.YtimkfjekbimmhaaDoorW.PrintLast Go.Proofs.YtimkfjekbimmhaaDoorW.PrintMore
set_option linter.unusedVariables false
set_option linter.unusedSimpArgs false
theorem rd_mem {l : List Int} {i : Int} (h0 : 0 ≤ i) (h1 : i < l.length) : rd l i ∈ l := by
  have hi : i.toNat < l.length := by omega
  have e : rd l i = l[i.toNat] := rdi h0 h1
  rw [e]
  exact List.getElem_mem hi
end Go.Proofs.YtimkfjekbimmhaaDoor.A

namespace Go.Proofs.YtimkfjekbimmhaaDoor.A
open Go.RowKit Go.Proofs.YtimkfjekbimmhaaDoorW.PrintWords Go.Proofs.YtimkfjekbimmhaaDoorW.PrintLast Go.Proofs.YtimkfjekbimmhaaDoorW.PrintMore
set_option linter.unusedVariables false
set_option linter.unusedSimpArgs false
/-! what the draws give: small numbers and short lists -/
theorem tmod_bd (x n : Int) (h0 : 0 ≤ x) (hn : 0 < n) : 0 ≤ Int.tmod x n ∧ Int.tmod x n < n := by
  rw [Int.tmod_eq_emod_of_nonneg h0]
  exact ⟨Int.emod_nonneg _ (by omega), Int.emod_lt_of_pos _ hn⟩
theorem and255 (z : Int) : 0 ≤ Go.bits .and .u64 (IntKind.u64.wrap z / 1099511627776) 255 ∧ Go.bits .and .u64 (IntKind.u64.wrap z / 1099511627776) 255 ≤ 255 := by
  have e := IntKind.wrap_u64 z
  have h := bits_mask .u64 64 (by decide) wraps_u64 8 (by decide) (IntKind.u64.wrap z / 1099511627776) (by omega) (by omega)
  have h' : Go.bits .and .u64 (IntKind.u64.wrap z / 1099511627776) 255 = IntKind.u64.wrap z / 1099511627776 % 256 := by simpa using h
  rw [h']
  omega
def Bytes (l : List Int) : Prop := l.length ≤ 1048576 ∧ ∀ x ∈ l, 0 ≤ x ∧ x ≤ 255
theorem next_ev (l : List Int) (hl : Bytes l) (a s : Int) (h0 : 0 ≤ a) (h1 : a ≤ 1000000000) : ∃ x s', spec_l1Cur_next.f l a s = some (x, a + 1, s') ∧ 0 ≤ x ∧ x ≤ 255 := by
  have hb := hl.1
  unfold spec_l1Cur_next.f
  rw [w64 (x := a + 1) (by omega) (by omega)]
  by_cases c : a < (l.length : Int)
  · simp only [if_pos c, if_pos h0]
    have hx := hl.2 _ (rd_mem h0 c)
    by_cases c2 : a + 1 ≤ (l.length : Int)
    · simp only [if_pos c2]
      refine ⟨_, _, rfl, ?_⟩
      rw [w64 (by omega) (by omega)]
      exact hx
    · omega
  · simp only [if_neg c]
    by_cases c2 : a + 1 ≤ (l.length : Int)
    · omega
    · simp only [if_neg c2]
      refine ⟨_, _, rfl, ?_⟩
      have := and255 (IntKind.u64.wrap (IntKind.u64.wrap (s * 6364136223846793005) + 0) + 1442695040888963407)
      rw [w64 (by omega) (by omega)]
      exact this
theorem pick_ev (l : List Int) (hl : Bytes l) (a s n : Int) (h0 : 0 ≤ a) (h1 : a ≤ 900000000) : ∃ x a' s', spec_l1Cur_pick.f l a s n = some (x, a', s') ∧ 0 ≤ x ∧ (x = 0 ∨ x < n) ∧ a ≤ a' ∧ a' ≤ a + 2 := by
  unfold spec_l1Cur_pick.f
  by_cases c : n ≤ 1
  · simp only [if_pos c]
    exact ⟨_, _, _, rfl, by omega, by omega, by omega, by omega⟩
  · simp only [if_neg c]
    obtain ⟨x, s1, e1, b1, b2⟩ := next_ev l hl a s h0 (by omega)
    simp only [e1, Option.bind_some]
    by_cases c2 : n > 200
    · simp only [if_pos c2]
      obtain ⟨y, s2, e2, b3, b4⟩ := next_ev l hl (a + 1) s1 (by omega) (by omega)
      simp only [e2, Option.bind_some, if_neg (show ¬ n = 0 by omega)]
      have t := tmod_bd (x * 256 + y) n (by omega) (by omega)
      refine ⟨_, _, _, rfl, ?_⟩
      rw [w64 (x := x * 256) (by omega) (by omega), w64 (x := x * 256 + y) (by omega) (by omega)]
      omega
    · simp only [if_neg c2, if_neg (show ¬ n = 0 by omega)]
      have t := tmod_bd x n (by omega) (by omega)
      exact ⟨_, _, _, rfl, by omega, by omega, by omega, by omega⟩
theorem one_ev (l : List Int) (hl : Bytes l) (a s n : Int) (h0 : 0 ≤ a) (h1 : a ≤ 900000000) : ∃ x a' s', spec_l1Cur_one.f l a s n = some (x, a', s') ∧ a ≤ a' ∧ a' ≤ a + 2 := by
  unfold spec_l1Cur_one.f
  obtain ⟨x, a', s', e, _, _, b1, b2⟩ := pick_ev l hl a s n h0 h1
  simp only [e, Option.bind_some]
  exact ⟨_, _, _, rfl, b1, b2⟩
theorem among_ev (l : List Int) (hl : Bytes l) (a s : Int) (L : List Int) (hL : 0 < L.length) (h0 : 0 ≤ a) (h1 : a ≤ 900000000) : ∃ x a' s', spec_l1Cur_among.f l a s L = some (x, a', s') ∧ x ∈ L ∧ a ≤ a' ∧ a' ≤ a + 2 := by
  unfold spec_l1Cur_among.f
  obtain ⟨x, a', s', e, b0, b, b1, b2⟩ := pick_ev l hl a s (L.length : Int) h0 h1
  simp only [e, Option.bind_some, if_pos b0, if_pos (show x < (L.length : Int) by omega)]
  exact ⟨_, _, _, rfl, rd_mem b0 (by omega), b1, b2⟩
/-- Short lists of small numbers. -/
structure Bd (n m : Int) (l : List Int) : Prop where
  len : (l.length : Int) ≤ n
  low : ∀ x ∈ l, -1 ≤ x
  high : ∀ x ∈ l, x ≤ m
theorem Bd.le {n m n' m' : Int} {l : List Int} (h : Bd n m l) (h1 : n ≤ n') (h2 : m ≤ m') : Bd n' m' l := ⟨by have := h.len; omega, h.low, fun x hx => by have := h.high x hx; omega⟩
theorem Bd.snoc {n m : Int} {l : List Int} (h : Bd n m l) {x : Int} (h1 : -1 ≤ x) (h2 : x ≤ m) : Bd (n + 1) m (l ++ [x]) := by
  refine ⟨by have := h.len; rw [List.length_append]; simp; omega, fun y hy => ?_, fun y hy => ?_⟩
  · rcases List.mem_append.1 hy with hy | hy
    · exact h.low y hy
    · have : y = x := by simpa using hy
      omega
  · rcases List.mem_append.1 hy with hy | hy
    · exact h.high y hy
    · have : y = x := by simpa using hy
      omega
theorem Bd.nil (n m : Int) (h : 0 ≤ n) : Bd n m [] := ⟨by simpa using h, fun x hx => by simp at hx, fun x hx => by simp at hx⟩
theorem list_l (l : List Int) (hl : Bytes l) (m : Int) (hm : 0 ≤ m) (hm2 : m ≤ 1000) : ∀ (d : Nat) (acc : List Int) (a s : Int), (d : Int) ≤ 10 → acc.length ≤ 10 → 0 ≤ a → a ≤ 800000000 + 10 * (10 - (d : Int)) → Bd (10 - (d : Int)) m acc → ∃ r a' s', Ev (fun k => spec_l1Cur_list.l0 k m acc (d : Int) l a s) (r, a', s') ∧ Bd 10 m r ∧ a ≤ a' ∧ a' ≤ a + 2 * (d : Int)
  | 0, acc, a, s, hd, hc, h0, h1, hb => by
    refine ⟨acc, a, s, Ev.succ ?_, hb.le (by omega) (by omega), by omega, by omega⟩
    simp only [spec_l1Cur_list.l0, if_neg (show ¬ ((0 : Nat) : Int) > 0 by omega)]
    exact Ev.now _
  | d + 1, acc, a, s, hd, hc, h0, h1, hb => by
    obtain ⟨x, a1, s1, e, b0, b, b1, b2⟩ := pick_ev l hl a s (m + 1) h0 (by omega)
    have hl1 := hb.len
    obtain ⟨r, a', s', h, hr, q1, q2⟩ := list_l l hl m hm hm2 d (acc ++ [x]) a1 s1 (by omega) (by rw [List.length_append]; simp; omega) (by omega) (by omega) ((hb.snoc (by omega) (by omega)).le (by omega) (by omega))
    refine ⟨r, a', s', Ev.succ ?_, hr, by omega, by omega⟩
    simp only [spec_l1Cur_list.l0, if_pos (show ((d + 1 : Nat) : Int) > 0 by omega), w64 (x := m + 1) (by omega) (by omega), e, Option.bind_some, if_pos (show acc.length < 17592186044416 by omega), w64 (x := ((d + 1 : Nat) : Int) - 1) (by omega) (by omega)]
    rw [show ((d + 1 : Nat) : Int) - 1 = (d : Int) by omega]
    exact h
theorem list_ev (l : List Int) (hl : Bytes l) (m : Int) (hm : 0 ≤ m) (hm2 : m ≤ 1000) (a s : Int) (h0 : 0 ≤ a) (h1 : a ≤ 700000000) : ∃ r a' s', Ev (fun k => spec_l1Cur_list.f k l a s m) (r, a', s') ∧ Bd 10 m r ∧ a ≤ a' ∧ a' ≤ a + 100 := by
  obtain ⟨x, a1, s1, e, b0, b, b1, b2⟩ := pick_ev l hl a s 6 h0 (by omega)
  obtain ⟨d, hd⟩ := Int.eq_ofNat_of_zero_le (show 0 ≤ 1 + x by omega)
  have hd' : 1 + x = (d : Int) := hd
  obtain ⟨r, a', s', h, hr, q1, q2⟩ := list_l l hl m hm hm2 d [] a1 s1 (by omega) (by simp) (by omega) (by omega) (Bd.nil _ _ (by omega))
  refine ⟨r, a', s', ?_, hr, by omega, by omega⟩
  unfold spec_l1Cur_list.f
  simp only [e, Option.bind_some, w64 (x := 1 + x) (by omega) (by omega)]
  rw [hd']
  exact h
theorem any_l (l : List Int) (hl : Bytes l) (m : Int) (hm : 9 ≤ m) (hm2 : m ≤ 1000) : ∀ (d : Nat) (acc : List Int) (a s : Int), d ≤ 12 → acc.length + d = 12 → 0 ≤ a → a ≤ 800000000 + 10 * (acc.length : Int) → Bd 12 m acc → ∃ r a' s', Ev (fun k => spec_l1Cur_anyList.l0 k acc l a s) (r, a', s') ∧ Bd 12 m r ∧ a ≤ a' ∧ a' ≤ a + 2 + 4 * (d : Int)
  | 0, acc, a, s, hd, hc, h0, h1, hb => by
    obtain ⟨x, a1, s1, e, b0, b, b1, b2⟩ := pick_ev l hl a s 2 h0 (by omega)
    refine ⟨acc, a1, s1, Ev.succ ?_, hb, by omega, by omega⟩
    simp only [spec_l1Cur_anyList.l0, e, Option.bind_some, w64 (x := 8 + x) (by omega) (by omega), if_neg (show ¬ (acc.length : Int) < 8 + x by omega)]
    exact Ev.now _
  | d + 1, acc, a, s, hd, hc, h0, h1, hb => by
    obtain ⟨x, a1, s1, e, b0, b, b1, b2⟩ := pick_ev l hl a s 2 h0 (by omega)
    by_cases c : (acc.length : Int) < 8 + x
    · obtain ⟨y, a2, s2, e2, c0, c3, c1, c2⟩ := pick_ev l hl a1 s1 9 (by omega) (by omega)
      have hbb : Bd 12 m (acc ++ [y]) := by
        refine ⟨by rw [List.length_append]; simp; omega, fun z hz => ?_, fun z hz => ?_⟩
        · rcases List.mem_append.1 hz with hz | hz
          · exact hb.low z hz
          · have : z = y := by simpa using hz
            omega
        · rcases List.mem_append.1 hz with hz | hz
          · exact hb.high z hz
          · have : z = y := by simpa using hz
            omega
      obtain ⟨r, a', s', h, hr, q1, q2⟩ := any_l l hl m hm hm2 d (acc ++ [y]) a2 s2 (by omega) (by rw [List.length_append]; simp; omega) (by omega) (by rw [List.length_append]; simp; omega) hbb
      refine ⟨r, a', s', Ev.succ ?_, hr, by omega, by omega⟩
      simp only [spec_l1Cur_anyList.l0, e, Option.bind_some, w64 (x := 8 + x) (by omega) (by omega), if_pos c, e2, if_pos (show acc.length < 17592186044416 by omega)]
      exact h
    · refine ⟨acc, a1, s1, Ev.succ ?_, hb, by omega, by omega⟩
      simp only [spec_l1Cur_anyList.l0, e, Option.bind_some, w64 (x := 8 + x) (by omega) (by omega), if_neg c]
      exact Ev.now _
theorem anyList_ev (l : List Int) (hl : Bytes l) (m : Int) (hm : 0 ≤ m) (hm2 : m ≤ 1000) (a s : Int) (h0 : 0 ≤ a) (h1 : a ≤ 600000000) : ∃ r a' s', Ev (fun k => spec_l1Cur_anyList.f k l a s m) (r, a', s') ∧ Bd 12 (max m 61) r ∧ a ≤ a' ∧ a' ≤ a + 200 := by
  obtain ⟨L, a1, s1, e1, hL, b1, b2⟩ := list_ev l hl m hm hm2 a s h0 (by omega)
  obtain ⟨x, a2, s2, e2, c0, c3, c1, c2⟩ := pick_ev l hl a1 s1 14 (by omega) (by omega)
  have hlen := hL.len
  have hL' : Bd 12 (max m 61) L := hL.le (by omega) (by omega)
  by_cases t0 : x = 0
  · obtain ⟨y, a3, s3, e3, hy, d1, d2⟩ := among_ev l hl a2 s2 [-1, 0, 60, 61] (by simp) (by omega) (by omega)
    have hy' : -1 ≤ y ∧ y ≤ 61 := by
      simp at hy
      omega
    refine ⟨L ++ [y], a3, s3, ?_, (Bd.snoc (hL.le (n' := 10) (m' := max m 61) (by omega) (by omega)) hy'.1 (by omega)).le (by omega) (by omega), by omega, by omega⟩
    unfold spec_l1Cur_anyList.f
    refine Ev.bind e1 ?_
    simp only [e2, Option.bind_some, if_pos t0, e3, if_pos (show L.length < 17592186044416 by omega)]
    exact Ev.now _
  · by_cases t1 : x = 1
    · obtain ⟨r, a3, s3, e3, hr, d1, d2⟩ := any_l l hl (max m 61) (by omega) (by omega) (12 - L.length) L a2 s2 (by omega) (by omega) (by omega) (by omega) hL'
      refine ⟨r, a3, s3, ?_, hr, by omega, by omega⟩
      unfold spec_l1Cur_anyList.f
      refine Ev.bind e1 ?_
      simp only [e2, Option.bind_some, if_neg t0, if_pos t1]
      exact e3
    · by_cases t2 : x = 2
      · refine ⟨[], a2, s2, ?_, Bd.nil _ _ (by omega), by omega, by omega⟩
        unfold spec_l1Cur_anyList.f
        refine Ev.bind e1 ?_
        simp only [e2, Option.bind_some, if_neg t0, if_neg t1, if_pos t2]
        exact Ev.now _
      · refine ⟨L, a2, s2, ?_, hL', by omega, by omega⟩
        unfold spec_l1Cur_anyList.f
        refine Ev.bind e1 ?_
        simp only [e2, Option.bind_some, if_neg t0, if_neg t1, if_neg t2]
        exact Ev.now _
end Go.Proofs.YtimkfjekbimmhaaDoor.A

namespace Go.Proofs.YtimkfjekbimmhaaDoor.A
open Go.RowKit Go.Proofs.YtimkfjekbimmhaaDoorW.PrintWords Go.Proofs.YtimkfjekbimmhaaDoorW.PrintLast Go.Proofs.YtimkfjekbimmhaaDoorW.PrintMore
set_option linter.unusedVariables false
set_option linter.unusedSimpArgs false
/-! the text of a list -/
def itoaB (n : Int) : ByteArray := ⟨(Go.Lib.decDigits n.toNat).toArray⟩
def textL (l : List Int) : List UInt8 := Go.Lib.join (l.map fun n => Go.Lib.decDigits n.toNat) [32]
def textB (l : List Int) : ByteArray := ⟨(textL l).toArray⟩
def textR (l : List Int) : ByteArray × Bool := if goodL l = true then (textB l, true) else ((⟨#[]⟩ : ByteArray), false)
theorem ba_append (a b : List UInt8) : (⟨a.toArray⟩ : ByteArray) ++ (⟨b.toArray⟩ : ByteArray) = ⟨(a ++ b).toArray⟩ := by
  apply ByteArray.ext
  rw [ByteArray.data_append]
  show a.toArray ++ b.toArray = (a ++ b).toArray
  simp
theorem ba_size (a : List UInt8) : (⟨a.toArray⟩ : ByteArray).size = a.length := by
  show a.toArray.size = a.length
  simp
theorem digs_len {n : Int} (h0 : 0 ≤ n) (h1 : n < 100) : (Go.Lib.decDigits n.toNat).length ≤ 2 ∧ 1 ≤ (Go.Lib.decDigits n.toNat).length := by
  by_cases c : n.toNat < 10
  · rw [Go.Lib.decDigits_one c]
    exact ⟨by simp, by simp⟩
  · rw [Go.Lib.decDigits_two c (by omega)]
    exact ⟨by simp, by simp⟩
theorem num_one : ∀ i : Fin 10, strOfNums [wrap64 (48 + (i.val : Int)) % 256] = (⟨[UInt8.ofNat (48 + i.val)].toArray⟩ : ByteArray) := by decide +kernel
theorem num_two : ∀ i : Fin 100, (⟨[UInt8.ofNat (48 + i.val / 10)].toArray⟩ : ByteArray) ++ strOfNums [wrap64 (48 + Int.tmod (i.val : Int) 10) % 256] = (⟨[UInt8.ofNat (48 + i.val / 10), UInt8.ofNat (48 + i.val % 10)].toArray⟩ : ByteArray) := by decide +kernel
theorem num_size : ∀ i : Fin 100, (strOfNums [wrap64 (48 + Int.tmod (i.val : Int) 10) % 256]).size = 1 := by decide +kernel
theorem l1Num_one {n : Int} (h0 : 0 ≤ n) (h1 : n < 10) : Ev (fun k => spec_l1Num.f k n) (itoaB n) := by
  obtain ⟨i, rfl⟩ := Int.eq_ofNat_of_zero_le h0
  refine Ev.succ ?_
  simp only [spec_l1Num.f, if_pos h1]
  have := num_one ⟨i, by omega⟩
  dsimp only at this
  rw [this]
  unfold itoaB
  rw [Int.toNat_natCast, Go.Lib.decDigits_one (by omega)]
  exact Ev.now _
theorem l1Num_ev {n : Int} (h0 : 0 ≤ n) (h1 : n < 100) : Ev (fun k => spec_l1Num.f k n) (itoaB n) := by
  by_cases c : n < 10
  · exact l1Num_one h0 c
  · obtain ⟨i, rfl⟩ := Int.eq_ofNat_of_zero_le h0
    refine Ev.succ ?_
    have hd : wrap64 (Int.tdiv (i : Int) 10) = ((i / 10 : Nat) : Int) := by
      rw [show Int.tdiv (i : Int) 10 = ((i / 10 : Nat) : Int) from rfl, w64 (by omega) (by omega)]
    simp only [spec_l1Num.f, if_neg c, hd]
    refine Ev.bind (l1Num_one (n := ((i / 10 : Nat) : Int)) (by omega) (by omega)) ?_
    have e2 := num_two ⟨i, by omega⟩
    have e3 := num_size ⟨i, by omega⟩
    dsimp only at e2 e3
    have e1 : itoaB ((i / 10 : Nat) : Int) = (⟨[UInt8.ofNat (48 + i / 10)].toArray⟩ : ByteArray) := by
      unfold itoaB
      rw [Int.toNat_natCast, Go.Lib.decDigits_one (by omega)]
    have e0 : itoaB (i : Int) = (⟨[UInt8.ofNat (48 + i / 10), UInt8.ofNat (48 + i % 10)].toArray⟩ : ByteArray) := by
      unfold itoaB
      rw [Int.toNat_natCast, Go.Lib.decDigits_two (by omega) (by omega)]
    simp only [Option.bind_some]
    rw [e3, e1, e2, e0, if_pos (by rw [ba_size]; simp)]
    exact Ev.now _
theorem join_snoc {xs : List (List UInt8)} (h : xs ≠ []) (y sep : List UInt8) : Go.Lib.join (xs ++ [y]) sep = Go.Lib.join xs sep ++ sep ++ y := by
  cases xs with
  | nil => exact absurd rfl h
  | cons x r =>
    rw [List.cons_append, Go.Lib.join_cons, Go.Lib.join_cons]
    simp [Go.Lib.joinTail, List.append_assoc]
theorem lens_le {xs : List (List UInt8)} {m : Nat} (h : ∀ x ∈ xs, x.length ≤ m) : Go.Lib.lens xs ≤ m * xs.length := by
  induction xs with
  | nil => simp [Go.Lib.lens]
  | cons x r ih =>
    have h1 := ih fun y hy => h y (List.mem_cons_of_mem _ hy)
    have h2 := h x List.mem_cons_self
    simp only [Go.Lib.lens, List.map_cons, List.sum_cons, List.length_cons] at h1 ⊢
    rw [Nat.mul_succ]
    omega
theorem textL_len {l : List Int} (hl : l.length ≤ 100) (hx : ∀ x ∈ l, 0 ≤ x ∧ x < 100) : (textL l).length ≤ 1000 := by
  unfold textL
  cases l with
  | nil => simp [Go.Lib.join_nil]
  | cons x r =>
    have h := lens_le (xs := (x :: r).map fun n => Go.Lib.decDigits n.toNat) (m := 2) (fun y hy => by
      obtain ⟨z, hz, rfl⟩ := List.mem_map.1 hy
      exact (digs_len (hx z hz).1 (hx z hz).2).1)
    rw [List.length_map] at h
    rw [List.map_cons] at h ⊢
    rw [Go.Lib.join_length, List.length_map, List.length_singleton]
    rw [List.length_cons] at h hl
    omega
theorem joinL_text (l : List Int) : joinL (l.map itoaB) (⟨#[32]⟩ : ByteArray) = textL l := by
  unfold joinL textL
  rw [List.map_map]
  rfl
theorem listText_l (l : List Int) (hl : l.length ≤ 100) (hx : ∀ x ∈ l, 0 ≤ x ∧ x < 100) : ∀ (d i : Nat) (ws : List ByteArray), i + d = l.length → ws.length = i → ws ++ (l.drop i).map itoaB = l.map itoaB → Ev (fun k => impl_listText.l0 k ws l (l.length : Int) (i : Int)) (textB l)
  | 0, i, ws, hi, hw, he => by
    refine Ev.succ ?_
    rw [List.drop_eq_nil_of_le (by omega), List.map_nil, List.append_nil] at he
    have hlen := textL_len hl hx
    simp only [impl_listText.l0, if_neg (show ¬ (i : Int) < (l.length : Int) by omega), he]
    unfold strings_Join.f
    rw [joinL_text, if_pos ⟨by rw [List.length_map]; omega, by omega⟩]
    exact Ev.now _
  | d + 1, i, ws, hi, hw, he => by
    have hi2 : i < l.length := by omega
    have hb := hx _ (List.getElem_mem hi2)
    refine Ev.succ ?_
    simp only [impl_listText.l0, if_pos (show (i : Int) < (l.length : Int) by omega), if_pos (show (0 : Int) ≤ (i : Int) by omega), rdn hi2, wsucc hi2 (by omega)]
    unfold strconv_Itoa_35.f
    simp only [if_pos hb, Option.bind_some, if_pos (show ws.length < 8796093022208 by omega)]
    refine listText_l l hl hx d (i + 1) (ws ++ [itoaB l[i]]) (by omega) (by rw [List.length_append, List.length_singleton]; omega) ?_
    rw [← he, List.drop_eq_getElem_cons hi2, List.map_cons, List.append_assoc]
    rfl
theorem listText_ev (l : List Int) (hl : l.length ≤ 100) (hx : ∀ x ∈ l, 0 ≤ x ∧ x < 100) : Ev (fun k => impl_listText.f k l) (textB l) := listText_l l hl hx l.length 0 [] (by omega) rfl rfl
theorem textL_take {l : List Int} {i : Nat} (h : i < l.length) : textL (l.take (i + 1)) = if i = 0 then Go.Lib.decDigits l[i].toNat else textL (l.take i) ++ [32] ++ Go.Lib.decDigits l[i].toNat := by
  unfold textL
  rw [List.take_succ_eq_append_getElem h, List.map_append, List.map_cons, List.map_nil]
  split
  · next e =>
    subst e
    rw [List.take_zero, List.map_nil, List.nil_append, Go.Lib.join_one]
  · next e => exact join_snoc (by intro c; have h2 := congrArg List.length c; rw [List.length_map, List.length_take, List.length_nil] at h2; omega) _ _
theorem liText_l (l : List Int) (hl : l.length ≤ 100) (hx : ∀ x ∈ l, 0 ≤ x ∧ x < 100) : ∀ (d i : Nat), i + d = l.length → Ev (fun k => spec_liText.l0 k (textB (l.take i)) l (l.length : Int) (i : Int)) (textB l)
  | 0, i, hi => by
    refine Ev.succ ?_
    simp only [spec_liText.l0, if_neg (show ¬ (i : Int) < (l.length : Int) by omega)]
    rw [List.take_of_length_le (by omega)]
    exact Ev.now _
  | d + 1, i, hi => by
    have hi2 : i < l.length := by omega
    have hb := hx _ (List.getElem_mem hi2)
    have hlen := textL_len (l := l.take i) (by rw [List.length_take]; omega) (fun x h => hx x (List.mem_of_mem_take h))
    have hd := digs_len hb.1 hb.2
    have ht := textL_take hi2
    have hsz : (textB (l.take i)).size = (textL (l.take i)).length := ba_size _
    have hsz2 : (itoaB l[i]).size = (Go.Lib.decDigits l[i].toNat).length := ba_size _
    have ih := liText_l l hl hx d (i + 1) (by omega)
    refine Ev.succ ?_
    simp only [spec_liText.l0, if_pos (show (i : Int) < (l.length : Int) by omega), if_pos (show (0 : Int) ≤ (i : Int) by omega), rdn hi2, wsucc hi2 (by omega)]
    by_cases c : (i : Int) > 0
    · rw [if_neg (by omega)] at ht
      have e1 : (textB (l.take i) ++ (⟨#[32]⟩ : ByteArray)) = ⟨(textL (l.take i) ++ [32]).toArray⟩ := ba_append (textL (l.take i)) [32]
      have e2 : textB (l.take (i + 1)) = (textB (l.take i) ++ (⟨#[32]⟩ : ByteArray)) ++ itoaB l[i] := by
        rw [e1]
        unfold textB itoaB
        rw [ba_append, ht]
      simp only [if_pos c, if_pos (show (textB (l.take i)).size + 1 ≤ 9223372036854775807 by omega)]
      refine Ev.bind (l1Num_ev hb.1 hb.2) ?_
      simp only [if_pos (show (textB (l.take i) ++ (⟨#[32]⟩ : ByteArray)).size + (itoaB l[i]).size ≤ 9223372036854775807 by rw [e1, ba_size, List.length_append, List.length_singleton]; omega), ← e2]
      exact ih
    · have hi0 : i = 0 := by omega
      rw [if_pos hi0] at ht
      have e2 : textB (l.take (i + 1)) = textB (l.take i) ++ itoaB l[i] := by
        unfold textB itoaB
        rw [ba_append, ht]
        have : textL (l.take i) = [] := by rw [hi0]; rfl
        rw [this]
        rfl
      simp only [if_neg c]
      refine Ev.bind (l1Num_ev hb.1 hb.2) ?_
      simp only [if_pos (show (textB (l.take i)).size + (itoaB l[i]).size ≤ 9223372036854775807 by omega), ← e2]
      exact ih
theorem liText_ev (l : List Int) (hl : l.length ≤ 100) (hx : ∀ x ∈ l, 0 ≤ x ∧ x < 100) : Ev (fun k => spec_liText.f k l) (textB l) := by
  have := liText_l l hl hx l.length 0 (by omega)
  exact this
theorem good_few {l : List Int} (h : goodL l = true) : l.length ≤ 8 ∧ ∀ x ∈ l, 0 ≤ x ∧ x < 100 := by
  obtain ⟨_, h2, h3⟩ := (goodL_iff l).1 h
  exact ⟨h2, fun x hx => by have := h3 x hx; omega⟩
theorem specListText_ev (l : List Int) (hl : l.length ≤ 1048576) : Ev (fun k => spec_ListText.f k l) (textR l) := by
  unfold spec_ListText.f textR
  refine Ev.bind (liGood_ev l (by omega)) (Ev.ite (fun c => ?_) (fun _ => Ev.now _))
  have h := good_few c
  exact Ev.bind (liText_ev l (by omega) h.2) (Ev.now _)
theorem implListText_ev (l : List Int) (hl : l.length ≤ 1048576) : Ev (fun k => impl_ListText.f k l) (textR l) := by
  unfold impl_ListText.f textR
  refine Ev.bind (implIsList_ev l (by omega)) (Ev.ite (fun c => ?_) (fun _ => Ev.now _))
  have h := good_few c
  exact Ev.bind (listText_ev l (by omega) h.2) (Ev.now _)
end Go.Proofs.YtimkfjekbimmhaaDoor.A

namespace Go.Proofs.YtimkfjekbimmhaaDoor.A
open Go.RowKit Go.Proofs.YtimkfjekbimmhaaDoorW.PrintWords Go.Proofs.YtimkfjekbimmhaaDoorW.PrintLast Go.Proofs.YtimkfjekbimmhaaDoorW.PrintMore
set_option linter.unusedVariables false
set_option linter.unusedSimpArgs false
/-! draws of texts -/
theorem list60_l (l : List Int) (hl : Bytes l) : ∀ (d : Nat) (acc : List Int) (a s : Int), acc.length + d ≤ 10 → 0 ≤ a → a ≤ 800000000 + 10 * (10 - (d : Int)) → (∀ x ∈ acc, 0 ≤ x ∧ x ≤ 60) → ∃ r a' s', Ev (fun k => spec_l1Cur_list.l0 k 60 acc (d : Int) l a s) (r, a', s') ∧ r.length ≤ 10 ∧ (∀ x ∈ r, 0 ≤ x ∧ x ≤ 60) ∧ a ≤ a' ∧ a' ≤ a + 2 * (d : Int)
  | 0, acc, a, s, hc, h0, h1, hb => by
    refine ⟨acc, a, s, Ev.succ ?_, by omega, hb, by omega, by omega⟩
    simp only [spec_l1Cur_list.l0, if_neg (show ¬ ((0 : Nat) : Int) > 0 by omega)]
    exact Ev.now _
  | d + 1, acc, a, s, hc, h0, h1, hb => by
    obtain ⟨x, a1, s1, e, b0, b, b1, b2⟩ := pick_ev l hl a s 61 h0 (by omega)
    obtain ⟨r, a', s', h, hr, hr2, q1, q2⟩ := list60_l l hl d (acc ++ [x]) a1 s1 (by rw [List.length_append, List.length_singleton]; omega) (by omega) (by omega) (fun y hy => by
      rcases List.mem_append.1 hy with h | h
      · exact hb y h
      · rw [List.mem_singleton.1 h]; omega)
    refine ⟨r, a', s', Ev.succ ?_, hr, hr2, by omega, by omega⟩
    simp only [spec_l1Cur_list.l0, if_pos (show ((d + 1 : Nat) : Int) > 0 by omega), show wrap64 ((60 : Int) + 1) = 61 by unfold wrap64; omega, e, Option.bind_some, if_pos (show acc.length < 17592186044416 by omega), w64 (x := ((d + 1 : Nat) : Int) - 1) (by omega) (by omega)]
    rw [show ((d + 1 : Nat) : Int) - 1 = (d : Int) by omega]
    exact h
theorem list60_ev (l : List Int) (hl : Bytes l) (a s : Int) (h0 : 0 ≤ a) (h1 : a ≤ 700000000) : ∃ r a' s', Ev (fun k => spec_l1Cur_list.f k l a s 60) (r, a', s') ∧ r.length ≤ 10 ∧ (∀ x ∈ r, 0 ≤ x ∧ x ≤ 60) ∧ a ≤ a' ∧ a' ≤ a + 100 := by
  obtain ⟨x, a1, s1, e, b0, b, b1, b2⟩ := pick_ev l hl a s 6 h0 (by omega)
  obtain ⟨d, hd⟩ := Int.eq_ofNat_of_zero_le (show 0 ≤ 1 + x by omega)
  have hd' : 1 + x = (d : Int) := hd
  obtain ⟨r, a', s', h, hr, hr2, q1, q2⟩ := list60_l l hl d [] a1 s1 (by simp only [List.length_nil]; omega) (by omega) (by omega) (by simp)
  refine ⟨r, a', s', ?_, hr, hr2, by omega, by omega⟩
  unfold spec_l1Cur_list.f
  simp only [e, Option.bind_some, w64 (x := 1 + x) (by omega) (by omega)]
  rw [hd']
  exact h
theorem str_one (z : Int) : (strOfNums [z]).size = 1 := rfl
theorem spoilt_l (l : List Int) (hl : Bytes l) (u : ByteArray) (hu : 1 ≤ u.size ∧ u.size ≤ 100) : ∀ (d : Nat) (t : ByteArray) (a s : Int), d ≤ 10 → t.size + d ≤ 5000 → 0 ≤ a → a ≤ 800000000 - 100 * (d : Int) → ∃ r a' s', Ev (fun k => spec_l1Cur_spoilt.l0 k t u (d : Int) l a s) (r, a', s') ∧ r.size ≤ 5000 := by
  intro d
  induction d with
  | zero =>
    intro t a s hd ht h0 h1
    refine ⟨t, a, s, Ev.succ ?_, by omega⟩
    simp only [spec_l1Cur_spoilt.l0, if_neg (show ¬ ((0 : Nat) : Int) > 0 by omega)]
    refine Ev.succ ?_
    simp only [spec_l1Cur_spoilt.j1, Bool.false_eq_true, if_false]
    exact Ev.now _
  | succ d ih =>
    intro t a s hd ht h0 h1
    by_cases c : (t.size : Int) > 0
    · obtain ⟨x, a1, s1, e1, x0, x1, b1, c1⟩ := pick_ev l hl a s (t.size : Int) h0 (by omega)
      obtain ⟨y, a2, s2, e2, y0, y1, b2, c2⟩ := pick_ev l hl a1 s1 (u.size : Int) (by omega) (by omega)
      obtain ⟨z, a3, s3, e3, z0, z1, b3, c3⟩ := pick_ev l hl a2 s2 3 (by omega) (by omega)
      obtain ⟨i, rfl⟩ := Int.eq_ofNat_of_zero_le x0
      have hi : i < t.size := by omega
      have HW1 := Aside0.mk (show wrap64 ((i : Int) + 1) = ((i + 1 : Nat) : Int) by rw [w64 (by omega) (by omega)]; omega)
      have HWD := Aside0.mk (show wrap64 (((d + 1 : Nat) : Int) - 1) = (d : Int) by rw [w64 (by omega) (by omega)]; omega)
      have hA : (t.extract 0 i).size = i := by rw [ByteArray.size_extract]; omega
      have hB : (t.extract i t.size).size = t.size - i := by rw [ByteArray.size_extract]; omega
      have hC : (t.extract (i + 1) t.size).size = t.size - (i + 1) := by rw [ByteArray.size_extract]; omega
      have hS := str_one (bt u y)
      by_cases k0 : z = 0
      · obtain ⟨r, a', s', er, hr⟩ := ih ((t.extract 0 i ++ strOfNums [bt u y]) ++ t.extract i t.size) a3 s3 (by omega) (by rw [ByteArray.size_append, ByteArray.size_append, hA, hB, hS]; omega) (by omega) (by omega)
        refine ⟨r, a', s', Ev.succ ?_, hr⟩
        simp only [spec_l1Cur_spoilt.l0, if_pos (show ((d + 1 : Nat) : Int) > 0 by omega), decide_eq_true c]
        refine Ev.succ ?_
        simp only [spec_l1Cur_spoilt.j1, if_true, e1, e2, e3, Option.bind_some, if_pos y0, if_pos (show y < (u.size : Int) by omega), if_pos k0, if_pos (show (0 : Int) ≤ (i : Int) by omega), if_pos (show (i : Int) ≤ (t.size : Int) by omega), Int.toNat_natCast, if_pos (show (t.extract 0 i).size + (strOfNums [bt u y]).size ≤ 9223372036854775807 by omega), if_pos (show (t.extract 0 i ++ strOfNums [bt u y]).size + (t.extract i t.size).size ≤ 9223372036854775807 by rw [ByteArray.size_append]; omega), HWD.out]
        exact er
      · by_cases k1 : z = 1
        · obtain ⟨r, a', s', er, hr⟩ := ih ((t.extract 0 i ++ strOfNums [bt u y]) ++ t.extract (i + 1) t.size) a3 s3 (by omega) (by rw [ByteArray.size_append, ByteArray.size_append, hA, hC, hS]; omega) (by omega) (by omega)
          refine ⟨r, a', s', Ev.succ ?_, hr⟩
          simp only [spec_l1Cur_spoilt.l0, if_pos (show ((d + 1 : Nat) : Int) > 0 by omega), decide_eq_true c]
          refine Ev.succ ?_
          simp only [spec_l1Cur_spoilt.j1, if_true, e1, e2, e3, Option.bind_some, if_pos y0, if_pos (show y < (u.size : Int) by omega), if_neg k0, if_pos k1, if_pos (show (0 : Int) ≤ (i : Int) by omega), if_pos (show (i : Int) ≤ (t.size : Int) by omega), HW1.out, if_pos (show (0 : Int) ≤ ((i + 1 : Nat) : Int) by omega), if_pos (show ((i + 1 : Nat) : Int) ≤ (t.size : Int) by omega), Int.toNat_natCast, if_pos (show (t.extract 0 i).size + (strOfNums [bt u y]).size ≤ 9223372036854775807 by omega), if_pos (show (t.extract 0 i ++ strOfNums [bt u y]).size + (t.extract (i + 1) t.size).size ≤ 9223372036854775807 by rw [ByteArray.size_append]; omega), HWD.out]
          exact er
        · obtain ⟨r, a', s', er, hr⟩ := ih (t.extract 0 i ++ t.extract (i + 1) t.size) a3 s3 (by omega) (by rw [ByteArray.size_append, hA, hC]; omega) (by omega) (by omega)
          refine ⟨r, a', s', Ev.succ ?_, hr⟩
          simp only [spec_l1Cur_spoilt.l0, if_pos (show ((d + 1 : Nat) : Int) > 0 by omega), decide_eq_true c]
          refine Ev.succ ?_
          simp only [spec_l1Cur_spoilt.j1, if_true, e1, e2, e3, Option.bind_some, if_pos y0, if_pos (show y < (u.size : Int) by omega), if_neg k0, if_neg k1, if_pos (show (0 : Int) ≤ (i : Int) by omega), if_pos (show (i : Int) ≤ (t.size : Int) by omega), HW1.out, if_pos (show (0 : Int) ≤ ((i + 1 : Nat) : Int) by omega), if_pos (show ((i + 1 : Nat) : Int) ≤ (t.size : Int) by omega), Int.toNat_natCast, if_pos (show (t.extract 0 i).size + (t.extract (i + 1) t.size).size ≤ 9223372036854775807 by omega), HWD.out]
          exact er
    · refine ⟨t, a, s, Ev.succ ?_, by omega⟩
      simp only [spec_l1Cur_spoilt.l0, if_pos (show ((d + 1 : Nat) : Int) > 0 by omega), decide_eq_false c]
      refine Ev.succ ?_
      simp only [spec_l1Cur_spoilt.j1, Bool.false_eq_true, if_false]
      exact Ev.now _
theorem drawParse_ev (l : List Int) (hl : Bytes l) : ∃ s : ByteArray, Ev (fun k => spec_DrawParseList.f k l) s ∧ s.size ≤ 5000 := by
  obtain ⟨r, a1, s1, e1, h1, h2, b1, b2⟩ := list60_ev l hl 0 0 (by omega) (by omega)
  have hx : ∀ x ∈ r, 0 ≤ x ∧ x < 100 := fun x hx => by have := h2 x hx; omega
  have ht := liText_ev r (by omega) hx
  have hlen := textL_len (l := r) (by omega) hx
  have hsz : (textB r).size = (textL r).length := ba_size _
  obtain ⟨t, a2, s2, e2, c1, c2⟩ := one_ev l hl a1 s1 3 (by omega) (by omega)
  unfold spec_DrawParseList.f
  cases t with
  | false =>
    refine ⟨textB r, ?_, by omega⟩
    refine Ev.bind e1 (Ev.bind ht ?_)
    simp only [e2, Option.bind_some, Bool.false_eq_true, if_false]
    exact Ev.now _
  | true =>
    obtain ⟨x, a3, s3, e3, x0, x1, d1, d2⟩ := pick_ev l hl a2 s2 2 (by omega) (by omega)
    obtain ⟨d, hd⟩ := Int.eq_ofNat_of_zero_le (show 0 ≤ 1 + x by omega)
    have hd' : 1 + x = (d : Int) := hd
    obtain ⟨q, a', s', er, hr⟩ := spoilt_l l hl (⟨#[48, 49, 54, 57, 32, 45]⟩ : ByteArray) ⟨by decide, by decide⟩ d (textB r) a3 s3 (by omega) (by omega) (by omega) (by omega)
    refine ⟨q, ?_, hr⟩
    refine Ev.bind e1 (Ev.bind ht ?_)
    simp only [e2, Option.bind_some, if_true]
    have : Ev (fun k => spec_l1Cur_spoilt.f k l a2 s2 (textB r) (⟨#[48, 49, 54, 57, 32, 45]⟩ : ByteArray)) (q, a', s') := by
      unfold spec_l1Cur_spoilt.f
      simp only [e3, Option.bind_some, w64 (x := 1 + x) (by omega) (by omega)]
      rw [hd']
      exact er
    exact Ev.bind this (Ev.now _)
theorem drawListText_ev (l : List Int) (hl : Bytes l) : ∃ r : List Int, Ev (fun k => spec_DrawListText.f k l) r ∧ r.length ≤ 12 := by
  obtain ⟨r, a', s', e, h, _, _⟩ := anyList_ev l hl 60 (by omega) (by omega) 0 0 (by omega) (by omega)
  refine ⟨r, ?_, by have := h.len; omega⟩
  unfold spec_DrawListText.f
  exact Ev.bind e (Ev.now _)
end Go.Proofs.YtimkfjekbimmhaaDoor.A

namespace Go.Proofs.YtimkfjekbimmhaaDoor.A
open Go.RowKit Go.Proofs.YtimkfjekbimmhaaDoorW.PrintWords Go.Proofs.YtimkfjekbimmhaaDoorW.PrintLast Go.Proofs.YtimkfjekbimmhaaDoorW.PrintMore
set_option linter.unusedVariables false
set_option linter.unusedSimpArgs false
/-! the words that the laws share -/
theorem Ev.ite' {α : Type} {c : Prop} [Decidable c] {g f : Nat → Option α} {r : α} (h : c → Ev g r) (h' : ¬ c → Ev f r) : Ev (fun k => if c then g k else f k) r := by
  by_cases hc : c
  · simp only [hc, if_true]
    exact h hc
  · simp only [hc, if_false]
    exact h' hc
theorem big_eq (a b : List Int) (ha : a.length ≤ 140737488355328) : laws_big.f a b = some (decide ((a.length : Int) > 1048576 ∨ (b.length : Int) > 1048576 - (a.length : Int))) := by
  unfold laws_big.f
  rw [w64 (x := 1048576 - (a.length : Int)) (by omega) (by omega)]
  by_cases h : (a.length : Int) > 1048576
  · simp [h]
  · simp only [if_neg h]
    congr 1
    by_cases h2 : (b.length : Int) > 1048576 - (a.length : Int)
    · rw [decide_eq_true h2, decide_eq_true (.inr h2)]
    · rw [decide_eq_false h2, decide_eq_false (by omega)]
theorem bytes_of {l : List Int} (h : l.length ≤ 1048576) (hx : ∀ x ∈ l, (Lit.int .u8 x).wf = true) : Bytes l := by
  refine ⟨h, fun x hm => ?_⟩
  have := hx x hm
  simp only [Lit.wf, Bool.and_eq_true, decide_eq_true_eq] at this
  exact ⟨this.1, this.2⟩
theorem pSame_l (xs ys : List Int) (hx : xs.length ≤ 9223372036854775807) (hl : xs.length = ys.length) : ∀ (n i : Nat), i + n = xs.length → Ev (fun k => laws_pSame.l0 k xs ys (xs.length : Int) (i : Int)) (decide (xs.drop i = ys.drop i))
  | 0, i, h => by
    refine Ev.succ ?_
    simp only [laws_pSame.l0, if_neg (show ¬ (i : Int) < (xs.length : Int) by omega)]
    rw [List.drop_eq_nil_of_le (by omega), List.drop_eq_nil_of_le (by omega), decide_eq_true rfl]
    exact Ev.now _
  | n + 1, i, h => by
    have hi : i < xs.length := by omega
    have hj : i < ys.length := by omega
    refine Ev.succ ?_
    simp only [laws_pSame.l0, if_pos (show (i : Int) < (xs.length : Int) by omega), if_pos (show (0 : Int) ≤ (i : Int) by omega), if_pos (show (i : Int) < (ys.length : Int) by omega), rdn hi, rdn hj, wsucc hi hx]
    rw [List.drop_eq_getElem_cons hi, List.drop_eq_getElem_cons hj]
    by_cases c : xs[i] = ys[i]
    · simp only [if_pos c, c, List.cons.injEq, true_and]
      exact pSame_l xs ys hx hl n (i + 1) (by omega)
    · simp only [if_neg c, List.cons.injEq, c, false_and, decide_false]
      exact Ev.now _
theorem pSame_ev (xs ys : List Int) (hx : xs.length ≤ 9223372036854775807) : Ev (fun k => laws_pSame.f k xs ys) (decide (xs = ys)) := by
  unfold laws_pSame.f
  by_cases h : (xs.length : Int) = (ys.length : Int)
  · simp only [if_pos h]
    exact pSame_l xs ys hx (by omega) xs.length 0 (by omega)
  · simp only [if_neg h]
    rw [decide_eq_false (fun e => h (by rw [e]))]
    exact Ev.now _
theorem pSame_self (xs : List Int) (hx : xs.length ≤ 9223372036854775807) : Ev (fun k => laws_pSame.f k xs xs) true := by
  have h := pSame_ev xs xs hx
  rw [decide_eq_true rfl] at h
  exact h
theorem big_cut (l0 l1 : List Int) (g0 : l0.length * 1 ≤ 140737488351232) (x0 : ∀ x ∈ l0, (Lit.int .u8 x).wf = true) (x1 : ∀ x ∈ l1, (Lit.int .u8 x).wf = true) : laws_big.f l0 l1 = some true ∨ laws_big.f l0 l1 = some false ∧ Bytes l0 ∧ Bytes l1 := by
  rw [big_eq l0 l1 (by omega)]
  by_cases hb : (l0.length : Int) > 1048576 ∨ (l1.length : Int) > 1048576 - (l0.length : Int)
  · rw [decide_eq_true hb]
    exact .inl rfl
  · rw [decide_eq_false hb]
    exact .inr ⟨rfl, bytes_of (by omega) x0, bytes_of (by omega) x1⟩
end Go.Proofs.YtimkfjekbimmhaaDoor.A

namespace Go.Proofs.YtimkfjekbimmhaaDoor.A
open Go.RowKit Go.Proofs.YtimkfjekbimmhaaDoorW.PrintWords Go.Proofs.YtimkfjekbimmhaaDoorW.PrintLast Go.Proofs.YtimkfjekbimmhaaDoorW.PrintMore
set_option linter.unusedVariables false
set_option linter.unusedSimpArgs false
/-! a text's pieces between blanks -/
def splitC : List UInt8 → List (List UInt8)
  | [] => [[]]
  | b :: r => if b = 32 then [] :: splitC r else match splitC r with
    | [] => [[b]]
    | w :: ws => (b :: w) :: ws
theorem splitC_ne : ∀ l : List UInt8, splitC l ≠ []
  | [] => by simp [splitC]
  | b :: r => by
    unfold splitC
    split
    · simp
    · split <;> simp
theorem splitC_len : ∀ l : List UInt8, (splitC l).length ≤ l.length + 1
  | [] => by simp [splitC]
  | b :: r => by
    have ih := splitC_len r
    unfold splitC
    split
    · rw [List.length_cons, List.length_cons]; omega
    · split
      · simp
      · next w ws h => rw [h] at ih; rw [List.length_cons] at ih ⊢; rw [List.length_cons]; omega
theorem splitC_pre : ∀ (p r : List UInt8), (∀ b ∈ p, b ≠ 32) → splitC (p ++ 32 :: r) = p :: splitC r
  | [], r, _ => by simp [splitC]
  | b :: p, r, h => by
    have ih := splitC_pre p r fun x hx => h x (List.mem_cons_of_mem _ hx)
    rw [List.cons_append, splitC, if_neg (h b List.mem_cons_self), ih]
theorem splitC_one : ∀ p : List UInt8, (∀ b ∈ p, b ≠ 32) → splitC p = [p]
  | [], _ => rfl
  | b :: p, h => by
    have ih := splitC_one p fun x hx => h x (List.mem_cons_of_mem _ hx)
    rw [splitC, if_neg (h b List.mem_cons_self), ih]
theorem join_cons2 (x y : List UInt8) (r : List (List UInt8)) : Go.Lib.join (x :: y :: r) [32] = x ++ 32 :: Go.Lib.join (y :: r) [32] := by
  rw [Go.Lib.join_cons, Go.Lib.join_cons]
  simp [Go.Lib.joinTail]
theorem join_head (b : UInt8) (w : List UInt8) (ws : List (List UInt8)) : Go.Lib.join ((b :: w) :: ws) [32] = b :: Go.Lib.join (w :: ws) [32] := by
  rw [Go.Lib.join_cons, Go.Lib.join_cons]
  rfl
theorem join_split : ∀ l : List UInt8, Go.Lib.join (splitC l) [32] = l
  | [] => by simp [splitC, Go.Lib.join_one]
  | b :: r => by
    have ih := join_split r
    unfold splitC
    split
    · next h =>
      cases hs : splitC r with
      | nil => exact absurd hs (splitC_ne r)
      | cons w ws =>
        rw [hs] at ih
        rw [join_cons2, ih, h]
        rfl
    · cases hs : splitC r with
      | nil => exact absurd hs (splitC_ne r)
      | cons w ws =>
        rw [hs] at ih
        rw [join_head, ih]
theorem split_join : ∀ ws : List (List UInt8), ws ≠ [] → (∀ w ∈ ws, ∀ b ∈ w, b ≠ 32) → splitC (Go.Lib.join ws [32]) = ws
  | [], h, _ => absurd rfl h
  | [x], _, h => by
    rw [Go.Lib.join_one]
    exact splitC_one x (h x List.mem_cons_self)
  | x :: y :: r, _, h => by
    rw [join_cons2, splitC_pre _ _ (h x List.mem_cons_self), split_join (y :: r) (by simp) fun w hw => h w (List.mem_cons_of_mem _ hw)]
theorem dig_no {x : Int} (h0 : 0 ≤ x) (h1 : x < 100) : ∀ b ∈ Go.Lib.decDigits x.toNat, b ≠ 32 := by
  have e1 : ∀ i : Fin 10, (UInt8.ofNat (48 + i.val)) ≠ 32 := by decide
  intro b hb
  by_cases c : x.toNat < 10
  · rw [Go.Lib.decDigits_one c, List.mem_singleton] at hb
    rw [hb]
    exact e1 ⟨x.toNat, c⟩
  · rw [Go.Lib.decDigits_two c (by omega)] at hb
    simp only [List.mem_cons, List.not_mem_nil, or_false] at hb
    rcases hb with hb | hb
    · rw [hb]; exact e1 ⟨x.toNat / 10, by omega⟩
    · rw [hb]; exact e1 ⟨x.toNat % 10, by omega⟩
theorem split_text {l : List Int} (hl : l ≠ []) (hx : ∀ x ∈ l, 0 ≤ x ∧ x < 100) : splitC (textL l) = l.map fun n => Go.Lib.decDigits n.toNat := by
  unfold textL
  refine split_join _ (by simpa using hl) fun w hw => ?_
  obtain ⟨x, h, rfl⟩ := List.mem_map.1 hw
  exact dig_no (hx x h).1 (hx x h).2
theorem splitK_eq : ∀ (k : Nat) (l : List UInt8), (splitC l).length ≤ k + 1 → Go.Lib.splitK [32] 0 k l = splitC l
  | 0, l, h => by
    have hj := join_split l
    have hn := splitC_ne l
    cases hs : splitC l with
    | nil => exact absurd hs hn
    | cons w ws =>
      rw [hs] at h hj
      have : ws = [] := by
        cases ws with
        | nil => rfl
        | cons _ _ => simp at h
      subst this
      rw [Go.Lib.join_one] at hj
      rw [hj]
      rfl
  | k + 1, l, h => by
    unfold Go.Lib.splitK
    rw [Go.Lib.index_one]
    have hge := Go.Lib.indexByte_ge l 32
    by_cases c : Go.Lib.indexByte l 32 = -1
    · have hno := Go.Lib.indexByte_none c
      rw [splitC_one l (fun b hb e => by
        obtain ⟨i, hi, rfl⟩ := List.mem_iff_getElem.1 hb
        exact hno i (by rw [List.getElem?_eq_getElem hi, e]))]
      simp [c]
    · obtain ⟨i, hi⟩ := Int.eq_ofNat_of_zero_le (show 0 ≤ Go.Lib.indexByte l 32 by omega)
      obtain ⟨h1, h2⟩ := Go.Lib.indexByte_some hi
      have hil : i < l.length := (List.getElem?_eq_some_iff.1 h1).1
      have hgi : l[i] = 32 := (List.getElem?_eq_some_iff.1 h1).2
      have hl : l = l.take i ++ 32 :: l.drop (i + 1) := by
        rw [← hgi, ← List.drop_eq_getElem_cons hil, List.take_append_drop]
      have hp : ∀ b ∈ l.take i, b ≠ 32 := fun b hb e => by
        obtain ⟨j, hj, rfl⟩ := List.mem_iff_getElem.1 hb
        rw [List.length_take] at hj
        rw [List.getElem_take] at e
        exact h2 j (by omega) (by rw [List.getElem?_eq_getElem (by omega), e])
      have hs : splitC l = l.take i :: splitC (l.drop (i + 1)) := by
        conv => lhs; rw [hl]
        exact splitC_pre _ _ hp
      rw [hs, List.length_cons] at h
      have ih := splitK_eq k (l.drop (i + 1)) (by omega)
      rw [hs, ← ih, hi]
      simp
end Go.Proofs.YtimkfjekbimmhaaDoor.A

namespace Go.Proofs.YtimkfjekbimmhaaDoor.A
open Go.RowKit Go.Proofs.YtimkfjekbimmhaaDoorW.PrintWords Go.Proofs.YtimkfjekbimmhaaDoorW.PrintLast Go.Proofs.YtimkfjekbimmhaaDoorW.PrintMore
set_option linter.unusedVariables false
set_option linter.unusedSimpArgs false
/-! ParseList -/
def digB (b : UInt8) : Bool := decide (48 ≤ b.toNat) && decide (b.toNat ≤ 57)
def valC (w : List UInt8) : Int := w.foldl (fun a b => 10 * a + ((b.toNat : Int) - 48)) 0
def headC (w : List UInt8) : Bool := decide (w.headD 0 = 48) && decide (1 < w.length)
def readC (w : List UInt8) : Int := if 1 ≤ w.length ∧ w.length ≤ 6 then (if headC w = true then -1 else if w.all digB = true then valC w else -1) else -1
def mkB (l : List UInt8) : ByteArray := ⟨l.toArray⟩
theorem bt_list {s : ByteArray} {i : Nat} (h : i < s.data.toList.length) : bt s (i : Int) = ((s.data.toList[i]).toNat : Int) := by
  have hs : i < s.size := by simpa using h
  rw [← bt_at s (i : Int) (by rw [Int.toNat_natCast]; exact hs)]
  simp
  rfl
theorem ext_list (s : ByteArray) (a b : Nat) : s.extract a b = mkB ((s.data.toList.drop a).take (b - a)) := by
  apply ByteArray.ext
  rw [ByteArray.data_extract]
  unfold mkB
  apply Array.toList_inj.1
  rw [Array.toList_extract]
theorem size_list (s : ByteArray) : s.size = s.data.toList.length := by
  show s.data.size = s.data.toList.length
  exact Array.length_toList.symm
theorem split_l0 (s : ByteArray) (hs : s.size ≤ 16777216) : ∀ (d i f : Nat) (acc : List ByteArray), i + d = s.data.toList.length → f ≤ i → acc.length ≤ f → (∀ j, f ≤ j → j < i → ∀ h : j < s.data.toList.length, s.data.toList[j] ≠ 32) → Ev (fun k => spec_l1Split.l0 k s 32 acc (f : Int) (i : Int)) (acc ++ (splitC (s.data.toList.drop f)).map mkB)
  | 0, i, f, acc, hi, hf, ha, hno => by
    have hsz := size_list s
    refine Ev.succ ?_
    simp only [spec_l1Split.l0, if_neg (show ¬ (i : Int) < (s.size : Int) by omega), if_pos (show (0 : Int) ≤ (f : Int) by omega), if_pos (show (f : Int) ≤ (s.size : Int) by omega), if_pos (show acc.length < 8796093022208 by omega), Int.toNat_natCast]
    rw [splitC_one _ (fun b hb e => by
      obtain ⟨j, hj, rfl⟩ := List.mem_iff_getElem.1 hb
      rw [List.length_drop] at hj
      rw [List.getElem_drop] at e
      exact hno (f + j) (by omega) (by omega) (by omega) e), ext_list, List.take_of_length_le (by rw [List.length_drop]; omega)]
    exact Ev.now _
  | d + 1, i, f, acc, hi, hf, ha, hno => by
    have hsz := size_list s
    have hil : i < s.data.toList.length := by omega
    refine Ev.succ ?_
    simp only [spec_l1Split.l0, if_pos (show (i : Int) < (s.size : Int) by omega), if_pos (show (0 : Int) ≤ (i : Int) by omega), bt_list hil, wsucc hil (by omega)]
    by_cases c : s.data.toList[i] = 32
    · have e32 : ((s.data.toList[i]).toNat : Int) = 32 := by rw [c]; rfl
      simp only [if_pos e32, if_pos (show (0 : Int) ≤ (f : Int) by omega), if_pos (show (f : Int) ≤ (i : Int) by omega), if_pos (show (i : Int) ≤ (s.size : Int) by omega), if_pos (show acc.length < 8796093022208 by omega), Int.toNat_natCast]
      have ih := split_l0 s hs d (i + 1) (i + 1) (acc ++ [s.extract f i]) (by omega) (Nat.le_refl _) (by rw [List.length_append, List.length_singleton]; omega) (fun j h1 h2 => by omega)
      have hd : s.data.toList.drop f = (s.data.toList.drop f).take (i - f) ++ 32 :: s.data.toList.drop (i + 1) := by
        have h1 : (s.data.toList.drop f).drop (i - f) = s.data.toList.drop i := by rw [List.drop_drop]; congr 1; omega
        rw [← c, ← List.drop_eq_getElem_cons hil, ← h1, List.take_append_drop]
      have hsp : splitC (s.data.toList.drop f) = (s.data.toList.drop f).take (i - f) :: splitC (s.data.toList.drop (i + 1)) := by
        conv => lhs; rw [hd]
        refine splitC_pre _ _ fun b hb e => ?_
        obtain ⟨j, hj, rfl⟩ := List.mem_iff_getElem.1 hb
        rw [List.length_take, List.length_drop] at hj
        rw [List.getElem_take, List.getElem_drop] at e
        exact hno (f + j) (by omega) (by omega) (by omega) e
      have e : acc ++ (s.extract f i :: (splitC (s.data.toList.drop (i + 1))).map mkB) = acc ++ [s.extract f i] ++ (splitC (s.data.toList.drop (i + 1))).map mkB := by rw [List.append_assoc, List.singleton_append]
      rw [hsp, List.map_cons, ← ext_list, e]
      exact ih
    · have e32 : ¬ ((s.data.toList[i]).toNat : Int) = 32 := fun h => c (by
        have h2 : (s.data.toList[i]).toNat = 32 := by omega
        exact UInt8.toNat_inj.1 h2)
      simp only [if_neg e32]
      exact split_l0 s hs d (i + 1) f acc (by omega) (by omega) ha (fun j h1 h2 h3 => by
        by_cases e : j = i
        · subst e; exact c
        · exact hno j h1 (by omega) h3)
theorem l1Split_ev (s : ByteArray) (hs : s.size ≤ 16777216) : Ev (fun k => spec_l1Split.f k s 32) ((splitC s.data.toList).map mkB) := by
  have := split_l0 s hs s.data.toList.length 0 0 [] (by omega) (Nat.le_refl _) (by simp) (fun j h1 h2 => by omega)
  simp only [List.drop_zero, List.nil_append] at this
  exact this
def pow10 : Nat → Int
  | 0 => 1
  | n + 1 => 10 * pow10 n
theorem pow10_le : ∀ n : Fin 7, pow10 n.val ≤ 1000000 := by decide
theorem valC_snoc (w : List UInt8) (b : UInt8) : valC (w ++ [b]) = 10 * valC w + ((b.toNat : Int) - 48) := by
  unfold valC
  rw [List.foldl_append]
  rfl
theorem valC_bd : ∀ (n : Nat) (w : List UInt8), w.length = n → w.all digB = true → 0 ≤ valC w ∧ valC w < pow10 n
  | 0, w, h, _ => by
    rw [List.length_eq_zero_iff] at h
    subst h
    simp [valC, pow10]
  | n + 1, w, h, ha => by
    obtain ⟨v, b, rfl⟩ : ∃ v b, w = v ++ [b] := ⟨w.dropLast, w.getLast (by intro e; rw [e] at h; simp at h), (List.dropLast_concat_getLast _).symm⟩
    rw [List.length_append, List.length_singleton] at h
    rw [List.all_append, Bool.and_eq_true] at ha
    have ih := valC_bd n v (by omega) ha.1
    have hb : digB b = true := by simpa using ha.2
    unfold digB at hb
    rw [Bool.and_eq_true, decide_eq_true_eq, decide_eq_true_eq] at hb
    rw [valC_snoc]
    show _ ∧ _ < 10 * pow10 n
    omega
theorem read_l0 (s : ByteArray) (w : List UInt8) (hw : w = s.data.toList) (hl : w.length ≤ 6) : ∀ (d i : Nat), i + d = w.length → (w.take i).all digB = true → Ev (fun k => spec_l1Read.l0 k s (valC (w.take i)) (i : Int)) (if w.all digB = true then valC w else -1)
  | 0, i, hi, ha => by
    have hsz := size_list s
    rw [← hw] at hsz
    refine Ev.succ ?_
    rw [List.take_of_length_le (by omega)] at ha ⊢
    simp only [spec_l1Read.l0, if_neg (show ¬ (i : Int) < (s.size : Int) by omega), ha, if_true]
    exact Ev.now _
  | d + 1, i, hi, ha => by
    have hsz := size_list s
    rw [← hw] at hsz
    have hil : i < w.length := by omega
    have hbt : bt s (i : Int) = ((w[i]).toNat : Int) := by
      subst hw
      exact bt_list hil
    have hbd := valC_bd i (w.take i) (by rw [List.length_take]; omega) ha
    have hp := pow10_le ⟨i, by omega⟩
    dsimp only at hp
    refine Ev.succ ?_
    simp only [spec_l1Read.l0, if_pos (show (i : Int) < (s.size : Int) by omega), if_pos (show (0 : Int) ≤ (i : Int) by omega), hbt, wsucc hil (by omega)]
    have hbad : digB w[i] = false → w.all digB = false := fun h => by
      rw [List.all_eq_false]
      exact ⟨_, List.getElem_mem hil, by rw [h]; decide⟩
    by_cases c1 : ((w[i]).toNat : Int) < 48
    · simp only [if_pos c1]
      rw [hbad (by unfold digB; rw [decide_eq_false (by omega)]; rfl)]
      exact Ev.now _
    · by_cases c2 : ((w[i]).toNat : Int) > 57
      · simp only [if_neg c1, if_pos c2]
        rw [hbad (by unfold digB; rw [decide_eq_false (show ¬ (w[i]).toNat ≤ 57 by omega), Bool.and_false])]
        exact Ev.now _
      · simp only [if_neg c1, if_neg c2]
        have hm : (((w[i]).toNat : Int) - 48) % 256 = ((w[i]).toNat : Int) - 48 := by omega
        have hv : valC (w.take (i + 1)) = 10 * valC (w.take i) + (((w[i]).toNat : Int) - 48) := by
          rw [List.take_succ_eq_append_getElem hil, valC_snoc]
        rw [hm, w64 (x := 10 * valC (w.take i)) (by omega) (by omega), w64 (by omega) (by omega), ← hv]
        exact read_l0 s w hw hl d (i + 1) (by omega) (by
          rw [List.take_succ_eq_append_getElem hil, List.all_append, ha, Bool.true_and, List.all_cons, List.all_nil, Bool.and_true]
          unfold digB
          rw [decide_eq_true (show 48 ≤ (w[i]).toNat by omega), decide_eq_true (show (w[i]).toNat ≤ 57 by omega)]
          rfl)
theorem l1Read_ev (s : ByteArray) : Ev (fun k => spec_l1Read.f k s) (readC s.data.toList) := by
  obtain ⟨w, hw⟩ : ∃ w, w = s.data.toList := ⟨_, rfl⟩
  have hsz := size_list s
  rw [← hw] at hsz ⊢
  have J : ∀ b : Bool, (b = false → w.length ≤ 6) → Ev (fun k => spec_l1Read.j0 k s b) (if b = true then -1 else if w.all digB = true then valC w else -1) := fun b hb => by
    refine Ev.succ ?_
    cases b with
    | true =>
      simp only [spec_l1Read.j0, if_true]
      exact Ev.now _
    | false =>
      simp only [spec_l1Read.j0, Bool.false_eq_true, if_false]
      exact read_l0 s w hw (hb rfl) w.length 0 (by omega) rfl
  unfold spec_l1Read.f readC
  simp only [l1In_eq, Option.bind_some, decide_eq_true_eq]
  by_cases c : 1 ≤ w.length ∧ w.length ≤ 6
  · rw [if_pos c]
    simp only [if_pos (show (1 : Int) ≤ (s.size : Int) ∧ (s.size : Int) ≤ 6 by omega), if_pos (show (0 : Int) < (s.size : Int) by omega)]
    have hb0 : bt s 0 = ((w[0]'(by omega)).toNat : Int) := by
      subst hw
      exact bt_list (i := 0) (by omega)
    have hh : w.headD 0 = w[0]'(by omega) := by
      cases w with
      | nil => simp at c
      | cons a r => rfl
    rw [hb0]
    by_cases c2 : ((w[0]'(by omega)).toNat : Int) = 48
    · have c3 : w[0]'(by omega) = 48 := by
        have h2 : (w[0]'(by omega)).toNat = 48 := by omega
        exact UInt8.toNat_inj.1 h2
      simp only [if_pos c2]
      have e : decide ((s.size : Int) > 1) = headC w := by
        unfold headC
        rw [hh, decide_eq_true c3, Bool.true_and, decide_eq_decide]
        omega
      rw [e]
      exact J _ (fun _ => c.2)
    · simp only [if_neg c2]
      have e : headC w = false := by
        unfold headC
        rw [hh, decide_eq_false (fun h => c2 (by rw [h]; rfl))]
        rfl
      rw [e]
      exact J false (fun _ => c.2)
  · rw [if_neg c]
    simp only [if_neg (show ¬ ((1 : Int) ≤ (s.size : Int) ∧ (s.size : Int) ≤ 6) by omega)]
    exact J true (fun h => by cases h)
def PR (s : ByteArray) : List Int × Bool := if goodL ((splitC s.data.toList).map readC) = true then ((splitC s.data.toList).map readC, true) else ([], false)
theorem parse_l0 (ws : List (List UInt8)) (hl : ws.length ≤ 16777300) {r : List Int × Bool} (hr : r = if goodL (ws.map readC) = true then (ws.map readC, true) else ([], false)) : ∀ (d i : Nat) (acc : List Int), i + d = ws.length → acc = (ws.take i).map readC → Ev (fun k => spec_ParseList.l0 k acc (ws.map mkB) ((ws.map mkB).length : Int) (i : Int)) r
  | 0, i, acc, hi, ha => by
    refine Ev.succ ?_
    rw [List.take_of_length_le (by omega)] at ha
    simp only [spec_ParseList.l0, List.length_map, if_neg (show ¬ (i : Int) < (ws.length : Int) by omega)]
    have hlif : Ev (fun k => spec_liIf.f k acc) r := by
      rw [hr, ← ha]
      unfold spec_liIf.f
      exact Ev.bind (liGood_ev acc (by rw [ha, List.length_map]; omega)) (Ev.ite (fun _ => Ev.now _) (fun _ => Ev.now _))
    exact Ev.bind hlif (Ev.now _)
  | d + 1, i, acc, hi, ha => by
    have hil : i < ws.length := by omega
    have hal : acc.length = i := by rw [ha, List.length_map, List.length_take]; omega
    have ih := parse_l0 ws hl hr d (i + 1) (acc ++ [readC ws[i]]) (by omega) (by rw [ha, List.take_succ_eq_append_getElem hil, List.map_append]; rfl)
    refine Ev.succ ?_
    have hrd : rdOf ByteArray.empty (ws.map mkB) (i : Int) = mkB ws[i] := by
      unfold rdOf
      rw [Int.toNat_natCast, List.getD_eq_getElem?_getD, List.getElem?_map, List.getElem?_eq_getElem hil]
      rfl
    rw [List.length_map] at ih
    simp only [spec_ParseList.l0, List.length_map, if_pos (show (i : Int) < (ws.length : Int) by omega), if_pos (show (0 : Int) ≤ (i : Int) by omega), hrd, wsucc hil (by omega)]
    refine Ev.bind (l1Read_ev (mkB ws[i])) ?_
    have e : (mkB ws[i]).data.toList = ws[i] := by
      unfold mkB
      simp
    rw [e]
    simp only [if_pos (show acc.length < 17592186044416 by omega)]
    exact ih
theorem specParseList_ev (s : ByteArray) (hs : s.size ≤ 16777216) : Ev (fun k => spec_ParseList.f k s) (PR s) := by
  unfold spec_ParseList.f
  refine Ev.bind (l1Split_ev s hs) ?_
  have hl := splitC_len s.data.toList
  have hsz := size_list s
  exact parse_l0 (splitC s.data.toList) (by omega) rfl (splitC s.data.toList).length 0 [] (by omega) rfl
theorem read_digs : ∀ i : Fin 61, 10 ≤ i.val → readC [UInt8.ofNat (48 + i.val / 10), UInt8.ofNat (48 + i.val % 10)] = (i.val : Int) := by decide +kernel
theorem read_dig : ∀ i : Fin 10, readC [UInt8.ofNat (48 + i.val)] = (i.val : Int) := by decide +kernel
theorem read_dec {x : Int} (h0 : 0 ≤ x) (h1 : x ≤ 60) : readC (Go.Lib.decDigits x.toNat) = x := by
  by_cases c : x.toNat < 10
  · rw [Go.Lib.decDigits_one c]
    have := read_dig ⟨x.toNat, c⟩
    dsimp only at this
    rw [this]
    omega
  · rw [Go.Lib.decDigits_two c (by omega)]
    have := read_digs ⟨x.toNat, by omega⟩ (by show 10 ≤ x.toNat; omega)
    dsimp only at this
    rw [this]
    omega
def okI8 (e : Go.Lib.NumEnd Int) (x : Int) : Bool := match e with
  | .ok v => decide (v = x)
  | _ => false
theorem ok_of {e : Go.Lib.NumEnd Int} {x : Int} (h : okI8 e x = true) : e = .ok x := by
  unfold okI8 at h
  split at h
  · rw [of_decide_eq_true h]
  · cases h
theorem atoi_digs : ∀ i : Fin 61, 10 ≤ i.val → okI8 (Go.Lib.atoiAll [UInt8.ofNat (48 + i.val / 10), UInt8.ofNat (48 + i.val % 10)]) (i.val : Int) = true := by decide +kernel
theorem atoi_dig : ∀ i : Fin 10, okI8 (Go.Lib.atoiAll [UInt8.ofNat (48 + i.val)]) (i.val : Int) = true := by decide +kernel
theorem atoi_dec {x : Int} (h0 : 0 ≤ x) (h1 : x ≤ 60) : Go.Lib.atoiAll (Go.Lib.decDigits x.toNat) = .ok x := by
  have e : ((x.toNat : Nat) : Int) = x := by omega
  by_cases c : x.toNat < 10
  · rw [Go.Lib.decDigits_one c]
    have := ok_of (atoi_dig ⟨x.toNat, c⟩)
    dsimp only at this
    rw [this, e]
  · rw [Go.Lib.decDigits_two c (by omega)]
    have := ok_of (atoi_digs ⟨x.toNat, by omega⟩ (by show 10 ≤ x.toNat; omega))
    dsimp only at this
    rw [this, e]
theorem dig_back {b : UInt8} {v : Nat} (h1 : 48 ≤ b.toNat) (h2 : b.toNat ≤ 57) (h : (v : Int) = (b.toNat : Int) - 48) : UInt8.ofNat (48 + v) = b := by
  have : 48 + v = b.toNat := by omega
  rw [this, UInt8.ofNat_toNat]
theorem digB_iff {b : UInt8} (h : digB b = true) : 48 ≤ b.toNat ∧ b.toNat ≤ 57 := by
  unfold digB at h
  rw [Bool.and_eq_true, decide_eq_true_eq, decide_eq_true_eq] at h
  exact h
theorem fold_ge : ∀ (r : List UInt8) (a : Int), 100 ≤ a → r.all digB = true → 100 ≤ r.foldl (fun a b => 10 * a + ((b.toNat : Int) - 48)) a
  | [], a, h, _ => h
  | b :: r, a, h, ha => by
    rw [List.all_cons, Bool.and_eq_true] at ha
    have hb := digB_iff ha.1
    rw [List.foldl_cons]
    exact fold_ge r _ (by omega) ha.2
theorem dec_read {w : List UInt8} (h0 : 0 ≤ readC w) (h1 : readC w ≤ 60) : w = Go.Lib.decDigits (readC w).toNat := by
  unfold readC at h0 h1 ⊢
  split at h0
  · next hl =>
    rw [if_pos hl] at h1 ⊢
    split at h0
    · omega
    · next hh =>
      rw [if_neg hh] at h1 ⊢
      split at h0
      · next ha =>
        rw [if_pos ha] at h1 ⊢
        match w, hl, hh, ha, h0, h1 with
        | [], hl, _, _, _, _ => simp at hl
        | [a], _, _, ha, h0, h1 =>
          have hb := digB_iff (by simpa using ha)
          have hv : valC [a] = (a.toNat : Int) - 48 := by simp [valC]
          rw [hv] at h0 h1 ⊢
          rw [Go.Lib.decDigits_one (by omega), dig_back hb.1 hb.2 (by omega)]
        | [a, b], _, hh, ha, h0, h1 =>
          rw [List.all_cons, Bool.and_eq_true, List.all_cons, Bool.and_eq_true] at ha
          have hb := digB_iff ha.1
          have hc := digB_iff ha.2.1
          have hne : a.toNat ≠ 48 := fun e => hh (by
            have : a = 48 := UInt8.toNat_inj.1 e
            unfold headC
            simp [this])
          have hv : valC [a, b] = 10 * ((a.toNat : Int) - 48) + ((b.toNat : Int) - 48) := by simp [valC]
          rw [hv] at h0 h1 ⊢
          rw [Go.Lib.decDigits_two (by omega) (by omega), dig_back (v := (10 * ((a.toNat : Int) - 48) + ((b.toNat : Int) - 48)).toNat / 10) hb.1 hb.2 (by omega), dig_back (v := (10 * ((a.toNat : Int) - 48) + ((b.toNat : Int) - 48)).toNat % 10) hc.1 hc.2 (by omega)]
        | a :: b :: c :: r, _, hh, ha, h0, h1 =>
          rw [List.all_cons, Bool.and_eq_true, List.all_cons, Bool.and_eq_true, List.all_cons, Bool.and_eq_true] at ha
          have hb := digB_iff ha.1
          have hc := digB_iff ha.2.1
          have hd := digB_iff ha.2.2.1
          have hne : a.toNat ≠ 48 := fun e => hh (by
            have : a = 48 := UInt8.toNat_inj.1 e
            unfold headC
            simp [this])
          have := fold_ge r (10 * (10 * (10 * 0 + ((a.toNat : Int) - 48)) + ((b.toNat : Int) - 48)) + ((c.toNat : Int) - 48)) (by omega) ha.2.2.2
          have hv : valC (a :: b :: c :: r) = r.foldl (fun a b => 10 * a + ((b.toNat : Int) - 48)) (10 * (10 * (10 * 0 + ((a.toNat : Int) - 48)) + ((b.toNat : Int) - 48)) + ((c.toNat : Int) - 48)) := rfl
          rw [hv] at h1
          omega
      · omega
  · omega
theorem atoiS_dec : ∀ (ws : List ByteArray) (l : List Int), (∀ x ∈ l, 0 ≤ x ∧ x ≤ 60) → ws.map (·.data.toList) = l.map (fun n => Go.Lib.decDigits n.toNat) → atoiS ws = some l
  | [], [], _, _ => rfl
  | [], x :: l, _, h => by simp at h
  | w :: ws, [], _, h => by simp at h
  | w :: ws, x :: l, hx, h => by
    rw [List.map_cons, List.map_cons, List.cons.injEq] at h
    have hb := hx x List.mem_cons_self
    rw [atoiS, h.1, atoi_dec hb.1 hb.2, atoiS_dec ws l (fun y hy => hx y (List.mem_cons_of_mem _ hy)) h.2]
    rfl
theorem atoiS_len : ∀ (ws : List ByteArray) (l : List Int), atoiS ws = some l → l.length = ws.length
  | [], l, h => by
    have : [] = l := by simpa [atoiS] using h
    rw [← this]
    rfl
  | w :: ws, l, h => by
    rw [atoiS] at h
    split at h
    · obtain ⟨r, hr, rfl⟩ := Option.map_eq_some_iff.1 h
      rw [List.length_cons, List.length_cons, atoiS_len ws r hr]
    · cases h
theorem words_split {s : ByteArray} (h : (splitC s.data.toList).length ≤ 9) : (wordsS s).map (·.data.toList) = splitC s.data.toList := by
  unfold wordsS
  rw [Go.Lib.splitB_data]
  have hl := splitC_len s.data.toList
  have hsz := size_list s
  have hn := splitC_ne s.data.toList
  have hpos : 0 < (splitC s.data.toList).length := List.length_pos_iff.2 hn
  exact splitK_eq _ _ (by omega)
theorem text_of_good {s : ByteArray} (h : goodL ((splitC s.data.toList).map readC) = true) : splitC s.data.toList = ((splitC s.data.toList).map readC).map (fun n => Go.Lib.decDigits n.toNat) ∧ textB ((splitC s.data.toList).map readC) = s := by
  obtain ⟨_, _, h3⟩ := (goodL_iff _).1 h
  have e : splitC s.data.toList = ((splitC s.data.toList).map readC).map (fun n => Go.Lib.decDigits n.toNat) := by
    rw [List.map_map]
    symm
    conv => rhs; rw [← List.map_id (splitC s.data.toList)]
    refine List.map_congr_left fun w hw => ?_
    have := h3 _ (List.mem_map_of_mem hw)
    exact (dec_read this.1 this.2).symm
  refine ⟨e, ?_⟩
  unfold textB textL
  rw [← e, join_split]
theorem good_of_text {s : ByteArray} {l : List Int} (hg : goodL l = true) (h : textB l = s) : (splitC s.data.toList).map readC = l := by
  obtain ⟨h1, h2, h3⟩ := (goodL_iff _).1 hg
  have hd : s.data.toList = textL l := by
    rw [← h]
    unfold textB
    simp
  rw [hd, split_text (by intro e; rw [e] at h1; simp at h1) (fun x hx => by have := h3 x hx; omega), List.map_map]
  conv => rhs; rw [← List.map_id l]
  refine List.map_congr_left fun x hx => ?_
  exact read_dec (h3 x hx).1 (h3 x hx).2
theorem implParseList_ev (s : ByteArray) (hs : s.size ≤ 16777216) : Ev (fun k => impl_ParseList.f k s) (PR s) := by
  unfold impl_ParseList.f PR
  simp only [if_pos hs]
  by_cases hg : goodL ((splitC s.data.toList).map readC) = true
  · obtain ⟨e, ht⟩ := text_of_good hg
    obtain ⟨h1, h2, h3⟩ := (goodL_iff _).1 hg
    have hf := good_few hg
    have hw := words_split (s := s) (by rw [List.length_map] at h2; omega)
    rw [e] at hw
    have ha := atoiS_dec (wordsS s) _ h3 hw
    rw [if_pos hg, ha]
    refine Ev.bind (implIsList_ev _ (by omega)) ?_
    simp only [hg, if_true]
    refine Ev.bind (listText_ev _ (by omega) hf.2) ?_
    simp only [if_pos ht]
    exact Ev.now _
  · rw [if_neg hg]
    cases ha : atoiS (wordsS s) with
    | none => exact Ev.now _
    | some l =>
      have hl := atoiS_len _ _ ha
      have hw : (wordsS s).length ≤ 9 := by
        have := Go.Lib.splitB_length_le ⟨#[32]⟩ 0 (min 9 (s.size + 1) - 1) s
        unfold wordsS
        omega
      refine Ev.bind (implIsList_ev l (by omega)) ?_
      refine Ev.ite' (fun c => ?_) (fun _ => Ev.now _)
      have hf := good_few c
      refine Ev.bind (listText_ev l (by omega) hf.2) ?_
      have : ¬ textB l = s := fun h => hg (by rw [good_of_text c h]; exact c)
      simp only [if_neg this]
      exact Ev.now _
theorem PR_len (s : ByteArray) : (PR s).1.length ≤ 8 := by
  unfold PR
  split
  · next h => exact ((goodL_iff _).1 h).2.1
  · simp
end Go.Proofs.YtimkfjekbimmhaaDoor.A

/- The law FnListTexts holds of the printed functions, for every argument: numbers and lists alone. -/
namespace Go.Proofs.YtimkfjekbimmhaaDoor.Pure
open Go.RowKit Go.Proofs.YtimkfjekbimmhaaDoor.A Go.Proofs.YtimkfjekbimmhaaDoorW.PrintWords Go.Proofs.YtimkfjekbimmhaaDoorW.PrintLast
set_option linter.unusedVariables false
set_option linter.unusedSimpArgs false
theorem lt_j1 (l1 : List Int) (b1 : Bytes l1) : Ev (fun k => laws_FnListTexts.j1 k l1) true := by
  obtain ⟨s, e1, hs⟩ := drawParse_ev l1 b1
  have hl := PR_len s
  refine Ev.succ ?_
  simp only [laws_FnListTexts.j1]
  refine Ev.bind e1 (Ev.bind (implParseList_ev s (by omega)) (Ev.bind (specParseList_ev s (by omega)) ?_))
  simp only [bne_self_eq_false, Bool.false_eq_true, if_false]
  refine Ev.bind (pSame_self _ (by omega)) ?_
  simp only [Bool.not_true]
  refine Ev.succ ?_
  simp only [laws_FnListTexts.j2, Bool.false_eq_true, if_false]
  refine Ev.ite' (fun c => ?_) (fun _ => Ev.now _)
  have hg : goodL ((splitC s.data.toList).map readC) = true := by
    unfold PR at c
    split at c
    · next h => exact h
    · cases c
  obtain ⟨_, ht⟩ := text_of_good hg
  have hp : (PR s).1 = (splitC s.data.toList).map readC := by
    unfold PR
    rw [if_pos hg]
  refine Ev.bind (implListText_ev (PR s).1 (by omega)) ?_
  rw [hp]
  unfold textR
  rw [if_pos hg]
  simp only [if_true, ht, beq_self_eq_true]
  exact Ev.now _
theorem FnListTexts : laws_FnListTexts.Pure := by
  intro l0 l1 _ g0 x0 _ g1 x1
  apply Ev.get
  unfold laws_FnListTexts.f
  rcases big_cut l0 l1 g0 x0 x1 with hb | ⟨hb, b0, b1⟩
  · simp only [hb, Option.bind_some, if_true]
    exact Ev.now _
  · simp only [hb, Option.bind_some, Bool.false_eq_true, if_false]
    obtain ⟨a, e, ha⟩ := drawListText_ev l0 b0
    refine Ev.bind e (Ev.bind (implListText_ev a (by omega)) (Ev.bind (specListText_ev a (by omega)) ?_))
    simp only [bne_self_eq_false, Bool.false_eq_true, if_false, if_true]
    refine Ev.bind (implIsList_ev a (by omega)) ?_
    have h2 : (textR a).2 = goodL a := by
      unfold textR
      cases goodL a <;> rfl
    rw [h2]
    simp only [bne_self_eq_false]
    refine Ev.succ ?_
    simp only [laws_FnListTexts.j0, Bool.false_eq_true, if_false]
    refine Ev.ite' (fun c => ?_) (fun _ => lt_j1 l1 b1)
    have hf := good_few c
    have hx := hf.2
    have hlen := textL_len (l := a) (by omega) hx
    have hsz : (textB a).size = (textL a).length := ba_size _
    have ht : (textR a).1 = textB a := by
      unfold textR
      rw [if_pos c]
    have hback := good_of_text c (s := textB a) rfl
    have hp : PR (textB a) = (a, true) := by
      unfold PR
      rw [hback, if_pos c]
    rw [ht]
    refine Ev.bind (implParseList_ev (textB a) (by omega)) ?_
    rw [hp]
    simp only [if_true]
    refine Ev.bind (pSame_self a (by omega)) ?_
    simp only [if_true]
    exact lt_j1 l1 b1
end Go.Proofs.YtimkfjekbimmhaaDoor.Pure
