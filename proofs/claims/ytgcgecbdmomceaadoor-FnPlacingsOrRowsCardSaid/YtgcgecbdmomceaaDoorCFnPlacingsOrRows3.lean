/- What the law FnPlacingsOrRows reaches, part 3: Lean functions with the same answers as the Go functions, the proofs that the Go code comes to these answers, and lemmas about them; no condition beyond those that each theorem names. -/
import Derived.Test.YtgcgecbdmomceaaDoorCFnPlacingsOrRowsw1
import Derived.Shelf.SlGeneric
import Derived.Shelf.SlLaysH
import Derived.Ground.SlgfProg
import Derived.Test.YtgcgecbdmomceaaDoorProg
import Derived.Laws.Cover3
import Derived.Lib.SliceRun
import Derived.Test.YtgcgecbdmomceaaDoorCFnPlacingsOrRows1
import Derived.Test.YtgcgecbdmomceaaDoorCFnPlacingsOrRows2
-- made by a program of this repo (wip/pp.py) through the kit's printer
namespace Go.Proofs.YtgcgecbdmomceaaDoor.A
open Go.RowKit Go.Proofs.YtgcgecbdmomceaaDoorW.PrintWords Go.Proofs.YtgcgecbdmomceaaDoorW.PrintLast Go.Proofs.YtgcgecbdmomceaaDoorW.PrintMore
attribute [local go_sem] max2_int min2_int max_two min_two max_three min_three max_four min_four
set_option linter.unusedVariables false
set_option linter.unusedSimpArgs false

/-! ### impl_members: function 32 -/
def impl_members.l0 : Nat → Int → List Int → Option (List Int)
 | 0, _, _ => none
 | k + 1, x0, x3 => if x0 = 0 then (some x3) else ((bits_TrailingZeros.f (IntKind.u64.wrap (x0))).bind fun t147 => (if x3.length < 17592186044416 then (impl_members.l0 k (Go.bits .and .i64 x0 (wrap64 (x0 - 1))) (x3 ++ [t147])) else (none)))
def impl_members.f (k : Nat) (a0 : Int) : Option (List Int) := impl_members.l0 k a0 (([] : List Int))
set_option maxHeartbeats 8000000 in
set_option maxRecDepth 100000 in
theorem impl_members.calls (k : Nat) (a0 : Int) (r : List Int) (w : World) (h : impl_members.f k a0 = some r) (hT : TabZ w := by exact tabZ_below HT.out (by repeat (first | (with_reducible first | exact HB.out | apply below_alloc | apply pw_below_drewN | apply below_drew1) | exact HB.out))) :
 Calls Tryd.prog 32 #[.int .i64 a0] w fun e w' => ∃ v0_ : Value, e = .returned (v0_) ∧ Kd.R (Kd.int .i64) 3 w' w.heap.size (fun _ => True) v0_ r ∧ Below w.heap.size w w' := by
 have HT := Aside0.mk hT
 clear hT
 have HB := Aside0.mk (Below.refl w.heap.size w)
 have H : (impl_members.l0 k a0 (([] : List Int))) = some r := h
 clear h
 obtain ⟨y144, hy144⟩ : ∃ y_ : List Int, y_ = (([] : List Int)) := ⟨_, rfl⟩
 replace H : (impl_members.l0 k a0 y144) = some r := by first | (rw [hy144]; with_reducible exact H) | (have H2_ := (Option.bind_some _ _).symm.trans H; rw [hy144]; with_reducible exact H2_) | (have H2_ := (Option.bind_some _ _).symm.trans H; with_reducible exact H2_) | with_reducible exact H | (rw [hy144]; exact H) | exact H
 have Ny144 := Aside0.mk hy144
 clear hy144
 have H' := Aside0.mk H
 clear H
 go_enter Tryd.func32, Tryd.ntmps32
 go_wp2_with (first | ((with_reducible refine gate_dst (N := 4) rfl ?_); refine Kd.R_lit (Kd.int .i64) _ 3 ?hg (N := 4) ?hd (xs := ([] : List Int)) (inner := []) (ok := fun _ => True) (okp := fun _ => True) ?hr ?hp (fun _ hk => hk) trivial (Below.refl _ _) (Nat.le_refl _) (by simp) ?_; (case hd => rfl); (case hg => rfl); (case hr => first | (go_simp; done) | (go_simp; rfl)); (case hp => exact (Reps.none _ _)); intro v145 w2 ho3 hb hg_ hnew_; clear hg_ hnew_; (first | rw [← Ny144.out] at ho3 | (simp only [Int.reduceToNat] at ho3; rw [← Ny144.out] at ho3)); have n0_ := Aside0.mk (Kd.R_lower ho3 (below_size (by repeat (first | (with_reducible first | exact HB.out | apply below_alloc | apply pw_below_drewN | apply below_drew1) | exact HB.out)))); have n1_ := Aside0.mk (below_step (by repeat (first | (with_reducible first | exact HB.out | apply below_alloc | apply pw_below_drewN | apply below_drew1) | exact HB.out)) hb); clear HB; have HO146 := n0_; have HB := n1_; clear n0_ n1_; clear hb ho3))
 go_loopg [0, 3] k (fun kq v0 v3 w' => ∃ (x0_1 : Int) (x3_1 : List Int), v0 = .int .i64 x0_1 ∧ Aside0 (impl_members.l0 kq x0_1 x3_1 = some r) ∧ Aside0 (kq ≤ k) ∧ Aside0 (Kd.R (Kd.int .i64) 3 w' w.heap.size (fun _ => True) v3 x3_1) ∧ Aside0 (Below w.heap.size w w'))
 case atStart => exact ⟨(a0), (y144), (by first | rfl | (simp; done) | (simp [*]; done)), H', ⟨Nat.le_refl _⟩, ⟨by (with_reducible repeat (first | apply Kd.R_alloc | apply Kd.R_drewN | apply Kd.R_drew)); exact HO146.out⟩, ⟨by repeat (first | (with_reducible first | exact HB.out | apply below_alloc | apply pw_below_drewN | apply below_drew1) | exact HB.out)⟩⟩
 case round =>
  clear H'
  try clear p2
  try clear c3
  obtain ⟨x0_1, x3_1, rfl, HA, HK1, HO_3, HB⟩ := hrel
  cases gk with
  | zero => exact absurd HA.out (by simp [impl_members.l0])
  | succ k1 =>
   have H := HA.out
   clear HA
   simp only [impl_members.l0] at H
   by_cases c4 : x0_1 = 0
   · rw [if_pos c4] at H
     have c4b0 : (x0_1 == 0) = true := beq_iff_eq.mpr c4
     have c4b1 : (x0_1 != 0) = false := bne_eq_false_iff_eq.mpr c4
     clear c4
     obtain rfl := Option.some.inj H
     go_wp2
     go_ret
     exact ⟨_, by first | rfl | (simp [errW_none, errW_some] <;> rfl) | (simp [*, errW_none, errW_some] <;> rfl), by (with_reducible repeat (first | apply Kd.R_alloc | apply Kd.R_drewN | apply Kd.R_drew)); exact HO_3.out, by repeat (first | (with_reducible first | exact HB.out | apply below_alloc | apply pw_below_drewN | apply below_drew1) | exact HB.out)⟩
   · rw [if_neg c4] at H
     have c4b0 : (x0_1 == 0) = false := beq_eq_false_iff_ne.mpr c4
     have c4b1 : (x0_1 != 0) = true := bne_iff_ne.mpr c4
     replace H := Option.bind_eq_some_iff.mp H
     obtain ⟨t147, A50, H⟩ := H
     replace H : (if x3_1.length < 17592186044416 then (impl_members.l0 k1 (Go.bits .and .i64 x0_1 (wrap64 (x0_1 - 1))) (x3_1 ++ [t147])) else (none)) = some r := H
     have A5 := Aside0.mk A50
     clear A50
     by_cases c6 : x3_1.length < 17592186044416
     · rw [if_pos c6] at H
       have LMc6 := Aside0.mk c6
       clear c6
       obtain ⟨y148, hy148⟩ : ∃ y_ : List Int, y_ = (x3_1 ++ [t147]) := ⟨_, rfl⟩
       replace H : (impl_members.l0 k1 (Go.bits .and .i64 x0_1 (wrap64 (x0_1 - 1))) y148) = some r := by first | (rw [hy148]; with_reducible exact H) | (have H2_ := (Option.bind_some _ _).symm.trans H; rw [hy148]; with_reducible exact H2_) | (have H2_ := (Option.bind_some _ _).symm.trans H; with_reducible exact H2_) | with_reducible exact H | (rw [hy148]; exact H) | exact H
       have Ny148 := Aside0.mk hy148
       clear hy148
       have H' := Aside0.mk H
       clear H
       go_wp2_with (first | ((with_reducible refine gate_callee (f := 56) rfl ?_); refine goesL_ (some 14) rfl rfl Tryd.func56 (by kernel_rfl) rfl #[.int .u64 (IntKind.u64.wrap (x0_1))] rfl (by (try simp only [List.map_toArray, List.map_cons, List.map_nil]); first | done | rfl | (simp only [List.length_drop, List.length_take]; rfl)) ?_; (with_reducible refine (bits_TrailingZeros.calls (IntKind.u64.wrap (x0_1)) t147 _ A5.out).mono ?_); rintro e w7 ⟨rfl, hb⟩; refine ⟨_, rfl, ?_⟩; have n0_ := Aside0.mk (Kd.R_below (by (with_reducible repeat (first | apply Kd.R_alloc | apply Kd.R_drewN | apply Kd.R_drew)); exact HO_3.out) hb); have n1_ := Aside0.mk (below_step (by repeat (first | (with_reducible first | exact HB.out | apply below_alloc | apply pw_below_drewN | apply below_drew1) | exact HB.out)) hb); clear HO_3; clear HB; have HO_3 := n0_; have HB := n1_; clear n0_ n1_; (try clear hb); (try clear hb2); (try clear hk); (try clear hi)) | ((with_reducible refine gate_builtin (b := .append) (xs := #[.tmp 11, .tmp 15]) rfl ?_); at_builtin; refine Kd.R_append (Kd.int .i64) (w0 := w) w.heap.size rfl (.tmp 11) (.tmp 15) 24 3 (.int .i64 0) 8 rfl Tryd.underlying24 info3 rfl (by decide) (by omega) u3 x3_1 t147 [.int .i64 t147] (fun _ => True) (fun _ => False) rfl rfl ?aP (fun _ hk => hk.elim) ?aF ?aO ?aB ?aS ?aL ?_; (case aP => exact rfl); (case aB => exact (by repeat (first | (with_reducible first | exact HB.out | apply below_alloc | apply pw_below_drewN | apply below_drew1) | exact HB.out))); (case aF => exact (fun _ _ => trivial)); (case aO => exact (by (with_reducible repeat (first | apply Kd.R_alloc | apply Kd.R_drewN | apply Kd.R_drew)); exact HO_3.out)); (case aS => exact (below_size (by repeat (first | (with_reducible first | exact HB.out | apply below_alloc | apply pw_below_drewN | apply below_drew1) | exact HB.out)))); (case aL => have := LMc6.out; omega); intro v149 w8 ho hb hg hat; rw [← Ny148.out] at ho; have n0_ := Aside0.mk (hb); have n1_ := Aside0.mk (ho); clear HB; clear HO_3; have HB := n0_; have HO150 := n1_; clear n0_ n1_; clear ho hb hg hat))
       go_roundg k1
       case measure => have := HK1.out; omega
       case rel => exact ⟨(Go.bits .and .i64 x0_1 (wrap64 (x0_1 - 1))), (y148), (by first | rfl | (simp; done) | (simp [*]; done)), H', ⟨by have := HK1.out; omega⟩, ⟨by (with_reducible repeat (first | apply Kd.R_alloc | apply Kd.R_drewN | apply Kd.R_drew)); exact HO150.out⟩, ⟨by repeat (first | (with_reducible first | exact HB.out | apply below_alloc | apply pw_below_drewN | apply below_drew1) | exact HB.out)⟩⟩
     · rw [if_neg c6] at H
       exact absurd H (by simp)

end Go.Proofs.YtgcgecbdmomceaaDoor.A

-- made by a program of this repo (wip/pp.py) through the kit's printer
namespace Go.Proofs.YtgcgecbdmomceaaDoor.A
open Go.RowKit Go.Proofs.YtgcgecbdmomceaaDoorW.PrintWords Go.Proofs.YtgcgecbdmomceaaDoorW.PrintLast Go.Proofs.YtgcgecbdmomceaaDoorW.PrintMore
attribute [local go_sem] max2_int min2_int max_two min_two max_three min_three max_four min_four
set_option linter.unusedVariables false
set_option linter.unusedSimpArgs false

/-! ### cmp_isNaN_int: function 71 -/
def cmp_isNaN_int.f (a0 : Int) : Option (Bool) := some (a0 != a0)
set_option maxHeartbeats 8000000 in
set_option maxRecDepth 100000 in
theorem cmp_isNaN_int.calls (a0 : Int) (r : Bool) (w : World) (h : cmp_isNaN_int.f a0 = some r) :
 Calls Tryd.prog 71 #[.int .i64 a0] w fun e w' => e = .returned (.bool r) ∧ Drawn0 w w' := by
 have H : (some (a0 != a0)) = some r := h
 clear h
 obtain rfl := Option.some.inj H
 go_enter Tryd.func71, Tryd.ntmps71
 go_wp2
 go_ret
 exact ⟨by first | rfl | (simp; done) | (simp [*]; done), by repeat (first | exact Drawn0.refl _ | apply Drawn0.step)⟩

end Go.Proofs.YtgcgecbdmomceaaDoor.A

-- made by a program of this repo (wip/pp.py) through the kit's printer
namespace Go.Proofs.YtgcgecbdmomceaaDoor.A
open Go.RowKit Go.Proofs.YtgcgecbdmomceaaDoorW.PrintWords Go.Proofs.YtgcgecbdmomceaaDoorW.PrintLast Go.Proofs.YtgcgecbdmomceaaDoorW.PrintMore
attribute [local go_sem] max2_int min2_int max_two min_two max_three min_three max_four min_four
set_option linter.unusedVariables false
set_option linter.unusedSimpArgs false

/-! ### cmp_Compare_int: function 58 -/
def cmp_Compare_int.f (a0 : Int) (a1 : Int) : Option (Int) := (cmp_isNaN_int.f a0).bind fun t151 => ((cmp_isNaN_int.f a1).bind fun t152 => (if t151 = true then (if t152 = true then (some 0) else (some (-1))) else (if t152 = true then (some 1) else (if a0 < a1 then (some (-1)) else (if a0 > a1 then (some 1) else (some 0))))))
set_option maxHeartbeats 8000000 in
set_option maxRecDepth 100000 in
theorem cmp_Compare_int.calls (a0 : Int) (a1 : Int) (r : Int) (w : World) (h : cmp_Compare_int.f a0 a1 = some r) :
 Calls Tryd.prog 58 #[.int .i64 a0, .int .i64 a1] w fun e w' => e = .returned (.int .i64 r) ∧ Drawn0 w w' := by
 have H : ((cmp_isNaN_int.f a0).bind fun t151 => ((cmp_isNaN_int.f a1).bind fun t152 => (if t151 = true then (if t152 = true then (some 0) else (some (-1))) else (if t152 = true then (some 1) else (if a0 < a1 then (some (-1)) else (if a0 > a1 then (some 1) else (some 0))))))) = some r := h
 clear h
 replace H := Option.bind_eq_some_iff.mp H
 obtain ⟨t151, A30, H⟩ := H
 replace H : ((cmp_isNaN_int.f a1).bind fun t152 => (if t151 = true then (if t152 = true then (some 0) else (some (-1))) else (if t152 = true then (some 1) else (if a0 < a1 then (some (-1)) else (if a0 > a1 then (some 1) else (some 0)))))) = some r := H
 have A3 := Aside0.mk A30
 clear A30
 replace H := Option.bind_eq_some_iff.mp H
 obtain ⟨t152, A40, H⟩ := H
 replace H : (if t151 = true then (if t152 = true then (some 0) else (some (-1))) else (if t152 = true then (some 1) else (if a0 < a1 then (some (-1)) else (if a0 > a1 then (some 1) else (some 0))))) = some r := H
 have A4 := Aside0.mk A40
 clear A40
 by_cases c5 : t151 = true
 · subst c5
   have H1 : (if t152 = true then (some 0) else (some (-1))) = some r := by rw [if_pos rfl] at H; exact H
   clear H
   have H := H1
   clear H1
   by_cases c6 : t152 = true
   · subst c6
     have H1 : (some 0) = some r := by rw [if_pos rfl] at H; exact H
     clear H
     have H := H1
     clear H1
     obtain rfl := Option.some.inj H
     go_enter Tryd.func58, Tryd.ntmps58
     go_wp2_with (first | ((with_reducible refine gate_callee (f := 71) rfl ?_); refine goesL_ (some 8) rfl rfl Tryd.func71 (by kernel_rfl) rfl #[.int .i64 a0] rfl (by (try simp only [List.map_toArray, List.map_cons, List.map_nil]); first | done | rfl | (simp only [List.length_drop, List.length_take]; rfl)) ?_; (with_reducible refine (cmp_isNaN_int.calls a0 true _ A3.out).mono ?_); rintro e w' ⟨rfl, ⟨nd, rfl⟩⟩; refine ⟨_, rfl, ?_⟩) | ((with_reducible refine gate_callee (f := 71) rfl ?_); refine goesL_ (some 10) rfl rfl Tryd.func71 (by kernel_rfl) rfl #[.int .i64 a1] rfl (by (try simp only [List.map_toArray, List.map_cons, List.map_nil]); first | done | rfl | (simp only [List.length_drop, List.length_take]; rfl)) ?_; (with_reducible refine (cmp_isNaN_int.calls a1 true _ A4.out).mono ?_); rintro e w' ⟨rfl, ⟨nd, rfl⟩⟩; refine ⟨_, rfl, ?_⟩))
     go_ret
     exact ⟨by first | rfl | (simp; done) | (simp [*]; done), by repeat (first | exact Drawn0.refl _ | apply Drawn0.step)⟩
   · replace c6 := Bool.eq_false_iff.mpr c6
     subst c6
     have H1 : (some (-1)) = some r := by rw [if_neg (show ¬ (false = true) by decide)] at H; exact H
     clear H
     have H := H1
     clear H1
     obtain rfl := Option.some.inj H
     go_enter Tryd.func58, Tryd.ntmps58
     go_wp2_with (first | ((with_reducible refine gate_callee (f := 71) rfl ?_); refine goesL_ (some 8) rfl rfl Tryd.func71 (by kernel_rfl) rfl #[.int .i64 a0] rfl (by (try simp only [List.map_toArray, List.map_cons, List.map_nil]); first | done | rfl | (simp only [List.length_drop, List.length_take]; rfl)) ?_; (with_reducible refine (cmp_isNaN_int.calls a0 true _ A3.out).mono ?_); rintro e w' ⟨rfl, ⟨nd, rfl⟩⟩; refine ⟨_, rfl, ?_⟩) | ((with_reducible refine gate_callee (f := 71) rfl ?_); refine goesL_ (some 10) rfl rfl Tryd.func71 (by kernel_rfl) rfl #[.int .i64 a1] rfl (by (try simp only [List.map_toArray, List.map_cons, List.map_nil]); first | done | rfl | (simp only [List.length_drop, List.length_take]; rfl)) ?_; (with_reducible refine (cmp_isNaN_int.calls a1 false _ A4.out).mono ?_); rintro e w' ⟨rfl, ⟨nd, rfl⟩⟩; refine ⟨_, rfl, ?_⟩))
     go_ret
     exact ⟨by first | rfl | (simp; done) | (simp [*]; done), by repeat (first | exact Drawn0.refl _ | apply Drawn0.step)⟩
 · replace c5 := Bool.eq_false_iff.mpr c5
   subst c5
   have H1 : (if t152 = true then (some 1) else (if a0 < a1 then (some (-1)) else (if a0 > a1 then (some 1) else (some 0)))) = some r := by rw [if_neg (show ¬ (false = true) by decide)] at H; exact H
   clear H
   have H := H1
   clear H1
   by_cases c7 : t152 = true
   · subst c7
     have H1 : (some 1) = some r := by rw [if_pos rfl] at H; exact H
     clear H
     have H := H1
     clear H1
     obtain rfl := Option.some.inj H
     go_enter Tryd.func58, Tryd.ntmps58
     go_wp2_with (first | ((with_reducible refine gate_callee (f := 71) rfl ?_); refine goesL_ (some 8) rfl rfl Tryd.func71 (by kernel_rfl) rfl #[.int .i64 a0] rfl (by (try simp only [List.map_toArray, List.map_cons, List.map_nil]); first | done | rfl | (simp only [List.length_drop, List.length_take]; rfl)) ?_; (with_reducible refine (cmp_isNaN_int.calls a0 false _ A3.out).mono ?_); rintro e w' ⟨rfl, ⟨nd, rfl⟩⟩; refine ⟨_, rfl, ?_⟩) | ((with_reducible refine gate_callee (f := 71) rfl ?_); refine goesL_ (some 10) rfl rfl Tryd.func71 (by kernel_rfl) rfl #[.int .i64 a1] rfl (by (try simp only [List.map_toArray, List.map_cons, List.map_nil]); first | done | rfl | (simp only [List.length_drop, List.length_take]; rfl)) ?_; (with_reducible refine (cmp_isNaN_int.calls a1 true _ A4.out).mono ?_); rintro e w' ⟨rfl, ⟨nd, rfl⟩⟩; refine ⟨_, rfl, ?_⟩))
     go_ret
     exact ⟨by first | rfl | (simp; done) | (simp [*]; done), by repeat (first | exact Drawn0.refl _ | apply Drawn0.step)⟩
   · replace c7 := Bool.eq_false_iff.mpr c7
     subst c7
     have H1 : (if a0 < a1 then (some (-1)) else (if a0 > a1 then (some 1) else (some 0))) = some r := by rw [if_neg (show ¬ (false = true) by decide)] at H; exact H
     clear H
     have H := H1
     clear H1
     by_cases c8 : a0 < a1
     · rw [if_pos c8] at H
       have c8b0 : decide (a0 < a1) = true := decide_eq_true c8
       clear c8
       obtain rfl := Option.some.inj H
       go_enter Tryd.func58, Tryd.ntmps58
       go_wp2_with (first | ((with_reducible refine gate_callee (f := 71) rfl ?_); refine goesL_ (some 8) rfl rfl Tryd.func71 (by kernel_rfl) rfl #[.int .i64 a0] rfl (by (try simp only [List.map_toArray, List.map_cons, List.map_nil]); first | done | rfl | (simp only [List.length_drop, List.length_take]; rfl)) ?_; (with_reducible refine (cmp_isNaN_int.calls a0 false _ A3.out).mono ?_); rintro e w' ⟨rfl, ⟨nd, rfl⟩⟩; refine ⟨_, rfl, ?_⟩) | ((with_reducible refine gate_callee (f := 71) rfl ?_); refine goesL_ (some 10) rfl rfl Tryd.func71 (by kernel_rfl) rfl #[.int .i64 a1] rfl (by (try simp only [List.map_toArray, List.map_cons, List.map_nil]); first | done | rfl | (simp only [List.length_drop, List.length_take]; rfl)) ?_; (with_reducible refine (cmp_isNaN_int.calls a1 false _ A4.out).mono ?_); rintro e w' ⟨rfl, ⟨nd, rfl⟩⟩; refine ⟨_, rfl, ?_⟩))
       go_ret
       exact ⟨by first | rfl | (simp; done) | (simp [*]; done), by repeat (first | exact Drawn0.refl _ | apply Drawn0.step)⟩
     · rw [if_neg c8] at H
       have c8b0 : decide (a0 < a1) = false := decide_eq_false c8
       clear c8
       by_cases c9 : a0 > a1
       · rw [if_pos c9] at H
         have c9b0 : decide (a1 < a0) = true := decide_eq_true c9
         clear c9
         obtain rfl := Option.some.inj H
         go_enter Tryd.func58, Tryd.ntmps58
         go_wp2_with (first | ((with_reducible refine gate_callee (f := 71) rfl ?_); refine goesL_ (some 8) rfl rfl Tryd.func71 (by kernel_rfl) rfl #[.int .i64 a0] rfl (by (try simp only [List.map_toArray, List.map_cons, List.map_nil]); first | done | rfl | (simp only [List.length_drop, List.length_take]; rfl)) ?_; (with_reducible refine (cmp_isNaN_int.calls a0 false _ A3.out).mono ?_); rintro e w' ⟨rfl, ⟨nd, rfl⟩⟩; refine ⟨_, rfl, ?_⟩) | ((with_reducible refine gate_callee (f := 71) rfl ?_); refine goesL_ (some 10) rfl rfl Tryd.func71 (by kernel_rfl) rfl #[.int .i64 a1] rfl (by (try simp only [List.map_toArray, List.map_cons, List.map_nil]); first | done | rfl | (simp only [List.length_drop, List.length_take]; rfl)) ?_; (with_reducible refine (cmp_isNaN_int.calls a1 false _ A4.out).mono ?_); rintro e w' ⟨rfl, ⟨nd, rfl⟩⟩; refine ⟨_, rfl, ?_⟩))
         go_ret
         exact ⟨by first | rfl | (simp; done) | (simp [*]; done), by repeat (first | exact Drawn0.refl _ | apply Drawn0.step)⟩
       · rw [if_neg c9] at H
         have c9b0 : decide (a1 < a0) = false := decide_eq_false c9
         clear c9
         obtain rfl := Option.some.inj H
         go_enter Tryd.func58, Tryd.ntmps58
         go_wp2_with (first | ((with_reducible refine gate_callee (f := 71) rfl ?_); refine goesL_ (some 8) rfl rfl Tryd.func71 (by kernel_rfl) rfl #[.int .i64 a0] rfl (by (try simp only [List.map_toArray, List.map_cons, List.map_nil]); first | done | rfl | (simp only [List.length_drop, List.length_take]; rfl)) ?_; (with_reducible refine (cmp_isNaN_int.calls a0 false _ A3.out).mono ?_); rintro e w' ⟨rfl, ⟨nd, rfl⟩⟩; refine ⟨_, rfl, ?_⟩) | ((with_reducible refine gate_callee (f := 71) rfl ?_); refine goesL_ (some 10) rfl rfl Tryd.func71 (by kernel_rfl) rfl #[.int .i64 a1] rfl (by (try simp only [List.map_toArray, List.map_cons, List.map_nil]); first | done | rfl | (simp only [List.length_drop, List.length_take]; rfl)) ?_; (with_reducible refine (cmp_isNaN_int.calls a1 false _ A4.out).mono ?_); rintro e w' ⟨rfl, ⟨nd, rfl⟩⟩; refine ⟨_, rfl, ?_⟩))
         go_ret
         exact ⟨by first | rfl | (simp; done) | (simp [*]; done), by repeat (first | exact Drawn0.refl _ | apply Drawn0.step)⟩

end Go.Proofs.YtgcgecbdmomceaaDoor.A

-- made by a program of this repo (wip/pp.py) through the kit's printer
namespace Go.Proofs.YtgcgecbdmomceaaDoor.A
open Go.RowKit Go.Proofs.YtgcgecbdmomceaaDoorW.PrintWords Go.Proofs.YtgcgecbdmomceaaDoorW.PrintLast Go.Proofs.YtgcgecbdmomceaaDoorW.PrintMore
attribute [local go_sem] max2_int min2_int max_two min_two max_three min_three max_four min_four
set_option linter.unusedVariables false
set_option linter.unusedSimpArgs false

/-! ### slices_Compare_int_int: function 35 -/
def slices_Compare_int_int.l0 : Nat → List Int → List Int → List Int → Int → Int → Option (Int)
 | 0, _, _, _, _, _ => none
 | k + 1, x0, x1, x9, x10, x11 => if x11 < x10 then (if 0 ≤ x11 then (if x11 < (x9.length : Int) then (if x11 ≥ (x1.length : Int) then (some 1) else (if x11 < (x1.length : Int) then ((cmp_Compare_int.f (rd x9 x11) (rd x1 x11)).bind fun t155 => (if t155 = 0 then (slices_Compare_int_int.l0 k x0 x1 x9 x10 (wrap64 (x11 + 1))) else (some t155))) else (none))) else (none)) else (none)) else (if (x0.length : Int) < (x1.length : Int) then (some (-1)) else (some 0))
def slices_Compare_int_int.f (k : Nat) (l0 : List Int) (l1 : List Int) : Option (Int) := slices_Compare_int_int.l0 k l0 l1 l0 (l0.length : Int) 0
set_option maxHeartbeats 8000000 in
set_option maxRecDepth 100000 in
theorem slices_Compare_int_int.calls (k : Nat) (A0 : Option Addr) (c0 : Nat) (l0 : List Int) (A1 : Option Addr) (c1 : Nat) (l1 : List Int) (r : Int) (w : World) (hr0 : Kd.C (Kd.int .i64) w A0 l0.length l0) (hc0 : l0.length ≤ c0) (hr1 : Kd.C (Kd.int .i64) w A1 l1.length l1) (hc1 : l1.length ≤ c1) (h : slices_Compare_int_int.f k l0 l1 = some r) :
 Calls Tryd.prog 35 #[.slice A0 l0.length c0, .slice A1 l1.length c1] w fun e w' => e = .returned (.int .i64 r) ∧ Drawn0 w w' := by
 have HR0 := Aside0.mk hr0
 have HC0 := Aside0.mk hc0
 clear hr0 hc0
 have HR1 := Aside0.mk hr1
 have HC1 := Aside0.mk hc1
 clear hr1 hc1
 have H : (slices_Compare_int_int.l0 k l0 l1 l0 (l0.length : Int) 0) = some r := h
 clear h
 have H' := Aside0.mk H
 clear H
 go_enter Tryd.func35, Tryd.ntmps35
 go_wp2
 go_loopg [11] k (fun kq v11 w' => ∃ (x11_1 : Int), v11 = .int .i64 x11_1 ∧ Aside0 (slices_Compare_int_int.l0 kq l0 l1 l0 (l0.length : Int) x11_1 = some r) ∧ Aside0 (kq ≤ k) ∧ Drawn0 w w')
 case atStart => exact ⟨(0), (by first | rfl | (simp; done) | (simp [*]; done)), H', ⟨Nat.le_refl _⟩, by repeat (first | exact Drawn0.refl _ | apply Drawn0.step)⟩
 case round =>
  clear H'
  try clear c1
  try clear p2
  obtain ⟨x11_1, rfl, HA, HK1, ⟨m1, rfl⟩⟩ := hrel
  cases gk with
  | zero => exact absurd HA.out (by simp [slices_Compare_int_int.l0])
  | succ k1 =>
   have H := HA.out
   clear HA
   simp only [slices_Compare_int_int.l0] at H
   by_cases c3 : x11_1 < (l0.length : Int)
   · rw [if_pos c3] at H
     have c3b0 : decide (x11_1 < (l0.length : Int)) = true := decide_eq_true c3
     clear c3
     by_cases c4 : 0 ≤ x11_1
     · rw [if_pos c4] at H
       have c4b0 : decide (0 ≤ x11_1) = true := decide_eq_true c4
       clear c4
       by_cases c5 : x11_1 < (l0.length : Int)
       · rw [if_pos c5] at H
         have c5b0 : decide (x11_1 < (l0.length : Int)) = true := decide_eq_true c5
         clear c5
         by_cases c6 : x11_1 ≥ (l1.length : Int)
         · rw [if_pos c6] at H
           have c6b0 : decide ((l1.length : Int) ≤ x11_1) = true := decide_eq_true c6
           clear c6
           obtain rfl := Option.some.inj H
           have p153 : 0 ≤ (x11_1 : Int) := of_decide_eq_true (by first | (with_reducible assumption) | assumption)
           have q153 : x11_1 < (l0.length : Int) := of_decide_eq_true (by first | (with_reducible assumption) | assumption)
           obtain ⟨ad153, e153, hx153_0⟩ := Kd.at_int HR0.out x11_1 p153 q153
           cases e153
           replace p153 := eq_true p153
           replace q153 := eq_true q153
           go_wp2
           go_ret
           exact ⟨by first | rfl | (simp; done) | (simp [*]; done), by repeat (first | exact Drawn0.refl _ | apply Drawn0.step)⟩
         · rw [if_neg c6] at H
           have c6b0 : decide ((l1.length : Int) ≤ x11_1) = false := decide_eq_false c6
           clear c6
           by_cases c7 : x11_1 < (l1.length : Int)
           · rw [if_pos c7] at H
             have c7b0 : decide (x11_1 < (l1.length : Int)) = true := decide_eq_true c7
             clear c7
             replace H := Option.bind_eq_some_iff.mp H
             obtain ⟨t155, A80, H⟩ := H
             replace H : (if t155 = 0 then (slices_Compare_int_int.l0 k1 l0 l1 l0 (l0.length : Int) (wrap64 (x11_1 + 1))) else (some t155)) = some r := H
             have A8 := Aside0.mk A80
             clear A80
             by_cases c9 : t155 = 0
             · rw [if_pos c9] at H
               have c9b0 : (t155 == 0) = true := beq_iff_eq.mpr c9
               have c9b1 : (t155 != 0) = false := bne_eq_false_iff_eq.mpr c9
               clear c9
               have H' := Aside0.mk H
               clear H
               have p153 : 0 ≤ (x11_1 : Int) := of_decide_eq_true (by first | (with_reducible assumption) | assumption)
               have q153 : x11_1 < (l0.length : Int) := of_decide_eq_true (by first | (with_reducible assumption) | assumption)
               obtain ⟨ad153, e153, hx153_0⟩ := Kd.at_int HR0.out x11_1 p153 q153
               cases e153
               replace p153 := eq_true p153
               replace q153 := eq_true q153
               have p154 : 0 ≤ (x11_1 : Int) := of_decide_eq_true (by first | (with_reducible assumption) | assumption)
               have q154 : x11_1 < (l1.length : Int) := of_decide_eq_true (by first | (with_reducible assumption) | assumption)
               obtain ⟨ad154, e154, hx154_0⟩ := Kd.at_int HR1.out x11_1 p154 q154
               cases e154
               replace p154 := eq_true p154
               replace q154 := eq_true q154
               go_wp2_with (first | ((with_reducible refine gate_callee (f := 58) rfl ?_); refine goesL_ (some 26) rfl rfl Tryd.func58 (by kernel_rfl) rfl #[.int .i64 (rd l0 x11_1), .int .i64 (rd l1 x11_1)] rfl (by (try simp only [List.map_toArray, List.map_cons, List.map_nil]); first | done | rfl | (simp only [List.length_drop, List.length_take]; rfl)) ?_; (with_reducible refine (cmp_Compare_int.calls (rd l0 x11_1) (rd l1 x11_1) t155 _ A8.out).mono ?_); rintro e w' ⟨rfl, ⟨nd, rfl⟩⟩; refine ⟨_, rfl, ?_⟩))
               go_roundg k1
               case measure => have := HK1.out; omega
               case rel => exact ⟨(wrap64 (x11_1 + 1)), (by first | rfl | (simp; done) | (simp [*]; done)), H', ⟨by have := HK1.out; omega⟩, by repeat (first | exact Drawn0.refl _ | apply Drawn0.step)⟩
             · rw [if_neg c9] at H
               have c9b0 : (t155 == 0) = false := beq_eq_false_iff_ne.mpr c9
               have c9b1 : (t155 != 0) = true := bne_iff_ne.mpr c9
               obtain rfl := Option.some.inj H
               have p153 : 0 ≤ (x11_1 : Int) := of_decide_eq_true (by first | (with_reducible assumption) | assumption)
               have q153 : x11_1 < (l0.length : Int) := of_decide_eq_true (by first | (with_reducible assumption) | assumption)
               obtain ⟨ad153, e153, hx153_0⟩ := Kd.at_int HR0.out x11_1 p153 q153
               cases e153
               replace p153 := eq_true p153
               replace q153 := eq_true q153
               have p154 : 0 ≤ (x11_1 : Int) := of_decide_eq_true (by first | (with_reducible assumption) | assumption)
               have q154 : x11_1 < (l1.length : Int) := of_decide_eq_true (by first | (with_reducible assumption) | assumption)
               obtain ⟨ad154, e154, hx154_0⟩ := Kd.at_int HR1.out x11_1 p154 q154
               cases e154
               replace p154 := eq_true p154
               replace q154 := eq_true q154
               go_wp2_with (first | ((with_reducible refine gate_callee (f := 58) rfl ?_); refine goesL_ (some 26) rfl rfl Tryd.func58 (by kernel_rfl) rfl #[.int .i64 (rd l0 x11_1), .int .i64 (rd l1 x11_1)] rfl (by (try simp only [List.map_toArray, List.map_cons, List.map_nil]); first | done | rfl | (simp only [List.length_drop, List.length_take]; rfl)) ?_; (with_reducible refine (cmp_Compare_int.calls (rd l0 x11_1) (rd l1 x11_1) t155 _ A8.out).mono ?_); rintro e w' ⟨rfl, ⟨nd, rfl⟩⟩; refine ⟨_, rfl, ?_⟩))
               go_ret
               exact ⟨by first | rfl | (simp; done) | (simp [*]; done), by repeat (first | exact Drawn0.refl _ | apply Drawn0.step)⟩
           · rw [if_neg c7] at H
             exact absurd H (by simp)
       · rw [if_neg c5] at H
         exact absurd H (by simp)
     · rw [if_neg c4] at H
       exact absurd H (by simp)
   · rw [if_neg c3] at H
     have c3b0 : decide (x11_1 < (l0.length : Int)) = false := decide_eq_false c3
     clear c3
     by_cases c10 : (l0.length : Int) < (l1.length : Int)
     · rw [if_pos c10] at H
       have c10b0 : decide ((l0.length : Int) < (l1.length : Int)) = true := decide_eq_true c10
       have c10b1 : decide (l0.length < l1.length) = true := decide_eq_true (Int.ofNat_lt.mp c10)
       clear c10
       obtain rfl := Option.some.inj H
       go_wp2
       go_ret
       exact ⟨by first | rfl | (simp; done) | (simp [*]; done), by repeat (first | exact Drawn0.refl _ | apply Drawn0.step)⟩
     · rw [if_neg c10] at H
       have c10b0 : decide ((l0.length : Int) < (l1.length : Int)) = false := decide_eq_false c10
       have c10b1 : decide (l0.length < l1.length) = false := decide_eq_false (fun h => c10 (Int.ofNat_lt.mpr h))
       clear c10
       obtain rfl := Option.some.inj H
       go_wp2
       go_ret
       exact ⟨by first | rfl | (simp; done) | (simp [*]; done), by repeat (first | exact Drawn0.refl _ | apply Drawn0.step)⟩

end Go.Proofs.YtgcgecbdmomceaaDoor.A

namespace Go.Proofs.YtgcgecbdmomceaaDoor.A
open Go.RowKit Go.Proofs.YtgcgecbdmomceaaDoorW.PrintWords Go.Proofs.YtgcgecbdmomceaaDoorW.PrintLast Go.Proofs.YtgcgecbdmomceaaDoorW.PrintMore
set_option linter.unusedVariables false
set_option linter.unusedSimpArgs false
/-! sets of rows: their members, how lists stand, the least one that refuses -/
def memB (s : Nat) : List Int := ((List.range 6).filter fun i => s.testBit i).map Int.ofNat
def cmpL : List Int → List Int → Int
 | [], [] => 0
 | [], _ :: _ => -1
 | _ :: _, [] => 1
 | x :: xs, y :: ys => if x < y then -1 else if y < x then 1 else cmpL xs ys
def colHas (t : List (List Int)) (rows : List Int) (j : Nat) : Bool := rows.any fun i => decide (0 < rd (rd_L1 t i) (j : Int))
def colsOf (t : List (List Int)) (rows : List Int) (n : Nat) : Nat := (List.range n).countP (colHas t rows)
def better (rows : List Int) : Option (List Int) → Bool
 | none => true
 | some p => decide (rows.length < p.length) || (decide (rows.length = p.length) && decide (cmpL rows p < 0))
def refB (t : List (List Int)) (rows : List Int) (best : Option (List Int)) : Option (List Int) := if colsOf t rows t.length < rows.length ∧ better rows best = true then some rows else best
def refL (t : List (List Int)) : Nat → Nat → Option (List Int) → Option (List Int)
 | 0, _, best => best
 | d + 1, s, best => refL t d (s + 1) (refB t (memB s) best)
def refO (t : List (List Int)) : Option (List Int) := refL t (2 ^ t.length - 1) 1 none
theorem colsOf_succ (t : List (List Int)) (rows : List Int) (n : Nat) : colsOf t rows (n + 1) = colsOf t rows n + (if colHas t rows n = true then 1 else 0) := by
 unfold colsOf
 rw [List.range_succ, List.countP_append, List.countP_singleton]
theorem colsOf_le (t : List (List Int)) (rows : List Int) (n : Nat) : colsOf t rows n ≤ n := by
 unfold colsOf
 have := List.countP_le_length (p := colHas t rows) (l := List.range n)
 rwa [List.length_range] at this
theorem memB_mem {s : Nat} {x : Int} (h : x ∈ memB s) : ∃ i : Nat, x = (i : Int) ∧ i < 6 ∧ s.testBit i = true := by
 unfold memB at h
 obtain ⟨i, hi, rfl⟩ := List.mem_map.1 h
 obtain ⟨h1, h2⟩ := List.mem_filter.1 hi
 exact ⟨i, rfl, List.mem_range.1 h1, h2⟩
theorem memB_bd {s n : Nat} (h : s < 2 ^ n) {x : Int} (hx : x ∈ memB s) : 0 ≤ x ∧ x < (n : Int) := by
 obtain ⟨i, rfl, _, ht⟩ := memB_mem hx
 have := Nat.ge_two_pow_of_testBit ht
 have h2 : 2 ^ i < 2 ^ n := by omega
 have := (Nat.pow_lt_pow_iff_right (by omega : 1 < 2)).1 h2
 omega
theorem memB_len (s : Nat) : (memB s).length ≤ 6 := by
 unfold memB
 rw [List.length_map]
 have := List.length_filter_le (fun i => s.testBit i) (List.range 6)
 rwa [List.length_range] at this
theorem memB_ne : ∀ s : Fin 64, 1 ≤ s.val → 1 ≤ (memB s.val).length := by decide +kernel
theorem members_all : ∀ s : Fin 64, impl_members.f 10 (s.val : Int) = some (memB s.val) := by decide +kernel
theorem compare_l (xs ys : List Int) (hx : xs.length ≤ 1000) (hy : ys.length ≤ 1000) : ∀ (d i : Nat), i + d = xs.length → i ≤ ys.length → Ev (fun k => slices_Compare_int_int.l0 k xs ys xs (xs.length : Int) (i : Int)) (cmpL (xs.drop i) (ys.drop i))
 | 0, i, hi, hiy => by
  refine Ev.succ ?_
  rw [List.drop_eq_nil_of_le (show xs.length ≤ i by omega)]
  simp only [slices_Compare_int_int.l0, if_neg (show ¬ (i : Int) < (xs.length : Int) by omega)]
  by_cases c : (xs.length : Int) < (ys.length : Int)
  · rw [List.drop_eq_getElem_cons (show i < ys.length by omega)]
    simp only [if_pos c, cmpL]
    exact Ev.now _
  · rw [List.drop_eq_nil_of_le (show ys.length ≤ i by omega)]
    simp only [if_neg c, cmpL]
    exact Ev.now _
 | d + 1, i, hi, hiy => by
  have h1 : i < xs.length := by omega
  refine Ev.succ ?_
  rw [List.drop_eq_getElem_cons h1]
  simp only [slices_Compare_int_int.l0, if_pos (show (i : Int) < (xs.length : Int) by omega), if_pos (show (0 : Int) ≤ (i : Int) by omega), rdn h1]
  by_cases c : (i : Int) ≥ (ys.length : Int)
  · rw [List.drop_eq_nil_of_le (show ys.length ≤ i by omega)]
    simp only [if_pos c, cmpL]
    exact Ev.now _
  · have h2 : i < ys.length := by omega
    have ih := compare_l xs ys hx hy d (i + 1) (by omega) (by omega)
    rw [List.drop_eq_getElem_cons h2]
    simp only [if_neg c, if_pos (show (i : Int) < (ys.length : Int) by omega), rdn h2, wsucc h1 (by omega), cmpL, cmp_Compare_int.f, cmp_isNaN_int.f, Option.bind_some]
    by_cases e1 : xs[i] < ys[i]
    · simp [e1]
      exact Ev.now _
    · by_cases e2 : ys[i] < xs[i]
      · simp [e1, e2]
        exact Ev.now _
      · simp [e1, e2]
        exact ih
theorem compare_ev (xs ys : List Int) (hx : xs.length ≤ 1000) (hy : ys.length ≤ 1000) : Ev (fun k => slices_Compare_int_int.f k xs ys) (cmpL xs ys) := by
 have := compare_l xs ys hx hy xs.length 0 (by omega) (by omega)
 exact this
end Go.Proofs.YtgcgecbdmomceaaDoor.A

/-
  DERIVED: THE SHELF's CONTRACTS AT THIS DUMP, IN PLAIN WORDS (tools/lay-plain.mjs out of 'YtgcgecbdmomceaaDoorShelfI.lean', which tools/lay-shelf.mjs wrote): THE SAME DECLARATIONS UNDER THE SAME NAMES: 'import', 'namespace', 'open', 'def', 'theorem' AND NOTHING ELSE: no command of the shelf's: FOR A HAND-IN. Each laying: the table of numbers ('.._ren') and one theorem, a field a fact of the dump's own or the kernel's comparison; each contract: ONE APPLICATION.
-/
namespace Go.Proofs
open Go.Shelf
def Tryd.hasIL_ren : Go.Shelf.Ren := ⟨fun | 8 => 33 | 6 => 57 | n => n, fun | 22 => 24 | 23 => 3 | 25 => 45 | 4 => 4 | 3 => 3 | 0 => 0 | n => n, fun | n => n⟩
theorem Tryd.hasIL : Go.Proofs.SlLaysH.n8 Tryd.prog Tryd.hasIL_ren := {
 mixed := by kernel_rfl
 f6 := ⟨Tryd.f57.name, by decide, Tryd.func57.trans (congrArg some (by kernel_rfl))⟩
 f8 := ⟨Tryd.f33.name, by decide, Tryd.func33.trans (congrArg some (by kernel_rfl))⟩
 t0 := Tryd.underlying0
 a0 := Tryd.isAgg0
 z0 := Tryd.sizeOf0
 v0 := Tryd.zeroValue0
 t3 := Tryd.underlying3
 a3 := Tryd.isAgg3
 z3 := Tryd.sizeOf3
 v3 := Tryd.zeroValue3
 t4 := Tryd.underlying4
 a4 := Tryd.isAgg4
 z4 := Tryd.sizeOf4
 v4 := Tryd.zeroValue4
 t22 := Tryd.underlying24
 a22 := Tryd.isAgg24
 z22 := Tryd.sizeOf24
 v22 := Tryd.zeroValue24
 a23 := Tryd.isAgg3
 z23 := Tryd.sizeOf3
 t25 := Tryd.underlying45
 a25 := Tryd.isAgg45
 z25 := Tryd.sizeOf45
 v25 := Tryd.zeroValue45 }
end Go.Proofs

/- impl.RefusingRows: over all sets of rows, the best one that has numbers in fewer columns. -/
namespace Go.Proofs.YtgcgecbdmomceaaDoor.A
open Go.RowKit Go.Proofs.YtgcgecbdmomceaaDoorW.PrintWords Go.Proofs.YtgcgecbdmomceaaDoorW.PrintLast Go.Proofs.YtgcgecbdmomceaaDoorW.PrintMore
attribute [local go_sem] max2_int min2_int max_two min_two max_three min_three max_four min_four
set_option linter.unusedVariables false
set_option linter.unusedSimpArgs false

open Go.Shelf Go.Lib
def impl_RefusingRows.f (l0 : List (List Int)) : Option (List Int × Bool) := (impl_IsSquare.f l0).bind fun t => if t = true then (match refO l0 with | none => some ([], false) | some p => some (p, true)) else some ([], false)
theorem sq_true {l0 : List (List Int)} (h : impl_IsSquare.f l0 = some true) : 1 ≤ l0.length ∧ l0.length ≤ 6 ∧ ∀ x ∈ l0, x.length = l0.length := by
 unfold impl_IsSquare.f at h
 split at h
 · have h := Option.some.inj h
   unfold squareB at h
   rw [Bool.and_eq_true, decide_eq_true_eq, List.all_eq_true] at h
   refine ⟨by omega, by omega, fun x hx => ?_⟩
   have := h.2 x hx
   unfold rowB at this
   rw [Bool.and_eq_true, decide_eq_true_eq] at this
   omega
 · cases h
set_option maxHeartbeats 4000000 in
set_option maxRecDepth 100000 in
theorem ref_cell (l0 : List (List Int)) (i j : Int) (A0 : Option Addr) (c0 B0 B1 : Nat) (W : World) (hi : 0 ≤ i) (hi2 : i < (l0.length : Int)) (hj : 0 ≤ j) (hj2 : j < ((rd_L1 l0 i).length : Int)) (h0 : W.cell? ⟨B0, 0, none⟩ = some (.slice A0 l0.length c0)) (h1 : W.cell? ⟨B1, 0, none⟩ = some (.int .i64 j)) (hr0 : Kd.C (Kd.slice 3 (Kd.int .i64)) W A0 l0.length l0) :
 Calls Tryd.prog 34 #[.int .i64 i, .pointer (some ⟨B0, 0, none⟩), .pointer (some ⟨B1, 0, none⟩)] W fun e w' => e = .returned (.bool (decide (0 < rd (rd_L1 l0 i) j))) ∧ ∃ nd, w' = W.drewN nd := by
 obtain ⟨ad0, ad1, d0, rfl, x0, x1⟩ := tab_at hr0 i j hi hi2 hj hj2
 have q0 := eq_true hi
 have q1 := eq_true hi2
 have q3 := eq_true hj
 have q4 := eq_true hj2
 generalize rd (rd_L1 l0 i) j = y at x1 ⊢
 clear hr0 hi hi2 hj hj2
 go_enter Tryd.func34, Tryd.ntmps34
 go_wp2
 repeat (go_quiet (fail); try go_wp2)
 go_ret
 exact ⟨rfl, by first | exact ⟨_, rfl⟩ | exact ⟨0, rfl⟩⟩

def RefAt (base : Nat) (W : World) (v : Value) (o : Option (List Int)) : Prop := match o with | none => v = .slice none 0 0 | some p => 1 ≤ p.length ∧ Kd.R (Kd.int .i64) 3 W base (fun _ => True) v p
theorem refAt_below {base : Nat} {W W' : World} {v : Value} {o : Option (List Int)} (h : RefAt base W v o) (hb : Below W.heap.size W W') : RefAt base W' v o := by
 cases o with
 | none => exact h
 | some p => exact ⟨h.1, Kd.R_below h.2 hb⟩
set_option maxHeartbeats 8000000 in
set_option maxRecDepth 100000 in
theorem impl_RefusingRows.calls (A0 : Option Addr) (c0 : Nat) (l0 : List (List Int)) (r1 : List Int) (r2 : Bool) (w : World) (hr0 : Kd.C (Kd.slice 3 (Kd.int .i64)) w A0 l0.length l0) (hc0 : l0.length ≤ c0) (h : impl_RefusingRows.f l0 = some (r1, r2)) (hT : TabZ w := by exact tabZ_below HT.out (by repeat (first | (with_reducible first | exact HB.out | apply below_alloc | apply pw_below_drewN | apply below_drew1) | exact HB.out))) :
 Calls Tryd.prog 8 #[.slice A0 l0.length c0] w fun e w' => ∃ v0_ : Value, e = .returned (.tuple #[v0_, .bool r2]) ∧ Kd.R (Kd.int .i64) 3 w' w.heap.size (fun _ => True) v0_ r1 ∧ Below w.heap.size w w' := by
 unfold impl_RefusingRows.f at h
 obtain ⟨t, hs, h⟩ := Option.bind_eq_some_iff.mp h
 have HT := Aside0.mk hT
 have HS := Aside0.mk hs
 have HR0 := Aside0.mk hr0
 have HC0 := Aside0.mk hc0
 have HB := Aside0.mk (Below.refl w.heap.size w)
 clear hr0 hc0 hT
 cases t with
 | false =>
  obtain ⟨rfl, rfl⟩ : [] = r1 ∧ false = r2 := by simpa using h
  clear h hs
  go_enter Tryd.func8, Tryd.ntmps8
  go_wp2_with (go_at_call 21; (refine (impl_IsSquare.calls _ _ l0 false _ ?side1 ?side2 HS.out).mono ?_); (case side1 => exact Kd.C_below HR0.out (by repeat (first | (with_reducible first | exact HB.out | apply below_alloc | apply pw_below_drewN | apply below_drew1) | exact HB.out))); (case side2 => exact HC0.out); rintro e w1 ⟨rfl, hb⟩; have HB2 := Aside0.mk (below_step (by repeat (first | (with_reducible first | exact HB.out | apply below_alloc | apply pw_below_drewN | apply below_drew1) | exact HB.out)) hb); have x0 := tab_bx hb (B := w.heap.size) (v := .slice A0 l0.length c0) (by simp [go_sem]) (by first | (simp; done) | (simp; omega)); have x2 := Aside0.mk (show w.heap.size < w1.heap.size by have := hb.size; simp at this; omega); clear HB hb; have HB := HB2; clear HB2)
  go_ret2
  exact ⟨_, rfl, Kd.R_nil _ _ _ _ _, HB.out⟩
 | true =>
  obtain ⟨hn1, hn6, hrow⟩ := sq_true hs
  have HN1 := Aside0.mk hn1
  have HN6 := Aside0.mk hn6
  have HRW := Aside0.mk hrow
  obtain ⟨R, hR⟩ : ∃ R, R = refO l0 := ⟨_, rfl⟩
  rw [if_pos rfl, ← hR] at h
  have HRR := Aside0.mk (show refL l0 (2 ^ l0.length - 1) 1 none = R from hR.symm)
  have HRES := Aside0.mk h
  have hm : 2 ^ l0.length ≤ 64 := Nat.pow_le_pow_right (by omega) hn6
  have hm1 : 2 ≤ 2 ^ l0.length := by have := Nat.pow_le_pow_right (show 0 < 2 by omega) hn1; omega
  obtain ⟨m, hmm⟩ : ∃ m, m = 2 ^ l0.length := ⟨_, rfl⟩
  rw [← hmm] at hm hm1
  rw [← hmm] at HRR
  have HM := Aside0.mk hm
  have HM1 := Aside0.mk hm1
  have HMM := Aside0.mk hmm
  have EG := Aside0.mk (show ∀ args w, (callFunc 34 args).run Tryd.prog w = .ok (.enter 34 args) w from enters_of Tryd.func34 (by kernel_rfl) rfl)
  have hneq := fun (a : Option Addr) (n c : Nat) (W : World) => run_neq_slice_nil (P := Tryd.prog) (w := W) 24 3 a n c Tryd.underlying24
  have heql := fun (W : World) (a : Option Addr) (n c n' c' : Nat) => Go.Lib.run_eql_slice_nil (P := Tryd.prog) W 24 3 a n c n' c' Tryd.underlying24
  clear h hs hR hn1 hn6 hrow hm hm1 hmm
  go_enter Tryd.func8, Tryd.ntmps8
  go_wp2_with (go_at_call 21; (refine (impl_IsSquare.calls _ _ l0 true _ ?side1 ?side2 HS.out).mono ?_); (case side1 => exact Kd.C_below HR0.out (by repeat (first | (with_reducible first | exact HB.out | apply below_alloc | apply pw_below_drewN | apply below_drew1) | exact HB.out))); (case side2 => exact HC0.out); rintro e w1 ⟨rfl, hb⟩; have HB2 := Aside0.mk (below_step (by repeat (first | (with_reducible first | exact HB.out | apply below_alloc | apply pw_below_drewN | apply below_drew1) | exact HB.out)) hb); have x0 := Aside0.mk (tab_bx hb (B := w.heap.size) (v := .slice A0 l0.length c0) (by simp [go_sem]) (by first | (simp; done) | (simp; omega))); have x2 := Aside0.mk (show w.heap.size < w1.heap.size by have := hb.size; simp at this; omega); clear HB hb; have HB := HB2; clear HB2)
  go_loopg [4, 5] m (fun g v4 v5 wr => ∃ (s d : Nat) (o : Option (List Int)), v5 = .int .i64 (s : Int) ∧ s + d = m ∧ 1 ≤ s ∧ d ≤ g ∧ Aside0 (refL l0 d s o = R) ∧ Aside0 (RefAt w.heap.size wr v4 o) ∧ Aside0 (Below w.heap.size w wr) ∧ Aside0 (wr.cell? ⟨w.heap.size, 0, none⟩ = some (.slice A0 l0.length c0) ∧ w.heap.size < wr.heap.size))
  case atStart => exact ⟨1, m - 1, none, rfl, by have := HM1.out; omega, by omega, by omega, HRR, ⟨rfl⟩, HB, ⟨x0.out, x2.out⟩⟩
  case round =>
   obtain ⟨s, d, o, rfl, hsd, hs1, hdg, HL, HO, HB, HX⟩ := hrel
   have x0 := HX.out.1
   have x2 := Aside0.mk HX.out.2
   clear HX
   have hsh : wrap64 (2 ^ min l0.length 64) = (m : Int) := by
    have h6 := HN6.out
    have hc : (2 : Int) ^ l0.length = (m : Int) := by rw [HMM.out]; simp
    rw [Nat.min_eq_left (by omega), hc, w64 (by omega) (by have := HM.out; omega)]
   cases d with
   | zero =>
    have hsm : s = m := by omega
    subst hsm
    have h := HRES.out
    have hl := HL.out
    rw [refL] at hl
    subst hl
    cases o with
    | none =>
     have ho := HO.out
     unfold RefAt at ho
     subst ho
     obtain ⟨rfl, rfl⟩ : [] = r1 ∧ false = r2 := by simpa using h
     clear h HL HRES HO HRR
     go_wp2
     go_ret2
     exact ⟨_, rfl, Kd.R_nil _ _ _ _ _, by repeat (first | (with_reducible first | exact HB.out | apply below_alloc | apply pw_below_drewN | apply below_drew1) | exact HB.out)⟩
    | some p =>
     have ho := HO.out
     unfold RefAt at ho
     obtain ⟨gg, cap, ev4, _⟩ := Kd.R_form ho.2 (by have := ho.1; omega)
     subst ev4
     obtain ⟨rfl, rfl⟩ : p = r1 ∧ true = r2 := by simpa using h
     have HV := Aside0.mk ho.2
     clear h HL HRES HO HRR ho
     go_wp2
     go_ret2
     exact ⟨_, rfl, (by (with_reducible repeat (first | apply Kd.R_alloc | apply Kd.R_drewN | apply Kd.R_drew)); exact HV.out), by repeat (first | (with_reducible first | exact HB.out | apply below_alloc | apply pw_below_drewN | apply below_drew1) | exact HB.out)⟩
   | succ d =>
    have hsm : (s : Int) < (m : Int) := by omega
    have hsmb := decide_eq_true hsm
    obtain ⟨km, hkm⟩ : ∃ km, impl_members.f km (s : Int) = some (memB s) := ⟨10, members_all ⟨s, by have := HM.out; omega⟩⟩
    have HKM := Aside0.mk hkm
    have hml : 1 ≤ (memB s).length := memB_ne ⟨s, by have := HM.out; omega⟩ hs1
    have HML := Aside0.mk hml
    have HMB := Aside0.mk (fun x (hx : x ∈ memB s) => memB_bd (n := l0.length) (s := s) (by have := HMM.out; omega) hx)
    have HML6 := Aside0.mk (memB_len s)
    have HL2 := Aside0.mk (show refL l0 d (s + 1) (refB l0 (memB s) o) = R from HL.out)
    clear hkm hml HL
    obtain ⟨rows, hrows⟩ : ∃ rows, rows = memB s := ⟨_, rfl⟩
    rw [← hrows] at HKM HML HMB HML6 HL2
    clear hrows hsm
    go_wp2_with (go_at_call 32; ((refine (impl_members.calls km (s : Int) rows _ HKM.out).mono ?_); rintro e w5 ⟨v20, rfl, hr, hb⟩; have HB5 := Aside0.mk (below_step (by repeat (first | (with_reducible first | exact HB.out | apply below_alloc | apply pw_below_drewN | apply below_drew1) | exact HB.out)) hb); have hb9 := below_step (w := wr) (by repeat (first | (with_reducible first | exact Below.refl _ _ | apply below_alloc | apply pw_below_drewN | apply below_drew1) | exact Below.refl _ _)) hb; have HO5 := Aside0.mk (refAt_below HO.out hb9); have x5 := tab_bx hb9 x0 x2.out; have x6 := Aside0.mk (show w.heap.size < w5.heap.size from Nat.lt_of_lt_of_le x2.out hb9.size); obtain ⟨gg, cap, ev20, hcap⟩ := Kd.R_form hr HML.out; subst ev20; have HV := Aside0.mk (Kd.R_lower hr (below_size (by repeat (first | (with_reducible first | exact HB.out | apply below_alloc | apply pw_below_drewN | apply below_drew1) | exact HB.out)))); clear hr hb hb9 HB HO x0 x2; have HB := HB5; clear HB5))
    go_loopg [7, 23] l0.length (fun g v7 v23 wi => ∃ (j d2 : Nat), v7 = .int .i64 ((colsOf l0 rows j : Nat) : Int) ∧ v23 = .int .i64 (j : Int) ∧ j + d2 = l0.length ∧ d2 ≤ g ∧ Aside0 (Below w5.heap.size w5 wi))
    case atStart => exact ⟨0, l0.length, rfl, rfl, by omega, by omega, ⟨by repeat (first | (with_reducible first | exact Below.refl _ _ | apply below_alloc | apply pw_below_drewN | apply below_drew1) | exact Below.refl _ _)⟩⟩
    case round =>
     obtain ⟨j, d2, rfl, rfl, hj, hdg2, HBI⟩ := hrel
     have x7 := tab_bx HBI.out x5 x6.out
     cases d2 with
     | zero =>
      have hjn : j = l0.length := by omega
      subst hjn
      obtain ⟨cn, hcn⟩ : ∃ cn, cn = colsOf l0 rows l0.length := ⟨_, rfl⟩
      rw [← hcn]
      have HB5 := Aside0.mk (below_step HB.out HBI.out)
      clear HB
      have HB := HB5
      clear HB5
      have hrf := HL2.out
      clear HL2
      unfold refB at hrf
      rw [← hcn] at hrf
      by_cases c1 : cn < rows.length
      · have c1b : decide ((cn : Int) < (rows.length : Int)) = true := decide_eq_true (by omega)
        cases o with
        | none =>
         have ho := HO5.out
         unfold RefAt at ho
         subst ho
         rw [if_pos ⟨c1, rfl⟩] at hrf
         have hrf := Aside0.mk hrf
         clear hcn
         go_wp2
         go_roundg d
         case measure => omega
         case rel => exact ⟨s + 1, d, some rows, by rw [wsucc (n := m) (by omega) (by have := HM.out; omega)], by omega, by omega, Nat.le_refl _, hrf, ⟨⟨HML.out, Kd.R_below HV.out (by repeat (first | (with_reducible first | exact HBI.out | apply below_alloc | apply pw_below_drewN | apply below_drew1) | exact HBI.out))⟩⟩, ⟨by repeat (first | (with_reducible first | exact HB.out | apply below_alloc | apply pw_below_drewN | apply below_drew1) | exact HB.out)⟩, ⟨tab_bx (by repeat (first | (with_reducible first | exact HBI.out | apply below_alloc | apply pw_below_drewN | apply below_drew1) | exact HBI.out)) x5 x6.out, Nat.lt_of_lt_of_le x6.out (Below.size (by repeat (first | (with_reducible first | exact HBI.out | apply below_alloc | apply pw_below_drewN | apply below_drew1) | exact HBI.out)))⟩⟩
        | some p =>
         have ho := HO5.out
         unfold RefAt at ho
         obtain ⟨g4, cap4, ev4, _⟩ := Kd.R_form ho.2 (by have := ho.1; omega)
         subst ev4
         have HP5 := Aside0.mk (Kd.R_below ho.2 HBI.out)
         replace HV := Aside0.mk (Kd.R_below HV.out HBI.out)
         clear ho
         by_cases c2 : rows.length < p.length
         · have c2b : decide ((rows.length : Int) < (p.length : Int)) = true := decide_eq_true (by omega)
           rw [if_pos ⟨c1, by simp [better, c2]⟩] at hrf
           have hrf := Aside0.mk hrf
           clear hcn
           go_wp2
           go_roundg d
           case measure => omega
           case rel => exact ⟨s + 1, d, some rows, by rw [wsucc (n := m) (by omega) (by have := HM.out; omega)], by omega, by omega, Nat.le_refl _, hrf, ⟨⟨HML.out, by (with_reducible repeat (first | apply Kd.R_alloc | apply Kd.R_drewN | apply Kd.R_drew)); exact HV.out⟩⟩, ⟨by repeat (first | (with_reducible first | exact HB.out | apply below_alloc | apply pw_below_drewN | apply below_drew1) | exact HB.out)⟩, ⟨tab_bx (by repeat (first | (with_reducible first | exact HBI.out | apply below_alloc | apply pw_below_drewN | apply below_drew1) | exact HBI.out)) x5 x6.out, Nat.lt_of_lt_of_le x6.out (Below.size (by repeat (first | (with_reducible first | exact HBI.out | apply below_alloc | apply pw_below_drewN | apply below_drew1) | exact HBI.out)))⟩⟩
         · have c2b : decide ((rows.length : Int) < (p.length : Int)) = false := decide_eq_false (by omega)
           by_cases c3 : rows.length = p.length
           · have c3b : ((rows.length : Int) == (p.length : Int)) = true := by simp [c3]
             have c3n : (rows.length == p.length) = true := by simp [c3]
             have c3d : decide (rows.length = p.length) = true := decide_eq_true c3
             obtain ⟨kc, hkc⟩ := Ev.get (compare_ev rows p (by have := HML6.out; omega) (by have := HML6.out; omega))
             have HKC := Aside0.mk hkc
             clear hkc
             by_cases c4 : cmpL rows p < 0
             · have c4b : decide (cmpL rows p < 0) = true := decide_eq_true c4
               rw [if_pos ⟨c1, by simp [better, c3, c4]⟩] at hrf
               have hrf := Aside0.mk hrf
               clear hcn c3
               go_wp2_with (go_at_call 35; (refine (slices_Compare_int_int.calls kc _ _ rows _ _ p (cmpL rows p) _ ?side1 ?side2 ?side3 ?side4 HKC.out).mono ?_); (case side1 => repeat (first | exact (Kd.R_reads' HV.out).2.2 | (with_reducible refine Kd.C_alloc ?_ _) | (with_reducible refine Kd.C_drewN ?_ _) | (with_reducible refine Kd.C_drew ?_))); (case side2 => exact (Kd.R_reads' HV.out).2.1); (case side3 => repeat (first | exact (Kd.R_reads' HP5.out).2.2 | (with_reducible refine Kd.C_alloc ?_ _) | (with_reducible refine Kd.C_drewN ?_ _) | (with_reducible refine Kd.C_drew ?_))); (case side4 => exact (Kd.R_reads' HP5.out).2.1); rintro e w' ⟨rfl, ⟨nd, rfl⟩⟩)
               go_roundg d
               case measure => omega
               case rel => exact ⟨s + 1, d, some rows, by rw [wsucc (n := m) (by omega) (by have := HM.out; omega)], by omega, by omega, Nat.le_refl _, hrf, ⟨⟨HML.out, by (with_reducible repeat (first | apply Kd.R_alloc | apply Kd.R_drewN | apply Kd.R_drew)); exact HV.out⟩⟩, ⟨by repeat (first | (with_reducible first | exact HB.out | apply below_alloc | apply pw_below_drewN | apply below_drew1) | exact HB.out)⟩, ⟨tab_bx (by repeat (first | (with_reducible first | exact HBI.out | apply below_alloc | apply pw_below_drewN | apply below_drew1) | exact HBI.out)) x5 x6.out, Nat.lt_of_lt_of_le x6.out (Below.size (by repeat (first | (with_reducible first | exact HBI.out | apply below_alloc | apply pw_below_drewN | apply below_drew1) | exact HBI.out)))⟩⟩
             · have c4b : decide (cmpL rows p < 0) = false := decide_eq_false c4
               rw [if_neg (by simp [better, c3, c4])] at hrf
               have hrf := Aside0.mk hrf
               clear hcn c3
               go_wp2_with (go_at_call 35; (refine (slices_Compare_int_int.calls kc _ _ rows _ _ p (cmpL rows p) _ ?side1 ?side2 ?side3 ?side4 HKC.out).mono ?_); (case side1 => repeat (first | exact (Kd.R_reads' HV.out).2.2 | (with_reducible refine Kd.C_alloc ?_ _) | (with_reducible refine Kd.C_drewN ?_ _) | (with_reducible refine Kd.C_drew ?_))); (case side2 => exact (Kd.R_reads' HV.out).2.1); (case side3 => repeat (first | exact (Kd.R_reads' HP5.out).2.2 | (with_reducible refine Kd.C_alloc ?_ _) | (with_reducible refine Kd.C_drewN ?_ _) | (with_reducible refine Kd.C_drew ?_))); (case side4 => exact (Kd.R_reads' HP5.out).2.1); rintro e w' ⟨rfl, ⟨nd, rfl⟩⟩)
               go_roundg d
               case measure => omega
               case rel => exact ⟨s + 1, d, some p, by rw [wsucc (n := m) (by omega) (by have := HM.out; omega)], by omega, by omega, Nat.le_refl _, hrf, ⟨refAt_below HO5.out (by repeat (first | (with_reducible first | exact HBI.out | apply below_alloc | apply pw_below_drewN | apply below_drew1) | exact HBI.out))⟩, ⟨by repeat (first | (with_reducible first | exact HB.out | apply below_alloc | apply pw_below_drewN | apply below_drew1) | exact HB.out)⟩, ⟨tab_bx (by repeat (first | (with_reducible first | exact HBI.out | apply below_alloc | apply pw_below_drewN | apply below_drew1) | exact HBI.out)) x5 x6.out, Nat.lt_of_lt_of_le x6.out (Below.size (by repeat (first | (with_reducible first | exact HBI.out | apply below_alloc | apply pw_below_drewN | apply below_drew1) | exact HBI.out)))⟩⟩
           · have c3b : ((rows.length : Int) == (p.length : Int)) = false := by rw [beq_eq_false_iff_ne]; omega
             rw [if_neg (by simp [better, c2, c3])] at hrf
             have hrf := Aside0.mk hrf
             clear hcn
             go_wp2
             go_roundg d
             case measure => omega
             case rel => exact ⟨s + 1, d, some p, by rw [wsucc (n := m) (by omega) (by have := HM.out; omega)], by omega, by omega, Nat.le_refl _, hrf, ⟨refAt_below HO5.out (by repeat (first | (with_reducible first | exact HBI.out | apply below_alloc | apply pw_below_drewN | apply below_drew1) | exact HBI.out))⟩, ⟨by repeat (first | (with_reducible first | exact HB.out | apply below_alloc | apply pw_below_drewN | apply below_drew1) | exact HB.out)⟩, ⟨tab_bx (by repeat (first | (with_reducible first | exact HBI.out | apply below_alloc | apply pw_below_drewN | apply below_drew1) | exact HBI.out)) x5 x6.out, Nat.lt_of_lt_of_le x6.out (Below.size (by repeat (first | (with_reducible first | exact HBI.out | apply below_alloc | apply pw_below_drewN | apply below_drew1) | exact HBI.out)))⟩⟩
      · have c1b : decide ((cn : Int) < (rows.length : Int)) = false := decide_eq_false (by omega)
        rw [if_neg (fun h => c1 h.1)] at hrf
        have hrf := Aside0.mk hrf
        clear hcn
        go_wp2
        go_roundg d
        case measure => omega
        case rel => exact ⟨s + 1, d, o, by rw [wsucc (n := m) (by omega) (by have := HM.out; omega)], by omega, by omega, Nat.le_refl _, hrf, ⟨refAt_below HO5.out (by repeat (first | (with_reducible first | exact HBI.out | apply below_alloc | apply pw_below_drewN | apply below_drew1) | exact HBI.out))⟩, ⟨by repeat (first | (with_reducible first | exact HB.out | apply below_alloc | apply pw_below_drewN | apply below_drew1) | exact HB.out)⟩, ⟨tab_bx (by repeat (first | (with_reducible first | exact HBI.out | apply below_alloc | apply pw_below_drewN | apply below_drew1) | exact HBI.out)) x5 x6.out, Nat.lt_of_lt_of_le x6.out (Below.size (by repeat (first | (with_reducible first | exact HBI.out | apply below_alloc | apply pw_below_drewN | apply below_drew1) | exact HBI.out)))⟩⟩
     | succ d2 =>
      have hjn : (j : Int) < (l0.length : Int) := by omega
      have hjnb := decide_eq_true hjn
      clear hjn
      have hcon : Calls Tryd.prog 33 #[.slice (some ⟨gg, 0, none⟩) rows.length cap, .func (.func 34) #[] #[.pointer (some ⟨w.heap.size, 0, none⟩), .pointer (some ⟨wr.heap.size, 0, none⟩)]] (wr.alloc (.cells #[.int .i64 (j : Int)] 3)) (fun e w' => e = .returned (.bool (colHas l0 rows j)) ∧ ∃ q', w' = (wr.alloc (.cells #[.int .i64 (j : Int)] 3)).drewN q') := by
       have hb8 : Below wr.heap.size wr (wr.alloc (.cells #[.int .i64 (j : Int)] 3)) := below_alloc (Below.refl _ _) _
       have hlt := x6.out
       have hsz := HBI.out.size
       obtain ⟨ad', e', hcell⟩ := (Kd.reads_of_C (d := (0 : Int)) (h1 := fun _ => rfl) (Kd.C_below (Kd.C_below (Kd.R_reads' HV.out).2.2 HBI.out) hb8)).2.2 HML.out
       cases e'
       refine (anyHas Tryd.hasIL ⟨gg, 0, none⟩ rows.length cap (fun i => .int .i64 (rows.getD i 0)) (fun i => decide (0 < rd (rd_L1 l0 (rows.getD i 0)) (j : Int))) 34 #[.pointer (some ⟨w.heap.size, 0, none⟩), .pointer (some ⟨wr.heap.size, 0, none⟩)] _ EG.out (by have := HML6.out; omega) hcell (fun i hi q' => ?_)).mono ?_
       · have hm : rows.getD i 0 ∈ rows := by
          rw [List.getD_eq_getElem?_getD, List.getElem?_eq_getElem hi]
          exact List.getElem_mem hi
         have hbm := HMB.out _ hm
         refine ref_cell l0 (rows.getD i 0) (j : Int) A0 c0 w.heap.size wr.heap.size _ hbm.1 hbm.2 (by omega) ?_ ?_ ?_ ?_
         · obtain ⟨a, ha⟩ := Int.eq_ofNat_of_zero_le hbm.1
           have hal : a < l0.length := by omega
           have hx : rd_L1 l0 (rows.getD i 0) = l0[a] := by
            rw [ha]
            unfold rd_L1
            rw [Int.toNat_natCast, List.getD_eq_getElem?_getD, List.getElem?_eq_getElem hal]
            rfl
           rw [hx, HRW.out _ (List.getElem_mem hal)]
           omega
         · exact tab_bx (pw_below_drewN hb8 q') x7 (by omega)
         · show (wr.alloc (.cells #[.int .i64 (j : Int)] 3)).cell? ⟨wr.heap.size, 0, none⟩ = _
           simp
         · exact Kd.C_below (Kd.C_below HR0.out (below_step HB.out HBI.out)) (pw_below_drewN hb8 q')
       · rintro e w' ⟨r, rfl, hi, q', rfl⟩
         refine ⟨?_, q', rfl⟩
         have : r = colHas l0 rows j := by
          unfold colHas
          rw [Bool.eq_iff_iff, hi, List.any_eq_true]
          constructor
          · rintro ⟨a, ha, hd⟩
            refine ⟨rows[a], List.getElem_mem ha, ?_⟩
            rw [List.getD_eq_getElem?_getD, List.getElem?_eq_getElem ha] at hd
            exact hd
          · rintro ⟨x, hx, hd⟩
            obtain ⟨a, ha, rfl⟩ := List.mem_iff_getElem.1 hx
            refine ⟨a, ha, ?_⟩
            rw [List.getD_eq_getElem?_getD, List.getElem?_eq_getElem ha]
            exact hd
         rw [this]
      have hcs := colsOf_succ l0 rows j
      cases hcb : colHas l0 rows j with
      | true =>
       rw [hcb] at hcon hcs
       rw [if_pos rfl] at hcs
       have HCON := Aside0.mk hcon
       have HCS := Aside0.mk hcs
       have HCL := Aside0.mk (colsOf_le l0 rows j)
       have HJN := Aside0.mk (show j < l0.length by omega)
       clear hcon hcs hcb
       go_wp2_with (go_at_call 33; refine HCON.out.mono ?_; rintro e w' ⟨rfl, q, rfl⟩)
       go_roundg d2
       case measure => omega
       case rel => exact ⟨j + 1, d2, by rw [HCS.out, wsucc (n := 100) (by have := HCL.out; have := HJN.out; have := HN6.out; omega) (by omega)], by rw [wsucc (n := l0.length) HJN.out (by have := HN6.out; omega)], by omega, Nat.le_refl _, ⟨by repeat (first | (with_reducible first | exact HBI.out | apply below_alloc | apply pw_below_drewN | apply below_drew1) | exact HBI.out)⟩⟩
      | false =>
       rw [hcb] at hcon hcs
       rw [if_neg (by simp)] at hcs
       have HCON := Aside0.mk hcon
       have HCS := Aside0.mk hcs
       have HJN := Aside0.mk (show j < l0.length by omega)
       clear hcon hcs hcb
       go_wp2_with (go_at_call 33; refine HCON.out.mono ?_; rintro e w' ⟨rfl, q, rfl⟩)
       go_roundg d2
       case measure => omega
       case rel => exact ⟨j + 1, d2, by rw [HCS.out, Nat.add_zero], by rw [wsucc (n := l0.length) HJN.out (by have := HN6.out; omega)], by omega, Nat.le_refl _, ⟨by repeat (first | (with_reducible first | exact HBI.out | apply below_alloc | apply pw_below_drewN | apply below_drew1) | exact HBI.out)⟩⟩
end Go.Proofs.YtgcgecbdmomceaaDoor.A

/- square: a table by row and column; the function value is called for each place. -/
namespace Go.Proofs.YtgcgecbdmomceaaDoor.A
open Go.RowKit Go.Proofs.YtgcgecbdmomceaaDoorW.PrintWords Go.Proofs.YtgcgecbdmomceaaDoorW.PrintLast Go.Proofs.YtgcgecbdmomceaaDoorW.PrintMore
attribute [local go_sem] max2_int min2_int max_two min_two max_three min_three max_four min_four
set_option linter.unusedVariables false
set_option linter.unusedSimpArgs false

mutual
def impl_square.l0 (F : Int → Int → Option Int) : Nat → Int → List (List Int) → Int → Int → Option ((List (List Int)))
 | 0, _, _, _, _ => none
 | k + 1, x0, x5, x10, x11 => if x11 < x10 then (impl_square.l1 F k x0 x5 x11 (([] : List Int)) x10 x11 x0 0) else (some x5)
def impl_square.l1 (F : Int → Int → Option Int) : Nat → Int → List (List Int) → Int → List Int → Int → Int → Int → Int → Option ((List (List Int)))
 | 0, _, _, _, _, _, _, _, _ => none
 | k + 1, x0, x5, x6, x7, x10, x11, x15, x16 => if x16 < x15 then ((F x6 x16).bind fun t203 => (if x7.length < 17592186044416 then (impl_square.l1 F k x0 x5 x6 (x7 ++ [t203]) x10 x11 x15 (wrap64 (x16 + 1))) else (none))) else (if x5.length < 5864062014805 then (impl_square.l0 F k x0 (x5 ++ [x7]) x10 (wrap64 (x11 + 1))) else (none))
end
def impl_square.f (F : Int → Int → Option Int) (k : Nat) (a0 : Int) : Option ((List (List Int))) := impl_square.l0 F k a0 (([] : List (List Int))) a0 0
set_option maxHeartbeats 8000000 in
set_option maxRecDepth 100000 in
theorem impl_square.calls (F : Int → Int → Option Int) (g : Nat) (lb : Array Value) (eg : ∀ args w, (callFunc g args).run Tryd.prog w = .ok (.enter g args) w) (k : Nat) (a0 : Int) (r : List (List Int)) (w : World) (hF : ∀ (i j t : Int) (W : World), F i j = some t → Below w.heap.size w W → Calls Tryd.prog g (#[.int .i64 i, .int .i64 j] ++ lb) W fun e w' => e = .returned (.int .i64 t) ∧ Below W.heap.size W w') (h : impl_square.f F k a0 = some r) :
 Calls Tryd.prog 47 #[.int .i64 a0, .func (.func g) #[] lb] w fun e w' => ∃ v0_ : Value, e = .returned (v0_) ∧ Kd.S (Kd.slice 3 (Kd.int .i64)) 24 w' w.heap.size (fun _ => True) v0_ r ∧ Below w.heap.size w w' := by
 have HF := Aside0.mk hF
 have EG := Aside0.mk eg
 clear hF eg
 have HB := Aside0.mk (Below.refl w.heap.size w)
 have H : (impl_square.l0 F k a0 (([] : List (List Int))) a0 0) = some r := h
 clear h
 obtain ⟨y197, hy197⟩ : ∃ y_ : List (List Int), y_ = (([] : List (List Int))) := ⟨_, rfl⟩
 replace H : (impl_square.l0 F k a0 y197 a0 0) = some r := by first | (rw [hy197]; with_reducible exact H) | (have H2_ := (Option.bind_some _ _).symm.trans H; rw [hy197]; with_reducible exact H2_) | (have H2_ := (Option.bind_some _ _).symm.trans H; with_reducible exact H2_) | with_reducible exact H | (rw [hy197]; exact H) | exact H
 have Ny197 := Aside0.mk hy197
 clear hy197
 have H' := Aside0.mk H
 clear H
 go_enter Tryd.func47, Tryd.ntmps47
 go_wp2_with (first | ((with_reducible refine gate_dst (N := 9) rfl ?_); refine Kd.S_lit (Kd.slice 3 (Kd.int .i64)) _ 24 ?hg (N := 9) ?hd (xs := ([] : List (List Int))) (inner := []) (ok := fun _ => True) (okp := fun _ => True) ?hr ?hp (fun _ hk => hk) trivial (Below.refl _ _) (Nat.le_refl _) (by simp) ?_; (case hd => rfl); (case hg => rfl); (case hr => first | (go_simp; done) | (go_simp; rfl)); (case hp => exact (Reps.none _ _)); intro v198 w3 ho4 hb hg_ hnew_; clear hg_ hnew_; (first | rw [← Ny197.out] at ho4 | (simp only [Int.reduceToNat] at ho4; rw [← Ny197.out] at ho4)); have n0_ := Aside0.mk (Kd.S_lower ho4 (below_size (by repeat (first | (with_reducible first | exact HB.out | apply below_alloc | apply pw_below_drewN | apply below_drew1) | exact HB.out)))); have n1_ := Aside0.mk (below_step (by repeat (first | (with_reducible first | exact HB.out | apply below_alloc | apply pw_below_drewN | apply below_drew1) | exact HB.out)) hb); clear HB; have HO199 := n0_; have HB := n1_; clear n0_ n1_; clear hb ho4))
 go_loopg [5, 11] k (fun kq v5 v11 w' => ∃ (x5_1 : List (List Int)) (x11_1 : Int), v11 = .int .i64 x11_1 ∧ Aside0 (impl_square.l0 F kq a0 x5_1 a0 x11_1 = some r) ∧ Aside0 (kq ≤ k) ∧ Aside0 (Kd.S (Kd.slice 3 (Kd.int .i64)) 24 w' w.heap.size (fun _ => True) v5 x5_1) ∧ Aside0 (Below w.heap.size w w'))
 case atStart => exact ⟨(y197), (0), (by first | rfl | (simp; done) | (simp [*]; done)), H', ⟨Nat.le_refl _⟩, ⟨by (with_reducible repeat (first | apply Kd.S_alloc | apply Kd.S_drewN | apply Kd.S_drew)); exact HO199.out⟩, ⟨by repeat (first | (with_reducible first | exact HB.out | apply below_alloc | apply pw_below_drewN | apply below_drew1) | exact HB.out)⟩⟩
 case round =>
  clear H'
  try clear p2
  try clear c4
  obtain ⟨x5_1, x11_1, rfl, HA, HK1, HO_5, HB⟩ := hrel
  cases gk with
  | zero => exact absurd HA.out (by simp [impl_square.l0])
  | succ k1 =>
   have H := HA.out
   clear HA
   simp only [impl_square.l0] at H
   by_cases c5 : x11_1 < a0
   · rw [if_pos c5] at H
     have c5b0 : decide (x11_1 < a0) = true := decide_eq_true c5
     clear c5
     obtain ⟨y200, hy200⟩ : ∃ y_ : List Int, y_ = (([] : List Int)) := ⟨_, rfl⟩
     replace H : (impl_square.l1 F k1 a0 x5_1 x11_1 y200 a0 x11_1 a0 0) = some r := by first | (rw [hy200]; with_reducible exact H) | (have H2_ := (Option.bind_some _ _).symm.trans H; rw [hy200]; with_reducible exact H2_) | (have H2_ := (Option.bind_some _ _).symm.trans H; with_reducible exact H2_) | with_reducible exact H | (rw [hy200]; exact H) | exact H
     have Ny200 := Aside0.mk hy200
     clear hy200
     have H' := Aside0.mk H
     clear H
     go_wp2_with (first | ((with_reducible refine gate_dst (N := 14) rfl ?_); refine Kd.R_lit (Kd.int .i64) _ 3 ?hg (N := 14) ?hd (xs := ([] : List Int)) (inner := []) (ok := fun _ => True) (okp := fun _ => True) ?hr ?hp (fun _ hk => hk) trivial (Below.refl _ _) (Nat.le_refl _) (by simp) ?_; (case hd => rfl); (case hg => rfl); (case hr => first | (go_simp; done) | (go_simp; rfl)); (case hp => exact (Reps.none _ _)); intro v201 w6 ho7 hb hg_ hnew_; clear hg_ hnew_; (first | rw [← Ny200.out] at ho7 | (simp only [Int.reduceToNat] at ho7; rw [← Ny200.out] at ho7)); have n0_ := Aside0.mk (Kd.S_elder' (by (with_reducible repeat (first | apply Kd.S_alloc | apply Kd.S_drewN | apply Kd.S_drew)); exact HO_5.out) (Kd.R_base ho7) hb); have n1_ := Aside0.mk (Kd.R_lower ho7 (below_size (by repeat (first | (with_reducible first | exact HB.out | apply below_alloc | apply pw_below_drewN | apply below_drew1) | exact HB.out)))); have n2_ := Aside0.mk (below_step (by repeat (first | (with_reducible first | exact HB.out | apply below_alloc | apply pw_below_drewN | apply below_drew1) | exact HB.out)) hb); clear HO_5; clear HB; have HO_5 := n0_; have HO202 := n1_; have HB := n2_; clear n0_ n1_ n2_; clear hb ho7))
     go_loopg [7, 16] k1 (fun kq v7 v16 w' => ∃ (x7_2 : List Int) (x16_2 : Int), v16 = .int .i64 x16_2 ∧ Aside0 (impl_square.l1 F kq a0 x5_1 x11_1 x7_2 a0 x11_1 a0 x16_2 = some r) ∧ Aside0 (kq ≤ k1) ∧ Aside0 (Kd.S (Kd.slice 3 (Kd.int .i64)) 24 w' w.heap.size (fun k_ => some k_ ≠ (v7 : Value).ownBlock) u5 x5_1) ∧ Aside0 (Kd.R (Kd.int .i64) 3 w' w.heap.size (fun _ => True) v7 x7_2) ∧ Aside0 (Below w.heap.size w w'))
     case atStart => exact ⟨(y200), (0), (by first | rfl | (simp; done) | (simp [*]; done)), H', ⟨Nat.le_refl _⟩, ⟨by (with_reducible repeat (first | apply Kd.S_alloc | apply Kd.S_drewN | apply Kd.S_drew)); exact Kd.S_mono HO_5.out (fun _ hk => hk.2)⟩, ⟨by (with_reducible repeat (first | apply Kd.R_alloc | apply Kd.R_drewN | apply Kd.R_drew)); exact HO202.out⟩, ⟨by repeat (first | (with_reducible first | exact HB.out | apply below_alloc | apply pw_below_drewN | apply below_drew1) | exact HB.out)⟩⟩
     case round =>
      clear H'
      try clear p2
      try clear c4
      try clear c5
      try clear c5b0
      try clear p2
      obtain ⟨x7_2, x16_2, rfl, HA, HK2, HO_5, HO_7, HB⟩ := hrel
      cases gk with
      | zero => exact absurd HA.out (by simp [impl_square.l1])
      | succ k2 =>
       have H := HA.out
       clear HA
       simp only [impl_square.l1] at H
       by_cases c8 : x16_2 < a0
       · rw [if_pos c8] at H
         have c8b0 : decide (x16_2 < a0) = true := decide_eq_true c8
         clear c8
         replace H := Option.bind_eq_some_iff.mp H
         obtain ⟨t203, A90, H⟩ := H
         replace H : (if x7_2.length < 17592186044416 then (impl_square.l1 F k2 a0 x5_1 x11_1 (x7_2 ++ [t203]) a0 x11_1 a0 (wrap64 (x16_2 + 1))) else (none)) = some r := H
         have A9 := Aside0.mk A90
         clear A90
         by_cases c10 : x7_2.length < 17592186044416
         · rw [if_pos c10] at H
           have LMc10 := Aside0.mk c10
           clear c10
           obtain ⟨y204, hy204⟩ : ∃ y_ : List Int, y_ = (x7_2 ++ [t203]) := ⟨_, rfl⟩
           replace H : (impl_square.l1 F k2 a0 x5_1 x11_1 y204 a0 x11_1 a0 (wrap64 (x16_2 + 1))) = some r := by first | (rw [hy204]; with_reducible exact H) | (have H2_ := (Option.bind_some _ _).symm.trans H; rw [hy204]; with_reducible exact H2_) | (have H2_ := (Option.bind_some _ _).symm.trans H; with_reducible exact H2_) | with_reducible exact H | (rw [hy204]; exact H) | exact H
           have Ny204 := Aside0.mk hy204
           clear hy204
           have H' := Aside0.mk H
           clear H
           go_wp2_with (first | ((with_reducible refine gate_dst (N := 23) rfl ?_); refine goesF_ (some 23) rfl rfl 20 g lb EG.out #[.int .i64 x11_1, .int .i64 x16_2] rfl rfl (by (try simp only [List.map_toArray, List.map_cons, List.map_nil]); first | done | rfl) ?_; (with_reducible refine (HF.out x11_1 x16_2 t203 _ A9.out ?side1).mono ?_); (case side1 => repeat (first | (with_reducible first | exact HB.out | apply below_alloc | apply pw_below_drewN | apply below_drew1) | exact HB.out)); rintro e w11 ⟨rfl, hb⟩; refine ⟨_, rfl, ?_⟩; have n0_ := Aside0.mk (Kd.S_below (by (with_reducible repeat (first | apply Kd.S_alloc | apply Kd.S_drewN | apply Kd.S_drew)); exact HO_5.out) hb); have n1_ := Aside0.mk (Kd.R_below (by (with_reducible repeat (first | apply Kd.R_alloc | apply Kd.R_drewN | apply Kd.R_drew)); exact HO_7.out) hb); have n2_ := Aside0.mk (below_step (by repeat (first | (with_reducible first | exact HB.out | apply below_alloc | apply pw_below_drewN | apply below_drew1) | exact HB.out)) hb); clear HO_5; clear HO_7; clear HB; have HO_5 := n0_; have HO_7 := n1_; have HB := n2_; clear n0_ n1_ n2_; (try clear hb); (try clear hb2); (try clear hk); (try clear hi)) | ((with_reducible refine gate_builtin (b := .append) (xs := #[.tmp 19, .tmp 24]) rfl ?_); at_builtin; refine Kd.R_append (Kd.int .i64) (w0 := w) w.heap.size rfl (.tmp 19) (.tmp 24) 24 3 (.int .i64 0) 8 rfl Tryd.underlying24 info3 rfl (by decide) (by omega) u7 x7_2 t203 [.int .i64 t203] (fun _ => True) (fun _ => False) rfl rfl ?aP (fun _ hk => hk.elim) ?aF ?aO ?aB ?aS ?aL ?_; (case aP => exact rfl); (case aB => exact (by repeat (first | (with_reducible first | exact HB.out | apply below_alloc | apply pw_below_drewN | apply below_drew1) | exact HB.out))); (case aF => exact (fun _ _ => trivial)); (case aO => exact (by (with_reducible repeat (first | apply Kd.R_alloc | apply Kd.R_drewN | apply Kd.R_drew)); exact HO_7.out)); (case aS => exact (below_size (by repeat (first | (with_reducible first | exact HB.out | apply below_alloc | apply pw_below_drewN | apply below_drew1) | exact HB.out)))); (case aL => have := LMc10.out; omega); intro v205 w12 ho hb hg hat; rw [← Ny204.out] at ho; have n0_ := Aside0.mk (Kd.S_after (ok := (fun _ => True)) (by (with_reducible repeat (first | apply Kd.S_alloc | apply Kd.S_drewN | apply Kd.S_drew)); exact Kd.S_mono HO_5.out (fun _ hk => ⟨trivial, hk⟩)) hg hat); have n1_ := Aside0.mk (hb); have n2_ := Aside0.mk (ho); clear HO_5; clear HB; clear HO_7; have HO_5 := n0_; have HB := n1_; have HO206 := n2_; clear n0_ n1_ n2_; clear ho hb hg hat))
           go_roundg k2
           case measure => have := HK1.out; have := HK2.out; omega
           case rel => exact ⟨(y204), (wrap64 (x16_2 + 1)), (by first | rfl | (simp; done) | (simp [*]; done)), H', ⟨by have := HK1.out; have := HK2.out; omega⟩, ⟨by (with_reducible repeat (first | apply Kd.S_alloc | apply Kd.S_drewN | apply Kd.S_drew)); exact Kd.S_mono HO_5.out (fun _ hk => hk.2)⟩, ⟨by (with_reducible repeat (first | apply Kd.R_alloc | apply Kd.R_drewN | apply Kd.R_drew)); exact HO206.out⟩, ⟨by repeat (first | (with_reducible first | exact HB.out | apply below_alloc | apply pw_below_drewN | apply below_drew1) | exact HB.out)⟩⟩
         · rw [if_neg c10] at H
           exact absurd H (by simp)
       · rw [if_neg c8] at H
         have c8b0 : decide (x16_2 < a0) = false := decide_eq_false c8
         clear c8
         by_cases c13 : x5_1.length < 5864062014805
         · rw [if_pos c13] at H
           have LMc13 := Aside0.mk c13
           clear c13
           obtain ⟨y207, hy207⟩ : ∃ y_ : List (List Int), y_ = (x5_1 ++ [x7_2]) := ⟨_, rfl⟩
           replace H : (impl_square.l0 F k2 a0 y207 a0 (wrap64 (x11_1 + 1))) = some r := by first | (rw [hy207]; with_reducible exact H) | (have H2_ := (Option.bind_some _ _).symm.trans H; rw [hy207]; with_reducible exact H2_) | (have H2_ := (Option.bind_some _ _).symm.trans H; with_reducible exact H2_) | with_reducible exact H | (rw [hy207]; exact H) | exact H
           have Ny207 := Aside0.mk hy207
           clear hy207
           have H' := Aside0.mk H
           clear H
           obtain ⟨Ao15, co15, eo15⟩ := Kd.R_slice HO_7.out
           subst eo15
           go_wp2_with (first | ((with_reducible refine gate_builtin (b := .append) (xs := #[.tmp 27, .tmp 29]) rfl ?_); at_builtin; refine Kd.S_append (Kd.slice 3 (Kd.int .i64)) (w0 := w) w.heap.size rfl (.tmp 27) (.tmp 29) 22 24 (.slice none 0 0) 24 rfl Tryd.underlying22 info24 rfl (by decide) (by omega) u5 x5_1 x7_2 [.slice Ao15 x7_2.length co15] (fun _ => True) (fun k_ => some k_ = (.slice Ao15 x7_2.length co15 : Value).ownBlock) rfl rfl ?aP (fun k_ hk_ => ((Kd.R_mono (ok' := fun k_ => ((fun _ => True)) k_ ∧ some k_ ≠ (u5 : Value).ownBlock) (Kd.R_apart' (HO_7.out) (Kd.S_typed HO_5.out) (by decide)) (fun k_ hk => ⟨trivial, hk.2⟩))).1 k_ hk_.symm) ?aF ?aO ?aB ?aS ?aL ?_; (case aP => exact Kd.M_row (Kd.R_mono (Kd.R_tight rfl (Kd.R_mono (ok' := fun k_ => ((fun _ => True)) k_ ∧ some k_ ≠ (u5 : Value).ownBlock) (Kd.R_apart' (HO_7.out) (Kd.S_typed HO_5.out) (by decide)) (fun k_ hk => ⟨trivial, hk.2⟩))) (fun _ h_ => h_))); (case aB => exact (by repeat (first | (with_reducible first | exact HB.out | apply below_alloc | apply pw_below_drewN | apply below_drew1) | exact HB.out))); (case aF => exact (fun _ _ => trivial)); (case aO => exact (by (with_reducible repeat (first | apply Kd.S_alloc | apply Kd.S_drewN | apply Kd.S_drew)); exact Kd.S_mono HO_5.out (fun k_ hk => ⟨trivial, fun e_ => hk e_⟩))); (case aS => exact (below_size (by repeat (first | (with_reducible first | exact HB.out | apply below_alloc | apply pw_below_drewN | apply below_drew1) | exact HB.out)))); (case aL => have := LMc13.out; omega); intro v208 w14 ho hb hg hat; rw [← Ny207.out] at ho; have n0_ := Aside0.mk (hb); have n1_ := Aside0.mk (ho); clear HB; clear HO_5; clear HO_7; have HB := n0_; have HO209 := n1_; clear n0_ n1_; clear ho hb hg hat))
           go_roundg k2
           case measure => have := HK1.out; have := HK2.out; omega
           case rel => exact ⟨(y207), (wrap64 (x11_1 + 1)), (by first | rfl | (simp; done) | (simp [*]; done)), H', ⟨by have := HK1.out; have := HK2.out; omega⟩, ⟨by (with_reducible repeat (first | apply Kd.S_alloc | apply Kd.S_drewN | apply Kd.S_drew)); exact HO209.out⟩, ⟨by repeat (first | (with_reducible first | exact HB.out | apply below_alloc | apply pw_below_drewN | apply below_drew1) | exact HB.out)⟩⟩
         · rw [if_neg c13] at H
           exact absurd H (by simp)
   · rw [if_neg c5] at H
     have c5b0 : decide (x11_1 < a0) = false := decide_eq_false c5
     clear c5
     obtain rfl := Option.some.inj H
     go_wp2
     go_ret
     exact ⟨_, by first | rfl | (simp [errW_none, errW_some] <;> rfl) | (simp [*, errW_none, errW_some] <;> rfl), by (with_reducible repeat (first | apply Kd.S_alloc | apply Kd.S_drewN | apply Kd.S_drew)); exact HO_5.out, by repeat (first | (with_reducible first | exact HB.out | apply below_alloc | apply pw_below_drewN | apply below_drew1) | exact HB.out)⟩
end Go.Proofs.YtgcgecbdmomceaaDoor.A

/- PlacingTable: the table of a placing, by a function that has captured it. -/
namespace Go.Proofs.YtgcgecbdmomceaaDoor.A
open Go.RowKit Go.Proofs.YtgcgecbdmomceaaDoorW.PrintWords Go.Proofs.YtgcgecbdmomceaaDoorW.PrintLast Go.Proofs.YtgcgecbdmomceaaDoorW.PrintMore
attribute [local go_sem] max2_int min2_int max_two min_two max_three min_three max_four min_four
set_option linter.unusedVariables false
set_option linter.unusedSimpArgs false

def placeF (l0 : List Int) (i j : Int) : Option Int := if 0 ≤ i ∧ i < (l0.length : Int) then some (if rd l0 i = j then 1 else 0) else none
def impl_PlacingTable.f (q : Nat) (l0 : List Int) : Option (List (List Int) × Bool) := if (l0.length : Int) > 6 then some ([], false) else (impl_IsPlacing.f q l0).bind fun t => if t = true then (impl_square.f (placeF l0) q (l0.length : Int)).bind fun u => some (u, true) else some ([], false)
set_option maxHeartbeats 4000000 in
set_option maxRecDepth 100000 in
theorem place_cell (l0 : List Int) (i j t : Int) (A0 : Option Addr) (c0 B0 : Nat) (W : World) (hF : placeF l0 i j = some t) (h0 : W.cell? ⟨B0, 0, none⟩ = some (.slice A0 l0.length c0)) (hr0 : Kd.C (Kd.int .i64) W A0 l0.length l0) :
 Calls Tryd.prog 48 #[.int .i64 i, .int .i64 j, .pointer (some ⟨B0, 0, none⟩)] W fun e w' => e = .returned (.int .i64 t) ∧ Below W.heap.size W w' := by
 unfold placeF at hF
 split at hF
 next hc =>
  obtain ⟨p0, p1⟩ := hc
  obtain rfl := Option.some.inj hF
  obtain ⟨ad0, rfl, x0⟩ := Kd.at_int hr0 i p0 p1
  have q0 := eq_true p0
  have q1 := eq_true p1
  clear hr0 hF p0 p1
  by_cases c : rd l0 i = j
  · have d : (rd l0 i == j) = true := beq_iff_eq.mpr c
    rw [if_pos c]
    clear c
    go_enter Tryd.func48, Tryd.ntmps48
    go_wp2
    go_ret
    exact ⟨rfl, by repeat (first | exact Below.refl _ _ | apply below_alloc | apply pw_below_drewN | apply below_drew1)⟩
  · have d : (rd l0 i == j) = false := beq_eq_false_iff_ne.mpr c
    rw [if_neg c]
    clear c
    go_enter Tryd.func48, Tryd.ntmps48
    go_wp2
    go_ret
    exact ⟨rfl, by repeat (first | exact Below.refl _ _ | apply below_alloc | apply pw_below_drewN | apply below_drew1)⟩
 next => cases hF
set_option maxHeartbeats 4000000 in
set_option maxRecDepth 100000 in
theorem impl_PlacingTable.calls (q : Nat) (A0 : Option Addr) (c0 : Nat) (l0 : List Int) (r1 : List (List Int)) (r2 : Bool) (w : World) (hr0 : Kd.C (Kd.int .i64) w A0 l0.length l0) (hc0 : l0.length ≤ c0) (h : impl_PlacingTable.f q l0 = some (r1, r2)) :
 Calls Tryd.prog 24 #[.slice A0 l0.length c0] w fun e w' => ∃ v0_ : Value, e = .returned (.tuple #[v0_, .bool r2]) ∧ Kd.S (Kd.slice 3 (Kd.int .i64)) 24 (w') w.heap.size (fun _ => True) v0_ r1 ∧ Below w.heap.size w w' := by
 unfold impl_PlacingTable.f at h
 have HR0 := Aside0.mk hr0
 have HC0 := Aside0.mk hc0
 have HB := Aside0.mk (Below.refl w.heap.size w)
 clear hr0 hc0
 by_cases c : (l0.length : Int) > 6
 · rw [if_pos c] at h
   obtain ⟨rfl, rfl⟩ : [] = r1 ∧ false = r2 := by simpa using h
   have d := decide_eq_true c
   clear h c
   go_enter Tryd.func24, Tryd.ntmps24
   go_wp2
   go_ret2
   exact ⟨_, rfl, Kd.S_nil _ _ _ _ _, (by repeat (first | (with_reducible first | exact HB.out | apply below_alloc | apply pw_below_drewN | apply below_drew1) | exact HB.out))⟩
 rw [if_neg c] at h
 have d := decide_eq_false c
 clear c
 obtain ⟨t, hs, h⟩ := Option.bind_eq_some_iff.mp h
 have HS := Aside0.mk hs
 clear hs
 cases t with
 | false =>
  obtain ⟨rfl, rfl⟩ : [] = r1 ∧ false = r2 := by simpa using h
  clear h
  go_enter Tryd.func24, Tryd.ntmps24
  go_wp2_with (go_at_call 22; (refine (impl_IsPlacing.calls q _ _ l0 false _ ?side1 ?side2 HS.out).mono ?_); (case side1 => exact Kd.C_below HR0.out (by repeat (first | (with_reducible first | exact HB.out | apply below_alloc | apply pw_below_drewN | apply below_drew1) | exact HB.out))); (case side2 => exact HC0.out); rintro e w' ⟨rfl, ⟨nd, rfl⟩⟩)
  go_ret2
  exact ⟨_, rfl, Kd.S_nil _ _ _ _ _, (by repeat (first | (with_reducible first | exact HB.out | apply below_alloc | apply pw_below_drewN | apply below_drew1) | exact HB.out))⟩
 | true =>
  obtain ⟨u, hu, h⟩ := Option.bind_eq_some_iff.mp h
  obtain ⟨rfl, rfl⟩ : u = r1 ∧ true = r2 := by simpa using h
  have HU := Aside0.mk hu
  have EG := Aside0.mk (show ∀ args w, (callFunc 48 args).run Tryd.prog w = .ok (.enter 48 args) w from fun args w => enters_ Tryd.func48 (by kernel_rfl) rfl args w)
  clear h hu
  go_enter Tryd.func24, Tryd.ntmps24
  go_wp2_with (first | (go_at_call 22; (refine (impl_IsPlacing.calls q _ _ l0 true _ ?side1 ?side2 HS.out).mono ?_); (case side1 => exact Kd.C_below HR0.out (by repeat (first | (with_reducible first | exact HB.out | apply below_alloc | apply pw_below_drewN | apply below_drew1) | exact HB.out))); (case side2 => exact HC0.out); rintro e w' ⟨rfl, ⟨nd, rfl⟩⟩) | (go_at_call 47; (refine (impl_square.calls _ 48 #[.pointer (some ⟨w.heap.size, 0, none⟩)] EG.out q (l0.length : Int) u _ ?side1 HU.out).mono ?_); (case side1 => intro i' j' t W' hF hb; exact place_cell l0 i' j' t A0 c0 w.heap.size W' hF (tab_bx hb (by simp [go_sem]) (by first | (simp; done) | (simp; omega))) (Kd.C_below HR0.out (below_step (by repeat (first | (with_reducible first | exact HB.out | apply below_alloc | apply pw_below_drewN | apply below_drew1) | exact HB.out)) hb))); rintro e w2 ⟨v1, rfl, ho, hb⟩; have HO := Aside0.mk (show Kd.S (Kd.slice 3 (Kd.int .i64)) 24 (w2) w.heap.size (fun _ => True) v1 u from Kd.S_lower ho (below_size (by repeat (first | (with_reducible first | exact HB.out | apply below_alloc | apply pw_below_drewN | apply below_drew1) | exact HB.out)))); have HB2 := Aside0.mk (below_step (by repeat (first | (with_reducible first | exact HB.out | apply below_alloc | apply pw_below_drewN | apply below_drew1) | exact HB.out)) hb); clear HB ho hb; have HB := HB2; clear HB2))
  go_ret2
  exact ⟨_, rfl, HO.out, HB.out⟩
end Go.Proofs.YtgcgecbdmomceaaDoor.A
