/- What the law FnTablesMultiplied reaches, part 3: Lean functions with the same answers as the Go functions, the proofs that the Go code comes to these answers, and lemmas about them; no condition beyond those that each theorem names. -/
import Derived.Test.YtkhpojcplejdjaaCFnTablesMultipliedw1
import Derived.Lib.VarintBits
import Derived.Lib.Zigzag
import Derived.Test.YtkhpojcplejdjaaCFnTablesMultiplied1
import Derived.Test.YtkhpojcplejdjaaCFnTablesMultiplied2
/- square: a table by row and column; the function value is called for each place. -/
namespace Go.Proofs.Ytkhpojcplejdjaa.A
open Go.RowKit Go.Proofs.YtkhpojcplejdjaaW.PrintWords Go.Proofs.YtkhpojcplejdjaaW.PrintLast Go.Proofs.YtkhpojcplejdjaaW.PrintMore
attribute [local go_sem] max2_int min2_int max_two min_two max_three min_three max_four min_four
set_option linter.unusedVariables false
set_option linter.unusedSimpArgs false

mutual
def impl_square.l0 (F : Int → Int → Option Int) : Nat → Int → List (List Int) → Int → Int → Option ((List (List Int)))
 | 0, _, _, _, _ => none
 | k + 1, x0, x5, x10, x11 => if x11 < x10 then (impl_square.l1 F k x0 x5 x11 (([] : List Int)) x10 x11 x0 0) else (some x5)
def impl_square.l1 (F : Int → Int → Option Int) : Nat → Int → List (List Int) → Int → List Int → Int → Int → Int → Int → Option ((List (List Int)))
 | 0, _, _, _, _, _, _, _, _ => none
 | k + 1, x0, x5, x6, x7, x10, x11, x15, x16 => if x16 < x15 then ((F x6 x16).bind fun t203 => (if x7.length < 17592186044416 then (impl_square.l1 F k x0 x5 x6 (x7 ++ [t203]) x10 x11 x15 (wrap64 (x16 + 1))) else (none))) else (if x5.length < 5864062014805 then (impl_square.l0 F k x0 (x5 ++ [x7]) x10 (wrap64 (x11 + 1))) else (none))
end
def impl_square.f (F : Int → Int → Option Int) (k : Nat) (a0 : Int) : Option ((List (List Int))) := impl_square.l0 F k a0 (([] : List (List Int))) a0 0
set_option maxHeartbeats 8000000 in
set_option maxRecDepth 100000 in
theorem impl_square.calls (F : Int → Int → Option Int) (g : Nat) (lb : Array Value) (eg : ∀ args w, (callFunc g args).run Try.prog w = .ok (.enter g args) w) (k : Nat) (a0 : Int) (r : List (List Int)) (w : World) (hF : ∀ (i j t : Int) (W : World), F i j = some t → Below w.heap.size w W → Calls Try.prog g (#[.int .i64 i, .int .i64 j] ++ lb) W fun e w' => e = .returned (.int .i64 t) ∧ Below W.heap.size W w') (h : impl_square.f F k a0 = some r) :
 Calls Try.prog 49 #[.int .i64 a0, .func (.func g) #[] lb] w fun e w' => ∃ v0_ : Value, e = .returned (v0_) ∧ Kd.S (Kd.slice 3 (Kd.int .i64)) 24 w' w.heap.size (fun _ => True) v0_ r ∧ Below w.heap.size w w' := by
 have HF := Aside0.mk hF
 have EG := Aside0.mk eg
 clear hF eg
 have HB := Aside0.mk (Below.refl w.heap.size w)
 have H : (impl_square.l0 F k a0 (([] : List (List Int))) a0 0) = some r := h
 clear h
 obtain ⟨y197, hy197⟩ : ∃ y_ : List (List Int), y_ = (([] : List (List Int))) := ⟨_, rfl⟩
 replace H : (impl_square.l0 F k a0 y197 a0 0) = some r := by first | (rw [hy197]; with_reducible exact H) | (have H2_ := (Option.bind_some _ _).symm.trans H; rw [hy197]; with_reducible exact H2_) | (have H2_ := (Option.bind_some _ _).symm.trans H; with_reducible exact H2_) | with_reducible exact H | (rw [hy197]; exact H) | exact H
 have Ny197 := Aside0.mk hy197
 clear hy197
 have H' := Aside0.mk H
 clear H
 go_enter Try.func49, Try.ntmps49
 go_wp2_with (first | ((with_reducible refine gate_dst (N := 9) rfl ?_); refine Kd.S_lit (Kd.slice 3 (Kd.int .i64)) _ 24 ?hg (N := 9) ?hd (xs := ([] : List (List Int))) (inner := []) (ok := fun _ => True) (okp := fun _ => True) ?hr ?hp (fun _ hk => hk) trivial (Below.refl _ _) (Nat.le_refl _) (by simp) ?_; (case hd => rfl); (case hg => rfl); (case hr => first | (go_simp; done) | (go_simp; rfl)); (case hp => exact (Reps.none _ _)); intro v198 w3 ho4 hb hg_ hnew_; clear hg_ hnew_; (first | rw [← Ny197.out] at ho4 | (simp only [Int.reduceToNat] at ho4; rw [← Ny197.out] at ho4)); have n0_ := Aside0.mk (Kd.S_lower ho4 (below_size (by repeat (first | (with_reducible first | exact HB.out | apply below_alloc | apply pw_below_drewN | apply below_drew1) | exact HB.out)))); have n1_ := Aside0.mk (below_step (by repeat (first | (with_reducible first | exact HB.out | apply below_alloc | apply pw_below_drewN | apply below_drew1) | exact HB.out)) hb); clear HB; have HO199 := n0_; have HB := n1_; clear n0_ n1_; clear hb ho4))
 go_loopg [5, 11] k (fun kq v5 v11 w' => ∃ (x5_1 : List (List Int)) (x11_1 : Int), v11 = .int .i64 x11_1 ∧ Aside0 (impl_square.l0 F kq a0 x5_1 a0 x11_1 = some r) ∧ Aside0 (kq ≤ k) ∧ Aside0 (Kd.S (Kd.slice 3 (Kd.int .i64)) 24 w' w.heap.size (fun _ => True) v5 x5_1) ∧ Aside0 (Below w.heap.size w w'))
 case atStart => exact ⟨(y197), (0), (by first | rfl | (simp; done) | (simp [*]; done)), H', ⟨Nat.le_refl _⟩, ⟨by (with_reducible repeat (first | apply Kd.S_alloc | apply Kd.S_drewN | apply Kd.S_drew)); exact HO199.out⟩, ⟨by repeat (first | (with_reducible first | exact HB.out | apply below_alloc | apply pw_below_drewN | apply below_drew1) | exact HB.out)⟩⟩
 case round =>
  clear H'
  try clear p2
  try clear c4
  obtain ⟨x5_1, x11_1, rfl, HA, HK1, HO_5, HB⟩ := hrel
  cases gk with
  | zero => exact absurd HA.out (by simp [impl_square.l0])
  | succ k1 =>
   have H := HA.out
   clear HA
   simp only [impl_square.l0] at H
   by_cases c5 : x11_1 < a0
   · rw [if_pos c5] at H
     have c5b0 : decide (x11_1 < a0) = true := decide_eq_true c5
     clear c5
     obtain ⟨y200, hy200⟩ : ∃ y_ : List Int, y_ = (([] : List Int)) := ⟨_, rfl⟩
     replace H : (impl_square.l1 F k1 a0 x5_1 x11_1 y200 a0 x11_1 a0 0) = some r := by first | (rw [hy200]; with_reducible exact H) | (have H2_ := (Option.bind_some _ _).symm.trans H; rw [hy200]; with_reducible exact H2_) | (have H2_ := (Option.bind_some _ _).symm.trans H; with_reducible exact H2_) | with_reducible exact H | (rw [hy200]; exact H) | exact H
     have Ny200 := Aside0.mk hy200
     clear hy200
     have H' := Aside0.mk H
     clear H
     go_wp2_with (first | ((with_reducible refine gate_dst (N := 14) rfl ?_); refine Kd.R_lit (Kd.int .i64) _ 3 ?hg (N := 14) ?hd (xs := ([] : List Int)) (inner := []) (ok := fun _ => True) (okp := fun _ => True) ?hr ?hp (fun _ hk => hk) trivial (Below.refl _ _) (Nat.le_refl _) (by simp) ?_; (case hd => rfl); (case hg => rfl); (case hr => first | (go_simp; done) | (go_simp; rfl)); (case hp => exact (Reps.none _ _)); intro v201 w6 ho7 hb hg_ hnew_; clear hg_ hnew_; (first | rw [← Ny200.out] at ho7 | (simp only [Int.reduceToNat] at ho7; rw [← Ny200.out] at ho7)); have n0_ := Aside0.mk (Kd.S_elder' (by (with_reducible repeat (first | apply Kd.S_alloc | apply Kd.S_drewN | apply Kd.S_drew)); exact HO_5.out) (Kd.R_base ho7) hb); have n1_ := Aside0.mk (Kd.R_lower ho7 (below_size (by repeat (first | (with_reducible first | exact HB.out | apply below_alloc | apply pw_below_drewN | apply below_drew1) | exact HB.out)))); have n2_ := Aside0.mk (below_step (by repeat (first | (with_reducible first | exact HB.out | apply below_alloc | apply pw_below_drewN | apply below_drew1) | exact HB.out)) hb); clear HO_5; clear HB; have HO_5 := n0_; have HO202 := n1_; have HB := n2_; clear n0_ n1_ n2_; clear hb ho7))
     go_loopg [7, 16] k1 (fun kq v7 v16 w' => ∃ (x7_2 : List Int) (x16_2 : Int), v16 = .int .i64 x16_2 ∧ Aside0 (impl_square.l1 F kq a0 x5_1 x11_1 x7_2 a0 x11_1 a0 x16_2 = some r) ∧ Aside0 (kq ≤ k1) ∧ Aside0 (Kd.S (Kd.slice 3 (Kd.int .i64)) 24 w' w.heap.size (fun k_ => some k_ ≠ (v7 : Value).ownBlock) u5 x5_1) ∧ Aside0 (Kd.R (Kd.int .i64) 3 w' w.heap.size (fun _ => True) v7 x7_2) ∧ Aside0 (Below w.heap.size w w'))
     case atStart => exact ⟨(y200), (0), (by first | rfl | (simp; done) | (simp [*]; done)), H', ⟨Nat.le_refl _⟩, ⟨by (with_reducible repeat (first | apply Kd.S_alloc | apply Kd.S_drewN | apply Kd.S_drew)); exact Kd.S_mono HO_5.out (fun _ hk => hk.2)⟩, ⟨by (with_reducible repeat (first | apply Kd.R_alloc | apply Kd.R_drewN | apply Kd.R_drew)); exact HO202.out⟩, ⟨by repeat (first | (with_reducible first | exact HB.out | apply below_alloc | apply pw_below_drewN | apply below_drew1) | exact HB.out)⟩⟩
     case round =>
      clear H'
      try clear p2
      try clear c4
      try clear c5
      try clear c5b0
      try clear p2
      obtain ⟨x7_2, x16_2, rfl, HA, HK2, HO_5, HO_7, HB⟩ := hrel
      cases gk with
      | zero => exact absurd HA.out (by simp [impl_square.l1])
      | succ k2 =>
       have H := HA.out
       clear HA
       simp only [impl_square.l1] at H
       by_cases c8 : x16_2 < a0
       · rw [if_pos c8] at H
         have c8b0 : decide (x16_2 < a0) = true := decide_eq_true c8
         clear c8
         replace H := Option.bind_eq_some_iff.mp H
         obtain ⟨t203, A90, H⟩ := H
         replace H : (if x7_2.length < 17592186044416 then (impl_square.l1 F k2 a0 x5_1 x11_1 (x7_2 ++ [t203]) a0 x11_1 a0 (wrap64 (x16_2 + 1))) else (none)) = some r := H
         have A9 := Aside0.mk A90
         clear A90
         by_cases c10 : x7_2.length < 17592186044416
         · rw [if_pos c10] at H
           have LMc10 := Aside0.mk c10
           clear c10
           obtain ⟨y204, hy204⟩ : ∃ y_ : List Int, y_ = (x7_2 ++ [t203]) := ⟨_, rfl⟩
           replace H : (impl_square.l1 F k2 a0 x5_1 x11_1 y204 a0 x11_1 a0 (wrap64 (x16_2 + 1))) = some r := by first | (rw [hy204]; with_reducible exact H) | (have H2_ := (Option.bind_some _ _).symm.trans H; rw [hy204]; with_reducible exact H2_) | (have H2_ := (Option.bind_some _ _).symm.trans H; with_reducible exact H2_) | with_reducible exact H | (rw [hy204]; exact H) | exact H
           have Ny204 := Aside0.mk hy204
           clear hy204
           have H' := Aside0.mk H
           clear H
           go_wp2_with (first | ((with_reducible refine gate_dst (N := 23) rfl ?_); refine goesF_ (some 23) rfl rfl 20 g lb EG.out #[.int .i64 x11_1, .int .i64 x16_2] rfl rfl (by (try simp only [List.map_toArray, List.map_cons, List.map_nil]); first | done | rfl) ?_; (with_reducible refine (HF.out x11_1 x16_2 t203 _ A9.out ?side1).mono ?_); (case side1 => repeat (first | (with_reducible first | exact HB.out | apply below_alloc | apply pw_below_drewN | apply below_drew1) | exact HB.out)); rintro e w11 ⟨rfl, hb⟩; refine ⟨_, rfl, ?_⟩; have n0_ := Aside0.mk (Kd.S_below (by (with_reducible repeat (first | apply Kd.S_alloc | apply Kd.S_drewN | apply Kd.S_drew)); exact HO_5.out) hb); have n1_ := Aside0.mk (Kd.R_below (by (with_reducible repeat (first | apply Kd.R_alloc | apply Kd.R_drewN | apply Kd.R_drew)); exact HO_7.out) hb); have n2_ := Aside0.mk (below_step (by repeat (first | (with_reducible first | exact HB.out | apply below_alloc | apply pw_below_drewN | apply below_drew1) | exact HB.out)) hb); clear HO_5; clear HO_7; clear HB; have HO_5 := n0_; have HO_7 := n1_; have HB := n2_; clear n0_ n1_ n2_; (try clear hb); (try clear hb2); (try clear hk); (try clear hi)) | ((with_reducible refine gate_builtin (b := .append) (xs := #[.tmp 19, .tmp 24]) rfl ?_); at_builtin; refine Kd.R_append (Kd.int .i64) (w0 := w) w.heap.size rfl (.tmp 19) (.tmp 24) 24 3 (.int .i64 0) 8 rfl Try.underlying24 info3 rfl (by decide) (by omega) u7 x7_2 t203 [.int .i64 t203] (fun _ => True) (fun _ => False) rfl rfl ?aP (fun _ hk => hk.elim) ?aF ?aO ?aB ?aS ?aL ?_; (case aP => exact rfl); (case aB => exact (by repeat (first | (with_reducible first | exact HB.out | apply below_alloc | apply pw_below_drewN | apply below_drew1) | exact HB.out))); (case aF => exact (fun _ _ => trivial)); (case aO => exact (by (with_reducible repeat (first | apply Kd.R_alloc | apply Kd.R_drewN | apply Kd.R_drew)); exact HO_7.out)); (case aS => exact (below_size (by repeat (first | (with_reducible first | exact HB.out | apply below_alloc | apply pw_below_drewN | apply below_drew1) | exact HB.out)))); (case aL => have := LMc10.out; omega); intro v205 w12 ho hb hg hat; rw [← Ny204.out] at ho; have n0_ := Aside0.mk (Kd.S_after (ok := (fun _ => True)) (by (with_reducible repeat (first | apply Kd.S_alloc | apply Kd.S_drewN | apply Kd.S_drew)); exact Kd.S_mono HO_5.out (fun _ hk => ⟨trivial, hk⟩)) hg hat); have n1_ := Aside0.mk (hb); have n2_ := Aside0.mk (ho); clear HO_5; clear HB; clear HO_7; have HO_5 := n0_; have HB := n1_; have HO206 := n2_; clear n0_ n1_ n2_; clear ho hb hg hat))
           go_roundg k2
           case measure => have := HK1.out; have := HK2.out; omega
           case rel => exact ⟨(y204), (wrap64 (x16_2 + 1)), (by first | rfl | (simp; done) | (simp [*]; done)), H', ⟨by have := HK1.out; have := HK2.out; omega⟩, ⟨by (with_reducible repeat (first | apply Kd.S_alloc | apply Kd.S_drewN | apply Kd.S_drew)); exact Kd.S_mono HO_5.out (fun _ hk => hk.2)⟩, ⟨by (with_reducible repeat (first | apply Kd.R_alloc | apply Kd.R_drewN | apply Kd.R_drew)); exact HO206.out⟩, ⟨by repeat (first | (with_reducible first | exact HB.out | apply below_alloc | apply pw_below_drewN | apply below_drew1) | exact HB.out)⟩⟩
         · rw [if_neg c10] at H
           exact absurd H (by simp)
       · rw [if_neg c8] at H
         have c8b0 : decide (x16_2 < a0) = false := decide_eq_false c8
         clear c8
         by_cases c13 : x5_1.length < 5864062014805
         · rw [if_pos c13] at H
           have LMc13 := Aside0.mk c13
           clear c13
           obtain ⟨y207, hy207⟩ : ∃ y_ : List (List Int), y_ = (x5_1 ++ [x7_2]) := ⟨_, rfl⟩
           replace H : (impl_square.l0 F k2 a0 y207 a0 (wrap64 (x11_1 + 1))) = some r := by first | (rw [hy207]; with_reducible exact H) | (have H2_ := (Option.bind_some _ _).symm.trans H; rw [hy207]; with_reducible exact H2_) | (have H2_ := (Option.bind_some _ _).symm.trans H; with_reducible exact H2_) | with_reducible exact H | (rw [hy207]; exact H) | exact H
           have Ny207 := Aside0.mk hy207
           clear hy207
           have H' := Aside0.mk H
           clear H
           obtain ⟨Ao15, co15, eo15⟩ := Kd.R_slice HO_7.out
           subst eo15
           go_wp2_with (first | ((with_reducible refine gate_builtin (b := .append) (xs := #[.tmp 27, .tmp 29]) rfl ?_); at_builtin; refine Kd.S_append (Kd.slice 3 (Kd.int .i64)) (w0 := w) w.heap.size rfl (.tmp 27) (.tmp 29) 22 24 (.slice none 0 0) 24 rfl Try.underlying22 info24 rfl (by decide) (by omega) u5 x5_1 x7_2 [.slice Ao15 x7_2.length co15] (fun _ => True) (fun k_ => some k_ = (.slice Ao15 x7_2.length co15 : Value).ownBlock) rfl rfl ?aP (fun k_ hk_ => ((Kd.R_mono (ok' := fun k_ => ((fun _ => True)) k_ ∧ some k_ ≠ (u5 : Value).ownBlock) (Kd.R_apart' (HO_7.out) (Kd.S_typed HO_5.out) (by decide)) (fun k_ hk => ⟨trivial, hk.2⟩))).1 k_ hk_.symm) ?aF ?aO ?aB ?aS ?aL ?_; (case aP => exact Kd.M_row (Kd.R_mono (Kd.R_tight rfl (Kd.R_mono (ok' := fun k_ => ((fun _ => True)) k_ ∧ some k_ ≠ (u5 : Value).ownBlock) (Kd.R_apart' (HO_7.out) (Kd.S_typed HO_5.out) (by decide)) (fun k_ hk => ⟨trivial, hk.2⟩))) (fun _ h_ => h_))); (case aB => exact (by repeat (first | (with_reducible first | exact HB.out | apply below_alloc | apply pw_below_drewN | apply below_drew1) | exact HB.out))); (case aF => exact (fun _ _ => trivial)); (case aO => exact (by (with_reducible repeat (first | apply Kd.S_alloc | apply Kd.S_drewN | apply Kd.S_drew)); exact Kd.S_mono HO_5.out (fun k_ hk => ⟨trivial, fun e_ => hk e_⟩))); (case aS => exact (below_size (by repeat (first | (with_reducible first | exact HB.out | apply below_alloc | apply pw_below_drewN | apply below_drew1) | exact HB.out)))); (case aL => have := LMc13.out; omega); intro v208 w14 ho hb hg hat; rw [← Ny207.out] at ho; have n0_ := Aside0.mk (hb); have n1_ := Aside0.mk (ho); clear HB; clear HO_5; clear HO_7; have HB := n0_; have HO209 := n1_; clear n0_ n1_; clear ho hb hg hat))
           go_roundg k2
           case measure => have := HK1.out; have := HK2.out; omega
           case rel => exact ⟨(y207), (wrap64 (x11_1 + 1)), (by first | rfl | (simp; done) | (simp [*]; done)), H', ⟨by have := HK1.out; have := HK2.out; omega⟩, ⟨by (with_reducible repeat (first | apply Kd.S_alloc | apply Kd.S_drewN | apply Kd.S_drew)); exact HO209.out⟩, ⟨by repeat (first | (with_reducible first | exact HB.out | apply below_alloc | apply pw_below_drewN | apply below_drew1) | exact HB.out)⟩⟩
         · rw [if_neg c13] at H
           exact absurd H (by simp)
   · rw [if_neg c5] at H
     have c5b0 : decide (x11_1 < a0) = false := decide_eq_false c5
     clear c5
     obtain rfl := Option.some.inj H
     go_wp2
     go_ret
     exact ⟨_, by first | rfl | (simp [errW_none, errW_some] <;> rfl) | (simp [*, errW_none, errW_some] <;> rfl), by (with_reducible repeat (first | apply Kd.S_alloc | apply Kd.S_drewN | apply Kd.S_drew)); exact HO_5.out, by repeat (first | (with_reducible first | exact HB.out | apply below_alloc | apply pw_below_drewN | apply below_drew1) | exact HB.out)⟩
end Go.Proofs.Ytkhpojcplejdjaa.A

/- giftTable: the table of a gift, by a function that has captured four numbers. -/
namespace Go.Proofs.Ytkhpojcplejdjaa.A
open Go.RowKit Go.Proofs.YtkhpojcplejdjaaW.PrintWords Go.Proofs.YtkhpojcplejdjaaW.PrintLast Go.Proofs.YtkhpojcplejdjaaW.PrintMore
attribute [local go_sem] max2_int min2_int max_two min_two max_three min_three max_four min_four
set_option linter.unusedVariables false
set_option linter.unusedSimpArgs false

def giftE (i j s k r c : Int) : Int := if r = c then (if r = i then s - k else if r = j then s - k else s) else if r = i then (if c = j then k else if r = j then (if c = i then k else 0) else 0) else if r = j then (if c = i then k else 0) else 0
def impl_giftTable.f (q : Nat) (n i j s k : Int) : Option (List (List Int)) := if 0 ≤ s ∧ s ≤ 1000000 ∧ 0 ≤ k ∧ k ≤ 1000000 then impl_square.f (fun r c => some (giftE i j s k r c)) q n else none
theorem gift_bx {W W' : World} {B : Nat} {v : Value} (hb : Below W.heap.size W W') (h : W.cell? ⟨B, 0, none⟩ = some v) (hB : B < W.heap.size) : W'.cell? ⟨B, 0, none⟩ = some v := (hb.cell (p := ⟨B, 0, none⟩) hB).trans h
set_option maxHeartbeats 4000000 in
set_option maxRecDepth 100000 in
theorem gift_cell (i j s k r c : Int) (B0 B1 B2 B3 : Nat) (W : World) (hs0 : 0 ≤ s) (hs1 : s ≤ 1000000) (hk0 : 0 ≤ k) (hk1 : k ≤ 1000000) (h0 : W.cell? ⟨B0, 0, none⟩ = some (.int .i64 i)) (h1 : W.cell? ⟨B1, 0, none⟩ = some (.int .i64 j)) (h2 : W.cell? ⟨B2, 0, none⟩ = some (.int .i64 s)) (h3 : W.cell? ⟨B3, 0, none⟩ = some (.int .i64 k)) :
 Calls Try.prog 100 #[.int .i64 r, .int .i64 c, .pointer (some ⟨B0, 0, none⟩), .pointer (some ⟨B1, 0, none⟩), .pointer (some ⟨B2, 0, none⟩), .pointer (some ⟨B3, 0, none⟩)] W fun e w' => e = .returned (.int .i64 (giftE i j s k r c)) ∧ Below W.heap.size W w' := by
 unfold giftE
 by_cases c0 : r = c
 · have d0 : (r == c) = true := beq_iff_eq.mpr c0
   rw [if_pos c0]
   clear c0
   by_cases c1 : r = i
   · have d1 : (r == i) = true := beq_iff_eq.mpr c1
     rw [if_pos c1]
     clear c1
     go_enter Try.func100, Try.ntmps100
     go_wp2
     go_ret
     exact ⟨rfl, by repeat (first | exact Below.refl _ _ | apply below_alloc | apply pw_below_drewN | apply below_drew1)⟩
   · have d1 : (r == i) = false := beq_eq_false_iff_ne.mpr c1
     rw [if_neg c1]
     clear c1
     by_cases c2 : r = j
     · have d2 : (r == j) = true := beq_iff_eq.mpr c2
       rw [if_pos c2]
       clear c2
       go_enter Try.func100, Try.ntmps100
       go_wp2
       go_ret
       exact ⟨rfl, by repeat (first | exact Below.refl _ _ | apply below_alloc | apply pw_below_drewN | apply below_drew1)⟩
     · have d2 : (r == j) = false := beq_eq_false_iff_ne.mpr c2
       rw [if_neg c2]
       clear c2
       go_enter Try.func100, Try.ntmps100
       go_wp2
       go_ret
       exact ⟨rfl, by repeat (first | exact Below.refl _ _ | apply below_alloc | apply pw_below_drewN | apply below_drew1)⟩
 · have d0 : (r == c) = false := beq_eq_false_iff_ne.mpr c0
   rw [if_neg c0]
   clear c0
   obtain ⟨q1, e1⟩ : ∃ q, q = (r == i) := ⟨_, rfl⟩
   obtain ⟨q2, e2⟩ : ∃ q, q = (c == j) := ⟨_, rfl⟩
   obtain ⟨q3, e3⟩ : ∃ q, q = (r == j) := ⟨_, rfl⟩
   obtain ⟨q4, e4⟩ : ∃ q, q = (c == i) := ⟨_, rfl⟩
   have E := Aside0.mk (show (if r = i then (if c = j then k else if r = j then (if c = i then k else 0) else 0) else if r = j then (if c = i then k else 0) else 0) = (if q1 = true then (if q2 = true then k else if q3 = true then (if q4 = true then k else 0) else 0) else if q3 = true then (if q4 = true then k else 0) else 0) by rw [e1, e2, e3, e4]; simp only [beq_iff_eq])
   rw [E.out]
   cases q1 <;> cases q2 <;> cases q3 <;> cases q4
   all_goals
    have e1' := e1.symm
    have e2' := e2.symm
    have e3' := e3.symm
    have e4' := e4.symm
    clear e1 e2 e3 e4 E
    go_enter Try.func100, Try.ntmps100
    go_wp2
    go_ret
    exact ⟨rfl, by repeat (first | exact Below.refl _ _ | apply below_alloc | apply pw_below_drewN | apply below_drew1)⟩
set_option maxHeartbeats 4000000 in
set_option maxRecDepth 100000 in
theorem impl_giftTable.calls (q : Nat) (n i j s k : Int) (r : List (List Int)) (w : World) (h : impl_giftTable.f q n i j s k = some r) :
 Calls Try.prog 66 #[.int .i64 n, .int .i64 i, .int .i64 j, .int .i64 s, .int .i64 k] w fun e w' => ∃ v0_ : Value, e = .returned (v0_) ∧ Kd.S (Kd.slice 3 (Kd.int .i64)) 24 w' w.heap.size (fun _ => True) v0_ r ∧ Below w.heap.size w w' := by
 unfold impl_giftTable.f at h
 split at h
 next hb =>
  obtain ⟨hs0, hs1, hk0, hk1⟩ := hb
  have H := Aside0.mk h
  have EG := Aside0.mk (show ∀ args w, (callFunc 100 args).run Try.prog w = .ok (.enter 100 args) w from fun args w => enters_ Try.func100 (by kernel_rfl) rfl args w)
  have HB := Aside0.mk (Below.refl w.heap.size w)
  clear h
  go_enter Try.func66, Try.ntmps66
  go_wp2_with (go_at_call 49; (refine (impl_square.calls _ 100 #[.pointer (some ⟨w.heap.size, 0, none⟩), .pointer (some ⟨w.heap.size + 1, 0, none⟩), .pointer (some ⟨w.heap.size + 1 + 1, 0, none⟩), .pointer (some ⟨w.heap.size + 1 + 1 + 1, 0, none⟩)] EG.out q n r _ ?side1 H.out).mono ?_); (case side1 => intro i' j' t W' hF hb; obtain rfl := Option.some.inj hF; exact gift_cell i j s k i' j' w.heap.size (w.heap.size + 1) (w.heap.size + 1 + 1) (w.heap.size + 1 + 1 + 1) W' hs0 hs1 hk0 hk1 (gift_bx hb (by simp [go_sem]) (by first | (simp; done) | (simp; omega))) (gift_bx hb (by simp [go_sem]) (by first | (simp; done) | (simp; omega))) (gift_bx hb (by simp [go_sem]) (by first | (simp; done) | (simp; omega))) (gift_bx hb (by simp [go_sem]) (by first | (simp; done) | (simp; omega)))); rintro e w1 ⟨v1, rfl, ho, hb⟩; have HO := Aside0.mk (show Kd.S (Kd.slice 3 (Kd.int .i64)) 24 w1 w.heap.size (fun _ => True) v1 r from Kd.S_lower ho (below_size (by repeat (first | (with_reducible first | exact HB.out | apply below_alloc | apply pw_below_drewN | apply below_drew1) | exact HB.out)))); have HB2 := Aside0.mk (below_step (by repeat (first | (with_reducible first | exact HB.out | apply below_alloc | apply pw_below_drewN | apply below_drew1) | exact HB.out)) hb); clear HB ho hb)
  go_ret
  exact ⟨_, rfl, HO.out, HB2.out⟩
 next => cases h
end Go.Proofs.Ytkhpojcplejdjaa.A

-- made by a program of this repo (wip/pp.py) through the kit's printer
namespace Go.Proofs.Ytkhpojcplejdjaa.A
open Go.RowKit Go.Proofs.YtkhpojcplejdjaaW.PrintWords Go.Proofs.YtkhpojcplejdjaaW.PrintLast Go.Proofs.YtkhpojcplejdjaaW.PrintMore
attribute [local go_sem] max2_int min2_int max_two min_two max_three min_three max_four min_four
set_option linter.unusedVariables false
set_option linter.unusedSimpArgs false

/-! ### impl_GiftTable: function 29 -/
def impl_GiftTable.f (k : Nat) (a0 : Int) (a1 : Int) (a2 : Int) (a3 : Int) (a4 : Int) : Option ((List (List Int)) × Bool) := (impl_within.f a0 1 6).bind fun t423 => (if t423 = true then ((impl_within.f a2 0 (wrap64 (a0 - 1))).bind fun t424 => (if t424 = true then ((impl_within.f a1 0 (wrap64 (a2 - 1))).bind fun t425 => (if t425 = true then ((impl_within.f a3 1 1000).bind fun t426 => (if t426 = true then ((impl_within.f a4 0 a3).bind fun t427 => (if t427 = true then ((impl_giftTable.f k a0 a1 a2 a3 a4).bind fun t428 => (some (t428, true))) else (some (([] : List (List Int)), false)))) else (some (([] : List (List Int)), false)))) else (some (([] : List (List Int)), false)))) else (some (([] : List (List Int)), false)))) else (some (([] : List (List Int)), false)))
set_option maxHeartbeats 8000000 in
set_option maxRecDepth 100000 in
theorem impl_GiftTable.calls (k : Nat) (a0 : Int) (a1 : Int) (a2 : Int) (a3 : Int) (a4 : Int) (r1 : List (List Int)) (r2 : Bool) (w : World) (h : impl_GiftTable.f k a0 a1 a2 a3 a4 = some (r1, r2)) :
 Calls Try.prog 29 #[.int .i64 a0, .int .i64 a1, .int .i64 a2, .int .i64 a3, .int .i64 a4] w fun e w' => ∃ v0_ : Value, e = .returned (.tuple #[v0_, .bool r2]) ∧ Kd.S (Kd.slice 3 (Kd.int .i64)) 24 w' w.heap.size (fun _ => True) v0_ r1 ∧ Below w.heap.size w w' := by
 have HB := Aside0.mk (Below.refl w.heap.size w)
 have H : ((impl_within.f a0 1 6).bind fun t423 => (if t423 = true then ((impl_within.f a2 0 (wrap64 (a0 - 1))).bind fun t424 => (if t424 = true then ((impl_within.f a1 0 (wrap64 (a2 - 1))).bind fun t425 => (if t425 = true then ((impl_within.f a3 1 1000).bind fun t426 => (if t426 = true then ((impl_within.f a4 0 a3).bind fun t427 => (if t427 = true then ((impl_giftTable.f k a0 a1 a2 a3 a4).bind fun t428 => (some (t428, true))) else (some (([] : List (List Int)), false)))) else (some (([] : List (List Int)), false)))) else (some (([] : List (List Int)), false)))) else (some (([] : List (List Int)), false)))) else (some (([] : List (List Int)), false)))) = some (r1, r2) := h
 clear h
 replace H := Option.bind_eq_some_iff.mp H
 obtain ⟨t423, A60, H⟩ := H
 replace H : (if t423 = true then ((impl_within.f a2 0 (wrap64 (a0 - 1))).bind fun t424 => (if t424 = true then ((impl_within.f a1 0 (wrap64 (a2 - 1))).bind fun t425 => (if t425 = true then ((impl_within.f a3 1 1000).bind fun t426 => (if t426 = true then ((impl_within.f a4 0 a3).bind fun t427 => (if t427 = true then ((impl_giftTable.f k a0 a1 a2 a3 a4).bind fun t428 => (some (t428, true))) else (some (([] : List (List Int)), false)))) else (some (([] : List (List Int)), false)))) else (some (([] : List (List Int)), false)))) else (some (([] : List (List Int)), false)))) else (some (([] : List (List Int)), false))) = some (r1, r2) := H
 have A6 := Aside0.mk A60
 clear A60
 by_cases c7 : t423 = true
 · subst c7
   have H1 : ((impl_within.f a2 0 (wrap64 (a0 - 1))).bind fun t424 => (if t424 = true then ((impl_within.f a1 0 (wrap64 (a2 - 1))).bind fun t425 => (if t425 = true then ((impl_within.f a3 1 1000).bind fun t426 => (if t426 = true then ((impl_within.f a4 0 a3).bind fun t427 => (if t427 = true then ((impl_giftTable.f k a0 a1 a2 a3 a4).bind fun t428 => (some (t428, true))) else (some (([] : List (List Int)), false)))) else (some (([] : List (List Int)), false)))) else (some (([] : List (List Int)), false)))) else (some (([] : List (List Int)), false)))) = some (r1, r2) := by rw [if_pos rfl] at H; exact H
   clear H
   have H := H1
   clear H1
   replace H := Option.bind_eq_some_iff.mp H
   obtain ⟨t424, A80, H⟩ := H
   replace H : (if t424 = true then ((impl_within.f a1 0 (wrap64 (a2 - 1))).bind fun t425 => (if t425 = true then ((impl_within.f a3 1 1000).bind fun t426 => (if t426 = true then ((impl_within.f a4 0 a3).bind fun t427 => (if t427 = true then ((impl_giftTable.f k a0 a1 a2 a3 a4).bind fun t428 => (some (t428, true))) else (some (([] : List (List Int)), false)))) else (some (([] : List (List Int)), false)))) else (some (([] : List (List Int)), false)))) else (some (([] : List (List Int)), false))) = some (r1, r2) := H
   have A8 := Aside0.mk A80
   clear A80
   by_cases c9 : t424 = true
   · subst c9
     have H1 : ((impl_within.f a1 0 (wrap64 (a2 - 1))).bind fun t425 => (if t425 = true then ((impl_within.f a3 1 1000).bind fun t426 => (if t426 = true then ((impl_within.f a4 0 a3).bind fun t427 => (if t427 = true then ((impl_giftTable.f k a0 a1 a2 a3 a4).bind fun t428 => (some (t428, true))) else (some (([] : List (List Int)), false)))) else (some (([] : List (List Int)), false)))) else (some (([] : List (List Int)), false)))) = some (r1, r2) := by rw [if_pos rfl] at H; exact H
     clear H
     have H := H1
     clear H1
     replace H := Option.bind_eq_some_iff.mp H
     obtain ⟨t425, A100, H⟩ := H
     replace H : (if t425 = true then ((impl_within.f a3 1 1000).bind fun t426 => (if t426 = true then ((impl_within.f a4 0 a3).bind fun t427 => (if t427 = true then ((impl_giftTable.f k a0 a1 a2 a3 a4).bind fun t428 => (some (t428, true))) else (some (([] : List (List Int)), false)))) else (some (([] : List (List Int)), false)))) else (some (([] : List (List Int)), false))) = some (r1, r2) := H
     have A10 := Aside0.mk A100
     clear A100
     by_cases c11 : t425 = true
     · subst c11
       have H1 : ((impl_within.f a3 1 1000).bind fun t426 => (if t426 = true then ((impl_within.f a4 0 a3).bind fun t427 => (if t427 = true then ((impl_giftTable.f k a0 a1 a2 a3 a4).bind fun t428 => (some (t428, true))) else (some (([] : List (List Int)), false)))) else (some (([] : List (List Int)), false)))) = some (r1, r2) := by rw [if_pos rfl] at H; exact H
       clear H
       have H := H1
       clear H1
       replace H := Option.bind_eq_some_iff.mp H
       obtain ⟨t426, A120, H⟩ := H
       replace H : (if t426 = true then ((impl_within.f a4 0 a3).bind fun t427 => (if t427 = true then ((impl_giftTable.f k a0 a1 a2 a3 a4).bind fun t428 => (some (t428, true))) else (some (([] : List (List Int)), false)))) else (some (([] : List (List Int)), false))) = some (r1, r2) := H
       have A12 := Aside0.mk A120
       clear A120
       by_cases c13 : t426 = true
       · subst c13
         have H1 : ((impl_within.f a4 0 a3).bind fun t427 => (if t427 = true then ((impl_giftTable.f k a0 a1 a2 a3 a4).bind fun t428 => (some (t428, true))) else (some (([] : List (List Int)), false)))) = some (r1, r2) := by rw [if_pos rfl] at H; exact H
         clear H
         have H := H1
         clear H1
         replace H := Option.bind_eq_some_iff.mp H
         obtain ⟨t427, A140, H⟩ := H
         replace H : (if t427 = true then ((impl_giftTable.f k a0 a1 a2 a3 a4).bind fun t428 => (some (t428, true))) else (some (([] : List (List Int)), false))) = some (r1, r2) := H
         have A14 := Aside0.mk A140
         clear A140
         by_cases c15 : t427 = true
         · subst c15
           have H1 : ((impl_giftTable.f k a0 a1 a2 a3 a4).bind fun t428 => (some (t428, true))) = some (r1, r2) := by rw [if_pos rfl] at H; exact H
           clear H
           have H := H1
           clear H1
           replace H := Option.bind_eq_some_iff.mp H
           obtain ⟨t428, A160, H⟩ := H
           replace H : (some (t428, true)) = some (r1, r2) := H
           have A16 := Aside0.mk A160
           clear A160
           simp only [Option.some.injEq, Prod.mk.injEq] at H
           obtain ⟨rfl, rfl⟩ := H
           go_enter Try.func29, Try.ntmps29
           go_wp2_with (first | ((with_reducible refine gate_callee (f := 62) rfl ?_); refine goesL_ (some 13) rfl rfl Try.func62 (by kernel_rfl) rfl #[.int .i64 a0, .int .i64 1, .int .i64 6] rfl (by (try simp only [List.map_toArray, List.map_cons, List.map_nil]); first | done | rfl | (simp only [List.length_drop, List.length_take]; rfl)) ?_; (with_reducible refine (impl_within.calls a0 1 6 true _ A6.out).mono ?_); rintro e w' ⟨rfl, ⟨nd, rfl⟩⟩; refine ⟨_, rfl, ?_⟩) | (go_at_call 62; (with_reducible refine (impl_within.calls a2 0 (wrap64 (a0 - 1)) true _ A8.out).mono ?_); rintro e w' ⟨rfl, ⟨nd, rfl⟩⟩) | (go_at_call 62; (with_reducible refine (impl_within.calls a1 0 (wrap64 (a2 - 1)) true _ A10.out).mono ?_); rintro e w' ⟨rfl, ⟨nd, rfl⟩⟩) | (go_at_call 62; (with_reducible refine (impl_within.calls a3 1 1000 true _ A12.out).mono ?_); rintro e w' ⟨rfl, ⟨nd, rfl⟩⟩) | (go_at_call 62; (with_reducible refine (impl_within.calls a4 0 a3 true _ A14.out).mono ?_); rintro e w' ⟨rfl, ⟨nd, rfl⟩⟩) | ((with_reducible refine gate_callee (f := 66) rfl ?_); refine goesL_ (some 45) rfl rfl Try.func66 (by kernel_rfl) rfl #[.int .i64 a0, .int .i64 a1, .int .i64 a2, .int .i64 a3, .int .i64 a4] rfl (by (try simp only [List.map_toArray, List.map_cons, List.map_nil]); first | done | rfl | (simp only [List.length_drop, List.length_take]; rfl)) ?_; (with_reducible refine (impl_giftTable.calls k a0 a1 a2 a3 a4 t428 _ A16.out).mono ?_); rintro e w17 ⟨v429, rfl, ho0, hb⟩; refine ⟨_, rfl, ?_⟩; have n0_ := Aside0.mk (Kd.S_lower ho0 (below_size (by repeat (first | (with_reducible first | exact HB.out | apply below_alloc | apply pw_below_drewN | apply below_drew1) | exact HB.out)))); have n1_ := Aside0.mk (below_step (by repeat (first | (with_reducible first | exact HB.out | apply below_alloc | apply pw_below_drewN | apply below_drew1) | exact HB.out)) hb); clear HB; have HO430 := n0_; have HB := n1_; clear n0_ n1_; (try clear hb); (try clear hb2); (try clear hk); (try clear hi); (try clear ho0)))
           go_ret2
           exact ⟨_, by first | rfl | (simp [errW_none, errW_some] <;> rfl) | (simp [*, errW_none, errW_some] <;> rfl), by (with_reducible repeat (first | apply Kd.S_alloc | apply Kd.S_drewN | apply Kd.S_drew)); exact HO430.out, by repeat (first | (with_reducible first | exact HB.out | apply below_alloc | apply pw_below_drewN | apply below_drew1) | exact HB.out)⟩
         · replace c15 := Bool.eq_false_iff.mpr c15
           subst c15
           have H1 : (some (([] : List (List Int)), false)) = some (r1, r2) := by rw [if_neg (show ¬ (false = true) by decide)] at H; exact H
           clear H
           have H := H1
           clear H1
           simp only [Option.some.injEq, Prod.mk.injEq] at H
           obtain ⟨rfl, rfl⟩ := H
           go_enter Try.func29, Try.ntmps29
           go_wp2_with (first | ((with_reducible refine gate_callee (f := 62) rfl ?_); refine goesL_ (some 13) rfl rfl Try.func62 (by kernel_rfl) rfl #[.int .i64 a0, .int .i64 1, .int .i64 6] rfl (by (try simp only [List.map_toArray, List.map_cons, List.map_nil]); first | done | rfl | (simp only [List.length_drop, List.length_take]; rfl)) ?_; (with_reducible refine (impl_within.calls a0 1 6 true _ A6.out).mono ?_); rintro e w' ⟨rfl, ⟨nd, rfl⟩⟩; refine ⟨_, rfl, ?_⟩) | (go_at_call 62; (with_reducible refine (impl_within.calls a2 0 (wrap64 (a0 - 1)) true _ A8.out).mono ?_); rintro e w' ⟨rfl, ⟨nd, rfl⟩⟩) | (go_at_call 62; (with_reducible refine (impl_within.calls a1 0 (wrap64 (a2 - 1)) true _ A10.out).mono ?_); rintro e w' ⟨rfl, ⟨nd, rfl⟩⟩) | (go_at_call 62; (with_reducible refine (impl_within.calls a3 1 1000 true _ A12.out).mono ?_); rintro e w' ⟨rfl, ⟨nd, rfl⟩⟩) | (go_at_call 62; (with_reducible refine (impl_within.calls a4 0 a3 false _ A14.out).mono ?_); rintro e w' ⟨rfl, ⟨nd, rfl⟩⟩))
           go_ret2
           exact ⟨_, by first | rfl | (simp [errW_none, errW_some] <;> rfl) | (simp [*, errW_none, errW_some] <;> rfl), by first | exact Kd.S_nil _ _ _ _ _ | exact Kd.N_nil _ _ _ _ _ | exact Kd.V_nil _ _ _ _ _ | exact Kd.Q_nil _ _ _ _ _ | exact Kd.R_nil _ _ _ _ _, by repeat (first | (with_reducible first | exact HB.out | apply below_alloc | apply pw_below_drewN | apply below_drew1) | exact HB.out)⟩
       · replace c13 := Bool.eq_false_iff.mpr c13
         subst c13
         have H1 : (some (([] : List (List Int)), false)) = some (r1, r2) := by rw [if_neg (show ¬ (false = true) by decide)] at H; exact H
         clear H
         have H := H1
         clear H1
         simp only [Option.some.injEq, Prod.mk.injEq] at H
         obtain ⟨rfl, rfl⟩ := H
         go_enter Try.func29, Try.ntmps29
         go_wp2_with (first | ((with_reducible refine gate_callee (f := 62) rfl ?_); refine goesL_ (some 13) rfl rfl Try.func62 (by kernel_rfl) rfl #[.int .i64 a0, .int .i64 1, .int .i64 6] rfl (by (try simp only [List.map_toArray, List.map_cons, List.map_nil]); first | done | rfl | (simp only [List.length_drop, List.length_take]; rfl)) ?_; (with_reducible refine (impl_within.calls a0 1 6 true _ A6.out).mono ?_); rintro e w' ⟨rfl, ⟨nd, rfl⟩⟩; refine ⟨_, rfl, ?_⟩) | (go_at_call 62; (with_reducible refine (impl_within.calls a2 0 (wrap64 (a0 - 1)) true _ A8.out).mono ?_); rintro e w' ⟨rfl, ⟨nd, rfl⟩⟩) | (go_at_call 62; (with_reducible refine (impl_within.calls a1 0 (wrap64 (a2 - 1)) true _ A10.out).mono ?_); rintro e w' ⟨rfl, ⟨nd, rfl⟩⟩) | (go_at_call 62; (with_reducible refine (impl_within.calls a3 1 1000 false _ A12.out).mono ?_); rintro e w' ⟨rfl, ⟨nd, rfl⟩⟩))
         go_ret2
         exact ⟨_, by first | rfl | (simp [errW_none, errW_some] <;> rfl) | (simp [*, errW_none, errW_some] <;> rfl), by first | exact Kd.S_nil _ _ _ _ _ | exact Kd.N_nil _ _ _ _ _ | exact Kd.V_nil _ _ _ _ _ | exact Kd.Q_nil _ _ _ _ _ | exact Kd.R_nil _ _ _ _ _, by repeat (first | (with_reducible first | exact HB.out | apply below_alloc | apply pw_below_drewN | apply below_drew1) | exact HB.out)⟩
     · replace c11 := Bool.eq_false_iff.mpr c11
       subst c11
       have H1 : (some (([] : List (List Int)), false)) = some (r1, r2) := by rw [if_neg (show ¬ (false = true) by decide)] at H; exact H
       clear H
       have H := H1
       clear H1
       simp only [Option.some.injEq, Prod.mk.injEq] at H
       obtain ⟨rfl, rfl⟩ := H
       go_enter Try.func29, Try.ntmps29
       go_wp2_with (first | ((with_reducible refine gate_callee (f := 62) rfl ?_); refine goesL_ (some 13) rfl rfl Try.func62 (by kernel_rfl) rfl #[.int .i64 a0, .int .i64 1, .int .i64 6] rfl (by (try simp only [List.map_toArray, List.map_cons, List.map_nil]); first | done | rfl | (simp only [List.length_drop, List.length_take]; rfl)) ?_; (with_reducible refine (impl_within.calls a0 1 6 true _ A6.out).mono ?_); rintro e w' ⟨rfl, ⟨nd, rfl⟩⟩; refine ⟨_, rfl, ?_⟩) | (go_at_call 62; (with_reducible refine (impl_within.calls a2 0 (wrap64 (a0 - 1)) true _ A8.out).mono ?_); rintro e w' ⟨rfl, ⟨nd, rfl⟩⟩) | (go_at_call 62; (with_reducible refine (impl_within.calls a1 0 (wrap64 (a2 - 1)) false _ A10.out).mono ?_); rintro e w' ⟨rfl, ⟨nd, rfl⟩⟩))
       go_ret2
       exact ⟨_, by first | rfl | (simp [errW_none, errW_some] <;> rfl) | (simp [*, errW_none, errW_some] <;> rfl), by first | exact Kd.S_nil _ _ _ _ _ | exact Kd.N_nil _ _ _ _ _ | exact Kd.V_nil _ _ _ _ _ | exact Kd.Q_nil _ _ _ _ _ | exact Kd.R_nil _ _ _ _ _, by repeat (first | (with_reducible first | exact HB.out | apply below_alloc | apply pw_below_drewN | apply below_drew1) | exact HB.out)⟩
   · replace c9 := Bool.eq_false_iff.mpr c9
     subst c9
     have H1 : (some (([] : List (List Int)), false)) = some (r1, r2) := by rw [if_neg (show ¬ (false = true) by decide)] at H; exact H
     clear H
     have H := H1
     clear H1
     simp only [Option.some.injEq, Prod.mk.injEq] at H
     obtain ⟨rfl, rfl⟩ := H
     go_enter Try.func29, Try.ntmps29
     go_wp2_with (first | ((with_reducible refine gate_callee (f := 62) rfl ?_); refine goesL_ (some 13) rfl rfl Try.func62 (by kernel_rfl) rfl #[.int .i64 a0, .int .i64 1, .int .i64 6] rfl (by (try simp only [List.map_toArray, List.map_cons, List.map_nil]); first | done | rfl | (simp only [List.length_drop, List.length_take]; rfl)) ?_; (with_reducible refine (impl_within.calls a0 1 6 true _ A6.out).mono ?_); rintro e w' ⟨rfl, ⟨nd, rfl⟩⟩; refine ⟨_, rfl, ?_⟩) | (go_at_call 62; (with_reducible refine (impl_within.calls a2 0 (wrap64 (a0 - 1)) false _ A8.out).mono ?_); rintro e w' ⟨rfl, ⟨nd, rfl⟩⟩))
     go_ret2
     exact ⟨_, by first | rfl | (simp [errW_none, errW_some] <;> rfl) | (simp [*, errW_none, errW_some] <;> rfl), by first | exact Kd.S_nil _ _ _ _ _ | exact Kd.N_nil _ _ _ _ _ | exact Kd.V_nil _ _ _ _ _ | exact Kd.Q_nil _ _ _ _ _ | exact Kd.R_nil _ _ _ _ _, by repeat (first | (with_reducible first | exact HB.out | apply below_alloc | apply pw_below_drewN | apply below_drew1) | exact HB.out)⟩
 · replace c7 := Bool.eq_false_iff.mpr c7
   subst c7
   have H1 : (some (([] : List (List Int)), false)) = some (r1, r2) := by rw [if_neg (show ¬ (false = true) by decide)] at H; exact H
   clear H
   have H := H1
   clear H1
   simp only [Option.some.injEq, Prod.mk.injEq] at H
   obtain ⟨rfl, rfl⟩ := H
   go_enter Try.func29, Try.ntmps29
   go_wp2_with (first | ((with_reducible refine gate_callee (f := 62) rfl ?_); refine goesL_ (some 13) rfl rfl Try.func62 (by kernel_rfl) rfl #[.int .i64 a0, .int .i64 1, .int .i64 6] rfl (by (try simp only [List.map_toArray, List.map_cons, List.map_nil]); first | done | rfl | (simp only [List.length_drop, List.length_take]; rfl)) ?_; (with_reducible refine (impl_within.calls a0 1 6 false _ A6.out).mono ?_); rintro e w' ⟨rfl, ⟨nd, rfl⟩⟩; refine ⟨_, rfl, ?_⟩))
   go_ret2
   exact ⟨_, by first | rfl | (simp [errW_none, errW_some] <;> rfl) | (simp [*, errW_none, errW_some] <;> rfl), by first | exact Kd.S_nil _ _ _ _ _ | exact Kd.N_nil _ _ _ _ _ | exact Kd.V_nil _ _ _ _ _ | exact Kd.Q_nil _ _ _ _ _ | exact Kd.R_nil _ _ _ _ _, by repeat (first | (with_reducible first | exact HB.out | apply below_alloc | apply pw_below_drewN | apply below_drew1) | exact HB.out)⟩

end Go.Proofs.Ytkhpojcplejdjaa.A

-- made by a program of this repo (wip/pp.py) through the kit's printer
namespace Go.Proofs.Ytkhpojcplejdjaa.A
open Go.RowKit Go.Proofs.YtkhpojcplejdjaaW.PrintWords Go.Proofs.YtkhpojcplejdjaaW.PrintLast Go.Proofs.YtkhpojcplejdjaaW.PrintMore
attribute [local go_sem] max2_int min2_int max_two min_two max_three min_three max_four min_four
set_option linter.unusedVariables false
set_option linter.unusedSimpArgs false

/-! ### spec_doGift: function 67 -/
def spec_doGift.l0 : Nat → Int → Int → Int → Int → Int → List (List Int) → Int → Option ((List (List Int)))
 | 0, _, _, _, _, _, _, _ => none
 | k + 1, x0, x1, x2, x3, x4, x11, x12 => if x12 < x0 then (if 0 ≤ x12 then (if x12 < (x11.length : Int) then (if x12 < ((rd_L1 x11 x12).length : Int) then (spec_doGift.l0 k x0 x1 x2 x3 x4 (x11.set (x12 : Int).toNat ((rd_L1 x11 x12).set (x12 : Int).toNat x3)) (wrap64 (x12 + 1))) else (none)) else (none)) else (none)) else (if 0 ≤ x1 then (if x1 < (x11.length : Int) then (if x1 < ((rd_L1 x11 x1).length : Int) then ((some (x11.set (x1 : Int).toNat ((rd_L1 x11 x1).set (x1 : Int).toNat (wrap64 (x3 - x4))) : List (List Int))).bind fun y441 => (if 0 ≤ x2 then (if x2 < (x11.length : Int) then (if x2 < ((rd_L1 y441 x2).length : Int) then ((some (y441.set (x2 : Int).toNat ((rd_L1 y441 x2).set (x2 : Int).toNat (wrap64 (x3 - x4))) : List (List Int))).bind fun y445 => (if x2 < ((rd_L1 y445 x1).length : Int) then ((some (y445.set (x1 : Int).toNat ((rd_L1 y445 x1).set (x2 : Int).toNat x4) : List (List Int))).bind fun y449 => (if x1 < ((rd_L1 y449 x2).length : Int) then (some (y449.set (x2 : Int).toNat ((rd_L1 y449 x2).set (x1 : Int).toNat x4))) else (none))) else (none))) else (none)) else (none)) else (none))) else (none)) else (none)) else (none))
def spec_doGift.f (k : Nat) (a0 : Int) (a1 : Int) (a2 : Int) (a3 : Int) (a4 : Int) : Option ((List (List Int))) := (spec_doEmpty.f k a0).bind fun t431 => (spec_doGift.l0 k a0 a1 a2 a3 a4 t431 0)
set_option maxHeartbeats 8000000 in
set_option maxRecDepth 100000 in
theorem spec_doGift.calls (k : Nat) (a0 : Int) (a1 : Int) (a2 : Int) (a3 : Int) (a4 : Int) (r : List (List Int)) (w : World) (h : spec_doGift.f k a0 a1 a2 a3 a4 = some r) :
 Calls Try.prog 67 #[.int .i64 a0, .int .i64 a1, .int .i64 a2, .int .i64 a3, .int .i64 a4] w fun e w' => ∃ v0_ : Value, e = .returned (v0_) ∧ Kd.S (Kd.slice 3 (Kd.int .i64)) 24 w' w.heap.size (fun _ => True) v0_ r ∧ Below w.heap.size w w' := by
 have HB := Aside0.mk (Below.refl w.heap.size w)
 have H : ((spec_doEmpty.f k a0).bind fun t431 => (spec_doGift.l0 k a0 a1 a2 a3 a4 t431 0)) = some r := h
 clear h
 replace H := Option.bind_eq_some_iff.mp H
 obtain ⟨t431, A60, H⟩ := H
 replace H : (spec_doGift.l0 k a0 a1 a2 a3 a4 t431 0) = some r := H
 have A6 := Aside0.mk A60
 clear A60
 have H' := Aside0.mk H
 clear H
 go_enter Try.func67, Try.ntmps67
 go_wp2_with (first | ((with_reducible refine gate_callee (f := 43) rfl ?_); refine goesL_ (some 14) rfl rfl Try.func43 (by kernel_rfl) rfl #[.int .i64 a0] rfl (by (try simp only [List.map_toArray, List.map_cons, List.map_nil]); first | done | rfl | (simp only [List.length_drop, List.length_take]; rfl)) ?_; (with_reducible refine (spec_doEmpty.calls k a0 t431 _ A6.out).mono ?_); rintro e w7 ⟨v432, rfl, ho0, hb⟩; refine ⟨_, rfl, ?_⟩; have n0_ := Aside0.mk (Kd.S_lower ho0 (below_size (by repeat (first | (with_reducible first | exact HB.out | apply below_alloc | apply pw_below_drewN | apply below_drew1) | exact HB.out)))); have n1_ := Aside0.mk (below_step (by repeat (first | (with_reducible first | exact HB.out | apply below_alloc | apply pw_below_drewN | apply below_drew1) | exact HB.out)) hb); clear HB; have HO433 := n0_; have HB := n1_; clear n0_ n1_; (try clear hb); (try clear hb2); (try clear hk); (try clear hi); (try clear ho0)))
 go_loopg [12] k (fun kq v12 w' => ∃ (x11_1 : List (List Int)) (x12_1 : Int), v12 = .int .i64 x12_1 ∧ Aside0 (spec_doGift.l0 kq a0 a1 a2 a3 a4 x11_1 x12_1 = some r) ∧ Aside0 (kq ≤ k) ∧ Aside0 (Kd.S (Kd.slice 3 (Kd.int .i64)) 24 w' w.heap.size (fun _ => True) v432 x11_1) ∧ Aside0 (Below w.heap.size w w'))
 case atStart => exact ⟨(t431), (0), (by first | rfl | (simp; done) | (simp [*]; done)), H', ⟨Nat.le_refl _⟩, ⟨by (with_reducible repeat (first | apply Kd.S_alloc | apply Kd.S_drewN | apply Kd.S_drew)); exact HO433.out⟩, ⟨by repeat (first | (with_reducible first | exact HB.out | apply below_alloc | apply pw_below_drewN | apply below_drew1) | exact HB.out)⟩⟩
 case round =>
  clear H'
  try clear p2
  try clear c4
  try clear c6
  obtain ⟨x11_1, x12_1, rfl, HA, HK1, HO_11, HB⟩ := hrel
  cases gk with
  | zero => exact absurd HA.out (by simp [spec_doGift.l0])
  | succ k1 =>
   have H := HA.out
   clear HA
   simp only [spec_doGift.l0] at H
   by_cases c8 : x12_1 < a0
   · rw [if_pos c8] at H
     have c8b0 : decide (x12_1 < a0) = true := decide_eq_true c8
     clear c8
     by_cases c9 : 0 ≤ x12_1
     · rw [if_pos c9] at H
       have c9b0 : decide (0 ≤ x12_1) = true := decide_eq_true c9
       clear c9
       by_cases c10 : x12_1 < (x11_1.length : Int)
       · rw [if_pos c10] at H
         have c10b0 : decide (x12_1 < (x11_1.length : Int)) = true := decide_eq_true c10
         clear c10
         by_cases c11 : x12_1 < ((rd_L1 x11_1 x12_1).length : Int)
         · rw [if_pos c11] at H
           have c11b0 : decide (x12_1 < ((rd_L1 x11_1 x12_1).length : Int)) = true := decide_eq_true c11
           clear c11
           obtain ⟨y435, hy435⟩ : ∃ y_ : List Int, y_ = ((rd_L1 x11_1 x12_1).set (x12_1 : Int).toNat a3) := ⟨_, rfl⟩
           replace H : (spec_doGift.l0 k1 a0 a1 a2 a3 a4 (x11_1.set (x12_1 : Int).toNat y435) (wrap64 (x12_1 + 1))) = some r := by first | (rw [hy435]; with_reducible exact H) | (have H2_ := (Option.bind_some _ _).symm.trans H; rw [hy435]; with_reducible exact H2_) | (have H2_ := (Option.bind_some _ _).symm.trans H; with_reducible exact H2_) | with_reducible exact H | (rw [hy435]; exact H) | exact H
           have Ny435 := Aside0.mk hy435
           clear hy435
           obtain ⟨y437, hy437⟩ : ∃ y_ : List (List Int), y_ = (x11_1.set (x12_1 : Int).toNat y435) := ⟨_, rfl⟩
           replace H : (spec_doGift.l0 k1 a0 a1 a2 a3 a4 y437 (wrap64 (x12_1 + 1))) = some r := by first | (rw [hy437]; with_reducible exact H) | (have H2_ := (Option.bind_some _ _).symm.trans H; rw [hy437]; with_reducible exact H2_) | (have H2_ := (Option.bind_some _ _).symm.trans H; with_reducible exact H2_) | with_reducible exact H | (rw [hy437]; exact H) | exact H
           have Ny437 := Aside0.mk hy437
           clear hy437
           have H' := Aside0.mk H
           clear H
           obtain ⟨Ao13, co13, eo13⟩ := Kd.S_slice HO_11.out
           subst eo13
           have p434 : 0 ≤ (x12_1 : Int) := of_decide_eq_true (by first | (with_reducible assumption) | assumption)
           have q434 : x12_1 < (x11_1.length : Int) := of_decide_eq_true (by first | (with_reducible assumption) | assumption)
           obtain ⟨ad434, A434_0, c434_0, e434, hx434_0, hl434_0, hi434_0⟩ := at_L1 (Kd.S_reads' HO_11.out).2.2 x12_1 p434 q434
           cases e434
           obtain ⟨ce434, hce434, hMe434, hcc434⟩ := Kd.S_get HO_11.out [] x12_1 p434 (by first | exact q434 | exact of_decide_eq_true (by first | (with_reducible assumption) | assumption) | (have e_ := (Kd.S_reads' HO_11.out).1; omega))
           obtain ⟨ve434_0, rfl, ge434_0⟩ := hMe434
           have hv434_0 := hcc434 0 _ rfl
           rw [Nat.add_zero, show ((Kd.slice 3 (Kd.int .i64))).sz = 1 from rfl, Nat.mul_one] at hv434_0
           replace hv434_0 := Option.some.inj (hv434_0.symm.trans hx434_0)
           rw [hv434_0] at ge434_0
           have HL434_0 := Aside0.mk (show Kd.R (Kd.int .i64) 3 _ _ _ _ (rd_L1 x11_1 x12_1) from ge434_0)
           clear hv434_0 ge434_0
           have HX434_0 := Aside0.mk hx434_0
           clear hcc434 hce434
           have HR434_0 := Aside0.mk hi434_0
           have HC434_0 := Aside0.mk hl434_0
           clear hi434_0 hl434_0
           replace p434 := eq_true p434
           replace q434 := eq_true q434
           have p12 : 0 ≤ (x12_1 : Int) := of_decide_eq_true (by first | (with_reducible assumption) | assumption)
           have q12 : (x12_1 : Int) < (((rd_L1 x11_1 x12_1).length : Int) : Int) := of_decide_eq_true (by first | (with_reducible assumption) | assumption)
           obtain ⟨go12, co12, eo12, gb12, gl12, cl12, HG12⟩ := Kd.R_form HL434_0.out (by omega)
           (first | cases eo12 | (injection eo12 with ea_ en_ ec_; (first | subst ea_ | (injection ea_ with ea_; subst ea_)); subst ec_; clear en_))
           have GB12 := Aside0.mk gb12
           have GG12 := Aside0.mk HG12
           clear gb12 gl12 HG12
           obtain ⟨hx12_0, hf12_0⟩ := Kd.R_celln 0 HL434_0.out (x12_1 : Int) p12 q12
           replace p12 := eq_true p12
           replace q12 := eq_true q12
           have hq14 : (x12_1 : Int) < (x11_1.length : Int) := (by have h_ : (x12_1 : Int) < ((x11_1.length : Int) : Int) := of_decide_eq_true (by first | (with_reducible assumption) | assumption); first | exact h_ | (have e_ := (Kd.S_reads' HO_11.out).1; omega) | simpa only [List.length_set, List.length_set] using h_)
           obtain ⟨oki14, ce14, hcl14, hM14, hcc14, hok14, hbk14⟩ := Kd.S_borrow HO_11.out [] (x12_1 : Int) (of_decide_eq_true (by first | (with_reducible assumption) | assumption)) (by first | exact hq14 | (have e_ := (Kd.S_reads' HO_11.out).1; omega))
           obtain ⟨ve14_0, rfl, ge14_0⟩ := hM14
           have hv14 := hcc14 0 _ rfl
           rw [Nat.add_zero, show ((Kd.slice 3 (Kd.int .i64))).sz = 1 from rfl, Nat.mul_one] at hv14
           replace hv14 := Option.some.inj (hv14.symm.trans HX434_0.out)
           subst hv14
           clear hcc14 hcl14
           replace ge14_0 := (show Kd.R (Kd.int .i64) 3 _ _ _ _ (rd_L1 x11_1 x12_1) from ge14_0)
           have HP14 := Kd.R_putg ge14_0 (x12_1 : Int) a3
           go_wp2_with (first | ((with_reducible refine gate_store (t := 3) (p := 26) rfl ?_); refine store_event (t := 3) (p := 26) (v := ?vo_w15) (w1 := (wr.setCell ⟨go12, (x12_1 : Int).toNat, none⟩ (.int .i64 a3))) ?hg ?ho ?hn ?hr ?_; (case ho => rfl); (case hg => rfl); (case hn => rfl); (case hr => first | (go_simp; done) | (go_simp; rfl)); intro w15 hw; have hg : wr.grownBy w15 (some go12) := (by rw [hw]; exact HP14.2); have hz_ : Kd.R (Kd.int .i64) 3 w15 w.heap.size oki14 (.slice (some ⟨go12, 0, none⟩) (rd_L1 x11_1 x12_1).length c434_0) y435 := (by rw [hw, Ny435.out]; exact HP14.1); have hp_ : Kd.S (Kd.slice 3 (Kd.int .i64)) 24 w15 w.heap.size (fun _ => True) (.slice (some ad434) x11_1.length co13) y437 := (by rw [Ny437.out]; exact hbk14 hg (fun k_ e_ => by injection e_ with e_; subst e_; exact ge14_0.1 _ rfl) (Kd.M_row hz_)); have hm_ := Kd.R_mono hz_ hok14; clear HP14 hbk14; have n0_ := Aside0.mk (hp_); have n1_ := Aside0.mk ((by rw [hw]; exact below_set (HB.out) GB12.out : Below w.heap.size w w15)); have n2_ := Aside0.mk (hm_); have n3_ := Aside0.mk ((Kd.R_reads' hm_).2.1); clear HO_11; clear HB; clear HL434_0; have HO_11 := n0_; have HB := n1_; have HL454 := n2_; have HC436 := n3_; clear n0_ n1_ n2_ n3_; clear hg hw hp_ hz_ hm_ hok14))
           go_roundg k1
           case measure => have := HK1.out; omega
           case rel => exact ⟨(y437), (wrap64 (x12_1 + 1)), (by first | rfl | (simp; done) | (simp [*]; done)), H', ⟨by have := HK1.out; omega⟩, ⟨by (with_reducible repeat (first | apply Kd.S_alloc | apply Kd.S_drewN | apply Kd.S_drew)); exact HO_11.out⟩, ⟨by repeat (first | (with_reducible first | exact HB.out | apply below_alloc | apply pw_below_drewN | apply below_drew1) | exact HB.out)⟩⟩
         · rw [if_neg c11] at H
           exact absurd H (by simp)
       · rw [if_neg c10] at H
         exact absurd H (by simp)
     · rw [if_neg c9] at H
       exact absurd H (by simp)
   · rw [if_neg c8] at H
     have c8b0 : decide (x12_1 < a0) = false := decide_eq_false c8
     clear c8
     by_cases c16 : 0 ≤ a1
     · rw [if_pos c16] at H
       have c16b0 : decide (0 ≤ a1) = true := decide_eq_true c16
       clear c16
       by_cases c17 : a1 < (x11_1.length : Int)
       · rw [if_pos c17] at H
         have c17b0 : decide (a1 < (x11_1.length : Int)) = true := decide_eq_true c17
         clear c17
         by_cases c18 : a1 < ((rd_L1 x11_1 a1).length : Int)
         · rw [if_pos c18] at H
           have c18b0 : decide (a1 < ((rd_L1 x11_1 a1).length : Int)) = true := decide_eq_true c18
           clear c18
           obtain ⟨y439, hy439⟩ : ∃ y_ : List Int, y_ = ((rd_L1 x11_1 a1).set (a1 : Int).toNat (wrap64 (a3 - a4))) := ⟨_, rfl⟩
           replace H : ((some (x11_1.set (a1 : Int).toNat y439 : List (List Int))).bind fun y441 => (if 0 ≤ a2 then (if a2 < (x11_1.length : Int) then (if a2 < ((rd_L1 y441 a2).length : Int) then ((some (y441.set (a2 : Int).toNat ((rd_L1 y441 a2).set (a2 : Int).toNat (wrap64 (a3 - a4))) : List (List Int))).bind fun y445 => (if a2 < ((rd_L1 y445 a1).length : Int) then ((some (y445.set (a1 : Int).toNat ((rd_L1 y445 a1).set (a2 : Int).toNat a4) : List (List Int))).bind fun y449 => (if a1 < ((rd_L1 y449 a2).length : Int) then (some (y449.set (a2 : Int).toNat ((rd_L1 y449 a2).set (a1 : Int).toNat a4))) else (none))) else (none))) else (none)) else (none)) else (none))) = some r := by first | (rw [hy439]; with_reducible exact H) | (have H2_ := (Option.bind_some _ _).symm.trans H; rw [hy439]; with_reducible exact H2_) | (have H2_ := (Option.bind_some _ _).symm.trans H; with_reducible exact H2_) | with_reducible exact H | (rw [hy439]; exact H) | exact H
           have Ny439 := Aside0.mk hy439
           clear hy439
           obtain ⟨y441, hy441⟩ : ∃ y_ : List (List Int), y_ = (x11_1.set (a1 : Int).toNat y439) := ⟨_, rfl⟩
           replace H : (if 0 ≤ a2 then (if a2 < (x11_1.length : Int) then (if a2 < ((rd_L1 y441 a2).length : Int) then ((some (y441.set (a2 : Int).toNat ((rd_L1 y441 a2).set (a2 : Int).toNat (wrap64 (a3 - a4))) : List (List Int))).bind fun y445 => (if a2 < ((rd_L1 y445 a1).length : Int) then ((some (y445.set (a1 : Int).toNat ((rd_L1 y445 a1).set (a2 : Int).toNat a4) : List (List Int))).bind fun y449 => (if a1 < ((rd_L1 y449 a2).length : Int) then (some (y449.set (a2 : Int).toNat ((rd_L1 y449 a2).set (a1 : Int).toNat a4))) else (none))) else (none))) else (none)) else (none)) else (none)) = some r := by first | (rw [hy441]; with_reducible exact H) | (have H2_ := (Option.bind_some _ _).symm.trans H; rw [hy441]; with_reducible exact H2_) | (have H2_ := (Option.bind_some _ _).symm.trans H; with_reducible exact H2_) | with_reducible exact H | (rw [hy441]; exact H) | exact H
           have Ny441 := Aside0.mk hy441
           clear hy441
           by_cases c20 : 0 ≤ a2
           · rw [if_pos c20] at H
             have c20b0 : decide (0 ≤ a2) = true := decide_eq_true c20
             clear c20
             by_cases c21 : a2 < (x11_1.length : Int)
             · rw [if_pos c21] at H
               have c21b0 : decide (a2 < (x11_1.length : Int)) = true := decide_eq_true c21
               clear c21
               by_cases c22 : a2 < ((rd_L1 y441 a2).length : Int)
               · rw [if_pos c22] at H
                 have c22b0 : decide (a2 < ((rd_L1 y441 a2).length : Int)) = true := decide_eq_true c22
                 clear c22
                 obtain ⟨y443, hy443⟩ : ∃ y_ : List Int, y_ = ((rd_L1 y441 a2).set (a2 : Int).toNat (wrap64 (a3 - a4))) := ⟨_, rfl⟩
                 replace H : ((some (y441.set (a2 : Int).toNat y443 : List (List Int))).bind fun y445 => (if a2 < ((rd_L1 y445 a1).length : Int) then ((some (y445.set (a1 : Int).toNat ((rd_L1 y445 a1).set (a2 : Int).toNat a4) : List (List Int))).bind fun y449 => (if a1 < ((rd_L1 y449 a2).length : Int) then (some (y449.set (a2 : Int).toNat ((rd_L1 y449 a2).set (a1 : Int).toNat a4))) else (none))) else (none))) = some r := by first | (rw [hy443]; with_reducible exact H) | (have H2_ := (Option.bind_some _ _).symm.trans H; rw [hy443]; with_reducible exact H2_) | (have H2_ := (Option.bind_some _ _).symm.trans H; with_reducible exact H2_) | with_reducible exact H | (rw [hy443]; exact H) | exact H
                 have Ny443 := Aside0.mk hy443
                 clear hy443
                 obtain ⟨y445, hy445⟩ : ∃ y_ : List (List Int), y_ = (y441.set (a2 : Int).toNat y443) := ⟨_, rfl⟩
                 replace H : (if a2 < ((rd_L1 y445 a1).length : Int) then ((some (y445.set (a1 : Int).toNat ((rd_L1 y445 a1).set (a2 : Int).toNat a4) : List (List Int))).bind fun y449 => (if a1 < ((rd_L1 y449 a2).length : Int) then (some (y449.set (a2 : Int).toNat ((rd_L1 y449 a2).set (a1 : Int).toNat a4))) else (none))) else (none)) = some r := by first | (rw [hy445]; with_reducible exact H) | (have H2_ := (Option.bind_some _ _).symm.trans H; rw [hy445]; with_reducible exact H2_) | (have H2_ := (Option.bind_some _ _).symm.trans H; with_reducible exact H2_) | with_reducible exact H | (rw [hy445]; exact H) | exact H
                 have Ny445 := Aside0.mk hy445
                 clear hy445
                 by_cases c24 : a2 < ((rd_L1 y445 a1).length : Int)
                 · rw [if_pos c24] at H
                   have c24b0 : decide (a2 < ((rd_L1 y445 a1).length : Int)) = true := decide_eq_true c24
                   clear c24
                   obtain ⟨y447, hy447⟩ : ∃ y_ : List Int, y_ = ((rd_L1 y445 a1).set (a2 : Int).toNat a4) := ⟨_, rfl⟩
                   replace H : ((some (y445.set (a1 : Int).toNat y447 : List (List Int))).bind fun y449 => (if a1 < ((rd_L1 y449 a2).length : Int) then (some (y449.set (a2 : Int).toNat ((rd_L1 y449 a2).set (a1 : Int).toNat a4))) else (none))) = some r := by first | (rw [hy447]; with_reducible exact H) | (have H2_ := (Option.bind_some _ _).symm.trans H; rw [hy447]; with_reducible exact H2_) | (have H2_ := (Option.bind_some _ _).symm.trans H; with_reducible exact H2_) | with_reducible exact H | (rw [hy447]; exact H) | exact H
                   have Ny447 := Aside0.mk hy447
                   clear hy447
                   obtain ⟨y449, hy449⟩ : ∃ y_ : List (List Int), y_ = (y445.set (a1 : Int).toNat y447) := ⟨_, rfl⟩
                   replace H : (if a1 < ((rd_L1 y449 a2).length : Int) then (some (y449.set (a2 : Int).toNat ((rd_L1 y449 a2).set (a1 : Int).toNat a4))) else (none)) = some r := by first | (rw [hy449]; with_reducible exact H) | (have H2_ := (Option.bind_some _ _).symm.trans H; rw [hy449]; with_reducible exact H2_) | (have H2_ := (Option.bind_some _ _).symm.trans H; with_reducible exact H2_) | with_reducible exact H | (rw [hy449]; exact H) | exact H
                   have Ny449 := Aside0.mk hy449
                   clear hy449
                   by_cases c26 : a1 < ((rd_L1 y449 a2).length : Int)
                   · rw [if_pos c26] at H
                     have c26b0 : decide (a1 < ((rd_L1 y449 a2).length : Int)) = true := decide_eq_true c26
                     clear c26
                     obtain ⟨y451, hy451⟩ : ∃ y_ : List Int, y_ = ((rd_L1 y449 a2).set (a1 : Int).toNat a4) := ⟨_, rfl⟩
                     replace H : (some (y449.set (a2 : Int).toNat y451)) = some r := by first | (rw [hy451]; with_reducible exact H) | (have H2_ := (Option.bind_some _ _).symm.trans H; rw [hy451]; with_reducible exact H2_) | (have H2_ := (Option.bind_some _ _).symm.trans H; with_reducible exact H2_) | with_reducible exact H | (rw [hy451]; exact H) | exact H
                     have Ny451 := Aside0.mk hy451
                     clear hy451
                     obtain ⟨y453, hy453⟩ : ∃ y_ : List (List Int), y_ = (y449.set (a2 : Int).toNat y451) := ⟨_, rfl⟩
                     replace H : (some y453) = some r := by first | (rw [hy453]; with_reducible exact H) | (have H2_ := (Option.bind_some _ _).symm.trans H; rw [hy453]; with_reducible exact H2_) | (have H2_ := (Option.bind_some _ _).symm.trans H; with_reducible exact H2_) | with_reducible exact H | (rw [hy453]; exact H) | exact H
                     have Ny453 := Aside0.mk hy453
                     clear hy453
                     obtain rfl := Option.some.inj H
                     obtain ⟨Ao28, co28, eo28⟩ := Kd.S_slice HO_11.out
                     subst eo28
                     have p438 : 0 ≤ (a1 : Int) := of_decide_eq_true (by first | (with_reducible assumption) | assumption)
                     have q438 : a1 < (x11_1.length : Int) := of_decide_eq_true (by first | (with_reducible assumption) | assumption)
                     obtain ⟨ad438, A438_0, c438_0, e438, hx438_0, hl438_0, hi438_0⟩ := at_L1 (Kd.S_reads' HO_11.out).2.2 a1 p438 q438
                     cases e438
                     obtain ⟨ce438, hce438, hMe438, hcc438⟩ := Kd.S_get HO_11.out [] a1 p438 (by first | exact q438 | exact of_decide_eq_true (by first | (with_reducible assumption) | assumption) | (have e_ := (Kd.S_reads' HO_11.out).1; omega))
                     obtain ⟨ve438_0, rfl, ge438_0⟩ := hMe438
                     have hv438_0 := hcc438 0 _ rfl
                     rw [Nat.add_zero, show ((Kd.slice 3 (Kd.int .i64))).sz = 1 from rfl, Nat.mul_one] at hv438_0
                     replace hv438_0 := Option.some.inj (hv438_0.symm.trans hx438_0)
                     rw [hv438_0] at ge438_0
                     have HL438_0 := Aside0.mk (show Kd.R (Kd.int .i64) 3 _ _ _ _ (rd_L1 x11_1 a1) from ge438_0)
                     clear hv438_0 ge438_0
                     have HX438_0 := Aside0.mk hx438_0
                     clear hcc438 hce438
                     have HR438_0 := Aside0.mk hi438_0
                     have HC438_0 := Aside0.mk hl438_0
                     clear hi438_0 hl438_0
                     replace p438 := eq_true p438
                     replace q438 := eq_true q438
                     have p19 : 0 ≤ (a1 : Int) := of_decide_eq_true (by first | (with_reducible assumption) | assumption)
                     have q19 : (a1 : Int) < (((rd_L1 x11_1 a1).length : Int) : Int) := of_decide_eq_true (by first | (with_reducible assumption) | assumption)
                     obtain ⟨go19, co19, eo19, gb19, gl19, cl19, HG19⟩ := Kd.R_form HL438_0.out (by omega)
                     (first | cases eo19 | (injection eo19 with ea_ en_ ec_; (first | subst ea_ | (injection ea_ with ea_; subst ea_)); subst ec_; clear en_))
                     have GB19 := Aside0.mk gb19
                     have GG19 := Aside0.mk HG19
                     clear gb19 gl19 HG19
                     obtain ⟨hx19_0, hf19_0⟩ := Kd.R_celln 0 HL438_0.out (a1 : Int) p19 q19
                     replace p19 := eq_true p19
                     replace q19 := eq_true q19
                     have hq29 : (a1 : Int) < (x11_1.length : Int) := (by have h_ : (a1 : Int) < ((x11_1.length : Int) : Int) := of_decide_eq_true (by first | (with_reducible assumption) | assumption); first | exact h_ | (have e_ := (Kd.S_reads' HO_11.out).1; omega) | simpa only [List.length_set, List.length_set] using h_)
                     obtain ⟨oki29, ce29, hcl29, hM29, hcc29, hok29, hbk29⟩ := Kd.S_borrow HO_11.out [] (a1 : Int) (of_decide_eq_true (by first | (with_reducible assumption) | assumption)) (by first | exact hq29 | (have e_ := (Kd.S_reads' HO_11.out).1; omega))
                     obtain ⟨ve29_0, rfl, ge29_0⟩ := hM29
                     have hv29 := hcc29 0 _ rfl
                     rw [Nat.add_zero, show ((Kd.slice 3 (Kd.int .i64))).sz = 1 from rfl, Nat.mul_one] at hv29
                     replace hv29 := Option.some.inj (hv29.symm.trans HX438_0.out)
                     subst hv29
                     clear hcc29 hcl29
                     replace ge29_0 := (show Kd.R (Kd.int .i64) 3 _ _ _ _ (rd_L1 x11_1 a1) from ge29_0)
                     have HP29 := Kd.R_putg ge29_0 (a1 : Int) (wrap64 (a3 - a4))
                     go_wp2_with (first | ((with_reducible refine gate_store (t := 3) (p := 35) rfl ?_); refine store_event (t := 3) (p := 35) (v := ?vo_w30) (w1 := (wr.setCell ⟨go19, (a1 : Int).toNat, none⟩ (.int .i64 (wrap64 (a3 - a4))))) ?hg ?ho ?hn ?hr ?_; (case ho => rfl); (case hg => rfl); (case hn => rfl); (case hr => first | (go_simp; done) | (go_simp; rfl)); intro w30 hw; have hg : wr.grownBy w30 (some go19) := (by rw [hw]; exact HP29.2); have hz_ : Kd.R (Kd.int .i64) 3 w30 w.heap.size oki29 (.slice (some ⟨go19, 0, none⟩) (rd_L1 x11_1 a1).length c438_0) y439 := (by rw [hw, Ny439.out]; exact HP29.1); have hp_ : Kd.S (Kd.slice 3 (Kd.int .i64)) 24 w30 w.heap.size (fun _ => True) (.slice (some ad438) x11_1.length co28) y441 := (by rw [Ny441.out]; exact hbk29 hg (fun k_ e_ => by injection e_ with e_; subst e_; exact ge29_0.1 _ rfl) (Kd.M_row hz_)); have hm_ := Kd.R_mono hz_ hok29; clear HP29 hbk29; have n0_ := Aside0.mk (hp_); have n1_ := Aside0.mk ((by rw [hw]; exact below_set (HB.out) GB19.out : Below w.heap.size w w30)); have n2_ := Aside0.mk (hm_); have n3_ := Aside0.mk ((Kd.R_reads' hm_).2.1); clear HO_11; clear HB; clear HL438_0; have HO_11 := n0_; have HB := n1_; have HL455 := n2_; have HC440 := n3_; clear n0_ n1_ n2_ n3_; clear hg hw hp_ hz_ hm_ hok29; have p442 : 0 ≤ (a2 : Int) := of_decide_eq_true (by first | (with_reducible assumption) | assumption); have q442 : a2 < (y441.length : Int) := (by have h_ : (a2 : Int) < ((x11_1.length : Int) : Int) := of_decide_eq_true (by first | (with_reducible assumption) | assumption); first | (have e_ := (Kd.S_reads' HO_11.out).1; omega) | simpa only [Ny441.out, List.length_set] using h_); have ql442 : ((a2 : Int) < ((x11_1.length : Int) : Int)) = True := eq_true (of_decide_eq_true (by first | (with_reducible assumption) | assumption)); obtain ⟨ad442, A442_0, c442_0, e442, hx442_0, hl442_0, hi442_0⟩ := at_L1 (Kd.S_reads' HO_11.out).2.2 a2 p442 q442; obtain rfl : ad438 = ad442 := (by injection e442); obtain ⟨ce442, hce442, hMe442, hcc442⟩ := Kd.S_get HO_11.out [] a2 p442 (by first | exact q442 | exact of_decide_eq_true (by first | (with_reducible assumption) | assumption) | (have e_ := (Kd.S_reads' HO_11.out).1; omega)); obtain ⟨ve442_0, rfl, ge442_0⟩ := hMe442; have hv442_0 := hcc442 0 _ rfl; rw [Nat.add_zero, show ((Kd.slice 3 (Kd.int .i64))).sz = 1 from rfl, Nat.mul_one] at hv442_0; replace hv442_0 := Option.some.inj (hv442_0.symm.trans hx442_0); rw [hv442_0] at ge442_0; have HL442_0 := Aside0.mk (show Kd.R (Kd.int .i64) 3 _ _ _ _ (rd_L1 y441 a2) from ge442_0); clear hv442_0 ge442_0; have HX442_0 := Aside0.mk hx442_0; clear hcc442 hce442; have HR442_0 := Aside0.mk hi442_0; have HC442_0 := Aside0.mk hl442_0; clear hi442_0 hl442_0; replace p442 := eq_true p442; replace q442 := eq_true q442; have p23 : 0 ≤ (a2 : Int) := of_decide_eq_true (by first | (with_reducible assumption) | assumption); have q23 : (a2 : Int) < (((rd_L1 y441 a2).length : Int) : Int) := of_decide_eq_true (by first | (with_reducible assumption) | assumption); obtain ⟨go23, co23, eo23, gb23, gl23, cl23, HG23⟩ := Kd.R_form HL442_0.out (by omega); (first | cases eo23 | (injection eo23 with ea_ en_ ec_; (first | subst ea_ | (injection ea_ with ea_; subst ea_)); subst ec_; clear en_)); have GB23 := Aside0.mk gb23; have GG23 := Aside0.mk HG23; clear gb23 gl23 HG23; obtain ⟨hx23_0, hf23_0⟩ := Kd.R_celln 0 HL442_0.out (a2 : Int) p23 q23; replace p23 := eq_true p23; replace q23 := eq_true q23; have hq31 : (a2 : Int) < (y441.length : Int) := (by have h_ : (a2 : Int) < ((x11_1.length : Int) : Int) := of_decide_eq_true (by first | (with_reducible assumption) | assumption); first | exact h_ | (have e_ := (Kd.S_reads' HO_11.out).1; omega) | simpa only [Ny441.out, List.length_set] using h_); obtain ⟨oki31, ce31, hcl31, hM31, hcc31, hok31, hbk31⟩ := Kd.S_borrow HO_11.out [] (a2 : Int) (of_decide_eq_true (by first | (with_reducible assumption) | assumption)) (by first | exact hq31 | (have e_ := (Kd.S_reads' HO_11.out).1; omega)); obtain ⟨ve31_0, rfl, ge31_0⟩ := hM31; have hv31 := hcc31 0 _ rfl; rw [Nat.add_zero, show ((Kd.slice 3 (Kd.int .i64))).sz = 1 from rfl, Nat.mul_one] at hv31; replace hv31 := Option.some.inj (hv31.symm.trans HX442_0.out); subst hv31; clear hcc31 hcl31; replace ge31_0 := (show Kd.R (Kd.int .i64) 3 _ _ _ _ (rd_L1 y441 a2) from ge31_0); have HP31 := Kd.R_putg ge31_0 (a2 : Int) (wrap64 (a3 - a4))) | ((with_reducible refine gate_store (t := 3) (p := 44) rfl ?_); refine store_event (t := 3) (p := 44) (v := ?vo_w32) (w1 := (w30.setCell ⟨go23, (a2 : Int).toNat, none⟩ (.int .i64 (wrap64 (a3 - a4))))) ?hg ?ho ?hn ?hr ?_; (case ho => rfl); (case hg => rfl); (case hn => rfl); (case hr => first | (go_simp; done) | (go_simp; rfl)); intro w32 hw; have hg : w30.grownBy w32 (some go23) := (by rw [hw]; exact HP31.2); have hz_ : Kd.R (Kd.int .i64) 3 w32 w.heap.size oki31 (.slice (some ⟨go23, 0, none⟩) (rd_L1 y441 a2).length c442_0) y443 := (by rw [hw, Ny443.out]; exact HP31.1); have hp_ : Kd.S (Kd.slice 3 (Kd.int .i64)) 24 w32 w.heap.size (fun _ => True) (.slice (some ad438) x11_1.length co28) y445 := (by rw [Ny445.out]; exact hbk31 hg (fun k_ e_ => by injection e_ with e_; subst e_; exact ge31_0.1 _ rfl) (Kd.M_row hz_)); have hm_ := Kd.R_mono hz_ hok31; clear HP31 hbk31; have n0_ := Aside0.mk (hp_); have n1_ := Aside0.mk ((by rw [hw]; exact below_set (HB.out) GB23.out : Below w.heap.size w w32)); have n2_ := Aside0.mk (hm_); have n3_ := Aside0.mk ((Kd.R_reads' hm_).2.1); clear HO_11; clear HB; clear HL455; clear HL442_0; have HO_11 := n0_; have HB := n1_; have HL456 := n2_; have HC444 := n3_; clear n0_ n1_ n2_ n3_; clear hg hw hp_ hz_ hm_ hok31; have p446 : 0 ≤ (a1 : Int) := of_decide_eq_true (by first | (with_reducible assumption) | assumption); have q446 : a1 < (y445.length : Int) := (by have h_ : (a1 : Int) < ((x11_1.length : Int) : Int) := of_decide_eq_true (by first | (with_reducible assumption) | assumption); first | (have e_ := (Kd.S_reads' HO_11.out).1; omega) | simpa only [Ny441.out, Ny445.out, List.length_set] using h_); have ql446 : ((a1 : Int) < ((x11_1.length : Int) : Int)) = True := eq_true (of_decide_eq_true (by first | (with_reducible assumption) | assumption)); obtain ⟨ad446, A446_0, c446_0, e446, hx446_0, hl446_0, hi446_0⟩ := at_L1 (Kd.S_reads' HO_11.out).2.2 a1 p446 q446; obtain rfl : ad438 = ad446 := (by injection e446); obtain ⟨ce446, hce446, hMe446, hcc446⟩ := Kd.S_get HO_11.out [] a1 p446 (by first | exact q446 | exact of_decide_eq_true (by first | (with_reducible assumption) | assumption) | (have e_ := (Kd.S_reads' HO_11.out).1; omega)); obtain ⟨ve446_0, rfl, ge446_0⟩ := hMe446; have hv446_0 := hcc446 0 _ rfl; rw [Nat.add_zero, show ((Kd.slice 3 (Kd.int .i64))).sz = 1 from rfl, Nat.mul_one] at hv446_0; replace hv446_0 := Option.some.inj (hv446_0.symm.trans hx446_0); rw [hv446_0] at ge446_0; have HL446_0 := Aside0.mk (show Kd.R (Kd.int .i64) 3 _ _ _ _ (rd_L1 y445 a1) from ge446_0); clear hv446_0 ge446_0; have HX446_0 := Aside0.mk hx446_0; clear hcc446 hce446; have HR446_0 := Aside0.mk hi446_0; have HC446_0 := Aside0.mk hl446_0; clear hi446_0 hl446_0; replace p446 := eq_true p446; replace q446 := eq_true q446; have p25 : 0 ≤ (a2 : Int) := of_decide_eq_true (by first | (with_reducible assumption) | assumption); have q25 : (a2 : Int) < (((rd_L1 y445 a1).length : Int) : Int) := of_decide_eq_true (by first | (with_reducible assumption) | assumption); obtain ⟨go25, co25, eo25, gb25, gl25, cl25, HG25⟩ := Kd.R_form HL446_0.out (by omega); (first | cases eo25 | (injection eo25 with ea_ en_ ec_; (first | subst ea_ | (injection ea_ with ea_; subst ea_)); subst ec_; clear en_)); have GB25 := Aside0.mk gb25; have GG25 := Aside0.mk HG25; clear gb25 gl25 HG25; obtain ⟨hx25_0, hf25_0⟩ := Kd.R_celln 0 HL446_0.out (a2 : Int) p25 q25; replace p25 := eq_true p25; replace q25 := eq_true q25; have hq33 : (a1 : Int) < (y445.length : Int) := (by have h_ : (a1 : Int) < ((x11_1.length : Int) : Int) := of_decide_eq_true (by first | (with_reducible assumption) | assumption); first | exact h_ | (have e_ := (Kd.S_reads' HO_11.out).1; omega) | simpa only [Ny441.out, Ny445.out, List.length_set] using h_); obtain ⟨oki33, ce33, hcl33, hM33, hcc33, hok33, hbk33⟩ := Kd.S_borrow HO_11.out [] (a1 : Int) (of_decide_eq_true (by first | (with_reducible assumption) | assumption)) (by first | exact hq33 | (have e_ := (Kd.S_reads' HO_11.out).1; omega)); obtain ⟨ve33_0, rfl, ge33_0⟩ := hM33; have hv33 := hcc33 0 _ rfl; rw [Nat.add_zero, show ((Kd.slice 3 (Kd.int .i64))).sz = 1 from rfl, Nat.mul_one] at hv33; replace hv33 := Option.some.inj (hv33.symm.trans HX446_0.out); subst hv33; clear hcc33 hcl33; replace ge33_0 := (show Kd.R (Kd.int .i64) 3 _ _ _ _ (rd_L1 y445 a1) from ge33_0); have HP33 := Kd.R_putg ge33_0 (a2 : Int) a4) | ((with_reducible refine gate_store (t := 3) (p := 51) rfl ?_); refine store_event (t := 3) (p := 51) (v := ?vo_w34) (w1 := (w32.setCell ⟨go25, (a2 : Int).toNat, none⟩ (.int .i64 a4))) ?hg ?ho ?hn ?hr ?_; (case ho => rfl); (case hg => rfl); (case hn => rfl); (case hr => first | (go_simp; done) | (go_simp; rfl)); intro w34 hw; have hg : w32.grownBy w34 (some go25) := (by rw [hw]; exact HP33.2); have hz_ : Kd.R (Kd.int .i64) 3 w34 w.heap.size oki33 (.slice (some ⟨go25, 0, none⟩) (rd_L1 y445 a1).length c446_0) y447 := (by rw [hw, Ny447.out]; exact HP33.1); have hp_ : Kd.S (Kd.slice 3 (Kd.int .i64)) 24 w34 w.heap.size (fun _ => True) (.slice (some ad438) x11_1.length co28) y449 := (by rw [Ny449.out]; exact hbk33 hg (fun k_ e_ => by injection e_ with e_; subst e_; exact ge33_0.1 _ rfl) (Kd.M_row hz_)); have hm_ := Kd.R_mono hz_ hok33; clear HP33 hbk33; have n0_ := Aside0.mk (hp_); have n1_ := Aside0.mk ((by rw [hw]; exact below_set (HB.out) GB25.out : Below w.heap.size w w34)); have n2_ := Aside0.mk (hm_); have n3_ := Aside0.mk ((Kd.R_reads' hm_).2.1); clear HO_11; clear HB; clear HL456; clear HL446_0; have HO_11 := n0_; have HB := n1_; have HL457 := n2_; have HC448 := n3_; clear n0_ n1_ n2_ n3_; clear hg hw hp_ hz_ hm_ hok33; have p450 : 0 ≤ (a2 : Int) := of_decide_eq_true (by first | (with_reducible assumption) | assumption); have q450 : a2 < (y449.length : Int) := (by have h_ : (a2 : Int) < ((x11_1.length : Int) : Int) := of_decide_eq_true (by first | (with_reducible assumption) | assumption); first | (have e_ := (Kd.S_reads' HO_11.out).1; omega) | simpa only [Ny441.out, Ny445.out, Ny449.out, List.length_set] using h_); have ql450 : ((a2 : Int) < ((x11_1.length : Int) : Int)) = True := eq_true (of_decide_eq_true (by first | (with_reducible assumption) | assumption)); obtain ⟨ad450, A450_0, c450_0, e450, hx450_0, hl450_0, hi450_0⟩ := at_L1 (Kd.S_reads' HO_11.out).2.2 a2 p450 q450; obtain rfl : ad438 = ad450 := (by injection e450); obtain ⟨ce450, hce450, hMe450, hcc450⟩ := Kd.S_get HO_11.out [] a2 p450 (by first | exact q450 | exact of_decide_eq_true (by first | (with_reducible assumption) | assumption) | (have e_ := (Kd.S_reads' HO_11.out).1; omega)); obtain ⟨ve450_0, rfl, ge450_0⟩ := hMe450; have hv450_0 := hcc450 0 _ rfl; rw [Nat.add_zero, show ((Kd.slice 3 (Kd.int .i64))).sz = 1 from rfl, Nat.mul_one] at hv450_0; replace hv450_0 := Option.some.inj (hv450_0.symm.trans hx450_0); rw [hv450_0] at ge450_0; have HL450_0 := Aside0.mk (show Kd.R (Kd.int .i64) 3 _ _ _ _ (rd_L1 y449 a2) from ge450_0); clear hv450_0 ge450_0; have HX450_0 := Aside0.mk hx450_0; clear hcc450 hce450; have HR450_0 := Aside0.mk hi450_0; have HC450_0 := Aside0.mk hl450_0; clear hi450_0 hl450_0; replace p450 := eq_true p450; replace q450 := eq_true q450; have p27 : 0 ≤ (a1 : Int) := of_decide_eq_true (by first | (with_reducible assumption) | assumption); have q27 : (a1 : Int) < (((rd_L1 y449 a2).length : Int) : Int) := of_decide_eq_true (by first | (with_reducible assumption) | assumption); obtain ⟨go27, co27, eo27, gb27, gl27, cl27, HG27⟩ := Kd.R_form HL450_0.out (by omega); (first | cases eo27 | (injection eo27 with ea_ en_ ec_; (first | subst ea_ | (injection ea_ with ea_; subst ea_)); subst ec_; clear en_)); have GB27 := Aside0.mk gb27; have GG27 := Aside0.mk HG27; clear gb27 gl27 HG27; obtain ⟨hx27_0, hf27_0⟩ := Kd.R_celln 0 HL450_0.out (a1 : Int) p27 q27; replace p27 := eq_true p27; replace q27 := eq_true q27; have hq35 : (a2 : Int) < (y449.length : Int) := (by have h_ : (a2 : Int) < ((x11_1.length : Int) : Int) := of_decide_eq_true (by first | (with_reducible assumption) | assumption); first | exact h_ | (have e_ := (Kd.S_reads' HO_11.out).1; omega) | simpa only [Ny441.out, Ny445.out, Ny449.out, List.length_set] using h_); obtain ⟨oki35, ce35, hcl35, hM35, hcc35, hok35, hbk35⟩ := Kd.S_borrow HO_11.out [] (a2 : Int) (of_decide_eq_true (by first | (with_reducible assumption) | assumption)) (by first | exact hq35 | (have e_ := (Kd.S_reads' HO_11.out).1; omega)); obtain ⟨ve35_0, rfl, ge35_0⟩ := hM35; have hv35 := hcc35 0 _ rfl; rw [Nat.add_zero, show ((Kd.slice 3 (Kd.int .i64))).sz = 1 from rfl, Nat.mul_one] at hv35; replace hv35 := Option.some.inj (hv35.symm.trans HX450_0.out); subst hv35; clear hcc35 hcl35; replace ge35_0 := (show Kd.R (Kd.int .i64) 3 _ _ _ _ (rd_L1 y449 a2) from ge35_0); have HP35 := Kd.R_putg ge35_0 (a1 : Int) a4) | ((with_reducible refine gate_store (t := 3) (p := 58) rfl ?_); refine store_event (t := 3) (p := 58) (v := ?vo_w36) (w1 := (w34.setCell ⟨go27, (a1 : Int).toNat, none⟩ (.int .i64 a4))) ?hg ?ho ?hn ?hr ?_; (case ho => rfl); (case hg => rfl); (case hn => rfl); (case hr => first | (go_simp; done) | (go_simp; rfl)); intro w36 hw; have hg : w34.grownBy w36 (some go27) := (by rw [hw]; exact HP35.2); have hz_ : Kd.R (Kd.int .i64) 3 w36 w.heap.size oki35 (.slice (some ⟨go27, 0, none⟩) (rd_L1 y449 a2).length c450_0) y451 := (by rw [hw, Ny451.out]; exact HP35.1); have hp_ : Kd.S (Kd.slice 3 (Kd.int .i64)) 24 w36 w.heap.size (fun _ => True) (.slice (some ad438) x11_1.length co28) y453 := (by rw [Ny453.out]; exact hbk35 hg (fun k_ e_ => by injection e_ with e_; subst e_; exact ge35_0.1 _ rfl) (Kd.M_row hz_)); have hm_ := Kd.R_mono hz_ hok35; clear HP35 hbk35; have n0_ := Aside0.mk (hp_); have n1_ := Aside0.mk ((by rw [hw]; exact below_set (HB.out) GB27.out : Below w.heap.size w w36)); have n2_ := Aside0.mk (hm_); have n3_ := Aside0.mk ((Kd.R_reads' hm_).2.1); clear HO_11; clear HB; clear HL457; clear HL450_0; have HO_11 := n0_; have HB := n1_; have HL458 := n2_; have HC452 := n3_; clear n0_ n1_ n2_ n3_; clear hg hw hp_ hz_ hm_ hok35))
                     go_ret
                     exact ⟨_, by first | rfl | (simp [errW_none, errW_some] <;> rfl) | (simp [*, errW_none, errW_some] <;> rfl), by (with_reducible repeat (first | apply Kd.S_alloc | apply Kd.S_drewN | apply Kd.S_drew)); exact HO_11.out, by repeat (first | (with_reducible first | exact HB.out | apply below_alloc | apply pw_below_drewN | apply below_drew1) | exact HB.out)⟩
                   · rw [if_neg c26] at H
                     exact absurd H (by simp)
                 · rw [if_neg c24] at H
                   exact absurd H (by simp)
               · rw [if_neg c22] at H
                 exact absurd H (by simp)
             · rw [if_neg c21] at H
               exact absurd H (by simp)
           · rw [if_neg c20] at H
             exact absurd H (by simp)
         · rw [if_neg c18] at H
           exact absurd H (by simp)
       · rw [if_neg c17] at H
         exact absurd H (by simp)
     · rw [if_neg c16] at H
       exact absurd H (by simp)

end Go.Proofs.Ytkhpojcplejdjaa.A

-- made by a program of this repo (wip/pp.py) through the kit's printer
namespace Go.Proofs.Ytkhpojcplejdjaa.A
open Go.RowKit Go.Proofs.YtkhpojcplejdjaaW.PrintWords Go.Proofs.YtkhpojcplejdjaaW.PrintLast Go.Proofs.YtkhpojcplejdjaaW.PrintMore
attribute [local go_sem] max2_int min2_int max_two min_two max_three min_three max_four min_four
set_option linter.unusedVariables false
set_option linter.unusedSimpArgs false

/-! ### spec_GiftTable: function 30 -/
def spec_GiftTable.f (k : Nat) (a0 : Int) (a1 : Int) (a2 : Int) (a3 : Int) (a4 : Int) : Option ((List (List Int)) × Bool) := (spec_l1In.f a0 1 6).bind fun t459 => (if t459 = true then ((spec_l1In.f a2 1 (wrap64 (a0 - 1))).bind fun t460 => (if t460 = true then ((spec_l1In.f a1 0 (wrap64 (a2 - 1))).bind fun t461 => (if t461 = true then ((spec_l1In.f a3 1 1000).bind fun t462 => (if t462 = true then ((spec_l1In.f a4 0 a3).bind fun t463 => (if t463 = true then ((spec_doGift.f k a0 a1 a2 a3 a4).bind fun t464 => (some (t464, true))) else (some (([] : List (List Int)), false)))) else (some (([] : List (List Int)), false)))) else (some (([] : List (List Int)), false)))) else (some (([] : List (List Int)), false)))) else (some (([] : List (List Int)), false)))
set_option maxHeartbeats 8000000 in
set_option maxRecDepth 100000 in
theorem spec_GiftTable.calls (k : Nat) (a0 : Int) (a1 : Int) (a2 : Int) (a3 : Int) (a4 : Int) (r1 : List (List Int)) (r2 : Bool) (w : World) (h : spec_GiftTable.f k a0 a1 a2 a3 a4 = some (r1, r2)) :
 Calls Try.prog 30 #[.int .i64 a0, .int .i64 a1, .int .i64 a2, .int .i64 a3, .int .i64 a4] w fun e w' => ∃ v0_ : Value, e = .returned (.tuple #[v0_, .bool r2]) ∧ Kd.S (Kd.slice 3 (Kd.int .i64)) 24 w' w.heap.size (fun _ => True) v0_ r1 ∧ Below w.heap.size w w' := by
 have HB := Aside0.mk (Below.refl w.heap.size w)
 have H : ((spec_l1In.f a0 1 6).bind fun t459 => (if t459 = true then ((spec_l1In.f a2 1 (wrap64 (a0 - 1))).bind fun t460 => (if t460 = true then ((spec_l1In.f a1 0 (wrap64 (a2 - 1))).bind fun t461 => (if t461 = true then ((spec_l1In.f a3 1 1000).bind fun t462 => (if t462 = true then ((spec_l1In.f a4 0 a3).bind fun t463 => (if t463 = true then ((spec_doGift.f k a0 a1 a2 a3 a4).bind fun t464 => (some (t464, true))) else (some (([] : List (List Int)), false)))) else (some (([] : List (List Int)), false)))) else (some (([] : List (List Int)), false)))) else (some (([] : List (List Int)), false)))) else (some (([] : List (List Int)), false)))) = some (r1, r2) := h
 clear h
 replace H := Option.bind_eq_some_iff.mp H
 obtain ⟨t459, A60, H⟩ := H
 replace H : (if t459 = true then ((spec_l1In.f a2 1 (wrap64 (a0 - 1))).bind fun t460 => (if t460 = true then ((spec_l1In.f a1 0 (wrap64 (a2 - 1))).bind fun t461 => (if t461 = true then ((spec_l1In.f a3 1 1000).bind fun t462 => (if t462 = true then ((spec_l1In.f a4 0 a3).bind fun t463 => (if t463 = true then ((spec_doGift.f k a0 a1 a2 a3 a4).bind fun t464 => (some (t464, true))) else (some (([] : List (List Int)), false)))) else (some (([] : List (List Int)), false)))) else (some (([] : List (List Int)), false)))) else (some (([] : List (List Int)), false)))) else (some (([] : List (List Int)), false))) = some (r1, r2) := H
 have A6 := Aside0.mk A60
 clear A60
 by_cases c7 : t459 = true
 · subst c7
   have H1 : ((spec_l1In.f a2 1 (wrap64 (a0 - 1))).bind fun t460 => (if t460 = true then ((spec_l1In.f a1 0 (wrap64 (a2 - 1))).bind fun t461 => (if t461 = true then ((spec_l1In.f a3 1 1000).bind fun t462 => (if t462 = true then ((spec_l1In.f a4 0 a3).bind fun t463 => (if t463 = true then ((spec_doGift.f k a0 a1 a2 a3 a4).bind fun t464 => (some (t464, true))) else (some (([] : List (List Int)), false)))) else (some (([] : List (List Int)), false)))) else (some (([] : List (List Int)), false)))) else (some (([] : List (List Int)), false)))) = some (r1, r2) := by rw [if_pos rfl] at H; exact H
   clear H
   have H := H1
   clear H1
   replace H := Option.bind_eq_some_iff.mp H
   obtain ⟨t460, A80, H⟩ := H
   replace H : (if t460 = true then ((spec_l1In.f a1 0 (wrap64 (a2 - 1))).bind fun t461 => (if t461 = true then ((spec_l1In.f a3 1 1000).bind fun t462 => (if t462 = true then ((spec_l1In.f a4 0 a3).bind fun t463 => (if t463 = true then ((spec_doGift.f k a0 a1 a2 a3 a4).bind fun t464 => (some (t464, true))) else (some (([] : List (List Int)), false)))) else (some (([] : List (List Int)), false)))) else (some (([] : List (List Int)), false)))) else (some (([] : List (List Int)), false))) = some (r1, r2) := H
   have A8 := Aside0.mk A80
   clear A80
   by_cases c9 : t460 = true
   · subst c9
     have H1 : ((spec_l1In.f a1 0 (wrap64 (a2 - 1))).bind fun t461 => (if t461 = true then ((spec_l1In.f a3 1 1000).bind fun t462 => (if t462 = true then ((spec_l1In.f a4 0 a3).bind fun t463 => (if t463 = true then ((spec_doGift.f k a0 a1 a2 a3 a4).bind fun t464 => (some (t464, true))) else (some (([] : List (List Int)), false)))) else (some (([] : List (List Int)), false)))) else (some (([] : List (List Int)), false)))) = some (r1, r2) := by rw [if_pos rfl] at H; exact H
     clear H
     have H := H1
     clear H1
     replace H := Option.bind_eq_some_iff.mp H
     obtain ⟨t461, A100, H⟩ := H
     replace H : (if t461 = true then ((spec_l1In.f a3 1 1000).bind fun t462 => (if t462 = true then ((spec_l1In.f a4 0 a3).bind fun t463 => (if t463 = true then ((spec_doGift.f k a0 a1 a2 a3 a4).bind fun t464 => (some (t464, true))) else (some (([] : List (List Int)), false)))) else (some (([] : List (List Int)), false)))) else (some (([] : List (List Int)), false))) = some (r1, r2) := H
     have A10 := Aside0.mk A100
     clear A100
     by_cases c11 : t461 = true
     · subst c11
       have H1 : ((spec_l1In.f a3 1 1000).bind fun t462 => (if t462 = true then ((spec_l1In.f a4 0 a3).bind fun t463 => (if t463 = true then ((spec_doGift.f k a0 a1 a2 a3 a4).bind fun t464 => (some (t464, true))) else (some (([] : List (List Int)), false)))) else (some (([] : List (List Int)), false)))) = some (r1, r2) := by rw [if_pos rfl] at H; exact H
       clear H
       have H := H1
       clear H1
       replace H := Option.bind_eq_some_iff.mp H
       obtain ⟨t462, A120, H⟩ := H
       replace H : (if t462 = true then ((spec_l1In.f a4 0 a3).bind fun t463 => (if t463 = true then ((spec_doGift.f k a0 a1 a2 a3 a4).bind fun t464 => (some (t464, true))) else (some (([] : List (List Int)), false)))) else (some (([] : List (List Int)), false))) = some (r1, r2) := H
       have A12 := Aside0.mk A120
       clear A120
       by_cases c13 : t462 = true
       · subst c13
         have H1 : ((spec_l1In.f a4 0 a3).bind fun t463 => (if t463 = true then ((spec_doGift.f k a0 a1 a2 a3 a4).bind fun t464 => (some (t464, true))) else (some (([] : List (List Int)), false)))) = some (r1, r2) := by rw [if_pos rfl] at H; exact H
         clear H
         have H := H1
         clear H1
         replace H := Option.bind_eq_some_iff.mp H
         obtain ⟨t463, A140, H⟩ := H
         replace H : (if t463 = true then ((spec_doGift.f k a0 a1 a2 a3 a4).bind fun t464 => (some (t464, true))) else (some (([] : List (List Int)), false))) = some (r1, r2) := H
         have A14 := Aside0.mk A140
         clear A140
         by_cases c15 : t463 = true
         · subst c15
           have H1 : ((spec_doGift.f k a0 a1 a2 a3 a4).bind fun t464 => (some (t464, true))) = some (r1, r2) := by rw [if_pos rfl] at H; exact H
           clear H
           have H := H1
           clear H1
           replace H := Option.bind_eq_some_iff.mp H
           obtain ⟨t464, A160, H⟩ := H
           replace H : (some (t464, true)) = some (r1, r2) := H
           have A16 := Aside0.mk A160
           clear A160
           simp only [Option.some.injEq, Prod.mk.injEq] at H
           obtain ⟨rfl, rfl⟩ := H
           go_enter Try.func30, Try.ntmps30
           go_wp2_with (first | ((with_reducible refine gate_callee (f := 64) rfl ?_); refine goesL_ (some 13) rfl rfl Try.func64 (by kernel_rfl) rfl #[.int .i64 a0, .int .i64 1, .int .i64 6] rfl (by (try simp only [List.map_toArray, List.map_cons, List.map_nil]); first | done | rfl | (simp only [List.length_drop, List.length_take]; rfl)) ?_; (with_reducible refine (spec_l1In.calls a0 1 6 true _ A6.out).mono ?_); rintro e w' ⟨rfl, ⟨nd, rfl⟩⟩; refine ⟨_, rfl, ?_⟩) | (go_at_call 64; (with_reducible refine (spec_l1In.calls a2 1 (wrap64 (a0 - 1)) true _ A8.out).mono ?_); rintro e w' ⟨rfl, ⟨nd, rfl⟩⟩) | (go_at_call 64; (with_reducible refine (spec_l1In.calls a1 0 (wrap64 (a2 - 1)) true _ A10.out).mono ?_); rintro e w' ⟨rfl, ⟨nd, rfl⟩⟩) | (go_at_call 64; (with_reducible refine (spec_l1In.calls a3 1 1000 true _ A12.out).mono ?_); rintro e w' ⟨rfl, ⟨nd, rfl⟩⟩) | (go_at_call 64; (with_reducible refine (spec_l1In.calls a4 0 a3 true _ A14.out).mono ?_); rintro e w' ⟨rfl, ⟨nd, rfl⟩⟩) | ((with_reducible refine gate_callee (f := 67) rfl ?_); refine goesL_ (some 45) rfl rfl Try.func67 (by kernel_rfl) rfl #[.int .i64 a0, .int .i64 a1, .int .i64 a2, .int .i64 a3, .int .i64 a4] rfl (by (try simp only [List.map_toArray, List.map_cons, List.map_nil]); first | done | rfl | (simp only [List.length_drop, List.length_take]; rfl)) ?_; (with_reducible refine (spec_doGift.calls k a0 a1 a2 a3 a4 t464 _ A16.out).mono ?_); rintro e w17 ⟨v465, rfl, ho0, hb⟩; refine ⟨_, rfl, ?_⟩; have n0_ := Aside0.mk (Kd.S_lower ho0 (below_size (by repeat (first | (with_reducible first | exact HB.out | apply below_alloc | apply pw_below_drewN | apply below_drew1) | exact HB.out)))); have n1_ := Aside0.mk (below_step (by repeat (first | (with_reducible first | exact HB.out | apply below_alloc | apply pw_below_drewN | apply below_drew1) | exact HB.out)) hb); clear HB; have HO466 := n0_; have HB := n1_; clear n0_ n1_; (try clear hb); (try clear hb2); (try clear hk); (try clear hi); (try clear ho0)))
           go_ret2
           exact ⟨_, by first | rfl | (simp [errW_none, errW_some] <;> rfl) | (simp [*, errW_none, errW_some] <;> rfl), by (with_reducible repeat (first | apply Kd.S_alloc | apply Kd.S_drewN | apply Kd.S_drew)); exact HO466.out, by repeat (first | (with_reducible first | exact HB.out | apply below_alloc | apply pw_below_drewN | apply below_drew1) | exact HB.out)⟩
         · replace c15 := Bool.eq_false_iff.mpr c15
           subst c15
           have H1 : (some (([] : List (List Int)), false)) = some (r1, r2) := by rw [if_neg (show ¬ (false = true) by decide)] at H; exact H
           clear H
           have H := H1
           clear H1
           simp only [Option.some.injEq, Prod.mk.injEq] at H
           obtain ⟨rfl, rfl⟩ := H
           go_enter Try.func30, Try.ntmps30
           go_wp2_with (first | ((with_reducible refine gate_callee (f := 64) rfl ?_); refine goesL_ (some 13) rfl rfl Try.func64 (by kernel_rfl) rfl #[.int .i64 a0, .int .i64 1, .int .i64 6] rfl (by (try simp only [List.map_toArray, List.map_cons, List.map_nil]); first | done | rfl | (simp only [List.length_drop, List.length_take]; rfl)) ?_; (with_reducible refine (spec_l1In.calls a0 1 6 true _ A6.out).mono ?_); rintro e w' ⟨rfl, ⟨nd, rfl⟩⟩; refine ⟨_, rfl, ?_⟩) | (go_at_call 64; (with_reducible refine (spec_l1In.calls a2 1 (wrap64 (a0 - 1)) true _ A8.out).mono ?_); rintro e w' ⟨rfl, ⟨nd, rfl⟩⟩) | (go_at_call 64; (with_reducible refine (spec_l1In.calls a1 0 (wrap64 (a2 - 1)) true _ A10.out).mono ?_); rintro e w' ⟨rfl, ⟨nd, rfl⟩⟩) | (go_at_call 64; (with_reducible refine (spec_l1In.calls a3 1 1000 true _ A12.out).mono ?_); rintro e w' ⟨rfl, ⟨nd, rfl⟩⟩) | (go_at_call 64; (with_reducible refine (spec_l1In.calls a4 0 a3 false _ A14.out).mono ?_); rintro e w' ⟨rfl, ⟨nd, rfl⟩⟩))
           go_ret2
           exact ⟨_, by first | rfl | (simp [errW_none, errW_some] <;> rfl) | (simp [*, errW_none, errW_some] <;> rfl), by first | exact Kd.S_nil _ _ _ _ _ | exact Kd.N_nil _ _ _ _ _ | exact Kd.V_nil _ _ _ _ _ | exact Kd.Q_nil _ _ _ _ _ | exact Kd.R_nil _ _ _ _ _, by repeat (first | (with_reducible first | exact HB.out | apply below_alloc | apply pw_below_drewN | apply below_drew1) | exact HB.out)⟩
       · replace c13 := Bool.eq_false_iff.mpr c13
         subst c13
         have H1 : (some (([] : List (List Int)), false)) = some (r1, r2) := by rw [if_neg (show ¬ (false = true) by decide)] at H; exact H
         clear H
         have H := H1
         clear H1
         simp only [Option.some.injEq, Prod.mk.injEq] at H
         obtain ⟨rfl, rfl⟩ := H
         go_enter Try.func30, Try.ntmps30
         go_wp2_with (first | ((with_reducible refine gate_callee (f := 64) rfl ?_); refine goesL_ (some 13) rfl rfl Try.func64 (by kernel_rfl) rfl #[.int .i64 a0, .int .i64 1, .int .i64 6] rfl (by (try simp only [List.map_toArray, List.map_cons, List.map_nil]); first | done | rfl | (simp only [List.length_drop, List.length_take]; rfl)) ?_; (with_reducible refine (spec_l1In.calls a0 1 6 true _ A6.out).mono ?_); rintro e w' ⟨rfl, ⟨nd, rfl⟩⟩; refine ⟨_, rfl, ?_⟩) | (go_at_call 64; (with_reducible refine (spec_l1In.calls a2 1 (wrap64 (a0 - 1)) true _ A8.out).mono ?_); rintro e w' ⟨rfl, ⟨nd, rfl⟩⟩) | (go_at_call 64; (with_reducible refine (spec_l1In.calls a1 0 (wrap64 (a2 - 1)) true _ A10.out).mono ?_); rintro e w' ⟨rfl, ⟨nd, rfl⟩⟩) | (go_at_call 64; (with_reducible refine (spec_l1In.calls a3 1 1000 false _ A12.out).mono ?_); rintro e w' ⟨rfl, ⟨nd, rfl⟩⟩))
         go_ret2
         exact ⟨_, by first | rfl | (simp [errW_none, errW_some] <;> rfl) | (simp [*, errW_none, errW_some] <;> rfl), by first | exact Kd.S_nil _ _ _ _ _ | exact Kd.N_nil _ _ _ _ _ | exact Kd.V_nil _ _ _ _ _ | exact Kd.Q_nil _ _ _ _ _ | exact Kd.R_nil _ _ _ _ _, by repeat (first | (with_reducible first | exact HB.out | apply below_alloc | apply pw_below_drewN | apply below_drew1) | exact HB.out)⟩
     · replace c11 := Bool.eq_false_iff.mpr c11
       subst c11
       have H1 : (some (([] : List (List Int)), false)) = some (r1, r2) := by rw [if_neg (show ¬ (false = true) by decide)] at H; exact H
       clear H
       have H := H1
       clear H1
       simp only [Option.some.injEq, Prod.mk.injEq] at H
       obtain ⟨rfl, rfl⟩ := H
       go_enter Try.func30, Try.ntmps30
       go_wp2_with (first | ((with_reducible refine gate_callee (f := 64) rfl ?_); refine goesL_ (some 13) rfl rfl Try.func64 (by kernel_rfl) rfl #[.int .i64 a0, .int .i64 1, .int .i64 6] rfl (by (try simp only [List.map_toArray, List.map_cons, List.map_nil]); first | done | rfl | (simp only [List.length_drop, List.length_take]; rfl)) ?_; (with_reducible refine (spec_l1In.calls a0 1 6 true _ A6.out).mono ?_); rintro e w' ⟨rfl, ⟨nd, rfl⟩⟩; refine ⟨_, rfl, ?_⟩) | (go_at_call 64; (with_reducible refine (spec_l1In.calls a2 1 (wrap64 (a0 - 1)) true _ A8.out).mono ?_); rintro e w' ⟨rfl, ⟨nd, rfl⟩⟩) | (go_at_call 64; (with_reducible refine (spec_l1In.calls a1 0 (wrap64 (a2 - 1)) false _ A10.out).mono ?_); rintro e w' ⟨rfl, ⟨nd, rfl⟩⟩))
       go_ret2
       exact ⟨_, by first | rfl | (simp [errW_none, errW_some] <;> rfl) | (simp [*, errW_none, errW_some] <;> rfl), by first | exact Kd.S_nil _ _ _ _ _ | exact Kd.N_nil _ _ _ _ _ | exact Kd.V_nil _ _ _ _ _ | exact Kd.Q_nil _ _ _ _ _ | exact Kd.R_nil _ _ _ _ _, by repeat (first | (with_reducible first | exact HB.out | apply below_alloc | apply pw_below_drewN | apply below_drew1) | exact HB.out)⟩
   · replace c9 := Bool.eq_false_iff.mpr c9
     subst c9
     have H1 : (some (([] : List (List Int)), false)) = some (r1, r2) := by rw [if_neg (show ¬ (false = true) by decide)] at H; exact H
     clear H
     have H := H1
     clear H1
     simp only [Option.some.injEq, Prod.mk.injEq] at H
     obtain ⟨rfl, rfl⟩ := H
     go_enter Try.func30, Try.ntmps30
     go_wp2_with (first | ((with_reducible refine gate_callee (f := 64) rfl ?_); refine goesL_ (some 13) rfl rfl Try.func64 (by kernel_rfl) rfl #[.int .i64 a0, .int .i64 1, .int .i64 6] rfl (by (try simp only [List.map_toArray, List.map_cons, List.map_nil]); first | done | rfl | (simp only [List.length_drop, List.length_take]; rfl)) ?_; (with_reducible refine (spec_l1In.calls a0 1 6 true _ A6.out).mono ?_); rintro e w' ⟨rfl, ⟨nd, rfl⟩⟩; refine ⟨_, rfl, ?_⟩) | (go_at_call 64; (with_reducible refine (spec_l1In.calls a2 1 (wrap64 (a0 - 1)) false _ A8.out).mono ?_); rintro e w' ⟨rfl, ⟨nd, rfl⟩⟩))
     go_ret2
     exact ⟨_, by first | rfl | (simp [errW_none, errW_some] <;> rfl) | (simp [*, errW_none, errW_some] <;> rfl), by first | exact Kd.S_nil _ _ _ _ _ | exact Kd.N_nil _ _ _ _ _ | exact Kd.V_nil _ _ _ _ _ | exact Kd.Q_nil _ _ _ _ _ | exact Kd.R_nil _ _ _ _ _, by repeat (first | (with_reducible first | exact HB.out | apply below_alloc | apply pw_below_drewN | apply below_drew1) | exact HB.out)⟩
 · replace c7 := Bool.eq_false_iff.mpr c7
   subst c7
   have H1 : (some (([] : List (List Int)), false)) = some (r1, r2) := by rw [if_neg (show ¬ (false = true) by decide)] at H; exact H
   clear H
   have H := H1
   clear H1
   simp only [Option.some.injEq, Prod.mk.injEq] at H
   obtain ⟨rfl, rfl⟩ := H
   go_enter Try.func30, Try.ntmps30
   go_wp2_with (first | ((with_reducible refine gate_callee (f := 64) rfl ?_); refine goesL_ (some 13) rfl rfl Try.func64 (by kernel_rfl) rfl #[.int .i64 a0, .int .i64 1, .int .i64 6] rfl (by (try simp only [List.map_toArray, List.map_cons, List.map_nil]); first | done | rfl | (simp only [List.length_drop, List.length_take]; rfl)) ?_; (with_reducible refine (spec_l1In.calls a0 1 6 false _ A6.out).mono ?_); rintro e w' ⟨rfl, ⟨nd, rfl⟩⟩; refine ⟨_, rfl, ?_⟩))
   go_ret2
   exact ⟨_, by first | rfl | (simp [errW_none, errW_some] <;> rfl) | (simp [*, errW_none, errW_some] <;> rfl), by first | exact Kd.S_nil _ _ _ _ _ | exact Kd.N_nil _ _ _ _ _ | exact Kd.V_nil _ _ _ _ _ | exact Kd.Q_nil _ _ _ _ _ | exact Kd.R_nil _ _ _ _ _, by repeat (first | (with_reducible first | exact HB.out | apply below_alloc | apply pw_below_drewN | apply below_drew1) | exact HB.out)⟩

end Go.Proofs.Ytkhpojcplejdjaa.A

-- made by a program of this repo (wip/pp.py) through the kit's printer
namespace Go.Proofs.Ytkhpojcplejdjaa.A
open Go.RowKit Go.Proofs.YtkhpojcplejdjaaW.PrintWords Go.Proofs.YtkhpojcplejdjaaW.PrintLast Go.Proofs.YtkhpojcplejdjaaW.PrintMore
attribute [local go_sem] max2_int min2_int max_two min_two max_three min_three max_four min_four
set_option linter.unusedVariables false
set_option linter.unusedSimpArgs false

/-! ### impl_areSquares: function 54 -/
def impl_areSquares.f (l0 : List (List Int)) (l1 : List (List Int)) : Option (Bool) := (impl_IsSquare.f l0).bind fun t316 => (if t316 = true then ((impl_IsSquare.f l1).bind fun t317 => (if t317 = true then (some ((l0.length : Int) == (l1.length : Int))) else (some false))) else (some false))
set_option maxHeartbeats 8000000 in
set_option maxRecDepth 100000 in
theorem impl_areSquares.calls (A0 : Option Addr) (c0 : Nat) (l0 : List (List Int)) (A1 : Option Addr) (c1 : Nat) (l1 : List (List Int)) (r : Bool) (w : World) (hr0 : Kd.C (Kd.slice 3 (Kd.int .i64)) w A0 l0.length l0) (hc0 : l0.length ≤ c0) (hr1 : Kd.C (Kd.slice 3 (Kd.int .i64)) w A1 l1.length l1) (hc1 : l1.length ≤ c1) (h : impl_areSquares.f l0 l1 = some r) :
 Calls Try.prog 54 #[.slice A0 l0.length c0, .slice A1 l1.length c1] w fun e w' => e = .returned (.bool r) ∧ Below w.heap.size w w' := by
 have HR0 := Aside0.mk hr0
 have HC0 := Aside0.mk hc0
 clear hr0 hc0
 have HR1 := Aside0.mk hr1
 have HC1 := Aside0.mk hc1
 clear hr1 hc1
 have HB := Aside0.mk (Below.refl w.heap.size w)
 have H : ((impl_IsSquare.f l0).bind fun t316 => (if t316 = true then ((impl_IsSquare.f l1).bind fun t317 => (if t317 = true then (some ((l0.length : Int) == (l1.length : Int))) else (some false))) else (some false))) = some r := h
 clear h
 replace H := Option.bind_eq_some_iff.mp H
 obtain ⟨t316, A30, H⟩ := H
 replace H : (if t316 = true then ((impl_IsSquare.f l1).bind fun t317 => (if t317 = true then (some ((l0.length : Int) == (l1.length : Int))) else (some false))) else (some false)) = some r := H
 have A3 := Aside0.mk A30
 clear A30
 by_cases c4 : t316 = true
 · subst c4
   have H1 : ((impl_IsSquare.f l1).bind fun t317 => (if t317 = true then (some ((l0.length : Int) == (l1.length : Int))) else (some false))) = some r := by rw [if_pos rfl] at H; exact H
   clear H
   have H := H1
   clear H1
   replace H := Option.bind_eq_some_iff.mp H
   obtain ⟨t317, A50, H⟩ := H
   replace H : (if t317 = true then (some ((l0.length : Int) == (l1.length : Int))) else (some false)) = some r := H
   have A5 := Aside0.mk A50
   clear A50
   by_cases c6 : t317 = true
   · subst c6
     have H1 : (some ((l0.length : Int) == (l1.length : Int))) = some r := by rw [if_pos rfl] at H; exact H
     clear H
     have H := H1
     clear H1
     obtain rfl := Option.some.inj H
     go_enter Try.func54, Try.ntmps54
     go_wp2_with (first | ((with_reducible refine gate_callee (f := 47) rfl ?_); refine goesL_ (some 6) rfl rfl Try.func47 (by kernel_rfl) rfl #[.slice A0 l0.length c0] rfl (by (try simp only [List.map_toArray, List.map_cons, List.map_nil]); first | done | rfl | (simp only [List.length_drop, List.length_take]; rfl)) ?_; (with_reducible refine (impl_IsSquare.calls _ _ l0 true _ ?side1 ?side2 A3.out).mono ?_); (case side1 => repeat (first | exact HR0.out | (with_reducible refine Kd.C_alloc ?_ _) | (with_reducible refine Kd.C_drewN ?_ _) | (with_reducible refine Kd.C_drew ?_))); (case side2 => exact HC0.out); rintro e w7 ⟨rfl, hb⟩; refine ⟨_, rfl, ?_⟩; have n0_ := Aside0.mk (below_step (by repeat (first | (with_reducible first | exact HB.out | apply below_alloc | apply pw_below_drewN | apply below_drew1) | exact HB.out)) hb); clear HB; have HB := n0_; clear n0_; (try clear hb); (try clear hb2); (try clear hk); (try clear hi)) | (go_at_call 47; (with_reducible refine (impl_IsSquare.calls _ _ l1 true _ ?side1 ?side2 A5.out).mono ?_); (case side1 => repeat (first | exact (Kd.C_below HR1.out HB.out) | (with_reducible refine Kd.C_alloc ?_ _) | (with_reducible refine Kd.C_drewN ?_ _) | (with_reducible refine Kd.C_drew ?_))); (case side2 => exact HC1.out); rintro e w8 ⟨rfl, hb⟩; have n0_ := Aside0.mk (below_step (by repeat (first | (with_reducible first | exact HB.out | apply below_alloc | apply pw_below_drewN | apply below_drew1) | exact HB.out)) hb); clear HB; have HB := n0_; clear n0_; (try clear hb); (try clear hb2); (try clear hk); (try clear hi)))
     go_ret
     exact ⟨by first | rfl | (simp [errW_none, errW_some] <;> rfl) | (simp [*, errW_none, errW_some] <;> rfl), by repeat (first | (with_reducible first | exact HB.out | apply below_alloc | apply pw_below_drewN | apply below_drew1) | exact HB.out)⟩
   · replace c6 := Bool.eq_false_iff.mpr c6
     subst c6
     have H1 : (some false) = some r := by rw [if_neg (show ¬ (false = true) by decide)] at H; exact H
     clear H
     have H := H1
     clear H1
     obtain rfl := Option.some.inj H
     go_enter Try.func54, Try.ntmps54
     go_wp2_with (first | ((with_reducible refine gate_callee (f := 47) rfl ?_); refine goesL_ (some 6) rfl rfl Try.func47 (by kernel_rfl) rfl #[.slice A0 l0.length c0] rfl (by (try simp only [List.map_toArray, List.map_cons, List.map_nil]); first | done | rfl | (simp only [List.length_drop, List.length_take]; rfl)) ?_; (with_reducible refine (impl_IsSquare.calls _ _ l0 true _ ?side1 ?side2 A3.out).mono ?_); (case side1 => repeat (first | exact HR0.out | (with_reducible refine Kd.C_alloc ?_ _) | (with_reducible refine Kd.C_drewN ?_ _) | (with_reducible refine Kd.C_drew ?_))); (case side2 => exact HC0.out); rintro e w9 ⟨rfl, hb⟩; refine ⟨_, rfl, ?_⟩; have n0_ := Aside0.mk (below_step (by repeat (first | (with_reducible first | exact HB.out | apply below_alloc | apply pw_below_drewN | apply below_drew1) | exact HB.out)) hb); clear HB; have HB := n0_; clear n0_; (try clear hb); (try clear hb2); (try clear hk); (try clear hi)) | (go_at_call 47; (with_reducible refine (impl_IsSquare.calls _ _ l1 false _ ?side1 ?side2 A5.out).mono ?_); (case side1 => repeat (first | exact (Kd.C_below HR1.out HB.out) | (with_reducible refine Kd.C_alloc ?_ _) | (with_reducible refine Kd.C_drewN ?_ _) | (with_reducible refine Kd.C_drew ?_))); (case side2 => exact HC1.out); rintro e w10 ⟨rfl, hb⟩; have n0_ := Aside0.mk (below_step (by repeat (first | (with_reducible first | exact HB.out | apply below_alloc | apply pw_below_drewN | apply below_drew1) | exact HB.out)) hb); clear HB; have HB := n0_; clear n0_; (try clear hb); (try clear hb2); (try clear hk); (try clear hi)))
     go_ret
     exact ⟨by first | rfl | (simp [errW_none, errW_some] <;> rfl) | (simp [*, errW_none, errW_some] <;> rfl), by repeat (first | (with_reducible first | exact HB.out | apply below_alloc | apply pw_below_drewN | apply below_drew1) | exact HB.out)⟩
 · replace c4 := Bool.eq_false_iff.mpr c4
   subst c4
   have H1 : (some false) = some r := by rw [if_neg (show ¬ (false = true) by decide)] at H; exact H
   clear H
   have H := H1
   clear H1
   obtain rfl := Option.some.inj H
   go_enter Try.func54, Try.ntmps54
   go_wp2_with (first | ((with_reducible refine gate_callee (f := 47) rfl ?_); refine goesL_ (some 6) rfl rfl Try.func47 (by kernel_rfl) rfl #[.slice A0 l0.length c0] rfl (by (try simp only [List.map_toArray, List.map_cons, List.map_nil]); first | done | rfl | (simp only [List.length_drop, List.length_take]; rfl)) ?_; (with_reducible refine (impl_IsSquare.calls _ _ l0 false _ ?side1 ?side2 A3.out).mono ?_); (case side1 => repeat (first | exact HR0.out | (with_reducible refine Kd.C_alloc ?_ _) | (with_reducible refine Kd.C_drewN ?_ _) | (with_reducible refine Kd.C_drew ?_))); (case side2 => exact HC0.out); rintro e w11 ⟨rfl, hb⟩; refine ⟨_, rfl, ?_⟩; have n0_ := Aside0.mk (below_step (by repeat (first | (with_reducible first | exact HB.out | apply below_alloc | apply pw_below_drewN | apply below_drew1) | exact HB.out)) hb); clear HB; have HB := n0_; clear n0_; (try clear hb); (try clear hb2); (try clear hk); (try clear hi)))
   go_ret
   exact ⟨by first | rfl | (simp [errW_none, errW_some] <;> rfl) | (simp [*, errW_none, errW_some] <;> rfl), by repeat (first | (with_reducible first | exact HB.out | apply below_alloc | apply pw_below_drewN | apply below_drew1) | exact HB.out)⟩

end Go.Proofs.Ytkhpojcplejdjaa.A

/- Words on tables: two reads in line, a table that has been checked and is still the call's own. -/
namespace Go.Proofs.Ytkhpojcplejdjaa.A
open Go.RowKit Go.Proofs.YtkhpojcplejdjaaW.PrintWords Go.Proofs.YtkhpojcplejdjaaW.PrintLast Go.Proofs.YtkhpojcplejdjaaW.PrintMore
attribute [local go_sem] max2_int min2_int max_two min_two max_three min_three max_four min_four
set_option linter.unusedVariables false
set_option linter.unusedSimpArgs false

def impl_checked.f (l0 : List (List Int)) : Option ((List (List Int)) × Bool) := (impl_IsSquare.f l0).bind fun t269 => (if t269 = true then (some (l0, true)) else (some (([] : List (List Int)), false)))
theorem tab_bx {W W' : World} {B : Nat} {v : Value} (hb : Below W.heap.size W W') (h : W.cell? ⟨B, 0, none⟩ = some v) (hB : B < W.heap.size) : W'.cell? ⟨B, 0, none⟩ = some v := (hb.cell (p := ⟨B, 0, none⟩) hB).trans h
theorem tab_at {W : World} {A : Option Addr} {l : List (List Int)} (h : Kd.C (Kd.slice 3 (Kd.int .i64)) W A l.length l) (i j : Int) (p : 0 ≤ i) (q : i < (l.length : Int)) (p' : 0 ≤ j) (q' : j < ((rd_L1 l i).length : Int)) : ∃ ad ad' c, A = some ad ∧ W.cell? (ad.add i.toNat) = some (.slice (some ad') (rd_L1 l i).length c) ∧ W.cell? (ad'.add j.toNat) = some (.int .i64 (rd (rd_L1 l i) j)) := by
 obtain ⟨ad, A0, c0, e, hx, _, hi⟩ := at_L1 h i p q
 obtain ⟨ad', e', hy⟩ := Kd.at_int hi j p' q'
 subst e'
 exact ⟨ad, ad', c0, e, hx, hy⟩
set_option maxHeartbeats 8000000 in
set_option maxRecDepth 100000 in
theorem impl_checked.calls (P0_ : Nat → Prop) (base : Nat) (A0 : Option Addr) (c0 : Nat) (l0 : List (List Int)) (r1 : List (List Int)) (r2 : Bool) (w : World) (hs0 : Kd.S (Kd.slice 3 (Kd.int .i64)) 24 w base P0_ (.slice A0 l0.length c0) l0) (h : impl_checked.f l0 = some (r1, r2)) :
 Calls Try.prog 55 #[.slice A0 l0.length c0] w fun e w' => ∃ v0_ : Value, e = .returned (.tuple #[v0_, .bool r2]) ∧ Kd.S (Kd.slice 3 (Kd.int .i64)) 24 w' base P0_ v0_ r1 ∧ Below w.heap.size w w' := by
 have HO0 := Aside0.mk hs0
 have HB := Aside0.mk (Below.refl w.heap.size w)
 have H : ((impl_IsSquare.f l0).bind fun t269 => (if t269 = true then (some (l0, true)) else (some (([] : List (List Int)), false)))) = some (r1, r2) := h
 clear h hs0
 replace H := Option.bind_eq_some_iff.mp H
 obtain ⟨t269, A20, H⟩ := H
 replace H : (if t269 = true then (some (l0, true)) else (some (([] : List (List Int)), false))) = some (r1, r2) := H
 have A2 := Aside0.mk A20
 clear A20
 by_cases c3 : t269 = true
 · subst c3
   have H1 : (some (l0, true)) = some (r1, r2) := by rw [if_pos rfl] at H; exact H
   clear H
   have H := H1
   clear H1
   simp only [Option.some.injEq, Prod.mk.injEq] at H
   obtain ⟨rfl, rfl⟩ := H
   go_enter Try.func55, Try.ntmps55
   go_wp2_with (go_at_call 47; (refine (impl_IsSquare.calls _ _ l0 true _ ?side1 ?side2 A2.out).mono ?_); (case side1 => exact (Kd.S_reads' HO0.out).2.2); (case side2 => exact (Kd.S_reads' HO0.out).2.1); rintro e w4 ⟨rfl, hb⟩; have n0_ := Aside0.mk (Kd.S_below HO0.out hb); have n1_ := Aside0.mk hb; clear HO0 HB hb; have HO0 := n0_; have HB := n1_; clear n0_ n1_)
   go_ret2
   exact ⟨_, rfl, HO0.out, HB.out⟩
 · replace c3 := Bool.eq_false_iff.mpr c3
   subst c3
   have H1 : (some (([] : List (List Int)), false)) = some (r1, r2) := by rw [if_neg (show ¬ (false = true) by decide)] at H; exact H
   clear H
   have H := H1
   clear H1
   simp only [Option.some.injEq, Prod.mk.injEq] at H
   obtain ⟨rfl, rfl⟩ := H
   go_enter Try.func55, Try.ntmps55
   go_wp2_with (go_at_call 47; (refine (impl_IsSquare.calls _ _ l0 false _ ?side1 ?side2 A2.out).mono ?_); (case side1 => exact (Kd.S_reads' HO0.out).2.2); (case side2 => exact (Kd.S_reads' HO0.out).2.1); rintro e w4 ⟨rfl, hb⟩; have n1_ := Aside0.mk hb; clear HO0 HB hb; have HB := n1_; clear n1_)
   go_ret2
   exact ⟨_, rfl, Kd.S_nil _ _ _ _ _, HB.out⟩
end Go.Proofs.Ytkhpojcplejdjaa.A

/- AddTables: the sums, by a function that has captured both tables. -/
namespace Go.Proofs.Ytkhpojcplejdjaa.A
open Go.RowKit Go.Proofs.YtkhpojcplejdjaaW.PrintWords Go.Proofs.YtkhpojcplejdjaaW.PrintLast Go.Proofs.YtkhpojcplejdjaaW.PrintMore
attribute [local go_sem] max2_int min2_int max_two min_two max_three min_three max_four min_four
set_option linter.unusedVariables false
set_option linter.unusedSimpArgs false

def addF (l0 l1 : List (List Int)) (i j : Int) : Option Int := if 0 ≤ i ∧ i < (l0.length : Int) ∧ i < (l1.length : Int) ∧ 0 ≤ j ∧ j < ((rd_L1 l0 i).length : Int) ∧ j < ((rd_L1 l1 i).length : Int) then some (wrap64 (rd (rd_L1 l0 i) j + rd (rd_L1 l1 i) j)) else none
def impl_AddTables.f (q : Nat) (l0 l1 : List (List Int)) : Option (List (List Int) × Bool) := (impl_areSquares.f l0 l1).bind fun t => if t = true then (impl_square.f (addF l0 l1) q (l0.length : Int)).bind fun u => impl_checked.f u else some ([], false)
set_option maxHeartbeats 4000000 in
set_option maxRecDepth 100000 in
theorem add_cell (l0 l1 : List (List Int)) (i j t : Int) (A0 A1 : Option Addr) (c0 c1 B0 B1 : Nat) (W : World) (hF : addF l0 l1 i j = some t) (h0 : W.cell? ⟨B0, 0, none⟩ = some (.slice A0 l0.length c0)) (h1 : W.cell? ⟨B1, 0, none⟩ = some (.slice A1 l1.length c1)) (hr0 : Kd.C (Kd.slice 3 (Kd.int .i64)) W A0 l0.length l0) (hr1 : Kd.C (Kd.slice 3 (Kd.int .i64)) W A1 l1.length l1) :
 Calls Try.prog 59 #[.int .i64 i, .int .i64 j, .pointer (some ⟨B0, 0, none⟩), .pointer (some ⟨B1, 0, none⟩)] W fun e w' => e = .returned (.int .i64 t) ∧ Below W.heap.size W w' := by
 unfold addF at hF
 split at hF
 next hc =>
  obtain ⟨p0, p1, p2, p3, p4, p5⟩ := hc
  obtain rfl := Option.some.inj hF
  obtain ⟨ad0, ad1, d0, rfl, x0, x1⟩ := tab_at hr0 i j p0 p1 p3 p4
  obtain ⟨ad2, ad3, d1, rfl, x2, x3⟩ := tab_at hr1 i j p0 p2 p3 p5
  have q0 := eq_true p0
  have q1 := eq_true p1
  have q2 := eq_true p2
  have q3 := eq_true p3
  have q4 := eq_true p4
  have q5 := eq_true p5
  clear hr0 hr1 hF p0 p1 p2 p3 p4 p5
  go_enter Try.func59, Try.ntmps59
  go_wp2
  repeat (go_quiet (fail); try go_wp2)
  go_ret
  exact ⟨rfl, by repeat (first | exact Below.refl _ _ | apply below_alloc | apply pw_below_drewN | apply below_drew1)⟩
 next => cases hF
set_option maxHeartbeats 4000000 in
set_option maxRecDepth 100000 in
theorem impl_AddTables.calls (q : Nat) (A0 : Option Addr) (c0 : Nat) (l0 : List (List Int)) (A1 : Option Addr) (c1 : Nat) (l1 : List (List Int)) (r1 : List (List Int)) (r2 : Bool) (w : World) (hr0 : Kd.C (Kd.slice 3 (Kd.int .i64)) w A0 l0.length l0) (hc0 : l0.length ≤ c0) (hr1 : Kd.C (Kd.slice 3 (Kd.int .i64)) w A1 l1.length l1) (hc1 : l1.length ≤ c1) (h : impl_AddTables.f q l0 l1 = some (r1, r2)) :
 Calls Try.prog 21 #[.slice A0 l0.length c0, .slice A1 l1.length c1] w fun e w' => ∃ v0_ : Value, e = .returned (.tuple #[v0_, .bool r2]) ∧ Kd.S (Kd.slice 3 (Kd.int .i64)) 24 w' w.heap.size (fun _ => True) v0_ r1 ∧ Below w.heap.size w w' := by
 unfold impl_AddTables.f at h
 obtain ⟨t, hs, h⟩ := Option.bind_eq_some_iff.mp h
 have HS := Aside0.mk hs
 have HR0 := Aside0.mk hr0
 have HR1 := Aside0.mk hr1
 have HC0 := Aside0.mk hc0
 have HC1 := Aside0.mk hc1
 have HB := Aside0.mk (Below.refl w.heap.size w)
 clear hr0 hr1 hs hc0 hc1
 cases t with
 | false =>
  obtain ⟨rfl, rfl⟩ : [] = r1 ∧ false = r2 := by simpa using h
  clear h
  go_enter Try.func21, Try.ntmps21
  go_wp2_with (go_at_call 54; (refine (impl_areSquares.calls _ _ l0 _ _ l1 false _ ?side1 ?side2 ?side3 ?side4 HS.out).mono ?_); (case side1 => exact Kd.C_below HR0.out (by repeat (first | (with_reducible first | exact HB.out | apply below_alloc | apply pw_below_drewN | apply below_drew1) | exact HB.out))); (case side2 => exact HC0.out); (case side3 => exact Kd.C_below HR1.out (by repeat (first | (with_reducible first | exact HB.out | apply below_alloc | apply pw_below_drewN | apply below_drew1) | exact HB.out))); (case side4 => exact HC1.out); rintro e w1 ⟨rfl, hb⟩; have HB2 := Aside0.mk (below_step (by repeat (first | (with_reducible first | exact HB.out | apply below_alloc | apply pw_below_drewN | apply below_drew1) | exact HB.out)) hb); clear HB hb)
  go_ret2
  exact ⟨_, rfl, Kd.S_nil _ _ _ _ _, HB2.out⟩
 | true =>
  obtain ⟨u, hu, h⟩ := Option.bind_eq_some_iff.mp h
  have HU := Aside0.mk hu
  have HK := Aside0.mk h
  have EG := Aside0.mk (show ∀ args w, (callFunc 59 args).run Try.prog w = .ok (.enter 59 args) w from fun args w => enters_ Try.func59 (by kernel_rfl) rfl args w)
  clear h hu
  go_enter Try.func21, Try.ntmps21
  go_wp2_with (first | (go_at_call 54; (refine (impl_areSquares.calls _ _ l0 _ _ l1 true _ ?side1 ?side2 ?side3 ?side4 HS.out).mono ?_); (case side1 => exact Kd.C_below HR0.out (by repeat (first | (with_reducible first | exact HB.out | apply below_alloc | apply pw_below_drewN | apply below_drew1) | exact HB.out))); (case side2 => exact HC0.out); (case side3 => exact Kd.C_below HR1.out (by repeat (first | (with_reducible first | exact HB.out | apply below_alloc | apply pw_below_drewN | apply below_drew1) | exact HB.out))); (case side4 => exact HC1.out); rintro e w1 ⟨rfl, hb⟩; have HB2 := Aside0.mk (below_step (by repeat (first | (with_reducible first | exact HB.out | apply below_alloc | apply pw_below_drewN | apply below_drew1) | exact HB.out)) hb); have x0 := tab_bx hb (B := w.heap.size) (v := .slice A0 l0.length c0) (by simp [go_sem]) (by first | (simp; done) | (simp; omega)); have x1 := tab_bx hb (B := w.heap.size + 1) (v := .slice A1 l1.length c1) (by simp [go_sem]) (by first | (simp; done) | (simp; omega)); have x2 := Aside0.mk (show w.heap.size < w1.heap.size by have := hb.size; simp at this; omega); have x3 := Aside0.mk (show w.heap.size + 1 < w1.heap.size by have := hb.size; simp at this; omega); clear HB hb; have HB := HB2; clear HB2) | (go_at_call 49; (refine (impl_square.calls _ 59 #[.pointer (some ⟨w.heap.size, 0, none⟩), .pointer (some ⟨w.heap.size + 1, 0, none⟩)] EG.out q (l0.length : Int) u _ ?side1 HU.out).mono ?_); (case side1 => intro i' j' t W' hF hb; exact add_cell l0 l1 i' j' t A0 A1 c0 c1 w.heap.size (w.heap.size + 1) W' hF (tab_bx hb x0 x2.out) (tab_bx hb x1 x3.out) (Kd.C_below (Kd.C_below HR0.out HB.out) hb) (Kd.C_below (Kd.C_below HR1.out HB.out) hb)); rintro e w2 ⟨v1, rfl, ho, hb⟩; have HO := Aside0.mk (show Kd.S (Kd.slice 3 (Kd.int .i64)) 24 w2 w.heap.size (fun _ => True) v1 u from Kd.S_lower ho (below_size (by repeat (first | (with_reducible first | exact HB.out | apply below_alloc | apply pw_below_drewN | apply below_drew1) | exact HB.out)))); have HB2 := Aside0.mk (below_step (by repeat (first | (with_reducible first | exact HB.out | apply below_alloc | apply pw_below_drewN | apply below_drew1) | exact HB.out)) hb); clear HB ho hb x0 x1 x2 x3; have HB := HB2; clear HB2; obtain ⟨Au, cu, eu⟩ := Kd.S_slice HO.out; subst eu) | (go_at_call 55; (refine (impl_checked.calls _ w.heap.size _ _ u r1 r2 _ HO.out HK.out).mono ?_); rintro e w3 ⟨v2, rfl, ho, hb⟩; have HO2 := Aside0.mk ho; have HB2 := Aside0.mk (below_step (by repeat (first | (with_reducible first | exact HB.out | apply below_alloc | apply pw_below_drewN | apply below_drew1) | exact HB.out)) hb); clear HB HO ho hb; have HO := HO2; have HB := HB2; clear HO2 HB2))
  go_ret2
  exact ⟨_, rfl, HO.out, HB.out⟩
end Go.Proofs.Ytkhpojcplejdjaa.A

/- product, MultiplyTables: the product, by a function that has captured both tables and goes over a row and a column. -/
namespace Go.Proofs.Ytkhpojcplejdjaa.A
open Go.RowKit Go.Proofs.YtkhpojcplejdjaaW.PrintWords Go.Proofs.YtkhpojcplejdjaaW.PrintLast Go.Proofs.YtkhpojcplejdjaaW.PrintMore
attribute [local go_sem] max2_int min2_int max_two min_two max_three min_three max_four min_four
set_option linter.unusedVariables false
set_option linter.unusedSimpArgs false

def timesG (l0 l1 : List (List Int)) (i j : Int) : Nat → Int → Int → Option Int
 | 0, _, s => some s
 | n + 1, k, s => if 0 ≤ i ∧ i < (l0.length : Int) ∧ 0 ≤ k ∧ k < ((rd_L1 l0 i).length : Int) ∧ k < (l1.length : Int) ∧ 0 ≤ j ∧ j < ((rd_L1 l1 k).length : Int) then timesG l0 l1 i j n (k + 1) (wrap64 (s + wrap64 (rd (rd_L1 l0 i) k * rd (rd_L1 l1 k) j))) else none
def timesF (l0 l1 : List (List Int)) (i j : Int) : Option Int := timesG l0 l1 i j l0.length 0 0
def impl_product.f (q : Nat) (l0 l1 : List (List Int)) : Option (List (List Int)) := if l0.length ≤ 4611686018427387903 then impl_square.f (timesF l0 l1) q (l0.length : Int) else none
set_option maxHeartbeats 4000000 in
set_option maxRecDepth 100000 in
theorem times_cell (l0 l1 : List (List Int)) (i j t : Int) (A0 A1 : Option Addr) (c0 c1 B0 B1 : Nat) (W : World) (hl : l0.length ≤ 4611686018427387903) (hF : timesF l0 l1 i j = some t) (h0 : W.cell? ⟨B0, 0, none⟩ = some (.slice A0 l0.length c0)) (h1 : W.cell? ⟨B1, 0, none⟩ = some (.slice A1 l1.length c1)) (hr0 : Kd.C (Kd.slice 3 (Kd.int .i64)) W A0 l0.length l0) (hr1 : Kd.C (Kd.slice 3 (Kd.int .i64)) W A1 l1.length l1) :
 Calls Try.prog 98 #[.int .i64 i, .int .i64 j, .pointer (some ⟨B0, 0, none⟩), .pointer (some ⟨B1, 0, none⟩)] W fun e w' => e = .returned (.int .i64 t) ∧ Below W.heap.size W w' := by
 have HF := Aside0.mk hF
 have HR0 := Aside0.mk hr0
 have HR1 := Aside0.mk hr1
 have HB := Aside0.mk (Below.refl W.heap.size W)
 clear hF hr0 hr1
 go_enter Try.func98, Try.ntmps98
 go_wp2
 go_loopg [7, 11] l0.length (fun g v7 v11 wr => ∃ (k s : Int) (n : Nat), v7 = .int .i64 s ∧ v11 = .int .i64 k ∧ Aside0 (n ≤ g ∧ 0 ≤ k ∧ k + (n : Int) = (l0.length : Int)) ∧ Aside0 (Below W.heap.size W wr) ∧ Aside0 (timesG l0 l1 i j n k s = some t))
 case atStart => exact ⟨0, 0, l0.length, rfl, rfl, ⟨by omega⟩, ⟨by repeat (first | exact Below.refl _ _ | apply below_alloc | apply pw_below_drewN | apply below_drew1)⟩, ⟨HF.out⟩⟩
 case round =>
  clear HB
  obtain ⟨k, s, n, rfl, rfl, HN, HB, HA⟩ := hrel
  have g0 := (HB.out.cell (World.block_lt_of_cell? W _ h0)).trans h0
  have g1 := (HB.out.cell (World.block_lt_of_cell? W _ h1)).trans h1
  have ha := HA.out
  cases n with
  | succ n =>
   have c0 : decide (k < (l0.length : Int)) = true := decide_eq_true (by have := HN.out; omega)
   rw [timesG] at ha
   split at ha
   next hc =>
    obtain ⟨p0, p1, pk, p2, p3, p4, p5⟩ := hc
    obtain ⟨ad0, ad1, d0, rfl, x0, x1⟩ := tab_at (Kd.C_below HR0.out HB.out) i k p0 p1 pk p2
    obtain ⟨ad2, ad3, d1, rfl, x2, x3⟩ := tab_at (Kd.C_below HR1.out HB.out) k j pk p3 p4 p5
    have HA2 := Aside0.mk ha
    have q0 := eq_true p0
    have q1 := eq_true p1
    have q2 := eq_true p2
    have q3 := eq_true p3
    have q4 := eq_true p4
    have q5 := eq_true p5
    have qk := eq_true pk
    have HK := Aside0.mk (show wrap64 (k + 1) = k + 1 by unfold wrap64; have := HN.out; omega)
    clear p0 p1 p2 p3 p4 p5 pk ha HA
    go_wp2
    repeat (go_quiet (fail); try go_wp2)
    go_roundg n
    case measure => have := HN.out; omega
    case rel => exact ⟨k + 1, _, n, rfl, by first | rfl | exact congrArg (Value.int .i64) HK.out, ⟨by have := HN.out; omega⟩, ⟨by repeat (first | (with_reducible first | exact HB.out | apply below_alloc | apply pw_below_drewN | apply below_drew1) | exact HB.out)⟩, ⟨HA2.out⟩⟩
   next => cases ha
  | zero =>
   have c0 : decide (k < (l0.length : Int)) = false := decide_eq_false (by have := HN.out; omega)
   rw [timesG] at ha
   obtain rfl := Option.some.inj ha
   clear ha HA HF
   go_wp2
   go_ret
   exact ⟨rfl, by repeat (first | (with_reducible first | exact HB.out | apply below_alloc | apply pw_below_drewN | apply below_drew1) | exact HB.out)⟩
set_option maxHeartbeats 4000000 in
set_option maxRecDepth 100000 in
theorem impl_product.calls (q : Nat) (A0 : Option Addr) (c0 : Nat) (l0 : List (List Int)) (A1 : Option Addr) (c1 : Nat) (l1 : List (List Int)) (r : List (List Int)) (w : World) (hr0 : Kd.C (Kd.slice 3 (Kd.int .i64)) w A0 l0.length l0) (hc0 : l0.length ≤ c0) (hr1 : Kd.C (Kd.slice 3 (Kd.int .i64)) w A1 l1.length l1) (hc1 : l1.length ≤ c1) (h : impl_product.f q l0 l1 = some r) :
 Calls Try.prog 56 #[.slice A0 l0.length c0, .slice A1 l1.length c1] w fun e w' => ∃ v0_ : Value, e = .returned (v0_) ∧ Kd.S (Kd.slice 3 (Kd.int .i64)) 24 (w') w.heap.size (fun _ => True) v0_ r ∧ Below w.heap.size w w' := by
 unfold impl_product.f at h
 split at h
 next hlen =>
  have HU := Aside0.mk h
  have HR0 := Aside0.mk hr0
  have HR1 := Aside0.mk hr1
  have HL := Aside0.mk hlen
  have HB := Aside0.mk (Below.refl w.heap.size w)
  have EG := Aside0.mk (show ∀ args w, (callFunc 98 args).run Try.prog w = .ok (.enter 98 args) w from fun args w => enters_ Try.func98 (by kernel_rfl) rfl args w)
  clear h hr0 hr1 hc0 hc1 hlen
  go_enter Try.func56, Try.ntmps56
  go_wp2_with (go_at_call 49; (refine (impl_square.calls _ 98 #[.pointer (some ⟨w.heap.size, 0, none⟩), .pointer (some ⟨w.heap.size + 1, 0, none⟩)] EG.out q (l0.length : Int) r _ ?side1 HU.out).mono ?_); (case side1 => intro i' j' t W' hF hb; exact times_cell l0 l1 i' j' t A0 A1 c0 c1 w.heap.size (w.heap.size + 1) W' HL.out hF (tab_bx hb (by simp [go_sem]) (by first | (simp; done) | (simp; omega))) (tab_bx hb (by simp [go_sem]) (by first | (simp; done) | (simp; omega))) (Kd.C_below HR0.out (below_step (by repeat (first | (with_reducible first | exact HB.out | apply below_alloc | apply pw_below_drewN | apply below_drew1) | exact HB.out)) hb)) (Kd.C_below HR1.out (below_step (by repeat (first | (with_reducible first | exact HB.out | apply below_alloc | apply pw_below_drewN | apply below_drew1) | exact HB.out)) hb))); rintro e w2 ⟨v1, rfl, ho, hb⟩; have HO := Aside0.mk (show Kd.S (Kd.slice 3 (Kd.int .i64)) 24 (w2) w.heap.size (fun _ => True) v1 r from Kd.S_lower ho (below_size (by repeat (first | (with_reducible first | exact HB.out | apply below_alloc | apply pw_below_drewN | apply below_drew1) | exact HB.out)))); have HB2 := Aside0.mk (below_step (by repeat (first | (with_reducible first | exact HB.out | apply below_alloc | apply pw_below_drewN | apply below_drew1) | exact HB.out)) hb); clear HB ho hb; have HB := HB2; clear HB2)
  go_ret
  exact ⟨_, rfl, HO.out, HB.out⟩
 next => cases h
end Go.Proofs.Ytkhpojcplejdjaa.A

/- MultiplyTables: the product of two tables, checked. -/
namespace Go.Proofs.Ytkhpojcplejdjaa.A
open Go.RowKit Go.Proofs.YtkhpojcplejdjaaW.PrintWords Go.Proofs.YtkhpojcplejdjaaW.PrintLast Go.Proofs.YtkhpojcplejdjaaW.PrintMore
attribute [local go_sem] max2_int min2_int max_two min_two max_three min_three max_four min_four
set_option linter.unusedVariables false
set_option linter.unusedSimpArgs false

def impl_MultiplyTables.f (q : Nat) (l0 l1 : List (List Int)) : Option (List (List Int) × Bool) := (impl_areSquares.f l0 l1).bind fun t => if t = true then (impl_product.f q l0 l1).bind fun u => impl_checked.f u else some ([], false)
set_option maxHeartbeats 4000000 in
set_option maxRecDepth 100000 in
theorem impl_MultiplyTables.calls (q : Nat) (A0 : Option Addr) (c0 : Nat) (l0 : List (List Int)) (A1 : Option Addr) (c1 : Nat) (l1 : List (List Int)) (r1 : List (List Int)) (r2 : Bool) (w : World) (hr0 : Kd.C (Kd.slice 3 (Kd.int .i64)) w A0 l0.length l0) (hc0 : l0.length ≤ c0) (hr1 : Kd.C (Kd.slice 3 (Kd.int .i64)) w A1 l1.length l1) (hc1 : l1.length ≤ c1) (h : impl_MultiplyTables.f q l0 l1 = some (r1, r2)) :
 Calls Try.prog 19 #[.slice A0 l0.length c0, .slice A1 l1.length c1] w fun e w' => ∃ v0_ : Value, e = .returned (.tuple #[v0_, .bool r2]) ∧ Kd.S (Kd.slice 3 (Kd.int .i64)) 24 (w') w.heap.size (fun _ => True) v0_ r1 ∧ Below w.heap.size w w' := by
 unfold impl_MultiplyTables.f at h
 obtain ⟨t, hs, h⟩ := Option.bind_eq_some_iff.mp h
 have HS := Aside0.mk hs
 have HR0 := Aside0.mk hr0
 have HR1 := Aside0.mk hr1
 have HC0 := Aside0.mk hc0
 have HC1 := Aside0.mk hc1
 have HB := Aside0.mk (Below.refl w.heap.size w)
 clear hr0 hr1 hs hc0 hc1
 cases t with
 | false =>
  obtain ⟨rfl, rfl⟩ : [] = r1 ∧ false = r2 := by simpa using h
  clear h
  go_enter Try.func19, Try.ntmps19
  go_wp2_with (go_at_call 54; (refine (impl_areSquares.calls _ _ l0 _ _ l1 false _ ?side1 ?side2 ?side3 ?side4 HS.out).mono ?_); (case side1 => exact Kd.C_below HR0.out (by repeat (first | (with_reducible first | exact HB.out | apply below_alloc | apply pw_below_drewN | apply below_drew1) | exact HB.out))); (case side2 => exact HC0.out); (case side3 => exact Kd.C_below HR1.out (by repeat (first | (with_reducible first | exact HB.out | apply below_alloc | apply pw_below_drewN | apply below_drew1) | exact HB.out))); (case side4 => exact HC1.out); rintro e w1 ⟨rfl, hb⟩; have HB2 := Aside0.mk (below_step (by repeat (first | (with_reducible first | exact HB.out | apply below_alloc | apply pw_below_drewN | apply below_drew1) | exact HB.out)) hb); clear HB hb)
  go_ret2
  exact ⟨_, rfl, Kd.S_nil _ _ _ _ _, HB2.out⟩
 | true =>
  obtain ⟨u, hu, h⟩ := Option.bind_eq_some_iff.mp h
  have HU := Aside0.mk hu
  have HK := Aside0.mk h
  clear h hu
  go_enter Try.func19, Try.ntmps19
  go_wp2_with (first | (go_at_call 54; (refine (impl_areSquares.calls _ _ l0 _ _ l1 true _ ?side1 ?side2 ?side3 ?side4 HS.out).mono ?_); (case side1 => exact Kd.C_below HR0.out (by repeat (first | (with_reducible first | exact HB.out | apply below_alloc | apply pw_below_drewN | apply below_drew1) | exact HB.out))); (case side2 => exact HC0.out); (case side3 => exact Kd.C_below HR1.out (by repeat (first | (with_reducible first | exact HB.out | apply below_alloc | apply pw_below_drewN | apply below_drew1) | exact HB.out))); (case side4 => exact HC1.out); rintro e w1 ⟨rfl, hb⟩; have HB2 := Aside0.mk (below_step (by repeat (first | (with_reducible first | exact HB.out | apply below_alloc | apply pw_below_drewN | apply below_drew1) | exact HB.out)) hb); clear HB hb; have HB := HB2; clear HB2) | (go_at_call 56; (refine (impl_product.calls q _ _ l0 _ _ l1 u _ ?side1 ?side2 ?side3 ?side4 HU.out).mono ?_); (case side1 => exact Kd.C_below HR0.out (by repeat (first | (with_reducible first | exact HB.out | apply below_alloc | apply pw_below_drewN | apply below_drew1) | exact HB.out))); (case side2 => exact HC0.out); (case side3 => exact Kd.C_below HR1.out (by repeat (first | (with_reducible first | exact HB.out | apply below_alloc | apply pw_below_drewN | apply below_drew1) | exact HB.out))); (case side4 => exact HC1.out); rintro e w2 ⟨v1, rfl, ho, hb⟩; have HO := Aside0.mk (show Kd.S (Kd.slice 3 (Kd.int .i64)) 24 (w2) w.heap.size (fun _ => True) v1 u from Kd.S_lower ho (below_size (by repeat (first | (with_reducible first | exact HB.out | apply below_alloc | apply pw_below_drewN | apply below_drew1) | exact HB.out)))); have HB2 := Aside0.mk (below_step (by repeat (first | (with_reducible first | exact HB.out | apply below_alloc | apply pw_below_drewN | apply below_drew1) | exact HB.out)) hb); clear HB ho hb; have HB := HB2; clear HB2; obtain ⟨Au, cu, eu⟩ := Kd.S_slice HO.out; subst eu) | (go_at_call 55; (refine (impl_checked.calls _ w.heap.size _ _ u r1 r2 _ HO.out HK.out).mono ?_); rintro e w3 ⟨v2, rfl, ho, hb⟩; have HO2 := Aside0.mk ho; have HB2 := Aside0.mk (below_step (by repeat (first | (with_reducible first | exact HB.out | apply below_alloc | apply pw_below_drewN | apply below_drew1) | exact HB.out)) hb); clear HB HO ho hb; have HO := HO2; have HB := HB2; clear HO2 HB2))
  go_ret2
  exact ⟨_, rfl, HO.out, HB.out⟩
end Go.Proofs.Ytkhpojcplejdjaa.A

/- ScaleTable: a number times each number, by a function that has captured both. -/
namespace Go.Proofs.Ytkhpojcplejdjaa.A
open Go.RowKit Go.Proofs.YtkhpojcplejdjaaW.PrintWords Go.Proofs.YtkhpojcplejdjaaW.PrintLast Go.Proofs.YtkhpojcplejdjaaW.PrintMore
attribute [local go_sem] max2_int min2_int max_two min_two max_three min_three max_four min_four
set_option linter.unusedVariables false
set_option linter.unusedSimpArgs false

def scaleF (l0 : List (List Int)) (b i j : Int) : Option Int := if 0 ≤ i ∧ i < (l0.length : Int) ∧ 0 ≤ j ∧ j < ((rd_L1 l0 i).length : Int) then some (wrap64 (b * rd (rd_L1 l0 i) j)) else none
def impl_ScaleTable.f (q : Nat) (l0 : List (List Int)) (b : Int) : Option (List (List Int) × Bool) := (impl_IsSquare.f l0).bind fun t => if t = true then ((impl_within.f b 0 1000000).bind fun t2 => if t2 = true then (impl_square.f (scaleF l0 b) q (l0.length : Int)).bind fun u => impl_checked.f u else some ([], false)) else some ([], false)
set_option maxHeartbeats 4000000 in
set_option maxRecDepth 100000 in
theorem scale_cell (l0 : List (List Int)) (b i j t : Int) (A0 : Option Addr) (c0 B0 B1 : Nat) (W : World) (hF : scaleF l0 b i j = some t) (h0 : W.cell? ⟨B0, 0, none⟩ = some (.slice A0 l0.length c0)) (h1 : W.cell? ⟨B1, 0, none⟩ = some (.int .i64 b)) (hr0 : Kd.C (Kd.slice 3 (Kd.int .i64)) W A0 l0.length l0) :
 Calls Try.prog 63 #[.int .i64 i, .int .i64 j, .pointer (some ⟨B1, 0, none⟩), .pointer (some ⟨B0, 0, none⟩)] W fun e w' => e = .returned (.int .i64 t) ∧ Below W.heap.size W w' := by
 unfold scaleF at hF
 split at hF
 next hc =>
  obtain ⟨p0, p1, p3, p4⟩ := hc
  obtain rfl := Option.some.inj hF
  obtain ⟨ad0, ad1, d0, rfl, x0, x1⟩ := tab_at hr0 i j p0 p1 p3 p4
  have q0 := eq_true p0
  have q1 := eq_true p1
  have q3 := eq_true p3
  have q4 := eq_true p4
  clear hr0 hF p0 p1 p3 p4
  go_enter Try.func63, Try.ntmps63
  go_wp2
  repeat (go_quiet (fail); try go_wp2)
  go_ret
  exact ⟨rfl, by repeat (first | exact Below.refl _ _ | apply below_alloc | apply pw_below_drewN | apply below_drew1)⟩
 next => cases hF
set_option maxHeartbeats 4000000 in
set_option maxRecDepth 100000 in
theorem impl_ScaleTable.calls (q : Nat) (A0 : Option Addr) (c0 : Nat) (l0 : List (List Int)) (b : Int) (r1 : List (List Int)) (r2 : Bool) (w : World) (hr0 : Kd.C (Kd.slice 3 (Kd.int .i64)) w A0 l0.length l0) (hc0 : l0.length ≤ c0) (h : impl_ScaleTable.f q l0 b = some (r1, r2)) :
 Calls Try.prog 26 #[.slice A0 l0.length c0, .int .i64 b] w fun e w' => ∃ v0_ : Value, e = .returned (.tuple #[v0_, .bool r2]) ∧ Kd.S (Kd.slice 3 (Kd.int .i64)) 24 (w') w.heap.size (fun _ => True) v0_ r1 ∧ Below w.heap.size w w' := by
 unfold impl_ScaleTable.f at h
 obtain ⟨t, hs, h⟩ := Option.bind_eq_some_iff.mp h
 have HS := Aside0.mk hs
 have HR0 := Aside0.mk hr0
 have HC0 := Aside0.mk hc0
 have HB := Aside0.mk (Below.refl w.heap.size w)
 clear hr0 hs hc0
 cases t with
 | false =>
  obtain ⟨rfl, rfl⟩ : [] = r1 ∧ false = r2 := by simpa using h
  clear h
  go_enter Try.func26, Try.ntmps26
  go_wp2_with (go_at_call 47; (refine (impl_IsSquare.calls _ _ l0 false _ ?side1 ?side2 HS.out).mono ?_); (case side1 => exact Kd.C_below HR0.out (by repeat (first | (with_reducible first | exact HB.out | apply below_alloc | apply pw_below_drewN | apply below_drew1) | exact HB.out))); (case side2 => exact HC0.out); rintro e w1 ⟨rfl, hb⟩; have HB2 := Aside0.mk (below_step (by repeat (first | (with_reducible first | exact HB.out | apply below_alloc | apply pw_below_drewN | apply below_drew1) | exact HB.out)) hb); clear HB hb; have HB := HB2; clear HB2)
  go_ret2
  exact ⟨_, rfl, Kd.S_nil _ _ _ _ _, HB.out⟩
 | true =>
  obtain ⟨t2, hw, h⟩ := Option.bind_eq_some_iff.mp h
  have HW := Aside0.mk hw
  clear hw
  cases t2 with
  | false =>
   obtain ⟨rfl, rfl⟩ : [] = r1 ∧ false = r2 := by simpa using h
   clear h
   go_enter Try.func26, Try.ntmps26
   go_wp2_with (first | (go_at_call 47; (refine (impl_IsSquare.calls _ _ l0 true _ ?side1 ?side2 HS.out).mono ?_); (case side1 => exact Kd.C_below HR0.out (by repeat (first | (with_reducible first | exact HB.out | apply below_alloc | apply pw_below_drewN | apply below_drew1) | exact HB.out))); (case side2 => exact HC0.out); rintro e w1 ⟨rfl, hb⟩; have HB2 := Aside0.mk (below_step (by repeat (first | (with_reducible first | exact HB.out | apply below_alloc | apply pw_below_drewN | apply below_drew1) | exact HB.out)) hb); have x1 := tab_bx hb (B := w.heap.size + 1) (v := .int .i64 b) (by simp [go_sem]) (by first | (simp; done) | (simp; omega)); clear HB hb; have HB := HB2; clear HB2) | (go_at_call 62; (refine (impl_within.calls b 0 1000000 false _ HW.out).mono ?_); rintro e w' ⟨rfl, ⟨nd, rfl⟩⟩))
   go_ret2
   exact ⟨_, rfl, Kd.S_nil _ _ _ _ _, (by repeat (first | (with_reducible first | exact HB.out | apply below_alloc | apply pw_below_drewN | apply below_drew1) | exact HB.out))⟩
  | true =>
   obtain ⟨u, hu, h⟩ := Option.bind_eq_some_iff.mp h
   have HU := Aside0.mk hu
   have HK := Aside0.mk h
   have EG := Aside0.mk (show ∀ args w, (callFunc 63 args).run Try.prog w = .ok (.enter 63 args) w from fun args w => enters_ Try.func63 (by kernel_rfl) rfl args w)
   clear h hu
   go_enter Try.func26, Try.ntmps26
   go_wp2_with (first | (go_at_call 47; (refine (impl_IsSquare.calls _ _ l0 true _ ?side1 ?side2 HS.out).mono ?_); (case side1 => exact Kd.C_below HR0.out (by repeat (first | (with_reducible first | exact HB.out | apply below_alloc | apply pw_below_drewN | apply below_drew1) | exact HB.out))); (case side2 => exact HC0.out); rintro e w1 ⟨rfl, hb⟩; have HB2 := Aside0.mk (below_step (by repeat (first | (with_reducible first | exact HB.out | apply below_alloc | apply pw_below_drewN | apply below_drew1) | exact HB.out)) hb); have x0 := tab_bx hb (B := w.heap.size) (v := .slice A0 l0.length c0) (by simp [go_sem]) (by first | (simp; done) | (simp; omega)); have x1 := tab_bx hb (B := w.heap.size + 1) (v := .int .i64 b) (by simp [go_sem]) (by first | (simp; done) | (simp; omega)); have x2 := Aside0.mk (show w.heap.size < w1.heap.size by have := hb.size; simp at this; omega); have x3 := Aside0.mk (show w.heap.size + 1 < w1.heap.size by have := hb.size; simp at this; omega); clear HB hb; have HB := HB2; clear HB2) | (go_at_call 62; (refine (impl_within.calls b 0 1000000 true _ HW.out).mono ?_); rintro e w' ⟨rfl, ⟨nd, rfl⟩⟩) | (go_at_call 49; (refine (impl_square.calls _ 63 #[.pointer (some ⟨w.heap.size + 1, 0, none⟩), .pointer (some ⟨w.heap.size, 0, none⟩)] EG.out q (l0.length : Int) u _ ?side1 HU.out).mono ?_); (case side1 => intro i' j' t W' hF hb; exact scale_cell l0 b i' j' t A0 c0 w.heap.size (w.heap.size + 1) W' hF (tab_bx hb x0 x2.out) (tab_bx hb x1 x3.out) (Kd.C_below HR0.out (below_step (by repeat (first | (with_reducible first | exact HB.out | apply below_alloc | apply pw_below_drewN | apply below_drew1) | exact HB.out)) hb))); rintro e w2 ⟨v1, rfl, ho, hb⟩; have HO := Aside0.mk (show Kd.S (Kd.slice 3 (Kd.int .i64)) 24 (w2) w.heap.size (fun _ => True) v1 u from Kd.S_lower ho (below_size (by repeat (first | (with_reducible first | exact HB.out | apply below_alloc | apply pw_below_drewN | apply below_drew1) | exact HB.out)))); have HB2 := Aside0.mk (below_step (by repeat (first | (with_reducible first | exact HB.out | apply below_alloc | apply pw_below_drewN | apply below_drew1) | exact HB.out)) hb); clear HB ho hb x0 x1 x2 x3; have HB := HB2; clear HB2; obtain ⟨Au, cu, eu⟩ := Kd.S_slice HO.out; subst eu) | (go_at_call 55; (refine (impl_checked.calls _ w.heap.size _ _ u r1 r2 _ HO.out HK.out).mono ?_); rintro e w3 ⟨v2, rfl, ho, hb⟩; have HO2 := Aside0.mk ho; have HB2 := Aside0.mk (below_step (by repeat (first | (with_reducible first | exact HB.out | apply below_alloc | apply pw_below_drewN | apply below_drew1) | exact HB.out)) hb); clear HB HO ho hb; have HO := HO2; have HB := HB2; clear HO2 HB2))
   go_ret2
   exact ⟨_, rfl, HO.out, HB.out⟩
end Go.Proofs.Ytkhpojcplejdjaa.A

-- made by a program of this repo (wip/pp.py) through the kit's printer
namespace Go.Proofs.Ytkhpojcplejdjaa.A
open Go.RowKit Go.Proofs.YtkhpojcplejdjaaW.PrintWords Go.Proofs.YtkhpojcplejdjaaW.PrintLast Go.Proofs.YtkhpojcplejdjaaW.PrintMore
attribute [local go_sem] max2_int min2_int max_two min_two max_three min_three max_four min_four
set_option linter.unusedVariables false
set_option linter.unusedSimpArgs false

/-! ### laws_FnTablesMultiplied: function 4 -/
mutual
def laws_FnTablesMultiplied.j0 : Nat → List Int → List (List Int) → List (List Int) → List (List Int) → Bool → List (List Int) → Bool → Bool → Option (Bool)
 | 0, _, _, _, _, _, _, _, _ => none
 | k + 1, x1, x5, x6, x7, x8, x11, x12, x91 => if x91 = true then (some false) else ((impl_EqualSum.f k x5).bind fun bt492 => ((impl_EqualSum.f k x6).bind fun bt494 => (if bt492.2 = true then (laws_FnTablesMultiplied.j1 k x1 x7 x8 x11 x12 bt492.1 bt494.1 bt494.2) else (laws_FnTablesMultiplied.j1 k x1 x7 x8 x11 x12 bt492.1 bt494.1 false))))
def laws_FnTablesMultiplied.j1 : Nat → List Int → List (List Int) → Bool → List (List Int) → Bool → Int → Int → Bool → Option (Bool)
 | 0, _, _, _, _, _, _, _, _ => none
 | k + 1, x1, x7, x8, x11, x12, x15, x17, x105 => if x105 = true then (if x8 = true then ((impl_EqualSum.f k x7).bind fun bt496 => (if bt496.2 = true then (if bt496.1 = (wrap64 (x15 * x17)) then (laws_FnTablesMultiplied.j2 k x1 x11 x12 x15 x17) else (some false)) else (some false))) else (laws_FnTablesMultiplied.j2 k x1 x11 x12 x15 x17)) else (laws_FnTablesMultiplied.j3 k x1)
def laws_FnTablesMultiplied.j3 : Nat → List Int → Option (Bool)
 | 0, _ => none
 | k + 1, x1 => (spec_DrawScaleTable.f k x1).bind fun bt500 => ((impl_ScaleTable.f k bt500.1 bt500.2).bind fun bt504 => ((spec_ScaleTable.f k bt500.1 bt500.2).bind fun bt508 => (if (bt504.2 != bt508.2) = true then (laws_FnTablesMultiplied.j4 k x1 true) else ((laws_yRows.f k bt504.1 bt508.1).bind fun t512 => (laws_FnTablesMultiplied.j4 k x1 (!t512))))))
def laws_FnTablesMultiplied.j4 : Nat → List Int → Bool → Option (Bool)
 | 0, _, _ => none
 | k + 1, x1, x161 => if x161 = true then (some false) else ((spec_DrawGiftTable.f x1).bind fun bt513 => ((impl_GiftTable.f k bt513.1 bt513.2.1 bt513.2.2.1 bt513.2.2.2.1 bt513.2.2.2.2).bind fun bt518 => ((spec_GiftTable.f k bt513.1 bt513.2.1 bt513.2.2.1 bt513.2.2.2.1 bt513.2.2.2.2).bind fun bt522 => (if (bt518.2 != bt522.2) = true then (laws_FnTablesMultiplied.j5 k bt513.2.2.2.1 bt518.1 bt518.2 true) else ((laws_yRows.f k bt518.1 bt522.1).bind fun t526 => (laws_FnTablesMultiplied.j5 k bt513.2.2.2.1 bt518.1 bt518.2 (!t526)))))))
def laws_FnTablesMultiplied.j5 : Nat → Int → List (List Int) → Bool → Bool → Option (Bool)
 | 0, _, _, _, _ => none
 | k + 1, x32, x34, x35, x196 => if x196 = true then (some false) else (if x35 = true then ((impl_EqualSum.f k x34).bind fun bt527 => (if bt527.2 = true then (some (bt527.1 == x32)) else (some false))) else (some true))
def laws_FnTablesMultiplied.j2 : Nat → List Int → List (List Int) → Bool → Int → Int → Option (Bool)
 | 0, _, _, _, _, _ => none
 | k + 1, x1, x11, x12, x15, x17 => if x12 = true then ((impl_EqualSum.f k x11).bind fun bt498 => (if bt498.2 = true then (if bt498.1 = (wrap64 (x15 + x17)) then (laws_FnTablesMultiplied.j3 k x1) else (some false)) else (some false))) else (laws_FnTablesMultiplied.j3 k x1)
end
def laws_FnTablesMultiplied.f (k : Nat) (l0 : List Int) (l1 : List Int) : Option (Bool) := (laws_big.f l0 l1).bind fun t467 => (if t467 = true then (some true) else ((spec_DrawMultiplyTables.f k l0).bind fun bt468 => ((impl_MultiplyTables.f k bt468.1 bt468.2).bind fun bt474 => ((spec_MultiplyTables.f k bt468.1 bt468.2).bind fun bt478 => ((impl_AddTables.f k bt468.1 bt468.2).bind fun bt482 => ((spec_AddTables.f k bt468.1 bt468.2).bind fun bt486 => (if (bt474.2 != bt478.2) = true then (laws_FnTablesMultiplied.j0 k l1 bt468.1 bt468.2 bt474.1 bt474.2 bt482.1 bt482.2 true) else ((laws_yRows.f k bt474.1 bt478.1).bind fun t490 => (if t490 = true then (if (bt482.2 != bt486.2) = true then (laws_FnTablesMultiplied.j0 k l1 bt468.1 bt468.2 bt474.1 bt474.2 bt482.1 bt482.2 true) else ((laws_yRows.f k bt482.1 bt486.1).bind fun t491 => (laws_FnTablesMultiplied.j0 k l1 bt468.1 bt468.2 bt474.1 bt474.2 bt482.1 bt482.2 (!t491)))) else (laws_FnTablesMultiplied.j0 k l1 bt468.1 bt468.2 bt474.1 bt474.2 bt482.1 bt482.2 true))))))))))
set_option maxHeartbeats 8000000 in
set_option maxRecDepth 100000 in
theorem laws_FnTablesMultiplied.calls (k : Nat) (A0 : Option Addr) (c0 : Nat) (l0 : List Int) (A1 : Option Addr) (c1 : Nat) (l1 : List Int) (r : Bool) (w : World) (hr0 : Kd.C (Kd.int .u8) w A0 l0.length l0) (hc0 : l0.length ≤ c0) (hr1 : Kd.C (Kd.int .u8) w A1 l1.length l1) (hc1 : l1.length ≤ c1) (h : laws_FnTablesMultiplied.f k l0 l1 = some r) :
 Calls Try.prog 4 #[.slice A0 l0.length c0, .slice A1 l1.length c1] w fun e w' => e = .returned (.bool r) ∧ Below w.heap.size w w' := by
 have HR0 := Aside0.mk hr0
 have HC0 := Aside0.mk hc0
 clear hr0 hc0
 have HR1 := Aside0.mk hr1
 have HC1 := Aside0.mk hc1
 clear hr1 hc1
 have HB := Aside0.mk (Below.refl w.heap.size w)
 have H : ((laws_big.f l0 l1).bind fun t467 => (if t467 = true then (some true) else ((spec_DrawMultiplyTables.f k l0).bind fun bt468 => ((impl_MultiplyTables.f k bt468.1 bt468.2).bind fun bt474 => ((spec_MultiplyTables.f k bt468.1 bt468.2).bind fun bt478 => ((impl_AddTables.f k bt468.1 bt468.2).bind fun bt482 => ((spec_AddTables.f k bt468.1 bt468.2).bind fun bt486 => (if (bt474.2 != bt478.2) = true then (laws_FnTablesMultiplied.j0 k l1 bt468.1 bt468.2 bt474.1 bt474.2 bt482.1 bt482.2 true) else ((laws_yRows.f k bt474.1 bt478.1).bind fun t490 => (if t490 = true then (if (bt482.2 != bt486.2) = true then (laws_FnTablesMultiplied.j0 k l1 bt468.1 bt468.2 bt474.1 bt474.2 bt482.1 bt482.2 true) else ((laws_yRows.f k bt482.1 bt486.1).bind fun t491 => (laws_FnTablesMultiplied.j0 k l1 bt468.1 bt468.2 bt474.1 bt474.2 bt482.1 bt482.2 (!t491)))) else (laws_FnTablesMultiplied.j0 k l1 bt468.1 bt468.2 bt474.1 bt474.2 bt482.1 bt482.2 true))))))))))) = some r := h
 clear h
 replace H := Option.bind_eq_some_iff.mp H
 obtain ⟨t467, A30, H⟩ := H
 replace H : (if t467 = true then (some true) else ((spec_DrawMultiplyTables.f k l0).bind fun bt468 => ((impl_MultiplyTables.f k bt468.1 bt468.2).bind fun bt474 => ((spec_MultiplyTables.f k bt468.1 bt468.2).bind fun bt478 => ((impl_AddTables.f k bt468.1 bt468.2).bind fun bt482 => ((spec_AddTables.f k bt468.1 bt468.2).bind fun bt486 => (if (bt474.2 != bt478.2) = true then (laws_FnTablesMultiplied.j0 k l1 bt468.1 bt468.2 bt474.1 bt474.2 bt482.1 bt482.2 true) else ((laws_yRows.f k bt474.1 bt478.1).bind fun t490 => (if t490 = true then (if (bt482.2 != bt486.2) = true then (laws_FnTablesMultiplied.j0 k l1 bt468.1 bt468.2 bt474.1 bt474.2 bt482.1 bt482.2 true) else ((laws_yRows.f k bt482.1 bt486.1).bind fun t491 => (laws_FnTablesMultiplied.j0 k l1 bt468.1 bt468.2 bt474.1 bt474.2 bt482.1 bt482.2 (!t491)))) else (laws_FnTablesMultiplied.j0 k l1 bt468.1 bt468.2 bt474.1 bt474.2 bt482.1 bt482.2 true)))))))))) = some r := H
 have A3 := Aside0.mk A30
 clear A30
 by_cases c4 : t467 = true
 · subst c4
   have H1 : (some true) = some r := by rw [if_pos rfl] at H; exact H
   clear H
   have H := H1
   clear H1
   obtain rfl := Option.some.inj H
   go_enter Try.func4, Try.ntmps4
   go_wp2_with (first | ((with_reducible refine gate_callee (f := 17) rfl ?_); refine goesL_ (some 42) rfl rfl Try.func17 (by kernel_rfl) rfl #[.slice A0 l0.length c0, .slice A1 l1.length c1] rfl (by (try simp only [List.map_toArray, List.map_cons, List.map_nil]); first | done | rfl | (simp only [List.length_drop, List.length_take]; rfl)) ?_; (with_reducible refine (laws_big.calls _ _ l0 _ _ l1 true _ ?side1 ?side2 ?side3 ?side4 A3.out).mono ?_); (case side1 => repeat (first | exact HR0.out | (with_reducible refine Kd.C_alloc ?_ _) | (with_reducible refine Kd.C_drewN ?_ _) | (with_reducible refine Kd.C_drew ?_))); (case side2 => exact HC0.out); (case side3 => repeat (first | exact HR1.out | (with_reducible refine Kd.C_alloc ?_ _) | (with_reducible refine Kd.C_drewN ?_ _) | (with_reducible refine Kd.C_drew ?_))); (case side4 => exact HC1.out); rintro e w' ⟨rfl, ⟨nd, rfl⟩⟩; refine ⟨_, rfl, ?_⟩))
   go_ret
   exact ⟨by first | rfl | (simp [errW_none, errW_some] <;> rfl) | (simp [*, errW_none, errW_some] <;> rfl), by repeat (first | (with_reducible first | exact HB.out | apply below_alloc | apply pw_below_drewN | apply below_drew1) | exact HB.out)⟩
 · replace c4 := Bool.eq_false_iff.mpr c4
   subst c4
   have H1 : ((spec_DrawMultiplyTables.f k l0).bind fun bt468 => ((impl_MultiplyTables.f k bt468.1 bt468.2).bind fun bt474 => ((spec_MultiplyTables.f k bt468.1 bt468.2).bind fun bt478 => ((impl_AddTables.f k bt468.1 bt468.2).bind fun bt482 => ((spec_AddTables.f k bt468.1 bt468.2).bind fun bt486 => (if (bt474.2 != bt478.2) = true then (laws_FnTablesMultiplied.j0 k l1 bt468.1 bt468.2 bt474.1 bt474.2 bt482.1 bt482.2 true) else ((laws_yRows.f k bt474.1 bt478.1).bind fun t490 => (if t490 = true then (if (bt482.2 != bt486.2) = true then (laws_FnTablesMultiplied.j0 k l1 bt468.1 bt468.2 bt474.1 bt474.2 bt482.1 bt482.2 true) else ((laws_yRows.f k bt482.1 bt486.1).bind fun t491 => (laws_FnTablesMultiplied.j0 k l1 bt468.1 bt468.2 bt474.1 bt474.2 bt482.1 bt482.2 (!t491)))) else (laws_FnTablesMultiplied.j0 k l1 bt468.1 bt468.2 bt474.1 bt474.2 bt482.1 bt482.2 true))))))))) = some r := by rw [if_neg (show ¬ (false = true) by decide)] at H; exact H
   clear H
   have H := H1
   clear H1
   replace H := Option.bind_eq_some_iff.mp H
   obtain ⟨⟨t468, t471⟩, A50, H⟩ := H
   replace H : ((impl_MultiplyTables.f k t468 t471).bind fun bt474 => ((spec_MultiplyTables.f k t468 t471).bind fun bt478 => ((impl_AddTables.f k t468 t471).bind fun bt482 => ((spec_AddTables.f k t468 t471).bind fun bt486 => (if (bt474.2 != bt478.2) = true then (laws_FnTablesMultiplied.j0 k l1 t468 t471 bt474.1 bt474.2 bt482.1 bt482.2 true) else ((laws_yRows.f k bt474.1 bt478.1).bind fun t490 => (if t490 = true then (if (bt482.2 != bt486.2) = true then (laws_FnTablesMultiplied.j0 k l1 t468 t471 bt474.1 bt474.2 bt482.1 bt482.2 true) else ((laws_yRows.f k bt482.1 bt486.1).bind fun t491 => (laws_FnTablesMultiplied.j0 k l1 t468 t471 bt474.1 bt474.2 bt482.1 bt482.2 (!t491)))) else (laws_FnTablesMultiplied.j0 k l1 t468 t471 bt474.1 bt474.2 bt482.1 bt482.2 true)))))))) = some r := H
   have A5 := Aside0.mk A50
   clear A50
   replace H := Option.bind_eq_some_iff.mp H
   obtain ⟨⟨t474, t475⟩, A60, H⟩ := H
   replace H : ((spec_MultiplyTables.f k t468 t471).bind fun bt478 => ((impl_AddTables.f k t468 t471).bind fun bt482 => ((spec_AddTables.f k t468 t471).bind fun bt486 => (if (t475 != bt478.2) = true then (laws_FnTablesMultiplied.j0 k l1 t468 t471 t474 t475 bt482.1 bt482.2 true) else ((laws_yRows.f k t474 bt478.1).bind fun t490 => (if t490 = true then (if (bt482.2 != bt486.2) = true then (laws_FnTablesMultiplied.j0 k l1 t468 t471 t474 t475 bt482.1 bt482.2 true) else ((laws_yRows.f k bt482.1 bt486.1).bind fun t491 => (laws_FnTablesMultiplied.j0 k l1 t468 t471 t474 t475 bt482.1 bt482.2 (!t491)))) else (laws_FnTablesMultiplied.j0 k l1 t468 t471 t474 t475 bt482.1 bt482.2 true))))))) = some r := H
   have A6 := Aside0.mk A60
   clear A60
   replace H := Option.bind_eq_some_iff.mp H
   obtain ⟨⟨t478, t481⟩, A70, H⟩ := H
   replace H : ((impl_AddTables.f k t468 t471).bind fun bt482 => ((spec_AddTables.f k t468 t471).bind fun bt486 => (if (t475 != t481) = true then (laws_FnTablesMultiplied.j0 k l1 t468 t471 t474 t475 bt482.1 bt482.2 true) else ((laws_yRows.f k t474 t478).bind fun t490 => (if t490 = true then (if (bt482.2 != bt486.2) = true then (laws_FnTablesMultiplied.j0 k l1 t468 t471 t474 t475 bt482.1 bt482.2 true) else ((laws_yRows.f k bt482.1 bt486.1).bind fun t491 => (laws_FnTablesMultiplied.j0 k l1 t468 t471 t474 t475 bt482.1 bt482.2 (!t491)))) else (laws_FnTablesMultiplied.j0 k l1 t468 t471 t474 t475 bt482.1 bt482.2 true)))))) = some r := H
   have A7 := Aside0.mk A70
   clear A70
   replace H := Option.bind_eq_some_iff.mp H
   obtain ⟨⟨t482, t483⟩, A80, H⟩ := H
   replace H : ((spec_AddTables.f k t468 t471).bind fun bt486 => (if (t475 != t481) = true then (laws_FnTablesMultiplied.j0 k l1 t468 t471 t474 t475 t482 t483 true) else ((laws_yRows.f k t474 t478).bind fun t490 => (if t490 = true then (if (t483 != bt486.2) = true then (laws_FnTablesMultiplied.j0 k l1 t468 t471 t474 t475 t482 t483 true) else ((laws_yRows.f k t482 bt486.1).bind fun t491 => (laws_FnTablesMultiplied.j0 k l1 t468 t471 t474 t475 t482 t483 (!t491)))) else (laws_FnTablesMultiplied.j0 k l1 t468 t471 t474 t475 t482 t483 true))))) = some r := H
   have A8 := Aside0.mk A80
   clear A80
   replace H := Option.bind_eq_some_iff.mp H
   obtain ⟨⟨t486, t489⟩, A90, H⟩ := H
   replace H : (if (t475 != t481) = true then (laws_FnTablesMultiplied.j0 k l1 t468 t471 t474 t475 t482 t483 true) else ((laws_yRows.f k t474 t478).bind fun t490 => (if t490 = true then (if (t483 != t489) = true then (laws_FnTablesMultiplied.j0 k l1 t468 t471 t474 t475 t482 t483 true) else ((laws_yRows.f k t482 t486).bind fun t491 => (laws_FnTablesMultiplied.j0 k l1 t468 t471 t474 t475 t482 t483 (!t491)))) else (laws_FnTablesMultiplied.j0 k l1 t468 t471 t474 t475 t482 t483 true)))) = some r := H
   have A9 := Aside0.mk A90
   clear A90
   have HC10 := Aside0.mk H
   clear H
   go_enter Try.func4, Try.ntmps4
   go_upto_region 8 with (first | ((with_reducible refine gate_callee (f := 17) rfl ?_); refine goesL_ (some 42) rfl rfl Try.func17 (by kernel_rfl) rfl #[.slice A0 l0.length c0, .slice A1 l1.length c1] rfl (by (try simp only [List.map_toArray, List.map_cons, List.map_nil]); first | done | rfl | (simp only [List.length_drop, List.length_take]; rfl)) ?_; (with_reducible refine (laws_big.calls _ _ l0 _ _ l1 false _ ?side1 ?side2 ?side3 ?side4 A3.out).mono ?_); (case side1 => repeat (first | exact HR0.out | (with_reducible refine Kd.C_alloc ?_ _) | (with_reducible refine Kd.C_drewN ?_ _) | (with_reducible refine Kd.C_drew ?_))); (case side2 => exact HC0.out); (case side3 => repeat (first | exact HR1.out | (with_reducible refine Kd.C_alloc ?_ _) | (with_reducible refine Kd.C_drewN ?_ _) | (with_reducible refine Kd.C_drew ?_))); (case side4 => exact HC1.out); rintro e w' ⟨rfl, ⟨nd, rfl⟩⟩; refine ⟨_, rfl, ?_⟩) | ((with_reducible refine gate_callee (f := 18) rfl ?_); refine goesL_ (some 45) rfl rfl Try.func18 (by kernel_rfl) rfl #[.slice A0 l0.length c0] rfl (by (try simp only [List.map_toArray, List.map_cons, List.map_nil]); first | done | rfl | (simp only [List.length_drop, List.length_take]; rfl)) ?_; (with_reducible refine (spec_DrawMultiplyTables.calls k _ _ l0 t468 t471 _ ?side1 ?side2 A5.out).mono ?_); (case side1 => repeat (first | exact HR0.out | (with_reducible refine Kd.C_alloc ?_ _) | (with_reducible refine Kd.C_drewN ?_ _) | (with_reducible refine Kd.C_drew ?_))); (case side2 => exact HC0.out); rintro e w11 ⟨v469, v472, rfl, ho0, ho1, hb⟩; refine ⟨_, rfl, ?_⟩; have n0_ := Aside0.mk (Kd.V_lower (Kd.V_mono (ok' := fun k_ => True) ho0 (fun k_ hk_ => trivial)) (below_size (by repeat (first | (with_reducible first | exact HB.out | apply below_alloc | apply pw_below_drewN | apply below_drew1) | exact HB.out)))); have n1_ := Aside0.mk (Kd.V_lower (Kd.V_mono (ok' := fun k_ => True) ho1 (fun k_ hk_ => trivial)) (below_size (by repeat (first | (with_reducible first | exact HB.out | apply below_alloc | apply pw_below_drewN | apply below_drew1) | exact HB.out)))); have n2_ := Aside0.mk (below_step (by repeat (first | (with_reducible first | exact HB.out | apply below_alloc | apply pw_below_drewN | apply below_drew1) | exact HB.out)) hb); clear HB; have HO470 := n0_; have HO473 := n1_; have HB := n2_; clear n0_ n1_ n2_; (try clear hb); (try clear hb2); (try clear hk); (try clear hi); (try clear ho0); (try clear ho1); obtain ⟨Ao12, co12, eo12⟩ := Kd.V_slice HO470.out; subst eo12; obtain ⟨Ao13, co13, eo13⟩ := Kd.V_slice HO473.out; subst eo13) | ((with_reducible refine gate_callee (f := 19) rfl ?_); refine goesL_ (some 51) rfl rfl Try.func19 (by kernel_rfl) rfl #[.slice Ao12 t468.length co12, .slice Ao13 t471.length co13] rfl (by (try simp only [List.map_toArray, List.map_cons, List.map_nil]); first | done | rfl | (simp only [List.length_drop, List.length_take]; rfl)) ?_; (with_reducible refine (impl_MultiplyTables.calls k _ _ t468 _ _ t471 t474 t475 _ ?side1 ?side2 ?side3 ?side4 A6.out).mono ?_); (case side1 => repeat (first | exact (Kd.V_reads' HO470.out).2.2 | (with_reducible refine Kd.C_alloc ?_ _) | (with_reducible refine Kd.C_drewN ?_ _) | (with_reducible refine Kd.C_drew ?_))); (case side2 => exact (Kd.V_reads' HO470.out).2.1); (case side3 => repeat (first | exact (Kd.V_reads' HO473.out).2.2 | (with_reducible refine Kd.C_alloc ?_ _) | (with_reducible refine Kd.C_drewN ?_ _) | (with_reducible refine Kd.C_drew ?_))); (case side4 => exact (Kd.V_reads' HO473.out).2.1); rintro e w14 ⟨v476, rfl, ho0, hb⟩; refine ⟨_, rfl, ?_⟩; have n0_ := Aside0.mk (Kd.V_elder' (by (with_reducible repeat (first | apply Kd.V_alloc | apply Kd.V_drewN | apply Kd.V_drew)); exact HO470.out) (Kd.S_base ho0) hb); have n1_ := Aside0.mk (Kd.V_elder' (by (with_reducible repeat (first | apply Kd.V_alloc | apply Kd.V_drewN | apply Kd.V_drew)); exact HO473.out) (Kd.S_base ho0) hb); have n2_ := Aside0.mk (Kd.S_lower ho0 (below_size (by repeat (first | (with_reducible first | exact HB.out | apply below_alloc | apply pw_below_drewN | apply below_drew1) | exact HB.out)))); have n3_ := Aside0.mk (below_step (by repeat (first | (with_reducible first | exact HB.out | apply below_alloc | apply pw_below_drewN | apply below_drew1) | exact HB.out)) hb); clear HO470; clear HO473; clear HB; have HO470 := n0_; have HO473 := n1_; have HO477 := n2_; have HB := n3_; clear n0_ n1_ n2_ n3_; (try clear hb); (try clear hb2); (try clear hk); (try clear hi); (try clear ho0)) | ((with_reducible refine gate_callee (f := 20) rfl ?_); refine goesL_ (some 57) rfl rfl Try.func20 (by kernel_rfl) rfl #[.slice Ao12 t468.length co12, .slice Ao13 t471.length co13] rfl (by (try simp only [List.map_toArray, List.map_cons, List.map_nil]); first | done | rfl | (simp only [List.length_drop, List.length_take]; rfl)) ?_; (with_reducible refine (spec_MultiplyTables.calls k _ _ t468 _ _ t471 t478 t481 _ ?side1 ?side2 ?side3 ?side4 A7.out).mono ?_); (case side1 => repeat (first | exact (Kd.V_reads' HO470.out).2.2 | (with_reducible refine Kd.C_alloc ?_ _) | (with_reducible refine Kd.C_drewN ?_ _) | (with_reducible refine Kd.C_drew ?_))); (case side2 => exact (Kd.V_reads' HO470.out).2.1); (case side3 => repeat (first | exact (Kd.V_reads' HO473.out).2.2 | (with_reducible refine Kd.C_alloc ?_ _) | (with_reducible refine Kd.C_drewN ?_ _) | (with_reducible refine Kd.C_drew ?_))); (case side4 => exact (Kd.V_reads' HO473.out).2.1); rintro e w15 ⟨v479, rfl, ho0, hb⟩; refine ⟨_, rfl, ?_⟩; have n0_ := Aside0.mk (Kd.V_below (by (with_reducible repeat (first | apply Kd.V_alloc | apply Kd.V_drewN | apply Kd.V_drew)); exact HO470.out) hb); have n1_ := Aside0.mk (Kd.V_below (by (with_reducible repeat (first | apply Kd.V_alloc | apply Kd.V_drewN | apply Kd.V_drew)); exact HO473.out) hb); have n2_ := Aside0.mk (Kd.S_below (by (with_reducible repeat (first | apply Kd.S_alloc | apply Kd.S_drewN | apply Kd.S_drew)); exact HO477.out) hb); have n3_ := Aside0.mk (Kd.V_lower (Kd.V_mono (ok' := fun k_ => some k_ ≠ (v476 : Value).ownBlock) ho0 (fun k_ hk_ => (Kd.fresh' (Kd.S_lt (by (with_reducible repeat (first | apply Kd.S_alloc | apply Kd.S_drewN | apply Kd.S_drew)); exact HO477.out)) k_ hk_))) (below_size (by repeat (first | (with_reducible first | exact HB.out | apply below_alloc | apply pw_below_drewN | apply below_drew1) | exact HB.out)))); have n4_ := Aside0.mk (below_step (by repeat (first | (with_reducible first | exact HB.out | apply below_alloc | apply pw_below_drewN | apply below_drew1) | exact HB.out)) hb); clear HO470; clear HO473; clear HO477; clear HB; have HO470 := n0_; have HO473 := n1_; have HO477 := n2_; have HO480 := n3_; have HB := n4_; clear n0_ n1_ n2_ n3_ n4_; (try clear hb); (try clear hb2); (try clear hk); (try clear hi); (try clear ho0)) | ((with_reducible refine gate_callee (f := 21) rfl ?_); refine goesL_ (some 63) rfl rfl Try.func21 (by kernel_rfl) rfl #[.slice Ao12 t468.length co12, .slice Ao13 t471.length co13] rfl (by (try simp only [List.map_toArray, List.map_cons, List.map_nil]); first | done | rfl | (simp only [List.length_drop, List.length_take]; rfl)) ?_; (with_reducible refine (impl_AddTables.calls k _ _ t468 _ _ t471 t482 t483 _ ?side1 ?side2 ?side3 ?side4 A8.out).mono ?_); (case side1 => repeat (first | exact (Kd.V_reads' HO470.out).2.2 | (with_reducible refine Kd.C_alloc ?_ _) | (with_reducible refine Kd.C_drewN ?_ _) | (with_reducible refine Kd.C_drew ?_))); (case side2 => exact (Kd.V_reads' HO470.out).2.1); (case side3 => repeat (first | exact (Kd.V_reads' HO473.out).2.2 | (with_reducible refine Kd.C_alloc ?_ _) | (with_reducible refine Kd.C_drewN ?_ _) | (with_reducible refine Kd.C_drew ?_))); (case side4 => exact (Kd.V_reads' HO473.out).2.1); rintro e w16 ⟨v484, rfl, ho0, hb⟩; refine ⟨_, rfl, ?_⟩; have n0_ := Aside0.mk (Kd.V_elder' (by (with_reducible repeat (first | apply Kd.V_alloc | apply Kd.V_drewN | apply Kd.V_drew)); exact HO470.out) (Kd.S_base ho0) hb); have n1_ := Aside0.mk (Kd.V_elder' (by (with_reducible repeat (first | apply Kd.V_alloc | apply Kd.V_drewN | apply Kd.V_drew)); exact HO473.out) (Kd.S_base ho0) hb); have n2_ := Aside0.mk (Kd.S_elder' (by (with_reducible repeat (first | apply Kd.S_alloc | apply Kd.S_drewN | apply Kd.S_drew)); exact HO477.out) (Kd.S_base ho0) hb); have n3_ := Aside0.mk (Kd.V_elder' (by (with_reducible repeat (first | apply Kd.V_alloc | apply Kd.V_drewN | apply Kd.V_drew)); exact HO480.out) (Kd.S_base ho0) hb); have n4_ := Aside0.mk (Kd.S_lower (Kd.S_new' ho0 (Kd.S_lt (by (with_reducible repeat (first | apply Kd.S_alloc | apply Kd.S_drewN | apply Kd.S_drew)); exact HO477.out))) (below_size (by repeat (first | (with_reducible first | exact HB.out | apply below_alloc | apply pw_below_drewN | apply below_drew1) | exact HB.out)))); have n5_ := Aside0.mk (below_step (by repeat (first | (with_reducible first | exact HB.out | apply below_alloc | apply pw_below_drewN | apply below_drew1) | exact HB.out)) hb); clear HO470; clear HO473; clear HO477; clear HO480; clear HB; have HO470 := n0_; have HO473 := n1_; have HO477 := n2_; have HO480 := n3_; have HO485 := n4_; have HB := n5_; clear n0_ n1_ n2_ n3_ n4_ n5_; (try clear hb); (try clear hb2); (try clear hk); (try clear hi); (try clear ho0)) | ((with_reducible refine gate_callee (f := 22) rfl ?_); refine goesL_ (some 69) rfl rfl Try.func22 (by kernel_rfl) rfl #[.slice Ao12 t468.length co12, .slice Ao13 t471.length co13] rfl (by (try simp only [List.map_toArray, List.map_cons, List.map_nil]); first | done | rfl | (simp only [List.length_drop, List.length_take]; rfl)) ?_; (with_reducible refine (spec_AddTables.calls k _ _ t468 _ _ t471 t486 t489 _ ?side1 ?side2 ?side3 ?side4 A9.out).mono ?_); (case side1 => repeat (first | exact (Kd.V_reads' HO470.out).2.2 | (with_reducible refine Kd.C_alloc ?_ _) | (with_reducible refine Kd.C_drewN ?_ _) | (with_reducible refine Kd.C_drew ?_))); (case side2 => exact (Kd.V_reads' HO470.out).2.1); (case side3 => repeat (first | exact (Kd.V_reads' HO473.out).2.2 | (with_reducible refine Kd.C_alloc ?_ _) | (with_reducible refine Kd.C_drewN ?_ _) | (with_reducible refine Kd.C_drew ?_))); (case side4 => exact (Kd.V_reads' HO473.out).2.1); rintro e w17 ⟨v487, rfl, ho0, hb⟩; refine ⟨_, rfl, ?_⟩; have n0_ := Aside0.mk (Kd.V_below (by (with_reducible repeat (first | apply Kd.V_alloc | apply Kd.V_drewN | apply Kd.V_drew)); exact HO470.out) hb); have n1_ := Aside0.mk (Kd.V_below (by (with_reducible repeat (first | apply Kd.V_alloc | apply Kd.V_drewN | apply Kd.V_drew)); exact HO473.out) hb); have n2_ := Aside0.mk (Kd.S_below (by (with_reducible repeat (first | apply Kd.S_alloc | apply Kd.S_drewN | apply Kd.S_drew)); exact HO477.out) hb); have n3_ := Aside0.mk (Kd.V_below (by (with_reducible repeat (first | apply Kd.V_alloc | apply Kd.V_drewN | apply Kd.V_drew)); exact HO480.out) hb); have n4_ := Aside0.mk (Kd.S_below (by (with_reducible repeat (first | apply Kd.S_alloc | apply Kd.S_drewN | apply Kd.S_drew)); exact HO485.out) hb); have n5_ := Aside0.mk (Kd.V_lower (Kd.V_mono (ok' := fun k_ => some k_ ≠ (v476 : Value).ownBlock ∧ some k_ ≠ (v484 : Value).ownBlock) ho0 (fun k_ hk_ => ⟨(Kd.fresh' (Kd.S_lt (by (with_reducible repeat (first | apply Kd.S_alloc | apply Kd.S_drewN | apply Kd.S_drew)); exact HO477.out)) k_ hk_), (Kd.fresh' (Kd.S_lt (by (with_reducible repeat (first | apply Kd.S_alloc | apply Kd.S_drewN | apply Kd.S_drew)); exact HO485.out)) k_ hk_)⟩)) (below_size (by repeat (first | (with_reducible first | exact HB.out | apply below_alloc | apply pw_below_drewN | apply below_drew1) | exact HB.out)))); have n6_ := Aside0.mk (below_step (by repeat (first | (with_reducible first | exact HB.out | apply below_alloc | apply pw_below_drewN | apply below_drew1) | exact HB.out)) hb); clear HO470; clear HO473; clear HO477; clear HO480; clear HO485; clear HB; have HO470 := n0_; have HO473 := n1_; have HO477 := n2_; have HO480 := n3_; have HO485 := n4_; have HO488 := n5_; have HB := n6_; clear n0_ n1_ n2_ n3_ n4_ n5_ n6_; (try clear hb); (try clear hb2); (try clear hk); (try clear hi); (try clear ho0)))
   (try simp only [Act.put, List.setIfInBounds_toArray, List.set_cons_zero, List.set_cons_succ])
   go_cut [91] (fun v91 wc => ∃ (kq : Nat) (x91_9 : Bool), v91 = .bool x91_9 ∧ Aside0 (laws_FnTablesMultiplied.j0 kq l1 t468 t471 t474 t475 t482 t483 x91_9 = some r) ∧ Aside0 (kq ≤ k) ∧ Aside0 (Kd.V (Kd.slice 3 (Kd.int .i64)) 24 wc w.heap.size (fun k_ => some k_ ≠ (v476 : Value).ownBlock ∧ some k_ ≠ (v484 : Value).ownBlock) (.slice Ao12 t468.length co12) t468) ∧ Aside0 (Kd.V (Kd.slice 3 (Kd.int .i64)) 24 wc w.heap.size (fun k_ => some k_ ≠ (v476 : Value).ownBlock ∧ some k_ ≠ (v484 : Value).ownBlock) (.slice Ao13 t471.length co13) t471) ∧ Aside0 (Kd.S (Kd.slice 3 (Kd.int .i64)) 24 wc w.heap.size (fun k_ => some k_ ≠ (v484 : Value).ownBlock) v476 t474) ∧ Aside0 (Kd.S (Kd.slice 3 (Kd.int .i64)) 24 wc w.heap.size (fun k_ => some k_ ≠ (v476 : Value).ownBlock) v484 t482) ∧ Aside0 (Below w.heap.size w wc))
   case first => as_aux_lemma =>
    have H := HC10.out
    clear HC10
    by_cases c18 : (t475 != t481) = true
    · rw [if_pos c18] at H
      have c18b0 : (t475 != t481) = true := c18
      (try (have c18b1 : decide (t475 = t481) = false := by simpa using c18))
      (try (have c18b2 : (t475 == t481) = false := by simpa using c18))
      (try (have c18b3 : ¬ (t475 = t481) := by simpa using c18))
      clear c18
      (first | rw [c18b0] | (simp only [i64_w, i32_w]; rw [c18b0]) | skip)
      have H' := Aside0.mk H
      clear H
      go_wp2
      go_meet
      case rel => exact ⟨_, (true), (by first | rfl | (simp; done) | (simp [*]; done)), H', ⟨by first | omega | exact Nat.le_refl _⟩, ⟨by (with_reducible repeat (first | apply Kd.V_alloc | apply Kd.V_drewN | apply Kd.V_drew)); exact Kd.V_mono HO470.out (fun _ hk => ⟨hk.1.2, hk.2⟩)⟩, ⟨by (with_reducible repeat (first | apply Kd.V_alloc | apply Kd.V_drewN | apply Kd.V_drew)); exact Kd.V_mono HO473.out (fun _ hk => ⟨hk.1.2, hk.2⟩)⟩, ⟨by (with_reducible repeat (first | apply Kd.S_alloc | apply Kd.S_drewN | apply Kd.S_drew)); exact Kd.S_mono HO477.out (fun _ hk => hk.2)⟩, ⟨by (with_reducible repeat (first | apply Kd.S_alloc | apply Kd.S_drewN | apply Kd.S_drew)); exact Kd.S_mono HO485.out (fun _ hk => hk.2)⟩, ⟨by repeat (first | (with_reducible first | exact HB.out | apply below_alloc | apply pw_below_drewN | apply below_drew1) | exact HB.out)⟩⟩
    · rw [if_neg c18] at H
      have c18b0 : (t475 != t481) = false := by simpa using c18
      (try (have c18b1 : decide (t475 = t481) = true := by simpa using c18))
      (try (have c18b2 : (t475 == t481) = true := by simpa using c18))
      clear c18
      (first | rw [c18b0] | (simp only [i64_w, i32_w]; rw [c18b0]) | skip)
      replace H := Option.bind_eq_some_iff.mp H
      obtain ⟨t490, A190, H⟩ := H
      replace H : (if t490 = true then (if (t483 != t489) = true then (laws_FnTablesMultiplied.j0 k l1 t468 t471 t474 t475 t482 t483 true) else ((laws_yRows.f k t482 t486).bind fun t491 => (laws_FnTablesMultiplied.j0 k l1 t468 t471 t474 t475 t482 t483 (!t491)))) else (laws_FnTablesMultiplied.j0 k l1 t468 t471 t474 t475 t482 t483 true)) = some r := H
      have A19 := Aside0.mk A190
      clear A190
      by_cases c20 : t490 = true
      · subst c20
        have H1 : (if (t483 != t489) = true then (laws_FnTablesMultiplied.j0 k l1 t468 t471 t474 t475 t482 t483 true) else ((laws_yRows.f k t482 t486).bind fun t491 => (laws_FnTablesMultiplied.j0 k l1 t468 t471 t474 t475 t482 t483 (!t491)))) = some r := by rw [if_pos rfl] at H; exact H
        clear H
        have H := H1
        clear H1
        by_cases c21 : (t483 != t489) = true
        · rw [if_pos c21] at H
          have c21b0 : (t483 != t489) = true := c21
          (try (have c21b1 : decide (t483 = t489) = false := by simpa using c21))
          (try (have c21b2 : (t483 == t489) = false := by simpa using c21))
          (try (have c21b3 : ¬ (t483 = t489) := by simpa using c21))
          clear c21
          have H' := Aside0.mk H
          clear H
          obtain ⟨Ao22, co22, eo22⟩ := Kd.S_slice HO477.out
          subst eo22
          obtain ⟨Ao23, co23, eo23⟩ := Kd.V_slice HO480.out
          subst eo23
          go_wp2_with (first | (go_at_call 23; (with_reducible refine (laws_yRows.calls k _ _ t474 _ _ t478 true _ ?side1 ?side2 ?side3 ?side4 A19.out).mono ?_); (case side1 => repeat (first | exact (Kd.S_reads' HO477.out).2.2 | (with_reducible refine Kd.C_alloc ?_ _) | (with_reducible refine Kd.C_drewN ?_ _) | (with_reducible refine Kd.C_drew ?_))); (case side2 => exact (Kd.S_reads' HO477.out).2.1); (case side3 => repeat (first | exact (Kd.V_reads' HO480.out).2.2 | (with_reducible refine Kd.C_alloc ?_ _) | (with_reducible refine Kd.C_drewN ?_ _) | (with_reducible refine Kd.C_drew ?_))); (case side4 => exact (Kd.V_reads' HO480.out).2.1); rintro e w' ⟨rfl, ⟨nd, rfl⟩⟩))
          go_meet
          case rel => exact ⟨_, (true), (by first | rfl | (simp; done) | (simp [*]; done)), H', ⟨by first | omega | exact Nat.le_refl _⟩, ⟨by (with_reducible repeat (first | apply Kd.V_alloc | apply Kd.V_drewN | apply Kd.V_drew)); exact Kd.V_mono HO470.out (fun _ hk => ⟨hk.1.2, hk.2⟩)⟩, ⟨by (with_reducible repeat (first | apply Kd.V_alloc | apply Kd.V_drewN | apply Kd.V_drew)); exact Kd.V_mono HO473.out (fun _ hk => ⟨hk.1.2, hk.2⟩)⟩, ⟨by (with_reducible repeat (first | apply Kd.S_alloc | apply Kd.S_drewN | apply Kd.S_drew)); exact Kd.S_mono HO477.out (fun _ hk => hk.2)⟩, ⟨by (with_reducible repeat (first | apply Kd.S_alloc | apply Kd.S_drewN | apply Kd.S_drew)); exact Kd.S_mono HO485.out (fun _ hk => hk.2)⟩, ⟨by repeat (first | (with_reducible first | exact HB.out | apply below_alloc | apply pw_below_drewN | apply below_drew1) | exact HB.out)⟩⟩
        · rw [if_neg c21] at H
          have c21b0 : (t483 != t489) = false := by simpa using c21
          (try (have c21b1 : decide (t483 = t489) = true := by simpa using c21))
          (try (have c21b2 : (t483 == t489) = true := by simpa using c21))
          clear c21
          replace H := Option.bind_eq_some_iff.mp H
          obtain ⟨t491, A240, H⟩ := H
          replace H : (laws_FnTablesMultiplied.j0 k l1 t468 t471 t474 t475 t482 t483 (!t491)) = some r := H
          have A24 := Aside0.mk A240
          clear A240
          have H' := Aside0.mk H
          clear H
          obtain ⟨Ao25, co25, eo25⟩ := Kd.S_slice HO477.out
          subst eo25
          obtain ⟨Ao26, co26, eo26⟩ := Kd.V_slice HO480.out
          subst eo26
          go_wp2_with (first | (go_at_call 23; (with_reducible refine (laws_yRows.calls k _ _ t474 _ _ t478 true _ ?side1 ?side2 ?side3 ?side4 A19.out).mono ?_); (case side1 => repeat (first | exact (Kd.S_reads' HO477.out).2.2 | (with_reducible refine Kd.C_alloc ?_ _) | (with_reducible refine Kd.C_drewN ?_ _) | (with_reducible refine Kd.C_drew ?_))); (case side2 => exact (Kd.S_reads' HO477.out).2.1); (case side3 => repeat (first | exact (Kd.V_reads' HO480.out).2.2 | (with_reducible refine Kd.C_alloc ?_ _) | (with_reducible refine Kd.C_drewN ?_ _) | (with_reducible refine Kd.C_drew ?_))); (case side4 => exact (Kd.V_reads' HO480.out).2.1); rintro e w' ⟨rfl, ⟨nd, rfl⟩⟩; obtain ⟨Ao27, co27, eo27⟩ := Kd.S_slice HO485.out; subst eo27; obtain ⟨Ao28, co28, eo28⟩ := Kd.V_slice HO488.out; subst eo28) | (go_at_call 23; (with_reducible refine (laws_yRows.calls k _ _ t482 _ _ t486 t491 _ ?side1 ?side2 ?side3 ?side4 A24.out).mono ?_); (case side1 => repeat (first | exact (Kd.S_reads' HO485.out).2.2 | (with_reducible refine Kd.C_alloc ?_ _) | (with_reducible refine Kd.C_drewN ?_ _) | (with_reducible refine Kd.C_drew ?_))); (case side2 => exact (Kd.S_reads' HO485.out).2.1); (case side3 => repeat (first | exact (Kd.V_reads' HO488.out).2.2 | (with_reducible refine Kd.C_alloc ?_ _) | (with_reducible refine Kd.C_drewN ?_ _) | (with_reducible refine Kd.C_drew ?_))); (case side4 => exact (Kd.V_reads' HO488.out).2.1); rintro e w' ⟨rfl, ⟨nd, rfl⟩⟩))
          go_meet
          case rel => exact ⟨_, (!t491), (by first | rfl | (simp; done) | (simp [*]; done)), H', ⟨by first | omega | exact Nat.le_refl _⟩, ⟨by (with_reducible repeat (first | apply Kd.V_alloc | apply Kd.V_drewN | apply Kd.V_drew)); exact Kd.V_mono HO470.out (fun _ hk => ⟨hk.1.2, hk.2⟩)⟩, ⟨by (with_reducible repeat (first | apply Kd.V_alloc | apply Kd.V_drewN | apply Kd.V_drew)); exact Kd.V_mono HO473.out (fun _ hk => ⟨hk.1.2, hk.2⟩)⟩, ⟨by (with_reducible repeat (first | apply Kd.S_alloc | apply Kd.S_drewN | apply Kd.S_drew)); exact Kd.S_mono HO477.out (fun _ hk => hk.2)⟩, ⟨by (with_reducible repeat (first | apply Kd.S_alloc | apply Kd.S_drewN | apply Kd.S_drew)); exact Kd.S_mono HO485.out (fun _ hk => hk.2)⟩, ⟨by repeat (first | (with_reducible first | exact HB.out | apply below_alloc | apply pw_below_drewN | apply below_drew1) | exact HB.out)⟩⟩
      · replace c20 := Bool.eq_false_iff.mpr c20
        subst c20
        have H1 : (laws_FnTablesMultiplied.j0 k l1 t468 t471 t474 t475 t482 t483 true) = some r := by rw [if_neg (show ¬ (false = true) by decide)] at H; exact H
        clear H
        have H := H1
        clear H1
        have H' := Aside0.mk H
        clear H
        obtain ⟨Ao29, co29, eo29⟩ := Kd.S_slice HO477.out
        subst eo29
        obtain ⟨Ao30, co30, eo30⟩ := Kd.V_slice HO480.out
        subst eo30
        go_wp2_with (first | (go_at_call 23; (with_reducible refine (laws_yRows.calls k _ _ t474 _ _ t478 false _ ?side1 ?side2 ?side3 ?side4 A19.out).mono ?_); (case side1 => repeat (first | exact (Kd.S_reads' HO477.out).2.2 | (with_reducible refine Kd.C_alloc ?_ _) | (with_reducible refine Kd.C_drewN ?_ _) | (with_reducible refine Kd.C_drew ?_))); (case side2 => exact (Kd.S_reads' HO477.out).2.1); (case side3 => repeat (first | exact (Kd.V_reads' HO480.out).2.2 | (with_reducible refine Kd.C_alloc ?_ _) | (with_reducible refine Kd.C_drewN ?_ _) | (with_reducible refine Kd.C_drew ?_))); (case side4 => exact (Kd.V_reads' HO480.out).2.1); rintro e w' ⟨rfl, ⟨nd, rfl⟩⟩))
        go_meet
        case rel => exact ⟨_, (true), (by first | rfl | (simp; done) | (simp [*]; done)), H', ⟨by first | omega | exact Nat.le_refl _⟩, ⟨by (with_reducible repeat (first | apply Kd.V_alloc | apply Kd.V_drewN | apply Kd.V_drew)); exact Kd.V_mono HO470.out (fun _ hk => ⟨hk.1.2, hk.2⟩)⟩, ⟨by (with_reducible repeat (first | apply Kd.V_alloc | apply Kd.V_drewN | apply Kd.V_drew)); exact Kd.V_mono HO473.out (fun _ hk => ⟨hk.1.2, hk.2⟩)⟩, ⟨by (with_reducible repeat (first | apply Kd.S_alloc | apply Kd.S_drewN | apply Kd.S_drew)); exact Kd.S_mono HO477.out (fun _ hk => hk.2)⟩, ⟨by (with_reducible repeat (first | apply Kd.S_alloc | apply Kd.S_drewN | apply Kd.S_drew)); exact Kd.S_mono HO485.out (fun _ hk => hk.2)⟩, ⟨by repeat (first | (with_reducible first | exact HB.out | apply below_alloc | apply pw_below_drewN | apply below_drew1) | exact HB.out)⟩⟩
   case rest => as_aux_lemma =>
    clear HC10
    try clear c1
    try clear c2
    try clear p2
    try clear c4
    try clear c17
    try clear c18
    try clear c18b0
    try clear c18b1
    try clear c18b2
    try clear c19
    try clear c20
    try clear c21
    try clear c21b0
    try clear c21b1
    try clear c21b2
    try clear c22
    obtain ⟨kq, x91_9, rfl, HA, HJ9, HO_5, HO_6, HO_7, HO_11, HB⟩ := hcut
    cases kq with
    | zero => exact absurd HA.out (by simp [laws_FnTablesMultiplied.j0])
    | succ kj9 =>
     have H := HA.out
     clear HA
     simp only [laws_FnTablesMultiplied.j0] at H
     by_cases c31 : x91_9 = true
     · subst c31
       have H1 : (some false) = some r := by rw [if_pos rfl] at H; exact H
       clear H
       have H := H1
       clear H1
       obtain rfl := Option.some.inj H
       go_wp2
       go_ret
       exact ⟨by first | rfl | (simp [errW_none, errW_some] <;> rfl) | (simp [*, errW_none, errW_some] <;> rfl), by repeat (first | (with_reducible first | exact HB.out | apply below_alloc | apply pw_below_drewN | apply below_drew1) | exact HB.out)⟩
     · replace c31 := Bool.eq_false_iff.mpr c31
       subst c31
       have H1 : ((impl_EqualSum.f kj9 t468).bind fun bt492 => ((impl_EqualSum.f kj9 t471).bind fun bt494 => (if bt492.2 = true then (laws_FnTablesMultiplied.j1 kj9 l1 t474 t475 t482 t483 bt492.1 bt494.1 bt494.2) else (laws_FnTablesMultiplied.j1 kj9 l1 t474 t475 t482 t483 bt492.1 bt494.1 false)))) = some r := by rw [if_neg (show ¬ (false = true) by decide)] at H; exact H
       clear H
       have H := H1
       clear H1
       replace H := Option.bind_eq_some_iff.mp H
       obtain ⟨⟨t492, t493⟩, A320, H⟩ := H
       replace H : ((impl_EqualSum.f kj9 t471).bind fun bt494 => (if t493 = true then (laws_FnTablesMultiplied.j1 kj9 l1 t474 t475 t482 t483 t492 bt494.1 bt494.2) else (laws_FnTablesMultiplied.j1 kj9 l1 t474 t475 t482 t483 t492 bt494.1 false))) = some r := H
       have A32 := Aside0.mk A320
       clear A320
       replace H := Option.bind_eq_some_iff.mp H
       obtain ⟨⟨t494, t495⟩, A330, H⟩ := H
       replace H : (if t493 = true then (laws_FnTablesMultiplied.j1 kj9 l1 t474 t475 t482 t483 t492 t494 t495) else (laws_FnTablesMultiplied.j1 kj9 l1 t474 t475 t482 t483 t492 t494 false)) = some r := H
       have A33 := Aside0.mk A330
       clear A330
       have HC34 := Aside0.mk H
       clear H
       go_upto_region 12 with (first | ((with_reducible refine gate_callee (f := 24) rfl ?_); refine goesL_ (some 94) rfl rfl Try.func24 (by kernel_rfl) rfl #[.slice Ao12 t468.length co12] rfl (by (try simp only [List.map_toArray, List.map_cons, List.map_nil]); first | done | rfl | (simp only [List.length_drop, List.length_take]; rfl)) ?_; (with_reducible refine (impl_EqualSum.calls kj9 _ _ t468 t492 t493 _ ?side1 ?side2 A32.out).mono ?_); (case side1 => repeat (first | exact (Kd.V_reads' HO_5.out).2.2 | (with_reducible refine Kd.C_alloc ?_ _) | (with_reducible refine Kd.C_drewN ?_ _) | (with_reducible refine Kd.C_drew ?_))); (case side2 => exact (Kd.V_reads' HO_5.out).2.1); rintro e w35 ⟨rfl, hb⟩; refine ⟨_, rfl, ?_⟩; have n0_ := Aside0.mk (Kd.V_below (by (with_reducible repeat (first | apply Kd.V_alloc | apply Kd.V_drewN | apply Kd.V_drew)); exact HO_5.out) hb); have n1_ := Aside0.mk (Kd.V_below (by (with_reducible repeat (first | apply Kd.V_alloc | apply Kd.V_drewN | apply Kd.V_drew)); exact HO_6.out) hb); have n2_ := Aside0.mk (Kd.S_below (by (with_reducible repeat (first | apply Kd.S_alloc | apply Kd.S_drewN | apply Kd.S_drew)); exact HO_7.out) hb); have n3_ := Aside0.mk (Kd.S_below (by (with_reducible repeat (first | apply Kd.S_alloc | apply Kd.S_drewN | apply Kd.S_drew)); exact HO_11.out) hb); have n4_ := Aside0.mk (below_step (by repeat (first | (with_reducible first | exact HB.out | apply below_alloc | apply pw_below_drewN | apply below_drew1) | exact HB.out)) hb); clear HO_5; clear HO_6; clear HO_7; clear HO_11; clear HB; have HO_5 := n0_; have HO_6 := n1_; have HO_7 := n2_; have HO_11 := n3_; have HB := n4_; clear n0_ n1_ n2_ n3_ n4_; (try clear hb); (try clear hb2); (try clear hk); (try clear hi)) | ((with_reducible refine gate_callee (f := 24) rfl ?_); refine goesL_ (some 99) rfl rfl Try.func24 (by kernel_rfl) rfl #[.slice Ao13 t471.length co13] rfl (by (try simp only [List.map_toArray, List.map_cons, List.map_nil]); first | done | rfl | (simp only [List.length_drop, List.length_take]; rfl)) ?_; (with_reducible refine (impl_EqualSum.calls kj9 _ _ t471 t494 t495 _ ?side1 ?side2 A33.out).mono ?_); (case side1 => repeat (first | exact (Kd.V_reads' HO_6.out).2.2 | (with_reducible refine Kd.C_alloc ?_ _) | (with_reducible refine Kd.C_drewN ?_ _) | (with_reducible refine Kd.C_drew ?_))); (case side2 => exact (Kd.V_reads' HO_6.out).2.1); rintro e w36 ⟨rfl, hb⟩; refine ⟨_, rfl, ?_⟩; have n0_ := Aside0.mk (Kd.V_below (by (with_reducible repeat (first | apply Kd.V_alloc | apply Kd.V_drewN | apply Kd.V_drew)); exact HO_5.out) hb); have n1_ := Aside0.mk (Kd.V_below (by (with_reducible repeat (first | apply Kd.V_alloc | apply Kd.V_drewN | apply Kd.V_drew)); exact HO_6.out) hb); have n2_ := Aside0.mk (Kd.S_below (by (with_reducible repeat (first | apply Kd.S_alloc | apply Kd.S_drewN | apply Kd.S_drew)); exact HO_7.out) hb); have n3_ := Aside0.mk (Kd.S_below (by (with_reducible repeat (first | apply Kd.S_alloc | apply Kd.S_drewN | apply Kd.S_drew)); exact HO_11.out) hb); have n4_ := Aside0.mk (below_step (by repeat (first | (with_reducible first | exact HB.out | apply below_alloc | apply pw_below_drewN | apply below_drew1) | exact HB.out)) hb); clear HO_5; clear HO_6; clear HO_7; clear HO_11; clear HB; have HO_5 := n0_; have HO_6 := n1_; have HO_7 := n2_; have HO_11 := n3_; have HB := n4_; clear n0_ n1_ n2_ n3_ n4_; (try clear hb); (try clear hb2); (try clear hk); (try clear hi)))
       (try simp only [Act.put, List.setIfInBounds_toArray, List.set_cons_zero, List.set_cons_succ])
       go_cut [105] (fun v105 wc => ∃ (kq : Nat) (x105_33 : Bool), v105 = .bool x105_33 ∧ Aside0 (laws_FnTablesMultiplied.j1 kq l1 t474 t475 t482 t483 t492 t494 x105_33 = some r) ∧ Aside0 (kq ≤ kj9) ∧ Aside0 (Kd.S (Kd.slice 3 (Kd.int .i64)) 24 wc w.heap.size (fun k_ => some k_ ≠ (v484 : Value).ownBlock) v476 t474) ∧ Aside0 (Kd.S (Kd.slice 3 (Kd.int .i64)) 24 wc w.heap.size (fun k_ => some k_ ≠ (v476 : Value).ownBlock) v484 t482) ∧ Aside0 (Below w.heap.size w wc))
       case first => as_aux_lemma =>
        have H := HC34.out
        clear HC34
        by_cases c37 : t493 = true
        · subst c37
          have H1 : (laws_FnTablesMultiplied.j1 kj9 l1 t474 t475 t482 t483 t492 t494 t495) = some r := by rw [if_pos rfl] at H; exact H
          clear H
          have H := H1
          clear H1
          have H' := Aside0.mk H
          clear H
          go_wp2
          go_meet
          case rel => exact ⟨_, (t495), (by first | rfl | (simp; done) | (simp [*]; done)), H', ⟨by have := HJ9.out; first | omega | exact Nat.le_refl _⟩, ⟨by (with_reducible repeat (first | apply Kd.S_alloc | apply Kd.S_drewN | apply Kd.S_drew)); exact HO_7.out⟩, ⟨by (with_reducible repeat (first | apply Kd.S_alloc | apply Kd.S_drewN | apply Kd.S_drew)); exact HO_11.out⟩, ⟨by repeat (first | (with_reducible first | exact HB.out | apply below_alloc | apply pw_below_drewN | apply below_drew1) | exact HB.out)⟩⟩
        · replace c37 := Bool.eq_false_iff.mpr c37
          subst c37
          have H1 : (laws_FnTablesMultiplied.j1 kj9 l1 t474 t475 t482 t483 t492 t494 false) = some r := by rw [if_neg (show ¬ (false = true) by decide)] at H; exact H
          clear H
          have H := H1
          clear H1
          have H' := Aside0.mk H
          clear H
          go_wp2
          go_meet
          case rel => exact ⟨_, (false), (by first | rfl | (simp; done) | (simp [*]; done)), H', ⟨by have := HJ9.out; first | omega | exact Nat.le_refl _⟩, ⟨by (with_reducible repeat (first | apply Kd.S_alloc | apply Kd.S_drewN | apply Kd.S_drew)); exact HO_7.out⟩, ⟨by (with_reducible repeat (first | apply Kd.S_alloc | apply Kd.S_drewN | apply Kd.S_drew)); exact HO_11.out⟩, ⟨by repeat (first | (with_reducible first | exact HB.out | apply below_alloc | apply pw_below_drewN | apply below_drew1) | exact HB.out)⟩⟩
       case rest => as_aux_lemma =>
        clear HC34
        try clear c1
        try clear c2
        try clear p2
        try clear c3
        try clear c4
        try clear c17
        try clear c18
        try clear c18b0
        try clear c18b1
        try clear c18b2
        try clear c19
        try clear c20
        try clear c21
        try clear c21b0
        try clear c21b1
        try clear c21b2
        try clear c22
        try clear c24
        try clear c31
        try clear c37
        try clear p2
        obtain ⟨kq, x105_33, rfl, HA, HJ33, HO_7, HO_11, HB⟩ := hcut
        cases kq with
        | zero => exact absurd HA.out (by simp [laws_FnTablesMultiplied.j1])
        | succ kj33 =>
         have H := HA.out
         clear HA
         simp only [laws_FnTablesMultiplied.j1] at H
         have HC38 := Aside0.mk H
         clear H
         go_upto_if 105 with (fail)
         go_cut [] (fun wc => ∃ (kq : Nat), Aside0 (laws_FnTablesMultiplied.j3 kq l1 = some r) ∧ Aside0 (kq ≤ kj33) ∧ Aside0 (Below w.heap.size w wc))
         case first => as_aux_lemma =>
          have H := HC38.out
          clear HC38
          by_cases c39 : x105_33 = true
          · subst c39
            have H1 : (if t475 = true then ((impl_EqualSum.f kj33 t474).bind fun bt496 => (if bt496.2 = true then (if bt496.1 = (wrap64 (t492 * t494)) then (laws_FnTablesMultiplied.j2 kj33 l1 t482 t483 t492 t494) else (some false)) else (some false))) else (laws_FnTablesMultiplied.j2 kj33 l1 t482 t483 t492 t494)) = some r := by rw [if_pos rfl] at H; exact H
            clear H
            have H := H1
            clear H1
            have HC40 := Aside0.mk H
            clear H
            go_upto_if 106 with (fail)
            go_cut [] (fun wc => ∃ (kq : Nat), Aside0 (laws_FnTablesMultiplied.j2 kq l1 t482 t483 t492 t494 = some r) ∧ Aside0 (kq ≤ kj33) ∧ Aside0 (Kd.S (Kd.slice 3 (Kd.int .i64)) 24 wc w.heap.size (fun _ => True) v484 t482) ∧ Aside0 (Below w.heap.size w wc))
            case first => as_aux_lemma =>
             have H := HC40.out
             clear HC40
             by_cases c41 : t475 = true
             · subst c41
               have H1 : ((impl_EqualSum.f kj33 t474).bind fun bt496 => (if bt496.2 = true then (if bt496.1 = (wrap64 (t492 * t494)) then (laws_FnTablesMultiplied.j2 kj33 l1 t482 t483 t492 t494) else (some false)) else (some false))) = some r := by rw [if_pos rfl] at H; exact H
               clear H
               have H := H1
               clear H1
               replace H := Option.bind_eq_some_iff.mp H
               obtain ⟨⟨t496, t497⟩, A420, H⟩ := H
               replace H : (if t497 = true then (if t496 = (wrap64 (t492 * t494)) then (laws_FnTablesMultiplied.j2 kj33 l1 t482 t483 t492 t494) else (some false)) else (some false)) = some r := H
               have A42 := Aside0.mk A420
               clear A420
               by_cases c43 : t497 = true
               · subst c43
                 have H1 : (if t496 = (wrap64 (t492 * t494)) then (laws_FnTablesMultiplied.j2 kj33 l1 t482 t483 t492 t494) else (some false)) = some r := by rw [if_pos rfl] at H; exact H
                 clear H
                 have H := H1
                 clear H1
                 by_cases c44 : t496 = (wrap64 (t492 * t494))
                 · rw [if_pos c44] at H
                   have c44b0 : (t496 == (wrap64 (t492 * t494))) = true := beq_iff_eq.mpr c44
                   have c44b1 : (t496 != (wrap64 (t492 * t494))) = false := bne_eq_false_iff_eq.mpr c44
                   clear c44
                   (first | rw [c44b0] | (simp only [i64_w, i32_w]; rw [c44b0]) | skip)
                   have H' := Aside0.mk H
                   clear H
                   obtain ⟨Ao45, co45, eo45⟩ := Kd.S_slice HO_7.out
                   subst eo45
                   go_wp2_with (first | ((with_reducible refine gate_callee (f := 24) rfl ?_); refine goesL_ (some 109) rfl rfl Try.func24 (by kernel_rfl) rfl #[.slice Ao45 t474.length co45] rfl (by (try simp only [List.map_toArray, List.map_cons, List.map_nil]); first | done | rfl | (simp only [List.length_drop, List.length_take]; rfl)) ?_; (with_reducible refine (impl_EqualSum.calls kj33 _ _ t474 t496 true _ ?side1 ?side2 A42.out).mono ?_); (case side1 => repeat (first | exact (Kd.S_reads' HO_7.out).2.2 | (with_reducible refine Kd.C_alloc ?_ _) | (with_reducible refine Kd.C_drewN ?_ _) | (with_reducible refine Kd.C_drew ?_))); (case side2 => exact (Kd.S_reads' HO_7.out).2.1); rintro e w46 ⟨rfl, hb⟩; refine ⟨_, rfl, ?_⟩; have n0_ := Aside0.mk (Kd.S_below (by (with_reducible repeat (first | apply Kd.S_alloc | apply Kd.S_drewN | apply Kd.S_drew)); exact HO_7.out) hb); have n1_ := Aside0.mk (Kd.S_below (by (with_reducible repeat (first | apply Kd.S_alloc | apply Kd.S_drewN | apply Kd.S_drew)); exact HO_11.out) hb); have n2_ := Aside0.mk (below_step (by repeat (first | (with_reducible first | exact HB.out | apply below_alloc | apply pw_below_drewN | apply below_drew1) | exact HB.out)) hb); clear HO_7; clear HO_11; clear HB; have HO_7 := n0_; have HO_11 := n1_; have HB := n2_; clear n0_ n1_ n2_; (try clear hb); (try clear hb2); (try clear hk); (try clear hi)))
                   go_meet
                   case rel => exact ⟨_, H', ⟨by have := HJ9.out; have := HJ33.out; first | omega | exact Nat.le_refl _⟩, ⟨by (with_reducible repeat (first | apply Kd.S_alloc | apply Kd.S_drewN | apply Kd.S_drew)); exact Kd.S_mono HO_11.out (fun _ hk => trivial)⟩, ⟨by repeat (first | (with_reducible first | exact HB.out | apply below_alloc | apply pw_below_drewN | apply below_drew1) | exact HB.out)⟩⟩
                 · rw [if_neg c44] at H
                   have c44b0 : (t496 == (wrap64 (t492 * t494))) = false := beq_eq_false_iff_ne.mpr c44
                   have c44b1 : (t496 != (wrap64 (t492 * t494))) = true := bne_iff_ne.mpr c44
                   (first | rw [c44b0] | (simp only [i64_w, i32_w]; rw [c44b0]) | skip)
                   obtain rfl := Option.some.inj H
                   obtain ⟨Ao47, co47, eo47⟩ := Kd.S_slice HO_7.out
                   subst eo47
                   go_wp2_with (first | ((with_reducible refine gate_callee (f := 24) rfl ?_); refine goesL_ (some 109) rfl rfl Try.func24 (by kernel_rfl) rfl #[.slice Ao47 t474.length co47] rfl (by (try simp only [List.map_toArray, List.map_cons, List.map_nil]); first | done | rfl | (simp only [List.length_drop, List.length_take]; rfl)) ?_; (with_reducible refine (impl_EqualSum.calls kj33 _ _ t474 t496 true _ ?side1 ?side2 A42.out).mono ?_); (case side1 => repeat (first | exact (Kd.S_reads' HO_7.out).2.2 | (with_reducible refine Kd.C_alloc ?_ _) | (with_reducible refine Kd.C_drewN ?_ _) | (with_reducible refine Kd.C_drew ?_))); (case side2 => exact (Kd.S_reads' HO_7.out).2.1); rintro e w48 ⟨rfl, hb⟩; refine ⟨_, rfl, ?_⟩; have n0_ := Aside0.mk (Kd.S_below (by (with_reducible repeat (first | apply Kd.S_alloc | apply Kd.S_drewN | apply Kd.S_drew)); exact HO_7.out) hb); have n1_ := Aside0.mk (Kd.S_below (by (with_reducible repeat (first | apply Kd.S_alloc | apply Kd.S_drewN | apply Kd.S_drew)); exact HO_11.out) hb); have n2_ := Aside0.mk (below_step (by repeat (first | (with_reducible first | exact HB.out | apply below_alloc | apply pw_below_drewN | apply below_drew1) | exact HB.out)) hb); clear HO_7; clear HO_11; clear HB; have HO_7 := n0_; have HO_11 := n1_; have HB := n2_; clear n0_ n1_ n2_; (try clear hb); (try clear hb2); (try clear hk); (try clear hi)))
                   go_ret
                   exact ⟨by first | rfl | (simp [errW_none, errW_some] <;> rfl) | (simp [*, errW_none, errW_some] <;> rfl), by repeat (first | (with_reducible first | exact HB.out | apply below_alloc | apply pw_below_drewN | apply below_drew1) | exact HB.out)⟩
               · replace c43 := Bool.eq_false_iff.mpr c43
                 subst c43
                 have H1 : (some false) = some r := by rw [if_neg (show ¬ (false = true) by decide)] at H; exact H
                 clear H
                 have H := H1
                 clear H1
                 obtain rfl := Option.some.inj H
                 obtain ⟨Ao49, co49, eo49⟩ := Kd.S_slice HO_7.out
                 subst eo49
                 go_wp2_with (first | ((with_reducible refine gate_callee (f := 24) rfl ?_); refine goesL_ (some 109) rfl rfl Try.func24 (by kernel_rfl) rfl #[.slice Ao49 t474.length co49] rfl (by (try simp only [List.map_toArray, List.map_cons, List.map_nil]); first | done | rfl | (simp only [List.length_drop, List.length_take]; rfl)) ?_; (with_reducible refine (impl_EqualSum.calls kj33 _ _ t474 t496 false _ ?side1 ?side2 A42.out).mono ?_); (case side1 => repeat (first | exact (Kd.S_reads' HO_7.out).2.2 | (with_reducible refine Kd.C_alloc ?_ _) | (with_reducible refine Kd.C_drewN ?_ _) | (with_reducible refine Kd.C_drew ?_))); (case side2 => exact (Kd.S_reads' HO_7.out).2.1); rintro e w50 ⟨rfl, hb⟩; refine ⟨_, rfl, ?_⟩; have n0_ := Aside0.mk (Kd.S_below (by (with_reducible repeat (first | apply Kd.S_alloc | apply Kd.S_drewN | apply Kd.S_drew)); exact HO_7.out) hb); have n1_ := Aside0.mk (Kd.S_below (by (with_reducible repeat (first | apply Kd.S_alloc | apply Kd.S_drewN | apply Kd.S_drew)); exact HO_11.out) hb); have n2_ := Aside0.mk (below_step (by repeat (first | (with_reducible first | exact HB.out | apply below_alloc | apply pw_below_drewN | apply below_drew1) | exact HB.out)) hb); clear HO_7; clear HO_11; clear HB; have HO_7 := n0_; have HO_11 := n1_; have HB := n2_; clear n0_ n1_ n2_; (try clear hb); (try clear hb2); (try clear hk); (try clear hi)))
                 go_ret
                 exact ⟨by first | rfl | (simp [errW_none, errW_some] <;> rfl) | (simp [*, errW_none, errW_some] <;> rfl), by repeat (first | (with_reducible first | exact HB.out | apply below_alloc | apply pw_below_drewN | apply below_drew1) | exact HB.out)⟩
             · replace c41 := Bool.eq_false_iff.mpr c41
               subst c41
               have H1 : (laws_FnTablesMultiplied.j2 kj33 l1 t482 t483 t492 t494) = some r := by rw [if_neg (show ¬ (false = true) by decide)] at H; exact H
               clear H
               have H := H1
               clear H1
               have H' := Aside0.mk H
               clear H
               go_wp2
               go_meet
               case rel => exact ⟨_, H', ⟨by have := HJ9.out; have := HJ33.out; first | omega | exact Nat.le_refl _⟩, ⟨by (with_reducible repeat (first | apply Kd.S_alloc | apply Kd.S_drewN | apply Kd.S_drew)); exact Kd.S_mono HO_11.out (fun _ hk => trivial)⟩, ⟨by repeat (first | (with_reducible first | exact HB.out | apply below_alloc | apply pw_below_drewN | apply below_drew1) | exact HB.out)⟩⟩
            case rest => as_aux_lemma =>
             clear HC40
             try clear c1
             try clear c2
             try clear p2
             try clear c3
             try clear c4
             try clear p6
             try clear c17
             try clear c18
             try clear c18b0
             try clear c18b1
             try clear c18b2
             try clear c19
             try clear c20
             try clear c21
             try clear c21b0
             try clear c21b1
             try clear c21b2
             try clear c22
             try clear c24
             try clear c31
             try clear c37
             try clear c39
             try clear c41
             try clear c43
             try clear c44
             try clear c44b0
             try clear c44b1
             try clear p2
             obtain ⟨kq, HA, HJ39, HO_11, HB⟩ := hcut
             cases kq with
             | zero => exact absurd HA.out (by simp [laws_FnTablesMultiplied.j2])
             | succ kj39 =>
              have H := HA.out
              clear HA
              simp only [laws_FnTablesMultiplied.j2] at H
              by_cases c51 : t483 = true
              · subst c51
                have H1 : ((impl_EqualSum.f kj39 t482).bind fun bt498 => (if bt498.2 = true then (if bt498.1 = (wrap64 (t492 + t494)) then (laws_FnTablesMultiplied.j3 kj39 l1) else (some false)) else (some false))) = some r := by rw [if_pos rfl] at H; exact H
                clear H
                have H := H1
                clear H1
                replace H := Option.bind_eq_some_iff.mp H
                obtain ⟨⟨t498, t499⟩, A520, H⟩ := H
                replace H : (if t499 = true then (if t498 = (wrap64 (t492 + t494)) then (laws_FnTablesMultiplied.j3 kj39 l1) else (some false)) else (some false)) = some r := H
                have A52 := Aside0.mk A520
                clear A520
                by_cases c53 : t499 = true
                · subst c53
                  have H1 : (if t498 = (wrap64 (t492 + t494)) then (laws_FnTablesMultiplied.j3 kj39 l1) else (some false)) = some r := by rw [if_pos rfl] at H; exact H
                  clear H
                  have H := H1
                  clear H1
                  by_cases c54 : t498 = (wrap64 (t492 + t494))
                  · rw [if_pos c54] at H
                    have c54b0 : (t498 == (wrap64 (t492 + t494))) = true := beq_iff_eq.mpr c54
                    have c54b1 : (t498 != (wrap64 (t492 + t494))) = false := bne_eq_false_iff_eq.mpr c54
                    clear c54
                    have H' := Aside0.mk H
                    clear H
                    obtain ⟨Ao55, co55, eo55⟩ := Kd.S_slice HO_11.out
                    subst eo55
                    go_wp2_with (first | ((with_reducible refine gate_callee (f := 24) rfl ?_); refine goesL_ (some 124) rfl rfl Try.func24 (by kernel_rfl) rfl #[.slice Ao55 t482.length co55] rfl (by (try simp only [List.map_toArray, List.map_cons, List.map_nil]); first | done | rfl | (simp only [List.length_drop, List.length_take]; rfl)) ?_; (with_reducible refine (impl_EqualSum.calls kj39 _ _ t482 t498 true _ ?side1 ?side2 A52.out).mono ?_); (case side1 => repeat (first | exact (Kd.S_reads' HO_11.out).2.2 | (with_reducible refine Kd.C_alloc ?_ _) | (with_reducible refine Kd.C_drewN ?_ _) | (with_reducible refine Kd.C_drew ?_))); (case side2 => exact (Kd.S_reads' HO_11.out).2.1); rintro e w56 ⟨rfl, hb⟩; refine ⟨_, rfl, ?_⟩; have n0_ := Aside0.mk (Kd.S_below (by (with_reducible repeat (first | apply Kd.S_alloc | apply Kd.S_drewN | apply Kd.S_drew)); exact HO_11.out) hb); have n1_ := Aside0.mk (below_step (by repeat (first | (with_reducible first | exact HB.out | apply below_alloc | apply pw_below_drewN | apply below_drew1) | exact HB.out)) hb); clear HO_11; clear HB; have HO_11 := n0_; have HB := n1_; clear n0_ n1_; (try clear hb); (try clear hb2); (try clear hk); (try clear hi)))
                    go_meet
                    case rel => exact ⟨_, H', ⟨by have := HJ9.out; have := HJ33.out; have := HJ39.out; first | omega | exact Nat.le_refl _⟩, ⟨by repeat (first | (with_reducible first | exact HB.out | apply below_alloc | apply pw_below_drewN | apply below_drew1) | exact HB.out)⟩⟩
                  · rw [if_neg c54] at H
                    have c54b0 : (t498 == (wrap64 (t492 + t494))) = false := beq_eq_false_iff_ne.mpr c54
                    have c54b1 : (t498 != (wrap64 (t492 + t494))) = true := bne_iff_ne.mpr c54
                    obtain rfl := Option.some.inj H
                    obtain ⟨Ao57, co57, eo57⟩ := Kd.S_slice HO_11.out
                    subst eo57
                    go_wp2_with (first | ((with_reducible refine gate_callee (f := 24) rfl ?_); refine goesL_ (some 124) rfl rfl Try.func24 (by kernel_rfl) rfl #[.slice Ao57 t482.length co57] rfl (by (try simp only [List.map_toArray, List.map_cons, List.map_nil]); first | done | rfl | (simp only [List.length_drop, List.length_take]; rfl)) ?_; (with_reducible refine (impl_EqualSum.calls kj39 _ _ t482 t498 true _ ?side1 ?side2 A52.out).mono ?_); (case side1 => repeat (first | exact (Kd.S_reads' HO_11.out).2.2 | (with_reducible refine Kd.C_alloc ?_ _) | (with_reducible refine Kd.C_drewN ?_ _) | (with_reducible refine Kd.C_drew ?_))); (case side2 => exact (Kd.S_reads' HO_11.out).2.1); rintro e w58 ⟨rfl, hb⟩; refine ⟨_, rfl, ?_⟩; have n0_ := Aside0.mk (Kd.S_below (by (with_reducible repeat (first | apply Kd.S_alloc | apply Kd.S_drewN | apply Kd.S_drew)); exact HO_11.out) hb); have n1_ := Aside0.mk (below_step (by repeat (first | (with_reducible first | exact HB.out | apply below_alloc | apply pw_below_drewN | apply below_drew1) | exact HB.out)) hb); clear HO_11; clear HB; have HO_11 := n0_; have HB := n1_; clear n0_ n1_; (try clear hb); (try clear hb2); (try clear hk); (try clear hi)))
                    go_ret
                    exact ⟨by first | rfl | (simp [errW_none, errW_some] <;> rfl) | (simp [*, errW_none, errW_some] <;> rfl), by repeat (first | (with_reducible first | exact HB.out | apply below_alloc | apply pw_below_drewN | apply below_drew1) | exact HB.out)⟩
                · replace c53 := Bool.eq_false_iff.mpr c53
                  subst c53
                  have H1 : (some false) = some r := by rw [if_neg (show ¬ (false = true) by decide)] at H; exact H
                  clear H
                  have H := H1
                  clear H1
                  obtain rfl := Option.some.inj H
                  obtain ⟨Ao59, co59, eo59⟩ := Kd.S_slice HO_11.out
                  subst eo59
                  go_wp2_with (first | ((with_reducible refine gate_callee (f := 24) rfl ?_); refine goesL_ (some 124) rfl rfl Try.func24 (by kernel_rfl) rfl #[.slice Ao59 t482.length co59] rfl (by (try simp only [List.map_toArray, List.map_cons, List.map_nil]); first | done | rfl | (simp only [List.length_drop, List.length_take]; rfl)) ?_; (with_reducible refine (impl_EqualSum.calls kj39 _ _ t482 t498 false _ ?side1 ?side2 A52.out).mono ?_); (case side1 => repeat (first | exact (Kd.S_reads' HO_11.out).2.2 | (with_reducible refine Kd.C_alloc ?_ _) | (with_reducible refine Kd.C_drewN ?_ _) | (with_reducible refine Kd.C_drew ?_))); (case side2 => exact (Kd.S_reads' HO_11.out).2.1); rintro e w60 ⟨rfl, hb⟩; refine ⟨_, rfl, ?_⟩; have n0_ := Aside0.mk (Kd.S_below (by (with_reducible repeat (first | apply Kd.S_alloc | apply Kd.S_drewN | apply Kd.S_drew)); exact HO_11.out) hb); have n1_ := Aside0.mk (below_step (by repeat (first | (with_reducible first | exact HB.out | apply below_alloc | apply pw_below_drewN | apply below_drew1) | exact HB.out)) hb); clear HO_11; clear HB; have HO_11 := n0_; have HB := n1_; clear n0_ n1_; (try clear hb); (try clear hb2); (try clear hk); (try clear hi)))
                  go_ret
                  exact ⟨by first | rfl | (simp [errW_none, errW_some] <;> rfl) | (simp [*, errW_none, errW_some] <;> rfl), by repeat (first | (with_reducible first | exact HB.out | apply below_alloc | apply pw_below_drewN | apply below_drew1) | exact HB.out)⟩
              · replace c51 := Bool.eq_false_iff.mpr c51
                subst c51
                have H1 : (laws_FnTablesMultiplied.j3 kj39 l1) = some r := by rw [if_neg (show ¬ (false = true) by decide)] at H; exact H
                clear H
                have H := H1
                clear H1
                have H' := Aside0.mk H
                clear H
                go_wp2
                go_meet
                case rel => exact ⟨_, H', ⟨by have := HJ9.out; have := HJ33.out; have := HJ39.out; first | omega | exact Nat.le_refl _⟩, ⟨by repeat (first | (with_reducible first | exact HB.out | apply below_alloc | apply pw_below_drewN | apply below_drew1) | exact HB.out)⟩⟩
          · replace c39 := Bool.eq_false_iff.mpr c39
            subst c39
            have H1 : (laws_FnTablesMultiplied.j3 kj33 l1) = some r := by rw [if_neg (show ¬ (false = true) by decide)] at H; exact H
            clear H
            have H := H1
            clear H1
            have H' := Aside0.mk H
            clear H
            go_wp2
            go_meet
            case rel => exact ⟨_, H', ⟨by have := HJ9.out; have := HJ33.out; first | omega | exact Nat.le_refl _⟩, ⟨by repeat (first | (with_reducible first | exact HB.out | apply below_alloc | apply pw_below_drewN | apply below_drew1) | exact HB.out)⟩⟩
         case rest => as_aux_lemma =>
          clear HC38
          try clear c1
          try clear c2
          try clear p2
          try clear c3
          try clear c4
          try clear c5
          try clear p6
          try clear c17
          try clear c18
          try clear c18b0
          try clear c18b1
          try clear c18b2
          try clear c19
          try clear c20
          try clear c21
          try clear c21b0
          try clear c21b1
          try clear c21b2
          try clear c22
          try clear c24
          try clear c31
          try clear c37
          try clear c39
          try clear c41
          try clear c43
          try clear c44
          try clear c44b0
          try clear c44b1
          try clear c51
          try clear c53
          try clear c54
          try clear c54b0
          try clear c54b1
          try clear p2
          try clear p6
          obtain ⟨kq, HA, HJ37, HB⟩ := hcut
          cases kq with
          | zero => exact absurd HA.out (by simp [laws_FnTablesMultiplied.j3])
          | succ kj37 =>
           have H := HA.out
           clear HA
           simp only [laws_FnTablesMultiplied.j3] at H
           replace H := Option.bind_eq_some_iff.mp H
           obtain ⟨⟨t500, t503⟩, A610, H⟩ := H
           replace H : ((impl_ScaleTable.f kj37 t500 t503).bind fun bt504 => ((spec_ScaleTable.f kj37 t500 t503).bind fun bt508 => (if (bt504.2 != bt508.2) = true then (laws_FnTablesMultiplied.j4 kj37 l1 true) else ((laws_yRows.f kj37 bt504.1 bt508.1).bind fun t512 => (laws_FnTablesMultiplied.j4 kj37 l1 (!t512)))))) = some r := H
           have A61 := Aside0.mk A610
           clear A610
           replace H := Option.bind_eq_some_iff.mp H
           obtain ⟨⟨t504, t505⟩, A620, H⟩ := H
           replace H : ((spec_ScaleTable.f kj37 t500 t503).bind fun bt508 => (if (t505 != bt508.2) = true then (laws_FnTablesMultiplied.j4 kj37 l1 true) else ((laws_yRows.f kj37 t504 bt508.1).bind fun t512 => (laws_FnTablesMultiplied.j4 kj37 l1 (!t512))))) = some r := H
           have A62 := Aside0.mk A620
           clear A620
           replace H := Option.bind_eq_some_iff.mp H
           obtain ⟨⟨t508, t511⟩, A630, H⟩ := H
           replace H : (if (t505 != t511) = true then (laws_FnTablesMultiplied.j4 kj37 l1 true) else ((laws_yRows.f kj37 t504 t508).bind fun t512 => (laws_FnTablesMultiplied.j4 kj37 l1 (!t512)))) = some r := H
           have A63 := Aside0.mk A630
           clear A630
           have HC64 := Aside0.mk H
           clear H
           go_upto_region 24 with (first | ((with_reducible refine gate_callee (f := 25) rfl ?_); refine goesL_ (some 138) rfl rfl Try.func25 (by kernel_rfl) rfl #[.slice A1 l1.length c1] rfl (by (try simp only [List.map_toArray, List.map_cons, List.map_nil]); first | done | rfl | (simp only [List.length_drop, List.length_take]; rfl)) ?_; (with_reducible refine (spec_DrawScaleTable.calls kj37 _ _ l1 t500 t503 _ ?side1 ?side2 A61.out).mono ?_); (case side1 => repeat (first | exact (Kd.C_below HR1.out HB.out) | (with_reducible refine Kd.C_alloc ?_ _) | (with_reducible refine Kd.C_drewN ?_ _) | (with_reducible refine Kd.C_drew ?_))); (case side2 => exact HC1.out); rintro e w65 ⟨v501, rfl, ho0, hb⟩; refine ⟨_, rfl, ?_⟩; have n0_ := Aside0.mk (Kd.V_lower (Kd.V_mono (ok' := fun k_ => True) ho0 (fun k_ hk_ => trivial)) (below_size (by repeat (first | (with_reducible first | exact HB.out | apply below_alloc | apply pw_below_drewN | apply below_drew1) | exact HB.out)))); have n1_ := Aside0.mk (below_step (by repeat (first | (with_reducible first | exact HB.out | apply below_alloc | apply pw_below_drewN | apply below_drew1) | exact HB.out)) hb); clear HB; have HO502 := n0_; have HB := n1_; clear n0_ n1_; (try clear hb); (try clear hb2); (try clear hk); (try clear hi); (try clear ho0); obtain ⟨Ao66, co66, eo66⟩ := Kd.V_slice HO502.out; subst eo66) | ((with_reducible refine gate_callee (f := 26) rfl ?_); refine goesL_ (some 144) rfl rfl Try.func26 (by kernel_rfl) rfl #[.slice Ao66 t500.length co66, .int .i64 t503] rfl (by (try simp only [List.map_toArray, List.map_cons, List.map_nil]); first | done | rfl | (simp only [List.length_drop, List.length_take]; rfl)) ?_; (with_reducible refine (impl_ScaleTable.calls kj37 _ _ t500 t503 t504 t505 _ ?side1 ?side2 A62.out).mono ?_); (case side1 => repeat (first | exact (Kd.V_reads' HO502.out).2.2 | (with_reducible refine Kd.C_alloc ?_ _) | (with_reducible refine Kd.C_drewN ?_ _) | (with_reducible refine Kd.C_drew ?_))); (case side2 => exact (Kd.V_reads' HO502.out).2.1); rintro e w67 ⟨v506, rfl, ho0, hb⟩; refine ⟨_, rfl, ?_⟩; have n0_ := Aside0.mk (Kd.V_elder' (by (with_reducible repeat (first | apply Kd.V_alloc | apply Kd.V_drewN | apply Kd.V_drew)); exact HO502.out) (Kd.S_base ho0) hb); have n1_ := Aside0.mk (Kd.S_lower ho0 (below_size (by repeat (first | (with_reducible first | exact HB.out | apply below_alloc | apply pw_below_drewN | apply below_drew1) | exact HB.out)))); have n2_ := Aside0.mk (below_step (by repeat (first | (with_reducible first | exact HB.out | apply below_alloc | apply pw_below_drewN | apply below_drew1) | exact HB.out)) hb); clear HO502; clear HB; have HO502 := n0_; have HO507 := n1_; have HB := n2_; clear n0_ n1_ n2_; (try clear hb); (try clear hb2); (try clear hk); (try clear hi); (try clear ho0)) | ((with_reducible refine gate_callee (f := 27) rfl ?_); refine goesL_ (some 150) rfl rfl Try.func27 (by kernel_rfl) rfl #[.slice Ao66 t500.length co66, .int .i64 t503] rfl (by (try simp only [List.map_toArray, List.map_cons, List.map_nil]); first | done | rfl | (simp only [List.length_drop, List.length_take]; rfl)) ?_; (with_reducible refine (spec_ScaleTable.calls kj37 _ _ t500 t503 t508 t511 _ ?side1 ?side2 A63.out).mono ?_); (case side1 => repeat (first | exact (Kd.V_reads' HO502.out).2.2 | (with_reducible refine Kd.C_alloc ?_ _) | (with_reducible refine Kd.C_drewN ?_ _) | (with_reducible refine Kd.C_drew ?_))); (case side2 => exact (Kd.V_reads' HO502.out).2.1); rintro e w68 ⟨v509, rfl, ho0, hb⟩; refine ⟨_, rfl, ?_⟩; have n0_ := Aside0.mk (Kd.V_below (by (with_reducible repeat (first | apply Kd.V_alloc | apply Kd.V_drewN | apply Kd.V_drew)); exact HO502.out) hb); have n1_ := Aside0.mk (Kd.S_below (by (with_reducible repeat (first | apply Kd.S_alloc | apply Kd.S_drewN | apply Kd.S_drew)); exact HO507.out) hb); have n2_ := Aside0.mk (Kd.V_lower (Kd.V_mono (ok' := fun k_ => some k_ ≠ (v506 : Value).ownBlock) ho0 (fun k_ hk_ => (Kd.fresh' (Kd.S_lt (by (with_reducible repeat (first | apply Kd.S_alloc | apply Kd.S_drewN | apply Kd.S_drew)); exact HO507.out)) k_ hk_))) (below_size (by repeat (first | (with_reducible first | exact HB.out | apply below_alloc | apply pw_below_drewN | apply below_drew1) | exact HB.out)))); have n3_ := Aside0.mk (below_step (by repeat (first | (with_reducible first | exact HB.out | apply below_alloc | apply pw_below_drewN | apply below_drew1) | exact HB.out)) hb); clear HO502; clear HO507; clear HB; have HO502 := n0_; have HO507 := n1_; have HO510 := n2_; have HB := n3_; clear n0_ n1_ n2_ n3_; (try clear hb); (try clear hb2); (try clear hk); (try clear hi); (try clear ho0)))
           (try simp only [Act.put, List.setIfInBounds_toArray, List.set_cons_zero, List.set_cons_succ])
           go_cut [161] (fun v161 wc => ∃ (kq : Nat) (x161_63 : Bool), v161 = .bool x161_63 ∧ Aside0 (laws_FnTablesMultiplied.j4 kq l1 x161_63 = some r) ∧ Aside0 (kq ≤ kj37) ∧ Aside0 (Below w.heap.size w wc))
           case first => as_aux_lemma =>
            have H := HC64.out
            clear HC64
            by_cases c69 : (t505 != t511) = true
            · rw [if_pos c69] at H
              have c69b0 : (t505 != t511) = true := c69
              (try (have c69b1 : decide (t505 = t511) = false := by simpa using c69))
              (try (have c69b2 : (t505 == t511) = false := by simpa using c69))
              (try (have c69b3 : ¬ (t505 = t511) := by simpa using c69))
              clear c69
              (first | rw [c69b0] | (simp only [i64_w, i32_w]; rw [c69b0]) | skip)
              have H' := Aside0.mk H
              clear H
              go_wp2
              go_meet
              case rel => exact ⟨_, (true), (by first | rfl | (simp; done) | (simp [*]; done)), H', ⟨by have := HJ9.out; have := HJ33.out; have := HJ37.out; first | omega | exact Nat.le_refl _⟩, ⟨by repeat (first | (with_reducible first | exact HB.out | apply below_alloc | apply pw_below_drewN | apply below_drew1) | exact HB.out)⟩⟩
            · rw [if_neg c69] at H
              have c69b0 : (t505 != t511) = false := by simpa using c69
              (try (have c69b1 : decide (t505 = t511) = true := by simpa using c69))
              (try (have c69b2 : (t505 == t511) = true := by simpa using c69))
              clear c69
              (first | rw [c69b0] | (simp only [i64_w, i32_w]; rw [c69b0]) | skip)
              replace H := Option.bind_eq_some_iff.mp H
              obtain ⟨t512, A700, H⟩ := H
              replace H : (laws_FnTablesMultiplied.j4 kj37 l1 (!t512)) = some r := H
              have A70 := Aside0.mk A700
              clear A700
              have H' := Aside0.mk H
              clear H
              obtain ⟨Ao71, co71, eo71⟩ := Kd.S_slice HO507.out
              subst eo71
              obtain ⟨Ao72, co72, eo72⟩ := Kd.V_slice HO510.out
              subst eo72
              go_wp2_with (first | (go_at_call 23; (with_reducible refine (laws_yRows.calls kj37 _ _ t504 _ _ t508 t512 _ ?side1 ?side2 ?side3 ?side4 A70.out).mono ?_); (case side1 => repeat (first | exact (Kd.S_reads' HO507.out).2.2 | (with_reducible refine Kd.C_alloc ?_ _) | (with_reducible refine Kd.C_drewN ?_ _) | (with_reducible refine Kd.C_drew ?_))); (case side2 => exact (Kd.S_reads' HO507.out).2.1); (case side3 => repeat (first | exact (Kd.V_reads' HO510.out).2.2 | (with_reducible refine Kd.C_alloc ?_ _) | (with_reducible refine Kd.C_drewN ?_ _) | (with_reducible refine Kd.C_drew ?_))); (case side4 => exact (Kd.V_reads' HO510.out).2.1); rintro e w' ⟨rfl, ⟨nd, rfl⟩⟩))
              go_meet
              case rel => exact ⟨_, (!t512), (by first | rfl | (simp; done) | (simp [*]; done)), H', ⟨by have := HJ9.out; have := HJ33.out; have := HJ37.out; first | omega | exact Nat.le_refl _⟩, ⟨by repeat (first | (with_reducible first | exact HB.out | apply below_alloc | apply pw_below_drewN | apply below_drew1) | exact HB.out)⟩⟩
           case rest => as_aux_lemma =>
            clear HC64
            try clear c1
            try clear c2
            try clear p2
            try clear c3
            try clear c4
            try clear c5
            try clear c6
            try clear p6
            try clear c17
            try clear c18
            try clear c18b0
            try clear c18b1
            try clear c18b2
            try clear c19
            try clear c20
            try clear c21
            try clear c21b0
            try clear c21b1
            try clear c21b2
            try clear c22
            try clear c24
            try clear c25
            try clear c26
            try clear c27
            try clear c31
            try clear c37
            try clear c39
            try clear c41
            try clear c43
            try clear c44
            try clear c44b0
            try clear c44b1
            try clear c51
            try clear c53
            try clear c54
            try clear c54b0
            try clear c54b1
            try clear p64
            try clear c69
            try clear c69b0
            try clear c69b1
            try clear c69b2
            try clear p2
            try clear p6
            obtain ⟨kq, x161_63, rfl, HA, HJ63, HB⟩ := hcut
            cases kq with
            | zero => exact absurd HA.out (by simp [laws_FnTablesMultiplied.j4])
            | succ kj63 =>
             have H := HA.out
             clear HA
             simp only [laws_FnTablesMultiplied.j4] at H
             by_cases c73 : x161_63 = true
             · subst c73
               have H1 : (some false) = some r := by rw [if_pos rfl] at H; exact H
               clear H
               have H := H1
               clear H1
               obtain rfl := Option.some.inj H
               go_wp2
               go_ret
               exact ⟨by first | rfl | (simp [errW_none, errW_some] <;> rfl) | (simp [*, errW_none, errW_some] <;> rfl), by repeat (first | (with_reducible first | exact HB.out | apply below_alloc | apply pw_below_drewN | apply below_drew1) | exact HB.out)⟩
             · replace c73 := Bool.eq_false_iff.mpr c73
               subst c73
               have H1 : ((spec_DrawGiftTable.f l1).bind fun bt513 => ((impl_GiftTable.f kj63 bt513.1 bt513.2.1 bt513.2.2.1 bt513.2.2.2.1 bt513.2.2.2.2).bind fun bt518 => ((spec_GiftTable.f kj63 bt513.1 bt513.2.1 bt513.2.2.1 bt513.2.2.2.1 bt513.2.2.2.2).bind fun bt522 => (if (bt518.2 != bt522.2) = true then (laws_FnTablesMultiplied.j5 kj63 bt513.2.2.2.1 bt518.1 bt518.2 true) else ((laws_yRows.f kj63 bt518.1 bt522.1).bind fun t526 => (laws_FnTablesMultiplied.j5 kj63 bt513.2.2.2.1 bt518.1 bt518.2 (!t526))))))) = some r := by rw [if_neg (show ¬ (false = true) by decide)] at H; exact H
               clear H
               have H := H1
               clear H1
               replace H := Option.bind_eq_some_iff.mp H
               obtain ⟨⟨t513, t514, t515, t516, t517⟩, A740, H⟩ := H
               replace H : ((impl_GiftTable.f kj63 t513 t514 t515 t516 t517).bind fun bt518 => ((spec_GiftTable.f kj63 t513 t514 t515 t516 t517).bind fun bt522 => (if (bt518.2 != bt522.2) = true then (laws_FnTablesMultiplied.j5 kj63 t516 bt518.1 bt518.2 true) else ((laws_yRows.f kj63 bt518.1 bt522.1).bind fun t526 => (laws_FnTablesMultiplied.j5 kj63 t516 bt518.1 bt518.2 (!t526)))))) = some r := H
               have A74 := Aside0.mk A740
               clear A740
               replace H := Option.bind_eq_some_iff.mp H
               obtain ⟨⟨t518, t519⟩, A750, H⟩ := H
               replace H : ((spec_GiftTable.f kj63 t513 t514 t515 t516 t517).bind fun bt522 => (if (t519 != bt522.2) = true then (laws_FnTablesMultiplied.j5 kj63 t516 t518 t519 true) else ((laws_yRows.f kj63 t518 bt522.1).bind fun t526 => (laws_FnTablesMultiplied.j5 kj63 t516 t518 t519 (!t526))))) = some r := H
               have A75 := Aside0.mk A750
               clear A750
               replace H := Option.bind_eq_some_iff.mp H
               obtain ⟨⟨t522, t523⟩, A760, H⟩ := H
               replace H : (if (t519 != t523) = true then (laws_FnTablesMultiplied.j5 kj63 t516 t518 t519 true) else ((laws_yRows.f kj63 t518 t522).bind fun t526 => (laws_FnTablesMultiplied.j5 kj63 t516 t518 t519 (!t526)))) = some r := H
               have A76 := Aside0.mk A760
               clear A760
               have HC77 := Aside0.mk H
               clear H
               go_upto_region 29 with (first | ((with_reducible refine gate_callee (f := 28) rfl ?_); refine goesL_ (some 164) rfl rfl Try.func28 (by kernel_rfl) rfl #[.slice A1 l1.length c1] rfl (by (try simp only [List.map_toArray, List.map_cons, List.map_nil]); first | done | rfl | (simp only [List.length_drop, List.length_take]; rfl)) ?_; (with_reducible refine (spec_DrawGiftTable.calls _ _ l1 t513 t514 t515 t516 t517 _ ?side1 ?side2 A74.out).mono ?_); (case side1 => repeat (first | exact (Kd.C_below HR1.out HB.out) | (with_reducible refine Kd.C_alloc ?_ _) | (with_reducible refine Kd.C_drewN ?_ _) | (with_reducible refine Kd.C_drew ?_))); (case side2 => exact HC1.out); rintro e w78 ⟨rfl, hb⟩; refine ⟨_, rfl, ?_⟩; have n0_ := Aside0.mk (below_step (by repeat (first | (with_reducible first | exact HB.out | apply below_alloc | apply pw_below_drewN | apply below_drew1) | exact HB.out)) hb); clear HB; have HB := n0_; clear n0_; (try clear hb); (try clear hb2); (try clear hk); (try clear hi)) | ((with_reducible refine gate_callee (f := 29) rfl ?_); refine goesL_ (some 176) rfl rfl Try.func29 (by kernel_rfl) rfl #[.int .i64 t513, .int .i64 t514, .int .i64 t515, .int .i64 t516, .int .i64 t517] rfl (by (try simp only [List.map_toArray, List.map_cons, List.map_nil]); first | done | rfl | (simp only [List.length_drop, List.length_take]; rfl)) ?_; (with_reducible refine (impl_GiftTable.calls kj63 t513 t514 t515 t516 t517 t518 t519 _ A75.out).mono ?_); rintro e w79 ⟨v520, rfl, ho0, hb⟩; refine ⟨_, rfl, ?_⟩; have n0_ := Aside0.mk (Kd.S_lower ho0 (below_size (by repeat (first | (with_reducible first | exact HB.out | apply below_alloc | apply pw_below_drewN | apply below_drew1) | exact HB.out)))); have n1_ := Aside0.mk (below_step (by repeat (first | (with_reducible first | exact HB.out | apply below_alloc | apply pw_below_drewN | apply below_drew1) | exact HB.out)) hb); clear HB; have HO521 := n0_; have HB := n1_; clear n0_ n1_; (try clear hb); (try clear hb2); (try clear hk); (try clear hi); (try clear ho0)) | ((with_reducible refine gate_callee (f := 30) rfl ?_); refine goesL_ (some 185) rfl rfl Try.func30 (by kernel_rfl) rfl #[.int .i64 t513, .int .i64 t514, .int .i64 t515, .int .i64 t516, .int .i64 t517] rfl (by (try simp only [List.map_toArray, List.map_cons, List.map_nil]); first | done | rfl | (simp only [List.length_drop, List.length_take]; rfl)) ?_; (with_reducible refine (spec_GiftTable.calls kj63 t513 t514 t515 t516 t517 t522 t523 _ A76.out).mono ?_); rintro e w80 ⟨v524, rfl, ho0, hb⟩; refine ⟨_, rfl, ?_⟩; have n0_ := Aside0.mk (Kd.S_elder' (by (with_reducible repeat (first | apply Kd.S_alloc | apply Kd.S_drewN | apply Kd.S_drew)); exact HO521.out) (Kd.S_base ho0) hb); have n1_ := Aside0.mk (Kd.S_lower (Kd.S_new' ho0 (Kd.S_lt (by (with_reducible repeat (first | apply Kd.S_alloc | apply Kd.S_drewN | apply Kd.S_drew)); exact HO521.out))) (below_size (by repeat (first | (with_reducible first | exact HB.out | apply below_alloc | apply pw_below_drewN | apply below_drew1) | exact HB.out)))); have n2_ := Aside0.mk (below_step (by repeat (first | (with_reducible first | exact HB.out | apply below_alloc | apply pw_below_drewN | apply below_drew1) | exact HB.out)) hb); clear HO521; clear HB; have HO521 := n0_; have HO525 := n1_; have HB := n2_; clear n0_ n1_ n2_; (try clear hb); (try clear hb2); (try clear hk); (try clear hi); (try clear ho0)))
               (try simp only [Act.put, List.setIfInBounds_toArray, List.set_cons_zero, List.set_cons_succ])
               go_cut [196] (fun v196 wc => ∃ (kq : Nat) (x196_76 : Bool), v196 = .bool x196_76 ∧ Aside0 (laws_FnTablesMultiplied.j5 kq t516 t518 t519 x196_76 = some r) ∧ Aside0 (kq ≤ kj63) ∧ Aside0 (Kd.S (Kd.slice 3 (Kd.int .i64)) 24 wc w.heap.size (fun _ => True) v520 t518) ∧ Aside0 (Below w.heap.size w wc))
               case first => as_aux_lemma =>
                have H := HC77.out
                clear HC77
                by_cases c81 : (t519 != t523) = true
                · rw [if_pos c81] at H
                  have c81b0 : (t519 != t523) = true := c81
                  (try (have c81b1 : decide (t519 = t523) = false := by simpa using c81))
                  (try (have c81b2 : (t519 == t523) = false := by simpa using c81))
                  (try (have c81b3 : ¬ (t519 = t523) := by simpa using c81))
                  clear c81
                  (first | rw [c81b0] | (simp only [i64_w, i32_w]; rw [c81b0]) | skip)
                  have H' := Aside0.mk H
                  clear H
                  go_wp2
                  go_meet
                  case rel => exact ⟨_, (true), (by first | rfl | (simp; done) | (simp [*]; done)), H', ⟨by have := HJ9.out; have := HJ33.out; have := HJ37.out; have := HJ63.out; first | omega | exact Nat.le_refl _⟩, ⟨by (with_reducible repeat (first | apply Kd.S_alloc | apply Kd.S_drewN | apply Kd.S_drew)); exact Kd.S_mono HO521.out (fun _ hk => trivial)⟩, ⟨by repeat (first | (with_reducible first | exact HB.out | apply below_alloc | apply pw_below_drewN | apply below_drew1) | exact HB.out)⟩⟩
                · rw [if_neg c81] at H
                  have c81b0 : (t519 != t523) = false := by simpa using c81
                  (try (have c81b1 : decide (t519 = t523) = true := by simpa using c81))
                  (try (have c81b2 : (t519 == t523) = true := by simpa using c81))
                  clear c81
                  (first | rw [c81b0] | (simp only [i64_w, i32_w]; rw [c81b0]) | skip)
                  replace H := Option.bind_eq_some_iff.mp H
                  obtain ⟨t526, A820, H⟩ := H
                  replace H : (laws_FnTablesMultiplied.j5 kj63 t516 t518 t519 (!t526)) = some r := H
                  have A82 := Aside0.mk A820
                  clear A820
                  have H' := Aside0.mk H
                  clear H
                  obtain ⟨Ao83, co83, eo83⟩ := Kd.S_slice HO521.out
                  subst eo83
                  obtain ⟨Ao84, co84, eo84⟩ := Kd.S_slice HO525.out
                  subst eo84
                  go_wp2_with (first | (go_at_call 23; (with_reducible refine (laws_yRows.calls kj63 _ _ t518 _ _ t522 t526 _ ?side1 ?side2 ?side3 ?side4 A82.out).mono ?_); (case side1 => repeat (first | exact (Kd.S_reads' HO521.out).2.2 | (with_reducible refine Kd.C_alloc ?_ _) | (with_reducible refine Kd.C_drewN ?_ _) | (with_reducible refine Kd.C_drew ?_))); (case side2 => exact (Kd.S_reads' HO521.out).2.1); (case side3 => repeat (first | exact (Kd.S_reads' HO525.out).2.2 | (with_reducible refine Kd.C_alloc ?_ _) | (with_reducible refine Kd.C_drewN ?_ _) | (with_reducible refine Kd.C_drew ?_))); (case side4 => exact (Kd.S_reads' HO525.out).2.1); rintro e w' ⟨rfl, ⟨nd, rfl⟩⟩))
                  go_meet
                  case rel => exact ⟨_, (!t526), (by first | rfl | (simp; done) | (simp [*]; done)), H', ⟨by have := HJ9.out; have := HJ33.out; have := HJ37.out; have := HJ63.out; first | omega | exact Nat.le_refl _⟩, ⟨by (with_reducible repeat (first | apply Kd.S_alloc | apply Kd.S_drewN | apply Kd.S_drew)); exact Kd.S_mono HO521.out (fun _ hk => trivial)⟩, ⟨by repeat (first | (with_reducible first | exact HB.out | apply below_alloc | apply pw_below_drewN | apply below_drew1) | exact HB.out)⟩⟩
               case rest => as_aux_lemma =>
                clear HC77
                try clear c1
                try clear c2
                try clear p2
                try clear c3
                try clear c4
                try clear c5
                try clear c6
                try clear p6
                try clear c7
                try clear c8
                try clear c17
                try clear c18
                try clear c18b0
                try clear c18b1
                try clear c18b2
                try clear c19
                try clear c20
                try clear c21
                try clear c21b0
                try clear c21b1
                try clear c21b2
                try clear c22
                try clear c24
                try clear c25
                try clear c26
                try clear c27
                try clear c28
                try clear c29
                try clear c30
                try clear c31
                try clear c37
                try clear c39
                try clear c41
                try clear c43
                try clear c44
                try clear c44b0
                try clear c44b1
                try clear c51
                try clear c53
                try clear c54
                try clear c54b0
                try clear c54b1
                try clear p64
                try clear c69
                try clear c69b0
                try clear c69b1
                try clear c69b2
                try clear c73
                try clear c81
                try clear c81b0
                try clear c81b1
                try clear c81b2
                try clear p2
                try clear p6
                try clear p64
                obtain ⟨kq, x196_76, rfl, HA, HJ76, HO_34, HB⟩ := hcut
                cases kq with
                | zero => exact absurd HA.out (by simp [laws_FnTablesMultiplied.j5])
                | succ kj76 =>
                 have H := HA.out
                 clear HA
                 simp only [laws_FnTablesMultiplied.j5] at H
                 by_cases c85 : x196_76 = true
                 · subst c85
                   have H1 : (some false) = some r := by rw [if_pos rfl] at H; exact H
                   clear H
                   have H := H1
                   clear H1
                   obtain rfl := Option.some.inj H
                   go_wp2
                   go_ret
                   exact ⟨by first | rfl | (simp [errW_none, errW_some] <;> rfl) | (simp [*, errW_none, errW_some] <;> rfl), by repeat (first | (with_reducible first | exact HB.out | apply below_alloc | apply pw_below_drewN | apply below_drew1) | exact HB.out)⟩
                 · replace c85 := Bool.eq_false_iff.mpr c85
                   subst c85
                   have H1 : (if t519 = true then ((impl_EqualSum.f kj76 t518).bind fun bt527 => (if bt527.2 = true then (some (bt527.1 == t516)) else (some false))) else (some true)) = some r := by rw [if_neg (show ¬ (false = true) by decide)] at H; exact H
                   clear H
                   have H := H1
                   clear H1
                   by_cases c86 : t519 = true
                   · subst c86
                     have H1 : ((impl_EqualSum.f kj76 t518).bind fun bt527 => (if bt527.2 = true then (some (bt527.1 == t516)) else (some false))) = some r := by rw [if_pos rfl] at H; exact H
                     clear H
                     have H := H1
                     clear H1
                     replace H := Option.bind_eq_some_iff.mp H
                     obtain ⟨⟨t527, t528⟩, A870, H⟩ := H
                     replace H : (if t528 = true then (some (t527 == t516)) else (some false)) = some r := H
                     have A87 := Aside0.mk A870
                     clear A870
                     by_cases c88 : t528 = true
                     · subst c88
                       have H1 : (some (t527 == t516)) = some r := by rw [if_pos rfl] at H; exact H
                       clear H
                       have H := H1
                       clear H1
                       obtain rfl := Option.some.inj H
                       obtain ⟨Ao89, co89, eo89⟩ := Kd.S_slice HO_34.out
                       subst eo89
                       go_wp2_with (first | ((with_reducible refine gate_callee (f := 24) rfl ?_); refine goesL_ (some 200) rfl rfl Try.func24 (by kernel_rfl) rfl #[.slice Ao89 t518.length co89] rfl (by (try simp only [List.map_toArray, List.map_cons, List.map_nil]); first | done | rfl | (simp only [List.length_drop, List.length_take]; rfl)) ?_; (with_reducible refine (impl_EqualSum.calls kj76 _ _ t518 t527 true _ ?side1 ?side2 A87.out).mono ?_); (case side1 => repeat (first | exact (Kd.S_reads' HO_34.out).2.2 | (with_reducible refine Kd.C_alloc ?_ _) | (with_reducible refine Kd.C_drewN ?_ _) | (with_reducible refine Kd.C_drew ?_))); (case side2 => exact (Kd.S_reads' HO_34.out).2.1); rintro e w90 ⟨rfl, hb⟩; refine ⟨_, rfl, ?_⟩; have n0_ := Aside0.mk (Kd.S_below (by (with_reducible repeat (first | apply Kd.S_alloc | apply Kd.S_drewN | apply Kd.S_drew)); exact HO_34.out) hb); have n1_ := Aside0.mk (below_step (by repeat (first | (with_reducible first | exact HB.out | apply below_alloc | apply pw_below_drewN | apply below_drew1) | exact HB.out)) hb); clear HO_34; clear HB; have HO_34 := n0_; have HB := n1_; clear n0_ n1_; (try clear hb); (try clear hb2); (try clear hk); (try clear hi)))
                       go_ret
                       exact ⟨by first | rfl | (simp [errW_none, errW_some] <;> rfl) | (simp [*, errW_none, errW_some] <;> rfl), by repeat (first | (with_reducible first | exact HB.out | apply below_alloc | apply pw_below_drewN | apply below_drew1) | exact HB.out)⟩
                     · replace c88 := Bool.eq_false_iff.mpr c88
                       subst c88
                       have H1 : (some false) = some r := by rw [if_neg (show ¬ (false = true) by decide)] at H; exact H
                       clear H
                       have H := H1
                       clear H1
                       obtain rfl := Option.some.inj H
                       obtain ⟨Ao91, co91, eo91⟩ := Kd.S_slice HO_34.out
                       subst eo91
                       go_wp2_with (first | ((with_reducible refine gate_callee (f := 24) rfl ?_); refine goesL_ (some 200) rfl rfl Try.func24 (by kernel_rfl) rfl #[.slice Ao91 t518.length co91] rfl (by (try simp only [List.map_toArray, List.map_cons, List.map_nil]); first | done | rfl | (simp only [List.length_drop, List.length_take]; rfl)) ?_; (with_reducible refine (impl_EqualSum.calls kj76 _ _ t518 t527 false _ ?side1 ?side2 A87.out).mono ?_); (case side1 => repeat (first | exact (Kd.S_reads' HO_34.out).2.2 | (with_reducible refine Kd.C_alloc ?_ _) | (with_reducible refine Kd.C_drewN ?_ _) | (with_reducible refine Kd.C_drew ?_))); (case side2 => exact (Kd.S_reads' HO_34.out).2.1); rintro e w92 ⟨rfl, hb⟩; refine ⟨_, rfl, ?_⟩; have n0_ := Aside0.mk (Kd.S_below (by (with_reducible repeat (first | apply Kd.S_alloc | apply Kd.S_drewN | apply Kd.S_drew)); exact HO_34.out) hb); have n1_ := Aside0.mk (below_step (by repeat (first | (with_reducible first | exact HB.out | apply below_alloc | apply pw_below_drewN | apply below_drew1) | exact HB.out)) hb); clear HO_34; clear HB; have HO_34 := n0_; have HB := n1_; clear n0_ n1_; (try clear hb); (try clear hb2); (try clear hk); (try clear hi)))
                       go_ret
                       exact ⟨by first | rfl | (simp [errW_none, errW_some] <;> rfl) | (simp [*, errW_none, errW_some] <;> rfl), by repeat (first | (with_reducible first | exact HB.out | apply below_alloc | apply pw_below_drewN | apply below_drew1) | exact HB.out)⟩
                   · replace c86 := Bool.eq_false_iff.mpr c86
                     subst c86
                     have H1 : (some true) = some r := by rw [if_neg (show ¬ (false = true) by decide)] at H; exact H
                     clear H
                     have H := H1
                     clear H1
                     obtain rfl := Option.some.inj H
                     go_wp2
                     go_ret
                     exact ⟨by first | rfl | (simp [errW_none, errW_some] <;> rfl) | (simp [*, errW_none, errW_some] <;> rfl), by repeat (first | (with_reducible first | exact HB.out | apply below_alloc | apply pw_below_drewN | apply below_drew1) | exact HB.out)⟩

/-- THE ONE PURE STATEMENT of laws_FnTablesMultiplied: yours. -/
def laws_FnTablesMultiplied.Pure : Prop := ∀ (l0 : List Int) (l1 : List Int), l0.length ≤ maxLen → l0.length * 1 ≤ 140737488351232 → (∀ x ∈ l0, (Lit.int .u8 x).wf = true) → l1.length ≤ maxLen → l1.length * 1 ≤ 140737488351232 → (∀ x ∈ l1, (Lit.int .u8 x).wf = true) → ∃ k, laws_FnTablesMultiplied.f k l0 l1 = some true
theorem laws_FnTablesMultiplied.walk (P : laws_FnTablesMultiplied.Pure) (a0 : Option Addr) (len0 cap0 : Nat) (z0 : List Int) (a1 : Option Addr) (len1 cap1 : Nat) (z1 : List Int) (w : World) (w0 : (a0 = none ∧ len0 = 0 ∧ cap0 = 0 ∧ z0 = []) ∨ ∃ x, a0 = some x ∧ len0 ≤ cap0 ∧ cap0 ≤ maxLen ∧ z0.length = cap0 ∧ (∀ i, i < z0.length → w.cell? (x.add i) = some (.int .u8 (z0.getD i 0))) ∧ ∀ n ∈ z0, (Lit.int .u8 n).wf = true) (y0 : len0 * 1 ≤ 140737488351232) (w1 : (a1 = none ∧ len1 = 0 ∧ cap1 = 0 ∧ z1 = []) ∨ ∃ x, a1 = some x ∧ len1 ≤ cap1 ∧ cap1 ≤ maxLen ∧ z1.length = cap1 ∧ (∀ i, i < z1.length → w.cell? (x.add i) = some (.int .u8 (z1.getD i 0))) ∧ ∀ n ∈ z1, (Lit.int .u8 n).wf = true) (y1 : len1 * 1 ≤ 140737488351232) :
 Calls Try.prog 4 #[.slice a0 len0 cap0, .slice a1 len1 cap1] w fun e w' => e = .returned (.bool true) ∧ Below w.heap.size w w' := by
 obtain ⟨l0, rfl, hr0, hm0, hw0, hc0⟩ := ReadsInt.ofRowC w0
 obtain ⟨l1, rfl, hr1, hm1, hw1, hc1⟩ := ReadsInt.ofRowC w1
 obtain ⟨k, h⟩ := P l0 l1 hm0 y0 hw0 hm1 y1 hw1
 refine (laws_FnTablesMultiplied.calls k _ _ l0 _ _ l1 true w (Kd.C_of_reads (d := (0 : Int)) (h1 := fun _ => rfl) hr0) hc0 (Kd.C_of_reads (d := (0 : Int)) (h1 := fun _ => rfl) hr1) hc1 h).mono ?_
 rintro e w' ⟨rfl, hd⟩
 exact ⟨rfl, hd⟩

end Go.Proofs.Ytkhpojcplejdjaa.A

-- made by a program of this repo (wip/pp.py) through the kit's printer
namespace Go.Proofs.Ytkhpojcplejdjaa.A
open Go.RowKit Go.Proofs.YtkhpojcplejdjaaW.PrintWords Go.Proofs.YtkhpojcplejdjaaW.PrintLast Go.Proofs.YtkhpojcplejdjaaW.PrintMore
attribute [local go_sem] max2_int min2_int max_two min_two max_three min_three max_four min_four
set_option linter.unusedVariables false
set_option linter.unusedSimpArgs false

end Go.Proofs.Ytkhpojcplejdjaa.A

/- markIntSS: what it writes into rows of rows that lie apart. -/
namespace Go.Proofs.Ytkhpojcplejdjaa.A
open Go.RowKit Go.Proofs.YtkhpojcplejdjaaW.PrintWords Go.Proofs.YtkhpojcplejdjaaW.PrintLast Go.Proofs.YtkhpojcplejdjaaW.PrintMore
attribute [local go_sem] max2_int min2_int max_two min_two max_three min_three max_four min_four
set_option linter.unusedVariables false
set_option linter.unusedSimpArgs false

def totSS (l : List (List Int)) : Nat := (l.map List.length).sum
end Go.Proofs.Ytkhpojcplejdjaa.A

-- made by a program of this repo (wip/pp.py) through the kit's printer
namespace Go.Proofs.Ytkhpojcplejdjaa.A
open Go.RowKit Go.Proofs.YtkhpojcplejdjaaW.PrintWords Go.Proofs.YtkhpojcplejdjaaW.PrintLast Go.Proofs.YtkhpojcplejdjaaW.PrintMore
attribute [local go_sem] max2_int min2_int max_two min_two max_three min_three max_four min_four
set_option linter.unusedVariables false
set_option linter.unusedSimpArgs false

/-! ### spec_liSum: function 92 -/
def spec_liSum.l0 : Nat → Int → List Int → Int → Int → Option (Int)
 | 0, _, _, _, _ => none
 | k + 1, x3, x6, x7, x8 => if x8 < x7 then (if 0 ≤ x8 then (if x8 < (x6.length : Int) then (spec_liSum.l0 k (wrap64 (x3 + (rd x6 x8))) x6 x7 (wrap64 (x8 + 1))) else (none)) else (none)) else (some x3)
def spec_liSum.f (k : Nat) (l0 : List Int) : Option (Int) := spec_liSum.l0 k 0 l0 (l0.length : Int) 0
end Go.Proofs.Ytkhpojcplejdjaa.A

-- made by a program of this repo (wip/pp.py) through the kit's printer
namespace Go.Proofs.Ytkhpojcplejdjaa.A
open Go.RowKit Go.Proofs.YtkhpojcplejdjaaW.PrintWords Go.Proofs.YtkhpojcplejdjaaW.PrintLast Go.Proofs.YtkhpojcplejdjaaW.PrintMore
attribute [local go_sem] max2_int min2_int max_two min_two max_three min_three max_four min_four
set_option linter.unusedVariables false
set_option linter.unusedSimpArgs false

/-! ### spec_doSum: function 42 -/
mutual
def spec_doSum.l0 : Nat → List (List Int) → Int → List (List Int) → Int → Int → Option (Int)
 | 0, _, _, _, _, _ => none
 | k + 1, x0, x3, x13, x14, x15 => if x15 < x14 then (if 0 ≤ x15 then (if x15 < (x13.length : Int) then (spec_doSum.l1 k x0 x3 x15 (rd_L1 x13 x15) 0 x13 x14 x15 x0 (x0.length : Int) 0) else (none)) else (none)) else (some x3)
def spec_doSum.l1 : Nat → List (List Int) → Int → Int → List Int → Int → List (List Int) → Int → Int → List (List Int) → Int → Int → Option (Int)
 | 0, _, _, _, _, _, _, _, _, _, _, _ => none
 | k + 1, x0, x3, x4, x5, x6, x13, x14, x15, x20, x21, x22 => if x22 < x21 then (if 0 ≤ x22 then (if x22 < (x20.length : Int) then (if 0 ≤ x4 then (if x4 < ((rd_L1 x20 x22).length : Int) then (spec_doSum.l1 k x0 x3 x4 x5 (wrap64 (x6 + (rd (rd_L1 x20 x22) x4))) x13 x14 x15 x20 x21 (wrap64 (x22 + 1))) else (none)) else (none)) else (none)) else (none)) else ((spec_liSum.f k x5).bind fun t114 => (if t114 = x3 then (if x6 = x3 then (spec_doSum.l0 k x0 x3 x13 x14 (wrap64 (x15 + 1))) else (some (-1))) else (some (-1))))
end
end Go.Proofs.Ytkhpojcplejdjaa.A

-- made by a program of this repo (wip/pp.py) through the kit's printer
namespace Go.Proofs.Ytkhpojcplejdjaa.A
open Go.RowKit Go.Proofs.YtkhpojcplejdjaaW.PrintWords Go.Proofs.YtkhpojcplejdjaaW.PrintLast Go.Proofs.YtkhpojcplejdjaaW.PrintMore
attribute [local go_sem] max2_int min2_int max_two min_two max_three min_three max_four min_four
set_option linter.unusedVariables false
set_option linter.unusedSimpArgs false

end Go.Proofs.Ytkhpojcplejdjaa.A

namespace Go.Proofs.Ytkhpojcplejdjaa.A
open Go.RowKit Go.Proofs.YtkhpojcplejdjaaW.PrintWords Go.Proofs.YtkhpojcplejdjaaW.PrintLast Go.Proofs.YtkhpojcplejdjaaW.PrintMore
set_option linter.unusedVariables false
set_option linter.unusedSimpArgs false
theorem foldl_add : ∀ (l : List Int) (s : Int), l.foldl (fun s x => s + x) s = s + l.sum
 | [], s => by simp
 | x :: l, s => by
  rw [List.foldl_cons, foldl_add l, List.sum_cons]
  omega
end Go.Proofs.Ytkhpojcplejdjaa.A

-- made by a program of this repo (wip/pp.py) through the kit's printer
namespace Go.Proofs.Ytkhpojcplejdjaa.A
open Go.RowKit Go.Proofs.YtkhpojcplejdjaaW.PrintWords Go.Proofs.YtkhpojcplejdjaaW.PrintLast Go.Proofs.YtkhpojcplejdjaaW.PrintMore
attribute [local go_sem] max2_int min2_int max_two min_two max_three min_three max_four min_four
set_option linter.unusedVariables false
set_option linter.unusedSimpArgs false

end Go.Proofs.Ytkhpojcplejdjaa.A

-- made by a program of this repo (wip/pp.py) through the kit's printer
namespace Go.Proofs.Ytkhpojcplejdjaa.A
open Go.RowKit Go.Proofs.YtkhpojcplejdjaaW.PrintWords Go.Proofs.YtkhpojcplejdjaaW.PrintLast Go.Proofs.YtkhpojcplejdjaaW.PrintMore
attribute [local go_sem] max2_int min2_int max_two min_two max_three min_three max_four min_four
set_option linter.unusedVariables false
set_option linter.unusedSimpArgs false

end Go.Proofs.Ytkhpojcplejdjaa.A

-- made by a program of this repo (wip/pp.py) through the kit's printer
namespace Go.Proofs.Ytkhpojcplejdjaa.A
open Go.RowKit Go.Proofs.YtkhpojcplejdjaaW.PrintWords Go.Proofs.YtkhpojcplejdjaaW.PrintLast Go.Proofs.YtkhpojcplejdjaaW.PrintMore
attribute [local go_sem] max2_int min2_int max_two min_two max_three min_three max_four min_four
set_option linter.unusedVariables false
set_option linter.unusedSimpArgs false

end Go.Proofs.Ytkhpojcplejdjaa.A

-- made by a program of this repo (wip/pp.py) through the kit's printer
namespace Go.Proofs.Ytkhpojcplejdjaa.A
open Go.RowKit Go.Proofs.YtkhpojcplejdjaaW.PrintWords Go.Proofs.YtkhpojcplejdjaaW.PrintLast Go.Proofs.YtkhpojcplejdjaaW.PrintMore
attribute [local go_sem] max2_int min2_int max_two min_two max_three min_three max_four min_four
set_option linter.unusedVariables false
set_option linter.unusedSimpArgs false

end Go.Proofs.Ytkhpojcplejdjaa.A

namespace Go.Proofs.Ytkhpojcplejdjaa.A
open Go.RowKit Go.Proofs.YtkhpojcplejdjaaW.PrintWords Go.Proofs.YtkhpojcplejdjaaW.PrintLast Go.Proofs.YtkhpojcplejdjaaW.PrintMore
set_option linter.unusedVariables false
set_option linter.unusedSimpArgs false
end Go.Proofs.Ytkhpojcplejdjaa.A

namespace Go.Proofs.Ytkhpojcplejdjaa.A
open Go.RowKit Go.Proofs.YtkhpojcplejdjaaW.PrintWords Go.Proofs.YtkhpojcplejdjaaW.PrintLast Go.Proofs.YtkhpojcplejdjaaW.PrintMore
set_option linter.unusedVariables false
set_option linter.unusedSimpArgs false
end Go.Proofs.Ytkhpojcplejdjaa.A

namespace Go.Proofs.Ytkhpojcplejdjaa.A
open Go.RowKit Go.Proofs.YtkhpojcplejdjaaW.PrintWords Go.Proofs.YtkhpojcplejdjaaW.PrintLast Go.Proofs.YtkhpojcplejdjaaW.PrintMore
set_option linter.unusedVariables false
set_option linter.unusedSimpArgs false
theorem rd_L1n {xs : List (List Int)} {i : Nat} (h : i < xs.length) : rd_L1 xs (i : Int) = xs[i] := by
 unfold rd_L1
 rw [Int.toNat_natCast, List.getD_eq_getElem?_getD, List.getElem?_eq_getElem h]
 rfl
theorem len_tot {l : List (List Int)} {x : List Int} (h : x ∈ l) : x.length ≤ totSS l := by
 induction l with
 | nil => simp at h
 | cons y l ih =>
  simp only [totSS, List.map_cons, List.sum_cons] at *
  rcases List.mem_cons.1 h with rfl | h
  · omega
  · have := ih h
    omega
end Go.Proofs.Ytkhpojcplejdjaa.A

namespace Go.Proofs.Ytkhpojcplejdjaa.A
open Go.RowKit Go.Proofs.YtkhpojcplejdjaaW.PrintWords Go.Proofs.YtkhpojcplejdjaaW.PrintLast Go.Proofs.YtkhpojcplejdjaaW.PrintMore
set_option linter.unusedVariables false
set_option linter.unusedSimpArgs false
theorem doGood_l (l : List (List Int)) (hl : l.length ≤ 1048576) (hx : ∀ x ∈ l, x.length ≤ 1048576) : ∀ (n i : Nat), i + n = l.length → Ev (fun k => spec_doGood.l0 k l l (l.length : Int) (i : Int)) (((l.drop i).all (rowB l.length)) && decide ((1 : Int) ≤ l.length ∧ (l.length : Int) ≤ 6))
 | 0, i, h => by
  refine Ev.succ ?_
  simp only [spec_doGood.l0, if_neg (show ¬ (i : Int) < (l.length : Int) by omega), l1In_eq, Option.bind_some]
  rw [List.drop_eq_nil_of_le (by omega), List.all_nil, Bool.true_and]
  exact Ev.now _
 | n + 1, i, h => by
  have hi : i < l.length := by omega
  have hxi := hx _ (List.getElem_mem hi)
  refine Ev.succ ?_
  simp only [spec_doGood.l0, if_pos (show (i : Int) < (l.length : Int) by omega), if_pos (show (0 : Int) ≤ (i : Int) by omega), rd_L1n hi, wsucc hi (by omega)]
  rw [List.drop_eq_getElem_cons hi, List.all_cons]
  by_cases c : ((l[i]).length : Int) = (l.length : Int)
  · simp only [if_pos c]
    refine Ev.bind (l1All_ev l[i] 0 1000000 (by omega)) ?_
    have e : rowB l.length l[i] = inR 0 1000000 l[i] := by
     unfold rowB
     rw [decide_eq_true c, Bool.true_and]
    rw [e]
    cases inR 0 1000000 l[i] with
    | true =>
     simp only [if_true, Bool.true_and]
     exact doGood_l l hl hx n (i + 1) (by omega)
    | false =>
     simp only [Bool.false_eq_true, if_false, Bool.false_and]
     exact Ev.now _
  · have e : rowB l.length l[i] = false := by
     unfold rowB
     rw [decide_eq_false c, Bool.false_and]
    simp only [if_neg c, e, Bool.false_and]
    exact Ev.now _
theorem doGood_ev (l : List (List Int)) (hl : l.length ≤ 1048576) (ht : totSS l ≤ 1048576) : Ev (fun k => spec_doGood.f k l) (squareB l) := by
 have h := doGood_l l hl (fun x h => Nat.le_trans (len_tot h) ht) l.length 0 (by omega)
 rw [List.drop_zero, Bool.and_comm] at h
 exact h
theorem implIsSquare_eq (l : List (List Int)) (hl : l.length ≤ 1048576) (ht : totSS l ≤ 1048576) : impl_IsSquare.f l = some (squareB l) := by
 unfold impl_IsSquare.f
 rw [if_pos ⟨List.all_eq_true.2 fun x h => decide_eq_true (Nat.le_trans (len_tot h) ht), hl⟩]
end Go.Proofs.Ytkhpojcplejdjaa.A

namespace Go.Proofs.Ytkhpojcplejdjaa.A
open Go.RowKit Go.Proofs.YtkhpojcplejdjaaW.PrintWords Go.Proofs.YtkhpojcplejdjaaW.PrintLast Go.Proofs.YtkhpojcplejdjaaW.PrintMore
set_option linter.unusedVariables false
set_option linter.unusedSimpArgs false
def Bg (l : List Int) : Prop := l.length ≤ 1000 ∧ ∀ x ∈ l, 0 ≤ x ∧ x ≤ 1000000
theorem totalB_ev (l : List Int) (h : Bg l) : Ev (fun k => impl_total.f k l) l.sum := by
 unfold impl_total.f
 have hl := h.1
 have h := ev_fold (xs := l) (g := fun k s i => impl_total.l0 k s l (l.length : Int) i) (fun s x => s + x) (fun s i => 0 ≤ s ∧ s ≤ 1000000 * (i : Int)) id
  (fun s _ => Ev.succ (by simp only [impl_total.l0, if_neg (Int.lt_irrefl _)]; exact Ev.now _))
  (fun i hi s r hs _ hr => Ev.succ (by
   have hb := h.2 _ (List.getElem_mem hi)
   simp only [impl_total.l0, if_pos (show (i : Int) < (l.length : Int) by omega), if_pos (show (0 : Int) ≤ (i : Int) by omega), rdn hi, wsucc hi (by omega), w64 (x := s + l[i]) (by omega) (by omega)]
   exact hr))
  (fun i hi s hs => by
   have hb := h.2 _ (List.getElem_mem hi)
   omega) l.length 0 0 (by omega) (by omega)
 rw [List.drop_zero, foldl_add, Int.zero_add] at h
 exact h
def okI (l : List (List Int)) (s : Int) (i : Nat) : Bool := decide ((l.getD i []).sum = s) && decide (((l.map fun x => rd x (i : Int)).sum) = s)
theorem colP_step {l : List (List Int)} {i j : Nat} (hj : j < l.length) : ((l.take (j + 1)).map fun x => rd x (i : Int)).sum = ((l.take j).map fun x => rd x (i : Int)).sum + rd l[j] (i : Int) := by
 rw [List.take_succ_eq_append_getElem hj, List.map_append, List.sum_append]
 simp
structure Tab (l : List (List Int)) : Prop where
 len : l.length ≤ 6
 row : ∀ x ∈ l, x.length = l.length ∧ ∀ y ∈ x, 0 ≤ y ∧ y ≤ 1000000
theorem tab_bg {l : List (List Int)} (h : Tab l) {x : List Int} (hx : x ∈ l) : Bg x := ⟨by have := (h.row x hx).1; have := h.len; omega, (h.row x hx).2⟩
theorem tab_rd {l : List (List Int)} (h : Tab l) {x : List Int} (hx : x ∈ l) {i : Nat} (hi : i < l.length) : 0 ≤ rd x (i : Int) ∧ rd x (i : Int) ≤ 1000000 := by
 have h1 := (h.row x hx).1
 rw [rdn (show i < x.length by omega)]
 exact (h.row x hx).2 _ (List.getElem_mem (by omega))
theorem colP_bd {l : List (List Int)} (h : Tab l) {i : Nat} (hi : i < l.length) : ∀ j : Nat, j ≤ l.length → 0 ≤ ((l.take j).map fun x => rd x (i : Int)).sum ∧ ((l.take j).map fun x => rd x (i : Int)).sum ≤ 1000000 * j
 | 0, _ => by simp
 | j + 1, hj => by
  have ih := colP_bd h hi j (by omega)
  have hb := tab_rd h (List.getElem_mem (show j < l.length by omega)) hi
  rw [colP_step (by omega)]
  omega
theorem implSum_l1 {l : List (List Int)} (h : Tab l) (s : Int) (i : Nat) (hi : i < l.length) (x : List Int) {r : Int × Bool} (hr : Ev (fun k => (impl_total.f k x).bind fun t => if t = s then (if (l.map fun x => rd x (i : Int)).sum = s then impl_equalSum.l0 k l s l (l.length : Int) (wrap64 ((i : Int) + 1)) else some ((0 : Int), false)) else some ((0 : Int), false)) r) : ∀ (n j : Nat), j + n = l.length → Ev (fun k => impl_equalSum.l1 k l s (i : Int) x (((l.take j).map fun x => rd x (i : Int)).sum) l (l.length : Int) (i : Int) l (l.length : Int) (j : Int)) r
 | 0, j, e => by
  refine Ev.succ ?_
  simp only [impl_equalSum.l1, if_neg (show ¬ (j : Int) < (l.length : Int) by omega)]
  rw [List.take_of_length_le (by omega)]
  exact hr
 | n + 1, j, e => by
  have hj : j < l.length := by omega
  have hlen := (h.row _ (List.getElem_mem hj)).1
  have b1 := colP_bd h hi j (by omega)
  have b2 := tab_rd h (List.getElem_mem hj) hi
  have b3 := h.len
  refine Ev.succ ?_
  simp only [impl_equalSum.l1, if_pos (show (j : Int) < (l.length : Int) by omega), if_pos (show (0 : Int) ≤ (j : Int) by omega), if_pos (show (0 : Int) ≤ (i : Int) by omega), rd_L1n hj, if_pos (show (i : Int) < ((l[j]).length : Int) by omega), wsucc hj (by omega), w64 (x := ((l.take j).map fun x => rd x (i : Int)).sum + rd l[j] (i : Int)) (by omega) (by omega)]
  rw [← colP_step hj]
  exact implSum_l1 h s i hi x hr n (j + 1) (by omega)
theorem implSum_l0 {l : List (List Int)} (h : Tab l) (s : Int) : ∀ (n i : Nat), i + n = l.length → Ev (fun k => impl_equalSum.l0 k l s l (l.length : Int) (i : Int)) (if (List.range' i n).all (okI l s) = true then (s, true) else ((0 : Int), false))
 | 0, i, e => by
  refine Ev.succ ?_
  simp only [impl_equalSum.l0, if_neg (show ¬ (i : Int) < (l.length : Int) by omega), List.range'_zero, List.all_nil, if_true]
  exact Ev.now _
 | n + 1, i, e => by
  have hi : i < l.length := by omega
  refine Ev.succ ?_
  simp only [impl_equalSum.l0, if_pos (show (i : Int) < (l.length : Int) by omega), if_pos (show (0 : Int) ≤ (i : Int) by omega), rd_L1n hi]
  have key := implSum_l1 h s i hi l[i] (r := if (List.range' i (n + 1)).all (okI l s) = true then (s, true) else ((0 : Int), false)) ?_ l.length 0 (by omega)
  · simp only [List.take_zero, List.map_nil, List.sum_nil] at key
    exact key
  · have ho : okI l s i = (decide ((l[i]).sum = s) && decide (((l.map fun x => rd x (i : Int)).sum) = s)) := by
     unfold okI
     rw [List.getD_eq_getElem?_getD, List.getElem?_eq_getElem hi]
     rfl
    refine Ev.bind (totalB_ev l[i] (tab_bg h (List.getElem_mem hi))) ?_
    rw [List.range'_succ, List.all_cons, ho]
    by_cases c1 : (l[i]).sum = s
    · simp only [if_pos c1]
      by_cases c2 : (l.map fun x => rd x (i : Int)).sum = s
      · simp only [if_pos c2, wsucc hi (by have := h.len; omega), decide_eq_true c1, decide_eq_true c2, Bool.true_and]
        exact implSum_l0 h s n (i + 1) (by omega)
      · simp only [if_neg c2, decide_eq_false c2, Bool.and_false, Bool.false_and, Bool.false_eq_true, if_false]
        exact Ev.now _
    · simp only [if_neg c1, decide_eq_false c1, Bool.false_and, Bool.false_eq_true, if_false]
      exact Ev.now _
theorem square_tab {l : List (List Int)} (h : squareB l = true) : Tab l ∧ 1 ≤ l.length := by
 unfold squareB at h
 rw [Bool.and_eq_true, decide_eq_true_eq, List.all_eq_true] at h
 refine ⟨⟨by omega, fun x hx => ?_⟩, by omega⟩
 have hr := h.2 x hx
 unfold rowB inR at hr
 rw [Bool.and_eq_true, decide_eq_true_eq, List.all_eq_true] at hr
 exact ⟨by omega, fun y hy => by simpa using hr.2 y hy⟩
def sum0 (l : List (List Int)) : Int := (l.getD 0 []).sum
def equalR (l : List (List Int)) : Int × Bool := if squareB l = true then (if (List.range' 0 l.length).all (okI l (sum0 l)) = true then (sum0 l, true) else (0, false)) else (0, false)
theorem sum0_at {l : List (List Int)} (h : 0 < l.length) : sum0 l = (l[0]).sum := by
 unfold sum0
 rw [List.getD_eq_getElem?_getD, List.getElem?_eq_getElem h]
 rfl
theorem implEqualSum_ev (l : List (List Int)) (hl : l.length ≤ 1048576) (ht : totSS l ≤ 1048576) : Ev (fun k => impl_EqualSum.f k l) (equalR l) := by
 unfold impl_EqualSum.f equalR
 simp only [implIsSquare_eq l hl ht, Option.bind_some]
 refine Ev.ite (fun hq => ?_) (fun _ => Ev.now _)
 obtain ⟨hT, h1⟩ := square_tab hq
 have hd : Ev (fun k => impl_equalSum.f k l) (if (List.range' 0 l.length).all (okI l (sum0 l)) = true then (sum0 l, true) else (0, false)) := by
  unfold impl_equalSum.f
  simp only [if_pos (show (0 : Int) < (l.length : Int) by omega)]
  have e : rd_L1 l 0 = l[0] := rd_L1n (i := 0) (by omega)
  rw [e]
  refine Ev.bind (totalB_ev l[0] (tab_bg hT (List.getElem_mem (by omega)))) ?_
  rw [← sum0_at (by omega)]
  exact implSum_l0 hT (sum0 l) l.length 0 (by omega)
 exact Ev.bind hd (Ev.now _)
end Go.Proofs.Ytkhpojcplejdjaa.A

namespace Go.Proofs.Ytkhpojcplejdjaa.A
open Go.RowKit Go.Proofs.YtkhpojcplejdjaaW.PrintWords Go.Proofs.YtkhpojcplejdjaaW.PrintLast Go.Proofs.YtkhpojcplejdjaaW.PrintMore
set_option linter.unusedVariables false
set_option linter.unusedSimpArgs false
/-! tables told by a function of row and column -/
def tabG (n : Nat) (G : Nat → Nat → Int) : List (List Int) := (List.range n).map fun i => (List.range n).map fun j => G i j
theorem tabG_length (n : Nat) (G : Nat → Nat → Int) : (tabG n G).length = n := by simp [tabG]
theorem tabG_get {n : Nat} {G : Nat → Nat → Int} {i : Nat} (h : i < (tabG n G).length) : (tabG n G)[i] = (List.range n).map fun j => G i j := by simp [tabG]
theorem tabG_row {n : Nat} (G : Nat → Nat → Int) {i : Nat} (h : i < n) : rd_L1 (tabG n G) (i : Int) = (List.range n).map fun j => G i j := by
 rw [rd_L1n (by rw [tabG_length]; exact h), tabG_get]
theorem tabG_rowlen {n : Nat} (G : Nat → Nat → Int) {i : Nat} (h : i < n) : (rd_L1 (tabG n G) (i : Int)).length = n := by rw [tabG_row G h]; simp
theorem rowG_at {n : Nat} (g : Nat → Int) {j : Nat} (h : j < n) : rd ((List.range n).map g) (j : Int) = g j := by
 rw [rdn (by simpa using h)]
 simp
theorem tabG_at {n : Nat} (G : Nat → Nat → Int) {i j : Nat} (h : i < n) (h' : j < n) : rd (rd_L1 (tabG n G) (i : Int)) (j : Int) = G i j := by rw [tabG_row G h, rowG_at _ h']
theorem tabG_congr {n : Nat} {G G' : Nat → Nat → Int} (h : ∀ i j, i < n → j < n → G i j = G' i j) : tabG n G = tabG n G' := by
 unfold tabG
 refine List.map_congr_left fun i hi => List.map_congr_left fun j hj => h i j (List.mem_range.1 hi) (List.mem_range.1 hj)
def updG (G : Nat → Nat → Int) (i j : Nat) (v : Int) : Nat → Nat → Int := fun a b => if a = i ∧ b = j then v else G a b
theorem rowG_set {n : Nat} (g : Nat → Int) (j : Nat) (v : Int) : ((List.range n).map g).set j v = (List.range n).map fun b => if b = j then v else g b := by
 apply List.ext_getElem
 · simp
 · intro k h1 h2
   simp only [List.length_map, List.length_range, List.length_set] at h1 h2
   rw [List.getElem_set]
   by_cases e : j = k
   · subst e
     simp
   · have e' : ¬ k = j := fun h => e h.symm
     simp [e, e']
theorem tabG_set {n : Nat} (G : Nat → Nat → Int) {i : Nat} (j : Nat) (v : Int) (h : i < n) : (tabG n G).set i ((rd_L1 (tabG n G) (i : Int)).set j v) = tabG n (updG G i j v) := by
 rw [tabG_row G h, rowG_set]
 apply List.ext_getElem
 · simp [tabG]
 · intro k h1 h2
   rw [List.length_set, tabG_length] at h1
   rw [List.getElem_set, tabG_get, tabG_get]
   by_cases e : i = k
   · subst e
     rw [if_pos rfl]
     refine List.map_congr_left fun b _ => ?_
     unfold updG
     by_cases e2 : b = j <;> simp [e2]
   · rw [if_neg e]
     refine List.map_congr_left fun b _ => ?_
     unfold updG
     rw [if_neg (fun h => e h.1.symm)]
theorem tabG_zero (n : Nat) : List.replicate n (List.replicate n (0 : Int)) = tabG n (fun _ _ => 0) := by
 unfold tabG
 apply List.ext_getElem
 · simp
 · intro k h1 h2
   simp only [List.getElem_replicate, List.getElem_map]
   apply List.ext_getElem
   · simp
   · intro k h1 h2
     simp
def atG (l : List (List Int)) (i j : Nat) : Int := rd (rd_L1 l (i : Int)) (j : Int)
theorem tabG_self {l : List (List Int)} (h : ∀ x ∈ l, x.length = l.length) : tabG l.length (atG l) = l := by
 apply List.ext_getElem
 · rw [tabG_length]
 · intro i h1 h2
   rw [tabG_get]
   have hl := h _ (List.getElem_mem h2)
   apply List.ext_getElem
   · simp [hl]
   · intro j h3 h4
     simp only [List.getElem_map, List.getElem_range]
     unfold atG
     rw [rd_L1n h2, rdn h4]
theorem tabG_tot (n : Nat) (G : Nat → Nat → Int) : totSS (tabG n G) = n * n := by
 unfold totSS tabG
 rw [List.map_map]
 have : ∀ m : Nat, ((List.range m).map (List.length ∘ fun i => (List.range n).map fun j => G i j)).sum = m * n := by
  intro m
  induction m with
  | zero => simp
  | succ m ih => rw [List.range_succ, List.map_append, List.sum_append, ih]; simp [Nat.succ_mul]
 exact this n
/-- A table that is filled place by place. -/
theorem fill_ev {ρ : Type} {r : ρ} (n : Nat) (val : Nat → Nat → Int) (g0 : Nat → List (List Int) → Int → Option ρ) (g1 : Nat → List (List Int) → Int → Int → Option ρ)
 (hend : Ev (fun k => g0 k (tabG n val) (n : Int)) r)
 (h0 : ∀ i, i < n → ∀ X : Nat → Nat → Int, Ev (fun k => g1 k (tabG n X) (i : Int) 0) r → Ev (fun k => g0 k (tabG n X) (i : Int)) r)
 (h1 : ∀ i j, i < n → j < n → ∀ H : Nat → Nat → Int, H i j = 0 → Ev (fun k => g1 k (tabG n (updG H i j (val i j))) (i : Int) ((j + 1 : Nat) : Int)) r → Ev (fun k => g1 k (tabG n H) (i : Int) (j : Int)) r)
 (h2 : ∀ i, i < n → ∀ X : Nat → Nat → Int, Ev (fun k => g0 k (tabG n X) ((i + 1 : Nat) : Int)) r → Ev (fun k => g1 k (tabG n X) (i : Int) (n : Int)) r) :
 Ev (fun k => g0 k (tabG n fun _ _ => 0) 0) r := by
 have row : ∀ i, i < n → (Ev (fun k => g0 k (tabG n fun a b => if a < i + 1 then val a b else 0) ((i + 1 : Nat) : Int)) r) → ∀ (m j : Nat), j + m = n → Ev (fun k => g1 k (tabG n fun a b => if a < i ∨ (a = i ∧ b < j) then val a b else 0) (i : Int) (j : Int)) r := by
  intro i hi hr m
  induction m with
  | zero =>
   intro j hj
   have e : j = n := by omega
   subst e
   refine h2 i hi _ ?_
   rw [tabG_congr (G' := fun a b => if a < i + 1 then val a b else 0) (fun a b _ hb => by
    by_cases c : a < i + 1
    · rw [if_pos c, if_pos (by omega)]
    · rw [if_neg c, if_neg (by omega)])]
   exact hr
  | succ m ih =>
   intro j hj
   refine h1 i j hi (by omega) _ (by simp) ?_
   rw [tabG_congr (G' := fun a b => if a < i ∨ (a = i ∧ b < j + 1) then val a b else 0) (fun a b _ hb => by
    unfold updG
    by_cases c : a = i ∧ b = j
    · rw [if_pos c, if_pos (by omega), c.1, c.2]
    · rw [if_neg c]
      show (if a < i ∨ (a = i ∧ b < j) then val a b else 0) = _
      by_cases d : a < i ∨ (a = i ∧ b < j)
      · rw [if_pos d, if_pos (by omega)]
      · rw [if_neg d, if_neg (by omega)])]
   exact ih (j + 1) (by omega)
 have all : ∀ (m i : Nat), i + m = n → Ev (fun k => g0 k (tabG n fun a b => if a < i then val a b else 0) (i : Int)) r := by
  intro m
  induction m with
  | zero =>
   intro i hi
   have e : i = n := by omega
   subst e
   rw [tabG_congr (G' := val) (fun a b ha _ => if_pos ha)]
   exact hend
  | succ m ih =>
   intro i hi
   refine h0 i (by omega) _ ?_
   have := row i (by omega) (ih (i + 1) (by omega)) n 0 (by omega)
   rw [tabG_congr (G' := fun a b => if a < i then val a b else 0) (fun a b _ _ => by
    by_cases c : a < i
    · rw [if_pos c, if_pos (by omega)]
    · rw [if_neg c, if_neg (by omega)])] at this
   exact this
 have := all n 0 (by omega)
 rw [tabG_congr (G' := fun _ _ => 0) (fun a b _ _ => if_neg (by omega))] at this
 exact this
end Go.Proofs.Ytkhpojcplejdjaa.A

namespace Go.Proofs.Ytkhpojcplejdjaa.A
open Go.RowKit Go.Proofs.YtkhpojcplejdjaaW.PrintWords Go.Proofs.YtkhpojcplejdjaaW.PrintLast Go.Proofs.YtkhpojcplejdjaaW.PrintMore
set_option linter.unusedVariables false
set_option linter.unusedSimpArgs false
/-! a table that is told if it is a square one -/
def checkR (u : List (List Int)) : List (List Int) × Bool := if squareB u = true then (u, true) else ([], false)
theorem checkR_bd (u : List (List Int)) : totSS (checkR u).1 ≤ 1000 ∧ (checkR u).1.length ≤ 1000 := by
 unfold checkR
 split
 · next h =>
   obtain ⟨hT, _⟩ := square_tab h
   have hl := hT.len
   have e := tabG_tot u.length (atG u)
   rw [tabG_self (fun x hx => (hT.row x hx).1)] at e
   have := Nat.mul_le_mul hl hl
   show totSS u ≤ 1000 ∧ u.length ≤ 1000
   omega
 · simp [totSS]
theorem checked_eq (u : List (List Int)) (hl : u.length ≤ 1048576) (ht : totSS u ≤ 1048576) : impl_checked.f u = some (checkR u) := by
 unfold impl_checked.f checkR
 rw [implIsSquare_eq u hl ht, Option.bind_some]
 split <;> rfl
theorem checkedG_eq (n : Nat) (hn : n ≤ 6) (G : Nat → Nat → Int) : impl_checked.f (tabG n G) = some (checkR (tabG n G)) := by
 have := Nat.mul_le_mul hn hn
 exact checked_eq _ (by rw [tabG_length]; omega) (by rw [tabG_tot]; omega)
theorem doIf_ev (u : List (List Int)) (hl : u.length ≤ 1048576) (ht : totSS u ≤ 1048576) : Ev (fun k => spec_doIf.f k u) (checkR u) := by
 unfold spec_doIf.f checkR
 exact Ev.bind (doGood_ev u hl ht) (Ev.ite (fun _ => Ev.now _) (fun _ => Ev.now _))
theorem doIfG_ev (n : Nat) (hn : n ≤ 6) (G : Nat → Nat → Int) : Ev (fun k => spec_doIf.f k (tabG n G)) (checkR (tabG n G)) := by
 have := Nat.mul_le_mul hn hn
 exact doIf_ev _ (by rw [tabG_length]; omega) (by rw [tabG_tot]; omega)
theorem atG_bd {l : List (List Int)} (h : Tab l) {i j : Nat} (hi : i < l.length) (hj : j < l.length) : 0 ≤ atG l i j ∧ atG l i j ≤ 1000000 := by
 unfold atG
 rw [rd_L1n hi]
 exact tab_rd h (List.getElem_mem hi) hj
theorem tab_rowlen {l : List (List Int)} (h : Tab l) {i : Nat} (hi : i < l.length) : (rd_L1 l (i : Int)).length = l.length := by
 rw [rd_L1n hi]
 exact (h.row _ (List.getElem_mem hi)).1
end Go.Proofs.Ytkhpojcplejdjaa.A

namespace Go.Proofs.Ytkhpojcplejdjaa.A
open Go.RowKit Go.Proofs.YtkhpojcplejdjaaW.PrintWords Go.Proofs.YtkhpojcplejdjaaW.PrintLast Go.Proofs.YtkhpojcplejdjaaW.PrintMore
set_option linter.unusedVariables false
set_option linter.unusedSimpArgs false
theorem doEmpty_l (n : Nat) (hn : n ≤ 1000) : ∀ (m i : Nat), i + m = n → Ev (fun k => spec_doEmpty.l0 k (n : Int) (List.replicate i (List.replicate n 0)) (i : Int)) (tabG n fun _ _ => 0)
 | 0, i, e => by
  have ei : i = n := by omega
  subst ei
  refine Ev.succ ?_
  simp only [spec_doEmpty.l0, if_neg (show ¬ (i : Int) < (i : Int) by omega)]
  rw [tabG_zero]
  exact Ev.now _
 | m + 1, i, e => by
  refine Ev.succ ?_
  have hi : i < n := by omega
  simp only [spec_doEmpty.l0, if_pos (show (i : Int) < (n : Int) by omega), if_pos (show (0 : Int) ≤ (n : Int) by omega), Int.toNat_natCast, if_pos (show n ≤ 35184372088832 by omega), List.length_replicate, if_pos (show i < 5864062014805 by omega), wsucc hi (by omega)]
  have := doEmpty_l n hn m (i + 1) (by omega)
  rw [List.replicate_succ'] at this
  exact this
theorem doEmpty_ev (n : Nat) (hn : n ≤ 1000) : Ev (fun k => spec_doEmpty.f k (n : Int)) (tabG n fun _ _ => 0) := by
 unfold spec_doEmpty.f
 exact doEmpty_l n hn n 0 (by omega)
end Go.Proofs.Ytkhpojcplejdjaa.A

namespace Go.Proofs.Ytkhpojcplejdjaa.A
open Go.RowKit Go.Proofs.YtkhpojcplejdjaaW.PrintWords Go.Proofs.YtkhpojcplejdjaaW.PrintLast Go.Proofs.YtkhpojcplejdjaaW.PrintMore
set_option linter.unusedVariables false
set_option linter.unusedSimpArgs false
/-! square, doEmpty: what they make -/
theorem square_l1 (F : Int → Int → Option Int) (G : Nat → Nat → Int) (n : Nat) (hn : n ≤ 1000) (hF : ∀ i j, i < n → j < n → F (i : Int) (j : Int) = some (G i j)) (i : Nat) (hi : i < n) (X : List (List Int)) {r : List (List Int)} (hr : Ev (fun k => if X.length < 5864062014805 then impl_square.l0 F k (n : Int) (X ++ [(List.range n).map fun j => G i j]) (n : Int) ((i + 1 : Nat) : Int) else none) r) : ∀ (m j : Nat), j + m = n → Ev (fun k => impl_square.l1 F k (n : Int) X (i : Int) ((List.range j).map fun j => G i j) (n : Int) (i : Int) (n : Int) (j : Int)) r
 | 0, j, e => by
  have ej : j = n := by omega
  subst ej
  refine Ev.succ ?_
  simp only [impl_square.l1, if_neg (show ¬ (j : Int) < (j : Int) by omega), wsucc hi (by omega)]
  exact hr
 | m + 1, j, e => by
  refine Ev.succ ?_
  have hj : j < n := by omega
  simp only [impl_square.l1, if_pos (show (j : Int) < (n : Int) by omega), hF i j hi hj, Option.bind_some, List.length_map, List.length_range, if_pos (show j < 17592186044416 by omega), wsucc hj (by omega)]
  have := square_l1 F G n hn hF i hi X hr m (j + 1) (by omega)
  rw [List.range_succ, List.map_append] at this
  exact this
theorem square_l0 (F : Int → Int → Option Int) (G : Nat → Nat → Int) (n : Nat) (hn : n ≤ 1000) (hF : ∀ i j, i < n → j < n → F (i : Int) (j : Int) = some (G i j)) : ∀ (m i : Nat), i + m = n → Ev (fun k => impl_square.l0 F k (n : Int) ((List.range i).map fun i => (List.range n).map fun j => G i j) (n : Int) (i : Int)) (tabG n G)
 | 0, i, e => by
  have ei : i = n := by omega
  subst ei
  refine Ev.succ ?_
  simp only [impl_square.l0, if_neg (show ¬ (i : Int) < (i : Int) by omega)]
  exact Ev.now _
 | m + 1, i, e => by
  refine Ev.succ ?_
  have hi : i < n := by omega
  simp only [impl_square.l0, if_pos (show (i : Int) < (n : Int) by omega)]
  refine square_l1 F G n hn hF i hi _ ?_ n 0 (by omega)
  simp only [List.length_map, List.length_range, if_pos (show i < 5864062014805 by omega)]
  have := square_l0 F G n hn hF m (i + 1) (by omega)
  rw [List.range_succ, List.map_append] at this
  exact this
theorem square_ev (F : Int → Int → Option Int) (G : Nat → Nat → Int) (n : Nat) (hn : n ≤ 1000) (hF : ∀ i j, i < n → j < n → F (i : Int) (j : Int) = some (G i j)) : Ev (fun k => impl_square.f F k (n : Int)) (tabG n G) := by
 unfold impl_square.f
 exact square_l0 F G n hn hF n 0 (by omega)
end Go.Proofs.Ytkhpojcplejdjaa.A

namespace Go.Proofs.Ytkhpojcplejdjaa.A
open Go.RowKit Go.Proofs.YtkhpojcplejdjaaW.PrintWords Go.Proofs.YtkhpojcplejdjaaW.PrintLast Go.Proofs.YtkhpojcplejdjaaW.PrintMore
set_option linter.unusedVariables false
set_option linter.unusedSimpArgs false
/-! AddTables -/
def adR (l0 l1 : List (List Int)) : List (List Int) × Bool := if squareB l0 = true then (if squareB l1 = true then (if (l0.length : Int) = (l1.length : Int) then checkR (tabG l0.length fun i j => atG l0 i j + atG l1 i j) else ([], false)) else ([], false)) else ([], false)
theorem adR_bd (l0 l1 : List (List Int)) : totSS (adR l0 l1).1 ≤ 1000 ∧ (adR l0 l1).1.length ≤ 1000 := by
 have h0 : totSS ([] : List (List Int)) ≤ 1000 ∧ ([] : List (List Int)).length ≤ 1000 := by simp [totSS]
 unfold adR
 repeat' split
 · exact checkR_bd _
 all_goals exact h0
theorem specAddTables_ev (l0 l1 : List (List Int)) (u0 : l0.length ≤ 1048576) (v0 : totSS l0 ≤ 1048576) (u1 : l1.length ≤ 1048576) (v1 : totSS l1 ≤ 1048576) : Ev (fun k => spec_AddTables.f k l0 l1) (adR l0 l1) := by
 unfold spec_AddTables.f adR
 refine Ev.bind (doGood_ev l0 u0 v0) (Ev.ite (fun h0 => ?_) (fun _ => Ev.succ (by simp only [spec_AddTables.j0, if_true]; exact Ev.now _)))
 refine Ev.bind (doGood_ev l1 u1 v1) (Ev.ite (fun h1 => ?_) (fun _ => Ev.succ (by simp only [spec_AddTables.j0, if_true]; exact Ev.now _)))
 obtain ⟨T0, n0⟩ := square_tab h0
 obtain ⟨T1, n1⟩ := square_tab h1
 have hl := T0.len
 refine Ev.succ ?_
 simp only [spec_AddTables.j0]
 by_cases e : (l0.length : Int) = (l1.length : Int)
 · have e' : l1.length = l0.length := by omega
   simp only [if_pos e, show ((l0.length : Int) != (l1.length : Int)) = false from bne_eq_false_iff_eq.mpr e, Bool.false_eq_true, if_false]
   refine Ev.bind (doEmpty_ev l0.length (by omega)) ?_
   refine fill_ev l0.length (fun i j => atG l0 i j + atG l1 i j) (fun k X i => spec_AddTables.l0 k l0 l1 X (l0.length : Int) i) (fun k X i j => spec_AddTables.l1 k l0 l1 X i (l0.length : Int) i (l0.length : Int) j) ?_ ?_ ?_ ?_
   · refine Ev.succ ?_
     simp only [spec_AddTables.l0, if_neg (Int.lt_irrefl _)]
     exact Ev.bind (doIfG_ev _ hl _) (Ev.now _)
   · intro i hi X hX
     refine Ev.succ ?_
     simp only [spec_AddTables.l0, if_pos (show (i : Int) < (l0.length : Int) by omega)]
     exact hX
   · intro i j hi hj H hz hX
     have b0 := atG_bd T0 hi hj
     have b1 := atG_bd T1 (i := i) (j := j) (by omega) (by omega)
     refine Ev.succ ?_
     simp only [spec_AddTables.l1, if_pos (show (j : Int) < (l0.length : Int) by omega), if_pos (show (0 : Int) ≤ (i : Int) by omega), if_pos (show (0 : Int) ≤ (j : Int) by omega), tabG_length, tab_rowlen T0 hi, tab_rowlen T1 (show i < l1.length by omega), tabG_rowlen _ hi, if_pos (show (i : Int) < (l0.length : Int) by omega), if_pos (show (i : Int) < (l1.length : Int) by omega), if_pos (show (j : Int) < (l1.length : Int) by omega), Int.toNat_natCast, tabG_set _ _ _ hi, wsucc hj (by omega)]
     rw [show wrap64 (rd (rd_L1 l0 (i : Int)) (j : Int) + rd (rd_L1 l1 (i : Int)) (j : Int)) = atG l0 i j + atG l1 i j from w64 (by unfold atG at b0 b1; omega) (by unfold atG at b0 b1; omega)]
     exact hX
   · intro i hi X hX
     refine Ev.succ ?_
     simp only [spec_AddTables.l1, if_neg (Int.lt_irrefl _), wsucc hi (by omega)]
     exact hX
 · simp only [if_neg e, show ((l0.length : Int) != (l1.length : Int)) = true from bne_iff_ne.mpr e, if_true]
   exact Ev.now _
theorem areSquares_eq (l0 l1 : List (List Int)) (u0 : l0.length ≤ 1048576) (v0 : totSS l0 ≤ 1048576) (u1 : l1.length ≤ 1048576) (v1 : totSS l1 ≤ 1048576) : impl_areSquares.f l0 l1 = some (if squareB l0 = true then (if squareB l1 = true then ((l0.length : Int) == (l1.length : Int)) else false) else false) := by
 unfold impl_areSquares.f
 rw [implIsSquare_eq l0 u0 v0, implIsSquare_eq l1 u1 v1]
 simp only [Option.bind_some]
 repeat' split
 all_goals rfl
theorem implAddTables_ev (l0 l1 : List (List Int)) (u0 : l0.length ≤ 1048576) (v0 : totSS l0 ≤ 1048576) (u1 : l1.length ≤ 1048576) (v1 : totSS l1 ≤ 1048576) : Ev (fun k => impl_AddTables.f k l0 l1) (adR l0 l1) := by
 unfold impl_AddTables.f adR
 simp only [areSquares_eq l0 l1 u0 v0 u1 v1, Option.bind_some]
 by_cases h0 : squareB l0 = true
 · by_cases h1 : squareB l1 = true
   · by_cases e : (l0.length : Int) = (l1.length : Int)
     · obtain ⟨T0, n0⟩ := square_tab h0
       obtain ⟨T1, n1⟩ := square_tab h1
       have hl := T0.len
       simp only [if_pos h0, if_pos h1, if_pos e, show ((l0.length : Int) == (l1.length : Int)) = true from beq_iff_eq.mpr e, if_true]
       refine Ev.bind (square_ev _ (fun i j => atG l0 i j + atG l1 i j) l0.length (by omega) (fun i j hi hj => ?_)) ?_
       · have b0 := atG_bd T0 hi hj
         have b1 := atG_bd T1 (i := i) (j := j) (by omega) (by omega)
         unfold addF
         rw [if_pos (by rw [tab_rowlen T0 hi, tab_rowlen T1 (show i < l1.length by omega)]; omega)]
         exact congrArg some (w64 (by unfold atG at b0 b1; omega) (by unfold atG at b0 b1; omega))
       · simp only [checkedG_eq _ hl]
         exact Ev.now _
     · simp only [if_pos h0, if_pos h1, if_neg e, show ((l0.length : Int) == (l1.length : Int)) = false from beq_eq_false_iff_ne.mpr e, Bool.false_eq_true, if_false]
       exact Ev.now _
   · simp only [if_pos h0, if_neg h1, Bool.false_eq_true, if_false]
     exact Ev.now _
 · simp only [if_neg h0, Bool.false_eq_true, if_false]
   exact Ev.now _
end Go.Proofs.Ytkhpojcplejdjaa.A

-- made by a program of this repo (wip/pp.py) through the kit's printer
namespace Go.Proofs.Ytkhpojcplejdjaa.A
open Go.RowKit Go.Proofs.YtkhpojcplejdjaaW.PrintWords Go.Proofs.YtkhpojcplejdjaaW.PrintLast Go.Proofs.YtkhpojcplejdjaaW.PrintMore
attribute [local go_sem] max2_int min2_int max_two min_two max_three min_three max_four min_four
set_option linter.unusedVariables false
set_option linter.unusedSimpArgs false

end Go.Proofs.Ytkhpojcplejdjaa.A

-- made by a program of this repo (wip/pp.py) through the kit's printer
namespace Go.Proofs.Ytkhpojcplejdjaa.A
open Go.RowKit Go.Proofs.YtkhpojcplejdjaaW.PrintWords Go.Proofs.YtkhpojcplejdjaaW.PrintLast Go.Proofs.YtkhpojcplejdjaaW.PrintMore
attribute [local go_sem] max2_int min2_int max_two min_two max_three min_three max_four min_four
set_option linter.unusedVariables false
set_option linter.unusedSimpArgs false

end Go.Proofs.Ytkhpojcplejdjaa.A

namespace Go.Proofs.Ytkhpojcplejdjaa.A
open Go.RowKit Go.Proofs.YtkhpojcplejdjaaW.PrintWords Go.Proofs.YtkhpojcplejdjaaW.PrintLast Go.Proofs.YtkhpojcplejdjaaW.PrintMore
set_option linter.unusedVariables false
set_option linter.unusedSimpArgs false
end Go.Proofs.Ytkhpojcplejdjaa.A

namespace Go.Proofs.Ytkhpojcplejdjaa.A
open Go.RowKit Go.Proofs.YtkhpojcplejdjaaW.PrintWords Go.Proofs.YtkhpojcplejdjaaW.PrintLast Go.Proofs.YtkhpojcplejdjaaW.PrintMore
set_option linter.unusedVariables false
set_option linter.unusedSimpArgs false
theorem rd_mem {l : List Int} {i : Int} (h0 : 0 ≤ i) (h1 : i < l.length) : rd l i ∈ l := by
 have hi : i.toNat < l.length := by omega
 have e : rd l i = l[i.toNat] := rdi h0 h1
 rw [e]
 exact List.getElem_mem hi
end Go.Proofs.Ytkhpojcplejdjaa.A

namespace Go.Proofs.Ytkhpojcplejdjaa.A
open Go.RowKit Go.Proofs.YtkhpojcplejdjaaW.PrintWords Go.Proofs.YtkhpojcplejdjaaW.PrintLast Go.Proofs.YtkhpojcplejdjaaW.PrintMore
set_option linter.unusedVariables false
set_option linter.unusedSimpArgs false
/-! what the draws give: small numbers and short lists -/
theorem tmod_bd (x n : Int) (h0 : 0 ≤ x) (hn : 0 < n) : 0 ≤ Int.tmod x n ∧ Int.tmod x n < n := by
 rw [Int.tmod_eq_emod_of_nonneg h0]
 exact ⟨Int.emod_nonneg _ (by omega), Int.emod_lt_of_pos _ hn⟩
theorem and255 (z : Int) : 0 ≤ Go.bits .and .u64 (IntKind.u64.wrap z / 1099511627776) 255 ∧ Go.bits .and .u64 (IntKind.u64.wrap z / 1099511627776) 255 ≤ 255 := by
 have e := IntKind.wrap_u64 z
 have h := bits_mask .u64 64 (by decide) wraps_u64 8 (by decide) (IntKind.u64.wrap z / 1099511627776) (by omega) (by omega)
 have h' : Go.bits .and .u64 (IntKind.u64.wrap z / 1099511627776) 255 = IntKind.u64.wrap z / 1099511627776 % 256 := by simpa using h
 rw [h']
 omega
def Bytes (l : List Int) : Prop := l.length ≤ 1048576 ∧ ∀ x ∈ l, 0 ≤ x ∧ x ≤ 255
theorem next_ev (l : List Int) (hl : Bytes l) (a s : Int) (h0 : 0 ≤ a) (h1 : a ≤ 1000000000) : ∃ x s', spec_l1Cur_next.f l a s = some (x, a + 1, s') ∧ 0 ≤ x ∧ x ≤ 255 := by
 have hb := hl.1
 unfold spec_l1Cur_next.f
 rw [w64 (x := a + 1) (by omega) (by omega)]
 by_cases c : a < (l.length : Int)
 · simp only [if_pos c, if_pos h0]
   have hx := hl.2 _ (rd_mem h0 c)
   by_cases c2 : a + 1 ≤ (l.length : Int)
   · simp only [if_pos c2]
     refine ⟨_, _, rfl, ?_⟩
     rw [w64 (by omega) (by omega)]
     exact hx
   · omega
 · simp only [if_neg c]
   by_cases c2 : a + 1 ≤ (l.length : Int)
   · omega
   · simp only [if_neg c2]
     refine ⟨_, _, rfl, ?_⟩
     have := and255 (IntKind.u64.wrap (IntKind.u64.wrap (s * 6364136223846793005) + 0) + 1442695040888963407)
     rw [w64 (by omega) (by omega)]
     exact this
theorem pick_ev (l : List Int) (hl : Bytes l) (a s n : Int) (h0 : 0 ≤ a) (h1 : a ≤ 900000000) : ∃ x a' s', spec_l1Cur_pick.f l a s n = some (x, a', s') ∧ 0 ≤ x ∧ (x = 0 ∨ x < n) ∧ a ≤ a' ∧ a' ≤ a + 2 := by
 unfold spec_l1Cur_pick.f
 by_cases c : n ≤ 1
 · simp only [if_pos c]
   exact ⟨_, _, _, rfl, by omega, by omega, by omega, by omega⟩
 · simp only [if_neg c]
   obtain ⟨x, s1, e1, b1, b2⟩ := next_ev l hl a s h0 (by omega)
   simp only [e1, Option.bind_some]
   by_cases c2 : n > 200
   · simp only [if_pos c2]
     obtain ⟨y, s2, e2, b3, b4⟩ := next_ev l hl (a + 1) s1 (by omega) (by omega)
     simp only [e2, Option.bind_some, if_neg (show ¬ n = 0 by omega)]
     have t := tmod_bd (x * 256 + y) n (by omega) (by omega)
     refine ⟨_, _, _, rfl, ?_⟩
     rw [w64 (x := x * 256) (by omega) (by omega), w64 (x := x * 256 + y) (by omega) (by omega)]
     omega
   · simp only [if_neg c2, if_neg (show ¬ n = 0 by omega)]
     have t := tmod_bd x n (by omega) (by omega)
     exact ⟨_, _, _, rfl, by omega, by omega, by omega, by omega⟩
theorem one_ev (l : List Int) (hl : Bytes l) (a s n : Int) (h0 : 0 ≤ a) (h1 : a ≤ 900000000) : ∃ x a' s', spec_l1Cur_one.f l a s n = some (x, a', s') ∧ a ≤ a' ∧ a' ≤ a + 2 := by
 unfold spec_l1Cur_one.f
 obtain ⟨x, a', s', e, _, _, b1, b2⟩ := pick_ev l hl a s n h0 h1
 simp only [e, Option.bind_some]
 exact ⟨_, _, _, rfl, b1, b2⟩
theorem among_ev (l : List Int) (hl : Bytes l) (a s : Int) (L : List Int) (hL : 0 < L.length) (h0 : 0 ≤ a) (h1 : a ≤ 900000000) : ∃ x a' s', spec_l1Cur_among.f l a s L = some (x, a', s') ∧ x ∈ L ∧ a ≤ a' ∧ a' ≤ a + 2 := by
 unfold spec_l1Cur_among.f
 obtain ⟨x, a', s', e, b0, b, b1, b2⟩ := pick_ev l hl a s (L.length : Int) h0 h1
 simp only [e, Option.bind_some, if_pos b0, if_pos (show x < (L.length : Int) by omega)]
 exact ⟨_, _, _, rfl, rd_mem b0 (by omega), b1, b2⟩
/-- Short lists of small numbers. -/
structure Bd (n m : Int) (l : List Int) : Prop where
 len : (l.length : Int) ≤ n
 low : ∀ x ∈ l, -1 ≤ x
 high : ∀ x ∈ l, x ≤ m
theorem Bd.nil (n m : Int) (h : 0 ≤ n) : Bd n m [] := ⟨by simpa using h, fun x hx => by simp at hx, fun x hx => by simp at hx⟩
end Go.Proofs.Ytkhpojcplejdjaa.A

namespace Go.Proofs.Ytkhpojcplejdjaa.A
open Go.RowKit Go.Proofs.YtkhpojcplejdjaaW.PrintWords Go.Proofs.YtkhpojcplejdjaaW.PrintLast Go.Proofs.YtkhpojcplejdjaaW.PrintMore
set_option linter.unusedVariables false
set_option linter.unusedSimpArgs false
end Go.Proofs.Ytkhpojcplejdjaa.A

namespace Go.Proofs.Ytkhpojcplejdjaa.A
open Go.RowKit Go.Proofs.YtkhpojcplejdjaaW.PrintWords Go.Proofs.YtkhpojcplejdjaaW.PrintLast Go.Proofs.YtkhpojcplejdjaaW.PrintMore
set_option linter.unusedVariables false
set_option linter.unusedSimpArgs false
theorem tot_le {l : List (List Int)} {B : Nat} (h : ∀ x ∈ l, x.length ≤ B) : totSS l ≤ B * l.length := by
 induction l with
 | nil => simp [totSS]
 | cons x l ih =>
  have := ih (fun y hy => h y (List.mem_cons_of_mem _ hy))
  have := h x List.mem_cons_self
  simp only [totSS, List.map_cons, List.sum_cons, List.length_cons, Nat.mul_succ] at *
  omega
end Go.Proofs.Ytkhpojcplejdjaa.A

namespace Go.Proofs.Ytkhpojcplejdjaa.A
open Go.RowKit Go.Proofs.YtkhpojcplejdjaaW.PrintWords Go.Proofs.YtkhpojcplejdjaaW.PrintLast Go.Proofs.YtkhpojcplejdjaaW.PrintMore
set_option linter.unusedVariables false
set_option linter.unusedSimpArgs false
theorem l1Has_l (xs : List Int) (x : Int) (hx : xs.length ≤ 9223372036854775807) : ∀ (n i : Nat), i + n = xs.length → Ev (fun k => spec_l1Has.l0 k x xs (xs.length : Int) (i : Int)) (decide (x ∈ xs.drop i))
 | 0, i, h => by
  refine Ev.succ ?_
  simp only [spec_l1Has.l0, if_neg (show ¬ (i : Int) < (xs.length : Int) by omega)]
  rw [List.drop_eq_nil_of_le (by omega), decide_eq_false (by simp)]
  exact Ev.now _
 | n + 1, i, h => by
  have hi : i < xs.length := by omega
  refine Ev.succ ?_
  simp only [spec_l1Has.l0, if_pos (show (i : Int) < (xs.length : Int) by omega), if_pos (show (0 : Int) ≤ (i : Int) by omega), rdn hi, wsucc hi hx]
  rw [List.drop_eq_getElem_cons hi]
  by_cases c : xs[i] = x
  · simp only [if_pos c]
    rw [decide_eq_true (by rw [c]; exact List.mem_cons_self)]
    exact Ev.now _
  · simp only [if_neg c, List.mem_cons, show ¬ x = xs[i] from fun e => c e.symm, false_or]
    exact l1Has_l xs x hx n (i + 1) (by omega)
theorem l1Has_ev (xs : List Int) (x : Int) (hx : xs.length ≤ 9223372036854775807) : Ev (fun k => spec_l1Has.f k xs x) (decide (x ∈ xs)) := l1Has_l xs x hx xs.length 0 (by omega)
end Go.Proofs.Ytkhpojcplejdjaa.A

namespace Go.Proofs.Ytkhpojcplejdjaa.A
open Go.RowKit Go.Proofs.YtkhpojcplejdjaaW.PrintWords Go.Proofs.YtkhpojcplejdjaaW.PrintLast Go.Proofs.YtkhpojcplejdjaaW.PrintMore
set_option linter.unusedVariables false
set_option linter.unusedSimpArgs false
def placeB (xs : List Int) : Bool := if (1 : Int) ≤ xs.length ∧ (xs.length : Int) ≤ 6 then (if xs.Nodup then inR 0 ((xs.length : Int) - 1) xs else false) else false
theorem doPlacing_l (xs : List Int) (hx : xs.length ≤ 6) : ∀ (n i : Nat), i + n = xs.length → (xs.take i).Nodup → Ev (fun k => spec_doPlacing.l0 k xs xs (xs.length : Int) (i : Int)) (if xs.Nodup then inR 0 ((xs.length : Int) - 1) xs else false)
 | 0, i, h, hn => by
  refine Ev.succ ?_
  rw [List.take_of_length_le (by omega)] at hn
  simp only [spec_doPlacing.l0, if_neg (show ¬ (i : Int) < (xs.length : Int) by omega), w64 (x := (xs.length : Int) - 1) (by omega) (by omega), if_pos hn]
  exact Ev.bind (l1All_ev xs _ _ (by omega)) (Ev.now _)
 | n + 1, i, h, hn => by
  have hi : i < xs.length := by omega
  refine Ev.succ ?_
  simp only [spec_doPlacing.l0, if_pos (show (i : Int) < (xs.length : Int) by omega), if_pos (show (0 : Int) ≤ (i : Int) by omega), if_pos (show (i : Int) ≤ (xs.length : Int) by omega), rdn hi, wsucc hi (by omega), Int.toNat_natCast]
  refine Ev.bind (l1Has_ev (xs.take i) xs[i] (by rw [List.length_take]; omega)) ?_
  by_cases c : xs[i] ∈ xs.take i
  · simp only [decide_eq_true c, if_true]
    have hnot : ¬ xs.Nodup := by
     intro hd
     have h1 := hd.sublist (List.take_sublist (i + 1) xs)
     rw [List.take_succ_eq_append_getElem hi, List.nodup_append] at h1
     exact h1.2.2 _ c _ List.mem_cons_self rfl
    rw [if_neg hnot]
    exact Ev.now _
  · simp only [decide_eq_false c, if_neg (show ¬ (false = true) by decide)]
    refine doPlacing_l xs hx n (i + 1) (by omega) ?_
    rw [List.take_succ_eq_append_getElem hi, List.nodup_append]
    refine ⟨hn, by simp, fun a ha b hb => ?_⟩
    rw [List.mem_singleton] at hb
    rw [hb]
    rintro rfl
    exact c ha
theorem doPlacing_ev (xs : List Int) : Ev (fun k => spec_doPlacing.f k xs) (placeB xs) := by
 unfold spec_doPlacing.f placeB
 simp only [l1In_eq, Option.bind_some, decide_eq_true_eq]
 exact Ev.ite (fun h => doPlacing_l xs (by omega) xs.length 0 (by omega) (by simp)) (fun _ => Ev.now _)
end Go.Proofs.Ytkhpojcplejdjaa.A

namespace Go.Proofs.Ytkhpojcplejdjaa.A
open Go.RowKit Go.Proofs.YtkhpojcplejdjaaW.PrintWords Go.Proofs.YtkhpojcplejdjaaW.PrintLast Go.Proofs.YtkhpojcplejdjaaW.PrintMore
set_option linter.unusedVariables false
set_option linter.unusedSimpArgs false
theorem placeB_len {l0 : List Int} (h : placeB l0 = true) : 1 ≤ l0.length ∧ l0.length ≤ 6 ∧ l0.Nodup ∧ ∀ x ∈ l0, 0 ≤ x ∧ x < (l0.length : Int) := by
 unfold placeB at h
 split at h
 · next h1 =>
   split at h
   · next h2 =>
     unfold inR at h
     simp only [List.all_eq_true, decide_eq_true_eq] at h
     exact ⟨by omega, by omega, h2, fun x hx => by have := h x hx; omega⟩
   · cases h
 · cases h
end Go.Proofs.Ytkhpojcplejdjaa.A
