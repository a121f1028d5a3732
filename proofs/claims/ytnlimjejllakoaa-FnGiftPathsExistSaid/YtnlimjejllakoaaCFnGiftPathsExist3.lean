/- What the law FnGiftPathsExist reaches, part 3: Lean functions with the same answers as the Go functions, the proofs that the Go code comes to these answers, and lemmas about them; no condition beyond those that each theorem names. -/
import Derived.Test.YtnlimjejllakoaaCFnGiftPathsExistw1
import Derived.Test.YtnlimjejllakoaaCFnGiftPathsExist1
import Derived.Test.YtnlimjejllakoaaCFnGiftPathsExist2
set_option linter.unusedVariables false
set_option linter.unusedSimpArgs false
set_option maxHeartbeats 8000000
set_option maxRecDepth 100000
namespace Go.Proofs.Ytnlimjejllakoaa.A
open Go.RowKit Go.Proofs.YtnlimjejllakoaaW.PrintWords Go.Proofs.YtnlimjejllakoaaW.PrintLast Go.Proofs.YtnlimjejllakoaaW.PrintMore
attribute [local go_sem] max2_int min2_int max_two min_two max_three min_three max_four min_four
mutual
def impl_path.l0 : Nat → List Int → List Int → Bool → List (S39) → Option ((List (S39)))
 | 0, _, _, _, _ => none
 | k + 1, x0, x1, x2, x7 => (slices_Equal_int_int.f k x0 x1).bind fun t1148 => (if t1148 = true then (some x7) else (impl_path.l1 k x0 x1 x2 x7 0))
def impl_path.l1 : Nat → List Int → List Int → Bool → List (S39) → Int → Option ((List (S39)))
 | 0, _, _, _, _, _ => none
 | k + 1, x0, x1, x2, x7, x8 => if 0 ≤ x8 then (if x8 < (x0.length : Int) then (if x8 < (x1.length : Int) then (if (rd x0 x8) ≥ (rd x1 x8) then (impl_path.l1 k x0 x1 x2 x7 (wrap64 (x8 + 1))) else (impl_path.l2 k x0 x1 x2 x7 x8 x8)) else (none)) else (none)) else (none)
def impl_path.l2 : Nat → List Int → List Int → Bool → List (S39) → Int → Int → Option ((List (S39)))
 | 0, _, _, _, _, _, _ => none
 | k + 1, x0, x1, x2, x7, x8, x9 => if 0 ≤ x9 then (if x9 < (x0.length : Int) then (if x9 < (x1.length : Int) then (if (rd x0 x9) ≤ (rd x1 x9) then (impl_path.l2 k x0 x1 x2 x7 x8 (wrap64 (x9 - 1))) else (if x2 = true then (if x7.length < 5864062014805 then ((impl_given.f x0 x9 x8 1).bind fun t1157 => ((impl_ranking.f t1157).bind fun t1160 => (impl_path.l0 k t1160 x1 x2 (x7 ++ [(⟨x9, x8, 1⟩ : S39)])))) else (none)) else (if 0 ≤ x8 then (if x8 < (x1.length : Int) then (if x8 < (x0.length : Int) then (if x7.length < 5864062014805 then ((impl_given.f x0 x9 x8 (mn (wrap64 ((rd x0 x9) - (rd x1 x9))) (wrap64 ((rd x1 x8) - (rd x0 x8))))).bind fun t1170 => ((impl_ranking.f t1170).bind fun t1173 => (impl_path.l0 k t1173 x1 x2 (x7 ++ [(⟨x9, x8, mn (wrap64 ((rd x0 x9) - (rd x1 x9))) (wrap64 ((rd x1 x8) - (rd x0 x8)))⟩ : S39)])))) else (none)) else (none)) else (none)) else (none)))) else (none)) else (none)) else (none)
end
def impl_path.f (k : Nat) (l0 : List Int) (l1 : List Int) (a2 : Bool) : Option ((List (S39))) := impl_path.l0 k l0 l1 a2 (([] : List (S39)))
def impl_path.T4 : Bool × List (List Nat × List Nat) := (true, [([], []), ([], []), ([0, 1], [0, 1]), ([2], [2]), ([], []), ([], []), ([4, 5], [4, 5]), ([6], [6]), ([3, 7], [3, 7])])
def impl_path.B4 : List Nat := [0, 0, 3, 7, 0, 0, 48, 112, 255]
theorem impl_path.tab4 : rtab .any (opsOf Try.f129 4) = impl_path.T4 := by kernel_rfl
theorem impl_path.bits4 : waitsOk impl_path.T4.2 impl_path.B4 = true := by kernel_rfl
def impl_path.T7 : Bool × List (List Nat × List Nat) := (true, [([], []), ([], []), ([0, 1], [0, 1]), ([2], [2]), ([], []), ([], []), ([4, 5], [4, 5]), ([6], [6]), ([3, 7], [3, 7])])
def impl_path.B7 : List Nat := [0, 0, 3, 7, 0, 0, 48, 112, 255]
theorem impl_path.tab7 : rtab .any (opsOf Try.f129 7) = impl_path.T7 := by kernel_rfl
theorem impl_path.bits7 : waitsOk impl_path.T7.2 impl_path.B7 = true := by kernel_rfl
def impl_path.T11 : Bool × List (List Nat × List Nat) := (true, [([], []), ([], []), ([0, 1], [0, 1]), ([2], [2]), ([], []), ([], []), ([4, 5], [4, 5]), ([6], [6]), ([3, 7], [3, 7]), ([], []), ([], []), ([9, 10], [9, 10]), ([11], [11]), ([], []), ([], []), ([13, 14], [13, 14]), ([15], [15]), ([12, 16], [12, 16]), ([8, 17], [8, 17]), ([0, 1, 2, 3, 4, 5, 6, 7, 8, 9, 10, 11, 12, 13, 14, 15, 16, 17, 18], []), ([19, 18, 0, 1, 2, 3, 4, 5, 6, 7, 8, 9, 10, 11, 12, 13, 14, 15, 16, 17, 18], [18, 19])])
def impl_path.B11 : List Nat := [0, 0, 3, 7, 0, 0, 48, 112, 255, 0, 0, 1536, 3584, 0, 0, 24576, 57344, 130560, 262143, 524287, 1048575]
theorem impl_path.tab11 : rtab .any (opsOf Try.f129 11) = impl_path.T11 := by kernel_rfl
theorem impl_path.bits11 : waitsOk impl_path.T11.2 impl_path.B11 = true := by kernel_rfl
def impl_path.T12 : Bool × List (List Nat × List Nat) := (true, [([], []), ([], []), ([1], [1]), ([0, 2], [0, 2]), ([], []), ([], []), ([4, 5, 3], [4, 5]), ([6, 6], [6]), ([3, 7, 0, 1, 2, 3], [0, 3]), ([7, 8, 0, 1, 2, 3, 4, 5, 6, 7, 8], [4, 7])])
def impl_path.B12 : List Nat := [0, 0, 2, 7, 0, 0, 63, 127, 255, 511]
theorem impl_path.tab12 : rtab .any (opsOf Try.f129 12) = impl_path.T12 := by kernel_rfl
theorem impl_path.bits12 : waitsOk impl_path.T12.2 impl_path.B12 = true := by kernel_rfl
theorem impl_path.calls (k : Nat) (P0_ : Nat → Prop) (A0 : Option Addr) (c0 : Nat) (l0 : List Int) (A1 : Option Addr) (c1 : Nat) (l1 : List Int) (a2 : Bool) (r : List (S39)) (w : World) (hs0 : Kd.V (Kd.int .i64) 3 w w.heap.size (fun k_ => P0_ k_) (.slice A0 l0.length c0) l0) (hr1 : Kd.C (Kd.int .i64) w A1 l1.length l1) (hc1 : l1.length ≤ c1) (h : impl_path.f k l0 l1 a2 = some r) :
 Calls Try.prog 129 #[.slice A0 l0.length c0, .slice A1 l1.length c1, .bool a2] w fun e w' => ∃ v0_ : Value, e = .returned (v0_) ∧ Kd.R k39 39 w' w.heap.size (fun k_ => (w.heap.size ≤ k_)) v0_ r ∧ Below w.heap.size w w' := by
 have hu39 := Try.underlying39
 have HO0 := zad (show Kd.V (Kd.int .i64) 3 w w.heap.size (fun k_ => (P0_ k_ ∨ w.heap.size ≤ k_)) (.slice A0 l0.length c0) l0 from Kd.V_mono hs0 (fun k_ hk => .inl hk))
 have HR1 := zad hr1; have HC1 := zad hc1; clear hr1 hc1; have HB := zad (Below.refl w.heap.size w)
 have H : (impl_path.l0 k l0 l1 a2 (([] : List (S39)))) = some r := h
 clear h; obtain ⟨y1145, hy1145⟩ : ∃ y_ : List (S39), y_ = (([] : List (S39))) := ⟨_, rfl⟩
 replace H : (impl_path.l0 k l0 l1 a2 y1145) = some r := by first | (rw [hy1145]; with_reducible exact H) | (have H2_ := (zbd _ _).symm.trans H; rw [hy1145]; with_reducible exact H2_) | (have H2_ := (zbd _ _).symm.trans H; with_reducible exact H2_) | with_reducible exact H | (rw [hy1145]; exact H) | exact H
 have Ny1145 := zad hy1145; clear hy1145; have H' := zad H
 clear H; go_enter Try.func129, Try.ntmps129
 go_wp2_with (first | ((with_reducible refine gate_dst (N := 11) rfl ?_); refine Kd.R_lit k39 _ 39 ?hg (N := 11) ?hd (xs := ([] : List (S39))) (inner := []) (ok := fun _ => True) (okp := fun _ => True) ?hr ?hp (fun _ hk => hk) trivial (Below.refl _ _) (zch _) (taae) ?_; (case hd => rfl); (case hg => rfl); (case hr => first | (go_simp; done) | (go_simp; rfl)); (case hp => exact (Reps.none _ _)); intro v1146 w4 ho5 hb hg_ hnew_; clear hg_ hnew_; (first | rw [← Ny1145.out] at ho5 | (simp only [Int.reduceToNat] at ho5; rw [← Ny1145.out] at ho5)); have n0_ := zad (Kd.V_elder' (tadx) (zcf ho5) hb); have n1_ := zad (zbw (Kd.R_newM (M := fun k_ => (w.heap.size ≤ k_)) ho5 (zbm (taab)) (fun k_ h_ => h_)) (zbm (taab))); have n2_ := zad (zbg (taab) hb); clear HO0 HB; have HO0 := n0_; have HO1147 := n1_; have HB := n2_; clear n0_ n1_ n2_ hb ho5))
 go_loopg [0, 7] k (fun kq v0 v7 w' => ∃ (x0_1 : List Int) (x7_1 : List (S39)), Aside0 (impl_path.l0 kq x0_1 l1 a2 x7_1 = some r) ∧ Aside0 (kq ≤ k) ∧ Aside0 (Kd.V (Kd.int .i64) 3 w' w.heap.size (fun k_ => (P0_ k_ ∨ w.heap.size ≤ k_) ∧ some k_ ≠ (v7 : Value).ownBlock) v0 x0_1) ∧ Aside0 (Kd.R k39 39 w' w.heap.size (fun k_ => (w.heap.size ≤ k_)) v7 x7_1) ∧ Aside0 (Below w.heap.size w w'))
 case atStart => exact ⟨(l0), (y1145), H', ⟨zch _⟩, ⟨tadx⟩, ⟨by (with_reducible repeat (first | apply zai | apply zaj | apply zak)); exact zbs HO1147.out (fun _ hk => hk.1)⟩, ⟨taab⟩⟩
 case round =>
  clear H'
  try clear c1
  try clear p2
  obtain ⟨x0_1, x7_1, HA, HK1, HO_0, HO_7, HB⟩ := hrel
  cases gk with
  | zero => exact absurd HA.out (by simp [impl_path.l0])
  | succ k1 =>
   have H := HA.out
   clear HA; simp only [impl_path.l0] at H
   replace H := zay.mp H; obtain ⟨t1148, A60, H⟩ := H
   replace H : (if t1148 = true then (some x7_1) else (impl_path.l1 k1 x0_1 l1 a2 x7_1 0)) = some r := H
   have A6 := zad A60; clear A60; by_cases c7 : t1148 = true
   · subst c7
     have H1 : (some x7_1) = some r := by rw [if_pos rfl] at H; exact H
     clear H; have H := H1; clear H1; obtain rfl := zbe H
     obtain ⟨Ao8, co8, eo8⟩ := Kd.V_slice HO_0.out
     subst eo8; go_wp2_with (first | ((with_reducible refine zbh (f := 135) rfl ?_); refine zbp (some 14) rfl rfl Try.func135 (by kernel_rfl) rfl #[.slice Ao8 x0_1.length co8, .slice A1 l1.length c1] rfl (taad) ?_; (with_reducible refine (slices_Equal_int_int.calls k1 _ _ x0_1 _ _ l1 true _ ?side1 ?side2 ?side3 ?side4 A6.out).mono ?_); (case side1 => exact tagg); (case side2 => exact tagh); (case side3 => exact tagi); (case side4 => exact HC1.out); rintro e w' ⟨rfl, ⟨nd, rfl⟩⟩; refine ⟨_, rfl, ?_⟩))
     go_ret
     exact ⟨_, taaj, taah, taab⟩
   · replace c7 := zbi.mpr c7
     subst c7; have H1 : (impl_path.l1 k1 x0_1 l1 a2 x7_1 0) = some r := by rw [if_neg (show ¬ (false = true) by decide)] at H; exact H
     clear H; have H := H1; clear H1; have H' := zad H
     clear H; obtain ⟨Ao9, co9, eo9⟩ := Kd.V_slice HO_0.out
     subst eo9; go_wp2_with (first | ((with_reducible refine zbh (f := 135) rfl ?_); refine zbp (some 14) rfl rfl Try.func135 (by kernel_rfl) rfl #[.slice Ao9 x0_1.length co9, .slice A1 l1.length c1] rfl (taad) ?_; (with_reducible refine (slices_Equal_int_int.calls k1 _ _ x0_1 _ _ l1 false _ ?side1 ?side2 ?side3 ?side4 A6.out).mono ?_); (case side1 => exact tagg); (case side2 => exact tagh); (case side3 => exact tagi); (case side4 => exact HC1.out); rintro e w' ⟨rfl, ⟨nd, rfl⟩⟩; refine ⟨_, rfl, ?_⟩))
     go_loopg [8] k1 (fun kq v8 w' => ∃ (x8_2 : Int), v8 = .int .i64 x8_2 ∧ Aside0 (impl_path.l1 kq x0_1 l1 a2 x7_1 x8_2 = some r) ∧ Aside0 (kq ≤ k1) ∧ Aside0 (Kd.V (Kd.int .i64) 3 w' w.heap.size (fun k_ => (P0_ k_ ∨ w.heap.size ≤ k_) ∧ some k_ ≠ (u7 : Value).ownBlock) (.slice Ao9 x0_1.length co9) x0_1) ∧ Aside0 (Kd.R k39 39 w' w.heap.size (fun k_ => (w.heap.size ≤ k_)) u7 x7_1) ∧ Aside0 (Below w.heap.size w w'))
     case atStart => exact ⟨(0), (taag), H', ⟨zch _⟩, ⟨tabd⟩, ⟨taah⟩, ⟨taab⟩⟩
     case round =>
      clear H'
      try clear c1
      try clear p2
      try clear c7
      try clear p2
      obtain ⟨x8_2, rfl, HA, HK2, HO_0, HO_7, HB⟩ := hrel
      cases gk with
      | zero => exact absurd HA.out (by simp [impl_path.l1])
      | succ k2 =>
       have H := HA.out
       clear HA; simp only [impl_path.l1] at H
       by_cases c10 : 0 ≤ x8_2
       · rw [if_pos c10] at H
         have c10b0 : decide (0 ≤ x8_2) = true := zba c10
         clear c10; by_cases c11 : x8_2 < (x0_1.length : Int)
         · rw [if_pos c11] at H
           have c11b0 : decide (x8_2 < (x0_1.length : Int)) = true := zba c11
           clear c11; by_cases c12 : x8_2 < (l1.length : Int)
           · rw [if_pos c12] at H
             have c12b0 : decide (x8_2 < (l1.length : Int)) = true := zba c12
             clear c12; by_cases c13 : (rd x0_1 x8_2) ≥ (rd l1 x8_2)
             · rw [if_pos c13] at H
               have c13b0 : decide ((rd l1 x8_2) ≤ (rd x0_1 x8_2)) = true := zba c13
               clear c13; have H' := zad H
               clear H; try go_wp2
               have n0_ := zad (zbc HO_0.out)
               have n1_ := zad (zak HO_7.out)
               have n2_ := zad (zaf HB.out)
               clear HO_0 HO_7 HB; have HO_0 := n0_; have HO_7 := n1_; have HB := n2_; clear n0_ n1_ n2_; have p1149 : 0 ≤ (x8_2 : Int) := zas (taaa)
               have q1149 : x8_2 < (x0_1.length : Int) := zas (taaa)
               obtain ⟨ad1149, e1149, hx1149_0⟩ := zcc (Kd.V_reads' HO_0.out).2.2 x8_2 p1149 q1149
               cases e1149
               replace p1149 := eq_true p1149
               replace q1149 := eq_true q1149
               have p1150 : 0 ≤ (x8_2 : Int) := zas (taaa)
               have q1150 : x8_2 < (l1.length : Int) := zas (taaa)
               obtain ⟨ad1150, e1150, hx1150_0⟩ := zcc HR1.out x8_2 p1150 q1150
               have hw1150_0 := hx1150_0
               cases e1150
               replace hx1150_0 := (HB.out.cell (zaz w _ hx1150_0)).trans hx1150_0
               replace p1150 := eq_true p1150
               replace q1150 := eq_true q1150
               refine start_ (n := 9) (S := fun w' => w'.cell? (ad1149.add (x8_2).toNat) = some (.int .i64 (rd x0_1 x8_2)) ∧ w'.cell? (ad1150.add (x8_2).toNat) = some (.int .i64 (rd l1 x8_2))) (ds := []) #[false, false, false, false, false, false, false, false, false] (by kernel_rfl) rfl rfl ⟨hx1149_0, ((HB.out.cell (zaz w _ hw1150_0)).trans hw1150_0)⟩ (fun hHeld => ?_); refine with_tabW impl_path.tab4 impl_path.bits4 (fun HT_ HW_ => ?_)
               generalize wr.drew = w14 at HO_0 HO_7 HB hx1149_0 hx1150_0 hHeld ⊢
               refine pure_ (i := 0) (N := some 16) (v := ?_) (a' := ?_) taiy rfl rfl (zca HT_.out (by kernel_rfl)) (fun _ _ _ h => h) (Or.inl ⟨by rfl, ?_⟩) ?_ ?_
               rotate_left
               · intro w'
                 go_simp; with_reducible rfl
               rotate_left
               · simp only [Act.put, zaa, zab, zac, zby, zbz]
                 rfl
               refine pure_ (i := 1) (N := some 17) (v := ?_) (a' := ?_) taiz rfl rfl (zca HT_.out (by kernel_rfl)) (fun _ _ _ h => h) (Or.inl ⟨by rfl, ?_⟩) ?_ ?_
               rotate_left
               · intro w'
                 go_simp; with_reducible rfl
               rotate_left
               · simp only [Act.put, zaa, zab, zac, zby, zbz]
                 rfl
               refine pure_ (i := 2) (N := some 18) (v := ?_) (a' := ?_) taja rfl rfl (zca HT_.out (by kernel_rfl)) (fun _ _ _ h => h) (Or.inl ⟨by rfl, ?_⟩) ?_ ?_
               rotate_left
               · intro w'
                 go_simp; with_reducible rfl
               rotate_left
               · simp only [Act.put, zaa, zab, zac, zby, zbz]
                 rfl
               refine pure_ (i := 4) (N := some 20) (v := ?_) (a' := ?_) tajb rfl rfl (zca HT_.out (by kernel_rfl)) (fun _ _ _ h => h) (Or.inl ⟨by rfl, ?_⟩) ?_ ?_
               rotate_left
               · intro w'
                 go_simp; with_reducible rfl
               rotate_left
               · simp only [Act.put, zaa, zab, zac, zby, zbz]
                 rfl
               refine pure_ (i := 5) (N := some 21) (v := ?_) (a' := ?_) tajc rfl rfl (zca HT_.out (by kernel_rfl)) (fun _ _ _ h => h) (Or.inl ⟨by rfl, ?_⟩) ?_ ?_
               rotate_left
               · intro w'
                 go_simp; with_reducible rfl
               rotate_left
               · simp only [Act.put, zaa, zab, zac, zby, zbz]
                 rfl
               refine pure_ (i := 6) (N := some 22) (v := ?_) (a' := ?_) tajd rfl rfl (zca HT_.out (by kernel_rfl)) (fun _ _ _ h => h) (Or.inl ⟨by rfl, ?_⟩) ?_ ?_
               rotate_left
               · intro w'
                 go_simp; with_reducible rfl
               rotate_left
               · simp only [Act.put, zaa, zab, zac, zby, zbz]
                 rfl
               refine take_ (i := 3) (N := some 19) (v := ?_) (a' := ?_) taje rfl rfl (zcb HT_.out HW_.out (by kernel_rfl)) (fun _ _ _ h => h) (Or.inl ⟨by rfl, ?_⟩) hHeld ?_ ?_
               rotate_left
               · rintro w' ⟨s0, s1⟩
                 go_simp; with_reducible rfl
               rotate_left
               · simp only [Act.put, zaa, zab, zac, zby, zbz]
                 rfl
               refine take_ (i := 7) (N := some 23) (v := ?_) (a' := ?_) tajf rfl rfl (zcb HT_.out HW_.out (by kernel_rfl)) (fun _ _ _ h => h) (Or.inl ⟨by rfl, ?_⟩) hHeld ?_ ?_
               rotate_left
               · rintro w' ⟨s0, s1⟩
                 go_simp; with_reducible rfl
               rotate_left
               · simp only [Act.put, zaa, zab, zac, zby, zbz]
                 rfl
               refine pure_ (i := 8) (N := some 24) (v := ?_) (a' := ?_) tajg rfl rfl (zca HT_.out (by kernel_rfl)) (fun _ _ _ h => h) (Or.inl ⟨by rfl, ?_⟩) ?_ ?_
               rotate_left
               · intro w'
                 go_simp; with_reducible rfl
               rotate_left
               · simp only [Act.put, zaa, zab, zac, zby, zbz]
                 rfl
               refine done_ (done_of HT_.out (by kernel_rfl)) ?_
               try go_wp2
               go_roundg k2
               case measure => have := HK1.out; have := HK2.out; omega
               case rel => exact ⟨(wrap64 (x8_2 + 1)), (taag), H', ⟨tacd⟩, ⟨tabd⟩, ⟨taah⟩, ⟨taab⟩⟩
             · rw [if_neg c13] at H
               have c13b0 : decide ((rd l1 x8_2) ≤ (rd x0_1 x8_2)) = false := zbj c13
               clear c13; have H' := zad H
               clear H; try go_wp2
               have n0_ := zad (zbc HO_0.out)
               have n1_ := zad (zak HO_7.out)
               have n2_ := zad (zaf HB.out)
               clear HO_0 HO_7 HB; have HO_0 := n0_; have HO_7 := n1_; have HB := n2_; clear n0_ n1_ n2_; have p1149 : 0 ≤ (x8_2 : Int) := zas (taaa)
               have q1149 : x8_2 < (x0_1.length : Int) := zas (taaa)
               obtain ⟨ad1149, e1149, hx1149_0⟩ := zcc (Kd.V_reads' HO_0.out).2.2 x8_2 p1149 q1149
               cases e1149
               replace p1149 := eq_true p1149
               replace q1149 := eq_true q1149
               have p1150 : 0 ≤ (x8_2 : Int) := zas (taaa)
               have q1150 : x8_2 < (l1.length : Int) := zas (taaa)
               obtain ⟨ad1150, e1150, hx1150_0⟩ := zcc HR1.out x8_2 p1150 q1150
               have hw1150_0 := hx1150_0
               cases e1150
               replace hx1150_0 := (HB.out.cell (zaz w _ hx1150_0)).trans hx1150_0
               replace p1150 := eq_true p1150
               replace q1150 := eq_true q1150
               refine start_ (n := 9) (S := fun w' => w'.cell? (ad1149.add (x8_2).toNat) = some (.int .i64 (rd x0_1 x8_2)) ∧ w'.cell? (ad1150.add (x8_2).toNat) = some (.int .i64 (rd l1 x8_2))) (ds := []) #[false, false, false, false, false, false, false, false, false] (by kernel_rfl) rfl rfl ⟨hx1149_0, ((HB.out.cell (zaz w _ hw1150_0)).trans hw1150_0)⟩ (fun hHeld => ?_); refine with_tabW impl_path.tab4 impl_path.bits4 (fun HT_ HW_ => ?_)
               generalize wr.drew = w15 at HO_0 HO_7 HB hx1149_0 hx1150_0 hHeld ⊢
               refine pure_ (i := 0) (N := some 16) (v := ?_) (a' := ?_) taiy rfl rfl (zca HT_.out (by kernel_rfl)) (fun _ _ _ h => h) (Or.inl ⟨by rfl, ?_⟩) ?_ ?_
               rotate_left
               · intro w'
                 go_simp; with_reducible rfl
               rotate_left
               · simp only [Act.put, zaa, zab, zac, zby, zbz]
                 rfl
               refine pure_ (i := 1) (N := some 17) (v := ?_) (a' := ?_) taiz rfl rfl (zca HT_.out (by kernel_rfl)) (fun _ _ _ h => h) (Or.inl ⟨by rfl, ?_⟩) ?_ ?_
               rotate_left
               · intro w'
                 go_simp; with_reducible rfl
               rotate_left
               · simp only [Act.put, zaa, zab, zac, zby, zbz]
                 rfl
               refine pure_ (i := 2) (N := some 18) (v := ?_) (a' := ?_) taja rfl rfl (zca HT_.out (by kernel_rfl)) (fun _ _ _ h => h) (Or.inl ⟨by rfl, ?_⟩) ?_ ?_
               rotate_left
               · intro w'
                 go_simp; with_reducible rfl
               rotate_left
               · simp only [Act.put, zaa, zab, zac, zby, zbz]
                 rfl
               refine pure_ (i := 4) (N := some 20) (v := ?_) (a' := ?_) tajb rfl rfl (zca HT_.out (by kernel_rfl)) (fun _ _ _ h => h) (Or.inl ⟨by rfl, ?_⟩) ?_ ?_
               rotate_left
               · intro w'
                 go_simp; with_reducible rfl
               rotate_left
               · simp only [Act.put, zaa, zab, zac, zby, zbz]
                 rfl
               refine pure_ (i := 5) (N := some 21) (v := ?_) (a' := ?_) tajc rfl rfl (zca HT_.out (by kernel_rfl)) (fun _ _ _ h => h) (Or.inl ⟨by rfl, ?_⟩) ?_ ?_
               rotate_left
               · intro w'
                 go_simp; with_reducible rfl
               rotate_left
               · simp only [Act.put, zaa, zab, zac, zby, zbz]
                 rfl
               refine pure_ (i := 6) (N := some 22) (v := ?_) (a' := ?_) tajd rfl rfl (zca HT_.out (by kernel_rfl)) (fun _ _ _ h => h) (Or.inl ⟨by rfl, ?_⟩) ?_ ?_
               rotate_left
               · intro w'
                 go_simp; with_reducible rfl
               rotate_left
               · simp only [Act.put, zaa, zab, zac, zby, zbz]
                 rfl
               refine take_ (i := 3) (N := some 19) (v := ?_) (a' := ?_) taje rfl rfl (zcb HT_.out HW_.out (by kernel_rfl)) (fun _ _ _ h => h) (Or.inl ⟨by rfl, ?_⟩) hHeld ?_ ?_
               rotate_left
               · rintro w' ⟨s0, s1⟩
                 go_simp; with_reducible rfl
               rotate_left
               · simp only [Act.put, zaa, zab, zac, zby, zbz]
                 rfl
               refine take_ (i := 7) (N := some 23) (v := ?_) (a' := ?_) tajf rfl rfl (zcb HT_.out HW_.out (by kernel_rfl)) (fun _ _ _ h => h) (Or.inl ⟨by rfl, ?_⟩) hHeld ?_ ?_
               rotate_left
               · rintro w' ⟨s0, s1⟩
                 go_simp; with_reducible rfl
               rotate_left
               · simp only [Act.put, zaa, zab, zac, zby, zbz]
                 rfl
               refine pure_ (i := 8) (N := some 24) (v := ?_) (a' := ?_) tajg rfl rfl (zca HT_.out (by kernel_rfl)) (fun _ _ _ h => h) (Or.inl ⟨by rfl, ?_⟩) ?_ ?_
               rotate_left
               · intro w'
                 go_simp; with_reducible rfl
               rotate_left
               · simp only [Act.put, zaa, zab, zac, zby, zbz]
                 rfl
               refine done_ (done_of HT_.out (by kernel_rfl)) ?_
               try go_wp2
               go_loopg [9] k2 (fun kq v9 w' => ∃ (x9_3 : Int), v9 = .int .i64 x9_3 ∧ Aside0 (impl_path.l2 kq x0_1 l1 a2 x7_1 x8_2 x9_3 = some r) ∧ Aside0 (kq ≤ k2) ∧ Aside0 (Kd.V (Kd.int .i64) 3 w' w.heap.size (fun k_ => (P0_ k_ ∨ w.heap.size ≤ k_) ∧ some k_ ≠ (u7 : Value).ownBlock) (.slice (some ad1149) x0_1.length co9) x0_1) ∧ Aside0 (Kd.R k39 39 w' w.heap.size (fun k_ => (w.heap.size ≤ k_)) u7 x7_1) ∧ Aside0 (Below w.heap.size w w'))
               case atStart => exact ⟨(x8_2), (taag), H', ⟨zch _⟩, ⟨tabd⟩, ⟨taah⟩, ⟨taab⟩⟩
               case round =>
                clear H'
                try clear c1
                try clear p1
                try clear q1
                try clear hx1
                try clear p2
                try clear p6
                try clear c7
                try clear c10
                try clear c10b0
                try clear c11
                try clear c11b0
                try clear p11
                try clear q11
                try clear hx11
                try clear c12
                try clear c12b0
                try clear c13
                try clear c13b0
                try clear hx1149_0
                try clear hx1150_0
                try clear p1149
                try clear p1150
                try clear p2
                try clear q1149
                try clear q1150
                obtain ⟨x9_3, rfl, HA, HK3, HO_0, HO_7, HB⟩ := hrel
                cases gk with
                | zero => exact absurd HA.out (by simp [impl_path.l2])
                | succ k3 =>
                 have H := HA.out
                 clear HA; simp only [impl_path.l2] at H
                 by_cases c16 : 0 ≤ x9_3
                 · rw [if_pos c16] at H
                   have c16b0 : decide (0 ≤ x9_3) = true := zba c16
                   clear c16; by_cases c17 : x9_3 < (x0_1.length : Int)
                   · rw [if_pos c17] at H
                     have c17b0 : decide (x9_3 < (x0_1.length : Int)) = true := zba c17
                     clear c17; by_cases c18 : x9_3 < (l1.length : Int)
                     · rw [if_pos c18] at H
                       have c18b0 : decide (x9_3 < (l1.length : Int)) = true := zba c18
                       clear c18; by_cases c19 : (rd x0_1 x9_3) ≤ (rd l1 x9_3)
                       · rw [if_pos c19] at H
                         have c19b0 : decide ((rd x0_1 x9_3) ≤ (rd l1 x9_3)) = true := zba c19
                         clear c19; have H' := zad H
                         clear H; try go_wp2
                         have n0_ := zad (zbc HO_0.out)
                         have n1_ := zad (zak HO_7.out)
                         have n2_ := zad (zaf HB.out)
                         clear HO_0 HO_7 HB; have HO_0 := n0_; have HO_7 := n1_; have HB := n2_; clear n0_ n1_ n2_; have p1151 : 0 ≤ (x9_3 : Int) := zas (taaa)
                         have q1151 : x9_3 < (x0_1.length : Int) := zas (taaa)
                         obtain ⟨ad1151, e1151, hx1151_0⟩ := zcc (Kd.V_reads' HO_0.out).2.2 x9_3 p1151 q1151
                         obtain rfl : ad1149 = ad1151 := (by injection e1151)
                         replace p1151 := eq_true p1151
                         replace q1151 := eq_true q1151
                         have p1152 : 0 ≤ (x9_3 : Int) := zas (taaa)
                         have q1152 : x9_3 < (l1.length : Int) := zas (taaa)
                         obtain ⟨ad1152, e1152, hx1152_0⟩ := zcc HR1.out x9_3 p1152 q1152
                         have hw1152_0 := hx1152_0
                         obtain rfl : ad1150 = ad1152 := (by injection e1152)
                         replace hx1152_0 := (HB.out.cell (zaz w _ hx1152_0)).trans hx1152_0
                         replace p1152 := eq_true p1152
                         replace q1152 := eq_true q1152
                         refine start_ (n := 9) (S := fun w' => w'.cell? (ad1149.add (x9_3).toNat) = some (.int .i64 (rd x0_1 x9_3)) ∧ w'.cell? (ad1150.add (x9_3).toNat) = some (.int .i64 (rd l1 x9_3))) (ds := []) #[false, false, false, false, false, false, false, false, false] (by kernel_rfl) rfl rfl ⟨hx1151_0, ((HB.out.cell (zaz w _ hw1152_0)).trans hw1152_0)⟩ (fun hHeld => ?_); refine with_tabW impl_path.tab7 impl_path.bits7 (fun HT_ HW_ => ?_)
                         generalize wr.drew = w20 at HO_0 HO_7 HB hx1151_0 hx1152_0 hHeld ⊢
                         refine pure_ (i := 0) (N := some 28) (v := ?_) (a' := ?_) taiy rfl rfl (zca HT_.out (by kernel_rfl)) (fun _ _ _ h => h) (Or.inl ⟨by rfl, ?_⟩) ?_ ?_
                         rotate_left
                         · intro w'
                           go_simp; with_reducible rfl
                         rotate_left
                         · simp only [Act.put, zaa, zab, zac, zby, zbz]
                           rfl
                         refine pure_ (i := 1) (N := some 29) (v := ?_) (a' := ?_) taiz rfl rfl (zca HT_.out (by kernel_rfl)) (fun _ _ _ h => h) (Or.inl ⟨by rfl, ?_⟩) ?_ ?_
                         rotate_left
                         · intro w'
                           go_simp; with_reducible rfl
                         rotate_left
                         · simp only [Act.put, zaa, zab, zac, zby, zbz]
                           rfl
                         refine pure_ (i := 2) (N := some 30) (v := ?_) (a' := ?_) taja rfl rfl (zca HT_.out (by kernel_rfl)) (fun _ _ _ h => h) (Or.inl ⟨by rfl, ?_⟩) ?_ ?_
                         rotate_left
                         · intro w'
                           go_simp; with_reducible rfl
                         rotate_left
                         · simp only [Act.put, zaa, zab, zac, zby, zbz]
                           rfl
                         refine pure_ (i := 4) (N := some 32) (v := ?_) (a' := ?_) tajb rfl rfl (zca HT_.out (by kernel_rfl)) (fun _ _ _ h => h) (Or.inl ⟨by rfl, ?_⟩) ?_ ?_
                         rotate_left
                         · intro w'
                           go_simp; with_reducible rfl
                         rotate_left
                         · simp only [Act.put, zaa, zab, zac, zby, zbz]
                           rfl
                         refine pure_ (i := 5) (N := some 33) (v := ?_) (a' := ?_) tajc rfl rfl (zca HT_.out (by kernel_rfl)) (fun _ _ _ h => h) (Or.inl ⟨by rfl, ?_⟩) ?_ ?_
                         rotate_left
                         · intro w'
                           go_simp; with_reducible rfl
                         rotate_left
                         · simp only [Act.put, zaa, zab, zac, zby, zbz]
                           rfl
                         refine pure_ (i := 6) (N := some 34) (v := ?_) (a' := ?_) tajd rfl rfl (zca HT_.out (by kernel_rfl)) (fun _ _ _ h => h) (Or.inl ⟨by rfl, ?_⟩) ?_ ?_
                         rotate_left
                         · intro w'
                           go_simp; with_reducible rfl
                         rotate_left
                         · simp only [Act.put, zaa, zab, zac, zby, zbz]
                           rfl
                         refine take_ (i := 3) (N := some 31) (v := ?_) (a' := ?_) taje rfl rfl (zcb HT_.out HW_.out (by kernel_rfl)) (fun _ _ _ h => h) (Or.inl ⟨by rfl, ?_⟩) hHeld ?_ ?_
                         rotate_left
                         · rintro w' ⟨s0, s1⟩
                           go_simp; with_reducible rfl
                         rotate_left
                         · simp only [Act.put, zaa, zab, zac, zby, zbz]
                           rfl
                         refine take_ (i := 7) (N := some 35) (v := ?_) (a' := ?_) tajf rfl rfl (zcb HT_.out HW_.out (by kernel_rfl)) (fun _ _ _ h => h) (Or.inl ⟨by rfl, ?_⟩) hHeld ?_ ?_
                         rotate_left
                         · rintro w' ⟨s0, s1⟩
                           go_simp; with_reducible rfl
                         rotate_left
                         · simp only [Act.put, zaa, zab, zac, zby, zbz]
                           rfl
                         refine pure_ (i := 8) (N := some 36) (v := ?_) (a' := ?_) tajg rfl rfl (zca HT_.out (by kernel_rfl)) (fun _ _ _ h => h) (Or.inl ⟨by rfl, ?_⟩) ?_ ?_
                         rotate_left
                         · intro w'
                           go_simp; with_reducible rfl
                         rotate_left
                         · simp only [Act.put, zaa, zab, zac, zby, zbz]
                           rfl
                         refine done_ (done_of HT_.out (by kernel_rfl)) ?_
                         try go_wp2
                         go_roundg k3
                         case measure => have := HK1.out; have := HK2.out; have := HK3.out; omega
                         case rel => exact ⟨(wrap64 (x9_3 - 1)), (taag), H', ⟨tadg⟩, ⟨tabd⟩, ⟨taah⟩, ⟨taab⟩⟩
                       · rw [if_neg c19] at H
                         have c19b0 : decide ((rd x0_1 x9_3) ≤ (rd l1 x9_3)) = false := zbj c19
                         clear c19; by_cases c21 : a2 = true
                         · subst c21
                           have H1 : (if x7_1.length < 5864062014805 then ((impl_given.f x0_1 x9_3 x8_2 1).bind fun t1157 => ((impl_ranking.f t1157).bind fun t1160 => (impl_path.l0 k3 t1160 l1 true (x7_1 ++ [(⟨x9_3, x8_2, 1⟩ : S39)])))) else (none)) = some r := by rw [if_pos rfl] at H; exact H
                           clear H; have H := H1; clear H1; by_cases c22 : x7_1.length < 5864062014805
                           · rw [if_pos c22] at H
                             have LMc22 := zad c22; clear c22; obtain ⟨y1154, hy1154⟩ : ∃ y_ : List (S39), y_ = (x7_1 ++ [(⟨x9_3, x8_2, 1⟩ : S39)]) := ⟨_, rfl⟩
                             replace H : ((impl_given.f x0_1 x9_3 x8_2 1).bind fun t1157 => ((impl_ranking.f t1157).bind fun t1160 => (impl_path.l0 k3 t1160 l1 true y1154))) = some r := by first | (rw [hy1154]; with_reducible exact H) | (have H2_ := (zbd _ _).symm.trans H; rw [hy1154]; with_reducible exact H2_) | (have H2_ := (zbd _ _).symm.trans H; with_reducible exact H2_) | with_reducible exact H | (rw [hy1154]; exact H) | exact H
                             have Ny1154 := zad hy1154; clear hy1154; replace H := zay.mp H; obtain ⟨t1157, A230, H⟩ := H
                             replace H : ((impl_ranking.f t1157).bind fun t1160 => (impl_path.l0 k3 t1160 l1 true y1154)) = some r := H
                             have A23 := zad A230; clear A230; replace H := zay.mp H; obtain ⟨t1160, A240, H⟩ := H
                             replace H : (impl_path.l0 k3 t1160 l1 true y1154) = some r := H
                             have A24 := zad A240; clear A240; have H' := zad H
                             clear H; try go_wp2
                             have n0_ := zad (zbc HO_0.out)
                             have n1_ := zad (zak HO_7.out)
                             have n2_ := zad (zaf HB.out)
                             clear HO_0 HO_7 HB; have HO_0 := n0_; have HO_7 := n1_; have HB := n2_; clear n0_ n1_ n2_; have p1151 : 0 ≤ (x9_3 : Int) := zas (taaa)
                             have q1151 : x9_3 < (x0_1.length : Int) := zas (taaa)
                             obtain ⟨ad1151, e1151, hx1151_0⟩ := zcc (Kd.V_reads' HO_0.out).2.2 x9_3 p1151 q1151
                             obtain rfl : ad1149 = ad1151 := (by injection e1151)
                             replace p1151 := eq_true p1151
                             replace q1151 := eq_true q1151
                             have p1152 : 0 ≤ (x9_3 : Int) := zas (taaa)
                             have q1152 : x9_3 < (l1.length : Int) := zas (taaa)
                             obtain ⟨ad1152, e1152, hx1152_0⟩ := zcc HR1.out x9_3 p1152 q1152
                             have hw1152_0 := hx1152_0
                             obtain rfl : ad1150 = ad1152 := (by injection e1152)
                             replace hx1152_0 := (HB.out.cell (zaz w _ hx1152_0)).trans hx1152_0
                             replace p1152 := eq_true p1152
                             replace q1152 := eq_true q1152
                             refine start_ (n := 9) (S := fun w' => w'.cell? (ad1149.add (x9_3).toNat) = some (.int .i64 (rd x0_1 x9_3)) ∧ w'.cell? (ad1150.add (x9_3).toNat) = some (.int .i64 (rd l1 x9_3))) (ds := []) #[false, false, false, false, false, false, false, false, false] (by kernel_rfl) rfl rfl ⟨hx1151_0, ((HB.out.cell (zaz w _ hw1152_0)).trans hw1152_0)⟩ (fun hHeld => ?_); refine with_tabW impl_path.tab7 impl_path.bits7 (fun HT_ HW_ => ?_)
                             generalize wr.drew = w25 at HO_0 HO_7 HB hx1151_0 hx1152_0 hHeld ⊢
                             refine pure_ (i := 0) (N := some 28) (v := ?_) (a' := ?_) taiy rfl rfl (zca HT_.out (by kernel_rfl)) (fun _ _ _ h => h) (Or.inl ⟨by rfl, ?_⟩) ?_ ?_
                             rotate_left
                             · intro w'
                               go_simp; with_reducible rfl
                             rotate_left
                             · simp only [Act.put, zaa, zab, zac, zby, zbz]
                               rfl
                             refine pure_ (i := 1) (N := some 29) (v := ?_) (a' := ?_) taiz rfl rfl (zca HT_.out (by kernel_rfl)) (fun _ _ _ h => h) (Or.inl ⟨by rfl, ?_⟩) ?_ ?_
                             rotate_left
                             · intro w'
                               go_simp; with_reducible rfl
                             rotate_left
                             · simp only [Act.put, zaa, zab, zac, zby, zbz]
                               rfl
                             refine pure_ (i := 2) (N := some 30) (v := ?_) (a' := ?_) taja rfl rfl (zca HT_.out (by kernel_rfl)) (fun _ _ _ h => h) (Or.inl ⟨by rfl, ?_⟩) ?_ ?_
                             rotate_left
                             · intro w'
                               go_simp; with_reducible rfl
                             rotate_left
                             · simp only [Act.put, zaa, zab, zac, zby, zbz]
                               rfl
                             refine pure_ (i := 4) (N := some 32) (v := ?_) (a' := ?_) tajb rfl rfl (zca HT_.out (by kernel_rfl)) (fun _ _ _ h => h) (Or.inl ⟨by rfl, ?_⟩) ?_ ?_
                             rotate_left
                             · intro w'
                               go_simp; with_reducible rfl
                             rotate_left
                             · simp only [Act.put, zaa, zab, zac, zby, zbz]
                               rfl
                             refine pure_ (i := 5) (N := some 33) (v := ?_) (a' := ?_) tajc rfl rfl (zca HT_.out (by kernel_rfl)) (fun _ _ _ h => h) (Or.inl ⟨by rfl, ?_⟩) ?_ ?_
                             rotate_left
                             · intro w'
                               go_simp; with_reducible rfl
                             rotate_left
                             · simp only [Act.put, zaa, zab, zac, zby, zbz]
                               rfl
                             refine pure_ (i := 6) (N := some 34) (v := ?_) (a' := ?_) tajd rfl rfl (zca HT_.out (by kernel_rfl)) (fun _ _ _ h => h) (Or.inl ⟨by rfl, ?_⟩) ?_ ?_
                             rotate_left
                             · intro w'
                               go_simp; with_reducible rfl
                             rotate_left
                             · simp only [Act.put, zaa, zab, zac, zby, zbz]
                               rfl
                             refine take_ (i := 3) (N := some 31) (v := ?_) (a' := ?_) taje rfl rfl (zcb HT_.out HW_.out (by kernel_rfl)) (fun _ _ _ h => h) (Or.inl ⟨by rfl, ?_⟩) hHeld ?_ ?_
                             rotate_left
                             · rintro w' ⟨s0, s1⟩
                               go_simp; with_reducible rfl
                             rotate_left
                             · simp only [Act.put, zaa, zab, zac, zby, zbz]
                               rfl
                             refine take_ (i := 7) (N := some 35) (v := ?_) (a' := ?_) tajf rfl rfl (zcb HT_.out HW_.out (by kernel_rfl)) (fun _ _ _ h => h) (Or.inl ⟨by rfl, ?_⟩) hHeld ?_ ?_
                             rotate_left
                             · rintro w' ⟨s0, s1⟩
                               go_simp; with_reducible rfl
                             rotate_left
                             · simp only [Act.put, zaa, zab, zac, zby, zbz]
                               rfl
                             refine pure_ (i := 8) (N := some 36) (v := ?_) (a' := ?_) tajg rfl rfl (zca HT_.out (by kernel_rfl)) (fun _ _ _ h => h) (Or.inl ⟨by rfl, ?_⟩) ?_ ?_
                             rotate_left
                             · intro w'
                               go_simp; with_reducible rfl
                             rotate_left
                             · simp only [Act.put, zaa, zab, zac, zby, zbz]
                               rfl
                             refine done_ (done_of HT_.out (by kernel_rfl)) ?_
                             try go_wp2_with (first | ((with_reducible refine gate_dst (N := 10) rfl ?_); refine box_event ?hg (N := 10) ?hd (cs := #[.int .i64 0, .int .i64 0, .int .i64 0]) (t := 39) ?hr ?_; (case hd => rfl); (case hg => rfl); (case hr => first | (go_simp; done) | (go_simp; rfl)); intro gb1153 hg w26 hbox hb; have n0_ := zad (Kd.V_below (Kd.V_elderB (tabd) gb1153 (Nat.le_of_eq hg.symm)) hb); have n1_ := zad (zbv (Kd.R_elderB (taah) gb1153 (Nat.le_of_eq hg.symm)) hb); have n2_ := zad (zbg (taab) hb); have n3_ := zad (hbox); have n4_ := zad ((tafj : w.heap.size ≤ gb1153)); have n5_ := zad ((tafj : w.heap.size ≤ gb1153)); clear HO_0 HO_7 HB; have HO_0 := n0_; have HO_7 := n1_; have HB := n2_; have BK1153 := n3_; have GW1153 := n4_; have GE1153 := n5_; clear n0_ n1_ n2_ n3_ n4_ n5_ hb hbox hg; have hcz27_0 : w26.cell? ⟨gb1153, 0, none⟩ = some (.int .i64 0) := (zbk BK1153.out 0).trans rfl; have hcz27_1 : w26.cell? ⟨gb1153, 1, none⟩ = some (.int .i64 0) := (zbk BK1153.out 1).trans rfl; have hcz27_2 : w26.cell? ⟨gb1153, 2, none⟩ = some (.int .i64 0) := (zbk BK1153.out 2).trans rfl; have hfz27_0 := zbl BK1153.out 0; have hfz27_1 := zbl BK1153.out 1; have hfz27_2 := zbl BK1153.out 2))
                             have n0_ : Aside0 (Kd.V (Kd.int .i64) 3 (((w26.setCell ⟨gb1153, 0, none⟩ (.int .i64 x9_3)).setCell ⟨gb1153, 1, none⟩ (.int .i64 x8_2)).setCell ⟨gb1153, 2, none⟩ (.int .i64 1)) w.heap.size (fun k_ => (P0_ k_ ∨ w.heap.size ≤ k_) ∧ some k_ ≠ (u7 : Value).ownBlock ∧ k_ ≠ gb1153) (.slice (some ad1149) x0_1.length co9) x0_1) := ⟨tady⟩
                             have n1_ : Aside0 (Kd.R k39 39 (((w26.setCell ⟨gb1153, 0, none⟩ (.int .i64 x9_3)).setCell ⟨gb1153, 1, none⟩ (.int .i64 x8_2)).setCell ⟨gb1153, 2, none⟩ (.int .i64 1)) w.heap.size (fun k_ => (w.heap.size ≤ k_) ∧ k_ ≠ gb1153) u7 x7_1) := ⟨tadz⟩
                             have n2_ : Aside0 ((((w26.setCell ⟨gb1153, 0, none⟩ (.int .i64 x9_3)).setCell ⟨gb1153, 1, none⟩ (.int .i64 x8_2)).setCell ⟨gb1153, 2, none⟩ (.int .i64 1)).heap[gb1153]? = some (.cells #[.int .i64 x9_3, .int .i64 x8_2, .int .i64 1] 39 (0, 0))) := ⟨taea⟩
                             have n3_ : Aside0 (Below w.heap.size w (((w26.setCell ⟨gb1153, 0, none⟩ (.int .i64 x9_3)).setCell ⟨gb1153, 1, none⟩ (.int .i64 x8_2)).setCell ⟨gb1153, 2, none⟩ (.int .i64 1))) := ⟨taas⟩
                             (try clear HO_0); (try clear HO_7); (try clear BK1153); (try clear HB); generalize (((w26.setCell ⟨gb1153, 0, none⟩ (.int .i64 x9_3)).setCell ⟨gb1153, 1, none⟩ (.int .i64 x8_2)).setCell ⟨gb1153, 2, none⟩ (.int .i64 1)) = w28 at n0_ n1_ n2_ n3_ ⊢
                             have HO_0 := n0_; have HO_7 := n1_; have BK1153 := n2_; have HB := n3_; clear n0_ n1_ n2_ n3_; have n0_ := zad (zbc HO_0.out)
                             have n1_ := zad (zak HO_7.out)
                             have n2_ := zad (blk_drew BK1153.out)
                             have n3_ := zad (zaf HB.out)
                             clear HO_0 HO_7 BK1153 HB; have HO_0 := n0_; have HO_7 := n1_; have BK1153 := n2_; have HB := n3_; clear n0_ n1_ n2_ n3_; refine start_ (n := 10) (S := fun w' => w'.cell? ⟨gb1153, 0, none⟩ = some (.int .i64 x9_3) ∧ w'.cell? ⟨gb1153, 1, none⟩ = some (.int .i64 x8_2) ∧ w'.cell? ⟨gb1153, 2, none⟩ = some (.int .i64 1)) (ds := []) #[false, false, false, false, false, false, false, false, false, false] (by kernel_rfl) rfl rfl ⟨(zbk BK1153.out 0).trans rfl, (zbk BK1153.out 1).trans rfl, (zbk BK1153.out 2).trans rfl⟩ (fun hHeld => ?_); refine with_tabW impl_path.tab12 impl_path.bits12 (fun HT_ HW_ => ?_)
                             generalize w28.drew = w29 at HO_0 HO_7 BK1153 HB hHeld ⊢
                             refine pure_ (i := 0) (N := some 64) (v := ?_) (a' := ?_) taip rfl rfl (zca HT_.out (by kernel_rfl)) (fun _ _ _ h => h) (Or.inl ⟨by rfl, ?_⟩) ?_ ?_
                             rotate_left
                             · intro w'
                               go_simp; with_reducible rfl
                             rotate_left
                             · simp only [Act.put, zaa, zab, zac, zby, zbz]
                               rfl
                             refine pure_ (i := 4) (N := some 68) (v := ?_) (a' := ?_) #[true, false, false, false, true, false, false, false, false, false] rfl rfl (zca HT_.out (by kernel_rfl)) (fun _ _ _ h => h) (Or.inl ⟨by rfl, ?_⟩) ?_ ?_
                             rotate_left
                             · intro w'
                               go_simp; with_reducible rfl
                             rotate_left
                             · simp only [Act.put, zaa, zab, zac, zby, zbz]
                               rfl
                             refine take_ (i := 1) (N := some 65) (v := ?_) (a' := ?_) #[true, true, false, false, true, false, false, false, false, false] rfl rfl (zcb HT_.out HW_.out (by kernel_rfl)) (fun _ _ _ h => h) (Or.inl ⟨by rfl, ?_⟩) hHeld ?_ ?_
                             rotate_left
                             · rintro w' ⟨s0, s1, s2⟩
                               go_simp; with_reducible rfl
                             rotate_left
                             · simp only [Act.put, zaa, zab, zac, zby, zbz]
                               rfl
                             refine take_ (i := 5) (N := some 69) (v := ?_) (a' := ?_) #[true, true, false, false, true, true, false, false, false, false] rfl rfl (zcb HT_.out HW_.out (by kernel_rfl)) (fun _ _ _ h => h) (Or.inl ⟨by rfl, ?_⟩) hHeld ?_ ?_
                             rotate_left
                             · rintro w' ⟨s0, s1, s2⟩
                               go_simp; with_reducible rfl
                             rotate_left
                             · simp only [Act.put, zaa, zab, zac, zby, zbz]
                               rfl
                             refine one_ (i := 2) (N := some 66) #[true, true, true, false, true, true, false, false, false, false] rfl rfl (one_of HT_.out (by kernel_rfl)) (by decide) (fun K hK => ?_)
                             refine value_ (w1 := ?_) (v := ?_) (by rfl) rfl ?_ ?_
                             rotate_left 2
                             · go_simp
                               constructor
                               · rfl
                               · rfl
                             refine hK.out _ _ ⟨(zbk (blk_alloc BK1153.out _) 0).trans rfl, (zbk (blk_alloc BK1153.out _) 1).trans rfl, (zbk (blk_alloc BK1153.out _) 2).trans rfl⟩ (fun hHeld => ?_)
                             clear hK K; refine norm_ (a' := ?_) ?_ ?_
                             rotate_left
                             · show Act.put _ (some 66) _ = _
                               simp only [Act.put, zaa, zab, zac, zby, zbz]
                               rfl
                             refine one_ (i := 3) (N := some 67) #[true, true, true, true, true, true, false, false, false, false] rfl rfl (one_of HT_.out (by kernel_rfl)) (by decide) (fun K hK => ?_)
                             refine Kd.R_append_step k39 (w0 := w) w.heap.size (by rfl) (.tmp 64) (.tmp 66) 58 39 (.agg #[(.int .i64 0), (.int .i64 0), (.int .i64 0)]) 24 rfl Try.underlying58 info39 rfl (by decide) (by omega) u7 x7_1 (⟨x9_3, x8_2, 1⟩ : S39) [.int .i64 x9_3, .int .i64 x8_2, .int .i64 1] (fun k_ => (w.heap.size ≤ k_) ∧ k_ ≠ gb1153) (fun _ => False) rfl rfl ?aP (fun _ hk => hk.elim) ?aF ?aO ?aB ?aS ?aL ?_
                             (case aP => exact k39_mkM _ _ _ (⟨x9_3, x8_2, 1⟩ : S39))
                             (case aB => exact (taas))
                             (case aF => exact (fun k_ hk => ⟨(Nat.le_trans (zbm (taas)) hk), Kd.freshB (g := gb1153) (o := .cells #[.int .i64 x9_3, .int .i64 x8_2, .int .i64 1] 39 (0, 0)) (tabh) k_ hk⟩))
                             (case aO => exact (taah))
                             (case aS => exact (zbm (taas)))
                             (case aL => have := LMc22.out; omega)
                             intro v1155 w30 ho hb hg hat
                             rw [← Ny1154.out] at ho
                             have n0_ := zad (Kd.V_afterv (ok := (fun k_ => (P0_ k_ ∨ w.heap.size ≤ k_) ∧ k_ ≠ gb1153)) (taeb) hg hat)
                             have n1_ := zad (blk_grown (g := gb1153) (o := .cells #[.int .i64 x9_3, .int .i64 x8_2, .int .i64 1] 39 (0, 0)) (tabh) hg (Kd.R_away HO_7.out (fun _ hk => hk.2)))
                             have n2_ := zad (hb)
                             have n3_ := zad (ho)
                             clear HO_0 BK1153 HB HO_7; have HO_0 := n0_; have BK1153 := n1_; have HB := n2_; have HO1156 := n3_; clear n0_ n1_ n2_ n3_ ho hb hg hat; refine hK.out _ _ ⟨(zbk BK1153.out 0).trans rfl, (zbk BK1153.out 1).trans rfl, (zbk BK1153.out 2).trans rfl⟩ (fun hHeld => ?_)
                             clear hK K; refine norm_ (a' := ?_) ?_ ?_
                             rotate_left
                             · show Act.put _ (some 67) _ = _
                               simp only [Act.put, zaa, zab, zac, zby, zbz]
                               rfl
                             refine one_ (i := 6) (N := some 70) #[true, true, true, true, true, true, true, false, false, false] rfl rfl (one_of HT_.out (by kernel_rfl)) (by decide) (fun K hK => ?_)
                             refine goes_ Try.func105 (by kernel_rfl) rfl #[.slice (some ad1149) x0_1.length co9, .agg #[.int .i64 x9_3, .int .i64 x8_2, .int .i64 1]] (by rfl) rfl rfl (taad) ?_
                             with_reducible refine (impl_given.calls _ _ x0_1 x9_3 x8_2 1 t1157 _ ?side1 ?side2 A23.out).mono ?_
                             (case side1 => exact tagg)
                             (case side2 => exact tagh)
                             rintro e w31 ⟨v1158, rfl, ho0, hb⟩
                             refine ⟨_, rfl, ?_⟩
                             have n0_ := zad (Kd.V_elder' (tabd) (zcf ho0) hb)
                             have n1_ := zad (zbv (taec) hb)
                             have n2_ := zad (zbw (Kd.R_newM (M := fun k_ => (w.heap.size ≤ k_)) ho0 (zbm (taas)) (fun k_ h_ => h_)) (zbm (taas)))
                             have n3_ := zad (blk_below (g := gb1153) (o := .cells #[.int .i64 x9_3, .int .i64 x8_2, .int .i64 1] 39 (0, 0)) (tabh) hb)
                             have n4_ := zad (zbg (taas) hb)
                             clear HO_0 HO1156 BK1153 HB; have HO_0 := n0_; have HO1156 := n1_; have HO1159 := n2_; have BK1153 := n3_; have HB := n4_; clear n0_ n1_ n2_ n3_ n4_; (try clear hb); (try clear hb2); (try clear hk); (try clear hi); (try clear ho0); obtain ⟨Ao32, co32, eo32⟩ := zbx HO1159.out
                             (first | subst eo32 | (injection eo32 with f1_ f2_ f3_; have f4_ := f1_.symm; have f5_ := f3_.symm; clear f1_ f2_ f3_; subst f4_; subst f5_))
                             refine hK.out _ _ ⟨(zbk BK1153.out 0).trans rfl, (zbk BK1153.out 1).trans rfl, (zbk BK1153.out 2).trans rfl⟩ (fun hHeld => ?_)
                             clear hK K; refine norm_ (a' := ?_) ?_ ?_
                             rotate_left
                             · show Act.put _ (some 70) _ = _
                               simp only [Act.put, zaa, zab, zac, zby, zbz]
                               rfl
                             refine one_ (i := 7) (N := some 71) #[true, true, true, true, true, true, true, true, false, false] rfl rfl (one_of HT_.out (by kernel_rfl)) (by decide) (fun K hK => ?_)
                             refine goes_ Try.func88 (by kernel_rfl) rfl #[.slice Ao32 t1157.length co32] (by rfl) rfl rfl (taad) ?_
                             with_reducible refine (impl_ranking.calls _ _ t1157 t1160 _ ?side1 ?side2 A24.out).mono ?_
                             (case side1 => repeat (first | exact (zbf HO1159.out).2.2 | (with_reducible refine zal ?_ _) | (with_reducible refine zam ?_ _) | (with_reducible refine zan ?_)))
                             (case side2 => exact (zbf HO1159.out).2.1)
                             rintro e w33 ⟨v1161, rfl, ho0, hb⟩
                             refine ⟨_, rfl, ?_⟩
                             have n0_ := zad (Kd.V_elder' (tabd) (zcf ho0) hb)
                             have n1_ := zad (zbv (taec) hb)
                             have n2_ := zad (zcd (taed) (zcf ho0) hb)
                             have n3_ := zad (zbw (zce (Kd.R_newM (M := fun k_ => (w.heap.size ≤ k_)) ho0 (zbm (taas)) (fun k_ h_ => h_)) (zcg (taed))) (zbm (taas)))
                             have n4_ := zad (blk_below (g := gb1153) (o := .cells #[.int .i64 x9_3, .int .i64 x8_2, .int .i64 1] 39 (0, 0)) (tabh) hb)
                             have n5_ := zad (zbg (taas) hb)
                             clear HO_0 HO1156 HO1159 BK1153 HB; have HO_0 := n0_; have HO1156 := n1_; have HO1159 := n2_; have HO1162 := n3_; have BK1153 := n4_; have HB := n5_; clear n0_ n1_ n2_ n3_ n4_ n5_; (try clear hb); (try clear hb2); (try clear hk); (try clear hi); (try clear ho0); refine hK.out _ _ ⟨(zbk BK1153.out 0).trans rfl, (zbk BK1153.out 1).trans rfl, (zbk BK1153.out 2).trans rfl⟩ (fun hHeld => ?_)
                             clear hK K; refine norm_ (a' := ?_) ?_ ?_
                             rotate_left
                             · show Act.put _ (some 71) _ = _
                               simp only [Act.put, zaa, zab, zac, zby, zbz]
                               rfl
                             refine pure_ (i := 8) (N := some 7) (v := ?_) (a' := ?_) taix rfl rfl (zca HT_.out (by kernel_rfl)) (fun _ _ _ h => h) (Or.inl ⟨by rfl, ?_⟩) ?_ ?_
                             rotate_left
                             · intro w'
                               go_simp; with_reducible rfl
                             rotate_left
                             · simp only [Act.put, zaa, zab, zac, zby, zbz]
                               rfl
                             refine pure_ (i := 9) (N := some 0) (v := ?_) (a' := ?_) #[true, true, true, true, true, true, true, true, true, true] rfl rfl (zca HT_.out (by kernel_rfl)) (fun _ _ _ h => h) (Or.inl ⟨by rfl, ?_⟩) ?_ ?_
                             rotate_left
                             · intro w'
                               go_simp; with_reducible rfl
                             rotate_left
                             · simp only [Act.put, zaa, zab, zac, zby, zbz]
                               rfl
                             refine done_ (done_of HT_.out (by kernel_rfl)) ?_
                             try go_wp2
                             go_roundg k3
                             case measure => have := HK1.out; have := HK2.out; have := HK3.out; omega
                             case rel => exact ⟨(t1160), (y1154), H', ⟨tadg⟩, ⟨Kd.V_mono (Kd.R_V (by (with_reducible repeat (first | apply zai | apply zaj | apply zak)); exact (Kd.R_apart' HO1162.out (Kd.R_typed HO1156.out) (by decide)))) (fun k_ hk0 => taee)⟩, ⟨by (with_reducible repeat (first | apply zai | apply zaj | apply zak)); exact zbs HO1156.out (fun _ hk => hk.1)⟩, ⟨taas⟩⟩
                           · rw [if_neg c22] at H
                             exact absurd H (taae)
                         · replace c21 := zbi.mpr c21
                           subst c21; have H1 : (if 0 ≤ x8_2 then (if x8_2 < (l1.length : Int) then (if x8_2 < (x0_1.length : Int) then (if x7_1.length < 5864062014805 then ((impl_given.f x0_1 x9_3 x8_2 (mn (wrap64 ((rd x0_1 x9_3) - (rd l1 x9_3))) (wrap64 ((rd l1 x8_2) - (rd x0_1 x8_2))))).bind fun t1170 => ((impl_ranking.f t1170).bind fun t1173 => (impl_path.l0 k3 t1173 l1 false (x7_1 ++ [(⟨x9_3, x8_2, mn (wrap64 ((rd x0_1 x9_3) - (rd l1 x9_3))) (wrap64 ((rd l1 x8_2) - (rd x0_1 x8_2)))⟩ : S39)])))) else (none)) else (none)) else (none)) else (none)) = some r := by rw [if_neg (show ¬ (false = true) by decide)] at H; exact H
                           clear H; have H := H1; clear H1; by_cases c34 : 0 ≤ x8_2
                           · rw [if_pos c34] at H
                             have c34b0 : decide (0 ≤ x8_2) = true := zba c34
                             clear c34; by_cases c35 : x8_2 < (l1.length : Int)
                             · rw [if_pos c35] at H
                               have c35b0 : decide (x8_2 < (l1.length : Int)) = true := zba c35
                               clear c35; by_cases c36 : x8_2 < (x0_1.length : Int)
                               · rw [if_pos c36] at H
                                 have c36b0 : decide (x8_2 < (x0_1.length : Int)) = true := zba c36
                                 clear c36; obtain ⟨ji37, hji37⟩ : ∃ j_ : Int, (mn (wrap64 ((rd x0_1 x9_3) - (rd l1 x9_3))) (wrap64 ((rd l1 x8_2) - (rd x0_1 x8_2)))) = j_ := ⟨_, rfl⟩
                                 replace H : (if x7_1.length < 5864062014805 then ((impl_given.f x0_1 x9_3 x8_2 (ji37)).bind fun t1170 => ((impl_ranking.f t1170).bind fun t1173 => (impl_path.l0 k3 t1173 l1 false (x7_1 ++ [(⟨x9_3, x8_2, ji37⟩ : S39)])))) else (none)) = some r := by first | (rw [hji37] at H; exact H) | (simp only [hji37] at H ⊢; exact H)
                                 have hji37_ : (if (wrap64 ((rd l1 x8_2) - (rd x0_1 x8_2))) < (wrap64 ((rd x0_1 x9_3) - (rd l1 x9_3))) then (wrap64 ((rd l1 x8_2) - (rd x0_1 x8_2))) else (wrap64 ((rd x0_1 x9_3) - (rd l1 x9_3)))) = ji37 := hji37
                                 by_cases c38 : x7_1.length < 5864062014805
                                 · rw [if_pos c38] at H
                                   have LMc38 := zad c38; clear c38; obtain ⟨y1167, hy1167⟩ : ∃ y_ : List (S39), y_ = (x7_1 ++ [(⟨x9_3, x8_2, ji37⟩ : S39)]) := ⟨_, rfl⟩
                                   replace H : ((impl_given.f x0_1 x9_3 x8_2 (ji37)).bind fun t1170 => ((impl_ranking.f t1170).bind fun t1173 => (impl_path.l0 k3 t1173 l1 false y1167))) = some r := by first | (rw [hy1167]; with_reducible exact H) | (have H2_ := (zbd _ _).symm.trans H; rw [hy1167]; with_reducible exact H2_) | (have H2_ := (zbd _ _).symm.trans H; with_reducible exact H2_) | with_reducible exact H | (rw [hy1167]; exact H) | exact H
                                   have Ny1167 := zad hy1167; clear hy1167; replace H := zay.mp H; obtain ⟨t1170, A390, H⟩ := H
                                   replace H : ((impl_ranking.f t1170).bind fun t1173 => (impl_path.l0 k3 t1173 l1 false y1167)) = some r := H
                                   have A39 := zad A390; clear A390; replace H := zay.mp H; obtain ⟨t1173, A400, H⟩ := H
                                   replace H : (impl_path.l0 k3 t1173 l1 false y1167) = some r := H
                                   have A40 := zad A400; clear A400; have H' := zad H
                                   clear H; try go_wp2
                                   have n0_ := zad (zbc HO_0.out)
                                   have n1_ := zad (zak HO_7.out)
                                   have n2_ := zad (zaf HB.out)
                                   clear HO_0 HO_7 HB; have HO_0 := n0_; have HO_7 := n1_; have HB := n2_; clear n0_ n1_ n2_; have p1151 : 0 ≤ (x9_3 : Int) := zas (taaa)
                                   have q1151 : x9_3 < (x0_1.length : Int) := zas (taaa)
                                   obtain ⟨ad1151, e1151, hx1151_0⟩ := zcc (Kd.V_reads' HO_0.out).2.2 x9_3 p1151 q1151
                                   obtain rfl : ad1149 = ad1151 := (by injection e1151)
                                   replace p1151 := eq_true p1151
                                   replace q1151 := eq_true q1151
                                   have p1152 : 0 ≤ (x9_3 : Int) := zas (taaa)
                                   have q1152 : x9_3 < (l1.length : Int) := zas (taaa)
                                   obtain ⟨ad1152, e1152, hx1152_0⟩ := zcc HR1.out x9_3 p1152 q1152
                                   have hw1152_0 := hx1152_0
                                   obtain rfl : ad1150 = ad1152 := (by injection e1152)
                                   replace hx1152_0 := (HB.out.cell (zaz w _ hx1152_0)).trans hx1152_0
                                   replace p1152 := eq_true p1152
                                   replace q1152 := eq_true q1152
                                   refine start_ (n := 9) (S := fun w' => w'.cell? (ad1149.add (x9_3).toNat) = some (.int .i64 (rd x0_1 x9_3)) ∧ w'.cell? (ad1150.add (x9_3).toNat) = some (.int .i64 (rd l1 x9_3))) (ds := []) #[false, false, false, false, false, false, false, false, false] (by kernel_rfl) rfl rfl ⟨hx1151_0, ((HB.out.cell (zaz w _ hw1152_0)).trans hw1152_0)⟩ (fun hHeld => ?_); refine with_tabW impl_path.tab7 impl_path.bits7 (fun HT_ HW_ => ?_)
                                   generalize wr.drew = w41 at HO_0 HO_7 HB hx1151_0 hx1152_0 hHeld ⊢
                                   refine pure_ (i := 0) (N := some 28) (v := ?_) (a' := ?_) taiy rfl rfl (zca HT_.out (by kernel_rfl)) (fun _ _ _ h => h) (Or.inl ⟨by rfl, ?_⟩) ?_ ?_
                                   rotate_left
                                   · intro w'
                                     go_simp; with_reducible rfl
                                   rotate_left
                                   · simp only [Act.put, zaa, zab, zac, zby, zbz]
                                     rfl
                                   refine pure_ (i := 1) (N := some 29) (v := ?_) (a' := ?_) taiz rfl rfl (zca HT_.out (by kernel_rfl)) (fun _ _ _ h => h) (Or.inl ⟨by rfl, ?_⟩) ?_ ?_
                                   rotate_left
                                   · intro w'
                                     go_simp; with_reducible rfl
                                   rotate_left
                                   · simp only [Act.put, zaa, zab, zac, zby, zbz]
                                     rfl
                                   refine pure_ (i := 2) (N := some 30) (v := ?_) (a' := ?_) taja rfl rfl (zca HT_.out (by kernel_rfl)) (fun _ _ _ h => h) (Or.inl ⟨by rfl, ?_⟩) ?_ ?_
                                   rotate_left
                                   · intro w'
                                     go_simp; with_reducible rfl
                                   rotate_left
                                   · simp only [Act.put, zaa, zab, zac, zby, zbz]
                                     rfl
                                   refine pure_ (i := 4) (N := some 32) (v := ?_) (a' := ?_) tajb rfl rfl (zca HT_.out (by kernel_rfl)) (fun _ _ _ h => h) (Or.inl ⟨by rfl, ?_⟩) ?_ ?_
                                   rotate_left
                                   · intro w'
                                     go_simp; with_reducible rfl
                                   rotate_left
                                   · simp only [Act.put, zaa, zab, zac, zby, zbz]
                                     rfl
                                   refine pure_ (i := 5) (N := some 33) (v := ?_) (a' := ?_) tajc rfl rfl (zca HT_.out (by kernel_rfl)) (fun _ _ _ h => h) (Or.inl ⟨by rfl, ?_⟩) ?_ ?_
                                   rotate_left
                                   · intro w'
                                     go_simp; with_reducible rfl
                                   rotate_left
                                   · simp only [Act.put, zaa, zab, zac, zby, zbz]
                                     rfl
                                   refine pure_ (i := 6) (N := some 34) (v := ?_) (a' := ?_) tajd rfl rfl (zca HT_.out (by kernel_rfl)) (fun _ _ _ h => h) (Or.inl ⟨by rfl, ?_⟩) ?_ ?_
                                   rotate_left
                                   · intro w'
                                     go_simp; with_reducible rfl
                                   rotate_left
                                   · simp only [Act.put, zaa, zab, zac, zby, zbz]
                                     rfl
                                   refine take_ (i := 3) (N := some 31) (v := ?_) (a' := ?_) taje rfl rfl (zcb HT_.out HW_.out (by kernel_rfl)) (fun _ _ _ h => h) (Or.inl ⟨by rfl, ?_⟩) hHeld ?_ ?_
                                   rotate_left
                                   · rintro w' ⟨s0, s1⟩
                                     go_simp; with_reducible rfl
                                   rotate_left
                                   · simp only [Act.put, zaa, zab, zac, zby, zbz]
                                     rfl
                                   refine take_ (i := 7) (N := some 35) (v := ?_) (a' := ?_) tajf rfl rfl (zcb HT_.out HW_.out (by kernel_rfl)) (fun _ _ _ h => h) (Or.inl ⟨by rfl, ?_⟩) hHeld ?_ ?_
                                   rotate_left
                                   · rintro w' ⟨s0, s1⟩
                                     go_simp; with_reducible rfl
                                   rotate_left
                                   · simp only [Act.put, zaa, zab, zac, zby, zbz]
                                     rfl
                                   refine pure_ (i := 8) (N := some 36) (v := ?_) (a' := ?_) tajg rfl rfl (zca HT_.out (by kernel_rfl)) (fun _ _ _ h => h) (Or.inl ⟨by rfl, ?_⟩) ?_ ?_
                                   rotate_left
                                   · intro w'
                                     go_simp; with_reducible rfl
                                   rotate_left
                                   · simp only [Act.put, zaa, zab, zac, zby, zbz]
                                     rfl
                                   refine done_ (done_of HT_.out (by kernel_rfl)) ?_
                                   try go_wp2_with (first | ((with_reducible refine gate_dst (N := 10) rfl ?_); refine box_event ?hg (N := 10) ?hd (cs := #[.int .i64 0, .int .i64 0, .int .i64 0]) (t := 39) ?hr ?_; (case hd => rfl); (case hg => rfl); (case hr => first | (go_simp; done) | (go_simp; rfl)); intro gb1153 hg w42 hbox hb; have n0_ := zad (Kd.V_below (Kd.V_elderB (tabd) gb1153 (Nat.le_of_eq hg.symm)) hb); have n1_ := zad (zbv (Kd.R_elderB (taah) gb1153 (Nat.le_of_eq hg.symm)) hb); have n2_ := zad (zbg (taab) hb); have n3_ := zad (hbox); have n4_ := zad ((tafj : w.heap.size ≤ gb1153)); have n5_ := zad ((tafj : w.heap.size ≤ gb1153)); clear HO_0 HO_7 HB; have HO_0 := n0_; have HO_7 := n1_; have HB := n2_; have BK1153 := n3_; have GW1153 := n4_; have GE1153 := n5_; clear n0_ n1_ n2_ n3_ n4_ n5_ hb hbox hg; have hcz43_0 : w42.cell? ⟨gb1153, 0, none⟩ = some (.int .i64 0) := (zbk BK1153.out 0).trans rfl; have hcz43_1 : w42.cell? ⟨gb1153, 1, none⟩ = some (.int .i64 0) := (zbk BK1153.out 1).trans rfl; have hcz43_2 : w42.cell? ⟨gb1153, 2, none⟩ = some (.int .i64 0) := (zbk BK1153.out 2).trans rfl; have hfz43_0 := zbl BK1153.out 0; have hfz43_1 := zbl BK1153.out 1; have hfz43_2 := zbl BK1153.out 2))
                                   have n0_ : Aside0 (Kd.V (Kd.int .i64) 3 (((w42.setCell ⟨gb1153, 0, none⟩ (.int .i64 x9_3)).setCell ⟨gb1153, 1, none⟩ (.int .i64 x8_2)).setCell ⟨gb1153, 2, none⟩ (.int .i64 1)) w.heap.size (fun k_ => (P0_ k_ ∨ w.heap.size ≤ k_) ∧ some k_ ≠ (u7 : Value).ownBlock ∧ k_ ≠ gb1153) (.slice (some ad1149) x0_1.length co9) x0_1) := ⟨tady⟩
                                   have n1_ : Aside0 (Kd.R k39 39 (((w42.setCell ⟨gb1153, 0, none⟩ (.int .i64 x9_3)).setCell ⟨gb1153, 1, none⟩ (.int .i64 x8_2)).setCell ⟨gb1153, 2, none⟩ (.int .i64 1)) w.heap.size (fun k_ => (w.heap.size ≤ k_) ∧ k_ ≠ gb1153) u7 x7_1) := ⟨tadz⟩
                                   have n2_ : Aside0 ((((w42.setCell ⟨gb1153, 0, none⟩ (.int .i64 x9_3)).setCell ⟨gb1153, 1, none⟩ (.int .i64 x8_2)).setCell ⟨gb1153, 2, none⟩ (.int .i64 1)).heap[gb1153]? = some (.cells #[.int .i64 x9_3, .int .i64 x8_2, .int .i64 1] 39 (0, 0))) := ⟨taea⟩
                                   have n3_ : Aside0 (Below w.heap.size w (((w42.setCell ⟨gb1153, 0, none⟩ (.int .i64 x9_3)).setCell ⟨gb1153, 1, none⟩ (.int .i64 x8_2)).setCell ⟨gb1153, 2, none⟩ (.int .i64 1))) := ⟨taas⟩
                                   (try clear HO_0); (try clear HO_7); (try clear BK1153); (try clear HB); generalize (((w42.setCell ⟨gb1153, 0, none⟩ (.int .i64 x9_3)).setCell ⟨gb1153, 1, none⟩ (.int .i64 x8_2)).setCell ⟨gb1153, 2, none⟩ (.int .i64 1)) = w44 at n0_ n1_ n2_ n3_ ⊢
                                   have HO_0 := n0_; have HO_7 := n1_; have BK1153 := n2_; have HB := n3_; clear n0_ n1_ n2_ n3_; have n0_ := zad (zbc HO_0.out)
                                   have n1_ := zad (zak HO_7.out)
                                   have n2_ := zad (blk_drew BK1153.out)
                                   have n3_ := zad (zaf HB.out)
                                   clear HO_0 HO_7 BK1153 HB; have HO_0 := n0_; have HO_7 := n1_; have BK1153 := n2_; have HB := n3_; clear n0_ n1_ n2_ n3_; have p1163 : 0 ≤ (x9_3 : Int) := zas (taaa)
                                   have q1163 : x9_3 < (x0_1.length : Int) := zas (taaa)
                                   obtain ⟨ad1163, e1163, hx1163_0⟩ := zcc (Kd.V_reads' HO_0.out).2.2 x9_3 p1163 q1163
                                   obtain rfl : ad1149 = ad1163 := (by injection e1163)
                                   replace p1163 := eq_true p1163
                                   replace q1163 := eq_true q1163
                                   have p1164 : 0 ≤ (x9_3 : Int) := zas (taaa)
                                   have q1164 : x9_3 < (l1.length : Int) := zas (taaa)
                                   obtain ⟨ad1164, e1164, hx1164_0⟩ := zcc HR1.out x9_3 p1164 q1164
                                   have hw1164_0 := hx1164_0
                                   obtain rfl : ad1150 = ad1164 := (by injection e1164)
                                   replace hx1164_0 := (HB.out.cell (zaz w _ hx1164_0)).trans hx1164_0
                                   replace p1164 := eq_true p1164
                                   replace q1164 := eq_true q1164
                                   have p1165 : 0 ≤ (x8_2 : Int) := zas (taaa)
                                   have q1165 : x8_2 < (l1.length : Int) := zas (taaa)
                                   obtain ⟨ad1165, e1165, hx1165_0⟩ := zcc HR1.out x8_2 p1165 q1165
                                   have hw1165_0 := hx1165_0
                                   obtain rfl : ad1150 = ad1165 := (by injection e1165)
                                   replace hx1165_0 := (HB.out.cell (zaz w _ hx1165_0)).trans hx1165_0
                                   replace p1165 := eq_true p1165
                                   replace q1165 := eq_true q1165
                                   have p1166 : 0 ≤ (x8_2 : Int) := zas (taaa)
                                   have q1166 : x8_2 < (x0_1.length : Int) := zas (taaa)
                                   obtain ⟨ad1166, e1166, hx1166_0⟩ := zcc (Kd.V_reads' HO_0.out).2.2 x8_2 p1166 q1166
                                   obtain rfl : ad1149 = ad1166 := (by injection e1166)
                                   replace p1166 := eq_true p1166
                                   replace q1166 := eq_true q1166
                                   refine start_ (n := 21) (S := fun w' => w'.cell? (ad1149.add (x9_3).toNat) = some (.int .i64 (rd x0_1 x9_3)) ∧ w'.cell? (ad1150.add (x9_3).toNat) = some (.int .i64 (rd l1 x9_3)) ∧ w'.cell? (ad1150.add (x8_2).toNat) = some (.int .i64 (rd l1 x8_2)) ∧ w'.cell? (ad1149.add (x8_2).toNat) = some (.int .i64 (rd x0_1 x8_2))) (ds := []) #[false, false, false, false, false, false, false, false, false, false, false, false, false, false, false, false, false, false, false, false, false] (by kernel_rfl) rfl rfl ⟨hx1163_0, ((HB.out.cell (zaz w _ hw1164_0)).trans hw1164_0), ((HB.out.cell (zaz w _ hw1165_0)).trans hw1165_0), hx1166_0⟩ (fun hHeld => ?_); refine with_tabW impl_path.tab11 impl_path.bits11 (fun HT_ HW_ => ?_)
                                   generalize w44.drew = w45 at HO_0 HO_7 BK1153 HB hx1163_0 hx1164_0 hx1165_0 hx1166_0 hHeld ⊢
                                   refine pure_ (i := 0) (N := some 44) (v := ?_) (a' := ?_) #[true, false, false, false, false, false, false, false, false, false, false, false, false, false, false, false, false, false, false, false, false] rfl rfl (zca HT_.out (by kernel_rfl)) (fun _ _ _ h => h) (Or.inl ⟨by rfl, ?_⟩) ?_ ?_
                                   rotate_left
                                   · intro w'
                                     go_simp; with_reducible rfl
                                   rotate_left
                                   · simp only [Act.put, zaa, zab, zac, zby, zbz]
                                     rfl
                                   refine pure_ (i := 1) (N := some 45) (v := ?_) (a' := ?_) #[true, true, false, false, false, false, false, false, false, false, false, false, false, false, false, false, false, false, false, false, false] rfl rfl (zca HT_.out (by kernel_rfl)) (fun _ _ _ h => h) (Or.inl ⟨by rfl, ?_⟩) ?_ ?_
                                   rotate_left
                                   · intro w'
                                     go_simp; with_reducible rfl
                                   rotate_left
                                   · simp only [Act.put, zaa, zab, zac, zby, zbz]
                                     rfl
                                   refine pure_ (i := 2) (N := some 46) (v := ?_) (a' := ?_) #[true, true, true, false, false, false, false, false, false, false, false, false, false, false, false, false, false, false, false, false, false] rfl rfl (zca HT_.out (by kernel_rfl)) (fun _ _ _ h => h) (Or.inl ⟨by rfl, ?_⟩) ?_ ?_
                                   rotate_left
                                   · intro w'
                                     go_simp; with_reducible rfl
                                   rotate_left
                                   · simp only [Act.put, zaa, zab, zac, zby, zbz]
                                     rfl
                                   refine pure_ (i := 4) (N := some 48) (v := ?_) (a' := ?_) #[true, true, true, false, true, false, false, false, false, false, false, false, false, false, false, false, false, false, false, false, false] rfl rfl (zca HT_.out (by kernel_rfl)) (fun _ _ _ h => h) (Or.inl ⟨by rfl, ?_⟩) ?_ ?_
                                   rotate_left
                                   · intro w'
                                     go_simp; with_reducible rfl
                                   rotate_left
                                   · simp only [Act.put, zaa, zab, zac, zby, zbz]
                                     rfl
                                   refine pure_ (i := 5) (N := some 49) (v := ?_) (a' := ?_) #[true, true, true, false, true, true, false, false, false, false, false, false, false, false, false, false, false, false, false, false, false] rfl rfl (zca HT_.out (by kernel_rfl)) (fun _ _ _ h => h) (Or.inl ⟨by rfl, ?_⟩) ?_ ?_
                                   rotate_left
                                   · intro w'
                                     go_simp; with_reducible rfl
                                   rotate_left
                                   · simp only [Act.put, zaa, zab, zac, zby, zbz]
                                     rfl
                                   refine pure_ (i := 6) (N := some 50) (v := ?_) (a' := ?_) #[true, true, true, false, true, true, true, false, false, false, false, false, false, false, false, false, false, false, false, false, false] rfl rfl (zca HT_.out (by kernel_rfl)) (fun _ _ _ h => h) (Or.inl ⟨by rfl, ?_⟩) ?_ ?_
                                   rotate_left
                                   · intro w'
                                     go_simp; with_reducible rfl
                                   rotate_left
                                   · simp only [Act.put, zaa, zab, zac, zby, zbz]
                                     rfl
                                   refine pure_ (i := 9) (N := some 53) (v := ?_) (a' := ?_) #[true, true, true, false, true, true, true, false, false, true, false, false, false, false, false, false, false, false, false, false, false] rfl rfl (zca HT_.out (by kernel_rfl)) (fun _ _ _ h => h) (Or.inl ⟨by rfl, ?_⟩) ?_ ?_
                                   rotate_left
                                   · intro w'
                                     go_simp; with_reducible rfl
                                   rotate_left
                                   · simp only [Act.put, zaa, zab, zac, zby, zbz]
                                     rfl
                                   refine pure_ (i := 10) (N := some 54) (v := ?_) (a' := ?_) #[true, true, true, false, true, true, true, false, false, true, true, false, false, false, false, false, false, false, false, false, false] rfl rfl (zca HT_.out (by kernel_rfl)) (fun _ _ _ h => h) (Or.inl ⟨by rfl, ?_⟩) ?_ ?_
                                   rotate_left
                                   · intro w'
                                     go_simp; with_reducible rfl
                                   rotate_left
                                   · simp only [Act.put, zaa, zab, zac, zby, zbz]
                                     rfl
                                   refine pure_ (i := 11) (N := some 55) (v := ?_) (a' := ?_) #[true, true, true, false, true, true, true, false, false, true, true, true, false, false, false, false, false, false, false, false, false] rfl rfl (zca HT_.out (by kernel_rfl)) (fun _ _ _ h => h) (Or.inl ⟨by rfl, ?_⟩) ?_ ?_
                                   rotate_left
                                   · intro w'
                                     go_simp; with_reducible rfl
                                   rotate_left
                                   · simp only [Act.put, zaa, zab, zac, zby, zbz]
                                     rfl
                                   refine pure_ (i := 13) (N := some 57) (v := ?_) (a' := ?_) #[true, true, true, false, true, true, true, false, false, true, true, true, false, true, false, false, false, false, false, false, false] rfl rfl (zca HT_.out (by kernel_rfl)) (fun _ _ _ h => h) (Or.inl ⟨by rfl, ?_⟩) ?_ ?_
                                   rotate_left
                                   · intro w'
                                     go_simp; with_reducible rfl
                                   rotate_left
                                   · simp only [Act.put, zaa, zab, zac, zby, zbz]
                                     rfl
                                   refine pure_ (i := 14) (N := some 58) (v := ?_) (a' := ?_) #[true, true, true, false, true, true, true, false, false, true, true, true, false, true, true, false, false, false, false, false, false] rfl rfl (zca HT_.out (by kernel_rfl)) (fun _ _ _ h => h) (Or.inl ⟨by rfl, ?_⟩) ?_ ?_
                                   rotate_left
                                   · intro w'
                                     go_simp; with_reducible rfl
                                   rotate_left
                                   · simp only [Act.put, zaa, zab, zac, zby, zbz]
                                     rfl
                                   refine pure_ (i := 15) (N := some 59) (v := ?_) (a' := ?_) #[true, true, true, false, true, true, true, false, false, true, true, true, false, true, true, true, false, false, false, false, false] rfl rfl (zca HT_.out (by kernel_rfl)) (fun _ _ _ h => h) (Or.inl ⟨by rfl, ?_⟩) ?_ ?_
                                   rotate_left
                                   · intro w'
                                     go_simp; with_reducible rfl
                                   rotate_left
                                   · simp only [Act.put, zaa, zab, zac, zby, zbz]
                                     rfl
                                   refine take_ (i := 3) (N := some 47) (v := ?_) (a' := ?_) #[true, true, true, true, true, true, true, false, false, true, true, true, false, true, true, true, false, false, false, false, false] rfl rfl (zcb HT_.out HW_.out (by kernel_rfl)) (fun _ _ _ h => h) (Or.inl ⟨by rfl, ?_⟩) hHeld ?_ ?_
                                   rotate_left
                                   · rintro w' ⟨s0, s1, s2, s3⟩
                                     go_simp; with_reducible rfl
                                   rotate_left
                                   · simp only [Act.put, zaa, zab, zac, zby, zbz]
                                     rfl
                                   refine take_ (i := 7) (N := some 51) (v := ?_) (a' := ?_) #[true, true, true, true, true, true, true, true, false, true, true, true, false, true, true, true, false, false, false, false, false] rfl rfl (zcb HT_.out HW_.out (by kernel_rfl)) (fun _ _ _ h => h) (Or.inl ⟨by rfl, ?_⟩) hHeld ?_ ?_
                                   rotate_left
                                   · rintro w' ⟨s0, s1, s2, s3⟩
                                     go_simp; with_reducible rfl
                                   rotate_left
                                   · simp only [Act.put, zaa, zab, zac, zby, zbz]
                                     rfl
                                   refine pure_ (i := 8) (N := some 52) (v := ?_) (a' := ?_) #[true, true, true, true, true, true, true, true, true, true, true, true, false, true, true, true, false, false, false, false, false] rfl rfl (zca HT_.out (by kernel_rfl)) (fun _ _ _ h => h) (Or.inl ⟨by rfl, ?_⟩) ?_ ?_
                                   rotate_left
                                   · intro w'
                                     go_simp; with_reducible rfl
                                   rotate_left
                                   · simp only [Act.put, zaa, zab, zac, zby, zbz]
                                     rfl
                                   refine take_ (i := 12) (N := some 56) (v := ?_) (a' := ?_) #[true, true, true, true, true, true, true, true, true, true, true, true, true, true, true, true, false, false, false, false, false] rfl rfl (zcb HT_.out HW_.out (by kernel_rfl)) (fun _ _ _ h => h) (Or.inl ⟨by rfl, ?_⟩) hHeld ?_ ?_
                                   rotate_left
                                   · rintro w' ⟨s0, s1, s2, s3⟩
                                     go_simp; with_reducible rfl
                                   rotate_left
                                   · simp only [Act.put, zaa, zab, zac, zby, zbz]
                                     rfl
                                   refine take_ (i := 16) (N := some 60) (v := ?_) (a' := ?_) #[true, true, true, true, true, true, true, true, true, true, true, true, true, true, true, true, true, false, false, false, false] rfl rfl (zcb HT_.out HW_.out (by kernel_rfl)) (fun _ _ _ h => h) (Or.inl ⟨by rfl, ?_⟩) hHeld ?_ ?_
                                   rotate_left
                                   · rintro w' ⟨s0, s1, s2, s3⟩
                                     go_simp; with_reducible rfl
                                   rotate_left
                                   · simp only [Act.put, zaa, zab, zac, zby, zbz]
                                     rfl
                                   refine pure_ (i := 17) (N := some 61) (v := ?_) (a' := ?_) #[true, true, true, true, true, true, true, true, true, true, true, true, true, true, true, true, true, true, false, false, false] rfl rfl (zca HT_.out (by kernel_rfl)) (fun _ _ _ h => h) (Or.inl ⟨by rfl, ?_⟩) ?_ ?_
                                   rotate_left
                                   · intro w'
                                     go_simp; with_reducible rfl
                                   rotate_left
                                   · simp only [Act.put, zaa, zab, zac, zby, zbz]
                                     rfl
                                   refine pure_ (i := 18) (N := some 62) (v := ?_) (a' := ?_) #[true, true, true, true, true, true, true, true, true, true, true, true, true, true, true, true, true, true, true, false, false] rfl rfl (zca HT_.out (by kernel_rfl)) (fun _ _ _ h => h) (Or.inl ⟨by rfl, ?_⟩) ?_ ?_
                                   rotate_left
                                   · intro w'
                                     go_simp; with_reducible rfl
                                   rotate_left
                                   · simp only [Act.put, zaa, zab, zac, zby, zbz]
                                     rfl
                                   refine pure_ (i := 19) (N := some 63) (v := ?_) (a' := ?_) #[true, true, true, true, true, true, true, true, true, true, true, true, true, true, true, true, true, true, true, true, false] rfl rfl (zca HT_.out (by kernel_rfl)) (fun _ _ _ h => h) (Or.inl ⟨by rfl, ?_⟩) ?_ ?_
                                   rotate_left
                                   · intro w'
                                     go_simp; with_reducible rfl
                                   rotate_left
                                   · simp only [Act.put, zaa, zab, zac, zby, zbz]
                                     rfl
                                   refine one_ (i := 20) (N := none) #[true, true, true, true, true, true, true, true, true, true, true, true, true, true, true, true, true, true, true, true, true] rfl rfl (one_of HT_.out (by kernel_rfl)) (by decide) (fun K hK => ?_)
                                   have hs46 : w45.cell? ⟨gb1153, 2, none⟩ = some (.int .i64 1) := (zbk BK1153.out 2).trans rfl
                                   have hfs46 := zbl BK1153.out 2
                                   refine skip_ (w1 := ?_) (by rfl) rfl ?_ ?_
                                   rotate_left
                                   · go_simp
                                     rfl
                                   refine hK.out _ _ ⟨((cell_far (p := ⟨gb1153, _, none⟩) (tafx) _).trans (hHeld.1)), ((cell_far (p := ⟨gb1153, _, none⟩) (by first | exact Nat.ne_of_lt (Nat.lt_of_lt_of_le (tacq) GW1153.out) | (rw [add_block]; exact Nat.ne_of_lt (Nat.lt_of_lt_of_le (tacq) GW1153.out)) | (show (Addr.add _ _).block ≠ _; rw [add_block]; exact Nat.ne_of_lt (Nat.lt_of_lt_of_le (tacq) GW1153.out)) | (dsimp only; exact Nat.ne_of_lt (Nat.lt_of_lt_of_le (tacq) GW1153.out))) _).trans (hHeld.2.1)), ((cell_far (p := ⟨gb1153, _, none⟩) (by first | exact Nat.ne_of_lt (Nat.lt_of_lt_of_le (tacr) GW1153.out) | (rw [add_block]; exact Nat.ne_of_lt (Nat.lt_of_lt_of_le (tacr) GW1153.out)) | (show (Addr.add _ _).block ≠ _; rw [add_block]; exact Nat.ne_of_lt (Nat.lt_of_lt_of_le (tacr) GW1153.out)) | (dsimp only; exact Nat.ne_of_lt (Nat.lt_of_lt_of_le (tacr) GW1153.out))) _).trans (hHeld.2.2.1)), ((cell_far (p := ⟨gb1153, _, none⟩) (tafx) _).trans (hHeld.2.2.2))⟩ (fun hHeld => ?_)
                                   clear hK K; refine done_ (done_of HT_.out (by kernel_rfl)) ?_
                                   try go_wp2
                                   have n0_ : Aside0 (Kd.V (Kd.int .i64) 3 (w45.setCell ⟨gb1153, 2, none⟩ (.int .i64 ji37)) w.heap.size (fun k_ => (P0_ k_ ∨ w.heap.size ≤ k_) ∧ some k_ ≠ (u7 : Value).ownBlock ∧ k_ ≠ gb1153) (.slice (some ad1149) x0_1.length co9) x0_1) := ⟨by (with_reducible repeat (first | apply Kd.V_alloc | apply Kd.V_drewN | apply zbc)); exact Kd.V_mono (Kd.V_far (p := ⟨gb1153, 2, none⟩) (Kd.V_mono HO_0.out (fun k_ hk => (⟨hk, hk.2.2⟩ : _ ∧ k_ ≠ gb1153))) (fun _ hk => hk.2) (.int .i64 ji37)) (fun _ hk => ⟨hk.1.1, ⟨hk.1.2.1, hk.1.2.2⟩⟩)⟩
                                   have n1_ : Aside0 (Kd.R k39 39 (w45.setCell ⟨gb1153, 2, none⟩ (.int .i64 ji37)) w.heap.size (fun k_ => (w.heap.size ≤ k_) ∧ k_ ≠ gb1153) u7 x7_1) := ⟨by (with_reducible repeat (first | apply zai | apply zaj | apply zak)); exact zbs (Kd.R_far (p := ⟨gb1153, 2, none⟩) (zbs HO_7.out (fun k_ hk => (⟨hk, hk.2⟩ : _ ∧ k_ ≠ gb1153))) (fun _ hk => hk.2) (.int .i64 ji37)) (fun _ hk => ⟨hk.1.1, hk.1.2⟩)⟩
                                   have n2_ : Aside0 ((w45.setCell ⟨gb1153, 2, none⟩ (.int .i64 ji37)).heap[gb1153]? = some (.cells #[.int .i64 x9_3, .int .i64 x8_2, .int .i64 ji37] 39 (0, 0))) := ⟨by (with_reducible repeat (first | refine blk_drewN ?_ _ | refine blk_drew ?_ | refine blk_alloc ?_ _)); refine blk_put (cs := #[.int .i64 x9_3, .int .i64 x8_2, .int .i64 1]) ?_ 2 _ rfl; (with_reducible repeat (first | refine blk_drewN ?_ _ | refine blk_drew ?_ | refine blk_alloc ?_ _)); exact BK1153.out⟩
                                   have n3_ : Aside0 (Below w.heap.size w (w45.setCell ⟨gb1153, 2, none⟩ (.int .i64 ji37))) := ⟨taas⟩
                                   (try clear HO_0); (try clear HO_7); (try clear BK1153); (try clear HB); generalize (w45.setCell ⟨gb1153, 2, none⟩ (.int .i64 ji37)) = w47 at n0_ n1_ n2_ n3_ ⊢
                                   have HO_0 := n0_; have HO_7 := n1_; have BK1153 := n2_; have HB := n3_; clear n0_ n1_ n2_ n3_; have n0_ := zad (zbc HO_0.out)
                                   have n1_ := zad (zak HO_7.out)
                                   have n2_ := zad (blk_drew BK1153.out)
                                   have n3_ := zad (zaf HB.out)
                                   clear HO_0 HO_7 BK1153 HB; have HO_0 := n0_; have HO_7 := n1_; have BK1153 := n2_; have HB := n3_; clear n0_ n1_ n2_ n3_; refine start_ (n := 10) (S := fun w' => w'.cell? ⟨gb1153, 0, none⟩ = some (.int .i64 x9_3) ∧ w'.cell? ⟨gb1153, 1, none⟩ = some (.int .i64 x8_2) ∧ w'.cell? ⟨gb1153, 2, none⟩ = some (.int .i64 ji37)) (ds := []) #[false, false, false, false, false, false, false, false, false, false] (by kernel_rfl) rfl rfl ⟨(zbk BK1153.out 0).trans rfl, (zbk BK1153.out 1).trans rfl, (zbk BK1153.out 2).trans rfl⟩ (fun hHeld => ?_); refine with_tabW impl_path.tab12 impl_path.bits12 (fun HT_ HW_ => ?_)
                                   generalize w47.drew = w48 at HO_0 HO_7 BK1153 HB hHeld ⊢
                                   refine pure_ (i := 0) (N := some 64) (v := ?_) (a' := ?_) taip rfl rfl (zca HT_.out (by kernel_rfl)) (fun _ _ _ h => h) (Or.inl ⟨by rfl, ?_⟩) ?_ ?_
                                   rotate_left
                                   · intro w'
                                     go_simp; with_reducible rfl
                                   rotate_left
                                   · simp only [Act.put, zaa, zab, zac, zby, zbz]
                                     rfl
                                   refine pure_ (i := 4) (N := some 68) (v := ?_) (a' := ?_) #[true, false, false, false, true, false, false, false, false, false] rfl rfl (zca HT_.out (by kernel_rfl)) (fun _ _ _ h => h) (Or.inl ⟨by rfl, ?_⟩) ?_ ?_
                                   rotate_left
                                   · intro w'
                                     go_simp; with_reducible rfl
                                   rotate_left
                                   · simp only [Act.put, zaa, zab, zac, zby, zbz]
                                     rfl
                                   refine take_ (i := 1) (N := some 65) (v := ?_) (a' := ?_) #[true, true, false, false, true, false, false, false, false, false] rfl rfl (zcb HT_.out HW_.out (by kernel_rfl)) (fun _ _ _ h => h) (Or.inl ⟨by rfl, ?_⟩) hHeld ?_ ?_
                                   rotate_left
                                   · rintro w' ⟨s0, s1, s2⟩
                                     go_simp; with_reducible rfl
                                   rotate_left
                                   · simp only [Act.put, zaa, zab, zac, zby, zbz]
                                     rfl
                                   refine take_ (i := 5) (N := some 69) (v := ?_) (a' := ?_) #[true, true, false, false, true, true, false, false, false, false] rfl rfl (zcb HT_.out HW_.out (by kernel_rfl)) (fun _ _ _ h => h) (Or.inl ⟨by rfl, ?_⟩) hHeld ?_ ?_
                                   rotate_left
                                   · rintro w' ⟨s0, s1, s2⟩
                                     go_simp; with_reducible rfl
                                   rotate_left
                                   · simp only [Act.put, zaa, zab, zac, zby, zbz]
                                     rfl
                                   refine one_ (i := 2) (N := some 66) #[true, true, true, false, true, true, false, false, false, false] rfl rfl (one_of HT_.out (by kernel_rfl)) (by decide) (fun K hK => ?_)
                                   refine value_ (w1 := ?_) (v := ?_) (by rfl) rfl ?_ ?_
                                   rotate_left 2
                                   · go_simp
                                     constructor
                                     · rfl
                                     · rfl
                                   refine hK.out _ _ ⟨(zbk (blk_alloc BK1153.out _) 0).trans rfl, (zbk (blk_alloc BK1153.out _) 1).trans rfl, (zbk (blk_alloc BK1153.out _) 2).trans rfl⟩ (fun hHeld => ?_)
                                   clear hK K; refine norm_ (a' := ?_) ?_ ?_
                                   rotate_left
                                   · show Act.put _ (some 66) _ = _
                                     simp only [Act.put, zaa, zab, zac, zby, zbz]
                                     rfl
                                   refine one_ (i := 3) (N := some 67) #[true, true, true, true, true, true, false, false, false, false] rfl rfl (one_of HT_.out (by kernel_rfl)) (by decide) (fun K hK => ?_)
                                   refine Kd.R_append_step k39 (w0 := w) w.heap.size (by rfl) (.tmp 64) (.tmp 66) 58 39 (.agg #[(.int .i64 0), (.int .i64 0), (.int .i64 0)]) 24 rfl Try.underlying58 info39 rfl (by decide) (by omega) u7 x7_1 (⟨x9_3, x8_2, ji37⟩ : S39) [.int .i64 x9_3, .int .i64 x8_2, .int .i64 ji37] (fun k_ => (w.heap.size ≤ k_) ∧ k_ ≠ gb1153) (fun _ => False) rfl rfl ?aP (fun _ hk => hk.elim) ?aF ?aO ?aB ?aS ?aL ?_
                                   (case aP => exact k39_mkM _ _ _ (⟨x9_3, x8_2, ji37⟩ : S39))
                                   (case aB => exact (taas))
                                   (case aF => exact (fun k_ hk => ⟨(Nat.le_trans (zbm (taas)) hk), Kd.freshB (g := gb1153) (o := .cells #[.int .i64 x9_3, .int .i64 x8_2, .int .i64 ji37] 39 (0, 0)) (tabh) k_ hk⟩))
                                   (case aO => exact (taah))
                                   (case aS => exact (zbm (taas)))
                                   (case aL => have := LMc38.out; omega)
                                   intro v1168 w49 ho hb hg hat
                                   rw [← Ny1167.out] at ho
                                   have n0_ := zad (Kd.V_afterv (ok := (fun k_ => (P0_ k_ ∨ w.heap.size ≤ k_) ∧ k_ ≠ gb1153)) (taeb) hg hat)
                                   have n1_ := zad (blk_grown (g := gb1153) (o := .cells #[.int .i64 x9_3, .int .i64 x8_2, .int .i64 ji37] 39 (0, 0)) (tabh) hg (Kd.R_away HO_7.out (fun _ hk => hk.2)))
                                   have n2_ := zad (hb)
                                   have n3_ := zad (ho)
                                   clear HO_0 BK1153 HB HO_7; have HO_0 := n0_; have BK1153 := n1_; have HB := n2_; have HO1169 := n3_; clear n0_ n1_ n2_ n3_ ho hb hg hat; refine hK.out _ _ ⟨(zbk BK1153.out 0).trans rfl, (zbk BK1153.out 1).trans rfl, (zbk BK1153.out 2).trans rfl⟩ (fun hHeld => ?_)
                                   clear hK K; refine norm_ (a' := ?_) ?_ ?_
                                   rotate_left
                                   · show Act.put _ (some 67) _ = _
                                     simp only [Act.put, zaa, zab, zac, zby, zbz]
                                     rfl
                                   refine one_ (i := 6) (N := some 70) #[true, true, true, true, true, true, true, false, false, false] rfl rfl (one_of HT_.out (by kernel_rfl)) (by decide) (fun K hK => ?_)
                                   refine goes_ Try.func105 (by kernel_rfl) rfl #[.slice (some ad1149) x0_1.length co9, .agg #[.int .i64 x9_3, .int .i64 x8_2, .int .i64 ji37]] (by rfl) rfl rfl (by (try simp only [zat, zau, zav]); first | done | (simp only [hji37]; rfl) | rfl | (simp only [zaw, zax]; rfl)) ?_
                                   with_reducible refine (impl_given.calls _ _ x0_1 x9_3 x8_2 ji37 t1170 _ ?side1 ?side2 A39.out).mono ?_
                                   (case side1 => exact tagg)
                                   (case side2 => exact tagh)
                                   rintro e w50 ⟨v1171, rfl, ho0, hb⟩
                                   refine ⟨_, rfl, ?_⟩
                                   have n0_ := zad (Kd.V_elder' (tabd) (zcf ho0) hb)
                                   have n1_ := zad (zbv (taef) hb)
                                   have n2_ := zad (zbw (Kd.R_newM (M := fun k_ => (w.heap.size ≤ k_)) ho0 (zbm (taas)) (fun k_ h_ => h_)) (zbm (taas)))
                                   have n3_ := zad (blk_below (g := gb1153) (o := .cells #[.int .i64 x9_3, .int .i64 x8_2, .int .i64 ji37] 39 (0, 0)) (tabh) hb)
                                   have n4_ := zad (zbg (taas) hb)
                                   clear HO_0 HO1169 BK1153 HB; have HO_0 := n0_; have HO1169 := n1_; have HO1172 := n2_; have BK1153 := n3_; have HB := n4_; clear n0_ n1_ n2_ n3_ n4_; (try clear hb); (try clear hb2); (try clear hk); (try clear hi); (try clear ho0); obtain ⟨Ao51, co51, eo51⟩ := zbx HO1172.out
                                   (first | subst eo51 | (injection eo51 with f1_ f2_ f3_; have f4_ := f1_.symm; have f5_ := f3_.symm; clear f1_ f2_ f3_; subst f4_; subst f5_))
                                   refine hK.out _ _ ⟨(zbk BK1153.out 0).trans rfl, (zbk BK1153.out 1).trans rfl, (zbk BK1153.out 2).trans rfl⟩ (fun hHeld => ?_)
                                   clear hK K; refine norm_ (a' := ?_) ?_ ?_
                                   rotate_left
                                   · show Act.put _ (some 70) _ = _
                                     simp only [Act.put, zaa, zab, zac, zby, zbz]
                                     rfl
                                   refine one_ (i := 7) (N := some 71) #[true, true, true, true, true, true, true, true, false, false] rfl rfl (one_of HT_.out (by kernel_rfl)) (by decide) (fun K hK => ?_)
                                   refine goes_ Try.func88 (by kernel_rfl) rfl #[.slice Ao51 t1170.length co51] (by rfl) rfl rfl (taad) ?_
                                   with_reducible refine (impl_ranking.calls _ _ t1170 t1173 _ ?side1 ?side2 A40.out).mono ?_
                                   (case side1 => repeat (first | exact (zbf HO1172.out).2.2 | (with_reducible refine zal ?_ _) | (with_reducible refine zam ?_ _) | (with_reducible refine zan ?_)))
                                   (case side2 => exact (zbf HO1172.out).2.1)
                                   rintro e w52 ⟨v1174, rfl, ho0, hb⟩
                                   refine ⟨_, rfl, ?_⟩
                                   have n0_ := zad (Kd.V_elder' (tabd) (zcf ho0) hb)
                                   have n1_ := zad (zbv (taef) hb)
                                   have n2_ := zad (zcd (taeg) (zcf ho0) hb)
                                   have n3_ := zad (zbw (zce (Kd.R_newM (M := fun k_ => (w.heap.size ≤ k_)) ho0 (zbm (taas)) (fun k_ h_ => h_)) (zcg (taeg))) (zbm (taas)))
                                   have n4_ := zad (blk_below (g := gb1153) (o := .cells #[.int .i64 x9_3, .int .i64 x8_2, .int .i64 ji37] 39 (0, 0)) (tabh) hb)
                                   have n5_ := zad (zbg (taas) hb)
                                   clear HO_0 HO1169 HO1172 BK1153 HB; have HO_0 := n0_; have HO1169 := n1_; have HO1172 := n2_; have HO1175 := n3_; have BK1153 := n4_; have HB := n5_; clear n0_ n1_ n2_ n3_ n4_ n5_; (try clear hb); (try clear hb2); (try clear hk); (try clear hi); (try clear ho0); refine hK.out _ _ ⟨(zbk BK1153.out 0).trans rfl, (zbk BK1153.out 1).trans rfl, (zbk BK1153.out 2).trans rfl⟩ (fun hHeld => ?_)
                                   clear hK K; refine norm_ (a' := ?_) ?_ ?_
                                   rotate_left
                                   · show Act.put _ (some 71) _ = _
                                     simp only [Act.put, zaa, zab, zac, zby, zbz]
                                     rfl
                                   refine pure_ (i := 8) (N := some 7) (v := ?_) (a' := ?_) taix rfl rfl (zca HT_.out (by kernel_rfl)) (fun _ _ _ h => h) (Or.inl ⟨by rfl, ?_⟩) ?_ ?_
                                   rotate_left
                                   · intro w'
                                     go_simp; with_reducible rfl
                                   rotate_left
                                   · simp only [Act.put, zaa, zab, zac, zby, zbz]
                                     rfl
                                   refine pure_ (i := 9) (N := some 0) (v := ?_) (a' := ?_) #[true, true, true, true, true, true, true, true, true, true] rfl rfl (zca HT_.out (by kernel_rfl)) (fun _ _ _ h => h) (Or.inl ⟨by rfl, ?_⟩) ?_ ?_
                                   rotate_left
                                   · intro w'
                                     go_simp; with_reducible rfl
                                   rotate_left
                                   · simp only [Act.put, zaa, zab, zac, zby, zbz]
                                     rfl
                                   refine done_ (done_of HT_.out (by kernel_rfl)) ?_
                                   try go_wp2
                                   go_roundg k3
                                   case measure => have := HK1.out; have := HK2.out; have := HK3.out; omega
                                   case rel => exact ⟨(t1173), (y1167), H', ⟨tadg⟩, ⟨Kd.V_mono (Kd.R_V (by (with_reducible repeat (first | apply zai | apply zaj | apply zak)); exact (Kd.R_apart' HO1175.out (Kd.R_typed HO1169.out) (by decide)))) (fun k_ hk0 => taee)⟩, ⟨by (with_reducible repeat (first | apply zai | apply zaj | apply zak)); exact zbs HO1169.out (fun _ hk => hk.1)⟩, ⟨taas⟩⟩
                                 · rw [if_neg c38] at H
                                   exact absurd H (taae)
                               · rw [if_neg c36] at H
                                 exact absurd H (taae)
                             · rw [if_neg c35] at H
                               exact absurd H (taae)
                           · rw [if_neg c34] at H
                             exact absurd H (taae)
                     · rw [if_neg c18] at H
                       exact absurd H (taae)
                   · rw [if_neg c17] at H
                     exact absurd H (taae)
                 · rw [if_neg c16] at H
                   exact absurd H (taae)
           · rw [if_neg c12] at H
             exact absurd H (taae)
         · rw [if_neg c11] at H
           exact absurd H (taae)
       · rw [if_neg c10] at H
         exact absurd H (taae)
def impl_GiftPath.f (k : Nat) (l0 : List Int) (l1 : List Int) : Option ((List (S39)) × Bool) := (impl_isBetween.f k l0 l1).bind fun t1437 => (if t1437 = true then ((impl_ranking.f l1).bind fun t1438 => ((impl_ranking.f l0).bind fun t1441 => ((impl_path.f k t1438 t1441 true).bind fun t1444 => (some (t1444, true))))) else (some (([] : List (S39)), false)))
theorem impl_GiftPath.calls (k : Nat) (A0 : Option Addr) (c0 : Nat) (l0 : List Int) (A1 : Option Addr) (c1 : Nat) (l1 : List Int) (r1 : List (S39)) (r2 : Bool) (w : World) (hr0 : Kd.C (Kd.int .i64) w A0 l0.length l0) (hc0 : l0.length ≤ c0) (hr1 : Kd.C (Kd.int .i64) w A1 l1.length l1) (hc1 : l1.length ≤ c1) (h : impl_GiftPath.f k l0 l1 = some (r1, r2)) :
 Calls Try.prog 73 #[.slice A0 l0.length c0, .slice A1 l1.length c1] w fun e w' => ∃ v0_ : Value, e = .returned (.tuple #[v0_, .bool r2]) ∧ Kd.R k39 39 w' w.heap.size (fun _ => True) v0_ r1 ∧ Below w.heap.size w w' := by
 have HR0 := zad hr0; have HC0 := zad hc0; clear hr0 hc0; have HR1 := zad hr1; have HC1 := zad hc1; clear hr1 hc1; have HB := zad (Below.refl w.heap.size w)
 have H : ((impl_isBetween.f k l0 l1).bind fun t1437 => (if t1437 = true then ((impl_ranking.f l1).bind fun t1438 => ((impl_ranking.f l0).bind fun t1441 => ((impl_path.f k t1438 t1441 true).bind fun t1444 => (some (t1444, true))))) else (some (([] : List (S39)), false)))) = some (r1, r2) := h
 clear h; replace H := zay.mp H; obtain ⟨t1437, A30, H⟩ := H
 replace H : (if t1437 = true then ((impl_ranking.f l1).bind fun t1438 => ((impl_ranking.f l0).bind fun t1441 => ((impl_path.f k t1438 t1441 true).bind fun t1444 => (some (t1444, true))))) else (some (([] : List (S39)), false))) = some (r1, r2) := H
 have A3 := zad A30; clear A30; by_cases c4 : t1437 = true
 · subst c4
   have H1 : ((impl_ranking.f l1).bind fun t1438 => ((impl_ranking.f l0).bind fun t1441 => ((impl_path.f k t1438 t1441 true).bind fun t1444 => (some (t1444, true))))) = some (r1, r2) := by rw [if_pos rfl] at H; exact H
   clear H; have H := H1; clear H1; replace H := zay.mp H; obtain ⟨t1438, A50, H⟩ := H
   replace H : ((impl_ranking.f l0).bind fun t1441 => ((impl_path.f k t1438 t1441 true).bind fun t1444 => (some (t1444, true)))) = some (r1, r2) := H
   have A5 := zad A50; clear A50; replace H := zay.mp H; obtain ⟨t1441, A60, H⟩ := H
   replace H : ((impl_path.f k t1438 t1441 true).bind fun t1444 => (some (t1444, true))) = some (r1, r2) := H
   have A6 := zad A60; clear A60; replace H := zay.mp H; obtain ⟨t1444, A70, H⟩ := H
   replace H : (some (t1444, true)) = some (r1, r2) := H
   have A7 := zad A70; clear A70; simp only [zbn, zbr] at H
   obtain ⟨rfl, rfl⟩ := H
   go_enter Try.func73, Try.ntmps73
   go_wp2_with (first | ((with_reducible refine zbh (f := 128) rfl ?_); refine zbp (some 8) rfl rfl Try.func128 (by kernel_rfl) rfl #[.slice A0 l0.length c0, .slice A1 l1.length c1] rfl (taad) ?_; (with_reducible refine (impl_isBetween.calls k _ _ l0 _ _ l1 true _ ?side1 ?side2 ?side3 ?side4 A3.out).mono ?_); (case side1 => repeat (first | exact HR0.out | (with_reducible refine zal ?_ _) | (with_reducible refine zam ?_ _) | (with_reducible refine zan ?_))); (case side2 => exact HC0.out); (case side3 => repeat (first | exact HR1.out | (with_reducible refine zal ?_ _) | (with_reducible refine zam ?_ _) | (with_reducible refine zan ?_))); (case side4 => exact HC1.out); rintro e w8 ⟨rfl, hb⟩; refine ⟨_, rfl, ?_⟩; have n0_ := zad (zbg (taab) hb); clear HB; have HB := n0_; clear n0_; (try clear hb); (try clear hb2); (try clear hk); (try clear hi)) | ((with_reducible refine zbh (f := 88) rfl ?_); refine zbp (some 11) rfl rfl Try.func88 (by kernel_rfl) rfl #[.slice A1 l1.length c1] rfl (taad) ?_; (with_reducible refine (impl_ranking.calls _ _ l1 t1438 _ ?side1 ?side2 A5.out).mono ?_); (case side1 => repeat (first | exact (Kd.C_below HR1.out HB.out) | (with_reducible refine zal ?_ _) | (with_reducible refine zam ?_ _) | (with_reducible refine zan ?_))); (case side2 => exact HC1.out); rintro e w9 ⟨v1439, rfl, ho0, hb⟩; refine ⟨_, rfl, ?_⟩; have n0_ := zad (zbw ho0 (zbm (taab))); have n1_ := zad (zbg (taab) hb); clear HB; have HO1440 := n0_; have HB := n1_; clear n0_ n1_; (try clear hb); (try clear hb2); (try clear hk); (try clear hi); (try clear ho0)) | ((with_reducible refine zbh (f := 88) rfl ?_); refine zbp (some 13) rfl rfl Try.func88 (by kernel_rfl) rfl #[.slice A0 l0.length c0] rfl (taad) ?_; (with_reducible refine (impl_ranking.calls _ _ l0 t1441 _ ?side1 ?side2 A6.out).mono ?_); (case side1 => repeat (first | exact (Kd.C_below HR0.out HB.out) | (with_reducible refine zal ?_ _) | (with_reducible refine zam ?_ _) | (with_reducible refine zan ?_))); (case side2 => exact HC0.out); rintro e w10 ⟨v1442, rfl, ho0, hb⟩; refine ⟨_, rfl, ?_⟩; have n0_ := zad (zcd (tadh) (zcf ho0) hb); have n1_ := zad (zbw (zce ho0 (zcg (tadh))) (zbm (taab))); have n2_ := zad (zbg (taab) hb); clear HO1440 HB; have HO1440 := n0_; have HO1443 := n1_; have HB := n2_; clear n0_ n1_ n2_; (try clear hb); (try clear hb2); (try clear hk); (try clear hi); (try clear ho0); obtain ⟨Ao11, co11, eo11⟩ := zbx HO1440.out; subst eo11; obtain ⟨Ao12, co12, eo12⟩ := zbx HO1443.out; subst eo12) | ((with_reducible refine zbh (f := 129) rfl ?_); refine zbp (some 14) rfl rfl Try.func129 (by kernel_rfl) rfl #[.slice Ao11 t1438.length co11, .slice Ao12 t1441.length co12, .bool true] rfl (taad) ?_; (with_reducible refine (impl_path.calls k (fun k_ => some k_ = (.slice Ao11 t1438.length co11 : Value).ownBlock) _ _ t1438 _ _ t1441 true t1444 _ ?side1 ?side2 ?side3 A7.out).mono ?_); (case side1 => exact Kd.R_V (Kd.R_tight rfl (HO1440.out))); (case side2 => repeat (first | exact (zbf HO1443.out).2.2 | (with_reducible refine zal ?_ _) | (with_reducible refine zam ?_ _) | (with_reducible refine zan ?_))); (case side3 => exact (zbf HO1443.out).2.1); rintro e w13 ⟨v1445, rfl, ho0, hb⟩; refine ⟨_, rfl, ?_⟩; have n0_ := zad (zbv (tadh) hb); have n1_ := zad (zbv (by (with_reducible repeat (first | apply zai | apply zaj | apply zak)); exact HO1443.out) hb); have n2_ := zad (zbw (zbs (ok' := fun k_ => True) ho0 (fun _ hk_ => trivial)) (zbm (taab))); have n3_ := zad (zbg (taab) hb); clear HO1440 HO1443 HB; have HO1440 := n0_; have HO1443 := n1_; have HO1446 := n2_; have HB := n3_; clear n0_ n1_ n2_ n3_; (try clear hb); (try clear hb2); (try clear hk); (try clear hi); (try clear ho0)))
   go_ret2
   exact ⟨_, taaj, by (with_reducible repeat (first | apply zai | apply zaj | apply zak)); exact HO1446.out, taab⟩
 · replace c4 := zbi.mpr c4
   subst c4; have H1 : (some (([] : List (S39)), false)) = some (r1, r2) := by rw [if_neg (show ¬ (false = true) by decide)] at H; exact H
   clear H; have H := H1; clear H1; simp only [zbn, zbr] at H
   obtain ⟨rfl, rfl⟩ := H
   go_enter Try.func73, Try.ntmps73
   go_wp2_with (first | ((with_reducible refine zbh (f := 128) rfl ?_); refine zbp (some 8) rfl rfl Try.func128 (by kernel_rfl) rfl #[.slice A0 l0.length c0, .slice A1 l1.length c1] rfl (taad) ?_; (with_reducible refine (impl_isBetween.calls k _ _ l0 _ _ l1 false _ ?side1 ?side2 ?side3 ?side4 A3.out).mono ?_); (case side1 => exact taga); (case side2 => exact HC0.out); (case side3 => exact tagb); (case side4 => exact HC1.out); rintro e w14 ⟨rfl, hb⟩; refine ⟨_, rfl, ?_⟩; have n0_ := zad (zbg (taab) hb); clear HB; have HB := n0_; clear n0_; (try clear hb); (try clear hb2); (try clear hk); (try clear hi)))
   go_ret2
   exact ⟨_, taaj, tabj, taab⟩
def spec_liSum.l0 : Nat → Int → List Int → Int → Int → Option (Int)
 | 0, _, _, _, _ => none
 | k + 1, x3, x6, x7, x8 => if x8 < x7 then (if 0 ≤ x8 then (if x8 < (x6.length : Int) then (spec_liSum.l0 k (wrap64 (x3 + (rd x6 x8))) x6 x7 (wrap64 (x8 + 1))) else (none)) else (none)) else (some x3)
def spec_liSum.f (k : Nat) (l0 : List Int) : Option (Int) := spec_liSum.l0 k 0 l0 (l0.length : Int) 0
theorem spec_liSum.calls (k : Nat) (A0 : Option Addr) (c0 : Nat) (l0 : List Int) (r : Int) (w : World) (hr0 : Kd.C (Kd.int .i64) w A0 l0.length l0) (hc0 : l0.length ≤ c0) (h : spec_liSum.f k l0 = some r) :
 Calls Try.prog 138 #[.slice A0 l0.length c0] w fun e w' => e = .returned (.int .i64 r) ∧ Drawn0 w w' := by
 have HR0 := zad hr0; have HC0 := zad hc0; clear hr0 hc0; have H : (spec_liSum.l0 k 0 l0 (l0.length : Int) 0) = some r := h
 clear h; have H' := zad H
 clear H; go_enter Try.func138, Try.ntmps138
 go_wp2
 go_loopg [3, 8] k (fun kq v3 v8 w' => ∃ (x3_1 : Int) (x8_1 : Int), v3 = .int .i64 x3_1 ∧ v8 = .int .i64 x8_1 ∧ Aside0 (spec_liSum.l0 kq x3_1 l0 (l0.length : Int) x8_1 = some r) ∧ Aside0 (kq ≤ k) ∧ Drawn0 w w')
 case atStart => exact ⟨(0), (0), (taag), (taag), H', ⟨zch _⟩, taam⟩
 case round =>
  clear H'
  try clear c1
  obtain ⟨x3_1, x8_1, rfl, rfl, HA, HK1, ⟨m1, rfl⟩⟩ := hrel
  cases gk with
  | zero => exact absurd HA.out (by simp [spec_liSum.l0])
  | succ k1 =>
   have H := HA.out
   clear HA; simp only [spec_liSum.l0] at H
   by_cases c2 : x8_1 < (l0.length : Int)
   · rw [if_pos c2] at H
     have c2b0 : decide (x8_1 < (l0.length : Int)) = true := zba c2
     clear c2; by_cases c3 : 0 ≤ x8_1
     · rw [if_pos c3] at H
       have c3b0 : decide (0 ≤ x8_1) = true := zba c3
       clear c3; by_cases c4 : x8_1 < (l0.length : Int)
       · rw [if_pos c4] at H
         have c4b0 : decide (x8_1 < (l0.length : Int)) = true := zba c4
         clear c4; have H' := zad H
         clear H; have p808 : 0 ≤ (x8_1 : Int) := zas (taaa)
         have q808 : x8_1 < (l0.length : Int) := zas (taaa)
         obtain ⟨ad808, e808, hx808_0⟩ := zcc HR0.out x8_1 p808 q808
         cases e808
         replace p808 := eq_true p808
         replace q808 := eq_true q808
         go_wp2
         go_roundg k1
         case measure => have := HK1.out; omega
         case rel => exact ⟨(wrap64 (x3_1 + (rd l0 x8_1))), (wrap64 (x8_1 + 1)), (taag), (taag), H', ⟨taau⟩, taam⟩
       · rw [if_neg c4] at H
         exact absurd H (taae)
     · rw [if_neg c3] at H
       exact absurd H (taae)
   · rw [if_neg c2] at H
     have c2b0 : decide (x8_1 < (l0.length : Int)) = false := zbj c2
     clear c2; obtain rfl := zbe H
     go_wp2
     go_ret
     exact ⟨taag, taam⟩
def spec_liFit.f (k : Nat) (l0 : List Int) (l1 : List Int) : Option (Bool) := if (l0.length : Int) = (l1.length : Int) then ((spec_liSum.f k l0).bind fun t809 => ((spec_liSum.f k l1).bind fun t810 => (some (t809 == t810)))) else (some false)
theorem spec_liFit.calls (k : Nat) (A0 : Option Addr) (c0 : Nat) (l0 : List Int) (A1 : Option Addr) (c1 : Nat) (l1 : List Int) (r : Bool) (w : World) (hr0 : Kd.C (Kd.int .i64) w A0 l0.length l0) (hc0 : l0.length ≤ c0) (hr1 : Kd.C (Kd.int .i64) w A1 l1.length l1) (hc1 : l1.length ≤ c1) (h : spec_liFit.f k l0 l1 = some r) :
 Calls Try.prog 114 #[.slice A0 l0.length c0, .slice A1 l1.length c1] w fun e w' => e = .returned (.bool r) ∧ Drawn0 w w' := by
 have HR0 := zad hr0; have HC0 := zad hc0; clear hr0 hc0; have HR1 := zad hr1; have HC1 := zad hc1; clear hr1 hc1; have H : (if (l0.length : Int) = (l1.length : Int) then ((spec_liSum.f k l0).bind fun t809 => ((spec_liSum.f k l1).bind fun t810 => (some (t809 == t810)))) else (some false)) = some r := h
 clear h; by_cases c3 : (l0.length : Int) = (l1.length : Int)
 · rw [if_pos c3] at H
   have c3b0 : ((l0.length : Int) == (l1.length : Int)) = true := beq_iff_eq.mpr c3
   have c3b1 : ((l0.length : Int) != (l1.length : Int)) = false := bne_eq_false_iff_eq.mpr c3
   have c3b2 : (l0.length == l1.length) = true := by first | simpa using c3 | (simp at c3 ⊢; omega)
   clear c3; replace H := zay.mp H; obtain ⟨t809, A40, H⟩ := H
   replace H : ((spec_liSum.f k l1).bind fun t810 => (some (t809 == t810))) = some r := H
   have A4 := zad A40; clear A40; replace H := zay.mp H; obtain ⟨t810, A50, H⟩ := H
   replace H : (some (t809 == t810)) = some r := H
   have A5 := zad A50; clear A50; obtain rfl := zbe H
   go_enter Try.func114, Try.ntmps114
   go_wp2_with (first | (go_at_call 138; (with_reducible refine (spec_liSum.calls k _ _ l0 t809 _ ?side1 ?side2 A4.out).mono ?_); (case side1 => repeat (first | exact HR0.out | (with_reducible refine zal ?_ _) | (with_reducible refine zam ?_ _) | (with_reducible refine zan ?_))); (case side2 => exact HC0.out); rintro e w' ⟨rfl, ⟨nd, rfl⟩⟩) | (go_at_call 138; (with_reducible refine (spec_liSum.calls k _ _ l1 t810 _ ?side1 ?side2 A5.out).mono ?_); (case side1 => repeat (first | exact HR1.out | (with_reducible refine zal ?_ _) | (with_reducible refine zam ?_ _) | (with_reducible refine zan ?_))); (case side2 => exact HC1.out); rintro e w' ⟨rfl, ⟨nd, rfl⟩⟩))
   go_ret
   exact ⟨taag, taam⟩
 · rw [if_neg c3] at H
   have c3b0 : ((l0.length : Int) == (l1.length : Int)) = false := zbq.mpr c3
   have c3b1 : ((l0.length : Int) != (l1.length : Int)) = true := bne_iff_ne.mpr c3
   have c3b2 : (l0.length == l1.length) = false := by first | simpa using c3 | (simp at c3 ⊢; omega)
   obtain rfl := zbe H
   go_enter Try.func114, Try.ntmps114
   go_wp2
   go_ret
   exact ⟨taag, taam⟩
mutual
def spec_liRank.l0 : Nat → List Int → List Int → Int → Int → Option (List Int)
 | 0, _, _, _, _ => none
 | k + 1, x3, x7, x8, x9 => if x9 < x8 then (if 0 ≤ x9 then (if x9 < (x7.length : Int) then (spec_liRank.l1 k x3 (rd x7 x9) 0 x7 x8 x9) else (none)) else (none)) else (some x3)
def spec_liRank.l1 : Nat → List Int → Int → Int → List Int → Int → Int → Option (List Int)
 | 0, _, _, _, _, _, _ => none
 | k + 1, x3, x5, x6, x7, x8, x9 => if x6 < (x3.length : Int) then (if 0 ≤ x6 then (if (rd x3 x6) ≥ x5 then (spec_liRank.l1 k x3 x5 (wrap64 (x6 + 1)) x7 x8 x9) else (if x6 ≤ (x3.length : Int) then ((spec_l1Own.f (x3.take (x6 : Int).toNat)).bind fun t663 => ((some (([x5] : List Int) : List Int)).bind fun y666 => (if t663.length + y666.length < 17592186044416 then ((some (t663 ++ y666 : List Int)).bind fun y669 => ((some (x3.drop (x6 : Int).toNat : List Int)).bind fun y672 => (if y669.length + y672.length < 17592186044416 then (spec_liRank.l0 k (y669 ++ y672) x7 x8 (wrap64 (x9 + 1))) else (none)))) else (none)))) else (none))) else (none)) else (if 0 ≤ x6 then (if x6 ≤ (x3.length : Int) then ((spec_l1Own.f (x3.take (x6 : Int).toNat)).bind fun t683 => ((some (([x5] : List Int) : List Int)).bind fun y686 => (if t683.length + y686.length < 17592186044416 then ((some (t683 ++ y686 : List Int)).bind fun y689 => ((some (x3.drop (x6 : Int).toNat : List Int)).bind fun y692 => (if y689.length + y692.length < 17592186044416 then (spec_liRank.l0 k (y689 ++ y692) x7 x8 (wrap64 (x9 + 1))) else (none)))) else (none)))) else (none)) else (none))
end
def spec_liRank.f (k : Nat) (l0 : List Int) : Option (List Int) := spec_liRank.l0 k ([] : List Int) l0 (l0.length : Int) 0
def spec_liRank.T8 : Bool × List (List Nat × List Nat) := (true, [([], []), ([], []), ([0, 1], [0, 1]), ([2], [2]), ([], []), ([4], [4]), ([3, 5, 3], [3, 5]), ([], []), ([], []), ([7, 8], [7, 8]), ([6, 9, 6], [6, 9]), ([10, 10, 0, 1, 2, 3, 4, 5, 6, 7, 8, 9, 10], [0, 7, 10])])
def spec_liRank.B8 : List Nat := [0, 0, 3, 7, 0, 16, 63, 0, 0, 384, 1023, 2047]
theorem spec_liRank.tab8 : rtab .any (opsOf Try.f108 8) = spec_liRank.T8 := by kernel_rfl
theorem spec_liRank.bits8 : waitsOk spec_liRank.T8.2 spec_liRank.B8 = true := by kernel_rfl
theorem spec_liRank.calls (k : Nat) (A0 : Option Addr) (c0 : Nat) (l0 : List Int) (r : List Int) (w : World) (hr0 : Kd.C (Kd.int .i64) w A0 l0.length l0) (hc0 : l0.length ≤ c0) (h : spec_liRank.f k l0 = some r) :
 Calls Try.prog 108 #[.slice A0 l0.length c0] w fun e w' => ∃ v0_ : Value, e = .returned (v0_) ∧ Kd.R (Kd.int .i64) 3 w' w.heap.size (fun _ => True) v0_ r ∧ Below w.heap.size w w' := by
 have HR0 := zad hr0; have HC0 := zad hc0; clear hr0 hc0; have HB := zad (Below.refl w.heap.size w)
 have H : (spec_liRank.l0 k ([] : List Int) l0 (l0.length : Int) 0) = some r := h
 clear h; have H' := zad H
 clear H; go_enter Try.func108, Try.ntmps108
 go_wp2
 go_loopg [3, 9] k (fun kq v3 v9 w' => ∃ (x3_1 : List Int) (x9_1 : Int), v9 = .int .i64 x9_1 ∧ Aside0 (spec_liRank.l0 kq x3_1 l0 (l0.length : Int) x9_1 = some r) ∧ Aside0 (kq ≤ k) ∧ Aside0 (Kd.R (Kd.int .i64) 3 w' w.heap.size (fun _ => True) v3 x3_1) ∧ Aside0 (Below w.heap.size w w'))
 case atStart => exact ⟨(([] : List Int)), (0), (taag), H', ⟨zch _⟩, ⟨tabj⟩, ⟨taab⟩⟩
 case round =>
  clear H'
  try clear c1
  obtain ⟨x3_1, x9_1, rfl, HA, HK1, HO_3, HB⟩ := hrel
  cases gk with
  | zero => exact absurd HA.out (by simp [spec_liRank.l0])
  | succ k1 =>
   have H := HA.out
   clear HA; simp only [spec_liRank.l0] at H
   by_cases c2 : x9_1 < (l0.length : Int)
   · rw [if_pos c2] at H
     have c2b0 : decide (x9_1 < (l0.length : Int)) = true := zba c2
     clear c2; by_cases c3 : 0 ≤ x9_1
     · rw [if_pos c3] at H
       have c3b0 : decide (0 ≤ x9_1) = true := zba c3
       clear c3; by_cases c4 : x9_1 < (l0.length : Int)
       · rw [if_pos c4] at H
         have c4b0 : decide (x9_1 < (l0.length : Int)) = true := zba c4
         clear c4; have H' := zad H
         clear H; have p657 : 0 ≤ (x9_1 : Int) := zas (taaa)
         have q657 : x9_1 < (l0.length : Int) := zas (taaa)
         obtain ⟨ad657, e657, hx657_0⟩ := zcc HR0.out x9_1 p657 q657
         cases e657
         replace hx657_0 := (HB.out.cell (zaz w _ hx657_0)).trans hx657_0
         replace p657 := eq_true p657
         replace q657 := eq_true q657
         go_wp2
         go_loopg [6] k1 (fun kq v6 w' => ∃ (x6_2 : Int), v6 = .int .i64 x6_2 ∧ Aside0 (spec_liRank.l1 kq x3_1 (rd l0 x9_1) x6_2 l0 (l0.length : Int) x9_1 = some r) ∧ Aside0 (kq ≤ k1) ∧ Aside0 (Kd.R (Kd.int .i64) 3 w' w.heap.size (fun _ => True) u3 x3_1) ∧ Aside0 (Below w.heap.size w w'))
         case atStart => exact ⟨(0), (taag), H', ⟨zch _⟩, ⟨taaq⟩, ⟨taab⟩⟩
         case round =>
          clear H'
          try clear c1
          try clear c2
          try clear c2b0
          try clear p2
          try clear c3
          try clear c3b0
          try clear c4
          try clear c4b0
          try clear hx657_0
          try clear p657
          try clear q657
          obtain ⟨x6_2, rfl, HA, HK2, HO_3, HB⟩ := hrel
          cases gk with
          | zero => exact absurd HA.out (by simp [spec_liRank.l1])
          | succ k2 =>
           have H := HA.out
           clear HA; simp only [spec_liRank.l1] at H
           by_cases c5 : x6_2 < (x3_1.length : Int)
           · rw [if_pos c5] at H
             have c5b0 : decide (x6_2 < (x3_1.length : Int)) = true := zba c5
             clear c5; by_cases c6 : 0 ≤ x6_2
             · rw [if_pos c6] at H
               have c6b0 : decide (0 ≤ x6_2) = true := zba c6
               clear c6; by_cases c7 : (rd x3_1 x6_2) ≥ (rd l0 x9_1)
               · rw [if_pos c7] at H
                 have c7b0 : decide ((rd l0 x9_1) ≤ (rd x3_1 x6_2)) = true := zba c7
                 clear c7; have H' := zad H
                 clear H; obtain ⟨Ao8, co8, eo8⟩ := zbx HO_3.out
                 subst eo8; have p658 : 0 ≤ (x6_2 : Int) := zas (taaa)
                 have q658 : x6_2 < (x3_1.length : Int) := zas (taaa)
                 obtain ⟨ad658, e658, hx658_0⟩ := zcc (zbf HO_3.out).2.2 x6_2 p658 q658
                 cases e658
                 replace p658 := eq_true p658
                 replace q658 := eq_true q658
                 go_wp2
                 go_roundg k2
                 case measure => have := HK1.out; have := HK2.out; omega
                 case rel => exact ⟨(wrap64 (x6_2 + 1)), (taag), H', ⟨tacd⟩, ⟨taaq⟩, ⟨taab⟩⟩
               · rw [if_neg c7] at H
                 have c7b0 : decide ((rd l0 x9_1) ≤ (rd x3_1 x6_2)) = false := zbj c7
                 clear c7; have c9b0 := eq_true (zas (taaa) : 0 ≤ x6_2)
                 by_cases c10 : x6_2 ≤ (x3_1.length : Int)
                 · rw [if_pos c10] at H
                   have c10b0 := eq_true c10; have c10b1 : decide (x6_2 ≤ (x3_1.length : Int)) = true := zba c10
                   clear c10; obtain ⟨y659, hy659⟩ : ∃ y_ : List Int, y_ = (x3_1.take (x6_2 : Int).toNat) := ⟨_, rfl⟩
                   replace H : ((spec_l1Own.f y659).bind fun t663 => ((some (([(rd l0 x9_1)] : List Int) : List Int)).bind fun y666 => (if t663.length + y666.length < 17592186044416 then ((some (t663 ++ y666 : List Int)).bind fun y669 => ((some (x3_1.drop (x6_2 : Int).toNat : List Int)).bind fun y672 => (if y669.length + y672.length < 17592186044416 then (spec_liRank.l0 k2 (y669 ++ y672) l0 (l0.length : Int) (wrap64 (x9_1 + 1))) else (none)))) else (none)))) = some r := by first | (rw [hy659]; with_reducible exact H) | (have H2_ := (zbd _ _).symm.trans H; rw [hy659]; with_reducible exact H2_) | (have H2_ := (zbd _ _).symm.trans H; with_reducible exact H2_) | with_reducible exact H | (rw [hy659]; exact H) | exact H
                   have Ny659 := zad hy659; clear hy659; replace H := zay.mp H; obtain ⟨t663, A110, H⟩ := H
                   replace H : ((some (([(rd l0 x9_1)] : List Int) : List Int)).bind fun y666 => (if t663.length + y666.length < 17592186044416 then ((some (t663 ++ y666 : List Int)).bind fun y669 => ((some (x3_1.drop (x6_2 : Int).toNat : List Int)).bind fun y672 => (if y669.length + y672.length < 17592186044416 then (spec_liRank.l0 k2 (y669 ++ y672) l0 (l0.length : Int) (wrap64 (x9_1 + 1))) else (none)))) else (none))) = some r := H
                   have A11 := zad A110; clear A110; obtain ⟨y666, hy666⟩ : ∃ y_ : List Int, y_ = (([(rd l0 x9_1)] : List Int)) := ⟨_, rfl⟩
                   replace H : (if t663.length + y666.length < 17592186044416 then ((some (t663 ++ y666 : List Int)).bind fun y669 => ((some (x3_1.drop (x6_2 : Int).toNat : List Int)).bind fun y672 => (if y669.length + y672.length < 17592186044416 then (spec_liRank.l0 k2 (y669 ++ y672) l0 (l0.length : Int) (wrap64 (x9_1 + 1))) else (none)))) else (none)) = some r := by first | (rw [hy666]; with_reducible exact H) | (have H2_ := (zbd _ _).symm.trans H; rw [hy666]; with_reducible exact H2_) | (have H2_ := (zbd _ _).symm.trans H; with_reducible exact H2_) | with_reducible exact H | (rw [hy666]; exact H) | exact H
                   have Ny666 := zad hy666; clear hy666; by_cases c12 : t663.length + y666.length < 17592186044416
                   · rw [if_pos c12] at H
                     have LMc12 := zad c12; clear c12; obtain ⟨y669, hy669⟩ : ∃ y_ : List Int, y_ = (t663 ++ y666) := ⟨_, rfl⟩
                     replace H : ((some (x3_1.drop (x6_2 : Int).toNat : List Int)).bind fun y672 => (if y669.length + y672.length < 17592186044416 then (spec_liRank.l0 k2 (y669 ++ y672) l0 (l0.length : Int) (wrap64 (x9_1 + 1))) else (none))) = some r := by first | (rw [hy669]; with_reducible exact H) | (have H2_ := (zbd _ _).symm.trans H; rw [hy669]; with_reducible exact H2_) | (have H2_ := (zbd _ _).symm.trans H; with_reducible exact H2_) | with_reducible exact H | (rw [hy669]; exact H) | exact H
                     have Ny669 := zad hy669; clear hy669; have c13b0 := eq_true (zas (taaa) : 0 ≤ x6_2)
                     have c14b0 := eq_true (zas (taaa) : x6_2 ≤ (x3_1.length : Int))
                     obtain ⟨y672, hy672⟩ : ∃ y_ : List Int, y_ = (x3_1.drop (x6_2 : Int).toNat) := ⟨_, rfl⟩
                     replace H : (if y669.length + y672.length < 17592186044416 then (spec_liRank.l0 k2 (y669 ++ y672) l0 (l0.length : Int) (wrap64 (x9_1 + 1))) else (none)) = some r := by first | (rw [hy672]; with_reducible exact H) | (have H2_ := (zbd _ _).symm.trans H; rw [hy672]; with_reducible exact H2_) | (have H2_ := (zbd _ _).symm.trans H; with_reducible exact H2_) | with_reducible exact H | (rw [hy672]; exact H) | exact H
                     have Ny672 := zad hy672; clear hy672; by_cases c15 : y669.length + y672.length < 17592186044416
                     · rw [if_pos c15] at H
                       have LMc15 := zad c15; clear c15; obtain ⟨y676, hy676⟩ : ∃ y_ : List Int, y_ = (y669 ++ y672) := ⟨_, rfl⟩
                       replace H : (spec_liRank.l0 k2 y676 l0 (l0.length : Int) (wrap64 (x9_1 + 1))) = some r := by first | (rw [hy676]; with_reducible exact H) | (have H2_ := (zbd _ _).symm.trans H; rw [hy676]; with_reducible exact H2_) | (have H2_ := (zbd _ _).symm.trans H; with_reducible exact H2_) | with_reducible exact H | (rw [hy676]; exact H) | exact H
                       have Ny676 := zad hy676; clear hy676; have H' := zad H
                       clear H; obtain ⟨Ao16, co16, eo16⟩ := zbx HO_3.out
                       subst eo16; have p658 : 0 ≤ (x6_2 : Int) := zas (taaa)
                       have q658 : x6_2 < (x3_1.length : Int) := zas (taaa)
                       obtain ⟨ad658, e658, hx658_0⟩ := zcc (zbf HO_3.out).2.2 x6_2 p658 q658
                       cases e658
                       replace p658 := eq_true p658
                       replace q658 := eq_true q658
                       try go_wp2
                       have n0_ := zad (zak HO_3.out)
                       have n1_ := zad (zaf HB.out)
                       clear HO_3 HB; have HO_3 := n0_; have HB := n1_; clear n0_ n1_; have q18 : (x6_2 : Int) ≤ ((x3_1.length : Int) : Int) := zas (taaa)
                       obtain ⟨i018, hi018, _, hsz18, _⟩ := info_parts info3
                       have hroom18 : x3_1.length ≤ co16 := (zbf HO_3.out).2.1
                       have hC18 : Kd.C (Kd.int .i64) _ (some ad658) x3_1.length x3_1 := (zbf HO_3.out).2.2
                       have hcut18 := cut_to (P := Try.prog) 26 3 .i64 Try.underlying26 hi018 (some ad658) x3_1.length co16 x6_2 (zas (taaa)) q18 hroom18
                       have hr18 := Kd.C_take (m := (x6_2 : Int).toNat) hC18 (by omega)
                       have hy18 : y659.length = (x6_2 : Int).toNat := (by rw [Ny659.out, zax]; omega)
                       rw [← Ny659.out] at hr18
                       rw [← hy18] at hcut18
                       have HR662 := zad hr18; have HC662 := zad (show y659.length ≤ co16 from by omega)
                       clear hr18 hC18 hroom18 hi018 hsz18; have KY18 := zad hy18; clear hy18; have KL18 := zad (show (x6_2 : Int).toNat ≤ x3_1.length from by omega)
                       replace q18 := eq_true q18
                       have q19 : (x6_2 : Int) ≤ ((x3_1.length : Int) : Int) := zas (taaa)
                       obtain ⟨i019, hi019, _, hsz19, _⟩ := info_parts info3
                       have hroom19 : x3_1.length ≤ co16 := (zbf HO_3.out).2.1
                       have hC19 : Kd.C (Kd.int .i64) _ (some ad658) x3_1.length x3_1 := (zbf HO_3.out).2.2
                       have q019 : (0 : Int) ≤ (x6_2 : Int) := zas (taaa)
                       have hcut19 := cut_from (P := Try.prog) 26 3 .i64 Try.underlying26 hi019 1 hsz19 (some ad658) x3_1.length co16 x6_2 q019 q19
                       have hr19 := Kd.C_drop (m := (x6_2 : Int).toNat) (c := co16) hC19 (by omega) hroom19
                       obtain ⟨A19, hA19⟩ : ∃ A1, A1 = (if co16 = (x6_2 : Int).toNat then (some ad658) else ((some ad658) : Option Addr).map (·.add ((x6_2 : Int).toNat * 1))) := ⟨_, rfl⟩
                       obtain ⟨c19, hc19⟩ : ∃ c1, c1 = co16 - (x6_2 : Int).toNat := ⟨_, rfl⟩
                       have hy19 : y672.length = x3_1.length - (x6_2 : Int).toNat := (by rw [Ny672.out, zaw] <;> omega)
                       rw [show (x3_1).drop (x6_2 : Int).toNat = y672 from Ny672.out.symm] at hr19
                       replace hr19 : Kd.C (Kd.int .i64) _ A19 y672.length y672 := (by rw [hA19]; exact hr19)
                       rw [← hy19, ← hA19, ← hc19] at hcut19
                       have HR675 := zad hr19; have HC675 := zad (show y672.length ≤ c19 from by rw [hy19, hc19]; exact Nat.sub_le_sub_right hroom19 _)
                       clear hr19 hC19 hroom19 hi019 hsz19 hc19; have KY19 := zad hy19; have KA19 := zad hA19; clear hy19 hA19; have KL19 := zad (show (x6_2 : Int).toNat ≤ x3_1.length from by omega)
                       replace q19 := eq_true q19
                       refine start_ (n := 12) (S := fun w' => True) (ds := []) #[false, false, false, false, false, false, false, false, false, false, false, false] (by kernel_rfl) rfl rfl trivial (fun hHeld => ?_); refine with_tabW spec_liRank.tab8 spec_liRank.bits8 (fun HT_ HW_ => ?_)
                       generalize wr.drew = w17 at HO_3 HB HR662 HR675 hHeld ⊢
                       refine pure_ (i := 0) (N := some 27) (v := ?_) (a' := ?_) #[true, false, false, false, false, false, false, false, false, false, false, false] rfl rfl (zca HT_.out (by kernel_rfl)) (fun _ _ _ h => h) (Or.inl ⟨by rfl, ?_⟩) ?_ ?_
                       rotate_left
                       · intro w'
                         go_simp; with_reducible rfl
                       rotate_left
                       · simp only [Act.put, zaa, zab, zac, zby, zbz]
                         rfl
                       refine pure_ (i := 1) (N := some 28) (v := ?_) (a' := ?_) #[true, true, false, false, false, false, false, false, false, false, false, false] rfl rfl (zca HT_.out (by kernel_rfl)) (fun _ _ _ h => h) (Or.inl ⟨by rfl, ?_⟩) ?_ ?_
                       rotate_left
                       · intro w'
                         go_simp; with_reducible rfl
                       rotate_left
                       · simp only [Act.put, zaa, zab, zac, zby, zbz]
                         rfl
                       refine pure_ (i := 2) (N := some 29) (v := ?_) (a' := ?_) #[true, true, true, false, false, false, false, false, false, false, false, false] rfl rfl (zca HT_.out (by kernel_rfl)) (fun _ _ _ h => h) (Or.inl ⟨by rfl, ?_⟩) ?_ ?_
                       rotate_left
                       · intro w'
                         go_simp; with_reducible rfl
                       rotate_left
                       · simp only [Act.put, zaa, zab, zac, zby, zbz]
                         rfl
                       refine pure_ (i := 4) (N := some 31) (v := ?_) (a' := ?_) #[true, true, true, false, true, false, false, false, false, false, false, false] rfl rfl (zca HT_.out (by kernel_rfl)) (fun _ _ _ h => h) (Or.inl ⟨by rfl, ?_⟩) ?_ ?_
                       rotate_left
                       · intro w'
                         go_simp; with_reducible rfl
                       rotate_left
                       · simp only [Act.put, zaa, zab, zac, zby, zbz]
                         rfl
                       refine pure_ (i := 7) (N := some 34) (v := ?_) (a' := ?_) #[true, true, true, false, true, false, false, true, false, false, false, false] rfl rfl (zca HT_.out (by kernel_rfl)) (fun _ _ _ h => h) (Or.inl ⟨by rfl, ?_⟩) ?_ ?_
                       rotate_left
                       · intro w'
                         go_simp; with_reducible rfl
                       rotate_left
                       · simp only [Act.put, zaa, zab, zac, zby, zbz]
                         rfl
                       refine pure_ (i := 8) (N := some 35) (v := ?_) (a' := ?_) #[true, true, true, false, true, false, false, true, true, false, false, false] rfl rfl (zca HT_.out (by kernel_rfl)) (fun _ _ _ h => h) (Or.inl ⟨by rfl, ?_⟩) ?_ ?_
                       rotate_left
                       · intro w'
                         go_simp; with_reducible rfl
                       rotate_left
                       · simp only [Act.put, zaa, zab, zac, zby, zbz]
                         rfl
                       refine pure_ (i := 9) (N := some 36) (v := ?_) (a' := ?_) #[true, true, true, false, true, false, false, true, true, true, false, false] rfl rfl (zca HT_.out (by kernel_rfl)) (fun _ _ _ h => h) (Or.inl ⟨by rfl, ?_⟩) ?_ ?_
                       rotate_left
                       · intro w'
                         go_simp; with_reducible rfl
                       rotate_left
                       · simp only [Act.put, zaa, zab, zac, zby, zbz]
                         rfl
                       refine join_ (σ := Value × Value) 3 #[true, true, true, true, true, true, false, true, true, true, false, false] (fun s_ => [(30, s_.1), (32, s_.2)]) (fun s_ w' => (Kd.R (Kd.int .i64) 3 w' w.heap.size (fun k_ => some k_ ≠ (s_.2 : Value).ownBlock ∧ some k_ ≠ (.slice (some ad658) x3_1.length co16 : Value).ownBlock) s_.1 t663) ∧ (Kd.R (Kd.int .i64) 3 w' w.heap.size (fun k_ => some k_ ≠ (s_.1 : Value).ownBlock ∧ some k_ ≠ (.slice (some ad658) x3_1.length co16 : Value).ownBlock) s_.2 y666) ∧ (Kd.R (Kd.int .i64) 3 w' w.heap.size (fun k_ => some k_ ≠ (s_.1 : Value).ownBlock ∧ some k_ ≠ (s_.2 : Value).ownBlock) (.slice (some ad658) x3_1.length co16) x3_1) ∧ (Below w.heap.size w w')) ?_ ?_
                       rotate_left
                       · intro hCont
                         refine two_ (i := 3) (j := 5) (Ni := some 30) (Nj := some 32) #[true, true, true, true, true, false, false, true, true, true, false, false] #[true, true, true, false, true, true, false, true, true, true, false, false] rfl rfl rfl rfl (two_of HT_.out (by kernel_rfl)) (by decide) (by decide) (fun K hK => ?_) (fun K hK => ?_)
                         · skip
                           refine goes_ Try.func111 (by kernel_rfl) rfl #[.slice (some ad658) y659.length co16] (by rfl) rfl rfl (taad) ?_
                           with_reducible refine (spec_l1Own.calls _ _ y659 t663 _ ?side1 ?side2 A11.out).mono ?_
                           (case side1 => exact tagj)
                           (case side2 => exact HC662.out)
                           rintro e w20 ⟨v664, rfl, ho0, hb⟩
                           refine ⟨_, rfl, ?_⟩
                           have n0_ := zad (zcd (taaq) (zcf ho0) hb)
                           have n1_ := zad (zbw (zce ho0 (zcg (taaq))) (zbm (taab)))
                           have n2_ := zad (Kd.C_below (tabq) hb)
                           have n3_ := zad (Kd.C_below (tacs) hb)
                           have n4_ := zad (zbg (taab) hb)
                           clear HO_3 HR662 HR675 HB; have HO_3 := n0_; have HO665 := n1_; have HR662 := n2_; have HR675 := n3_; have HB := n4_; clear n0_ n1_ n2_ n3_ n4_; (try clear hb); (try clear hb2); (try clear hk); (try clear hi); (try clear ho0); refine hK.out _ _ trivial (fun hHeld => ?_)
                           clear hK K; refine norm_ (a' := ?_) ?_ ?_
                           rotate_left
                           · show Act.put _ (some 30) _ = _
                             simp only [Act.put, zaa, zab, zac, zby, zbz]
                             rfl
                           refine one_ (i := 5) (N := some 32) #[true, true, true, true, true, true, false, true, true, true, false, false] rfl rfl (one_of HT_.out (by kernel_rfl)) (by decide) (fun K hK => ?_)
                           refine Kd.R_lit_step (Kd.int .i64) _ 3 ?hg (N := 32) ?hd (xs := ([(rd l0 x9_1)] : List Int)) (inner := [.int .i64 (rd l0 x9_1)]) (ok := fun _ => True) (okp := fun _ => True) ?hr ?hp (fun _ hk => hk) trivial (Below.refl _ _) (zch _) (taae) ?_; (case hd => rfl); (case hg => rfl); (case hr => first | (go_simp; done) | (go_simp; rfl)); (case hp => exact (Reps.one (show Kd.M (Kd.int .i64) _ _ _ (rd l0 x9_1) [.int .i64 (rd l0 x9_1)] from rfl) (Reps.none _ _)))
                           intro v667 w21 ho22 hb hg_ hnew_
                           clear hg_ hnew_; (first | rw [← Ny666.out] at ho22 | (simp only [Int.reduceToNat] at ho22; rw [← Ny666.out] at ho22))
                           have n0_ := zad (zcd (taaq) (zcf ho22) hb)
                           have n1_ := zad (zcd (taeh) (zcf ho22) hb)
                           have n2_ := zad (zbw (zce (zce ho22 (zcg (taaq))) (zcg (taeh))) (zbm (taab)))
                           have n3_ := zad (Kd.C_below (tabq) hb)
                           have n4_ := zad (Kd.C_below (tacs) hb)
                           have n5_ := zad (zbg (taab) hb)
                           clear HO_3 HO665 HR662 HR675 HB; have HO_3 := n0_; have HO665 := n1_; have HO668 := n2_; have HR662 := n3_; have HR675 := n4_; have HB := n5_; clear n0_ n1_ n2_ n3_ n4_ n5_ hb ho22; refine hK.out _ _ trivial (fun hHeld => ?_)
                           clear hK K; refine norm_ (a' := ?_) ?_ ?_
                           rotate_left
                           · show Act.put _ (some 32) _ = _
                             simp only [Act.put, zaa, zab, zac, zby, zbz]
                             rfl
                           exact norm_ (tact) (hCont (v664, v667) _ ⟨(taei), (taej), (taek), (taab)⟩)
                         · skip
                           refine Kd.R_lit_step (Kd.int .i64) _ 3 ?hg (N := 32) ?hd (xs := ([(rd l0 x9_1)] : List Int)) (inner := [.int .i64 (rd l0 x9_1)]) (ok := fun _ => True) (okp := fun _ => True) ?hr ?hp (fun _ hk => hk) trivial (Below.refl _ _) (zch _) (taae) ?_; (case hd => rfl); (case hg => rfl); (case hr => first | (go_simp; done) | (go_simp; rfl)); (case hp => exact (Reps.one (show Kd.M (Kd.int .i64) _ _ _ (rd l0 x9_1) [.int .i64 (rd l0 x9_1)] from rfl) (Reps.none _ _)))
                           intro v667 w20 ho21 hb hg_ hnew_
                           clear hg_ hnew_; (first | rw [← Ny666.out] at ho21 | (simp only [Int.reduceToNat] at ho21; rw [← Ny666.out] at ho21))
                           have n0_ := zad (zcd (taaq) (zcf ho21) hb)
                           have n1_ := zad (zbw (zce ho21 (zcg (taaq))) (zbm (taab)))
                           have n2_ := zad (Kd.C_below (tabq) hb)
                           have n3_ := zad (Kd.C_below (tacs) hb)
                           have n4_ := zad (zbg (taab) hb)
                           clear HO_3 HR662 HR675 HB; have HO_3 := n0_; have HO668 := n1_; have HR662 := n2_; have HR675 := n3_; have HB := n4_; clear n0_ n1_ n2_ n3_ n4_ hb ho21; refine hK.out _ _ trivial (fun hHeld => ?_)
                           clear hK K; refine norm_ (a' := ?_) ?_ ?_
                           rotate_left
                           · show Act.put _ (some 32) _ = _
                             simp only [Act.put, zaa, zab, zac, zby, zbz]
                             rfl
                           refine one_ (i := 3) (N := some 30) #[true, true, true, true, true, true, false, true, true, true, false, false] rfl rfl (one_of HT_.out (by kernel_rfl)) (by decide) (fun K hK => ?_)
                           refine goes_ Try.func111 (by kernel_rfl) rfl #[.slice (some ad658) y659.length co16] (by rfl) rfl rfl (taad) ?_
                           with_reducible refine (spec_l1Own.calls _ _ y659 t663 _ ?side1 ?side2 A11.out).mono ?_
                           (case side1 => exact tagj)
                           (case side2 => exact HC662.out)
                           rintro e w22 ⟨v664, rfl, ho0, hb⟩
                           refine ⟨_, rfl, ?_⟩
                           have n0_ := zad (zcd (taaq) (zcf ho0) hb)
                           have n1_ := zad (zcd (tace) (zcf ho0) hb)
                           have n2_ := zad (zbw (zce (zce ho0 (zcg (taaq))) (zcg (tace))) (zbm (taab)))
                           have n3_ := zad (Kd.C_below (tabq) hb)
                           have n4_ := zad (Kd.C_below (tacs) hb)
                           have n5_ := zad (zbg (taab) hb)
                           clear HO_3 HO668 HR662 HR675 HB; have HO_3 := n0_; have HO668 := n1_; have HO665 := n2_; have HR662 := n3_; have HR675 := n4_; have HB := n5_; clear n0_ n1_ n2_ n3_ n4_ n5_; (try clear hb); (try clear hb2); (try clear hk); (try clear hi); (try clear ho0); refine hK.out _ _ trivial (fun hHeld => ?_)
                           clear hK K; refine norm_ (a' := ?_) ?_ ?_
                           rotate_left
                           · show Act.put _ (some 30) _ = _
                             simp only [Act.put, zaa, zab, zac, zby, zbz]
                             rfl
                           exact norm_ (tact) (hCont (v664, v667) _ ⟨(taei), (taej), (tael), (taab)⟩)
                       rintro ⟨v664, v667⟩ w23 ⟨h0_, h1_, h2_, h3_⟩
                       have n0_ : Aside0 (Kd.R (Kd.int .i64) 3 w23 w.heap.size (fun k_ => some k_ ≠ (v667 : Value).ownBlock ∧ some k_ ≠ (.slice (some ad658) x3_1.length co16 : Value).ownBlock) v664 t663) := ⟨h0_⟩
                       have n1_ : Aside0 (Kd.R (Kd.int .i64) 3 w23 w.heap.size (fun k_ => some k_ ≠ (v664 : Value).ownBlock ∧ some k_ ≠ (.slice (some ad658) x3_1.length co16 : Value).ownBlock) v667 y666) := ⟨h1_⟩
                       have n2_ : Aside0 (Kd.R (Kd.int .i64) 3 w23 w.heap.size (fun k_ => some k_ ≠ (v664 : Value).ownBlock ∧ some k_ ≠ (v667 : Value).ownBlock) (.slice (some ad658) x3_1.length co16) x3_1) := ⟨h2_⟩
                       have n3_ : Aside0 (Below w.heap.size w w23) := ⟨h3_⟩
                       clear HO_3 HB h0_ h1_ h2_ h3_; have HO665 := n0_; have HO668 := n1_; have HO_3 := n2_; have HB := n3_; clear n0_ n1_ n2_ n3_; have hHeld := trivial
                       obtain ⟨Ao25, co25, eo25⟩ := zbx HO668.out
                       (first | subst eo25 | (injection eo25 with f1_ f2_ f3_; have f4_ := f1_.symm; have f5_ := f3_.symm; clear f1_ f2_ f3_; subst f4_; subst f5_))
                       refine norm_ (a' := ?_) ?_ ?_
                       rotate_left
                       · simp only [putAll, Act.put, zaa, zab, zac]
                         rfl
                       refine one_ (i := 6) (N := some 33) #[true, true, true, true, true, true, true, true, true, true, false, false] rfl rfl (one_of HT_.out (by kernel_rfl)) (by decide) (fun K hK => ?_)
                       refine Kd.R_append_rows_step (Kd.int .i64) (w0 := w) w.heap.size (by rfl) (.tmp 30) (.tmp 32) 26 3 (.int .i64 0) 8 rfl Try.underlying26 info3 rfl (by decide) (by omega) v664 t663 y666 _ _ _ (fun k_ => some k_ ≠ (.slice (some ad658) x3_1.length co16 : Value).ownBlock ∧ some k_ ≠ (.slice Ao25 y666.length co25 : Value).ownBlock) (fun _ => False) rfl rfl ?aO ?aR (fun _ _ h => h) (fun _ h => h.elim) ?aF ?aB ?aS ?aL ?_
                       (case aR => repeat (first | exact (zbf HO668.out).2.2 | (with_reducible refine zal ?_ _) | (with_reducible refine zam ?_ _) | (with_reducible refine zan ?_)))
                       (case aB => exact (taab))
                       (case aF => exact (fun k_ hk => ⟨Kd.fresh' (zcg (taaq)) k_ hk, Kd.fresh' (zcg (tace)) k_ hk⟩))
                       (case aO => exact (by (with_reducible repeat (first | apply zai | apply zaj | apply zak)); exact zbs HO665.out (fun _ hk => ⟨hk.2, hk.1⟩)))
                       (case aS => exact (zbm (taab)))
                       (case aL => have := LMc12.out; omega)
                       intro v670 w24 ho hb hg hat
                       rw [← Ny669.out] at ho
                       have n0_ := zad (Kd.R_after (ok := (fun k_ => some k_ ≠ (.slice Ao25 y666.length co25 : Value).ownBlock)) (taem) hg hat)
                       have n1_ := zad (Kd.R_after (ok := (fun k_ => some k_ ≠ (.slice (some ad658) x3_1.length co16 : Value).ownBlock)) (by (with_reducible repeat (first | apply zai | apply zaj | apply zak)); exact zbs HO668.out (fun _ hk => ⟨hk.2, hk.1⟩)) hg hat)
                       have n2_ := zad (hb)
                       have n3_ := zad (ho)
                       clear HO_3 HO668 HB HO665; have HO_3 := n0_; have HO668 := n1_; have HB := n2_; have HO671 := n3_; clear n0_ n1_ n2_ n3_ ho hb hg hat; refine hK.out _ _ trivial (fun hHeld => ?_)
                       clear hK K; refine norm_ (a' := ?_) ?_ ?_
                       rotate_left
                       · show Act.put _ (some 33) _ = _
                         simp only [Act.put, zaa, zab, zac, zby, zbz]
                         rfl
                       refine one_ (i := 10) (N := some 37) #[true, true, true, true, true, true, true, true, true, true, true, false] rfl rfl (one_of HT_.out (by kernel_rfl)) (by decide) (fun K hK => ?_)
                       refine Kd.R_append_rows_step (Kd.int .i64) (w0 := w) w.heap.size (by rfl) (.tmp 33) (.tmp 36) 26 3 (.int .i64 0) 8 rfl Try.underlying26 info3 rfl (by decide) (by omega) v670 y669 y672 _ _ _ (fun k_ => some k_ ≠ (.slice (some ad658) x3_1.length co16 : Value).ownBlock ∧ some k_ ≠ (.slice Ao25 y666.length co25 : Value).ownBlock) (fun _ => False) rfl rfl ?aO ?aR (fun _ _ h => h) (fun _ h => h.elim) ?aF ?aB ?aS ?aL ?_
                       (case aR => repeat (first | exact (show Kd.C (Kd.int .i64) _ A19 y672.length y672 from by rw [Ny672.out, KA19.out]; exact Kd.C_drop (m := (x6_2 : Int).toNat) (c := co16) ((zbf HO_3.out).2.2) KL19.out ((zbf HO_3.out).2.1)) | (with_reducible refine zal ?_ _) | (with_reducible refine zam ?_ _) | (with_reducible refine zan ?_)))
                       (case aB => exact (taab))
                       (case aF => exact (fun k_ hk => ⟨Kd.fresh' (zcg (taaq)) k_ hk, Kd.fresh' (zcg (tace)) k_ hk⟩))
                       (case aO => exact (by (with_reducible repeat (first | apply zai | apply zaj | apply zak)); exact HO671.out))
                       (case aS => exact (zbm (taab)))
                       (case aL => have := LMc15.out; omega)
                       intro v677 w26 ho hb hg hat
                       rw [← Ny676.out] at ho
                       have n0_ := zad (Kd.R_after (ok := (fun k_ => some k_ ≠ (.slice Ao25 y666.length co25 : Value).ownBlock)) (taaq) hg hat)
                       have n1_ := zad (Kd.R_after (ok := (fun k_ => some k_ ≠ (.slice (some ad658) x3_1.length co16 : Value).ownBlock)) (tace) hg hat)
                       have n2_ := zad (hb)
                       have n3_ := zad (ho)
                       clear HO_3 HO668 HB HO671; have HO_3 := n0_; have HO668 := n1_; have HB := n2_; have HO678 := n3_; clear n0_ n1_ n2_ n3_ ho hb hg hat; refine hK.out _ _ trivial (fun hHeld => ?_)
                       clear hK K; refine norm_ (a' := ?_) ?_ ?_
                       rotate_left
                       · show Act.put _ (some 37) _ = _
                         simp only [Act.put, zaa, zab, zac, zby, zbz]
                         rfl
                       refine pure_ (i := 11) (N := some 3) (v := ?_) (a' := ?_) #[true, true, true, true, true, true, true, true, true, true, true, true] rfl rfl (zca HT_.out (by kernel_rfl)) (fun _ _ _ h => h) (Or.inl ⟨by rfl, ?_⟩) ?_ ?_
                       rotate_left
                       · intro w'
                         go_simp; with_reducible rfl
                       rotate_left
                       · simp only [Act.put, zaa, zab, zac, zby, zbz]
                         rfl
                       refine done_ (done_of HT_.out (by kernel_rfl)) ?_
                       try go_wp2
                       go_roundg k2
                       case measure => have := HK1.out; have := HK2.out; omega
                       case rel => exact ⟨(y676), (wrap64 (x9_1 + 1)), (taag), H', ⟨tacd⟩, ⟨by (with_reducible repeat (first | apply zai | apply zaj | apply zak)); exact zbs HO678.out (fun _ hk => trivial)⟩, ⟨taab⟩⟩
                     · rw [if_neg c15] at H
                       exact absurd H (taae)
                   · rw [if_neg c12] at H
                     exact absurd H (taae)
                 · rw [if_neg c10] at H
                   exact absurd H (taae)
             · rw [if_neg c6] at H
               exact absurd H (taae)
           · rw [if_neg c5] at H
             have c5b0 : decide (x6_2 < (x3_1.length : Int)) = false := zbj c5
             clear c5; by_cases c27 : 0 ≤ x6_2
             · rw [if_pos c27] at H
               have c27b0 := eq_true c27; have c27b1 : decide (0 ≤ x6_2) = true := zba c27
               clear c27; by_cases c28 : x6_2 ≤ (x3_1.length : Int)
               · rw [if_pos c28] at H
                 have c28b0 := eq_true c28; have c28b1 : decide (x6_2 ≤ (x3_1.length : Int)) = true := zba c28
                 clear c28; obtain ⟨y679, hy679⟩ : ∃ y_ : List Int, y_ = (x3_1.take (x6_2 : Int).toNat) := ⟨_, rfl⟩
                 replace H : ((spec_l1Own.f y679).bind fun t683 => ((some (([(rd l0 x9_1)] : List Int) : List Int)).bind fun y686 => (if t683.length + y686.length < 17592186044416 then ((some (t683 ++ y686 : List Int)).bind fun y689 => ((some (x3_1.drop (x6_2 : Int).toNat : List Int)).bind fun y692 => (if y689.length + y692.length < 17592186044416 then (spec_liRank.l0 k2 (y689 ++ y692) l0 (l0.length : Int) (wrap64 (x9_1 + 1))) else (none)))) else (none)))) = some r := by first | (rw [hy679]; with_reducible exact H) | (have H2_ := (zbd _ _).symm.trans H; rw [hy679]; with_reducible exact H2_) | (have H2_ := (zbd _ _).symm.trans H; with_reducible exact H2_) | with_reducible exact H | (rw [hy679]; exact H) | exact H
                 have Ny679 := zad hy679; clear hy679; replace H := zay.mp H; obtain ⟨t683, A290, H⟩ := H
                 replace H : ((some (([(rd l0 x9_1)] : List Int) : List Int)).bind fun y686 => (if t683.length + y686.length < 17592186044416 then ((some (t683 ++ y686 : List Int)).bind fun y689 => ((some (x3_1.drop (x6_2 : Int).toNat : List Int)).bind fun y692 => (if y689.length + y692.length < 17592186044416 then (spec_liRank.l0 k2 (y689 ++ y692) l0 (l0.length : Int) (wrap64 (x9_1 + 1))) else (none)))) else (none))) = some r := H
                 have A29 := zad A290; clear A290; obtain ⟨y686, hy686⟩ : ∃ y_ : List Int, y_ = (([(rd l0 x9_1)] : List Int)) := ⟨_, rfl⟩
                 replace H : (if t683.length + y686.length < 17592186044416 then ((some (t683 ++ y686 : List Int)).bind fun y689 => ((some (x3_1.drop (x6_2 : Int).toNat : List Int)).bind fun y692 => (if y689.length + y692.length < 17592186044416 then (spec_liRank.l0 k2 (y689 ++ y692) l0 (l0.length : Int) (wrap64 (x9_1 + 1))) else (none)))) else (none)) = some r := by first | (rw [hy686]; with_reducible exact H) | (have H2_ := (zbd _ _).symm.trans H; rw [hy686]; with_reducible exact H2_) | (have H2_ := (zbd _ _).symm.trans H; with_reducible exact H2_) | with_reducible exact H | (rw [hy686]; exact H) | exact H
                 have Ny686 := zad hy686; clear hy686; by_cases c30 : t683.length + y686.length < 17592186044416
                 · rw [if_pos c30] at H
                   have LMc30 := zad c30; clear c30; obtain ⟨y689, hy689⟩ : ∃ y_ : List Int, y_ = (t683 ++ y686) := ⟨_, rfl⟩
                   replace H : ((some (x3_1.drop (x6_2 : Int).toNat : List Int)).bind fun y692 => (if y689.length + y692.length < 17592186044416 then (spec_liRank.l0 k2 (y689 ++ y692) l0 (l0.length : Int) (wrap64 (x9_1 + 1))) else (none))) = some r := by first | (rw [hy689]; with_reducible exact H) | (have H2_ := (zbd _ _).symm.trans H; rw [hy689]; with_reducible exact H2_) | (have H2_ := (zbd _ _).symm.trans H; with_reducible exact H2_) | with_reducible exact H | (rw [hy689]; exact H) | exact H
                   have Ny689 := zad hy689; clear hy689; have c31b0 := eq_true (zas (taaa) : 0 ≤ x6_2)
                   have c32b0 := eq_true (zas (taaa) : x6_2 ≤ (x3_1.length : Int))
                   obtain ⟨y692, hy692⟩ : ∃ y_ : List Int, y_ = (x3_1.drop (x6_2 : Int).toNat) := ⟨_, rfl⟩
                   replace H : (if y689.length + y692.length < 17592186044416 then (spec_liRank.l0 k2 (y689 ++ y692) l0 (l0.length : Int) (wrap64 (x9_1 + 1))) else (none)) = some r := by first | (rw [hy692]; with_reducible exact H) | (have H2_ := (zbd _ _).symm.trans H; rw [hy692]; with_reducible exact H2_) | (have H2_ := (zbd _ _).symm.trans H; with_reducible exact H2_) | with_reducible exact H | (rw [hy692]; exact H) | exact H
                   have Ny692 := zad hy692; clear hy692; by_cases c33 : y689.length + y692.length < 17592186044416
                   · rw [if_pos c33] at H
                     have LMc33 := zad c33; clear c33; obtain ⟨y696, hy696⟩ : ∃ y_ : List Int, y_ = (y689 ++ y692) := ⟨_, rfl⟩
                     replace H : (spec_liRank.l0 k2 y696 l0 (l0.length : Int) (wrap64 (x9_1 + 1))) = some r := by first | (rw [hy696]; with_reducible exact H) | (have H2_ := (zbd _ _).symm.trans H; rw [hy696]; with_reducible exact H2_) | (have H2_ := (zbd _ _).symm.trans H; with_reducible exact H2_) | with_reducible exact H | (rw [hy696]; exact H) | exact H
                     have Ny696 := zad hy696; clear hy696; have H' := zad H
                     clear H; obtain ⟨Ao34, co34, eo34⟩ := zbx HO_3.out
                     subst eo34; try go_wp2
                     have n0_ := zad (zak HO_3.out)
                     have n1_ := zad (zaf HB.out)
                     clear HO_3 HB; have HO_3 := n0_; have HB := n1_; clear n0_ n1_; have q36 : (x6_2 : Int) ≤ ((x3_1.length : Int) : Int) := zas (taaa)
                     obtain ⟨i036, hi036, _, hsz36, _⟩ := info_parts info3
                     have hroom36 : x3_1.length ≤ co34 := (zbf HO_3.out).2.1
                     have hC36 : Kd.C (Kd.int .i64) _ Ao34 x3_1.length x3_1 := (zbf HO_3.out).2.2
                     have hcut36 := cut_to (P := Try.prog) 26 3 .i64 Try.underlying26 hi036 Ao34 x3_1.length co34 x6_2 (zas (taaa)) q36 hroom36
                     have hr36 := Kd.C_take (m := (x6_2 : Int).toNat) hC36 (by omega)
                     have hy36 : y679.length = (x6_2 : Int).toNat := (by rw [Ny679.out, zax]; omega)
                     rw [← Ny679.out] at hr36
                     rw [← hy36] at hcut36
                     have HR682 := zad hr36; have HC682 := zad (show y679.length ≤ co34 from by omega)
                     clear hr36 hC36 hroom36 hi036 hsz36; have KY36 := zad hy36; clear hy36; have KL36 := zad (show (x6_2 : Int).toNat ≤ x3_1.length from by omega)
                     replace q36 := eq_true q36
                     have q37 : (x6_2 : Int) ≤ ((x3_1.length : Int) : Int) := zas (taaa)
                     obtain ⟨i037, hi037, _, hsz37, _⟩ := info_parts info3
                     have hroom37 : x3_1.length ≤ co34 := (zbf HO_3.out).2.1
                     have hC37 : Kd.C (Kd.int .i64) _ Ao34 x3_1.length x3_1 := (zbf HO_3.out).2.2
                     have q037 : (0 : Int) ≤ (x6_2 : Int) := zas (taaa)
                     have hcut37 := cut_from (P := Try.prog) 26 3 .i64 Try.underlying26 hi037 1 hsz37 Ao34 x3_1.length co34 x6_2 q037 q37
                     have hr37 := Kd.C_drop (m := (x6_2 : Int).toNat) (c := co34) hC37 (by omega) hroom37
                     obtain ⟨A37, hA37⟩ : ∃ A1, A1 = (if co34 = (x6_2 : Int).toNat then Ao34 else (Ao34 : Option Addr).map (·.add ((x6_2 : Int).toNat * 1))) := ⟨_, rfl⟩
                     obtain ⟨c37, hc37⟩ : ∃ c1, c1 = co34 - (x6_2 : Int).toNat := ⟨_, rfl⟩
                     have hy37 : y692.length = x3_1.length - (x6_2 : Int).toNat := (by rw [Ny692.out, zaw] <;> omega)
                     rw [show (x3_1).drop (x6_2 : Int).toNat = y692 from Ny692.out.symm] at hr37
                     replace hr37 : Kd.C (Kd.int .i64) _ A37 y692.length y692 := (by rw [hA37]; exact hr37)
                     rw [← hy37, ← hA37, ← hc37] at hcut37
                     have HR695 := zad hr37; have HC695 := zad (show y692.length ≤ c37 from by rw [hy37, hc37]; exact Nat.sub_le_sub_right hroom37 _)
                     clear hr37 hC37 hroom37 hi037 hsz37 hc37; have KY37 := zad hy37; have KA37 := zad hA37; clear hy37 hA37; have KL37 := zad (show (x6_2 : Int).toNat ≤ x3_1.length from by omega)
                     replace q37 := eq_true q37
                     refine start_ (n := 12) (S := fun w' => True) (ds := []) #[false, false, false, false, false, false, false, false, false, false, false, false] (by kernel_rfl) rfl rfl trivial (fun hHeld => ?_); refine with_tabW spec_liRank.tab8 spec_liRank.bits8 (fun HT_ HW_ => ?_)
                     generalize wr.drew = w35 at HO_3 HB HR682 HR695 hHeld ⊢
                     refine pure_ (i := 0) (N := some 27) (v := ?_) (a' := ?_) #[true, false, false, false, false, false, false, false, false, false, false, false] rfl rfl (zca HT_.out (by kernel_rfl)) (fun _ _ _ h => h) (Or.inl ⟨by rfl, ?_⟩) ?_ ?_
                     rotate_left
                     · intro w'
                       go_simp; with_reducible rfl
                     rotate_left
                     · simp only [Act.put, zaa, zab, zac, zby, zbz]
                       rfl
                     refine pure_ (i := 1) (N := some 28) (v := ?_) (a' := ?_) #[true, true, false, false, false, false, false, false, false, false, false, false] rfl rfl (zca HT_.out (by kernel_rfl)) (fun _ _ _ h => h) (Or.inl ⟨by rfl, ?_⟩) ?_ ?_
                     rotate_left
                     · intro w'
                       go_simp; with_reducible rfl
                     rotate_left
                     · simp only [Act.put, zaa, zab, zac, zby, zbz]
                       rfl
                     refine pure_ (i := 2) (N := some 29) (v := ?_) (a' := ?_) #[true, true, true, false, false, false, false, false, false, false, false, false] rfl rfl (zca HT_.out (by kernel_rfl)) (fun _ _ _ h => h) (Or.inl ⟨by rfl, ?_⟩) ?_ ?_
                     rotate_left
                     · intro w'
                       go_simp; with_reducible rfl
                     rotate_left
                     · simp only [Act.put, zaa, zab, zac, zby, zbz]
                       rfl
                     refine pure_ (i := 4) (N := some 31) (v := ?_) (a' := ?_) #[true, true, true, false, true, false, false, false, false, false, false, false] rfl rfl (zca HT_.out (by kernel_rfl)) (fun _ _ _ h => h) (Or.inl ⟨by rfl, ?_⟩) ?_ ?_
                     rotate_left
                     · intro w'
                       go_simp; with_reducible rfl
                     rotate_left
                     · simp only [Act.put, zaa, zab, zac, zby, zbz]
                       rfl
                     refine pure_ (i := 7) (N := some 34) (v := ?_) (a' := ?_) #[true, true, true, false, true, false, false, true, false, false, false, false] rfl rfl (zca HT_.out (by kernel_rfl)) (fun _ _ _ h => h) (Or.inl ⟨by rfl, ?_⟩) ?_ ?_
                     rotate_left
                     · intro w'
                       go_simp; with_reducible rfl
                     rotate_left
                     · simp only [Act.put, zaa, zab, zac, zby, zbz]
                       rfl
                     refine pure_ (i := 8) (N := some 35) (v := ?_) (a' := ?_) #[true, true, true, false, true, false, false, true, true, false, false, false] rfl rfl (zca HT_.out (by kernel_rfl)) (fun _ _ _ h => h) (Or.inl ⟨by rfl, ?_⟩) ?_ ?_
                     rotate_left
                     · intro w'
                       go_simp; with_reducible rfl
                     rotate_left
                     · simp only [Act.put, zaa, zab, zac, zby, zbz]
                       rfl
                     refine pure_ (i := 9) (N := some 36) (v := ?_) (a' := ?_) #[true, true, true, false, true, false, false, true, true, true, false, false] rfl rfl (zca HT_.out (by kernel_rfl)) (fun _ _ _ h => h) (Or.inl ⟨by rfl, ?_⟩) ?_ ?_
                     rotate_left
                     · intro w'
                       go_simp; with_reducible rfl
                     rotate_left
                     · simp only [Act.put, zaa, zab, zac, zby, zbz]
                       rfl
                     refine join_ (σ := Value × Value) 3 #[true, true, true, true, true, true, false, true, true, true, false, false] (fun s_ => [(30, s_.1), (32, s_.2)]) (fun s_ w' => (Kd.R (Kd.int .i64) 3 w' w.heap.size (fun k_ => some k_ ≠ (s_.2 : Value).ownBlock ∧ some k_ ≠ (.slice Ao34 x3_1.length co34 : Value).ownBlock) s_.1 t683) ∧ (Kd.R (Kd.int .i64) 3 w' w.heap.size (fun k_ => some k_ ≠ (s_.1 : Value).ownBlock ∧ some k_ ≠ (.slice Ao34 x3_1.length co34 : Value).ownBlock) s_.2 y686) ∧ (Kd.R (Kd.int .i64) 3 w' w.heap.size (fun k_ => some k_ ≠ (s_.1 : Value).ownBlock ∧ some k_ ≠ (s_.2 : Value).ownBlock) (.slice Ao34 x3_1.length co34) x3_1) ∧ (Below w.heap.size w w')) ?_ ?_
                     rotate_left
                     · intro hCont
                       refine two_ (i := 3) (j := 5) (Ni := some 30) (Nj := some 32) #[true, true, true, true, true, false, false, true, true, true, false, false] #[true, true, true, false, true, true, false, true, true, true, false, false] rfl rfl rfl rfl (two_of HT_.out (by kernel_rfl)) (by decide) (by decide) (fun K hK => ?_) (fun K hK => ?_)
                       · skip
                         refine goes_ Try.func111 (by kernel_rfl) rfl #[.slice Ao34 y679.length co34] (by rfl) rfl rfl (taad) ?_
                         with_reducible refine (spec_l1Own.calls _ _ y679 t683 _ ?side1 ?side2 A29.out).mono ?_
                         (case side1 => exact tagk)
                         (case side2 => exact HC682.out)
                         rintro e w38 ⟨v684, rfl, ho0, hb⟩
                         refine ⟨_, rfl, ?_⟩
                         have n0_ := zad (zcd (taaq) (zcf ho0) hb)
                         have n1_ := zad (zbw (zce ho0 (zcg (taaq))) (zbm (taab)))
                         have n2_ := zad (Kd.C_below (tabr) hb)
                         have n3_ := zad (Kd.C_below (tacu) hb)
                         have n4_ := zad (zbg (taab) hb)
                         clear HO_3 HR682 HR695 HB; have HO_3 := n0_; have HO685 := n1_; have HR682 := n2_; have HR695 := n3_; have HB := n4_; clear n0_ n1_ n2_ n3_ n4_; (try clear hb); (try clear hb2); (try clear hk); (try clear hi); (try clear ho0); refine hK.out _ _ trivial (fun hHeld => ?_)
                         clear hK K; refine norm_ (a' := ?_) ?_ ?_
                         rotate_left
                         · show Act.put _ (some 30) _ = _
                           simp only [Act.put, zaa, zab, zac, zby, zbz]
                           rfl
                         refine one_ (i := 5) (N := some 32) #[true, true, true, true, true, true, false, true, true, true, false, false] rfl rfl (one_of HT_.out (by kernel_rfl)) (by decide) (fun K hK => ?_)
                         refine Kd.R_lit_step (Kd.int .i64) _ 3 ?hg (N := 32) ?hd (xs := ([(rd l0 x9_1)] : List Int)) (inner := [.int .i64 (rd l0 x9_1)]) (ok := fun _ => True) (okp := fun _ => True) ?hr ?hp (fun _ hk => hk) trivial (Below.refl _ _) (zch _) (taae) ?_; (case hd => rfl); (case hg => rfl); (case hr => first | (go_simp; done) | (go_simp; rfl)); (case hp => exact (Reps.one (show Kd.M (Kd.int .i64) _ _ _ (rd l0 x9_1) [.int .i64 (rd l0 x9_1)] from rfl) (Reps.none _ _)))
                         intro v687 w39 ho40 hb hg_ hnew_
                         clear hg_ hnew_; (first | rw [← Ny686.out] at ho40 | (simp only [Int.reduceToNat] at ho40; rw [← Ny686.out] at ho40))
                         have n0_ := zad (zcd (taaq) (zcf ho40) hb)
                         have n1_ := zad (zcd (taen) (zcf ho40) hb)
                         have n2_ := zad (zbw (zce (zce ho40 (zcg (taaq))) (zcg (taen))) (zbm (taab)))
                         have n3_ := zad (Kd.C_below (tabr) hb)
                         have n4_ := zad (Kd.C_below (tacu) hb)
                         have n5_ := zad (zbg (taab) hb)
                         clear HO_3 HO685 HR682 HR695 HB; have HO_3 := n0_; have HO685 := n1_; have HO688 := n2_; have HR682 := n3_; have HR695 := n4_; have HB := n5_; clear n0_ n1_ n2_ n3_ n4_ n5_ hb ho40; refine hK.out _ _ trivial (fun hHeld => ?_)
                         clear hK K; refine norm_ (a' := ?_) ?_ ?_
                         rotate_left
                         · show Act.put _ (some 32) _ = _
                           simp only [Act.put, zaa, zab, zac, zby, zbz]
                           rfl
                         exact norm_ (tact) (hCont (v684, v687) _ ⟨(taeo), (taep), (taek), (taab)⟩)
                       · skip
                         refine Kd.R_lit_step (Kd.int .i64) _ 3 ?hg (N := 32) ?hd (xs := ([(rd l0 x9_1)] : List Int)) (inner := [.int .i64 (rd l0 x9_1)]) (ok := fun _ => True) (okp := fun _ => True) ?hr ?hp (fun _ hk => hk) trivial (Below.refl _ _) (zch _) (taae) ?_; (case hd => rfl); (case hg => rfl); (case hr => first | (go_simp; done) | (go_simp; rfl)); (case hp => exact (Reps.one (show Kd.M (Kd.int .i64) _ _ _ (rd l0 x9_1) [.int .i64 (rd l0 x9_1)] from rfl) (Reps.none _ _)))
                         intro v687 w38 ho39 hb hg_ hnew_
                         clear hg_ hnew_; (first | rw [← Ny686.out] at ho39 | (simp only [Int.reduceToNat] at ho39; rw [← Ny686.out] at ho39))
                         have n0_ := zad (zcd (taaq) (zcf ho39) hb)
                         have n1_ := zad (zbw (zce ho39 (zcg (taaq))) (zbm (taab)))
                         have n2_ := zad (Kd.C_below (tabr) hb)
                         have n3_ := zad (Kd.C_below (tacu) hb)
                         have n4_ := zad (zbg (taab) hb)
                         clear HO_3 HR682 HR695 HB; have HO_3 := n0_; have HO688 := n1_; have HR682 := n2_; have HR695 := n3_; have HB := n4_; clear n0_ n1_ n2_ n3_ n4_ hb ho39; refine hK.out _ _ trivial (fun hHeld => ?_)
                         clear hK K; refine norm_ (a' := ?_) ?_ ?_
                         rotate_left
                         · show Act.put _ (some 32) _ = _
                           simp only [Act.put, zaa, zab, zac, zby, zbz]
                           rfl
                         refine one_ (i := 3) (N := some 30) #[true, true, true, true, true, true, false, true, true, true, false, false] rfl rfl (one_of HT_.out (by kernel_rfl)) (by decide) (fun K hK => ?_)
                         refine goes_ Try.func111 (by kernel_rfl) rfl #[.slice Ao34 y679.length co34] (by rfl) rfl rfl (taad) ?_
                         with_reducible refine (spec_l1Own.calls _ _ y679 t683 _ ?side1 ?side2 A29.out).mono ?_
                         (case side1 => exact tagk)
                         (case side2 => exact HC682.out)
                         rintro e w40 ⟨v684, rfl, ho0, hb⟩
                         refine ⟨_, rfl, ?_⟩
                         have n0_ := zad (zcd (taaq) (zcf ho0) hb)
                         have n1_ := zad (zcd (tacf) (zcf ho0) hb)
                         have n2_ := zad (zbw (zce (zce ho0 (zcg (taaq))) (zcg (tacf))) (zbm (taab)))
                         have n3_ := zad (Kd.C_below (tabr) hb)
                         have n4_ := zad (Kd.C_below (tacu) hb)
                         have n5_ := zad (zbg (taab) hb)
                         clear HO_3 HO688 HR682 HR695 HB; have HO_3 := n0_; have HO688 := n1_; have HO685 := n2_; have HR682 := n3_; have HR695 := n4_; have HB := n5_; clear n0_ n1_ n2_ n3_ n4_ n5_; (try clear hb); (try clear hb2); (try clear hk); (try clear hi); (try clear ho0); refine hK.out _ _ trivial (fun hHeld => ?_)
                         clear hK K; refine norm_ (a' := ?_) ?_ ?_
                         rotate_left
                         · show Act.put _ (some 30) _ = _
                           simp only [Act.put, zaa, zab, zac, zby, zbz]
                           rfl
                         exact norm_ (tact) (hCont (v684, v687) _ ⟨(taeo), (taep), (tael), (taab)⟩)
                     rintro ⟨v684, v687⟩ w41 ⟨h0_, h1_, h2_, h3_⟩
                     have n0_ : Aside0 (Kd.R (Kd.int .i64) 3 w41 w.heap.size (fun k_ => some k_ ≠ (v687 : Value).ownBlock ∧ some k_ ≠ (.slice Ao34 x3_1.length co34 : Value).ownBlock) v684 t683) := ⟨h0_⟩
                     have n1_ : Aside0 (Kd.R (Kd.int .i64) 3 w41 w.heap.size (fun k_ => some k_ ≠ (v684 : Value).ownBlock ∧ some k_ ≠ (.slice Ao34 x3_1.length co34 : Value).ownBlock) v687 y686) := ⟨h1_⟩
                     have n2_ : Aside0 (Kd.R (Kd.int .i64) 3 w41 w.heap.size (fun k_ => some k_ ≠ (v684 : Value).ownBlock ∧ some k_ ≠ (v687 : Value).ownBlock) (.slice Ao34 x3_1.length co34) x3_1) := ⟨h2_⟩
                     have n3_ : Aside0 (Below w.heap.size w w41) := ⟨h3_⟩
                     clear HO_3 HB h0_ h1_ h2_ h3_; have HO685 := n0_; have HO688 := n1_; have HO_3 := n2_; have HB := n3_; clear n0_ n1_ n2_ n3_; have hHeld := trivial
                     obtain ⟨Ao43, co43, eo43⟩ := zbx HO688.out
                     (first | subst eo43 | (injection eo43 with f1_ f2_ f3_; have f4_ := f1_.symm; have f5_ := f3_.symm; clear f1_ f2_ f3_; subst f4_; subst f5_))
                     refine norm_ (a' := ?_) ?_ ?_
                     rotate_left
                     · simp only [putAll, Act.put, zaa, zab, zac]
                       rfl
                     refine one_ (i := 6) (N := some 33) #[true, true, true, true, true, true, true, true, true, true, false, false] rfl rfl (one_of HT_.out (by kernel_rfl)) (by decide) (fun K hK => ?_)
                     refine Kd.R_append_rows_step (Kd.int .i64) (w0 := w) w.heap.size (by rfl) (.tmp 30) (.tmp 32) 26 3 (.int .i64 0) 8 rfl Try.underlying26 info3 rfl (by decide) (by omega) v684 t683 y686 _ _ _ (fun k_ => some k_ ≠ (.slice Ao34 x3_1.length co34 : Value).ownBlock ∧ some k_ ≠ (.slice Ao43 y686.length co43 : Value).ownBlock) (fun _ => False) rfl rfl ?aO ?aR (fun _ _ h => h) (fun _ h => h.elim) ?aF ?aB ?aS ?aL ?_
                     (case aR => repeat (first | exact (zbf HO688.out).2.2 | (with_reducible refine zal ?_ _) | (with_reducible refine zam ?_ _) | (with_reducible refine zan ?_)))
                     (case aB => exact (taab))
                     (case aF => exact (fun k_ hk => ⟨Kd.fresh' (zcg (taaq)) k_ hk, Kd.fresh' (zcg (tacf)) k_ hk⟩))
                     (case aO => exact (by (with_reducible repeat (first | apply zai | apply zaj | apply zak)); exact zbs HO685.out (fun _ hk => ⟨hk.2, hk.1⟩)))
                     (case aS => exact (zbm (taab)))
                     (case aL => have := LMc30.out; omega)
                     intro v690 w42 ho hb hg hat
                     rw [← Ny689.out] at ho
                     have n0_ := zad (Kd.R_after (ok := (fun k_ => some k_ ≠ (.slice Ao43 y686.length co43 : Value).ownBlock)) (taem) hg hat)
                     have n1_ := zad (Kd.R_after (ok := (fun k_ => some k_ ≠ (.slice Ao34 x3_1.length co34 : Value).ownBlock)) (by (with_reducible repeat (first | apply zai | apply zaj | apply zak)); exact zbs HO688.out (fun _ hk => ⟨hk.2, hk.1⟩)) hg hat)
                     have n2_ := zad (hb)
                     have n3_ := zad (ho)
                     clear HO_3 HO688 HB HO685; have HO_3 := n0_; have HO688 := n1_; have HB := n2_; have HO691 := n3_; clear n0_ n1_ n2_ n3_ ho hb hg hat; refine hK.out _ _ trivial (fun hHeld => ?_)
                     clear hK K; refine norm_ (a' := ?_) ?_ ?_
                     rotate_left
                     · show Act.put _ (some 33) _ = _
                       simp only [Act.put, zaa, zab, zac, zby, zbz]
                       rfl
                     refine one_ (i := 10) (N := some 37) #[true, true, true, true, true, true, true, true, true, true, true, false] rfl rfl (one_of HT_.out (by kernel_rfl)) (by decide) (fun K hK => ?_)
                     refine Kd.R_append_rows_step (Kd.int .i64) (w0 := w) w.heap.size (by rfl) (.tmp 33) (.tmp 36) 26 3 (.int .i64 0) 8 rfl Try.underlying26 info3 rfl (by decide) (by omega) v690 y689 y692 _ _ _ (fun k_ => some k_ ≠ (.slice Ao34 x3_1.length co34 : Value).ownBlock ∧ some k_ ≠ (.slice Ao43 y686.length co43 : Value).ownBlock) (fun _ => False) rfl rfl ?aO ?aR (fun _ _ h => h) (fun _ h => h.elim) ?aF ?aB ?aS ?aL ?_
                     (case aR => repeat (first | exact (show Kd.C (Kd.int .i64) _ A37 y692.length y692 from by rw [Ny692.out, KA37.out]; exact Kd.C_drop (m := (x6_2 : Int).toNat) (c := co34) ((zbf HO_3.out).2.2) KL37.out ((zbf HO_3.out).2.1)) | (with_reducible refine zal ?_ _) | (with_reducible refine zam ?_ _) | (with_reducible refine zan ?_)))
                     (case aB => exact (taab))
                     (case aF => exact (fun k_ hk => ⟨Kd.fresh' (zcg (taaq)) k_ hk, Kd.fresh' (zcg (tacf)) k_ hk⟩))
                     (case aO => exact (by (with_reducible repeat (first | apply zai | apply zaj | apply zak)); exact HO691.out))
                     (case aS => exact (zbm (taab)))
                     (case aL => have := LMc33.out; omega)
                     intro v697 w44 ho hb hg hat
                     rw [← Ny696.out] at ho
                     have n0_ := zad (Kd.R_after (ok := (fun k_ => some k_ ≠ (.slice Ao43 y686.length co43 : Value).ownBlock)) (taaq) hg hat)
                     have n1_ := zad (Kd.R_after (ok := (fun k_ => some k_ ≠ (.slice Ao34 x3_1.length co34 : Value).ownBlock)) (tacf) hg hat)
                     have n2_ := zad (hb)
                     have n3_ := zad (ho)
                     clear HO_3 HO688 HB HO691; have HO_3 := n0_; have HO688 := n1_; have HB := n2_; have HO698 := n3_; clear n0_ n1_ n2_ n3_ ho hb hg hat; refine hK.out _ _ trivial (fun hHeld => ?_)
                     clear hK K; refine norm_ (a' := ?_) ?_ ?_
                     rotate_left
                     · show Act.put _ (some 37) _ = _
                       simp only [Act.put, zaa, zab, zac, zby, zbz]
                       rfl
                     refine pure_ (i := 11) (N := some 3) (v := ?_) (a' := ?_) #[true, true, true, true, true, true, true, true, true, true, true, true] rfl rfl (zca HT_.out (by kernel_rfl)) (fun _ _ _ h => h) (Or.inl ⟨by rfl, ?_⟩) ?_ ?_
                     rotate_left
                     · intro w'
                       go_simp; with_reducible rfl
                     rotate_left
                     · simp only [Act.put, zaa, zab, zac, zby, zbz]
                       rfl
                     refine done_ (done_of HT_.out (by kernel_rfl)) ?_
                     try go_wp2
                     go_roundg k2
                     case measure => have := HK1.out; have := HK2.out; omega
                     case rel => exact ⟨(y696), (wrap64 (x9_1 + 1)), (taag), H', ⟨tacd⟩, ⟨by (with_reducible repeat (first | apply zai | apply zaj | apply zak)); exact zbs HO698.out (fun _ hk => trivial)⟩, ⟨taab⟩⟩
                   · rw [if_neg c33] at H
                     exact absurd H (taae)
                 · rw [if_neg c30] at H
                   exact absurd H (taae)
               · rw [if_neg c28] at H
                 exact absurd H (taae)
             · rw [if_neg c27] at H
               exact absurd H (taae)
       · rw [if_neg c4] at H
         exact absurd H (taae)
     · rw [if_neg c3] at H
       exact absurd H (taae)
   · rw [if_neg c2] at H
     have c2b0 : decide (x9_1 < (l0.length : Int)) = false := zbj c2
     clear c2; obtain rfl := zbe H
     go_wp2
     go_ret
     exact ⟨_, taaj, taaq, taab⟩
def spec_liSums.l0 : Nat → List Int → Int → List Int → Int → Int → Option (List Int)
 | 0, _, _, _, _, _ => none
 | k + 1, x3, x4, x7, x8, x9 => if x9 < x8 then (if 0 ≤ x9 then (if x9 < (x7.length : Int) then (if x3.length < 17592186044416 then (spec_liSums.l0 k (x3 ++ [wrap64 (x4 + (rd x7 x9))]) (wrap64 (x4 + (rd x7 x9))) x7 x8 (wrap64 (x9 + 1))) else (none)) else (none)) else (none)) else (some x3)
def spec_liSums.f (k : Nat) (l0 : List Int) : Option (List Int) := spec_liSums.l0 k ([] : List Int) 0 l0 (l0.length : Int) 0
theorem spec_liSums.calls (k : Nat) (A0 : Option Addr) (c0 : Nat) (l0 : List Int) (r : List Int) (w : World) (hr0 : Kd.C (Kd.int .i64) w A0 l0.length l0) (hc0 : l0.length ≤ c0) (h : spec_liSums.f k l0 = some r) :
 Calls Try.prog 150 #[.slice A0 l0.length c0] w fun e w' => ∃ v0_ : Value, e = .returned (v0_) ∧ Kd.R (Kd.int .i64) 3 w' w.heap.size (fun _ => True) v0_ r ∧ Below w.heap.size w w' := by
 have HR0 := zad hr0; have HC0 := zad hc0; clear hr0 hc0; have HB := zad (Below.refl w.heap.size w)
 have H : (spec_liSums.l0 k ([] : List Int) 0 l0 (l0.length : Int) 0) = some r := h
 clear h; have H' := zad H
 clear H; go_enter Try.func150, Try.ntmps150
 go_wp2
 go_loopg [3, 4, 9] k (fun kq v3 v4 v9 w' => ∃ (x3_1 : List Int) (x4_1 : Int) (x9_1 : Int), v4 = .int .i64 x4_1 ∧ v9 = .int .i64 x9_1 ∧ Aside0 (spec_liSums.l0 kq x3_1 x4_1 l0 (l0.length : Int) x9_1 = some r) ∧ Aside0 (kq ≤ k) ∧ Aside0 (Kd.R (Kd.int .i64) 3 w' w.heap.size (fun _ => True) v3 x3_1) ∧ Aside0 (Below w.heap.size w w'))
 case atStart => exact ⟨(([] : List Int)), (0), (0), (taag), (taag), H', ⟨zch _⟩, ⟨tabj⟩, ⟨taab⟩⟩
 case round =>
  clear H'
  try clear c1
  obtain ⟨x3_1, x4_1, x9_1, rfl, rfl, HA, HK1, HO_3, HB⟩ := hrel
  cases gk with
  | zero => exact absurd HA.out (by simp [spec_liSums.l0])
  | succ k1 =>
   have H := HA.out
   clear HA; simp only [spec_liSums.l0] at H
   by_cases c2 : x9_1 < (l0.length : Int)
   · rw [if_pos c2] at H
     have c2b0 : decide (x9_1 < (l0.length : Int)) = true := zba c2
     clear c2; by_cases c3 : 0 ≤ x9_1
     · rw [if_pos c3] at H
       have c3b0 : decide (0 ≤ x9_1) = true := zba c3
       clear c3; by_cases c4 : x9_1 < (l0.length : Int)
       · rw [if_pos c4] at H
         have c4b0 : decide (x9_1 < (l0.length : Int)) = true := zba c4
         clear c4; by_cases c5 : x3_1.length < 17592186044416
         · rw [if_pos c5] at H
           have LMc5 := zad c5; clear c5; obtain ⟨y812, hy812⟩ : ∃ y_ : List Int, y_ = (x3_1 ++ [wrap64 (x4_1 + (rd l0 x9_1))]) := ⟨_, rfl⟩
           replace H : (spec_liSums.l0 k1 y812 (wrap64 (x4_1 + (rd l0 x9_1))) l0 (l0.length : Int) (wrap64 (x9_1 + 1))) = some r := by first | (rw [hy812]; with_reducible exact H) | (have H2_ := (zbd _ _).symm.trans H; rw [hy812]; with_reducible exact H2_) | (have H2_ := (zbd _ _).symm.trans H; with_reducible exact H2_) | with_reducible exact H | (rw [hy812]; exact H) | exact H
           have Ny812 := zad hy812; clear hy812; have H' := zad H
           clear H; have p811 : 0 ≤ (x9_1 : Int) := zas (taaa)
           have q811 : x9_1 < (l0.length : Int) := zas (taaa)
           obtain ⟨ad811, e811, hx811_0⟩ := zcc HR0.out x9_1 p811 q811
           cases e811
           replace hx811_0 := (HB.out.cell (zaz w _ hx811_0)).trans hx811_0
           replace p811 := eq_true p811
           replace q811 := eq_true q811
           go_wp2_with (first | ((with_reducible refine gate_builtin (b := .append) (xs := #[.tmp 16, .tmp 18]) rfl ?_); at_builtin; refine Kd.R_append (Kd.int .i64) (w0 := w) w.heap.size rfl (.tmp 16) (.tmp 18) 26 3 (.int .i64 0) 8 rfl Try.underlying26 info3 rfl (by decide) (by omega) u3 x3_1 (wrap64 (x4_1 + (rd l0 x9_1))) [.int .i64 (wrap64 (x4_1 + (rd l0 x9_1)))] (fun _ => True) (fun _ => False) rfl rfl ?aP (fun _ hk => hk.elim) ?aF ?aO ?aB ?aS ?aL ?_; (case aP => exact rfl); (case aB => exact (taab)); (case aF => exact (fun _ _ => trivial)); (case aO => exact (taaq)); (case aS => exact (zbm (taab))); (case aL => have := LMc5.out; omega); intro v813 w6 ho hb hg hat; rw [← Ny812.out] at ho; have n0_ := zad (hb); have n1_ := zad (ho); clear HB HO_3; have HB := n0_; have HO814 := n1_; clear n0_ n1_ ho hb hg hat))
           go_roundg k1
           case measure => have := HK1.out; omega
           case rel => exact ⟨(y812), (wrap64 (x4_1 + (rd l0 x9_1))), (wrap64 (x9_1 + 1)), (taag), (taag), H', ⟨taau⟩, ⟨by (with_reducible repeat (first | apply zai | apply zaj | apply zak)); exact HO814.out⟩, ⟨taab⟩⟩
         · rw [if_neg c5] at H
           exact absurd H (taae)
       · rw [if_neg c4] at H
         exact absurd H (taae)
     · rw [if_neg c3] at H
       exact absurd H (taae)
   · rw [if_neg c2] at H
     have c2b0 : decide (x9_1 < (l0.length : Int)) = false := zbj c2
     clear c2; obtain rfl := zbe H
     go_wp2
     go_ret
     exact ⟨_, taaj, taaq, taab⟩
def spec_liPartial.f (k : Nat) (l0 : List Int) : Option (List Int) := (spec_liRank.f k l0).bind fun t815 => ((spec_liSums.f k t815).bind fun t818 => (some t818))
theorem spec_liPartial.calls (k : Nat) (A0 : Option Addr) (c0 : Nat) (l0 : List Int) (r : List Int) (w : World) (hr0 : Kd.C (Kd.int .i64) w A0 l0.length l0) (hc0 : l0.length ≤ c0) (h : spec_liPartial.f k l0 = some r) :
 Calls Try.prog 123 #[.slice A0 l0.length c0] w fun e w' => ∃ v0_ : Value, e = .returned (v0_) ∧ Kd.R (Kd.int .i64) 3 w' w.heap.size (fun _ => True) v0_ r ∧ Below w.heap.size w w' := by
 have HR0 := zad hr0; have HC0 := zad hc0; clear hr0 hc0; have HB := zad (Below.refl w.heap.size w)
 have H : ((spec_liRank.f k l0).bind fun t815 => ((spec_liSums.f k t815).bind fun t818 => (some t818))) = some r := h
 clear h; replace H := zay.mp H; obtain ⟨t815, A20, H⟩ := H
 replace H : ((spec_liSums.f k t815).bind fun t818 => (some t818)) = some r := H
 have A2 := zad A20; clear A20; replace H := zay.mp H; obtain ⟨t818, A30, H⟩ := H
 replace H : (some t818) = some r := H
 have A3 := zad A30; clear A30; obtain rfl := zbe H
 go_enter Try.func123, Try.ntmps123
 go_wp2_with (first | ((with_reducible refine zbh (f := 108) rfl ?_); refine zbp (some 4) rfl rfl Try.func108 (by kernel_rfl) rfl #[.slice A0 l0.length c0] rfl (taad) ?_; (with_reducible refine (spec_liRank.calls k _ _ l0 t815 _ ?side1 ?side2 A2.out).mono ?_); (case side1 => repeat (first | exact HR0.out | (with_reducible refine zal ?_ _) | (with_reducible refine zam ?_ _) | (with_reducible refine zan ?_))); (case side2 => exact HC0.out); rintro e w4 ⟨v816, rfl, ho0, hb⟩; refine ⟨_, rfl, ?_⟩; have n0_ := zad (zbw ho0 (zbm (taab))); have n1_ := zad (zbg (taab) hb); clear HB; have HO817 := n0_; have HB := n1_; clear n0_ n1_; (try clear hb); (try clear hb2); (try clear hk); (try clear hi); (try clear ho0); obtain ⟨Ao5, co5, eo5⟩ := zbx HO817.out; subst eo5) | ((with_reducible refine zbh (f := 150) rfl ?_); refine zbp (some 5) rfl rfl Try.func150 (by kernel_rfl) rfl #[.slice Ao5 t815.length co5] rfl (taad) ?_; (with_reducible refine (spec_liSums.calls k _ _ t815 t818 _ ?side1 ?side2 A3.out).mono ?_); (case side1 => repeat (first | exact (zbf HO817.out).2.2 | (with_reducible refine zal ?_ _) | (with_reducible refine zam ?_ _) | (with_reducible refine zan ?_))); (case side2 => exact (zbf HO817.out).2.1); rintro e w6 ⟨v819, rfl, ho0, hb⟩; refine ⟨_, rfl, ?_⟩; have n0_ := zad (zcd (taeq) (zcf ho0) hb); have n1_ := zad (zbw (zce ho0 (zcg (taeq))) (zbm (taab))); have n2_ := zad (zbg (taab) hb); clear HO817 HB; have HO817 := n0_; have HO820 := n1_; have HB := n2_; clear n0_ n1_ n2_; (try clear hb); (try clear hb2); (try clear hk); (try clear hi); (try clear ho0)))
 go_ret
 exact ⟨_, taaj, by (with_reducible repeat (first | apply zai | apply zaj | apply zak)); exact zbs HO820.out (fun _ hk => trivial), taab⟩
def spec_liOver.l0 : Nat → List Int → List Int → Int → Int → Option (Int)
 | 0, _, _, _, _ => none
 | k + 1, x5, x6, x13, x14 => if x14 < x13 then (if 0 ≤ x14 then (if x14 < (x5.length : Int) then (if x14 < (x6.length : Int) then (if (rd x5 x14) > (rd x6 x14) then (some (wrap64 (x14 + 1))) else (spec_liOver.l0 k x5 x6 x13 (wrap64 (x14 + 1)))) else (none)) else (none)) else (none)) else (some 0)
def spec_liOver.f (k : Nat) (l0 : List Int) (l1 : List Int) : Option (Int) := (spec_liPartial.f k l0).bind fun t821 => ((spec_liPartial.f k l1).bind fun t824 => (spec_liOver.l0 k t821 t824 (t821.length : Int) 0))
theorem spec_liOver.calls (k : Nat) (A0 : Option Addr) (c0 : Nat) (l0 : List Int) (A1 : Option Addr) (c1 : Nat) (l1 : List Int) (r : Int) (w : World) (hr0 : Kd.C (Kd.int .i64) w A0 l0.length l0) (hc0 : l0.length ≤ c0) (hr1 : Kd.C (Kd.int .i64) w A1 l1.length l1) (hc1 : l1.length ≤ c1) (h : spec_liOver.f k l0 l1 = some r) :
 Calls Try.prog 115 #[.slice A0 l0.length c0, .slice A1 l1.length c1] w fun e w' => e = .returned (.int .i64 r) ∧ Below w.heap.size w w' := by
 have HR0 := zad hr0; have HC0 := zad hc0; clear hr0 hc0; have HR1 := zad hr1; have HC1 := zad hc1; clear hr1 hc1; have HB := zad (Below.refl w.heap.size w)
 have H : ((spec_liPartial.f k l0).bind fun t821 => ((spec_liPartial.f k l1).bind fun t824 => (spec_liOver.l0 k t821 t824 (t821.length : Int) 0))) = some r := h
 clear h; replace H := zay.mp H; obtain ⟨t821, A30, H⟩ := H
 replace H : ((spec_liPartial.f k l1).bind fun t824 => (spec_liOver.l0 k t821 t824 (t821.length : Int) 0)) = some r := H
 have A3 := zad A30; clear A30; replace H := zay.mp H; obtain ⟨t824, A40, H⟩ := H
 replace H : (spec_liOver.l0 k t821 t824 (t821.length : Int) 0) = some r := H
 have A4 := zad A40; clear A40; have H' := zad H
 clear H; go_enter Try.func115, Try.ntmps115
 go_wp2_with (first | (go_at_call 123; (with_reducible refine (spec_liPartial.calls k _ _ l0 t821 _ ?side1 ?side2 A3.out).mono ?_); (case side1 => repeat (first | exact HR0.out | (with_reducible refine zal ?_ _) | (with_reducible refine zam ?_ _) | (with_reducible refine zan ?_))); (case side2 => exact HC0.out); rintro e w5 ⟨v822, rfl, ho0, hb⟩; have n0_ := zad (zbw ho0 (zbm (taab))); have n1_ := zad (zbg (taab) hb); clear HB; have HO823 := n0_; have HB := n1_; clear n0_ n1_; (try clear hb); (try clear hb2); (try clear hk); (try clear hi); (try clear ho0)) | (go_at_call 123; (with_reducible refine (spec_liPartial.calls k _ _ l1 t824 _ ?side1 ?side2 A4.out).mono ?_); (case side1 => repeat (first | exact (Kd.C_below HR1.out HB.out) | (with_reducible refine zal ?_ _) | (with_reducible refine zam ?_ _) | (with_reducible refine zan ?_))); (case side2 => exact HC1.out); rintro e w6 ⟨v825, rfl, ho0, hb⟩; have n0_ := zad (zcd (tabs) (zcf ho0) hb); have n1_ := zad (zbw (zce ho0 (zcg (tabs))) (zbm (taab))); have n2_ := zad (zbg (taab) hb); clear HO823 HB; have HO823 := n0_; have HO826 := n1_; have HB := n2_; clear n0_ n1_ n2_; (try clear hb); (try clear hb2); (try clear hk); (try clear hi); (try clear ho0); obtain ⟨Ao7, co7, eo7⟩ := zbx HO823.out; subst eo7))
 repeat (go_quiet (first | (go_at_call 123; (with_reducible refine (spec_liPartial.calls k _ _ l0 t821 _ ?side1 ?side2 A3.out).mono ?_); (case side1 => repeat (first | exact HR0.out | (with_reducible refine zal ?_ _) | (with_reducible refine zam ?_ _) | (with_reducible refine zan ?_))); (case side2 => exact HC0.out); rintro e w5 ⟨v822, rfl, ho0, hb⟩; have n0_ := zad (zbw ho0 (zbm (taab))); have n1_ := zad (zbg (taab) hb); clear HB; have HO823 := n0_; have HB := n1_; clear n0_ n1_; (try clear hb); (try clear hb2); (try clear hk); (try clear hi); (try clear ho0)) | (go_at_call 123; (with_reducible refine (spec_liPartial.calls k _ _ l1 t824 _ ?side1 ?side2 A4.out).mono ?_); (case side1 => repeat (first | exact (Kd.C_below HR1.out HB.out) | (with_reducible refine zal ?_ _) | (with_reducible refine zam ?_ _) | (with_reducible refine zan ?_))); (case side2 => exact HC1.out); rintro e w6 ⟨v825, rfl, ho0, hb⟩; have n0_ := zad (zcd (tabs) (zcf ho0) hb); have n1_ := zad (zbw (zce ho0 (zcg (tabs))) (zbm (taab))); have n2_ := zad (zbg (taab) hb); clear HO823 HB; have HO823 := n0_; have HO826 := n1_; have HB := n2_; clear n0_ n1_ n2_; (try clear hb); (try clear hb2); (try clear hk); (try clear hi); (try clear ho0); obtain ⟨Ao7, co7, eo7⟩ := zbx HO823.out; subst eo7)); try go_wp2_with (first | (go_at_call 123; (with_reducible refine (spec_liPartial.calls k _ _ l0 t821 _ ?side1 ?side2 A3.out).mono ?_); (case side1 => repeat (first | exact HR0.out | (with_reducible refine zal ?_ _) | (with_reducible refine zam ?_ _) | (with_reducible refine zan ?_))); (case side2 => exact HC0.out); rintro e w5 ⟨v822, rfl, ho0, hb⟩; have n0_ := zad (zbw ho0 (zbm (taab))); have n1_ := zad (zbg (taab) hb); clear HB; have HO823 := n0_; have HB := n1_; clear n0_ n1_; (try clear hb); (try clear hb2); (try clear hk); (try clear hi); (try clear ho0)) | (go_at_call 123; (with_reducible refine (spec_liPartial.calls k _ _ l1 t824 _ ?side1 ?side2 A4.out).mono ?_); (case side1 => repeat (first | exact (Kd.C_below HR1.out HB.out) | (with_reducible refine zal ?_ _) | (with_reducible refine zam ?_ _) | (with_reducible refine zan ?_))); (case side2 => exact HC1.out); rintro e w6 ⟨v825, rfl, ho0, hb⟩; have n0_ := zad (zcd (tabs) (zcf ho0) hb); have n1_ := zad (zbw (zce ho0 (zcg (tabs))) (zbm (taab))); have n2_ := zad (zbg (taab) hb); clear HO823 HB; have HO823 := n0_; have HO826 := n1_; have HB := n2_; clear n0_ n1_ n2_; (try clear hb); (try clear hb2); (try clear hk); (try clear hi); (try clear ho0); obtain ⟨Ao7, co7, eo7⟩ := zbx HO823.out; subst eo7)))
 go_loopg [14] k (fun kq v14 w' => ∃ (x14_1 : Int), v14 = .int .i64 x14_1 ∧ Aside0 (spec_liOver.l0 kq t821 t824 (t821.length : Int) x14_1 = some r) ∧ Aside0 (kq ≤ k) ∧ Aside0 (Kd.R (Kd.int .i64) 3 w' w.heap.size (fun k_ => some k_ ≠ (v825 : Value).ownBlock) (.slice Ao7 t821.length co7) t821) ∧ Aside0 (Kd.R (Kd.int .i64) 3 w' w.heap.size (fun k_ => some k_ ≠ ((.slice Ao7 t821.length co7) : Value).ownBlock) v825 t824) ∧ Aside0 (Below w.heap.size w w'))
 case atStart => exact ⟨(0), (taag), H', ⟨zch _⟩, ⟨by (with_reducible repeat (first | apply zai | apply zaj | apply zak)); exact zbs HO823.out (fun _ hk => hk.2)⟩, ⟨by (with_reducible repeat (first | apply zai | apply zaj | apply zak)); exact zbs HO826.out (fun _ hk => hk.2)⟩, ⟨taab⟩⟩
 case round =>
  clear H'
  try clear c1
  try clear p2
  obtain ⟨x14_1, rfl, HA, HK1, HO_5, HO_6, HB⟩ := hrel
  cases gk with
  | zero => exact absurd HA.out (by simp [spec_liOver.l0])
  | succ k1 =>
   have H := HA.out
   clear HA; simp only [spec_liOver.l0] at H
   by_cases c8 : x14_1 < (t821.length : Int)
   · rw [if_pos c8] at H
     have c8b0 : decide (x14_1 < (t821.length : Int)) = true := zba c8
     clear c8; by_cases c9 : 0 ≤ x14_1
     · rw [if_pos c9] at H
       have c9b0 : decide (0 ≤ x14_1) = true := zba c9
       clear c9; by_cases c10 : x14_1 < (t821.length : Int)
       · rw [if_pos c10] at H
         have c10b0 : decide (x14_1 < (t821.length : Int)) = true := zba c10
         clear c10; by_cases c11 : x14_1 < (t824.length : Int)
         · rw [if_pos c11] at H
           have c11b0 : decide (x14_1 < (t824.length : Int)) = true := zba c11
           clear c11; by_cases c12 : (rd t821 x14_1) > (rd t824 x14_1)
           · rw [if_pos c12] at H
             have c12b0 : decide ((rd t824 x14_1) < (rd t821 x14_1)) = true := zba c12
             clear c12; obtain rfl := zbe H
             have p827 : 0 ≤ (x14_1 : Int) := zas (taaa)
             have q827 : x14_1 < (t821.length : Int) := zas (taaa)
             obtain ⟨ad827, e827, hx827_0⟩ := zcc (zbf HO_5.out).2.2 x14_1 p827 q827
             cases e827
             replace p827 := eq_true p827
             replace q827 := eq_true q827
             obtain ⟨Ao13, co13, eo13⟩ := zbx HO_6.out
             subst eo13; have p828 : 0 ≤ (x14_1 : Int) := zas (taaa)
             have q828 : x14_1 < (t824.length : Int) := zas (taaa)
             obtain ⟨ad828, e828, hx828_0⟩ := zcc (zbf HO_6.out).2.2 x14_1 p828 q828
             cases e828
             replace p828 := eq_true p828
             replace q828 := eq_true q828
             go_wp2
             repeat (go_quiet (fail); try go_wp2)
             go_ret
             exact ⟨taaj, taab⟩
           · rw [if_neg c12] at H
             have c12b0 : decide ((rd t824 x14_1) < (rd t821 x14_1)) = false := zbj c12
             clear c12; have H' := zad H
             clear H; have p827 : 0 ≤ (x14_1 : Int) := zas (taaa)
             have q827 : x14_1 < (t821.length : Int) := zas (taaa)
             obtain ⟨ad827, e827, hx827_0⟩ := zcc (zbf HO_5.out).2.2 x14_1 p827 q827
             cases e827
             replace p827 := eq_true p827
             replace q827 := eq_true q827
             obtain ⟨Ao14, co14, eo14⟩ := zbx HO_6.out
             subst eo14; have p828 : 0 ≤ (x14_1 : Int) := zas (taaa)
             have q828 : x14_1 < (t824.length : Int) := zas (taaa)
             obtain ⟨ad828, e828, hx828_0⟩ := zcc (zbf HO_6.out).2.2 x14_1 p828 q828
             cases e828
             replace p828 := eq_true p828
             replace q828 := eq_true q828
             go_wp2
             repeat (go_quiet (fail); try go_wp2)
             go_roundg k1
             case measure => have := HK1.out; omega
             case rel => exact ⟨(wrap64 (x14_1 + 1)), (taag), H', ⟨taau⟩, ⟨taak⟩, ⟨taai⟩, ⟨taab⟩⟩
         · rw [if_neg c11] at H
           exact absurd H (taae)
       · rw [if_neg c10] at H
         exact absurd H (taae)
     · rw [if_neg c9] at H
       exact absurd H (taae)
   · rw [if_neg c8] at H
     have c8b0 : decide (x14_1 < (t821.length : Int)) = false := zbj c8
     clear c8; obtain rfl := zbe H
     go_wp2
     repeat (go_quiet (fail); try go_wp2)
     go_ret
     exact ⟨taaj, taab⟩
def spec_liBelow.f (k : Nat) (l0 : List Int) (l1 : List Int) : Option (Bool) := (spec_liFit.f k l0 l1).bind fun t834 => (if t834 = true then ((spec_liOver.f k l0 l1).bind fun t835 => (some (t835 == 0))) else (some false))
theorem spec_liBelow.calls (k : Nat) (A0 : Option Addr) (c0 : Nat) (l0 : List Int) (A1 : Option Addr) (c1 : Nat) (l1 : List Int) (r : Bool) (w : World) (hr0 : Kd.C (Kd.int .i64) w A0 l0.length l0) (hc0 : l0.length ≤ c0) (hr1 : Kd.C (Kd.int .i64) w A1 l1.length l1) (hc1 : l1.length ≤ c1) (h : spec_liBelow.f k l0 l1 = some r) :
 Calls Try.prog 117 #[.slice A0 l0.length c0, .slice A1 l1.length c1] w fun e w' => e = .returned (.bool r) ∧ Below w.heap.size w w' := by
 have HR0 := zad hr0; have HC0 := zad hc0; clear hr0 hc0; have HR1 := zad hr1; have HC1 := zad hc1; clear hr1 hc1; have HB := zad (Below.refl w.heap.size w)
 have H : ((spec_liFit.f k l0 l1).bind fun t834 => (if t834 = true then ((spec_liOver.f k l0 l1).bind fun t835 => (some (t835 == 0))) else (some false))) = some r := h
 clear h; replace H := zay.mp H; obtain ⟨t834, A30, H⟩ := H
 replace H : (if t834 = true then ((spec_liOver.f k l0 l1).bind fun t835 => (some (t835 == 0))) else (some false)) = some r := H
 have A3 := zad A30; clear A30; by_cases c4 : t834 = true
 · subst c4
   have H1 : ((spec_liOver.f k l0 l1).bind fun t835 => (some (t835 == 0))) = some r := by rw [if_pos rfl] at H; exact H
   clear H; have H := H1; clear H1; replace H := zay.mp H; obtain ⟨t835, A50, H⟩ := H
   replace H : (some (t835 == 0)) = some r := H
   have A5 := zad A50; clear A50; obtain rfl := zbe H
   go_enter Try.func117, Try.ntmps117
   go_wp2_with (first | ((with_reducible refine zbh (f := 114) rfl ?_); refine zbp (some 7) rfl rfl Try.func114 (by kernel_rfl) rfl #[.slice A0 l0.length c0, .slice A1 l1.length c1] rfl (taad) ?_; (with_reducible refine (spec_liFit.calls k _ _ l0 _ _ l1 true _ ?side1 ?side2 ?side3 ?side4 A3.out).mono ?_); (case side1 => repeat (first | exact HR0.out | (with_reducible refine zal ?_ _) | (with_reducible refine zam ?_ _) | (with_reducible refine zan ?_))); (case side2 => exact HC0.out); (case side3 => repeat (first | exact HR1.out | (with_reducible refine zal ?_ _) | (with_reducible refine zam ?_ _) | (with_reducible refine zan ?_))); (case side4 => exact HC1.out); rintro e w' ⟨rfl, ⟨nd, rfl⟩⟩; refine ⟨_, rfl, ?_⟩) | (go_at_call 115; (with_reducible refine (spec_liOver.calls k _ _ l0 _ _ l1 t835 _ ?side1 ?side2 ?side3 ?side4 A5.out).mono ?_); (case side1 => repeat (first | exact HR0.out | (with_reducible refine zal ?_ _) | (with_reducible refine zam ?_ _) | (with_reducible refine zan ?_))); (case side2 => exact HC0.out); (case side3 => repeat (first | exact HR1.out | (with_reducible refine zal ?_ _) | (with_reducible refine zam ?_ _) | (with_reducible refine zan ?_))); (case side4 => exact HC1.out); rintro e w6 ⟨rfl, hb⟩; have n0_ := zad (zbg (taab) hb); clear HB; have HB := n0_; clear n0_; (try clear hb); (try clear hb2); (try clear hk); (try clear hi)))
   go_ret
   exact ⟨taaj, taab⟩
 · replace c4 := zbi.mpr c4
   subst c4; have H1 : (some false) = some r := by rw [if_neg (show ¬ (false = true) by decide)] at H; exact H
   clear H; have H := H1; clear H1; obtain rfl := zbe H
   go_enter Try.func117, Try.ntmps117
   go_wp2_with (first | ((with_reducible refine zbh (f := 114) rfl ?_); refine zbp (some 7) rfl rfl Try.func114 (by kernel_rfl) rfl #[.slice A0 l0.length c0, .slice A1 l1.length c1] rfl (taad) ?_; (with_reducible refine (spec_liFit.calls k _ _ l0 _ _ l1 false _ ?side1 ?side2 ?side3 ?side4 A3.out).mono ?_); (case side1 => exact taga); (case side2 => exact HC0.out); (case side3 => exact tagb); (case side4 => exact HC1.out); rintro e w' ⟨rfl, ⟨nd, rfl⟩⟩; refine ⟨_, rfl, ?_⟩))
   go_ret
   exact ⟨taaj, taab⟩
def spec_l1In.f (a0 : Int) (a1 : Int) (a2 : Int) : Option (Bool) := if a0 ≥ a1 then (some (decide (a0 ≤ a2))) else (some false)
theorem spec_l1In.calls (a0 : Int) (a1 : Int) (a2 : Int) (r : Bool) (w : World) (h : spec_l1In.f a0 a1 a2 = some r) :
 Calls Try.prog 85 #[.int .i64 a0, .int .i64 a1, .int .i64 a2] w fun e w' => e = .returned (.bool r) ∧ Drawn0 w w' := by
 have H : (if a0 ≥ a1 then (some (decide (a0 ≤ a2))) else (some false)) = some r := h
 clear h; by_cases c4 : a0 ≥ a1
 · rw [if_pos c4] at H
   have c4b0 : decide (a1 ≤ a0) = true := zba c4
   clear c4; obtain rfl := zbe H
   go_enter Try.func85, Try.ntmps85
   go_wp2
   go_ret
   exact ⟨taag, taam⟩
 · rw [if_neg c4] at H
   have c4b0 : decide (a1 ≤ a0) = false := zbj c4
   clear c4; obtain rfl := zbe H
   go_enter Try.func85, Try.ntmps85
   go_wp2
   go_ret
   exact ⟨taag, taam⟩
def spec_l1All.l0 : Nat → Int → Int → List Int → Int → Int → Option (Bool)
 | 0, _, _, _, _, _ => none
 | k + 1, x1, x2, x9, x10, x11 => if x11 < x10 then (if 0 ≤ x11 then (if x11 < (x9.length : Int) then ((spec_l1In.f (rd x9 x11) x1 x2).bind fun t366 => (if t366 = true then (spec_l1All.l0 k x1 x2 x9 x10 (wrap64 (x11 + 1))) else (some false))) else (none)) else (none)) else (some true)
def spec_l1All.f (k : Nat) (l0 : List Int) (a1 : Int) (a2 : Int) : Option (Bool) := spec_l1All.l0 k a1 a2 l0 (l0.length : Int) 0
theorem spec_l1All.calls (k : Nat) (A0 : Option Addr) (c0 : Nat) (l0 : List Int) (a1 : Int) (a2 : Int) (r : Bool) (w : World) (hr0 : Kd.C (Kd.int .i64) w A0 l0.length l0) (hc0 : l0.length ≤ c0) (h : spec_l1All.f k l0 a1 a2 = some r) :
 Calls Try.prog 95 #[.slice A0 l0.length c0, .int .i64 a1, .int .i64 a2] w fun e w' => e = .returned (.bool r) ∧ Drawn0 w w' := by
 have HR0 := zad hr0; have HC0 := zad hc0; clear hr0 hc0; have H : (spec_l1All.l0 k a1 a2 l0 (l0.length : Int) 0) = some r := h
 clear h; have H' := zad H
 clear H; go_enter Try.func95, Try.ntmps95
 go_wp2
 go_loopg [11] k (fun kq v11 w' => ∃ (x11_1 : Int), v11 = .int .i64 x11_1 ∧ Aside0 (spec_l1All.l0 kq a1 a2 l0 (l0.length : Int) x11_1 = some r) ∧ Aside0 (kq ≤ k) ∧ Drawn0 w w')
 case atStart => exact ⟨(0), (taag), H', ⟨zch _⟩, taam⟩
 case round =>
  clear H'
  try clear p2
  obtain ⟨x11_1, rfl, HA, HK1, ⟨m1, rfl⟩⟩ := hrel
  cases gk with
  | zero => exact absurd HA.out (by simp [spec_l1All.l0])
  | succ k1 =>
   have H := HA.out
   clear HA; simp only [spec_l1All.l0] at H
   by_cases c4 : x11_1 < (l0.length : Int)
   · rw [if_pos c4] at H
     have c4b0 : decide (x11_1 < (l0.length : Int)) = true := zba c4
     clear c4; by_cases c5 : 0 ≤ x11_1
     · rw [if_pos c5] at H
       have c5b0 : decide (0 ≤ x11_1) = true := zba c5
       clear c5; by_cases c6 : x11_1 < (l0.length : Int)
       · rw [if_pos c6] at H
         have c6b0 : decide (x11_1 < (l0.length : Int)) = true := zba c6
         clear c6; replace H := zay.mp H; obtain ⟨t366, A70, H⟩ := H
         replace H : (if t366 = true then (spec_l1All.l0 k1 a1 a2 l0 (l0.length : Int) (wrap64 (x11_1 + 1))) else (some false)) = some r := H
         have A7 := zad A70; clear A70; by_cases c8 : t366 = true
         · subst c8
           have H1 : (spec_l1All.l0 k1 a1 a2 l0 (l0.length : Int) (wrap64 (x11_1 + 1))) = some r := by rw [if_pos rfl] at H; exact H
           clear H; have H := H1; clear H1; have H' := zad H
           clear H; have p365 : 0 ≤ (x11_1 : Int) := zas (taaa)
           have q365 : x11_1 < (l0.length : Int) := zas (taaa)
           obtain ⟨ad365, e365, hx365_0⟩ := zcc HR0.out x11_1 p365 q365
           cases e365
           replace p365 := eq_true p365
           replace q365 := eq_true q365
           go_wp2_with (first | ((with_reducible refine zbh (f := 85) rfl ?_); refine zbp (some 18) rfl rfl Try.func85 (by kernel_rfl) rfl #[.int .i64 (rd l0 x11_1), .int .i64 a1, .int .i64 a2] rfl (taad) ?_; (with_reducible refine (spec_l1In.calls (rd l0 x11_1) a1 a2 true _ A7.out).mono ?_); rintro e w' ⟨rfl, ⟨nd, rfl⟩⟩; refine ⟨_, rfl, ?_⟩))
           go_roundg k1
           case measure => have := HK1.out; omega
           case rel => exact ⟨(wrap64 (x11_1 + 1)), (taag), H', ⟨taau⟩, taam⟩
         · replace c8 := zbi.mpr c8
           subst c8; have H1 : (some false) = some r := by rw [if_neg (show ¬ (false = true) by decide)] at H; exact H
           clear H; have H := H1; clear H1; obtain rfl := zbe H
           have p365 : 0 ≤ (x11_1 : Int) := zas (taaa)
           have q365 : x11_1 < (l0.length : Int) := zas (taaa)
           obtain ⟨ad365, e365, hx365_0⟩ := zcc HR0.out x11_1 p365 q365
           cases e365
           replace p365 := eq_true p365
           replace q365 := eq_true q365
           go_wp2_with (first | ((with_reducible refine zbh (f := 85) rfl ?_); refine zbp (some 18) rfl rfl Try.func85 (by kernel_rfl) rfl #[.int .i64 (rd l0 x11_1), .int .i64 a1, .int .i64 a2] rfl (taad) ?_; (with_reducible refine (spec_l1In.calls (rd l0 x11_1) a1 a2 false _ A7.out).mono ?_); rintro e w' ⟨rfl, ⟨nd, rfl⟩⟩; refine ⟨_, rfl, ?_⟩))
           go_ret
           exact ⟨taag, taam⟩
       · rw [if_neg c6] at H
         exact absurd H (taae)
     · rw [if_neg c5] at H
       exact absurd H (taae)
   · rw [if_neg c4] at H
     have c4b0 : decide (x11_1 < (l0.length : Int)) = false := zbj c4
     clear c4; obtain rfl := zbe H
     go_wp2
     go_ret
     exact ⟨taag, taam⟩
def spec_liGood.f (k : Nat) (l0 : List Int) : Option (Bool) := (spec_l1In.f (l0.length : Int) 1 8).bind fun t367 => (if t367 = true then ((spec_l1All.f k l0 0 60).bind fun t368 => (some t368)) else (some false))
theorem spec_liGood.calls (k : Nat) (A0 : Option Addr) (c0 : Nat) (l0 : List Int) (r : Bool) (w : World) (hr0 : Kd.C (Kd.int .i64) w A0 l0.length l0) (hc0 : l0.length ≤ c0) (h : spec_liGood.f k l0 = some r) :
 Calls Try.prog 94 #[.slice A0 l0.length c0] w fun e w' => e = .returned (.bool r) ∧ Drawn0 w w' := by
 have HR0 := zad hr0; have HC0 := zad hc0; clear hr0 hc0; have H : ((spec_l1In.f (l0.length : Int) 1 8).bind fun t367 => (if t367 = true then ((spec_l1All.f k l0 0 60).bind fun t368 => (some t368)) else (some false))) = some r := h
 clear h; replace H := zay.mp H; obtain ⟨t367, A20, H⟩ := H
 replace H : (if t367 = true then ((spec_l1All.f k l0 0 60).bind fun t368 => (some t368)) else (some false)) = some r := H
 have A2 := zad A20; clear A20; by_cases c3 : t367 = true
 · subst c3
   have H1 : ((spec_l1All.f k l0 0 60).bind fun t368 => (some t368)) = some r := by rw [if_pos rfl] at H; exact H
   clear H; have H := H1; clear H1; replace H := zay.mp H; obtain ⟨t368, A40, H⟩ := H
   replace H : (some t368) = some r := H
   have A4 := zad A40; clear A40; obtain rfl := zbe H
   go_enter Try.func94, Try.ntmps94
   go_wp2_with (first | ((with_reducible refine zbh (f := 85) rfl ?_); refine zbp (some 5) rfl rfl Try.func85 (by kernel_rfl) rfl #[.int .i64 (l0.length : Int), .int .i64 1, .int .i64 8] rfl (taad) ?_; (with_reducible refine (spec_l1In.calls (l0.length : Int) 1 8 true _ A2.out).mono ?_); rintro e w' ⟨rfl, ⟨nd, rfl⟩⟩; refine ⟨_, rfl, ?_⟩) | (go_at_call 95; (with_reducible refine (spec_l1All.calls k _ _ l0 0 60 t368 _ ?side1 ?side2 A4.out).mono ?_); (case side1 => repeat (first | exact HR0.out | (with_reducible refine zal ?_ _) | (with_reducible refine zam ?_ _) | (with_reducible refine zan ?_))); (case side2 => exact HC0.out); rintro e w' ⟨rfl, ⟨nd, rfl⟩⟩))
   go_ret
   exact ⟨taag, taam⟩
 · replace c3 := zbi.mpr c3
   subst c3; have H1 : (some false) = some r := by rw [if_neg (show ¬ (false = true) by decide)] at H; exact H
   clear H; have H := H1; clear H1; obtain rfl := zbe H
   go_enter Try.func94, Try.ntmps94
   go_wp2_with (first | ((with_reducible refine zbh (f := 85) rfl ?_); refine zbp (some 5) rfl rfl Try.func85 (by kernel_rfl) rfl #[.int .i64 (l0.length : Int), .int .i64 1, .int .i64 8] rfl (taad) ?_; (with_reducible refine (spec_l1In.calls (l0.length : Int) 1 8 false _ A2.out).mono ?_); rintro e w' ⟨rfl, ⟨nd, rfl⟩⟩; refine ⟨_, rfl, ?_⟩))
   go_ret
   exact ⟨taag, taam⟩
def spec_giLists.f (k : Nat) (l0 : List Int) (l1 : List Int) : Option (Bool) := (spec_liGood.f k l0).bind fun t1186 => (if t1186 = true then ((spec_liGood.f k l1).bind fun t1187 => (if t1187 = true then ((spec_liBelow.f k l0 l1).bind fun t1188 => (some t1188)) else (some false))) else (some false))
theorem spec_giLists.calls (k : Nat) (A0 : Option Addr) (c0 : Nat) (l0 : List Int) (A1 : Option Addr) (c1 : Nat) (l1 : List Int) (r : Bool) (w : World) (hr0 : Kd.C (Kd.int .i64) w A0 l0.length l0) (hc0 : l0.length ≤ c0) (hr1 : Kd.C (Kd.int .i64) w A1 l1.length l1) (hc1 : l1.length ≤ c1) (h : spec_giLists.f k l0 l1 = some r) :
 Calls Try.prog 130 #[.slice A0 l0.length c0, .slice A1 l1.length c1] w fun e w' => e = .returned (.bool r) ∧ Below w.heap.size w w' := by
 have HR0 := zad hr0; have HC0 := zad hc0; clear hr0 hc0; have HR1 := zad hr1; have HC1 := zad hc1; clear hr1 hc1; have HB := zad (Below.refl w.heap.size w)
 have H : ((spec_liGood.f k l0).bind fun t1186 => (if t1186 = true then ((spec_liGood.f k l1).bind fun t1187 => (if t1187 = true then ((spec_liBelow.f k l0 l1).bind fun t1188 => (some t1188)) else (some false))) else (some false))) = some r := h
 clear h; replace H := zay.mp H; obtain ⟨t1186, A30, H⟩ := H
 replace H : (if t1186 = true then ((spec_liGood.f k l1).bind fun t1187 => (if t1187 = true then ((spec_liBelow.f k l0 l1).bind fun t1188 => (some t1188)) else (some false))) else (some false)) = some r := H
 have A3 := zad A30; clear A30; by_cases c4 : t1186 = true
 · subst c4
   have H1 : ((spec_liGood.f k l1).bind fun t1187 => (if t1187 = true then ((spec_liBelow.f k l0 l1).bind fun t1188 => (some t1188)) else (some false))) = some r := by rw [if_pos rfl] at H; exact H
   clear H; have H := H1; clear H1; replace H := zay.mp H; obtain ⟨t1187, A50, H⟩ := H
   replace H : (if t1187 = true then ((spec_liBelow.f k l0 l1).bind fun t1188 => (some t1188)) else (some false)) = some r := H
   have A5 := zad A50; clear A50; by_cases c6 : t1187 = true
   · subst c6
     have H1 : ((spec_liBelow.f k l0 l1).bind fun t1188 => (some t1188)) = some r := by rw [if_pos rfl] at H; exact H
     clear H; have H := H1; clear H1; replace H := zay.mp H; obtain ⟨t1188, A70, H⟩ := H
     replace H : (some t1188) = some r := H
     have A7 := zad A70; clear A70; obtain rfl := zbe H
     go_enter Try.func130, Try.ntmps130
     go_wp2_with (first | ((with_reducible refine zbh (f := 94) rfl ?_); refine zbp (some 6) rfl rfl Try.func94 (by kernel_rfl) rfl #[.slice A0 l0.length c0] rfl (taad) ?_; (with_reducible refine (spec_liGood.calls k _ _ l0 true _ ?side1 ?side2 A3.out).mono ?_); (case side1 => repeat (first | exact HR0.out | (with_reducible refine zal ?_ _) | (with_reducible refine zam ?_ _) | (with_reducible refine zan ?_))); (case side2 => exact HC0.out); rintro e w' ⟨rfl, ⟨nd, rfl⟩⟩; refine ⟨_, rfl, ?_⟩) | (go_at_call 94; (with_reducible refine (spec_liGood.calls k _ _ l1 true _ ?side1 ?side2 A5.out).mono ?_); (case side1 => repeat (first | exact HR1.out | (with_reducible refine zal ?_ _) | (with_reducible refine zam ?_ _) | (with_reducible refine zan ?_))); (case side2 => exact HC1.out); rintro e w' ⟨rfl, ⟨nd, rfl⟩⟩) | (go_at_call 117; (with_reducible refine (spec_liBelow.calls k _ _ l0 _ _ l1 t1188 _ ?side1 ?side2 ?side3 ?side4 A7.out).mono ?_); (case side1 => repeat (first | exact HR0.out | (with_reducible refine zal ?_ _) | (with_reducible refine zam ?_ _) | (with_reducible refine zan ?_))); (case side2 => exact HC0.out); (case side3 => repeat (first | exact HR1.out | (with_reducible refine zal ?_ _) | (with_reducible refine zam ?_ _) | (with_reducible refine zan ?_))); (case side4 => exact HC1.out); rintro e w8 ⟨rfl, hb⟩; have n0_ := zad (zbg (taab) hb); clear HB; have HB := n0_; clear n0_; (try clear hb); (try clear hb2); (try clear hk); (try clear hi)))
     go_ret
     exact ⟨taaj, taab⟩
   · replace c6 := zbi.mpr c6
     subst c6; have H1 : (some false) = some r := by rw [if_neg (show ¬ (false = true) by decide)] at H; exact H
     clear H; have H := H1; clear H1; obtain rfl := zbe H
     go_enter Try.func130, Try.ntmps130
     go_wp2_with (first | ((with_reducible refine zbh (f := 94) rfl ?_); refine zbp (some 6) rfl rfl Try.func94 (by kernel_rfl) rfl #[.slice A0 l0.length c0] rfl (taad) ?_; (with_reducible refine (spec_liGood.calls k _ _ l0 true _ ?side1 ?side2 A3.out).mono ?_); (case side1 => repeat (first | exact HR0.out | (with_reducible refine zal ?_ _) | (with_reducible refine zam ?_ _) | (with_reducible refine zan ?_))); (case side2 => exact HC0.out); rintro e w' ⟨rfl, ⟨nd, rfl⟩⟩; refine ⟨_, rfl, ?_⟩) | (go_at_call 94; (with_reducible refine (spec_liGood.calls k _ _ l1 false _ ?side1 ?side2 A5.out).mono ?_); (case side1 => repeat (first | exact HR1.out | (with_reducible refine zal ?_ _) | (with_reducible refine zam ?_ _) | (with_reducible refine zan ?_))); (case side2 => exact HC1.out); rintro e w' ⟨rfl, ⟨nd, rfl⟩⟩))
     go_ret
     exact ⟨taaj, taab⟩
 · replace c4 := zbi.mpr c4
   subst c4; have H1 : (some false) = some r := by rw [if_neg (show ¬ (false = true) by decide)] at H; exact H
   clear H; have H := H1; clear H1; obtain rfl := zbe H
   go_enter Try.func130, Try.ntmps130
   go_wp2_with (first | ((with_reducible refine zbh (f := 94) rfl ?_); refine zbp (some 6) rfl rfl Try.func94 (by kernel_rfl) rfl #[.slice A0 l0.length c0] rfl (taad) ?_; (with_reducible refine (spec_liGood.calls k _ _ l0 false _ ?side1 ?side2 A3.out).mono ?_); (case side1 => exact taga); (case side2 => exact HC0.out); rintro e w' ⟨rfl, ⟨nd, rfl⟩⟩; refine ⟨_, rfl, ?_⟩))
   go_ret
   exact ⟨taaj, taab⟩
def spec_giDo.f (l0 : List Int) (a1_0 : Int) (a1_1 : Int) (a1_2 : Int) : Option (List Int) := (spec_l1Own.f l0).bind fun t495 => (if 0 ≤ a1_0 then (if a1_0 < (t495.length : Int) then ((some (t495.set (a1_0 : Int).toNat (wrap64 ((rd t495 a1_0) - a1_2)) : List Int)).bind fun y499 => (if 0 ≤ a1_1 then (if a1_1 < (t495.length : Int) then (some (y499.set (a1_1 : Int).toNat (wrap64 ((rd y499 a1_1) + a1_2)))) else (none)) else (none))) else (none)) else (none))
def spec_giDo.T2 : Bool × List (List Nat × List Nat) := (true, [([], []), ([], []), ([1], [1]), ([0, 2], [0, 2]), ([3], [3]), ([], []), ([5], [5]), ([4, 6], [4, 6]), ([0, 2, 0, 1, 2, 3, 4, 5, 6, 7], [0, 2]), ([8, 7, 0, 1, 2, 3, 4, 5, 6, 7], [7, 8])])
def spec_giDo.B2 : List Nat := [0, 0, 2, 7, 15, 0, 32, 127, 255, 511]
theorem spec_giDo.tab2 : rtab .any (opsOf Try.f101 2) = spec_giDo.T2 := by kernel_rfl
theorem spec_giDo.bits2 : waitsOk spec_giDo.T2.2 spec_giDo.B2 = true := by kernel_rfl
def spec_giDo.T3 : Bool × List (List Nat × List Nat) := (true, [([], []), ([], []), ([1], [1]), ([0, 2], [0, 2]), ([3], [3]), ([], []), ([5], [5]), ([4, 6], [4, 6]), ([0, 2, 0, 1, 2, 3, 4, 5, 6, 7], [0, 2]), ([8, 7, 0, 1, 2, 3, 4, 5, 6, 7], [7, 8])])
def spec_giDo.B3 : List Nat := [0, 0, 2, 7, 15, 0, 32, 127, 255, 511]
theorem spec_giDo.tab3 : rtab .any (opsOf Try.f101 3) = spec_giDo.T3 := by kernel_rfl
theorem spec_giDo.bits3 : waitsOk spec_giDo.T3.2 spec_giDo.B3 = true := by kernel_rfl
theorem spec_giDo.calls (A0 : Option Addr) (c0 : Nat) (l0 : List Int) (a1_0 : Int) (a1_1 : Int) (a1_2 : Int) (r : List Int) (w : World) (hr0 : Kd.C (Kd.int .i64) w A0 l0.length l0) (hc0 : l0.length ≤ c0) (h : spec_giDo.f l0 a1_0 a1_1 a1_2 = some r) :
 Calls Try.prog 101 #[.slice A0 l0.length c0, .agg #[.int .i64 a1_0, .int .i64 a1_1, .int .i64 a1_2]] w fun e w' => ∃ v0_ : Value, e = .returned (v0_) ∧ Kd.R (Kd.int .i64) 3 w' w.heap.size (fun _ => True) v0_ r ∧ Below w.heap.size w w' := by
 have hu39 := Try.underlying39
 have HR0 := zad hr0; have HC0 := zad hc0; clear hr0 hc0; have HB := zad (Below.refl w.heap.size w)
 have H : ((spec_l1Own.f l0).bind fun t495 => (if 0 ≤ a1_0 then (if a1_0 < (t495.length : Int) then ((some (t495.set (a1_0 : Int).toNat (wrap64 ((rd t495 a1_0) - a1_2)) : List Int)).bind fun y499 => (if 0 ≤ a1_1 then (if a1_1 < (t495.length : Int) then (some (y499.set (a1_1 : Int).toNat (wrap64 ((rd y499 a1_1) + a1_2)))) else (none)) else (none))) else (none)) else (none))) = some r := h
 clear h; replace H := zay.mp H; obtain ⟨t495, A30, H⟩ := H
 replace H : (if 0 ≤ a1_0 then (if a1_0 < (t495.length : Int) then ((some (t495.set (a1_0 : Int).toNat (wrap64 ((rd t495 a1_0) - a1_2)) : List Int)).bind fun y499 => (if 0 ≤ a1_1 then (if a1_1 < (t495.length : Int) then (some (y499.set (a1_1 : Int).toNat (wrap64 ((rd y499 a1_1) + a1_2)))) else (none)) else (none))) else (none)) else (none)) = some r := H
 have A3 := zad A30; clear A30; by_cases c4 : 0 ≤ a1_0
 · rw [if_pos c4] at H
   have c4b0 : decide (0 ≤ a1_0) = true := zba c4
   clear c4; by_cases c5 : a1_0 < (t495.length : Int)
   · rw [if_pos c5] at H
     have c5b0 : decide (a1_0 < (t495.length : Int)) = true := zba c5
     clear c5; obtain ⟨y499, hy499⟩ : ∃ y_ : List Int, y_ = (t495.set (a1_0 : Int).toNat (wrap64 ((rd t495 a1_0) - a1_2))) := ⟨_, rfl⟩
     replace H : (if 0 ≤ a1_1 then (if a1_1 < (t495.length : Int) then (some (y499.set (a1_1 : Int).toNat (wrap64 ((rd y499 a1_1) + a1_2)))) else (none)) else (none)) = some r := by first | (rw [hy499]; with_reducible exact H) | (have H2_ := (zbd _ _).symm.trans H; rw [hy499]; with_reducible exact H2_) | (have H2_ := (zbd _ _).symm.trans H; with_reducible exact H2_) | with_reducible exact H | (rw [hy499]; exact H) | exact H
     have Ny499 := zad hy499; clear hy499; by_cases c7 : 0 ≤ a1_1
     · rw [if_pos c7] at H
       have c7b0 : decide (0 ≤ a1_1) = true := zba c7
       clear c7; by_cases c8 : a1_1 < (t495.length : Int)
       · rw [if_pos c8] at H
         have c8b0 : decide (a1_1 < (t495.length : Int)) = true := zba c8
         clear c8; obtain ⟨y501, hy501⟩ : ∃ y_ : List Int, y_ = (y499.set (a1_1 : Int).toNat (wrap64 ((rd y499 a1_1) + a1_2))) := ⟨_, rfl⟩
         replace H : (some y501) = some r := by first | (rw [hy501]; with_reducible exact H) | (have H2_ := (zbd _ _).symm.trans H; rw [hy501]; with_reducible exact H2_) | (have H2_ := (zbd _ _).symm.trans H; with_reducible exact H2_) | with_reducible exact H | (rw [hy501]; exact H) | exact H
         have Ny501 := zad hy501; clear hy501; obtain rfl := zbe H
         go_enter Try.func101, Try.ntmps101
         try go_wp2_with (first | ((with_reducible refine gate_dst (N := 3) rfl ?_); refine box_event ?hg (N := 3) ?hd (cs := #[.int .i64 a1_0, .int .i64 a1_1, .int .i64 a1_2]) (t := 39) ?hr ?_; (case hd => rfl); (case hg => rfl); (case hr => first | (go_simp; done) | (go_simp; rfl)); intro gb494 hg w10 hbox hb; have n0_ := zad (zbg (taab) hb); have n1_ := zad (hbox); have n2_ := zad ((tafj : w.heap.size ≤ gb494)); have n3_ := zad ((tafj : w.heap.size ≤ gb494)); clear HB; have HB := n0_; have BK494 := n1_; have GW494 := n2_; have GE494 := n3_; clear n0_ n1_ n2_ n3_ hb hbox hg) | ((with_reducible refine zbh (f := 111) rfl ?_); refine zbp (some 7) rfl rfl Try.func111 (by kernel_rfl) rfl #[.slice A0 l0.length c0] rfl (taad) ?_; (with_reducible refine (spec_l1Own.calls _ _ l0 t495 _ ?side1 ?side2 A3.out).mono ?_); (case side1 => exact tagc); (case side2 => exact HC0.out); rintro e w11 ⟨v496, rfl, ho0, hb⟩; refine ⟨_, rfl, ?_⟩; have n0_ := zad (zbw ho0 (zbm (taer))); have n1_ := zad (blk_below (g := gb494) (o := .cells #[.int .i64 a1_0, .int .i64 a1_1, .int .i64 a1_2] 39 (0, 0)) (by (with_reducible repeat (first | refine blk_drewN ?_ _ | refine blk_drew ?_ | refine blk_alloc ?_ _)); exact BK494.out) hb); have n2_ := zad (zbg (taer) hb); clear BK494 HB; have HO497 := n0_; have BK494 := n1_; have HB := n2_; clear n0_ n1_ n2_; (try clear hb); (try clear hb2); (try clear hk); (try clear hi); (try clear ho0)))
         have n0_ := zad (zak HO497.out)
         have n1_ := zad (blk_drew BK494.out)
         have n2_ := zad (zaf HB.out)
         clear HO497 BK494 HB; have HO497 := n0_; have BK494 := n1_; have HB := n2_; clear n0_ n1_ n2_; obtain ⟨Ao13, co13, eo13⟩ := zbx HO497.out
         (first | subst eo13 | (injection eo13 with f1_ f2_ f3_; have f4_ := f1_.symm; have f5_ := f3_.symm; clear f1_ f2_ f3_; subst f4_; subst f5_))
         have p498 : 0 ≤ (a1_0 : Int) := zas (taaa)
         have q498 : a1_0 < (t495.length : Int) := zas (taaa)
         obtain ⟨ad498, e498, hx498_0⟩ := zcc (zbf HO497.out).2.2 a1_0 p498 q498
         cases e498
         replace p498 := eq_true p498
         replace q498 := eq_true q498
         have p6 : 0 ≤ (a1_0 : Int) := zas (taaa)
         have q6 : (a1_0 : Int) < ((t495.length : Int) : Int) := zas (taaa)
         obtain ⟨go6, co6, eo6, gb6, gl6, cl6, HG6⟩ := Kd.R_form HO497.out (by omega)
         (first | cases eo6 | (injection eo6 with ea_ en_ ec_; (first | subst ea_ | (injection ea_ with ea_; subst ea_)); subst ec_; clear en_))
         have GB6 := zad gb6; have GG6 := zad HG6; clear gb6 gl6 HG6; (first | simp only [add_plain] at hx498_0 | skip)
         obtain ⟨hx6_0, hf6_0⟩ := Kd.R_celln 0 HO497.out (a1_0 : Int) p6 q6
         replace p6 := eq_true p6
         replace q6 := eq_true q6
         have HP14 := Kd.R_putn HO497.out (a1_0 : Int) (wrap64 ((rd t495 a1_0) - a1_2))
         rw [← Ny499.out] at HP14
         have HQ14 := zad HP14; clear HP14; refine start_ (n := 10) (S := fun w' => w'.cell? ⟨gb494, 0, none⟩ = some (.int .i64 a1_0) ∧ w'.cell? ⟨gb494, 1, none⟩ = some (.int .i64 a1_1) ∧ w'.cell? ⟨gb494, 2, none⟩ = some (.int .i64 a1_2) ∧ w'.cell? ⟨go6, (a1_0).toNat, none⟩ = some (.int .i64 (rd t495 a1_0))) (ds := [9]) #[false, false, false, false, false, false, false, false, false, false] (by kernel_rfl) rfl rfl ⟨(zbk BK494.out 0).trans rfl, (zbk BK494.out 1).trans rfl, (zbk BK494.out 2).trans rfl, hx498_0⟩ (fun hHeld => ?_); refine with_tabW spec_giDo.tab2 spec_giDo.bits2 (fun HT_ HW_ => ?_)
         generalize w11.drew = w12 at HO497 BK494 HB GG6 HQ14 hf6_0 hx498_0 hx6_0 hHeld ⊢
         refine pure_ (i := 0) (N := some 8) (v := ?_) (a' := ?_) taip rfl rfl (zca HT_.out (by kernel_rfl)) (fun _ _ _ h => h) (Or.inl ⟨by rfl, ?_⟩) ?_ ?_
         rotate_left
         · intro w'
           go_simp; with_reducible rfl
         rotate_left
         · simp only [Act.put, zaa, zab, zac, zby, zbz]
           rfl
         refine pure_ (i := 1) (N := some 9) (v := ?_) (a' := ?_) taiq rfl rfl (zca HT_.out (by kernel_rfl)) (fun _ _ _ h => h) (Or.inl ⟨by rfl, ?_⟩) ?_ ?_
         rotate_left
         · intro w'
           go_simp; with_reducible rfl
         rotate_left
         · simp only [Act.put, zaa, zab, zac, zby, zbz]
           rfl
         refine pure_ (i := 5) (N := some 13) (v := ?_) (a' := ?_) tair rfl rfl (zca HT_.out (by kernel_rfl)) (fun _ _ _ h => h) (Or.inl ⟨by rfl, ?_⟩) ?_ ?_
         rotate_left
         · intro w'
           go_simp; with_reducible rfl
         rotate_left
         · simp only [Act.put, zaa, zab, zac, zby, zbz]
           rfl
         refine take_ (i := 2) (N := some 10) (v := ?_) (a' := ?_) tais rfl rfl (zcb HT_.out HW_.out (by kernel_rfl)) (fun _ _ _ h => h) (Or.inl ⟨by rfl, ?_⟩) hHeld ?_ ?_
         rotate_left
         · rintro w' ⟨s0, s1, s2, s3⟩
           go_simp; with_reducible rfl
         rotate_left
         · simp only [Act.put, zaa, zab, zac, zby, zbz]
           rfl
         refine pure_ (i := 3) (N := some 11) (v := ?_) (a' := ?_) tait rfl rfl (zca HT_.out (by kernel_rfl)) (fun _ _ _ h => h) (Or.inl ⟨by rfl, ?_⟩) ?_ ?_
         rotate_left
         · intro w'
           go_simp; with_reducible rfl
         rotate_left
         · simp only [Act.put, zaa, zab, zac, zby, zbz]
           rfl
         refine take_ (i := 4) (N := some 12) (v := ?_) (a' := ?_) taiu rfl rfl (zcb HT_.out HW_.out (by kernel_rfl)) (fun _ _ _ h => h) (Or.inl ⟨by rfl, ?_⟩) hHeld ?_ ?_
         rotate_left
         · rintro w' ⟨s0, s1, s2, s3⟩
           go_simp; with_reducible rfl
         rotate_left
         · simp only [Act.put, zaa, zab, zac, zby, zbz]
           rfl
         refine take_ (i := 6) (N := some 14) (v := ?_) (a' := ?_) taiv rfl rfl (zcb HT_.out HW_.out (by kernel_rfl)) (fun _ _ _ h => h) (Or.inl ⟨by rfl, ?_⟩) hHeld ?_ ?_
         rotate_left
         · rintro w' ⟨s0, s1, s2, s3⟩
           go_simp; with_reducible rfl
         rotate_left
         · simp only [Act.put, zaa, zab, zac, zby, zbz]
           rfl
         refine pure_ (i := 7) (N := some 15) (v := ?_) (a' := ?_) taiw rfl rfl (zca HT_.out (by kernel_rfl)) (fun _ _ _ h => h) (Or.inl ⟨by rfl, ?_⟩) ?_ ?_
         rotate_left
         · intro w'
           go_simp; with_reducible rfl
         rotate_left
         · simp only [Act.put, zaa, zab, zac, zby, zbz]
           rfl
         refine pure_ (i := 8) (N := some 16) (v := ?_) (a' := ?_) taix rfl rfl (zca HT_.out (by kernel_rfl)) (fun _ _ _ h => h) (Or.inl ⟨by rfl, ?_⟩) ?_ ?_
         rotate_left
         · intro w'
           go_simp; with_reducible rfl
         rotate_left
         · simp only [Act.put, zaa, zab, zac, zby, zbz]
           rfl
         refine last_ (i := 9) (N := none) #[true, true, true, true, true, true, true, true, true, true] rfl rfl (one_of HT_.out (by kernel_rfl)) (by decide) (fun K hK => ?_)
         refine skip_ (w1 := ?_) (by rfl) rfl ?_ ?_
         rotate_left
         · go_simp
           rfl
         refine hK.out _ _ ?_
         clear hK K; refine done_ (done_of HT_.out (by kernel_rfl)) ?_
         try go_wp2
         have n0_ : Aside0 (Kd.R (Kd.int .i64) 3 (w12.setCell ⟨go6, (a1_0 : Int).toNat, none⟩ (.int .i64 (wrap64 ((rd t495 a1_0) - a1_2)))) w.heap.size (fun _ => True) (.slice (some ⟨go6, 0, none⟩) t495.length co13) y499) := ⟨tadu⟩
         have n1_ : Aside0 ((w12.setCell ⟨go6, (a1_0 : Int).toNat, none⟩ (.int .i64 (wrap64 ((rd t495 a1_0) - a1_2)))).heap[gb494]? = some (.cells #[.int .i64 a1_0, .int .i64 a1_1, .int .i64 a1_2] 39 (0, 0))) := ⟨by (with_reducible repeat (first | refine blk_drewN ?_ _ | refine blk_drew ?_ | refine blk_alloc ?_ _)); refine blk_far ?_ (by have h_ := Kd.R_ne HO497.out BK494.out (by decide); intro e_; exact h_ (by rw [e_]; rfl)) _; (with_reducible repeat (first | refine blk_drewN ?_ _ | refine blk_drew ?_ | refine blk_alloc ?_ _)); exact BK494.out⟩
         have n2_ : Aside0 (Below w.heap.size w (w12.setCell ⟨go6, (a1_0 : Int).toNat, none⟩ (.int .i64 (wrap64 ((rd t495 a1_0) - a1_2))))) := ⟨taes⟩
         (try clear HO497); (try clear BK494); (try clear HB); generalize (w12.setCell ⟨go6, (a1_0 : Int).toNat, none⟩ (.int .i64 (wrap64 ((rd t495 a1_0) - a1_2)))) = w15 at n0_ n1_ n2_ ⊢
         have HO497 := n0_; have BK494 := n1_; have HB := n2_; clear n0_ n1_ n2_; have n0_ := zad (zak HO497.out)
         have n1_ := zad (blk_drew BK494.out)
         have n2_ := zad (zaf HB.out)
         clear HO497 BK494 HB; have HO497 := n0_; have BK494 := n1_; have HB := n2_; clear n0_ n1_ n2_; have p500 : 0 ≤ (a1_1 : Int) := zas (taaa)
         have q500 : a1_1 < (y499.length : Int) := (by have h_ : (a1_1 : Int) < ((t495.length : Int) : Int) := zas (taaa); first | (have e_ := (zbf HO497.out).1; omega) | simpa only [Ny499.out, List.length_set] using h_)
         have ql500 : ((a1_1 : Int) < ((t495.length : Int) : Int)) = True := eq_true (zas (taaa))
         obtain ⟨ad500, e500, hx500_0⟩ := zcc (zbf HO497.out).2.2 a1_1 p500 q500
         obtain rfl : (⟨go6, 0, none⟩ : Addr) = ad500 := (by injection e500)
         (first | simp only [add_plain] at hx500_0 | simp only [add_at] at hx500_0 | simp only [Addr.add, Nat.zero_add] at hx500_0 | skip)
         replace p500 := eq_true p500
         replace q500 := eq_true q500
         have p9 : 0 ≤ (a1_1 : Int) := zas (taaa)
         have q9 : (a1_1 : Int) < ((t495.length : Int) : Int) := zas (taaa)
         obtain ⟨hx9_0, hf9_0⟩ := Kd.R_celln 0 HO497.out (a1_1 : Int) p9 q9
         replace p9 := eq_true p9
         replace q9 := eq_true q9
         have HP17 := Kd.R_putn HO497.out (a1_1 : Int) (wrap64 ((rd y499 a1_1) + a1_2))
         rw [← Ny501.out] at HP17
         have HQ17 := zad HP17; clear HP17; refine start_ (n := 10) (S := fun w' => w'.cell? ⟨gb494, 0, none⟩ = some (.int .i64 a1_0) ∧ w'.cell? ⟨gb494, 1, none⟩ = some (.int .i64 a1_1) ∧ w'.cell? ⟨gb494, 2, none⟩ = some (.int .i64 a1_2) ∧ w'.cell? ⟨go6, (a1_1).toNat, none⟩ = some (.int .i64 (rd y499 a1_1))) (ds := [9]) #[false, false, false, false, false, false, false, false, false, false] (by kernel_rfl) rfl rfl ⟨(zbk BK494.out 0).trans rfl, (zbk BK494.out 1).trans rfl, (zbk BK494.out 2).trans rfl, hx500_0⟩ (fun hHeld => ?_); refine with_tabW spec_giDo.tab3 spec_giDo.bits3 (fun HT_ HW_ => ?_)
         generalize w15.drew = w16 at HO497 BK494 HB HQ14 HQ17 hf9_0 hx500_0 hx9_0 hHeld ⊢
         refine pure_ (i := 0) (N := some 17) (v := ?_) (a' := ?_) taip rfl rfl (zca HT_.out (by kernel_rfl)) (fun _ _ _ h => h) (Or.inl ⟨by rfl, ?_⟩) ?_ ?_
         rotate_left
         · intro w'
           go_simp; with_reducible rfl
         rotate_left
         · simp only [Act.put, zaa, zab, zac, zby, zbz]
           rfl
         refine pure_ (i := 1) (N := some 18) (v := ?_) (a' := ?_) taiq rfl rfl (zca HT_.out (by kernel_rfl)) (fun _ _ _ h => h) (Or.inl ⟨by rfl, ?_⟩) ?_ ?_
         rotate_left
         · intro w'
           go_simp; with_reducible rfl
         rotate_left
         · simp only [Act.put, zaa, zab, zac, zby, zbz]
           rfl
         refine pure_ (i := 5) (N := some 22) (v := ?_) (a' := ?_) tair rfl rfl (zca HT_.out (by kernel_rfl)) (fun _ _ _ h => h) (Or.inl ⟨by rfl, ?_⟩) ?_ ?_
         rotate_left
         · intro w'
           go_simp; with_reducible rfl
         rotate_left
         · simp only [Act.put, zaa, zab, zac, zby, zbz]
           rfl
         refine take_ (i := 2) (N := some 19) (v := ?_) (a' := ?_) tais rfl rfl (zcb HT_.out HW_.out (by kernel_rfl)) (fun _ _ _ h => h) (Or.inl ⟨by rfl, ?_⟩) hHeld ?_ ?_
         rotate_left
         · rintro w' ⟨s0, s1, s2, s3⟩
           go_simp; with_reducible rfl
         rotate_left
         · simp only [Act.put, zaa, zab, zac, zby, zbz]
           rfl
         refine pure_ (i := 3) (N := some 20) (v := ?_) (a' := ?_) tait rfl rfl (zca HT_.out (by kernel_rfl)) (fun _ _ _ h => h) (Or.inl ⟨by rfl, ?_⟩) ?_ ?_
         rotate_left
         · intro w'
           go_simp; with_reducible rfl
         rotate_left
         · simp only [Act.put, zaa, zab, zac, zby, zbz]
           rfl
         refine take_ (i := 4) (N := some 21) (v := ?_) (a' := ?_) taiu rfl rfl (zcb HT_.out HW_.out (by kernel_rfl)) (fun _ _ _ h => h) (Or.inl ⟨by rfl, ?_⟩) hHeld ?_ ?_
         rotate_left
         · rintro w' ⟨s0, s1, s2, s3⟩
           go_simp; with_reducible rfl
         rotate_left
         · simp only [Act.put, zaa, zab, zac, zby, zbz]
           rfl
         refine take_ (i := 6) (N := some 23) (v := ?_) (a' := ?_) taiv rfl rfl (zcb HT_.out HW_.out (by kernel_rfl)) (fun _ _ _ h => h) (Or.inl ⟨by rfl, ?_⟩) hHeld ?_ ?_
         rotate_left
         · rintro w' ⟨s0, s1, s2, s3⟩
           go_simp; with_reducible rfl
         rotate_left
         · simp only [Act.put, zaa, zab, zac, zby, zbz]
           rfl
         refine pure_ (i := 7) (N := some 24) (v := ?_) (a' := ?_) taiw rfl rfl (zca HT_.out (by kernel_rfl)) (fun _ _ _ h => h) (Or.inl ⟨by rfl, ?_⟩) ?_ ?_
         rotate_left
         · intro w'
           go_simp; with_reducible rfl
         rotate_left
         · simp only [Act.put, zaa, zab, zac, zby, zbz]
           rfl
         refine pure_ (i := 8) (N := some 25) (v := ?_) (a' := ?_) taix rfl rfl (zca HT_.out (by kernel_rfl)) (fun _ _ _ h => h) (Or.inl ⟨by rfl, ?_⟩) ?_ ?_
         rotate_left
         · intro w'
           go_simp; with_reducible rfl
         rotate_left
         · simp only [Act.put, zaa, zab, zac, zby, zbz]
           rfl
         refine last_ (i := 9) (N := none) #[true, true, true, true, true, true, true, true, true, true] rfl rfl (one_of HT_.out (by kernel_rfl)) (by decide) (fun K hK => ?_)
         refine skip_ (w1 := ?_) (by rfl) rfl ?_ ?_
         rotate_left
         · go_simp
           rfl
         refine hK.out _ _ ?_
         clear hK K; refine done_ (done_of HT_.out (by kernel_rfl)) ?_
         try go_wp2
         go_ret
         exact ⟨_, taaj, tadw, taes⟩
       · rw [if_neg c8] at H
         exact absurd H (taae)
     · rw [if_neg c7] at H
       exact absurd H (taae)
   · rw [if_neg c5] at H
     exact absurd H (taae)
 · rw [if_neg c4] at H
   exact absurd H (taae)
def spec_l1Same.l0 : Nat → List Int → List Int → Int → Int → Option (Bool)
 | 0, _, _, _, _ => none
 | k + 1, x0, x1, x12, x13 => if x13 < x12 then (if 0 ≤ x13 then (if x13 < (x0.length : Int) then (if x13 < (x1.length : Int) then (if (rd x0 x13) = (rd x1 x13) then (spec_l1Same.l0 k x0 x1 x12 (wrap64 (x13 + 1))) else (some false)) else (none)) else (none)) else (none)) else (some true)
def spec_l1Same.f (k : Nat) (l0 : List Int) (l1 : List Int) : Option (Bool) := if (l0.length : Int) = (l1.length : Int) then (spec_l1Same.l0 k l0 l1 (l0.length : Int) 0) else (some false)
theorem spec_l1Same.calls (k : Nat) (A0 : Option Addr) (c0 : Nat) (l0 : List Int) (A1 : Option Addr) (c1 : Nat) (l1 : List Int) (r : Bool) (w : World) (hr0 : Kd.C (Kd.int .i64) w A0 l0.length l0) (hc0 : l0.length ≤ c0) (hr1 : Kd.C (Kd.int .i64) w A1 l1.length l1) (hc1 : l1.length ≤ c1) (h : spec_l1Same.f k l0 l1 = some r) :
 Calls Try.prog 118 #[.slice A0 l0.length c0, .slice A1 l1.length c1] w fun e w' => e = .returned (.bool r) ∧ Drawn0 w w' := by
 have HR0 := zad hr0; have HC0 := zad hc0; clear hr0 hc0; have HR1 := zad hr1; have HC1 := zad hc1; clear hr1 hc1; have H : (if (l0.length : Int) = (l1.length : Int) then (spec_l1Same.l0 k l0 l1 (l0.length : Int) 0) else (some false)) = some r := h
 clear h; by_cases c3 : (l0.length : Int) = (l1.length : Int)
 · rw [if_pos c3] at H
   have c3b0 : ((l0.length : Int) == (l1.length : Int)) = true := beq_iff_eq.mpr c3
   have c3b1 : ((l0.length : Int) != (l1.length : Int)) = false := bne_eq_false_iff_eq.mpr c3
   have c3b2 : (l0.length == l1.length) = true := by first | simpa using c3 | (simp at c3 ⊢; omega)
   clear c3; have H' := zad H
   clear H; go_enter Try.func118, Try.ntmps118
   go_wp2
   repeat (go_quiet (fail); try go_wp2)
   go_loopg [13] k (fun kq v13 w' => ∃ (x13_1 : Int), v13 = .int .i64 x13_1 ∧ Aside0 (spec_l1Same.l0 kq l0 l1 (l0.length : Int) x13_1 = some r) ∧ Aside0 (kq ≤ k) ∧ Drawn0 w w')
   case atStart => exact ⟨(0), (taag), H', ⟨zch _⟩, taam⟩
   case round =>
    clear H'
    try clear c1
    try clear p2
    try clear c3
    try clear c3b0
    try clear c3b1
    try clear c3b2
    obtain ⟨x13_1, rfl, HA, HK1, ⟨m1, rfl⟩⟩ := hrel
    cases gk with
    | zero => exact absurd HA.out (by simp [spec_l1Same.l0])
    | succ k1 =>
     have H := HA.out
     clear HA; simp only [spec_l1Same.l0] at H
     by_cases c4 : x13_1 < (l0.length : Int)
     · rw [if_pos c4] at H
       have c4b0 : decide (x13_1 < (l0.length : Int)) = true := zba c4
       clear c4; by_cases c5 : 0 ≤ x13_1
       · rw [if_pos c5] at H
         have c5b0 : decide (0 ≤ x13_1) = true := zba c5
         clear c5; by_cases c6 : x13_1 < (l0.length : Int)
         · rw [if_pos c6] at H
           have c6b0 : decide (x13_1 < (l0.length : Int)) = true := zba c6
           clear c6; by_cases c7 : x13_1 < (l1.length : Int)
           · rw [if_pos c7] at H
             have c7b0 : decide (x13_1 < (l1.length : Int)) = true := zba c7
             clear c7; by_cases c8 : (rd l0 x13_1) = (rd l1 x13_1)
             · rw [if_pos c8] at H
               have c8b0 : ((rd l0 x13_1) == (rd l1 x13_1)) = true := beq_iff_eq.mpr c8
               have c8b1 : ((rd l0 x13_1) != (rd l1 x13_1)) = false := bne_eq_false_iff_eq.mpr c8
               clear c8; have H' := zad H
               clear H; have p843 : 0 ≤ (x13_1 : Int) := zas (taaa)
               have q843 : x13_1 < (l0.length : Int) := zas (taaa)
               obtain ⟨ad843, e843, hx843_0⟩ := zcc HR0.out x13_1 p843 q843
               cases e843
               replace p843 := eq_true p843
               replace q843 := eq_true q843
               have p844 : 0 ≤ (x13_1 : Int) := zas (taaa)
               have q844 : x13_1 < (l1.length : Int) := zas (taaa)
               obtain ⟨ad844, e844, hx844_0⟩ := zcc HR1.out x13_1 p844 q844
               cases e844
               replace p844 := eq_true p844
               replace q844 := eq_true q844
               go_wp2
               repeat (go_quiet (fail); try go_wp2)
               go_roundg k1
               case measure => have := HK1.out; omega
               case rel => exact ⟨(wrap64 (x13_1 + 1)), (taag), H', ⟨taau⟩, taam⟩
             · rw [if_neg c8] at H
               have c8b0 : ((rd l0 x13_1) == (rd l1 x13_1)) = false := zbq.mpr c8
               have c8b1 : ((rd l0 x13_1) != (rd l1 x13_1)) = true := bne_iff_ne.mpr c8
               obtain rfl := zbe H
               have p843 : 0 ≤ (x13_1 : Int) := zas (taaa)
               have q843 : x13_1 < (l0.length : Int) := zas (taaa)
               obtain ⟨ad843, e843, hx843_0⟩ := zcc HR0.out x13_1 p843 q843
               cases e843
               replace p843 := eq_true p843
               replace q843 := eq_true q843
               have p844 : 0 ≤ (x13_1 : Int) := zas (taaa)
               have q844 : x13_1 < (l1.length : Int) := zas (taaa)
               obtain ⟨ad844, e844, hx844_0⟩ := zcc HR1.out x13_1 p844 q844
               cases e844
               replace p844 := eq_true p844
               replace q844 := eq_true q844
               go_wp2
               repeat (go_quiet (fail); try go_wp2)
               go_ret
               exact ⟨taag, taam⟩
           · rw [if_neg c7] at H
             exact absurd H (taae)
         · rw [if_neg c6] at H
           exact absurd H (taae)
       · rw [if_neg c5] at H
         exact absurd H (taae)
     · rw [if_neg c4] at H
       have c4b0 : decide (x13_1 < (l0.length : Int)) = false := zbj c4
       clear c4; obtain rfl := zbe H
       go_wp2
       repeat (go_quiet (fail); try go_wp2)
       go_ret
       exact ⟨taag, taam⟩
 · rw [if_neg c3] at H
   have c3b0 : ((l0.length : Int) == (l1.length : Int)) = false := zbq.mpr c3
   have c3b1 : ((l0.length : Int) != (l1.length : Int)) = true := bne_iff_ne.mpr c3
   have c3b2 : (l0.length == l1.length) = false := by first | simpa using c3 | (simp at c3 ⊢; omega)
   obtain rfl := zbe H
   go_enter Try.func118, Try.ntmps118
   go_wp2
   repeat (go_quiet (fail); try go_wp2)
   go_ret
   exact ⟨taag, taam⟩
def spec_l1Least.f (a0 : Int) (a1 : Int) : Option (Int) := if a0 < a1 then (some a0) else (some a1)
theorem spec_l1Least.calls (a0 : Int) (a1 : Int) (r : Int) (w : World) (h : spec_l1Least.f a0 a1 = some r) :
 Calls Try.prog 120 #[.int .i64 a0, .int .i64 a1] w fun e w' => e = .returned (.int .i64 r) ∧ Drawn0 w w' := by
 have H : (if a0 < a1 then (some a0) else (some a1)) = some r := h
 clear h; by_cases c3 : a0 < a1
 · rw [if_pos c3] at H
   have c3b0 : decide (a0 < a1) = true := zba c3
   clear c3; obtain rfl := zbe H
   go_enter Try.func120, Try.ntmps120
   go_wp2
   go_ret
   exact ⟨taag, taam⟩
 · rw [if_neg c3] at H
   have c3b0 : decide (a0 < a1) = false := zbj c3
   clear c3; obtain rfl := zbe H
   go_enter Try.func120, Try.ntmps120
   go_wp2
   go_ret
   exact ⟨taag, taam⟩
mutual
def spec_giNext.l0 : Nat → List Int → List Int → Int → Option (Int × Int × Int)
 | 0, _, _, _ => none
 | k + 1, x0, x1, x5 => if 0 ≤ x5 then (if x5 < (x1.length : Int) then (if x5 < (x0.length : Int) then (if (rd x1 x5) ≥ (rd x0 x5) then (spec_giNext.l0 k x0 x1 (wrap64 (x5 + 1))) else (spec_giNext.l1 k x0 x1 x5 (wrap64 (x5 - 1)))) else (none)) else (none)) else (none)
def spec_giNext.l1 : Nat → List Int → List Int → Int → Int → Option (Int × Int × Int)
 | 0, _, _, _, _ => none
 | k + 1, x0, x1, x5, x6 => if 0 ≤ x6 then (if x6 < (x1.length : Int) then (if x6 < (x0.length : Int) then (if (rd x1 x6) ≤ (rd x0 x6) then (spec_giNext.l1 k x0 x1 x5 (wrap64 (x6 - 1))) else (some (x6, x5, 1))) else (none)) else (none)) else (none)
end
def spec_giNext.f (k : Nat) (l0 : List Int) (l1 : List Int) : Option (Int × Int × Int) := spec_giNext.l0 k l0 l1 0
theorem spec_giNext.calls (k : Nat) (A0 : Option Addr) (c0 : Nat) (l0 : List Int) (A1 : Option Addr) (c1 : Nat) (l1 : List Int) (r1 : Int) (r2 : Int) (r3 : Int) (w : World) (hr0 : Kd.C (Kd.int .i64) w A0 l0.length l0) (hc0 : l0.length ≤ c0) (hr1 : Kd.C (Kd.int .i64) w A1 l1.length l1) (hc1 : l1.length ≤ c1) (h : spec_giNext.f k l0 l1 = some (r1, r2, r3)) :
 Calls Try.prog 153 #[.slice A0 l0.length c0, .slice A1 l1.length c1] w fun e w' => e = .returned (.agg #[.int .i64 r1, .int .i64 r2, .int .i64 r3]) ∧ Below w.heap.size w w' := by
 have hu39 := Try.underlying39
 have HR0 := zad hr0; have HC0 := zad hc0; clear hr0 hc0; have HR1 := zad hr1; have HC1 := zad hc1; clear hr1 hc1; have HB := zad (Below.refl w.heap.size w)
 have H : (spec_giNext.l0 k l0 l1 0) = some (r1, r2, r3) := h
 clear h; have H' := zad H
 clear H; go_enter Try.func153, Try.ntmps153
 go_wp2_with (first | ((with_reducible refine gate_dst (N := 4) rfl ?_); refine box_event ?hg (N := 4) ?hd (cs := #[.int .i64 0, .int .i64 0, .int .i64 0]) (t := 39) ?hr ?_; (case hd => rfl); (case hg => rfl); (case hr => first | (go_simp; done) | (go_simp; rfl)); intro gb1189 hg w3 hbox hb; have n0_ := zad (zbg (taab) hb); have n1_ := zad (hbox); have n2_ := zad ((tafj : w.heap.size ≤ gb1189)); have n3_ := zad ((tafj : w.heap.size ≤ gb1189)); clear HB; have HB := n0_; have BK1189 := n1_; have GW1189 := n2_; have GE1189 := n3_; clear n0_ n1_ n2_ n3_ hb hbox hg))
 repeat (go_quiet (first | ((with_reducible refine gate_dst (N := 4) rfl ?_); refine box_event ?hg (N := 4) ?hd (cs := #[.int .i64 0, .int .i64 0, .int .i64 0]) (t := 39) ?hr ?_; (case hd => rfl); (case hg => rfl); (case hr => first | (go_simp; done) | (go_simp; rfl)); intro gb1189 hg w3 hbox hb; have n0_ := zad (zbg (taab) hb); have n1_ := zad (hbox); have n2_ := zad ((tafj : w.heap.size ≤ gb1189)); have n3_ := zad ((tafj : w.heap.size ≤ gb1189)); clear HB; have HB := n0_; have BK1189 := n1_; have GW1189 := n2_; have GE1189 := n3_; clear n0_ n1_ n2_ n3_ hb hbox hg)); try go_wp2_with (first | ((with_reducible refine gate_dst (N := 4) rfl ?_); refine box_event ?hg (N := 4) ?hd (cs := #[.int .i64 0, .int .i64 0, .int .i64 0]) (t := 39) ?hr ?_; (case hd => rfl); (case hg => rfl); (case hr => first | (go_simp; done) | (go_simp; rfl)); intro gb1189 hg w3 hbox hb; have n0_ := zad (zbg (taab) hb); have n1_ := zad (hbox); have n2_ := zad ((tafj : w.heap.size ≤ gb1189)); have n3_ := zad ((tafj : w.heap.size ≤ gb1189)); clear HB; have HB := n0_; have BK1189 := n1_; have GW1189 := n2_; have GE1189 := n3_; clear n0_ n1_ n2_ n3_ hb hbox hg)))
 go_loopg [5] k (fun kq v5 w' => ∃ (x5_1 : Int), v5 = .int .i64 x5_1 ∧ Aside0 (spec_giNext.l0 kq l0 l1 x5_1 = some (r1, r2, r3)) ∧ Aside0 (kq ≤ k) ∧ Aside0 (w'.heap[gb1189]? = some (.cells #[.int .i64 0, .int .i64 0, .int .i64 0] 39 (0, 0))) ∧ Aside0 (Below w.heap.size w w'))
 case atStart => exact ⟨(0), (taag), H', ⟨zch _⟩, ⟨tacv⟩, ⟨tacg⟩⟩
 case round =>
  clear H'
  try clear c1
  try clear p2
  obtain ⟨x5_1, rfl, HA, HK1, BK1189, HB⟩ := hrel
  cases gk with
  | zero => exact absurd HA.out (by simp [spec_giNext.l0])
  | succ k1 =>
   have H := HA.out
   clear HA; simp only [spec_giNext.l0] at H
   by_cases c4 : 0 ≤ x5_1
   · rw [if_pos c4] at H
     have c4b0 : decide (0 ≤ x5_1) = true := zba c4
     clear c4; by_cases c5 : x5_1 < (l1.length : Int)
     · rw [if_pos c5] at H
       have c5b0 : decide (x5_1 < (l1.length : Int)) = true := zba c5
       clear c5; by_cases c6 : x5_1 < (l0.length : Int)
       · rw [if_pos c6] at H
         have c6b0 : decide (x5_1 < (l0.length : Int)) = true := zba c6
         clear c6; by_cases c7 : (rd l1 x5_1) ≥ (rd l0 x5_1)
         · rw [if_pos c7] at H
           have c7b0 : decide ((rd l0 x5_1) ≤ (rd l1 x5_1)) = true := zba c7
           clear c7; have H' := zad H
           clear H; have p1190 : 0 ≤ (x5_1 : Int) := zas (taaa)
           have q1190 : x5_1 < (l1.length : Int) := zas (taaa)
           obtain ⟨ad1190, e1190, hx1190_0⟩ := zcc HR1.out x5_1 p1190 q1190
           cases e1190
           replace hx1190_0 := (HB.out.cell (zaz w _ hx1190_0)).trans hx1190_0
           replace p1190 := eq_true p1190
           replace q1190 := eq_true q1190
           have p1191 : 0 ≤ (x5_1 : Int) := zas (taaa)
           have q1191 : x5_1 < (l0.length : Int) := zas (taaa)
           obtain ⟨ad1191, e1191, hx1191_0⟩ := zcc HR0.out x5_1 p1191 q1191
           cases e1191
           replace hx1191_0 := (HB.out.cell (zaz w _ hx1191_0)).trans hx1191_0
           replace p1191 := eq_true p1191
           replace q1191 := eq_true q1191
           go_wp2
           repeat (go_quiet (fail); try go_wp2)
           go_roundg k1
           case measure => have := HK1.out; omega
           case rel => exact ⟨(wrap64 (x5_1 + 1)), (taag), H', ⟨taau⟩, ⟨tacv⟩, ⟨tacg⟩⟩
         · rw [if_neg c7] at H
           have c7b0 : decide ((rd l0 x5_1) ≤ (rd l1 x5_1)) = false := zbj c7
           clear c7; have H' := zad H
           clear H; have p1190 : 0 ≤ (x5_1 : Int) := zas (taaa)
           have q1190 : x5_1 < (l1.length : Int) := zas (taaa)
           obtain ⟨ad1190, e1190, hx1190_0⟩ := zcc HR1.out x5_1 p1190 q1190
           cases e1190
           replace hx1190_0 := (HB.out.cell (zaz w _ hx1190_0)).trans hx1190_0
           replace p1190 := eq_true p1190
           replace q1190 := eq_true q1190
           have p1191 : 0 ≤ (x5_1 : Int) := zas (taaa)
           have q1191 : x5_1 < (l0.length : Int) := zas (taaa)
           obtain ⟨ad1191, e1191, hx1191_0⟩ := zcc HR0.out x5_1 p1191 q1191
           cases e1191
           replace hx1191_0 := (HB.out.cell (zaz w _ hx1191_0)).trans hx1191_0
           replace p1191 := eq_true p1191
           replace q1191 := eq_true q1191
           go_wp2
           repeat (go_quiet (fail); try go_wp2)
           go_loopg [6] k1 (fun kq v6 w' => ∃ (x6_2 : Int), v6 = .int .i64 x6_2 ∧ Aside0 (spec_giNext.l1 kq l0 l1 x5_1 x6_2 = some (r1, r2, r3)) ∧ Aside0 (kq ≤ k1) ∧ Aside0 (w'.heap[gb1189]? = some (.cells #[.int .i64 0, .int .i64 0, .int .i64 0] 39 (0, 0))) ∧ Aside0 (Below w.heap.size w w'))
           case atStart => exact ⟨(wrap64 (x5_1 - 1)), (taag), H', ⟨zch _⟩, ⟨tacv⟩, ⟨tacg⟩⟩
           case round =>
            clear H'
            try clear c1
            try clear p1
            try clear q1
            try clear hx1
            try clear p2
            try clear c4
            try clear c4b0
            try clear c5
            try clear c5b0
            try clear c6
            try clear c6b0
            try clear p6
            try clear c7
            try clear c7b0
            try clear hx1190_0
            try clear hx1191_0
            try clear p1190
            try clear p1191
            try clear p2
            try clear q1190
            try clear q1191
            obtain ⟨x6_2, rfl, HA, HK2, BK1189, HB⟩ := hrel
            cases gk with
            | zero => exact absurd HA.out (by simp [spec_giNext.l1])
            | succ k2 =>
             have H := HA.out
             clear HA; simp only [spec_giNext.l1] at H
             by_cases c8 : 0 ≤ x6_2
             · rw [if_pos c8] at H
               have c8b0 : decide (0 ≤ x6_2) = true := zba c8
               clear c8; by_cases c9 : x6_2 < (l1.length : Int)
               · rw [if_pos c9] at H
                 have c9b0 : decide (x6_2 < (l1.length : Int)) = true := zba c9
                 clear c9; by_cases c10 : x6_2 < (l0.length : Int)
                 · rw [if_pos c10] at H
                   have c10b0 : decide (x6_2 < (l0.length : Int)) = true := zba c10
                   clear c10; by_cases c11 : (rd l1 x6_2) ≤ (rd l0 x6_2)
                   · rw [if_pos c11] at H
                     have c11b0 : decide ((rd l1 x6_2) ≤ (rd l0 x6_2)) = true := zba c11
                     clear c11; have H' := zad H
                     clear H; have p1192 : 0 ≤ (x6_2 : Int) := zas (taaa)
                     have q1192 : x6_2 < (l1.length : Int) := zas (taaa)
                     obtain ⟨ad1192, e1192, hx1192_0⟩ := zcc HR1.out x6_2 p1192 q1192
                     obtain rfl : ad1190 = ad1192 := (by injection e1192)
                     replace hx1192_0 := (HB.out.cell (zaz w _ hx1192_0)).trans hx1192_0
                     replace p1192 := eq_true p1192
                     replace q1192 := eq_true q1192
                     have p1193 : 0 ≤ (x6_2 : Int) := zas (taaa)
                     have q1193 : x6_2 < (l0.length : Int) := zas (taaa)
                     obtain ⟨ad1193, e1193, hx1193_0⟩ := zcc HR0.out x6_2 p1193 q1193
                     obtain rfl : ad1191 = ad1193 := (by injection e1193)
                     replace hx1193_0 := (HB.out.cell (zaz w _ hx1193_0)).trans hx1193_0
                     replace p1193 := eq_true p1193
                     replace q1193 := eq_true q1193
                     go_wp2
                     repeat (go_quiet (fail); try go_wp2)
                     go_roundg k2
                     case measure => have := HK1.out; have := HK2.out; omega
                     case rel => exact ⟨(wrap64 (x6_2 - 1)), (taag), H', ⟨tacd⟩, ⟨tacv⟩, ⟨tacg⟩⟩
                   · rw [if_neg c11] at H
                     have c11b0 : decide ((rd l1 x6_2) ≤ (rd l0 x6_2)) = false := zbj c11
                     clear c11; simp only [zbn, zbr] at H
                     obtain ⟨rfl, rfl, rfl⟩ := H
                     have p1192 : 0 ≤ (x6_2 : Int) := zas (taaa)
                     have q1192 : x6_2 < (l1.length : Int) := zas (taaa)
                     obtain ⟨ad1192, e1192, hx1192_0⟩ := zcc HR1.out x6_2 p1192 q1192
                     obtain rfl : ad1190 = ad1192 := (by injection e1192)
                     replace hx1192_0 := (HB.out.cell (zaz w _ hx1192_0)).trans hx1192_0
                     replace p1192 := eq_true p1192
                     replace q1192 := eq_true q1192
                     have p1193 : 0 ≤ (x6_2 : Int) := zas (taaa)
                     have q1193 : x6_2 < (l0.length : Int) := zas (taaa)
                     obtain ⟨ad1193, e1193, hx1193_0⟩ := zcc HR0.out x6_2 p1193 q1193
                     obtain rfl : ad1191 = ad1193 := (by injection e1193)
                     replace hx1193_0 := (HB.out.cell (zaz w _ hx1193_0)).trans hx1193_0
                     replace p1193 := eq_true p1193
                     replace q1193 := eq_true q1193
                     have hcz12_0 : wr.cell? ⟨gb1189, 0, none⟩ = some (.int .i64 0) := (zbk BK1189.out 0).trans rfl
                     have hcz12_1 : wr.cell? ⟨gb1189, 1, none⟩ = some (.int .i64 0) := (zbk BK1189.out 1).trans rfl
                     have hcz12_2 : wr.cell? ⟨gb1189, 2, none⟩ = some (.int .i64 0) := (zbk BK1189.out 2).trans rfl
                     have hfz12_0 := zbl BK1189.out 0
                     have hfz12_1 := zbl BK1189.out 1
                     have hfz12_2 := zbl BK1189.out 2
                     go_wp2
                     repeat (go_quiet (fail); try go_wp2)
                     refine bodyPost_ret (results_cell_row rfl _ _ gb1189 39 #[.int .i64 x6_2, .int .i64 x5_1, .int .i64 1] (0, 0) _ rfl (by (with_reducible repeat (first | refine blk_drewN ?_ _ | refine blk_drew ?_ | refine blk_alloc ?_ _)); refine blk_put (cs := #[.int .i64 x6_2, .int .i64 x5_1, .int .i64 0]) ?_ 2 _ rfl; (with_reducible repeat (first | refine blk_drewN ?_ _ | refine blk_drew ?_ | refine blk_alloc ?_ _)); refine blk_put (cs := #[.int .i64 x6_2, .int .i64 0, .int .i64 0]) ?_ 1 _ rfl; (with_reducible repeat (first | refine blk_drewN ?_ _ | refine blk_drew ?_ | refine blk_alloc ?_ _)); refine blk_put (cs := #[.int .i64 0, .int .i64 0, .int .i64 0]) ?_ 0 _ rfl; (with_reducible repeat (first | refine blk_drewN ?_ _ | refine blk_drew ?_ | refine blk_alloc ?_ _)); exact BK1189.out) Try.underlying39 rfl (by kernel_rfl)) rfl ?_
                     exact ⟨taaj, tacg⟩
                 · rw [if_neg c10] at H
                   exact absurd H (taae)
               · rw [if_neg c9] at H
                 exact absurd H (taae)
             · rw [if_neg c8] at H
               exact absurd H (taae)
       · rw [if_neg c6] at H
         exact absurd H (taae)
     · rw [if_neg c5] at H
       exact absurd H (taae)
   · rw [if_neg c4] at H
     exact absurd H (taae)
end Go.Proofs.Ytnlimjejllakoaa.A
