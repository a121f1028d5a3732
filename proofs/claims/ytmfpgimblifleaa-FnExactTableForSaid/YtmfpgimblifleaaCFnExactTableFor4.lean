/- What the law FnExactTableFor reaches, part 4: Lean functions with the same answers as the Go functions, the proofs that the Go code comes to these answers, and lemmas about them; no condition beyond those that each theorem names. -/
import Derived.Test.YtmfpgimblifleaaCFnExactTableForw1
import Derived.Test.YtmfpgimblifleaaCFnExactTableFor1
import Derived.Test.YtmfpgimblifleaaCFnExactTableFor2
import Derived.Test.YtmfpgimblifleaaCFnExactTableFor3
/- spec.TableFor: up to the gifts, and from the places on (as a function of its own, spec_TableForB). -/
namespace Go.Proofs.Ytmfpgimblifleaa.A
open Go.RowKit Go.Proofs.YtmfpgimblifleaaW.PrintWords Go.Proofs.YtmfpgimblifleaaW.PrintLast Go.Proofs.YtmfpgimblifleaaW.PrintMore
attribute [local go_sem] max2_int min2_int max_two min_two max_three min_three max_four min_four
set_option linter.unusedVariables false
set_option linter.unusedSimpArgs false

mutual
def spec_TableForB.l0 : Nat → List (List Int) → List Int → List Int → List (List Int) → Int → Int → Int → Option ((List (List Int)) × Bool)
 | 0, _, _, _, _, _, _, _ => none
 | k + 1, x9, x15, x16, x17, x18, x116, x117 => if x117 < x116 then (spec_TableForB.l1 k x9 x15 x16 x17 x18 x117 x116 x117 (x17.length : Int) 0) else (spec_TableForB.l2 k x17 x18 (x17.length : Int) 0)
def spec_TableForB.l1 : Nat → List (List Int) → List Int → List Int → List (List Int) → Int → Int → Int → Int → Int → Int → Option ((List (List Int)) × Bool)
 | 0, _, _, _, _, _, _, _, _, _, _ => none
 | k + 1, x9, x15, x16, x17, x18, x19, x116, x117, x121, x122 => if x122 < x121 then (if 0 ≤ x19 then (if x19 < (x17.length : Int) then (if x19 < (x15.length : Int) then (if 0 ≤ (rd x15 x19) then (if (rd x15 x19) < (x9.length : Int) then (if 0 ≤ x122 then (if x122 < (x16.length : Int) then (if 0 ≤ (rd x16 x122) then (if (rd x16 x122) < ((rd_L1 x9 (rd x15 x19)).length : Int) then (if x122 < ((rd_L1 x17 x19).length : Int) then ((some (x17.set (x19 : Int).toNat ((rd_L1 x17 x19).set (x122 : Int).toNat (rd (rd_L1 x9 (rd x15 x19)) (rd x16 x122))) : List (List Int))).bind fun y257 => (if x122 < ((rd_L1 y257 x19).length : Int) then ((spec_doGcd.f k x18 (rd (rd_L1 y257 x19) x122)).bind fun t260 => (spec_TableForB.l1 k x9 x15 x16 y257 t260 x19 x116 x117 x121 (wrap64 (x122 + 1)))) else (none))) else (none)) else (none)) else (none)) else (none)) else (none)) else (none)) else (none)) else (none)) else (none)) else (none)) else (spec_TableForB.l0 k x9 x15 x16 x17 x18 x116 (wrap64 (x117 + 1)))
def spec_TableForB.l2 : Nat → List (List Int) → Int → Int → Int → Option ((List (List Int)) × Bool)
 | 0, _, _, _, _ => none
 | k + 1, x17, x18, x156, x157 => if x157 < x156 then (spec_TableForB.l3 k x17 x18 x157 x156 x157 (x17.length : Int) 0) else ((spec_doIf.f k x17).bind fun bt261 => (some (bt261.1, bt261.2)))
def spec_TableForB.l3 : Nat → List (List Int) → Int → Int → Int → Int → Int → Int → Option ((List (List Int)) × Bool)
 | 0, _, _, _, _, _, _, _ => none
 | k + 1, x17, x18, x21, x156, x157, x161, x162 => if x162 < x161 then (if 0 ≤ x21 then (if x21 < (x17.length : Int) then (if 0 ≤ x162 then (if x162 < ((rd_L1 x17 x21).length : Int) then (if x18 = 0 then (none) else (spec_TableForB.l3 k (x17.set (x21 : Int).toNat ((rd_L1 x17 x21).set (x162 : Int).toNat (wrap64 (Int.tdiv (rd (rd_L1 x17 x21) x162) x18)))) x18 x21 x156 x157 x161 (wrap64 (x162 + 1)))) else (none)) else (none)) else (none)) else (none)) else (spec_TableForB.l2 k x17 x18 x156 (wrap64 (x157 + 1)))
end
def spec_TableForB.f (k : Nat) (l0 : List Int) (l1 : List Int) (l2 : List (List Int)) (a3 : Int) : Option ((List (List Int)) × Bool) := (spec_doPlaces.f k l0).bind fun t241 => ((spec_doPlaces.f k l1).bind fun t244 => ((spec_doEmpty.f k a3).bind fun t247 => (spec_TableForB.l0 k l2 t241 t244 t247 0 (t247.length : Int) 0)))
def spec_TableForB.T26 : Bool × List (List Nat × List Nat) := (true, [([], []), ([], []), ([0, 1], [0, 1]), ([2], [2]), ([], []), ([], []), ([], []), ([], []), ([6, 7], [6, 7]), ([8], [8]), ([5, 9], [5, 9]), ([10], [10]), ([], []), ([], []), ([12, 13], [12, 13]), ([14], [14]), ([11, 15], [11, 15]), ([16], [16]), ([3, 4, 0, 1, 2, 3, 4, 5, 6, 7, 8, 9, 10, 11, 12, 13, 14, 15, 16, 17], [3, 4]), ([18, 17, 0, 1, 2, 3, 4, 5, 6, 7, 8, 9, 10, 11, 12, 13, 14, 15, 16, 17], [17, 18])])
def spec_TableForB.B26 : List Nat := [0, 0, 3, 7, 0, 0, 0, 0, 192, 448, 992, 2016, 0, 0, 12288, 28672, 65504, 131040, 262143, 524287]
theorem spec_TableForB.tab26 : rtab .any (opsOf Try.f4 26) = spec_TableForB.T26 := by kernel_rfl
theorem spec_TableForB.bits26 : waitsOk spec_TableForB.T26.2 spec_TableForB.B26 = true := by kernel_rfl
mutual
def spec_TableFor.j0 (TB_ : Nat → List (List Int) → Option ((List (List Int)) × Bool)) : Nat → List Int → List Int → Bool → Option ((List (List Int)) × Bool)
 | 0, _, _, _ => none
 | k + 1, x0, x1, x41 => if x41 = true then (some (([] : List (List Int)), false)) else ((spec_liRank.f k x1).bind fun t244 => ((spec_liRank.f k x0).bind fun t247 => ((spec_doEmpty.f k (x0.length : Int)).bind fun t250 => (spec_TableFor.l0 TB_ k (x0.length : Int) t244 t247 t250 (t250.length : Int) 0))))
def spec_TableFor.l0 (TB_ : Nat → List (List Int) → Option ((List (List Int)) × Bool)) : Nat → Int → List Int → List Int → List (List Int) → Int → Int → Option ((List (List Int)) × Bool)
 | 0, _, _, _, _, _, _ => none
 | k + 1, x6, x7, x8, x9, x51, x52 => if x52 < x51 then (if 0 ≤ x52 then (if x52 < (x9.length : Int) then (if x52 < ((rd_L1 x9 x52).length : Int) then (spec_TableFor.l0 TB_ k x6 x7 x8 (x9.set (x52 : Int).toNat ((rd_L1 x9 x52).set (x52 : Int).toNat 1)) x51 (wrap64 (x52 + 1))) else (none)) else (none)) else (none)) else ((spec_doStep.f k x7 x8).bind fun bt257 => (spec_TableFor.l1 TB_ k x6 x7 x8 x9 bt257.1 bt257.2.1 bt257.2.2.1 bt257.2.2.2))
def spec_TableFor.l1 (TB_ : Nat → List (List Int) → Option ((List (List Int)) × Bool)) : Nat → Int → List Int → List Int → List (List Int) → Int → Int → Int → Bool → Option ((List (List Int)) × Bool)
 | 0, _, _, _, _, _, _, _, _ => none
 | k + 1, x6, x7, x8, x9, x11, x12, x13, x14 => if x14 = true then (if 0 ≤ x11 then (if x11 < (x7.length : Int) then (if 0 ≤ x12 then (if x12 < (x7.length : Int) then ((spec_doGift.f k x6 x11 x12 (wrap64 ((rd x7 x11) - (rd x7 x12))) x13).bind fun t263 => ((spec_doTimes.f k t263 x9).bind fun t266 => ((some (x7.set (x11 : Int).toNat (wrap64 ((rd x7 x11) - x13)) : List Int)).bind fun y270 => ((some (y270.set (x12 : Int).toNat (wrap64 ((rd y270 x12) + x13)) : List Int)).bind fun y272 => ((spec_doStep.f k y272 x8).bind fun bt273 => (spec_TableFor.l1 TB_ k x6 y272 x8 t266 bt273.1 bt273.2.1 bt273.2.2.1 bt273.2.2.2)))))) else (none)) else (none)) else (none)) else (none)) else (TB_ k x9)
end
def spec_TableFor.f (k : Nat) (l0 : List Int) (l1 : List Int) : Option ((List (List Int)) × Bool) := (spec_liGood.f k l0).bind fun t241 => (if t241 = true then ((spec_liGood.f k l1).bind fun t242 => (if t242 = true then (if (l0.length : Int) > 4 then (spec_TableFor.j0 (fun q t => spec_TableForB.f q l0 l1 t (l0.length : Int)) k l0 l1 true) else ((spec_liBelow.f k l0 l1).bind fun t243 => (spec_TableFor.j0 (fun q t => spec_TableForB.f q l0 l1 t (l0.length : Int)) k l0 l1 (!t243)))) else (spec_TableFor.j0 (fun q t => spec_TableForB.f q l0 l1 t (l0.length : Int)) k l0 l1 true))) else (spec_TableFor.j0 (fun q t => spec_TableForB.f q l0 l1 t (l0.length : Int)) k l0 l1 true))
def spec_TableFor.T14 : Bool × List (List Nat × List Nat) := (true, [([], []), ([], []), ([], []), ([], []), ([], []), ([3, 4], [3, 4]), ([5], [5]), ([], []), ([], []), ([7, 8], [7, 8]), ([9], [9]), ([6, 10], [6, 10]), ([], []), ([0, 1, 2, 11, 12], [0, 1, 2, 11, 12]), ([], []), ([13, 14, 13], [13, 14]), ([15, 15, 0, 1, 2, 3, 4, 5, 6, 7, 8, 9, 10, 11, 12, 13, 14, 15], [14, 15])])
def spec_TableFor.B14 : List Nat := [0, 0, 0, 0, 0, 24, 56, 0, 0, 384, 896, 2040, 0, 8191, 0, 32767, 65535]
theorem spec_TableFor.tab14 : rtab .any (opsOf Try.f4 14) = spec_TableFor.T14 := by kernel_rfl
theorem spec_TableFor.bits14 : waitsOk spec_TableFor.T14.2 spec_TableFor.B14 = true := by kernel_rfl
set_option maxHeartbeats 8000000 in
set_option maxRecDepth 100000 in
theorem spec_TableFor.calls (k : Nat) (A0 : Option Addr) (c0 : Nat) (l0 : List Int) (A1 : Option Addr) (c1 : Nat) (l1 : List Int) (r1 : List (List Int)) (r2 : Bool) (w : World) (hr0 : Kd.C (Kd.int .i64) w A0 l0.length l0) (hc0 : l0.length ≤ c0) (hr1 : Kd.C (Kd.int .i64) w A1 l1.length l1) (hc1 : l1.length ≤ c1) (h : spec_TableFor.f k l0 l1 = some (r1, r2)) :
 Calls Try.prog 4 #[.slice A0 l0.length c0, .slice A1 l1.length c1] w fun e w' => ∃ v0_ : Value, e = .returned (.tuple #[v0_, .bool r2]) ∧ Kd.V (Kd.slice 3 (Kd.int .i64)) 22 w' w.heap.size (fun k_ => (w.heap.size ≤ k_)) v0_ r1 ∧ Below w.heap.size w w' := by
 have HR0 := Aside0.mk hr0
 have HC0 := Aside0.mk hc0
 clear hr0 hc0
 have HR1 := Aside0.mk hr1
 have HC1 := Aside0.mk hc1
 clear hr1 hc1
 have HB := Aside0.mk (Below.refl w.heap.size w)
 have H : ((spec_liGood.f k l0).bind fun t241 => (if t241 = true then ((spec_liGood.f k l1).bind fun t242 => (if t242 = true then (if (l0.length : Int) > 4 then (spec_TableFor.j0 (fun q t => spec_TableForB.f q l0 l1 t (l0.length : Int)) k l0 l1 true) else ((spec_liBelow.f k l0 l1).bind fun t243 => (spec_TableFor.j0 (fun q t => spec_TableForB.f q l0 l1 t (l0.length : Int)) k l0 l1 (!t243)))) else (spec_TableFor.j0 (fun q t => spec_TableForB.f q l0 l1 t (l0.length : Int)) k l0 l1 true))) else (spec_TableFor.j0 (fun q t => spec_TableForB.f q l0 l1 t (l0.length : Int)) k l0 l1 true))) = some (r1, r2) := h
 clear h
 have HC3 := Aside0.mk H
 clear H
 go_enter Try.func4, Try.ntmps4
 go_upto_region 1 with (fail)
 go_cut [41] (fun v41 wc => ∃ (kq : Nat) (x41_2 : Bool), v41 = .bool x41_2 ∧ Aside0 (spec_TableFor.j0 (fun q t => spec_TableForB.f q l0 l1 t (l0.length : Int)) kq l0 l1 x41_2 = some (r1, r2)) ∧ Aside0 (kq ≤ k) ∧ Aside0 (Below w.heap.size w wc))
 case first =>
  have H := HC3.out
  clear HC3
  replace H := Option.bind_eq_some_iff.mp H
  obtain ⟨t241, A40, H⟩ := H
  replace H : (if t241 = true then ((spec_liGood.f k l1).bind fun t242 => (if t242 = true then (if (l0.length : Int) > 4 then (spec_TableFor.j0 (fun q t => spec_TableForB.f q l0 l1 t (l0.length : Int)) k l0 l1 true) else ((spec_liBelow.f k l0 l1).bind fun t243 => (spec_TableFor.j0 (fun q t => spec_TableForB.f q l0 l1 t (l0.length : Int)) k l0 l1 (!t243)))) else (spec_TableFor.j0 (fun q t => spec_TableForB.f q l0 l1 t (l0.length : Int)) k l0 l1 true))) else (spec_TableFor.j0 (fun q t => spec_TableForB.f q l0 l1 t (l0.length : Int)) k l0 l1 true)) = some (r1, r2) := H
  have A4 := Aside0.mk A40
  clear A40
  by_cases c5 : t241 = true
  · subst c5
    have H1 : ((spec_liGood.f k l1).bind fun t242 => (if t242 = true then (if (l0.length : Int) > 4 then (spec_TableFor.j0 (fun q t => spec_TableForB.f q l0 l1 t (l0.length : Int)) k l0 l1 true) else ((spec_liBelow.f k l0 l1).bind fun t243 => (spec_TableFor.j0 (fun q t => spec_TableForB.f q l0 l1 t (l0.length : Int)) k l0 l1 (!t243)))) else (spec_TableFor.j0 (fun q t => spec_TableForB.f q l0 l1 t (l0.length : Int)) k l0 l1 true))) = some (r1, r2) := by rw [if_pos rfl] at H; exact H
    clear H
    have H := H1
    clear H1
    replace H := Option.bind_eq_some_iff.mp H
    obtain ⟨t242, A60, H⟩ := H
    replace H : (if t242 = true then (if (l0.length : Int) > 4 then (spec_TableFor.j0 (fun q t => spec_TableForB.f q l0 l1 t (l0.length : Int)) k l0 l1 true) else ((spec_liBelow.f k l0 l1).bind fun t243 => (spec_TableFor.j0 (fun q t => spec_TableForB.f q l0 l1 t (l0.length : Int)) k l0 l1 (!t243)))) else (spec_TableFor.j0 (fun q t => spec_TableForB.f q l0 l1 t (l0.length : Int)) k l0 l1 true)) = some (r1, r2) := H
    have A6 := Aside0.mk A60
    clear A60
    by_cases c7 : t242 = true
    · subst c7
      have H1 : (if (l0.length : Int) > 4 then (spec_TableFor.j0 (fun q t => spec_TableForB.f q l0 l1 t (l0.length : Int)) k l0 l1 true) else ((spec_liBelow.f k l0 l1).bind fun t243 => (spec_TableFor.j0 (fun q t => spec_TableForB.f q l0 l1 t (l0.length : Int)) k l0 l1 (!t243)))) = some (r1, r2) := by rw [if_pos rfl] at H; exact H
      clear H
      have H := H1
      clear H1
      by_cases c8 : (l0.length : Int) > 4
      · rw [if_pos c8] at H
        have c8b0 : decide (4 < (l0.length : Int)) = true := decide_eq_true c8
        have c8b1 : decide (4 < l0.length) = true := decide_eq_true (by omega)
        clear c8
        (first | rw [c8b0] | (simp only [i64_w, i32_w]; rw [c8b0]) | skip)
        have H' := Aside0.mk H
        clear H
        go_wp2_with (first | ((with_reducible refine gate_callee (f := 12) rfl ?_); refine goesL_ (some 24) rfl rfl Try.func12 (by kernel_rfl) rfl #[.slice A0 l0.length c0] rfl (by (try simp only [List.map_toArray, List.map_cons, List.map_nil]); first | done | rfl | (simp only [List.length_drop, List.length_take]; rfl)) ?_; (with_reducible refine (spec_liGood.calls k _ _ l0 true _ ?side1 ?side2 A4.out).mono ?_); (case side1 => repeat (first | exact (Kd.C_below HR0.out HB.out) | (with_reducible refine Kd.C_alloc ?_ _) | (with_reducible refine Kd.C_drewN ?_ _) | (with_reducible refine Kd.C_drew ?_))); (case side2 => exact HC0.out); rintro e w' ⟨rfl, ⟨nd, rfl⟩⟩; refine ⟨_, rfl, ?_⟩) | (go_at_call 12; (with_reducible refine (spec_liGood.calls k _ _ l1 true _ ?side1 ?side2 A6.out).mono ?_); (case side1 => repeat (first | exact (Kd.C_below HR1.out (by repeat (first | (with_reducible first | exact HB.out | apply below_alloc | apply pw_below_drewN | apply below_drew1) | exact HB.out))) | (with_reducible refine Kd.C_alloc ?_ _) | (with_reducible refine Kd.C_drewN ?_ _) | (with_reducible refine Kd.C_drew ?_))); (case side2 => exact HC1.out); rintro e w' ⟨rfl, ⟨nd, rfl⟩⟩))
        go_meet
        case rel => exact ⟨_, (true), (by first | rfl | (simp; done) | (simp [*]; done)), H', ⟨by first | omega | exact Nat.le_refl _⟩, ⟨by repeat (first | (with_reducible first | exact HB.out | apply below_alloc | apply pw_below_drewN | apply below_drew1) | exact HB.out)⟩⟩
      · rw [if_neg c8] at H
        have c8b0 : decide (4 < (l0.length : Int)) = false := decide_eq_false c8
        have c8b1 : decide (4 < l0.length) = false := decide_eq_false (by omega)
        clear c8
        (first | rw [c8b0] | (simp only [i64_w, i32_w]; rw [c8b0]) | skip)
        replace H := Option.bind_eq_some_iff.mp H
        obtain ⟨t243, A90, H⟩ := H
        replace H : (spec_TableFor.j0 (fun q t => spec_TableForB.f q l0 l1 t (l0.length : Int)) k l0 l1 (!t243)) = some (r1, r2) := H
        have A9 := Aside0.mk A90
        clear A90
        have H' := Aside0.mk H
        clear H
        go_wp2_with (first | ((with_reducible refine gate_callee (f := 12) rfl ?_); refine goesL_ (some 24) rfl rfl Try.func12 (by kernel_rfl) rfl #[.slice A0 l0.length c0] rfl (by (try simp only [List.map_toArray, List.map_cons, List.map_nil]); first | done | rfl | (simp only [List.length_drop, List.length_take]; rfl)) ?_; (with_reducible refine (spec_liGood.calls k _ _ l0 true _ ?side1 ?side2 A4.out).mono ?_); (case side1 => repeat (first | exact (Kd.C_below HR0.out HB.out) | (with_reducible refine Kd.C_alloc ?_ _) | (with_reducible refine Kd.C_drewN ?_ _) | (with_reducible refine Kd.C_drew ?_))); (case side2 => exact HC0.out); rintro e w' ⟨rfl, ⟨nd, rfl⟩⟩; refine ⟨_, rfl, ?_⟩) | (go_at_call 12; (with_reducible refine (spec_liGood.calls k _ _ l1 true _ ?side1 ?side2 A6.out).mono ?_); (case side1 => repeat (first | exact (Kd.C_below HR1.out (by repeat (first | (with_reducible first | exact HB.out | apply below_alloc | apply pw_below_drewN | apply below_drew1) | exact HB.out))) | (with_reducible refine Kd.C_alloc ?_ _) | (with_reducible refine Kd.C_drewN ?_ _) | (with_reducible refine Kd.C_drew ?_))); (case side2 => exact HC1.out); rintro e w' ⟨rfl, ⟨nd, rfl⟩⟩) | (go_at_call 13; (with_reducible refine (spec_liBelow.calls k _ _ l0 _ _ l1 t243 _ ?side1 ?side2 ?side3 ?side4 A9.out).mono ?_); (case side1 => repeat (first | exact (Kd.C_below HR0.out (by repeat (first | (with_reducible first | exact HB.out | apply below_alloc | apply pw_below_drewN | apply below_drew1) | exact HB.out))) | (with_reducible refine Kd.C_alloc ?_ _) | (with_reducible refine Kd.C_drewN ?_ _) | (with_reducible refine Kd.C_drew ?_))); (case side2 => exact HC0.out); (case side3 => repeat (first | exact (Kd.C_below HR1.out (by repeat (first | (with_reducible first | exact HB.out | apply below_alloc | apply pw_below_drewN | apply below_drew1) | exact HB.out))) | (with_reducible refine Kd.C_alloc ?_ _) | (with_reducible refine Kd.C_drewN ?_ _) | (with_reducible refine Kd.C_drew ?_))); (case side4 => exact HC1.out); rintro e w10 ⟨rfl, hb⟩; have n0_ := Aside0.mk (below_step (by repeat (first | (with_reducible first | exact HB.out | apply below_alloc | apply pw_below_drewN | apply below_drew1) | exact HB.out)) hb); clear HB; have HB := n0_; clear n0_; (try clear hb); (try clear hb2); (try clear hk); (try clear hi)))
        go_meet
        case rel => exact ⟨_, (!t243), (by first | rfl | (simp; done) | (simp [*]; done)), H', ⟨by first | omega | exact Nat.le_refl _⟩, ⟨by repeat (first | (with_reducible first | exact HB.out | apply below_alloc | apply pw_below_drewN | apply below_drew1) | exact HB.out)⟩⟩
    · replace c7 := Bool.eq_false_iff.mpr c7
      subst c7
      have H1 : (spec_TableFor.j0 (fun q t => spec_TableForB.f q l0 l1 t (l0.length : Int)) k l0 l1 true) = some (r1, r2) := by rw [if_neg (show ¬ (false = true) by decide)] at H; exact H
      clear H
      have H := H1
      clear H1
      have H' := Aside0.mk H
      clear H
      go_wp2_with (first | ((with_reducible refine gate_callee (f := 12) rfl ?_); refine goesL_ (some 24) rfl rfl Try.func12 (by kernel_rfl) rfl #[.slice A0 l0.length c0] rfl (by (try simp only [List.map_toArray, List.map_cons, List.map_nil]); first | done | rfl | (simp only [List.length_drop, List.length_take]; rfl)) ?_; (with_reducible refine (spec_liGood.calls k _ _ l0 true _ ?side1 ?side2 A4.out).mono ?_); (case side1 => repeat (first | exact (Kd.C_below HR0.out HB.out) | (with_reducible refine Kd.C_alloc ?_ _) | (with_reducible refine Kd.C_drewN ?_ _) | (with_reducible refine Kd.C_drew ?_))); (case side2 => exact HC0.out); rintro e w' ⟨rfl, ⟨nd, rfl⟩⟩; refine ⟨_, rfl, ?_⟩) | (go_at_call 12; (with_reducible refine (spec_liGood.calls k _ _ l1 false _ ?side1 ?side2 A6.out).mono ?_); (case side1 => repeat (first | exact (Kd.C_below HR1.out (by repeat (first | (with_reducible first | exact HB.out | apply below_alloc | apply pw_below_drewN | apply below_drew1) | exact HB.out))) | (with_reducible refine Kd.C_alloc ?_ _) | (with_reducible refine Kd.C_drewN ?_ _) | (with_reducible refine Kd.C_drew ?_))); (case side2 => exact HC1.out); rintro e w' ⟨rfl, ⟨nd, rfl⟩⟩))
      go_meet
      case rel => exact ⟨_, (true), (by first | rfl | (simp; done) | (simp [*]; done)), H', ⟨by first | omega | exact Nat.le_refl _⟩, ⟨by repeat (first | (with_reducible first | exact HB.out | apply below_alloc | apply pw_below_drewN | apply below_drew1) | exact HB.out)⟩⟩
  · replace c5 := Bool.eq_false_iff.mpr c5
    subst c5
    have H1 : (spec_TableFor.j0 (fun q t => spec_TableForB.f q l0 l1 t (l0.length : Int)) k l0 l1 true) = some (r1, r2) := by rw [if_neg (show ¬ (false = true) by decide)] at H; exact H
    clear H
    have H := H1
    clear H1
    have H' := Aside0.mk H
    clear H
    go_wp2_with (first | ((with_reducible refine gate_callee (f := 12) rfl ?_); refine goesL_ (some 24) rfl rfl Try.func12 (by kernel_rfl) rfl #[.slice A0 l0.length c0] rfl (by (try simp only [List.map_toArray, List.map_cons, List.map_nil]); first | done | rfl | (simp only [List.length_drop, List.length_take]; rfl)) ?_; (with_reducible refine (spec_liGood.calls k _ _ l0 false _ ?side1 ?side2 A4.out).mono ?_); (case side1 => repeat (first | exact (Kd.C_below HR0.out HB.out) | (with_reducible refine Kd.C_alloc ?_ _) | (with_reducible refine Kd.C_drewN ?_ _) | (with_reducible refine Kd.C_drew ?_))); (case side2 => exact HC0.out); rintro e w' ⟨rfl, ⟨nd, rfl⟩⟩; refine ⟨_, rfl, ?_⟩))
    go_meet
    case rel => exact ⟨_, (true), (by first | rfl | (simp; done) | (simp [*]; done)), H', ⟨by first | omega | exact Nat.le_refl _⟩, ⟨by repeat (first | (with_reducible first | exact HB.out | apply below_alloc | apply pw_below_drewN | apply below_drew1) | exact HB.out)⟩⟩
 case rest =>
  clear HC3
  try clear c1
  try clear p2
  try clear c4
  try clear c5
  try clear c7
  try clear c8
  try clear c8b0
  try clear c8b1
  obtain ⟨kq, x41_2, rfl, HA, HJ2, HB⟩ := hcut
  cases kq with
  | zero => exact absurd HA.out (by simp [spec_TableFor.j0])
  | succ kj2 =>
   have H := HA.out
   clear HA
   simp only [spec_TableFor.j0] at H
   by_cases c11 : x41_2 = true
   · subst c11
     have H1 : (some (([] : List (List Int)), false)) = some (r1, r2) := by rw [if_pos rfl] at H; exact H
     clear H
     have H := H1
     clear H1
     simp only [Option.some.injEq, Prod.mk.injEq] at H
     obtain ⟨rfl, rfl⟩ := H
     go_wp2
     go_ret2
     exact ⟨_, by first | rfl | (simp [errW_none, errW_some] <;> rfl) | (simp [*, errW_none, errW_some] <;> rfl), (by first | exact Kd.V_nil _ _ _ _ _ | exact Kd.S_V (by first | exact Kd.S_nil _ _ _ _ _ | exact Kd.N_nil _ _ _ _ _ | exact Kd.V_nil _ _ _ _ _ | exact Kd.Q_nil _ _ _ _ _ | exact Kd.R_nil _ _ _ _ _)), by repeat (first | (with_reducible first | exact HB.out | apply below_alloc | apply pw_below_drewN | apply below_drew1) | exact HB.out)⟩
   · replace c11 := Bool.eq_false_iff.mpr c11
     subst c11
     have H1 : ((spec_liRank.f kj2 l1).bind fun t244 => ((spec_liRank.f kj2 l0).bind fun t247 => ((spec_doEmpty.f kj2 (l0.length : Int)).bind fun t250 => (spec_TableFor.l0 (fun q t => spec_TableForB.f q l0 l1 t (l0.length : Int)) kj2 (l0.length : Int) t244 t247 t250 (t250.length : Int) 0)))) = some (r1, r2) := by rw [if_neg (show ¬ (false = true) by decide)] at H; exact H
     clear H
     have H := H1
     clear H1
     replace H := Option.bind_eq_some_iff.mp H
     obtain ⟨t244, A120, H⟩ := H
     replace H : ((spec_liRank.f kj2 l0).bind fun t247 => ((spec_doEmpty.f kj2 (l0.length : Int)).bind fun t250 => (spec_TableFor.l0 (fun q t => spec_TableForB.f q l0 l1 t (l0.length : Int)) kj2 (l0.length : Int) t244 t247 t250 (t250.length : Int) 0))) = some (r1, r2) := H
     have A12 := Aside0.mk A120
     clear A120
     replace H := Option.bind_eq_some_iff.mp H
     obtain ⟨t247, A130, H⟩ := H
     replace H : ((spec_doEmpty.f kj2 (l0.length : Int)).bind fun t250 => (spec_TableFor.l0 (fun q t => spec_TableForB.f q l0 l1 t (l0.length : Int)) kj2 (l0.length : Int) t244 t247 t250 (t250.length : Int) 0)) = some (r1, r2) := H
     have A13 := Aside0.mk A130
     clear A130
     replace H := Option.bind_eq_some_iff.mp H
     obtain ⟨t250, A140, H⟩ := H
     replace H : (spec_TableFor.l0 (fun q t => spec_TableForB.f q l0 l1 t (l0.length : Int)) kj2 (l0.length : Int) t244 t247 t250 (t250.length : Int) 0) = some (r1, r2) := H
     have A14 := Aside0.mk A140
     clear A140
     have H' := Aside0.mk H
     clear H
     go_wp2_with (first | ((with_reducible refine gate_callee (f := 14) rfl ?_); refine goesL_ (some 45) rfl rfl Try.func14 (by kernel_rfl) rfl #[.slice A1 l1.length c1] rfl (by (try simp only [List.map_toArray, List.map_cons, List.map_nil]); first | done | rfl | (simp only [List.length_drop, List.length_take]; rfl)) ?_; (with_reducible refine (spec_liRank.calls kj2 _ _ l1 t244 _ ?side1 ?side2 A12.out).mono ?_); (case side1 => repeat (first | exact (Kd.C_below HR1.out HB.out) | (with_reducible refine Kd.C_alloc ?_ _) | (with_reducible refine Kd.C_drewN ?_ _) | (with_reducible refine Kd.C_drew ?_))); (case side2 => exact HC1.out); rintro e w15 ⟨v245, rfl, ho0, hb⟩; refine ⟨_, rfl, ?_⟩; have n0_ := Aside0.mk (Kd.R_lower (Kd.R_newM (M := fun k_ => (w.heap.size ≤ k_)) ho0 (below_size (by repeat (first | (with_reducible first | exact HB.out | apply below_alloc | apply pw_below_drewN | apply below_drew1) | exact HB.out))) (fun k_ h_ => h_)) (below_size (by repeat (first | (with_reducible first | exact HB.out | apply below_alloc | apply pw_below_drewN | apply below_drew1) | exact HB.out)))); have n1_ := Aside0.mk (below_step (by repeat (first | (with_reducible first | exact HB.out | apply below_alloc | apply pw_below_drewN | apply below_drew1) | exact HB.out)) hb); clear HB; have HO246 := n0_; have HB := n1_; clear n0_ n1_; (try clear hb); (try clear hb2); (try clear hk); (try clear hi); (try clear ho0)) | ((with_reducible refine gate_callee (f := 14) rfl ?_); refine goesL_ (some 47) rfl rfl Try.func14 (by kernel_rfl) rfl #[.slice A0 l0.length c0] rfl (by (try simp only [List.map_toArray, List.map_cons, List.map_nil]); first | done | rfl | (simp only [List.length_drop, List.length_take]; rfl)) ?_; (with_reducible refine (spec_liRank.calls kj2 _ _ l0 t247 _ ?side1 ?side2 A13.out).mono ?_); (case side1 => repeat (first | exact (Kd.C_below HR0.out HB.out) | (with_reducible refine Kd.C_alloc ?_ _) | (with_reducible refine Kd.C_drewN ?_ _) | (with_reducible refine Kd.C_drew ?_))); (case side2 => exact HC0.out); rintro e w16 ⟨v248, rfl, ho0, hb⟩; refine ⟨_, rfl, ?_⟩; have n0_ := Aside0.mk (Kd.R_elder' (by (with_reducible repeat (first | apply Kd.R_alloc | apply Kd.R_drewN | apply Kd.R_drew)); exact HO246.out) (Kd.R_base ho0) hb); have n1_ := Aside0.mk (Kd.R_lower (Kd.R_new' (Kd.R_newM (M := fun k_ => (w.heap.size ≤ k_)) ho0 (below_size (by repeat (first | (with_reducible first | exact HB.out | apply below_alloc | apply pw_below_drewN | apply below_drew1) | exact HB.out))) (fun k_ h_ => h_)) (Kd.R_lt (by (with_reducible repeat (first | apply Kd.R_alloc | apply Kd.R_drewN | apply Kd.R_drew)); exact HO246.out))) (below_size (by repeat (first | (with_reducible first | exact HB.out | apply below_alloc | apply pw_below_drewN | apply below_drew1) | exact HB.out)))); have n2_ := Aside0.mk (below_step (by repeat (first | (with_reducible first | exact HB.out | apply below_alloc | apply pw_below_drewN | apply below_drew1) | exact HB.out)) hb); clear HO246; clear HB; have HO246 := n0_; have HO249 := n1_; have HB := n2_; clear n0_ n1_ n2_; (try clear hb); (try clear hb2); (try clear hk); (try clear hi); (try clear ho0)) | ((with_reducible refine gate_callee (f := 15) rfl ?_); refine goesL_ (some 49) rfl rfl Try.func15 (by kernel_rfl) rfl #[.int .i64 (l0.length : Int)] rfl (by (try simp only [List.map_toArray, List.map_cons, List.map_nil]); first | done | rfl | (simp only [List.length_drop, List.length_take]; rfl)) ?_; (with_reducible refine (spec_doEmpty.calls kj2 (l0.length : Int) t250 _ A14.out).mono ?_); rintro e w17 ⟨v251, rfl, ho0, hb⟩; refine ⟨_, rfl, ?_⟩; have n0_ := Aside0.mk (Kd.R_below (by (with_reducible repeat (first | apply Kd.R_alloc | apply Kd.R_drewN | apply Kd.R_drew)); exact HO246.out) hb); have n1_ := Aside0.mk (Kd.R_below (by (with_reducible repeat (first | apply Kd.R_alloc | apply Kd.R_drewN | apply Kd.R_drew)); exact HO249.out) hb); have n2_ := Aside0.mk (Kd.S_lower (Kd.S_new' (Kd.S_new' (Kd.S_newM (M := fun k_ => (w.heap.size ≤ k_)) ho0 (below_size (by repeat (first | (with_reducible first | exact HB.out | apply below_alloc | apply pw_below_drewN | apply below_drew1) | exact HB.out))) (fun k_ h_ => h_)) (Kd.R_lt (by (with_reducible repeat (first | apply Kd.R_alloc | apply Kd.R_drewN | apply Kd.R_drew)); exact HO246.out))) (Kd.R_lt (by (with_reducible repeat (first | apply Kd.R_alloc | apply Kd.R_drewN | apply Kd.R_drew)); exact HO249.out))) (below_size (by repeat (first | (with_reducible first | exact HB.out | apply below_alloc | apply pw_below_drewN | apply below_drew1) | exact HB.out)))); have n3_ := Aside0.mk (below_step (by repeat (first | (with_reducible first | exact HB.out | apply below_alloc | apply pw_below_drewN | apply below_drew1) | exact HB.out)) hb); clear HO246; clear HO249; clear HB; have HO246 := n0_; have HO249 := n1_; have HO252 := n2_; have HB := n3_; clear n0_ n1_ n2_ n3_; (try clear hb); (try clear hb2); (try clear hk); (try clear hi); (try clear ho0); obtain ⟨Ao18, co18, eo18⟩ := Kd.S_slice HO252.out; subst eo18))
     go_loopg [52] kj2 (fun kq v52 w' => ∃ (x7_2 : List Int) (x8_2 : List Int) (x9_2 : List (List Int)) (x52_2 : Int), v52 = .int .i64 x52_2 ∧ Aside0 (spec_TableFor.l0 (fun q t => spec_TableForB.f q l0 l1 t (l0.length : Int)) kq (l0.length : Int) x7_2 x8_2 x9_2 (t250.length : Int) x52_2 = some (r1, r2)) ∧ Aside0 (kq ≤ kj2) ∧ Aside0 (Kd.R (Kd.int .i64) 3 w' w.heap.size (fun k_ => (w.heap.size ≤ k_) ∧ some k_ ≠ (v248 : Value).ownBlock) v245 x7_2) ∧ Aside0 (Kd.R (Kd.int .i64) 3 w' w.heap.size (fun k_ => (w.heap.size ≤ k_) ∧ some k_ ≠ (v245 : Value).ownBlock) v248 x8_2) ∧ Aside0 (Kd.S (Kd.slice 3 (Kd.int .i64)) 22 w' w.heap.size (fun k_ => (w.heap.size ≤ k_) ∧ some k_ ≠ (v245 : Value).ownBlock ∧ some k_ ≠ (v248 : Value).ownBlock) (.slice Ao18 t250.length co18) x9_2) ∧ Aside0 (Below w.heap.size w w'))
     case atStart => exact ⟨(t244), (t247), (t250), (0), (by first | rfl | (simp; done) | (simp [*]; done)), H', ⟨Nat.le_refl _⟩, ⟨by (with_reducible repeat (first | apply Kd.R_alloc | apply Kd.R_drewN | apply Kd.R_drew)); exact Kd.R_mono HO246.out (fun _ hk => ⟨hk.1.1, hk.2⟩)⟩, ⟨by (with_reducible repeat (first | apply Kd.R_alloc | apply Kd.R_drewN | apply Kd.R_drew)); exact Kd.R_mono HO249.out (fun _ hk => ⟨hk.1.1, hk.2⟩)⟩, ⟨by (with_reducible repeat (first | apply Kd.S_alloc | apply Kd.S_drewN | apply Kd.S_drew)); exact Kd.S_mono HO252.out (fun _ hk => ⟨hk.1.1.1, ⟨hk.1.2, hk.2⟩⟩)⟩, ⟨by repeat (first | (with_reducible first | exact HB.out | apply below_alloc | apply pw_below_drewN | apply below_drew1) | exact HB.out)⟩⟩
     case round =>
      clear H'
      try clear c1
      try clear p2
      try clear c4
      try clear c5
      try clear c7
      try clear c8
      try clear c8b0
      try clear c8b1
      try clear c11
      try clear c12
      try clear c14
      try clear c15
      try clear p2
      obtain ⟨x7_2, x8_2, x9_2, x52_2, rfl, HA, HK2, HO_7, HO_8, HO_9, HB⟩ := hrel
      have hl9_2 := (Kd.S_reads' HO_9.out).1
      rw [hl9_2] at HO_9
      (try simp only [hl9_2])
      (try simp only [hl9_2] at HO_7)
      (try simp only [hl9_2] at HO_8)
      cases gk with
      | zero => exact absurd HA.out (by simp [spec_TableFor.l0])
      | succ k2 =>
       have H := HA.out
       clear HA
       simp only [spec_TableFor.l0] at H
       by_cases c19 : x52_2 < (t250.length : Int)
       · rw [if_pos c19] at H
         have c19b0 : decide (x52_2 < (t250.length : Int)) = true := decide_eq_true c19
         have c19b0_ := c19b0
         (try rw [hl9_2] at c19b0_)
         clear c19
         by_cases c20 : 0 ≤ x52_2
         · rw [if_pos c20] at H
           have c20b0 : decide (0 ≤ x52_2) = true := decide_eq_true c20
           clear c20
           by_cases c21 : x52_2 < (x9_2.length : Int)
           · rw [if_pos c21] at H
             have c21b0 : decide (x52_2 < (x9_2.length : Int)) = true := decide_eq_true c21
             have c21b0_ := c21b0
             (try rw [hl9_2] at c21b0_)
             clear c21
             by_cases c22 : x52_2 < ((rd_L1 x9_2 x52_2).length : Int)
             · rw [if_pos c22] at H
               have c22b0 : decide (x52_2 < ((rd_L1 x9_2 x52_2).length : Int)) = true := decide_eq_true c22
               clear c22
               obtain ⟨y254, hy254⟩ : ∃ y_ : List Int, y_ = ((rd_L1 x9_2 x52_2).set (x52_2 : Int).toNat 1) := ⟨_, rfl⟩
               replace H : (spec_TableFor.l0 (fun q t => spec_TableForB.f q l0 l1 t (l0.length : Int)) k2 (l0.length : Int) x7_2 x8_2 (x9_2.set (x52_2 : Int).toNat y254) (t250.length : Int) (wrap64 (x52_2 + 1))) = some (r1, r2) := by first | (rw [hy254]; with_reducible exact H) | (have H2_ := (Option.bind_some _ _).symm.trans H; rw [hy254]; with_reducible exact H2_) | (have H2_ := (Option.bind_some _ _).symm.trans H; with_reducible exact H2_) | with_reducible exact H | (rw [hy254]; exact H) | exact H
               have Ny254 := Aside0.mk hy254
               clear hy254
               obtain ⟨y256, hy256⟩ : ∃ y_ : List (List Int), y_ = (x9_2.set (x52_2 : Int).toNat y254) := ⟨_, rfl⟩
               replace H : (spec_TableFor.l0 (fun q t => spec_TableForB.f q l0 l1 t (l0.length : Int)) k2 (l0.length : Int) x7_2 x8_2 y256 (t250.length : Int) (wrap64 (x52_2 + 1))) = some (r1, r2) := by first | (rw [hy256]; with_reducible exact H) | (have H2_ := (Option.bind_some _ _).symm.trans H; rw [hy256]; with_reducible exact H2_) | (have H2_ := (Option.bind_some _ _).symm.trans H; with_reducible exact H2_) | with_reducible exact H | (rw [hy256]; exact H) | exact H
               have Ny256 := Aside0.mk hy256
               clear hy256
               have H' := Aside0.mk H
               clear H
               have p253 : 0 ≤ (x52_2 : Int) := of_decide_eq_true (by first | (with_reducible assumption) | assumption)
               have q253 : x52_2 < (x9_2.length : Int) := of_decide_eq_true (by first | (with_reducible assumption) | assumption)
               obtain ⟨ad253, A253_0, c253_0, e253, hx253_0, hl253_0, hi253_0⟩ := at_L1 (Kd.S_reads' HO_9.out).2.2 x52_2 p253 q253
               cases e253
               obtain ⟨ce253, hce253, hMe253, hcc253⟩ := Kd.S_get HO_9.out [] x52_2 p253 (by first | exact q253 | exact of_decide_eq_true (by first | (with_reducible assumption) | assumption) | (have e_ := (Kd.S_reads' HO_9.out).1; omega))
               obtain ⟨ve253_0, rfl, ge253_0⟩ := hMe253
               have hv253_0 := hcc253 0 _ rfl
               rw [Nat.add_zero, show ((Kd.slice 3 (Kd.int .i64))).sz = 1 from rfl, Nat.mul_one] at hv253_0
               replace hv253_0 := Option.some.inj (hv253_0.symm.trans hx253_0)
               rw [hv253_0] at ge253_0
               have HL253_0 := Aside0.mk (show Kd.R (Kd.int .i64) 3 _ _ _ _ (rd_L1 x9_2 x52_2) from ge253_0)
               clear hv253_0 ge253_0
               have HX253_0 := Aside0.mk hx253_0
               clear hcc253 hce253
               have HR253_0 := Aside0.mk hi253_0
               have HC253_0 := Aside0.mk hl253_0
               clear hi253_0 hl253_0
               replace p253 := eq_true p253
               replace q253 := eq_true q253
               have p23 : 0 ≤ (x52_2 : Int) := of_decide_eq_true (by first | (with_reducible assumption) | assumption)
               have q23 : (x52_2 : Int) < (((rd_L1 x9_2 x52_2).length : Int) : Int) := of_decide_eq_true (by first | (with_reducible assumption) | assumption)
               obtain ⟨go23, co23, eo23, gb23, gl23, cl23, HG23⟩ := Kd.R_form HL253_0.out (by omega)
               (first | cases eo23 | (injection eo23 with ea_ en_ ec_; (first | subst ea_ | (injection ea_ with ea_; subst ea_)); subst ec_; clear en_))
               have GB23 := Aside0.mk gb23
               have GG23 := Aside0.mk HG23
               clear gb23 gl23 HG23
               obtain ⟨hx23_0, hf23_0⟩ := Kd.R_celln 0 HL253_0.out (x52_2 : Int) p23 q23
               replace p23 := eq_true p23
               replace q23 := eq_true q23
               have hq24 : (x52_2 : Int) < (x9_2.length : Int) := (by have h_ : (x52_2 : Int) < ((x9_2.length : Int) : Int) := of_decide_eq_true (by first | (with_reducible assumption) | assumption); first | exact h_ | (have e_ := (Kd.S_reads' HO_9.out).1; omega) | simpa only [List.length_set, List.length_set] using h_)
               obtain ⟨oki24, ce24, hcl24, hM24, hcc24, hok24, hbk24⟩ := Kd.S_borrow HO_9.out [] (x52_2 : Int) (of_decide_eq_true (by first | (with_reducible assumption) | assumption)) (by first | exact hq24 | (have e_ := (Kd.S_reads' HO_9.out).1; omega))
               obtain ⟨ve24_0, rfl, ge24_0⟩ := hM24
               have hv24 := hcc24 0 _ rfl
               rw [Nat.add_zero, show ((Kd.slice 3 (Kd.int .i64))).sz = 1 from rfl, Nat.mul_one] at hv24
               replace hv24 := Option.some.inj (hv24.symm.trans HX253_0.out)
               subst hv24
               clear hcc24 hcl24
               replace ge24_0 := (show Kd.R (Kd.int .i64) 3 _ _ _ _ (rd_L1 x9_2 x52_2) from ge24_0)
               have HP24 := Kd.R_putg ge24_0 (x52_2 : Int) 1
               go_wp2_with (first | ((with_reducible refine gate_store (t := 3) (p := 60) rfl ?_); refine store_event (t := 3) (p := 60) (v := ?vo_w25) (w1 := (wr.setCell ⟨go23, (x52_2 : Int).toNat, none⟩ (.int .i64 1))) ?hg ?ho ?hn ?hr ?_; (case ho => rfl); (case hg => rfl); (case hn => rfl); (case hr => first | (go_simp; done) | (go_simp; rfl)); intro w25 hw; have hg : wr.grownBy w25 (some go23) := (by rw [hw]; exact HP24.2); have hz_ : Kd.R (Kd.int .i64) 3 w25 w.heap.size oki24 (.slice (some ⟨go23, 0, none⟩) (rd_L1 x9_2 x52_2).length c253_0) y254 := (by rw [hw, Ny254.out]; exact HP24.1); have hp_ : Kd.S (Kd.slice 3 (Kd.int .i64)) 22 w25 w.heap.size (fun k_ => (w.heap.size ≤ k_) ∧ some k_ ≠ (v245 : Value).ownBlock ∧ some k_ ≠ (v248 : Value).ownBlock) (.slice (some ad253) x9_2.length co18) y256 := (by rw [Ny256.out]; exact hbk24 hg (fun k_ e_ => by injection e_ with e_; subst e_; exact ge24_0.1 _ rfl) (Kd.M_row hz_)); have hm_ := Kd.R_mono hz_ hok24; clear HP24 hbk24; have n0_ := Aside0.mk (Kd.R_grown1 (by (with_reducible repeat (first | apply Kd.R_alloc | apply Kd.R_drewN | apply Kd.R_drew)); exact HO_7.out) rfl hg ((HL253_0.out.1 _ rfl).1.2.1)); have n1_ := Aside0.mk (Kd.R_grown1 (by (with_reducible repeat (first | apply Kd.R_alloc | apply Kd.R_drewN | apply Kd.R_drew)); exact HO_8.out) rfl hg ((HL253_0.out.1 _ rfl).1.2.2)); have n2_ := Aside0.mk (hp_); have n3_ := Aside0.mk ((by rw [hw]; exact below_set (HB.out) GB23.out : Below w.heap.size w w25)); have n4_ := Aside0.mk (hm_); have n5_ := Aside0.mk ((Kd.R_reads' hm_).2.1); clear HO_7; clear HO_8; clear HO_9; clear HB; clear HL253_0; have HO_7 := n0_; have HO_8 := n1_; have HO_9 := n2_; have HB := n3_; have HL281 := n4_; have HC255 := n5_; clear n0_ n1_ n2_ n3_ n4_ n5_; clear hg hw hp_ hz_ hm_ hok24))
               (try simp only [← hl9_2])
               go_roundg k2
               case measure => have := HJ2.out; have := HK2.out; omega
               case rel => exact ⟨(x7_2), (x8_2), (y256), (wrap64 (x52_2 + 1)), (by first | rfl | (simp; done) | (simp [*]; done)), H', ⟨by have := HJ2.out; have := HK2.out; omega⟩, ⟨by (try simp only [hl9_2]); (with_reducible repeat (first | apply Kd.R_alloc | apply Kd.R_drewN | apply Kd.R_drew)); exact HO_7.out⟩, ⟨by (try simp only [hl9_2]); (with_reducible repeat (first | apply Kd.R_alloc | apply Kd.R_drewN | apply Kd.R_drew)); exact HO_8.out⟩, ⟨by (try simp only [hl9_2]); (with_reducible repeat (first | apply Kd.S_alloc | apply Kd.S_drewN | apply Kd.S_drew)); exact HO_9.out⟩, ⟨by repeat (first | (with_reducible first | exact HB.out | apply below_alloc | apply pw_below_drewN | apply below_drew1) | exact HB.out)⟩⟩
             · rw [if_neg c22] at H
               exact absurd H (by simp)
           · rw [if_neg c21] at H
             exact absurd H (by simp)
         · rw [if_neg c20] at H
           exact absurd H (by simp)
       · rw [if_neg c19] at H
         have c19b0 : decide (x52_2 < (t250.length : Int)) = false := decide_eq_false c19
         (try rw [hl9_2] at c19b0)
         clear c19
         replace H := Option.bind_eq_some_iff.mp H
         obtain ⟨⟨t257, t258, t259, t260⟩, A260, H⟩ := H
         replace H : (spec_TableFor.l1 (fun q t => spec_TableForB.f q l0 l1 t (l0.length : Int)) k2 (l0.length : Int) x7_2 x8_2 x9_2 t257 t258 t259 t260) = some (r1, r2) := H
         have A26 := Aside0.mk A260
         clear A260
         have H' := Aside0.mk H
         clear H
         obtain ⟨Ao27, co27, eo27⟩ := Kd.R_slice HO_7.out
         subst eo27
         obtain ⟨Ao28, co28, eo28⟩ := Kd.R_slice HO_8.out
         subst eo28
         go_wp2_with (first | ((with_reducible refine gate_callee (f := 16) rfl ?_); refine goesL_ (some 65) rfl rfl Try.func16 (by kernel_rfl) rfl #[.slice Ao27 x7_2.length co27, .slice Ao28 x8_2.length co28] rfl (by (try simp only [List.map_toArray, List.map_cons, List.map_nil]); first | done | rfl | (simp only [List.length_drop, List.length_take]; rfl)) ?_; (with_reducible refine (spec_doStep.calls k2 _ _ x7_2 _ _ x8_2 t257 t258 t259 t260 _ ?side1 ?side2 ?side3 ?side4 A26.out).mono ?_); (case side1 => repeat (first | exact (Kd.R_reads' HO_7.out).2.2 | (with_reducible refine Kd.C_alloc ?_ _) | (with_reducible refine Kd.C_drewN ?_ _) | (with_reducible refine Kd.C_drew ?_))); (case side2 => exact (Kd.R_reads' HO_7.out).2.1); (case side3 => repeat (first | exact (Kd.R_reads' HO_8.out).2.2 | (with_reducible refine Kd.C_alloc ?_ _) | (with_reducible refine Kd.C_drewN ?_ _) | (with_reducible refine Kd.C_drew ?_))); (case side4 => exact (Kd.R_reads' HO_8.out).2.1); rintro e w' ⟨rfl, ⟨nd, rfl⟩⟩; refine ⟨_, rfl, ?_⟩))
         go_loopg [9, 11, 12, 13, 14] k2 (fun kq v9 v11 v12 v13 v14 w' => ∃ (x7_3 : List Int) (x9_3 : List (List Int)) (x11_3 : Int) (x12_3 : Int) (x13_3 : Int) (x14_3 : Bool), v11 = .int .i64 x11_3 ∧ v12 = .int .i64 x12_3 ∧ v13 = .int .i64 x13_3 ∧ v14 = .bool x14_3 ∧ Aside0 (spec_TableFor.l1 (fun q t => spec_TableForB.f q l0 l1 t (l0.length : Int)) kq (l0.length : Int) x7_3 x8_2 x9_3 x11_3 x12_3 x13_3 x14_3 = some (r1, r2)) ∧ Aside0 (kq ≤ k2) ∧ Aside0 (Kd.R (Kd.int .i64) 3 w' w.heap.size (fun k_ => (w.heap.size ≤ k_) ∧ some k_ ≠ ((.slice Ao28 x8_2.length co28) : Value).ownBlock) (.slice Ao27 x7_2.length co27) x7_3) ∧ Aside0 (Kd.R (Kd.int .i64) 3 w' w.heap.size (fun k_ => (w.heap.size ≤ k_) ∧ some k_ ≠ ((.slice Ao27 x7_2.length co27) : Value).ownBlock) (.slice Ao28 x8_2.length co28) x8_2) ∧ Aside0 (Kd.S (Kd.slice 3 (Kd.int .i64)) 22 w' w.heap.size (fun k_ => (w.heap.size ≤ k_) ∧ some k_ ≠ ((.slice Ao27 x7_2.length co27) : Value).ownBlock ∧ some k_ ≠ ((.slice Ao28 x8_2.length co28) : Value).ownBlock) v9 x9_3) ∧ Aside0 (Below w.heap.size w w'))
         case atStart => exact ⟨(x7_2), (x9_2), (t257), (t258), (t259), (t260), (by first | rfl | (simp; done) | (simp [*]; done)), (by first | rfl | (simp; done) | (simp [*]; done)), (by first | rfl | (simp; done) | (simp [*]; done)), (by first | rfl | (simp; done) | (simp [*]; done)), H', ⟨Nat.le_refl _⟩, ⟨by (try simp only [hl9_2]); (with_reducible repeat (first | apply Kd.R_alloc | apply Kd.R_drewN | apply Kd.R_drew)); exact HO_7.out⟩, ⟨by (try simp only [hl9_2]); (with_reducible repeat (first | apply Kd.R_alloc | apply Kd.R_drewN | apply Kd.R_drew)); exact HO_8.out⟩, ⟨by (try simp only [hl9_2]); (with_reducible repeat (first | apply Kd.S_alloc | apply Kd.S_drewN | apply Kd.S_drew)); exact HO_9.out⟩, ⟨by repeat (first | (with_reducible first | exact HB.out | apply below_alloc | apply pw_below_drewN | apply below_drew1) | exact HB.out)⟩⟩
         case round =>
          clear H'
          try clear c1
          try clear c2
          try clear p2
          try clear q2
          try clear hx2
          try clear hf2
          try clear c4
          try clear c5
          try clear p6
          try clear c7
          try clear c8
          try clear c8b0
          try clear c8b1
          try clear c11
          try clear c12
          try clear c14
          try clear c15
          try clear c16
          try clear c19
          try clear c19b0
          try clear c20
          try clear c20b0
          try clear c21
          try clear c21b0
          try clear c22
          try clear c22b0
          try clear p23
          try clear q23
          try clear hx23
          try clear hf23
          try clear c24
          try clear q24
          try clear c25
          try clear p25
          try clear q25
          try clear hx25
          try clear hx23_0
          try clear hx253_0
          try clear p2
          try clear p23
          try clear p253
          try clear q23
          try clear q253
          obtain ⟨x7_3, x9_3, x11_3, x12_3, x13_3, x14_3, rfl, rfl, rfl, rfl, HA, HK3, HO_7, HO_8, HO_9, HB⟩ := hrel
          have hl7_3 := (Kd.R_reads' HO_7.out).1
          rw [hl7_3] at HO_7
          (try simp only [hl7_3])
          (try simp only [hl7_3] at HO_8)
          (try simp only [hl7_3] at HO_9)
          cases gk with
          | zero => exact absurd HA.out (by simp [spec_TableFor.l1])
          | succ k3 =>
           have H := HA.out
           clear HA
           simp only [spec_TableFor.l1] at H
           by_cases c29 : x14_3 = true
           · subst c29
             have H1 : (if 0 ≤ x11_3 then (if x11_3 < (x7_3.length : Int) then (if 0 ≤ x12_3 then (if x12_3 < (x7_3.length : Int) then ((spec_doGift.f k3 (l0.length : Int) x11_3 x12_3 (wrap64 ((rd x7_3 x11_3) - (rd x7_3 x12_3))) x13_3).bind fun t263 => ((spec_doTimes.f k3 t263 x9_3).bind fun t266 => ((some (x7_3.set (x11_3 : Int).toNat (wrap64 ((rd x7_3 x11_3) - x13_3)) : List Int)).bind fun y270 => ((some (y270.set (x12_3 : Int).toNat (wrap64 ((rd y270 x12_3) + x13_3)) : List Int)).bind fun y272 => ((spec_doStep.f k3 y272 x8_2).bind fun bt273 => (spec_TableFor.l1 (fun q t => spec_TableForB.f q l0 l1 t (l0.length : Int)) k3 (l0.length : Int) y272 x8_2 t266 bt273.1 bt273.2.1 bt273.2.2.1 bt273.2.2.2)))))) else (none)) else (none)) else (none)) else (none)) = some (r1, r2) := by rw [if_pos rfl] at H; exact H
             clear H
             have H := H1
             clear H1
             by_cases c30 : 0 ≤ x11_3
             · rw [if_pos c30] at H
               have c30b0 : decide (0 ≤ x11_3) = true := decide_eq_true c30
               clear c30
               by_cases c31 : x11_3 < (x7_3.length : Int)
               · rw [if_pos c31] at H
                 have c31b0 : decide (x11_3 < (x7_3.length : Int)) = true := decide_eq_true c31
                 have c31b0_ := c31b0
                 (try rw [hl9_2] at c31b0_)
                 clear c31
                 by_cases c32 : 0 ≤ x12_3
                 · rw [if_pos c32] at H
                   have c32b0 : decide (0 ≤ x12_3) = true := decide_eq_true c32
                   clear c32
                   by_cases c33 : x12_3 < (x7_3.length : Int)
                   · rw [if_pos c33] at H
                     have c33b0 : decide (x12_3 < (x7_3.length : Int)) = true := decide_eq_true c33
                     have c33b0_ := c33b0
                     (try rw [hl9_2] at c33b0_)
                     clear c33
                     replace H := Option.bind_eq_some_iff.mp H
                     obtain ⟨t263, A340, H⟩ := H
                     replace H : ((spec_doTimes.f k3 t263 x9_3).bind fun t266 => ((some (x7_3.set (x11_3 : Int).toNat (wrap64 ((rd x7_3 x11_3) - x13_3)) : List Int)).bind fun y270 => ((some (y270.set (x12_3 : Int).toNat (wrap64 ((rd y270 x12_3) + x13_3)) : List Int)).bind fun y272 => ((spec_doStep.f k3 y272 x8_2).bind fun bt273 => (spec_TableFor.l1 (fun q t => spec_TableForB.f q l0 l1 t (l0.length : Int)) k3 (l0.length : Int) y272 x8_2 t266 bt273.1 bt273.2.1 bt273.2.2.1 bt273.2.2.2))))) = some (r1, r2) := H
                     have A34 := Aside0.mk A340
                     clear A340
                     replace H := Option.bind_eq_some_iff.mp H
                     obtain ⟨t266, A350, H⟩ := H
                     replace H : ((some (x7_3.set (x11_3 : Int).toNat (wrap64 ((rd x7_3 x11_3) - x13_3)) : List Int)).bind fun y270 => ((some (y270.set (x12_3 : Int).toNat (wrap64 ((rd y270 x12_3) + x13_3)) : List Int)).bind fun y272 => ((spec_doStep.f k3 y272 x8_2).bind fun bt273 => (spec_TableFor.l1 (fun q t => spec_TableForB.f q l0 l1 t (l0.length : Int)) k3 (l0.length : Int) y272 x8_2 t266 bt273.1 bt273.2.1 bt273.2.2.1 bt273.2.2.2)))) = some (r1, r2) := H
                     have A35 := Aside0.mk A350
                     clear A350
                     obtain ⟨y270, hy270⟩ : ∃ y_ : List Int, y_ = (x7_3.set (x11_3 : Int).toNat (wrap64 ((rd x7_3 x11_3) - x13_3))) := ⟨_, rfl⟩
                     replace H : ((some (y270.set (x12_3 : Int).toNat (wrap64 ((rd y270 x12_3) + x13_3)) : List Int)).bind fun y272 => ((spec_doStep.f k3 y272 x8_2).bind fun bt273 => (spec_TableFor.l1 (fun q t => spec_TableForB.f q l0 l1 t (l0.length : Int)) k3 (l0.length : Int) y272 x8_2 t266 bt273.1 bt273.2.1 bt273.2.2.1 bt273.2.2.2))) = some (r1, r2) := by first | (rw [hy270]; with_reducible exact H) | (have H2_ := (Option.bind_some _ _).symm.trans H; rw [hy270]; with_reducible exact H2_) | (have H2_ := (Option.bind_some _ _).symm.trans H; with_reducible exact H2_) | with_reducible exact H | (rw [hy270]; exact H) | exact H
                     have Ny270 := Aside0.mk hy270
                     clear hy270
                     obtain ⟨y272, hy272⟩ : ∃ y_ : List Int, y_ = (y270.set (x12_3 : Int).toNat (wrap64 ((rd y270 x12_3) + x13_3))) := ⟨_, rfl⟩
                     replace H : ((spec_doStep.f k3 y272 x8_2).bind fun bt273 => (spec_TableFor.l1 (fun q t => spec_TableForB.f q l0 l1 t (l0.length : Int)) k3 (l0.length : Int) y272 x8_2 t266 bt273.1 bt273.2.1 bt273.2.2.1 bt273.2.2.2)) = some (r1, r2) := by first | (rw [hy272]; with_reducible exact H) | (have H2_ := (Option.bind_some _ _).symm.trans H; rw [hy272]; with_reducible exact H2_) | (have H2_ := (Option.bind_some _ _).symm.trans H; with_reducible exact H2_) | with_reducible exact H | (rw [hy272]; exact H) | exact H
                     have Ny272 := Aside0.mk hy272
                     clear hy272
                     replace H := Option.bind_eq_some_iff.mp H
                     obtain ⟨⟨t273, t274, t275, t276⟩, A380, H⟩ := H
                     replace H : (spec_TableFor.l1 (fun q t => spec_TableForB.f q l0 l1 t (l0.length : Int)) k3 (l0.length : Int) y272 x8_2 t266 t273 t274 t275 t276) = some (r1, r2) := H
                     have A38 := Aside0.mk A380
                     clear A380
                     have H' := Aside0.mk H
                     clear H
                     try go_wp2
                     have n0_ := Aside0.mk (Kd.R_drew HO_7.out)
                     have n1_ := Aside0.mk (Kd.R_drew HO_8.out)
                     have n2_ := Aside0.mk (Kd.S_drew HO_9.out)
                     have n3_ := Aside0.mk (below_drew1 HB.out)
                     clear HO_7
                     clear HO_8
                     clear HO_9
                     clear HB
                     have HO_7 := n0_
                     have HO_8 := n1_
                     have HO_9 := n2_
                     have HB := n3_
                     clear n0_ n1_ n2_ n3_
                     have p261 : 0 ≤ (x11_3 : Int) := of_decide_eq_true (by first | (with_reducible assumption) | assumption)
                     have q261 : x11_3 < (x7_3.length : Int) := of_decide_eq_true (by first | (with_reducible assumption) | assumption)
                     obtain ⟨ad261, e261, hx261_0⟩ := Kd.at_int (Kd.R_reads' HO_7.out).2.2 x11_3 p261 q261
                     cases e261
                     replace p261 := eq_true p261
                     replace q261 := eq_true q261
                     have p262 : 0 ≤ (x12_3 : Int) := of_decide_eq_true (by first | (with_reducible assumption) | assumption)
                     have q262 : x12_3 < (x7_3.length : Int) := of_decide_eq_true (by first | (with_reducible assumption) | assumption)
                     obtain ⟨ad262, e262, hx262_0⟩ := Kd.at_int (Kd.R_reads' HO_7.out).2.2 x12_3 p262 q262
                     obtain rfl : ad261 = ad262 := (by injection e262)
                     replace p262 := eq_true p262
                     replace q262 := eq_true q262
                     refine start_ (n := 17) (S := fun w' => w'.cell? (ad261.add (x11_3).toNat) = some (.int .i64 (rd x7_3 x11_3)) ∧ w'.cell? (ad261.add (x12_3).toNat) = some (.int .i64 (rd x7_3 x12_3))) (ds := []) #[false, false, false, false, false, false, false, false, false, false, false, false, false, false, false, false, false] (by kernel_rfl) rfl rfl ⟨hx261_0, hx262_0⟩ (fun hHeld => ?_); refine with_tabW spec_TableFor.tab14 spec_TableFor.bits14 (fun HT_ HW_ => ?_)
                     generalize wr.drew = w39 at HO_7 HO_8 HO_9 HB hx261_0 hx262_0 hHeld ⊢
                     refine pure_ (i := 0) (N := some 79) (v := ?_) (a' := ?_) #[true, false, false, false, false, false, false, false, false, false, false, false, false, false, false, false, false] rfl rfl (any_of HT_.out (by kernel_rfl)) (fun _ _ _ h => h) (Or.inl ⟨by rfl, ?_⟩) ?_ ?_
                     rotate_left
                     · intro w'
                       go_simp
                       with_reducible rfl
                     rotate_left
                     · simp only [Act.put, List.setIfInBounds_toArray, List.set_cons_zero, List.set_cons_succ, i64_w, i32_w]
                       rfl
                     refine pure_ (i := 1) (N := some 80) (v := ?_) (a' := ?_) #[true, true, false, false, false, false, false, false, false, false, false, false, false, false, false, false, false] rfl rfl (any_of HT_.out (by kernel_rfl)) (fun _ _ _ h => h) (Or.inl ⟨by rfl, ?_⟩) ?_ ?_
                     rotate_left
                     · intro w'
                       go_simp
                       with_reducible rfl
                     rotate_left
                     · simp only [Act.put, List.setIfInBounds_toArray, List.set_cons_zero, List.set_cons_succ, i64_w, i32_w]
                       rfl
                     refine pure_ (i := 2) (N := some 81) (v := ?_) (a' := ?_) #[true, true, true, false, false, false, false, false, false, false, false, false, false, false, false, false, false] rfl rfl (any_of HT_.out (by kernel_rfl)) (fun _ _ _ h => h) (Or.inl ⟨by rfl, ?_⟩) ?_ ?_
                     rotate_left
                     · intro w'
                       go_simp
                       with_reducible rfl
                     rotate_left
                     · simp only [Act.put, List.setIfInBounds_toArray, List.set_cons_zero, List.set_cons_succ, i64_w, i32_w]
                       rfl
                     refine pure_ (i := 3) (N := some 82) (v := ?_) (a' := ?_) #[true, true, true, true, false, false, false, false, false, false, false, false, false, false, false, false, false] rfl rfl (any_of HT_.out (by kernel_rfl)) (fun _ _ _ h => h) (Or.inl ⟨by rfl, ?_⟩) ?_ ?_
                     rotate_left
                     · intro w'
                       go_simp
                       with_reducible rfl
                     rotate_left
                     · simp only [Act.put, List.setIfInBounds_toArray, List.set_cons_zero, List.set_cons_succ, i64_w, i32_w]
                       rfl
                     refine pure_ (i := 4) (N := some 83) (v := ?_) (a' := ?_) #[true, true, true, true, true, false, false, false, false, false, false, false, false, false, false, false, false] rfl rfl (any_of HT_.out (by kernel_rfl)) (fun _ _ _ h => h) (Or.inl ⟨by rfl, ?_⟩) ?_ ?_
                     rotate_left
                     · intro w'
                       go_simp
                       with_reducible rfl
                     rotate_left
                     · simp only [Act.put, List.setIfInBounds_toArray, List.set_cons_zero, List.set_cons_succ, i64_w, i32_w]
                       rfl
                     refine pure_ (i := 5) (N := some 84) (v := ?_) (a' := ?_) #[true, true, true, true, true, true, false, false, false, false, false, false, false, false, false, false, false] rfl rfl (any_of HT_.out (by kernel_rfl)) (fun _ _ _ h => h) (Or.inl ⟨by rfl, ?_⟩) ?_ ?_
                     rotate_left
                     · intro w'
                       go_simp
                       with_reducible rfl
                     rotate_left
                     · simp only [Act.put, List.setIfInBounds_toArray, List.set_cons_zero, List.set_cons_succ, i64_w, i32_w]
                       rfl
                     refine pure_ (i := 7) (N := some 86) (v := ?_) (a' := ?_) #[true, true, true, true, true, true, false, true, false, false, false, false, false, false, false, false, false] rfl rfl (any_of HT_.out (by kernel_rfl)) (fun _ _ _ h => h) (Or.inl ⟨by rfl, ?_⟩) ?_ ?_
                     rotate_left
                     · intro w'
                       go_simp
                       with_reducible rfl
                     rotate_left
                     · simp only [Act.put, List.setIfInBounds_toArray, List.set_cons_zero, List.set_cons_succ, i64_w, i32_w]
                       rfl
                     refine pure_ (i := 8) (N := some 87) (v := ?_) (a' := ?_) #[true, true, true, true, true, true, false, true, true, false, false, false, false, false, false, false, false] rfl rfl (any_of HT_.out (by kernel_rfl)) (fun _ _ _ h => h) (Or.inl ⟨by rfl, ?_⟩) ?_ ?_
                     rotate_left
                     · intro w'
                       go_simp
                       with_reducible rfl
                     rotate_left
                     · simp only [Act.put, List.setIfInBounds_toArray, List.set_cons_zero, List.set_cons_succ, i64_w, i32_w]
                       rfl
                     refine pure_ (i := 9) (N := some 88) (v := ?_) (a' := ?_) #[true, true, true, true, true, true, false, true, true, true, false, false, false, false, false, false, false] rfl rfl (any_of HT_.out (by kernel_rfl)) (fun _ _ _ h => h) (Or.inl ⟨by rfl, ?_⟩) ?_ ?_
                     rotate_left
                     · intro w'
                       go_simp
                       with_reducible rfl
                     rotate_left
                     · simp only [Act.put, List.setIfInBounds_toArray, List.set_cons_zero, List.set_cons_succ, i64_w, i32_w]
                       rfl
                     refine pure_ (i := 12) (N := some 91) (v := ?_) (a' := ?_) #[true, true, true, true, true, true, false, true, true, true, false, false, true, false, false, false, false] rfl rfl (any_of HT_.out (by kernel_rfl)) (fun _ _ _ h => h) (Or.inl ⟨by rfl, ?_⟩) ?_ ?_
                     rotate_left
                     · intro w'
                       go_simp
                       with_reducible rfl
                     rotate_left
                     · simp only [Act.put, List.setIfInBounds_toArray, List.set_cons_zero, List.set_cons_succ, i64_w, i32_w]
                       rfl
                     refine pure_ (i := 14) (N := some 93) (v := ?_) (a' := ?_) #[true, true, true, true, true, true, false, true, true, true, false, false, true, false, true, false, false] rfl rfl (any_of HT_.out (by kernel_rfl)) (fun _ _ _ h => h) (Or.inl ⟨by rfl, ?_⟩) ?_ ?_
                     rotate_left
                     · intro w'
                       go_simp
                       with_reducible rfl
                     rotate_left
                     · simp only [Act.put, List.setIfInBounds_toArray, List.set_cons_zero, List.set_cons_succ, i64_w, i32_w]
                       rfl
                     refine take_ (i := 6) (N := some 85) (v := ?_) (a' := ?_) #[true, true, true, true, true, true, true, true, true, true, false, false, true, false, true, false, false] rfl rfl (take_ofW HT_.out HW_.out (by kernel_rfl)) (fun _ _ _ h => h) (Or.inl ⟨by rfl, ?_⟩) hHeld ?_ ?_
                     rotate_left
                     · rintro w' ⟨s0, s1⟩
                       go_simp
                       with_reducible rfl
                     rotate_left
                     · simp only [Act.put, List.setIfInBounds_toArray, List.set_cons_zero, List.set_cons_succ, i64_w, i32_w]
                       rfl
                     refine take_ (i := 10) (N := some 89) (v := ?_) (a' := ?_) #[true, true, true, true, true, true, true, true, true, true, true, false, true, false, true, false, false] rfl rfl (take_ofW HT_.out HW_.out (by kernel_rfl)) (fun _ _ _ h => h) (Or.inl ⟨by rfl, ?_⟩) hHeld ?_ ?_
                     rotate_left
                     · rintro w' ⟨s0, s1⟩
                       go_simp
                       with_reducible rfl
                     rotate_left
                     · simp only [Act.put, List.setIfInBounds_toArray, List.set_cons_zero, List.set_cons_succ, i64_w, i32_w]
                       rfl
                     refine pure_ (i := 11) (N := some 90) (v := ?_) (a' := ?_) #[true, true, true, true, true, true, true, true, true, true, true, true, true, false, true, false, false] rfl rfl (any_of HT_.out (by kernel_rfl)) (fun _ _ _ h => h) (Or.inl ⟨by rfl, ?_⟩) ?_ ?_
                     rotate_left
                     · intro w'
                       go_simp
                       with_reducible rfl
                     rotate_left
                     · simp only [Act.put, List.setIfInBounds_toArray, List.set_cons_zero, List.set_cons_succ, i64_w, i32_w]
                       rfl
                     refine one_ (i := 13) (N := some 92) #[true, true, true, true, true, true, true, true, true, true, true, true, true, true, true, false, false] rfl rfl (one_of HT_.out (by kernel_rfl)) (by decide) (fun K hK => ?_)
                     refine goes_ Try.func18 (by kernel_rfl) rfl #[.int .i64 (l0.length : Int), .int .i64 x11_3, .int .i64 x12_3, .int .i64 (wrap64 ((rd x7_3 x11_3) - (rd x7_3 x12_3))), .int .i64 x13_3] (by rfl) rfl rfl (by (try simp only [List.map_toArray, List.map_cons, List.map_nil]); first | done | rfl | (simp only [List.length_drop, List.length_take]; rfl)) ?_
                     with_reducible refine (spec_doGift.calls k3 (l0.length : Int) x11_3 x12_3 (wrap64 ((rd x7_3 x11_3) - (rd x7_3 x12_3))) x13_3 t263 _ A34.out).mono ?_
                     rintro e w40 ⟨v264, rfl, ho0, hb⟩
                     have HS0_ := (hb.cell (World.block_lt_of_cell? _ _ (hHeld.1))).trans (hHeld.1)
                     have HS1_ := (hb.cell (World.block_lt_of_cell? _ _ (hHeld.2))).trans (hHeld.2)
                     refine ⟨_, rfl, ?_⟩
                     have n0_ := Aside0.mk (Kd.R_below (by (with_reducible repeat (first | apply Kd.R_alloc | apply Kd.R_drewN | apply Kd.R_drew)); exact HO_7.out) hb)
                     have n1_ := Aside0.mk (Kd.R_below (by (with_reducible repeat (first | apply Kd.R_alloc | apply Kd.R_drewN | apply Kd.R_drew)); exact HO_8.out) hb)
                     have n2_ := Aside0.mk (Kd.S_elder' (by (with_reducible repeat (first | apply Kd.S_alloc | apply Kd.S_drewN | apply Kd.S_drew)); exact HO_9.out) (Kd.S_base ho0) hb)
                     have n3_ := Aside0.mk (Kd.S_lower (Kd.S_new' (Kd.S_new' (Kd.S_new' (Kd.S_newM (M := fun k_ => (w.heap.size ≤ k_)) ho0 (below_size (by repeat (first | (with_reducible first | exact HB.out | apply below_alloc | apply pw_below_drewN | apply below_drew1) | exact HB.out))) (fun k_ h_ => h_)) (Kd.R_lt (by (with_reducible repeat (first | apply Kd.R_alloc | apply Kd.R_drewN | apply Kd.R_drew)); exact HO_7.out))) (Kd.R_lt (by (with_reducible repeat (first | apply Kd.R_alloc | apply Kd.R_drewN | apply Kd.R_drew)); exact HO_8.out))) (Kd.S_lt (by (with_reducible repeat (first | apply Kd.S_alloc | apply Kd.S_drewN | apply Kd.S_drew)); exact HO_9.out))) (below_size (by repeat (first | (with_reducible first | exact HB.out | apply below_alloc | apply pw_below_drewN | apply below_drew1) | exact HB.out))))
                     have n4_ := Aside0.mk (below_step (by repeat (first | (with_reducible first | exact HB.out | apply below_alloc | apply pw_below_drewN | apply below_drew1) | exact HB.out)) hb)
                     clear HO_7
                     clear HO_8
                     clear HO_9
                     clear HB
                     have HO_7 := n0_
                     have HO_8 := n1_
                     have HO_9 := n2_
                     have HO265 := n3_
                     have HB := n4_
                     clear n0_ n1_ n2_ n3_ n4_
                     (try clear hb)
                     (try clear hb2)
                     (try clear hk)
                     (try clear hi)
                     (try clear ho0)
                     obtain ⟨Ao41, co41, eo41⟩ := Kd.S_slice HO265.out
                     (first | subst eo41 | (injection eo41 with f1_ f2_ f3_; have f4_ := f1_.symm; have f5_ := f3_.symm; clear f1_ f2_ f3_; subst f4_; subst f5_))
                     obtain ⟨Ao42, co42, eo42⟩ := Kd.S_slice HO_9.out
                     (first | subst eo42 | (injection eo42 with f1_ f2_ f3_; have f4_ := f1_.symm; have f5_ := f3_.symm; clear f1_ f2_ f3_; subst f4_; subst f5_))
                     refine hK.out _ _ ⟨HS0_, HS1_⟩ (fun hHeld => ?_)
                     clear hK K
                     refine norm_ (a' := ?_) ?_ ?_
                     rotate_left
                     · show Act.put _ (some 92) _ = _
                       simp only [Act.put, List.setIfInBounds_toArray, List.set_cons_zero, List.set_cons_succ, i64_w, i32_w]
                       rfl
                     refine one_ (i := 15) (N := some 94) #[true, true, true, true, true, true, true, true, true, true, true, true, true, true, true, true, false] rfl rfl (one_of HT_.out (by kernel_rfl)) (by decide) (fun K hK => ?_)
                     refine goes_ Try.func17 (by kernel_rfl) rfl #[.slice Ao41 t263.length co41, .slice Ao42 x9_3.length co42] (by rfl) rfl rfl (by (try simp only [List.map_toArray, List.map_cons, List.map_nil]); first | done | rfl | (simp only [List.length_drop, List.length_take]; rfl)) ?_
                     with_reducible refine (spec_doTimes.calls k3 _ _ t263 _ _ x9_3 t266 _ ?side1 ?side2 ?side3 ?side4 A35.out).mono ?_
                     (case side1 => repeat (first | exact (Kd.S_reads' HO265.out).2.2 | (with_reducible refine Kd.C_alloc ?_ _) | (with_reducible refine Kd.C_drewN ?_ _) | (with_reducible refine Kd.C_drew ?_)))
                     (case side2 => exact (Kd.S_reads' HO265.out).2.1)
                     (case side3 => repeat (first | exact (Kd.S_reads' HO_9.out).2.2 | (with_reducible refine Kd.C_alloc ?_ _) | (with_reducible refine Kd.C_drewN ?_ _) | (with_reducible refine Kd.C_drew ?_)))
                     (case side4 => exact (Kd.S_reads' HO_9.out).2.1)
                     rintro e w43 ⟨v267, rfl, ho0, hb⟩
                     have HS0_ := (hb.cell (World.block_lt_of_cell? _ _ (hHeld.1))).trans (hHeld.1)
                     have HS1_ := (hb.cell (World.block_lt_of_cell? _ _ (hHeld.2))).trans (hHeld.2)
                     refine ⟨_, rfl, ?_⟩
                     have n0_ := Aside0.mk (Kd.R_below (by (with_reducible repeat (first | apply Kd.R_alloc | apply Kd.R_drewN | apply Kd.R_drew)); exact HO_7.out) hb)
                     have n1_ := Aside0.mk (Kd.R_below (by (with_reducible repeat (first | apply Kd.R_alloc | apply Kd.R_drewN | apply Kd.R_drew)); exact HO_8.out) hb)
                     have n2_ := Aside0.mk (Kd.S_elder' (by (with_reducible repeat (first | apply Kd.S_alloc | apply Kd.S_drewN | apply Kd.S_drew)); exact HO_9.out) (Kd.S_base ho0) hb)
                     have n3_ := Aside0.mk (Kd.S_elder' (by (with_reducible repeat (first | apply Kd.S_alloc | apply Kd.S_drewN | apply Kd.S_drew)); exact HO265.out) (Kd.S_base ho0) hb)
                     have n4_ := Aside0.mk (Kd.S_lower (Kd.S_new' (Kd.S_new' (Kd.S_new' (Kd.S_new' (Kd.S_newM (M := fun k_ => (w.heap.size ≤ k_)) ho0 (below_size (by repeat (first | (with_reducible first | exact HB.out | apply below_alloc | apply pw_below_drewN | apply below_drew1) | exact HB.out))) (fun k_ h_ => h_)) (Kd.R_lt (by (with_reducible repeat (first | apply Kd.R_alloc | apply Kd.R_drewN | apply Kd.R_drew)); exact HO_7.out))) (Kd.R_lt (by (with_reducible repeat (first | apply Kd.R_alloc | apply Kd.R_drewN | apply Kd.R_drew)); exact HO_8.out))) (Kd.S_lt (by (with_reducible repeat (first | apply Kd.S_alloc | apply Kd.S_drewN | apply Kd.S_drew)); exact HO_9.out))) (Kd.S_lt (by (with_reducible repeat (first | apply Kd.S_alloc | apply Kd.S_drewN | apply Kd.S_drew)); exact HO265.out))) (below_size (by repeat (first | (with_reducible first | exact HB.out | apply below_alloc | apply pw_below_drewN | apply below_drew1) | exact HB.out))))
                     have n5_ := Aside0.mk (below_step (by repeat (first | (with_reducible first | exact HB.out | apply below_alloc | apply pw_below_drewN | apply below_drew1) | exact HB.out)) hb)
                     clear HO_7
                     clear HO_8
                     clear HO_9
                     clear HO265
                     clear HB
                     have HO_7 := n0_
                     have HO_8 := n1_
                     have HO_9 := n2_
                     have HO265 := n3_
                     have HO268 := n4_
                     have HB := n5_
                     clear n0_ n1_ n2_ n3_ n4_ n5_
                     (try clear hb)
                     (try clear hb2)
                     (try clear hk)
                     (try clear hi)
                     (try clear ho0)
                     refine hK.out _ _ ⟨HS0_, HS1_⟩ (fun hHeld => ?_)
                     clear hK K
                     refine norm_ (a' := ?_) ?_ ?_
                     rotate_left
                     · show Act.put _ (some 94) _ = _
                       simp only [Act.put, List.setIfInBounds_toArray, List.set_cons_zero, List.set_cons_succ, i64_w, i32_w]
                       rfl
                     refine pure_ (i := 16) (N := some 9) (v := ?_) (a' := ?_) #[true, true, true, true, true, true, true, true, true, true, true, true, true, true, true, true, true] rfl rfl (any_of HT_.out (by kernel_rfl)) (fun _ _ _ h => h) (Or.inl ⟨by rfl, ?_⟩) ?_ ?_
                     rotate_left
                     · intro w'
                       go_simp
                       with_reducible rfl
                     rotate_left
                     · simp only [Act.put, List.setIfInBounds_toArray, List.set_cons_zero, List.set_cons_succ, i64_w, i32_w]
                       rfl
                     refine done_ (done_of HT_.out (by kernel_rfl)) ?_
                     have p269 : 0 ≤ (x11_3 : Int) := of_decide_eq_true (by first | (with_reducible assumption) | assumption)
                     have q269 : x11_3 < (x7_3.length : Int) := of_decide_eq_true (by first | (with_reducible assumption) | assumption)
                     obtain ⟨ad269, e269, hx269_0⟩ := Kd.at_int (Kd.R_reads' HO_7.out).2.2 x11_3 p269 q269
                     obtain rfl : ad261 = ad269 := (by injection e269)
                     replace p269 := eq_true p269
                     replace q269 := eq_true q269
                     have p36 : 0 ≤ (x11_3 : Int) := of_decide_eq_true (by first | (with_reducible assumption) | assumption)
                     have q36 : (x11_3 : Int) < ((x7_3.length : Int) : Int) := of_decide_eq_true (by first | (with_reducible assumption) | assumption)
                     obtain ⟨go36, co36, eo36, gb36, gl36, cl36, HG36⟩ := Kd.R_form HO_7.out (by omega)
                     (first | cases eo36 | (injection eo36 with ea_ en_ ec_; (first | subst ea_ | (injection ea_ with ea_; subst ea_)); subst ec_; clear en_))
                     have GB36 := Aside0.mk gb36
                     have GG36 := Aside0.mk HG36
                     clear gb36 gl36 HG36
                     (first | simp only [add_plain] at hx261_0 | skip)
                     (first | simp only [add_plain] at hx262_0 | skip)
                     (first | simp only [add_plain] at hx269_0 | skip)
                     obtain ⟨hx36_0, hf36_0⟩ := Kd.R_celln 0 HO_7.out (x11_3 : Int) p36 q36
                     replace p36 := eq_true p36
                     replace q36 := eq_true q36
                     obtain ⟨hy44_, hz44_⟩ := Kd.R_celln 0 HO_7.out (x11_3 : Int) (of_decide_eq_true (by first | (with_reducible assumption) | assumption)) (of_decide_eq_true (by first | (with_reducible assumption) | assumption))
                     have HP44 := Kd.R_putg HO_7.out (x11_3 : Int) (wrap64 ((rd x7_3 x11_3) - x13_3))
                     try go_wp2_with (first | ((with_reducible refine gate_store (t := 3) (p := 101) rfl ?_); refine store_event (t := 3) (p := 101) (v := ?vo_w45) (w1 := (w43.setCell ⟨go36, (x11_3 : Int).toNat, none⟩ (.int .i64 (wrap64 ((rd x7_3 x11_3) - x13_3))))) ?hg ?ho ?hn ?hr ?_; (case ho => rfl); (case hg => rfl); (case hn => rfl); (case hr => first | (go_simp; done) | (go_simp; rfl)); intro w45 hw; have hg : w43.grownBy w45 (some go36) := (by rw [hw]; exact HP44.2); have hp_ : Kd.R (Kd.int .i64) 3 w45 w.heap.size (fun k_ => (w.heap.size ≤ k_) ∧ some k_ ≠ (.slice Ao28 x8_2.length co28 : Value).ownBlock) (.slice (some ⟨go36, 0, none⟩) x7_3.length co27) y270 := (by rw [hw, Ny270.out]; exact HP44.1); clear HP44; have n0_ := Aside0.mk (hp_); have n1_ := Aside0.mk (Kd.R_after (v := (.slice (some ⟨go36, 0, none⟩) x7_3.length co27)) (v1 := (.slice (some ⟨go36, 0, none⟩) x7_3.length co27)) (ok := (fun k_ => (w.heap.size ≤ k_))) (by (with_reducible repeat (first | apply Kd.R_alloc | apply Kd.R_drewN | apply Kd.R_drew)); exact HO_8.out) hg (.inl rfl)); have n2_ := Aside0.mk (Kd.S_after (v := (.slice (some ⟨go36, 0, none⟩) x7_3.length co27)) (v1 := (.slice (some ⟨go36, 0, none⟩) x7_3.length co27)) (ok := (fun k_ => (w.heap.size ≤ k_) ∧ some k_ ≠ (.slice Ao28 x8_2.length co28 : Value).ownBlock ∧ some k_ ≠ (.slice Ao41 t263.length co41 : Value).ownBlock ∧ some k_ ≠ (v267 : Value).ownBlock)) (by (with_reducible repeat (first | apply Kd.S_alloc | apply Kd.S_drewN | apply Kd.S_drew)); exact Kd.S_mono HO_9.out (fun _ hk => ⟨⟨hk.1.1.1, ⟨hk.1.1.2.2, ⟨hk.1.2, hk.2⟩⟩⟩, hk.1.1.2.1⟩)) hg (.inl rfl)); have n3_ := Aside0.mk (Kd.S_after (v := (.slice (some ⟨go36, 0, none⟩) x7_3.length co27)) (v1 := (.slice (some ⟨go36, 0, none⟩) x7_3.length co27)) (ok := (fun k_ => (w.heap.size ≤ k_) ∧ some k_ ≠ (.slice Ao28 x8_2.length co28 : Value).ownBlock ∧ some k_ ≠ (.slice Ao42 x9_3.length co42 : Value).ownBlock ∧ some k_ ≠ (v267 : Value).ownBlock)) (by (with_reducible repeat (first | apply Kd.S_alloc | apply Kd.S_drewN | apply Kd.S_drew)); exact Kd.S_mono HO265.out (fun _ hk => ⟨⟨hk.1.1.1.1.1, ⟨hk.1.1.2, ⟨hk.1.2, hk.2⟩⟩⟩, hk.1.1.1.2⟩)) hg (.inl rfl)); have n4_ := Aside0.mk (Kd.S_after (v := (.slice (some ⟨go36, 0, none⟩) x7_3.length co27)) (v1 := (.slice (some ⟨go36, 0, none⟩) x7_3.length co27)) (ok := (fun k_ => (w.heap.size ≤ k_) ∧ some k_ ≠ (.slice Ao28 x8_2.length co28 : Value).ownBlock ∧ some k_ ≠ (.slice Ao42 x9_3.length co42 : Value).ownBlock ∧ some k_ ≠ (.slice Ao41 t263.length co41 : Value).ownBlock)) (by (with_reducible repeat (first | apply Kd.S_alloc | apply Kd.S_drewN | apply Kd.S_drew)); exact Kd.S_mono HO268.out (fun _ hk => ⟨⟨hk.1.1.1.1.1, ⟨hk.1.1.2, ⟨hk.1.2, hk.2⟩⟩⟩, hk.1.1.1.2⟩)) hg (.inl rfl)); have n5_ := Aside0.mk ((by rw [hw]; exact below_set (HB.out) GB36.out : Below w.heap.size w w45)); clear HO_7; clear HO_8; clear HO_9; clear HO265; clear HO268; clear HB; have HO_7 := n0_; have HO_8 := n1_; have HO_9 := n2_; have HO265 := n3_; have HO268 := n4_; have HB := n5_; clear n0_ n1_ n2_ n3_ n4_ n5_; clear hg hw hp_; have p271 : 0 ≤ (x12_3 : Int) := of_decide_eq_true (by first | (with_reducible assumption) | assumption); have q271 : x12_3 < (y270.length : Int) := (by have h_ : (x12_3 : Int) < ((x7_3.length : Int) : Int) := of_decide_eq_true (by first | (with_reducible assumption) | assumption); first | (have e_ := (Kd.R_reads' HO_7.out).1; omega) | simpa only [Ny270.out, List.length_set] using h_); have ql271 : ((x12_3 : Int) < ((x7_3.length : Int) : Int)) = True := eq_true (of_decide_eq_true (by first | (with_reducible assumption) | assumption)); obtain ⟨ad271, e271, hx271_0⟩ := Kd.at_int (Kd.R_reads' HO_7.out).2.2 x12_3 p271 q271; obtain rfl : (⟨go36, 0, none⟩ : Addr) = ad271 := (by injection e271); (first | simp only [add_plain] at hx271_0 | simp only [add_at] at hx271_0 | simp only [Addr.add, Nat.zero_add] at hx271_0 | skip); replace p271 := eq_true p271; replace q271 := eq_true q271; have p37 : 0 ≤ (x12_3 : Int) := of_decide_eq_true (by first | (with_reducible assumption) | assumption); have q37 : (x12_3 : Int) < ((x7_3.length : Int) : Int) := of_decide_eq_true (by first | (with_reducible assumption) | assumption); obtain ⟨hx37_0, hf37_0⟩ := Kd.R_celln 0 HO_7.out (x12_3 : Int) p37 q37; replace p37 := eq_true p37; replace q37 := eq_true q37; obtain ⟨hy46_, hz46_⟩ := Kd.R_celln 0 HO_7.out (x12_3 : Int) (of_decide_eq_true (by first | (with_reducible assumption) | assumption)) (of_decide_eq_true (by first | (with_reducible assumption) | assumption)); have HP46 := Kd.R_putg HO_7.out (x12_3 : Int) (wrap64 ((rd y270 x12_3) + x13_3))) | ((with_reducible refine gate_store (t := 3) (p := 108) rfl ?_); refine store_event (t := 3) (p := 108) (v := ?vo_w47) (w1 := (w45.setCell ⟨go36, (x12_3 : Int).toNat, none⟩ (.int .i64 (wrap64 ((rd y270 x12_3) + x13_3))))) ?hg ?ho ?hn ?hr ?_; (case ho => rfl); (case hg => rfl); (case hn => rfl); (case hr => first | (go_simp; done) | (go_simp; rfl)); intro w47 hw; have hg : w45.grownBy w47 (some go36) := (by rw [hw]; exact HP46.2); have hp_ : Kd.R (Kd.int .i64) 3 w47 w.heap.size (fun k_ => (w.heap.size ≤ k_) ∧ some k_ ≠ (.slice Ao28 x8_2.length co28 : Value).ownBlock) (.slice (some ⟨go36, 0, none⟩) x7_3.length co27) y272 := (by rw [hw, Ny272.out]; exact HP46.1); clear HP46; have n0_ := Aside0.mk (hp_); have n1_ := Aside0.mk (Kd.R_after (v := (.slice (some ⟨go36, 0, none⟩) x7_3.length co27)) (v1 := (.slice (some ⟨go36, 0, none⟩) x7_3.length co27)) (ok := (fun k_ => (w.heap.size ≤ k_))) (by (with_reducible repeat (first | apply Kd.R_alloc | apply Kd.R_drewN | apply Kd.R_drew)); exact HO_8.out) hg (.inl rfl)); have n2_ := Aside0.mk (Kd.S_after (v := (.slice (some ⟨go36, 0, none⟩) x7_3.length co27)) (v1 := (.slice (some ⟨go36, 0, none⟩) x7_3.length co27)) (ok := (fun k_ => (w.heap.size ≤ k_) ∧ some k_ ≠ (.slice Ao28 x8_2.length co28 : Value).ownBlock ∧ some k_ ≠ (.slice Ao41 t263.length co41 : Value).ownBlock ∧ some k_ ≠ (v267 : Value).ownBlock)) (by (with_reducible repeat (first | apply Kd.S_alloc | apply Kd.S_drewN | apply Kd.S_drew)); exact HO_9.out) hg (.inl rfl)); have n3_ := Aside0.mk (Kd.S_after (v := (.slice (some ⟨go36, 0, none⟩) x7_3.length co27)) (v1 := (.slice (some ⟨go36, 0, none⟩) x7_3.length co27)) (ok := (fun k_ => (w.heap.size ≤ k_) ∧ some k_ ≠ (.slice Ao28 x8_2.length co28 : Value).ownBlock ∧ some k_ ≠ (.slice Ao42 x9_3.length co42 : Value).ownBlock ∧ some k_ ≠ (v267 : Value).ownBlock)) (by (with_reducible repeat (first | apply Kd.S_alloc | apply Kd.S_drewN | apply Kd.S_drew)); exact HO265.out) hg (.inl rfl)); have n4_ := Aside0.mk (Kd.S_after (v := (.slice (some ⟨go36, 0, none⟩) x7_3.length co27)) (v1 := (.slice (some ⟨go36, 0, none⟩) x7_3.length co27)) (ok := (fun k_ => (w.heap.size ≤ k_) ∧ some k_ ≠ (.slice Ao28 x8_2.length co28 : Value).ownBlock ∧ some k_ ≠ (.slice Ao42 x9_3.length co42 : Value).ownBlock ∧ some k_ ≠ (.slice Ao41 t263.length co41 : Value).ownBlock)) (by (with_reducible repeat (first | apply Kd.S_alloc | apply Kd.S_drewN | apply Kd.S_drew)); exact HO268.out) hg (.inl rfl)); have n5_ := Aside0.mk ((by rw [hw]; exact below_set (HB.out) GB36.out : Below w.heap.size w w47)); clear HO_7; clear HO_8; clear HO_9; clear HO265; clear HO268; clear HB; have HO_7 := n0_; have HO_8 := n1_; have HO_9 := n2_; have HO265 := n3_; have HO268 := n4_; have HB := n5_; clear n0_ n1_ n2_ n3_ n4_ n5_; clear hg hw hp_) | ((with_reducible refine gate_callee (f := 16) rfl ?_); refine goesL_ (some 74) rfl rfl Try.func16 (by kernel_rfl) rfl #[.slice (some ⟨go36, 0, none⟩) y272.length co27, .slice Ao28 x8_2.length co28] rfl (by (try simp only [List.map_toArray, List.map_cons, List.map_nil]); first | done | (rw [show y272.length = x7_3.length from (Kd.R_reads' HO_7.out).1.symm] <;> rfl) | rfl | (simp only [List.length_drop, List.length_take]; rfl)) ?_; (with_reducible refine (spec_doStep.calls k3 _ _ y272 _ _ x8_2 t273 t274 t275 t276 _ ?side1 ?side2 ?side3 ?side4 A38.out).mono ?_); (case side1 => repeat (first | exact (Kd.R_reads' HO_7.out).2.2 | (with_reducible refine Kd.C_alloc ?_ _) | (with_reducible refine Kd.C_drewN ?_ _) | (with_reducible refine Kd.C_drew ?_))); (case side2 => rw [show y272.length = x7_3.length from (Kd.R_reads' HO_7.out).1.symm]; exact (Kd.R_reads' HO_7.out).2.1); (case side3 => repeat (first | exact (Kd.R_reads' HO_8.out).2.2 | (with_reducible refine Kd.C_alloc ?_ _) | (with_reducible refine Kd.C_drewN ?_ _) | (with_reducible refine Kd.C_drew ?_))); (case side4 => exact (Kd.R_reads' HO_8.out).2.1); rintro e w' ⟨rfl, ⟨nd, rfl⟩⟩; refine ⟨_, rfl, ?_⟩))
                     (try simp only [← hl7_3])
                     go_roundg k3
                     case measure => have := HJ2.out; have := HK2.out; have := HK3.out; omega
                     case rel => exact ⟨(y272), (t266), (t273), (t274), (t275), (t276), (by first | rfl | (simp; done) | (simp [*]; done)), (by first | rfl | (simp; done) | (simp [*]; done)), (by first | rfl | (simp; done) | (simp [*]; done)), (by first | rfl | (simp; done) | (simp [*]; done)), H', ⟨by have := HJ2.out; have := HK2.out; have := HK3.out; omega⟩, ⟨by (try simp only [hl9_2]); (try simp only [hl7_3]); (with_reducible repeat (first | apply Kd.R_alloc | apply Kd.R_drewN | apply Kd.R_drew)); exact HO_7.out⟩, ⟨by (try simp only [hl9_2]); (try simp only [hl7_3]); (with_reducible repeat (first | apply Kd.R_alloc | apply Kd.R_drewN | apply Kd.R_drew)); exact HO_8.out⟩, ⟨by (try simp only [hl9_2]); (try simp only [hl7_3]); (with_reducible repeat (first | apply Kd.S_alloc | apply Kd.S_drewN | apply Kd.S_drew)); exact Kd.S_mono HO268.out (fun _ hk => ⟨hk.1.1, ⟨hk.2, hk.1.2.1⟩⟩)⟩, ⟨by repeat (first | (with_reducible first | exact HB.out | apply below_alloc | apply pw_below_drewN | apply below_drew1) | exact HB.out)⟩⟩
                   · rw [if_neg c33] at H
                     exact absurd H (by simp)
                 · rw [if_neg c32] at H
                   exact absurd H (by simp)
               · rw [if_neg c31] at H
                 exact absurd H (by simp)
             · rw [if_neg c30] at H
               exact absurd H (by simp)
           · replace c29 := Bool.eq_false_iff.mpr c29
             subst c29
             have H1 : (spec_TableForB.f k3 l0 l1 x9_3 (l0.length : Int)) = some (r1, r2) := by rw [if_neg (show ¬ (false = true) by decide)] at H; exact H
             clear H
             have H := H1
             clear H1
             obtain ⟨Ao49, co49, eo49⟩ := Kd.S_slice HO_9.out
             subst eo49
             have HRa := Aside0.mk (Kd.C_below HR0.out HB.out)
             have HRb := Aside0.mk (Kd.C_below HR1.out HB.out)
             have HR2 := Aside0.mk (Kd.S_reads' HO_9.out).2.2
             have HC2 := Aside0.mk (Kd.S_reads' HO_9.out).2.1
             clear HO_7 HO_8 HO_9 HR0 HR1
             revert HB HRa HRb HR2
             generalize wr = wb
             intro HBW HR0 HR1 HR2
             have HB := Aside0.mk (Below.refl wb.heap.size wb)
             have H : ((spec_doPlaces.f k3 l0).bind fun t241 => ((spec_doPlaces.f k3 l1).bind fun t244 => ((spec_doEmpty.f k3 (l0.length : Int)).bind fun t247 => (spec_TableForB.l0 k3 x9_3 t241 t244 t247 0 (t247.length : Int) 0)))) = some (r1, r2) := H
             replace H := Option.bind_eq_some_iff.mp H
             obtain ⟨t241, A50, H⟩ := H
             replace H : ((spec_doPlaces.f k3 l1).bind fun t244 => ((spec_doEmpty.f k3 (l0.length : Int)).bind fun t247 => (spec_TableForB.l0 k3 x9_3 t241 t244 t247 0 (t247.length : Int) 0))) = some (r1, r2) := H
             have A5 := Aside0.mk A50
             clear A50
             replace H := Option.bind_eq_some_iff.mp H
             obtain ⟨t244, A60, H⟩ := H
             replace H : ((spec_doEmpty.f k3 (l0.length : Int)).bind fun t247 => (spec_TableForB.l0 k3 x9_3 t241 t244 t247 0 (t247.length : Int) 0)) = some (r1, r2) := H
             have A6 := Aside0.mk A60
             clear A60
             replace H := Option.bind_eq_some_iff.mp H
             obtain ⟨t247, A70, H⟩ := H
             replace H : (spec_TableForB.l0 k3 x9_3 t241 t244 t247 0 (t247.length : Int) 0) = some (r1, r2) := H
             have A7 := Aside0.mk A70
             clear A70
             have H' := Aside0.mk H
             clear H
             go_wp2_with (first | ((with_reducible refine gate_callee (f := 19) rfl ?_); refine goesL_ (some 110) rfl rfl Try.func19 (by kernel_rfl) rfl #[.slice A0 l0.length c0] rfl (by (try simp only [List.map_toArray, List.map_cons, List.map_nil]); first | done | rfl | (simp only [List.length_drop, List.length_take]; rfl)) ?_; (with_reducible refine (spec_doPlaces.calls k3 _ _ l0 t241 _ ?side1 ?side2 A5.out).mono ?_); (case side1 => repeat (first | exact HR0.out | (with_reducible refine Kd.C_alloc ?_ _) | (with_reducible refine Kd.C_drewN ?_ _) | (with_reducible refine Kd.C_drew ?_))); (case side2 => exact HC0.out); rintro e w8 ⟨v242, rfl, ho0, hb⟩; refine ⟨_, rfl, ?_⟩; have n0_ := Aside0.mk (Kd.R_lower (Kd.R_newM (M := fun k_ => (wb.heap.size ≤ k_)) ho0 (below_size (by repeat (first | (with_reducible first | exact HB.out | apply below_alloc | apply pw_below_drewN | apply below_drew1) | exact HB.out))) (fun k_ h_ => h_)) (below_size (by repeat (first | (with_reducible first | exact HB.out | apply below_alloc | apply pw_below_drewN | apply below_drew1) | exact HB.out)))); have n1_ := Aside0.mk (below_step (by repeat (first | (with_reducible first | exact HB.out | apply below_alloc | apply pw_below_drewN | apply below_drew1) | exact HB.out)) hb); clear HB; have HO243 := n0_; have HB := n1_; clear n0_ n1_; (try clear hb); (try clear hb2); (try clear hk); (try clear hi); (try clear ho0)) | ((with_reducible refine gate_callee (f := 19) rfl ?_); refine goesL_ (some 112) rfl rfl Try.func19 (by kernel_rfl) rfl #[.slice A1 l1.length c1] rfl (by (try simp only [List.map_toArray, List.map_cons, List.map_nil]); first | done | rfl | (simp only [List.length_drop, List.length_take]; rfl)) ?_; (with_reducible refine (spec_doPlaces.calls k3 _ _ l1 t244 _ ?side1 ?side2 A6.out).mono ?_); (case side1 => repeat (first | exact (Kd.C_below HR1.out HB.out) | (with_reducible refine Kd.C_alloc ?_ _) | (with_reducible refine Kd.C_drewN ?_ _) | (with_reducible refine Kd.C_drew ?_))); (case side2 => exact HC1.out); rintro e w9 ⟨v245, rfl, ho0, hb⟩; refine ⟨_, rfl, ?_⟩; have n0_ := Aside0.mk (Kd.R_elder' (by (with_reducible repeat (first | apply Kd.R_alloc | apply Kd.R_drewN | apply Kd.R_drew)); exact HO243.out) (Kd.R_base ho0) hb); have n1_ := Aside0.mk (Kd.R_lower (Kd.R_new' (Kd.R_newM (M := fun k_ => (wb.heap.size ≤ k_)) ho0 (below_size (by repeat (first | (with_reducible first | exact HB.out | apply below_alloc | apply pw_below_drewN | apply below_drew1) | exact HB.out))) (fun k_ h_ => h_)) (Kd.R_lt (by (with_reducible repeat (first | apply Kd.R_alloc | apply Kd.R_drewN | apply Kd.R_drew)); exact HO243.out))) (below_size (by repeat (first | (with_reducible first | exact HB.out | apply below_alloc | apply pw_below_drewN | apply below_drew1) | exact HB.out)))); have n2_ := Aside0.mk (below_step (by repeat (first | (with_reducible first | exact HB.out | apply below_alloc | apply pw_below_drewN | apply below_drew1) | exact HB.out)) hb); clear HO243; clear HB; have HO243 := n0_; have HO246 := n1_; have HB := n2_; clear n0_ n1_ n2_; (try clear hb); (try clear hb2); (try clear hk); (try clear hi); (try clear ho0)) | ((with_reducible refine gate_callee (f := 15) rfl ?_); refine goesL_ (some 114) rfl rfl Try.func15 (by kernel_rfl) rfl #[.int .i64 (l0.length : Int)] rfl (by (try simp only [List.map_toArray, List.map_cons, List.map_nil]); first | done | rfl | (simp only [List.length_drop, List.length_take]; rfl)) ?_; (with_reducible refine (spec_doEmpty.calls k3 (l0.length : Int) t247 _ A7.out).mono ?_); rintro e w10 ⟨v248, rfl, ho0, hb⟩; refine ⟨_, rfl, ?_⟩; have n0_ := Aside0.mk (Kd.R_below (by (with_reducible repeat (first | apply Kd.R_alloc | apply Kd.R_drewN | apply Kd.R_drew)); exact HO243.out) hb); have n1_ := Aside0.mk (Kd.R_below (by (with_reducible repeat (first | apply Kd.R_alloc | apply Kd.R_drewN | apply Kd.R_drew)); exact HO246.out) hb); have n2_ := Aside0.mk (Kd.S_lower (Kd.S_new' (Kd.S_new' (Kd.S_newM (M := fun k_ => (wb.heap.size ≤ k_)) ho0 (below_size (by repeat (first | (with_reducible first | exact HB.out | apply below_alloc | apply pw_below_drewN | apply below_drew1) | exact HB.out))) (fun k_ h_ => h_)) (Kd.R_lt (by (with_reducible repeat (first | apply Kd.R_alloc | apply Kd.R_drewN | apply Kd.R_drew)); exact HO243.out))) (Kd.R_lt (by (with_reducible repeat (first | apply Kd.R_alloc | apply Kd.R_drewN | apply Kd.R_drew)); exact HO246.out))) (below_size (by repeat (first | (with_reducible first | exact HB.out | apply below_alloc | apply pw_below_drewN | apply below_drew1) | exact HB.out)))); have n3_ := Aside0.mk (below_step (by repeat (first | (with_reducible first | exact HB.out | apply below_alloc | apply pw_below_drewN | apply below_drew1) | exact HB.out)) hb); clear HO243; clear HO246; clear HB; have HO243 := n0_; have HO246 := n1_; have HO249 := n2_; have HB := n3_; clear n0_ n1_ n2_ n3_; (try clear hb); (try clear hb2); (try clear hk); (try clear hi); (try clear ho0); obtain ⟨Ao11, co11, eo11⟩ := Kd.S_slice HO249.out; subst eo11))
             go_loopg [18, 117] k3 (fun kq v18 v117 w' => ∃ (x15_1 : List Int) (x16_1 : List Int) (x17_1 : List (List Int)) (x18_1 : Int) (x117_1 : Int), v18 = .int .i64 x18_1 ∧ v117 = .int .i64 x117_1 ∧ Aside0 (spec_TableForB.l0 kq x9_3 x15_1 x16_1 x17_1 x18_1 (t247.length : Int) x117_1 = some (r1, r2)) ∧ Aside0 (kq ≤ k3) ∧ Aside0 (Kd.R (Kd.int .i64) 3 w' wb.heap.size (fun k_ => (wb.heap.size ≤ k_) ∧ some k_ ≠ (v245 : Value).ownBlock) v242 x15_1) ∧ Aside0 (Kd.R (Kd.int .i64) 3 w' wb.heap.size (fun k_ => (wb.heap.size ≤ k_) ∧ some k_ ≠ (v242 : Value).ownBlock) v245 x16_1) ∧ Aside0 (Kd.S (Kd.slice 3 (Kd.int .i64)) 22 w' wb.heap.size (fun k_ => (wb.heap.size ≤ k_) ∧ some k_ ≠ (v242 : Value).ownBlock ∧ some k_ ≠ (v245 : Value).ownBlock) (.slice Ao11 t247.length co11) x17_1) ∧ Aside0 (Below wb.heap.size wb w'))
             case atStart => exact ⟨(t241), (t244), (t247), (0), (0), (by first | rfl | (simp; done) | (simp [*]; done)), (by first | rfl | (simp; done) | (simp [*]; done)), H', ⟨Nat.le_refl _⟩, ⟨by (with_reducible repeat (first | apply Kd.R_alloc | apply Kd.R_drewN | apply Kd.R_drew)); exact Kd.R_mono HO243.out (fun _ hk => ⟨hk.1.1, hk.2⟩)⟩, ⟨by (with_reducible repeat (first | apply Kd.R_alloc | apply Kd.R_drewN | apply Kd.R_drew)); exact Kd.R_mono HO246.out (fun _ hk => ⟨hk.1.1, hk.2⟩)⟩, ⟨by (with_reducible repeat (first | apply Kd.S_alloc | apply Kd.S_drewN | apply Kd.S_drew)); exact Kd.S_mono HO249.out (fun _ hk => ⟨hk.1.1.1, ⟨hk.1.2, hk.2⟩⟩)⟩, ⟨by repeat (first | (with_reducible first | exact HB.out | apply below_alloc | apply pw_below_drewN | apply below_drew1) | exact HB.out)⟩⟩
             case round =>
              clear H'
              try clear c1
              try clear co49
              try clear p2
              try clear c4
              obtain ⟨x15_1, x16_1, x17_1, x18_1, x117_1, rfl, rfl, HA, HK1, HO_15, HO_16, HO_17, HB⟩ := hrel
              have hl17_1 := (Kd.S_reads' HO_17.out).1
              rw [hl17_1] at HO_17
              (try simp only [hl17_1])
              (try simp only [hl17_1] at HO_15)
              (try simp only [hl17_1] at HO_16)
              cases gk with
              | zero => exact absurd HA.out (by simp [spec_TableForB.l0])
              | succ k1 =>
               have H := HA.out
               clear HA
               simp only [spec_TableForB.l0] at H
               by_cases c12 : x117_1 < (t247.length : Int)
               · rw [if_pos c12] at H
                 have c12b0 : decide (x117_1 < (t247.length : Int)) = true := decide_eq_true c12
                 have c12b0_ := c12b0
                 (try rw [hl17_1] at c12b0_)
                 (try rw [hl9_2] at c12b0_)
                 clear c12
                 have H' := Aside0.mk H
                 clear H
                 go_wp2
                 go_loopg [18, 122] k1 (fun kq v18 v122 w' => ∃ (x15_2 : List Int) (x16_2 : List Int) (x17_2 : List (List Int)) (x18_2 : Int) (x122_2 : Int), v18 = .int .i64 x18_2 ∧ v122 = .int .i64 x122_2 ∧ Aside0 (spec_TableForB.l1 kq x9_3 x15_2 x16_2 x17_2 x18_2 x117_1 (t247.length : Int) x117_1 (x17_1.length : Int) x122_2 = some (r1, r2)) ∧ Aside0 (kq ≤ k1) ∧ Aside0 (Kd.R (Kd.int .i64) 3 w' wb.heap.size (fun k_ => (wb.heap.size ≤ k_) ∧ some k_ ≠ (v245 : Value).ownBlock) v242 x15_2) ∧ Aside0 (Kd.R (Kd.int .i64) 3 w' wb.heap.size (fun k_ => (wb.heap.size ≤ k_) ∧ some k_ ≠ (v242 : Value).ownBlock) v245 x16_2) ∧ Aside0 (Kd.S (Kd.slice 3 (Kd.int .i64)) 22 w' wb.heap.size (fun k_ => (wb.heap.size ≤ k_) ∧ some k_ ≠ (v242 : Value).ownBlock ∧ some k_ ≠ (v245 : Value).ownBlock) (.slice Ao11 x17_1.length co11) x17_2) ∧ Aside0 (Below wb.heap.size wb w'))
                 case atStart => exact ⟨(x15_1), (x16_1), (x17_1), (x18_1), (0), (by first | rfl | (simp; done) | (simp [*]; done)), (by first | rfl | (simp; done) | (simp [*]; done)), H', ⟨Nat.le_refl _⟩, ⟨by (try simp only [hl17_1]); (with_reducible repeat (first | apply Kd.R_alloc | apply Kd.R_drewN | apply Kd.R_drew)); exact HO_15.out⟩, ⟨by (try simp only [hl17_1]); (with_reducible repeat (first | apply Kd.R_alloc | apply Kd.R_drewN | apply Kd.R_drew)); exact HO_16.out⟩, ⟨by (try simp only [hl17_1]); (with_reducible repeat (first | apply Kd.S_alloc | apply Kd.S_drewN | apply Kd.S_drew)); exact HO_17.out⟩, ⟨by repeat (first | (with_reducible first | exact HB.out | apply below_alloc | apply pw_below_drewN | apply below_drew1) | exact HB.out)⟩⟩
                 case round =>
                  clear H'
                  try clear c1
                  try clear co49
                  try clear p2
                  try clear c4
                  try clear c12
                  try clear c12b0
                  try clear p2
                  obtain ⟨x15_2, x16_2, x17_2, x18_2, x122_2, rfl, rfl, HA, HK2, HO_15, HO_16, HO_17, HB⟩ := hrel
                  have hl17_2 := (Kd.S_reads' HO_17.out).1
                  rw [hl17_2] at HO_17
                  (try simp only [hl17_2])
                  (try simp only [hl17_2] at HO_15)
                  (try simp only [hl17_2] at HO_16)
                  cases gk with
                  | zero => exact absurd HA.out (by simp [spec_TableForB.l1])
                  | succ k2 =>
                   have H := HA.out
                   clear HA
                   simp only [spec_TableForB.l1] at H
                   by_cases c13 : x122_2 < (x17_1.length : Int)
                   · rw [if_pos c13] at H
                     have c13b0 : decide (x122_2 < (x17_1.length : Int)) = true := decide_eq_true c13
                     have c13b0_ := c13b0
                     (try rw [hl17_2] at c13b0_)
                     (try rw [hl17_1] at c13b0_)
                     (try rw [hl9_2] at c13b0_)
                     clear c13
                     by_cases c14 : 0 ≤ x117_1
                     · rw [if_pos c14] at H
                       have c14b0 : decide (0 ≤ x117_1) = true := decide_eq_true c14
                       clear c14
                       by_cases c15 : x117_1 < (x17_2.length : Int)
                       · rw [if_pos c15] at H
                         have c15b0 : decide (x117_1 < (x17_2.length : Int)) = true := decide_eq_true c15
                         have c15b0_ := c15b0
                         (try rw [hl17_2] at c15b0_)
                         (try rw [hl17_1] at c15b0_)
                         (try rw [hl9_2] at c15b0_)
                         clear c15
                         by_cases c16 : x117_1 < (x15_2.length : Int)
                         · rw [if_pos c16] at H
                           have c16b0 : decide (x117_1 < (x15_2.length : Int)) = true := decide_eq_true c16
                           have c16b0_ := c16b0
                           (try rw [hl17_2] at c16b0_)
                           (try rw [hl17_1] at c16b0_)
                           (try rw [hl9_2] at c16b0_)
                           clear c16
                           by_cases c17 : 0 ≤ (rd x15_2 x117_1)
                           · rw [if_pos c17] at H
                             have c17b0 : decide (0 ≤ (rd x15_2 x117_1)) = true := decide_eq_true c17
                             clear c17
                             by_cases c18 : (rd x15_2 x117_1) < (x9_3.length : Int)
                             · rw [if_pos c18] at H
                               have c18b0 : decide ((rd x15_2 x117_1) < (x9_3.length : Int)) = true := decide_eq_true c18
                               clear c18
                               by_cases c19 : 0 ≤ x122_2
                               · rw [if_pos c19] at H
                                 have c19b0 : decide (0 ≤ x122_2) = true := decide_eq_true c19
                                 clear c19
                                 by_cases c20 : x122_2 < (x16_2.length : Int)
                                 · rw [if_pos c20] at H
                                   have c20b0 : decide (x122_2 < (x16_2.length : Int)) = true := decide_eq_true c20
                                   have c20b0_ := c20b0
                                   (try rw [hl17_2] at c20b0_)
                                   (try rw [hl17_1] at c20b0_)
                                   (try rw [hl9_2] at c20b0_)
                                   clear c20
                                   by_cases c21 : 0 ≤ (rd x16_2 x122_2)
                                   · rw [if_pos c21] at H
                                     have c21b0 : decide (0 ≤ (rd x16_2 x122_2)) = true := decide_eq_true c21
                                     clear c21
                                     by_cases c22 : (rd x16_2 x122_2) < ((rd_L1 x9_3 (rd x15_2 x117_1)).length : Int)
                                     · rw [if_pos c22] at H
                                       have c22b0 : decide ((rd x16_2 x122_2) < ((rd_L1 x9_3 (rd x15_2 x117_1)).length : Int)) = true := decide_eq_true c22
                                       clear c22
                                       by_cases c23 : x122_2 < ((rd_L1 x17_2 x117_1).length : Int)
                                       · rw [if_pos c23] at H
                                         have c23b0 : decide (x122_2 < ((rd_L1 x17_2 x117_1).length : Int)) = true := decide_eq_true c23
                                         clear c23
                                         obtain ⟨y255, hy255⟩ : ∃ y_ : List Int, y_ = ((rd_L1 x17_2 x117_1).set (x122_2 : Int).toNat (rd (rd_L1 x9_3 (rd x15_2 x117_1)) (rd x16_2 x122_2))) := ⟨_, rfl⟩
                                         replace H : ((some (x17_2.set (x117_1 : Int).toNat y255 : List (List Int))).bind fun y257 => (if x122_2 < ((rd_L1 y257 x117_1).length : Int) then ((spec_doGcd.f k2 x18_2 (rd (rd_L1 y257 x117_1) x122_2)).bind fun t260 => (spec_TableForB.l1 k2 x9_3 x15_2 x16_2 y257 t260 x117_1 (t247.length : Int) x117_1 (x17_1.length : Int) (wrap64 (x122_2 + 1)))) else (none))) = some (r1, r2) := by first | (rw [hy255]; with_reducible exact H) | (have H2_ := (Option.bind_some _ _).symm.trans H; rw [hy255]; with_reducible exact H2_) | (have H2_ := (Option.bind_some _ _).symm.trans H; with_reducible exact H2_) | with_reducible exact H | (rw [hy255]; exact H) | exact H
                                         have Ny255 := Aside0.mk hy255
                                         clear hy255
                                         obtain ⟨y257, hy257⟩ : ∃ y_ : List (List Int), y_ = (x17_2.set (x117_1 : Int).toNat y255) := ⟨_, rfl⟩
                                         replace H : (if x122_2 < ((rd_L1 y257 x117_1).length : Int) then ((spec_doGcd.f k2 x18_2 (rd (rd_L1 y257 x117_1) x122_2)).bind fun t260 => (spec_TableForB.l1 k2 x9_3 x15_2 x16_2 y257 t260 x117_1 (t247.length : Int) x117_1 (x17_1.length : Int) (wrap64 (x122_2 + 1)))) else (none)) = some (r1, r2) := by first | (rw [hy257]; with_reducible exact H) | (have H2_ := (Option.bind_some _ _).symm.trans H; rw [hy257]; with_reducible exact H2_) | (have H2_ := (Option.bind_some _ _).symm.trans H; with_reducible exact H2_) | with_reducible exact H | (rw [hy257]; exact H) | exact H
                                         have Ny257 := Aside0.mk hy257
                                         clear hy257
                                         by_cases c25 : x122_2 < ((rd_L1 y257 x117_1).length : Int)
                                         · rw [if_pos c25] at H
                                           have c25b0 : decide (x122_2 < ((rd_L1 y257 x117_1).length : Int)) = true := decide_eq_true c25
                                           clear c25
                                           replace H := Option.bind_eq_some_iff.mp H
                                           obtain ⟨t260, A260, H⟩ := H
                                           replace H : (spec_TableForB.l1 k2 x9_3 x15_2 x16_2 y257 t260 x117_1 (t247.length : Int) x117_1 (x17_1.length : Int) (wrap64 (x122_2 + 1))) = some (r1, r2) := H
                                           have A26 := Aside0.mk A260
                                           clear A260
                                           have H' := Aside0.mk H
                                           clear H
                                           try go_wp2
                                           have n0_ := Aside0.mk (Kd.R_drew HO_15.out)
                                           have n1_ := Aside0.mk (Kd.R_drew HO_16.out)
                                           have n2_ := Aside0.mk (Kd.S_drew HO_17.out)
                                           have n3_ := Aside0.mk (below_drew1 HB.out)
                                           clear HO_15
                                           clear HO_16
                                           clear HO_17
                                           clear HB
                                           have HO_15 := n0_
                                           have HO_16 := n1_
                                           have HO_17 := n2_
                                           have HB := n3_
                                           clear n0_ n1_ n2_ n3_
                                           have p250 : 0 ≤ (x117_1 : Int) := of_decide_eq_true (by first | (with_reducible assumption) | assumption)
                                           have q250 : x117_1 < (x17_2.length : Int) := of_decide_eq_true (by first | (with_reducible assumption) | assumption)
                                           obtain ⟨ad250, A250_0, c250_0, e250, hx250_0, hl250_0, hi250_0⟩ := at_L1 (Kd.S_reads' HO_17.out).2.2 x117_1 p250 q250
                                           cases e250
                                           obtain ⟨ce250, hce250, hMe250, hcc250⟩ := Kd.S_get HO_17.out [] x117_1 p250 (by first | exact q250 | exact of_decide_eq_true (by first | (with_reducible assumption) | assumption) | (have e_ := (Kd.S_reads' HO_17.out).1; omega))
                                           obtain ⟨ve250_0, rfl, ge250_0⟩ := hMe250
                                           have hv250_0 := hcc250 0 _ rfl
                                           rw [Nat.add_zero, show ((Kd.slice 3 (Kd.int .i64))).sz = 1 from rfl, Nat.mul_one] at hv250_0
                                           replace hv250_0 := Option.some.inj (hv250_0.symm.trans hx250_0)
                                           rw [hv250_0] at ge250_0
                                           have HL250_0 := Aside0.mk (show Kd.R (Kd.int .i64) 3 _ _ _ _ (rd_L1 x17_2 x117_1) from ge250_0)
                                           clear hv250_0 ge250_0
                                           have HX250_0 := Aside0.mk hx250_0
                                           clear hcc250 hce250
                                           have HR250_0 := Aside0.mk hi250_0
                                           have HC250_0 := Aside0.mk hl250_0
                                           clear hi250_0 hl250_0
                                           replace p250 := eq_true p250
                                           replace q250 := eq_true q250
                                           obtain ⟨Ao28, co28, eo28⟩ := Kd.R_slice HO_15.out
                                           (first | subst eo28 | (injection eo28 with f1_ f2_ f3_; have f4_ := f1_.symm; have f5_ := f3_.symm; clear f1_ f2_ f3_; subst f4_; subst f5_))
                                           have p251 : 0 ≤ (x117_1 : Int) := of_decide_eq_true (by first | (with_reducible assumption) | assumption)
                                           have q251 : x117_1 < (x15_2.length : Int) := of_decide_eq_true (by first | (with_reducible assumption) | assumption)
                                           obtain ⟨ad251, e251, hx251_0⟩ := Kd.at_int (Kd.R_reads' HO_15.out).2.2 x117_1 p251 q251
                                           cases e251
                                           replace p251 := eq_true p251
                                           replace q251 := eq_true q251
                                           have p252 : 0 ≤ ((rd x15_2 x117_1) : Int) := of_decide_eq_true (by first | (with_reducible assumption) | assumption)
                                           have q252 : (rd x15_2 x117_1) < (x9_3.length : Int) := of_decide_eq_true (by first | (with_reducible assumption) | assumption)
                                           obtain ⟨ad252, A252_0, c252_0, e252, hx252_0, hl252_0, hi252_0⟩ := at_L1 HR2.out (rd x15_2 x117_1) p252 q252
                                           have hw252_0 := hx252_0
                                           cases e252
                                           replace hx252_0 := (HB.out.cell (World.block_lt_of_cell? wb _ hx252_0)).trans hx252_0
                                           have HR252_0 := Aside0.mk hi252_0
                                           have HC252_0 := Aside0.mk hl252_0
                                           clear hi252_0 hl252_0
                                           replace p252 := eq_true p252
                                           replace q252 := eq_true q252
                                           obtain ⟨Ao29, co29, eo29⟩ := Kd.R_slice HO_16.out
                                           (first | subst eo29 | (injection eo29 with f1_ f2_ f3_; have f4_ := f1_.symm; have f5_ := f3_.symm; clear f1_ f2_ f3_; subst f4_; subst f5_))
                                           have p253 : 0 ≤ (x122_2 : Int) := of_decide_eq_true (by first | (with_reducible assumption) | assumption)
                                           have q253 : x122_2 < (x16_2.length : Int) := of_decide_eq_true (by first | (with_reducible assumption) | assumption)
                                           obtain ⟨ad253, e253, hx253_0⟩ := Kd.at_int (Kd.R_reads' HO_16.out).2.2 x122_2 p253 q253
                                           cases e253
                                           replace p253 := eq_true p253
                                           replace q253 := eq_true q253
                                           have p254 : 0 ≤ ((rd x16_2 x122_2) : Int) := of_decide_eq_true (by first | (with_reducible assumption) | assumption)
                                           have q254 : (rd x16_2 x122_2) < ((rd_L1 x9_3 (rd x15_2 x117_1)).length : Int) := of_decide_eq_true (by first | (with_reducible assumption) | assumption)
                                           obtain ⟨ad254, e254, hx254_0⟩ := Kd.at_int HR252_0.out (rd x16_2 x122_2) p254 q254
                                           have hw254_0 := hx254_0
                                           cases e254
                                           replace hx254_0 := (HB.out.cell (World.block_lt_of_cell? wb _ hx254_0)).trans hx254_0
                                           replace p254 := eq_true p254
                                           replace q254 := eq_true q254
                                           have p24 : 0 ≤ (x122_2 : Int) := of_decide_eq_true (by first | (with_reducible assumption) | assumption)
                                           have q24 : (x122_2 : Int) < (((rd_L1 x17_2 x117_1).length : Int) : Int) := of_decide_eq_true (by first | (with_reducible assumption) | assumption)
                                           obtain ⟨go24, co24, eo24, gb24, gl24, cl24, HG24⟩ := Kd.R_form HL250_0.out (by omega)
                                           (first | cases eo24 | (injection eo24 with ea_ en_ ec_; (first | subst ea_ | (injection ea_ with ea_; subst ea_)); subst ec_; clear en_))
                                           have GB24 := Aside0.mk gb24
                                           have GG24 := Aside0.mk HG24
                                           clear gb24 gl24 HG24
                                           obtain ⟨hx24_0, hf24_0⟩ := Kd.R_celln 0 HL250_0.out (x122_2 : Int) p24 q24
                                           replace p24 := eq_true p24
                                           replace q24 := eq_true q24
                                           have hq30 : (x117_1 : Int) < (x17_2.length : Int) := (by have h_ : (x117_1 : Int) < ((x17_2.length : Int) : Int) := of_decide_eq_true (by first | (with_reducible assumption) | assumption); first | exact h_ | (have e_ := (Kd.S_reads' HO_17.out).1; omega) | simpa only [List.length_set, List.length_set] using h_)
                                           obtain ⟨oki30, ce30, hcl30, hM30, hcc30, hok30, hbk30⟩ := Kd.S_borrow HO_17.out [] (x117_1 : Int) (of_decide_eq_true (by first | (with_reducible assumption) | assumption)) (by first | exact hq30 | (have e_ := (Kd.S_reads' HO_17.out).1; omega))
                                           obtain ⟨ve30_0, rfl, ge30_0⟩ := hM30
                                           have hv30 := hcc30 0 _ rfl
                                           rw [Nat.add_zero, show ((Kd.slice 3 (Kd.int .i64))).sz = 1 from rfl, Nat.mul_one] at hv30
                                           replace hv30 := Option.some.inj (hv30.symm.trans HX250_0.out)
                                           subst hv30
                                           clear hcc30 hcl30
                                           replace ge30_0 := (show Kd.R (Kd.int .i64) 3 _ _ _ _ (rd_L1 x17_2 x117_1) from ge30_0)
                                           have HP30 := Kd.R_putg ge30_0 (x122_2 : Int) (rd (rd_L1 x9_3 (rd x15_2 x117_1)) (rd x16_2 x122_2))
                                           rw [← Ny255.out] at HP30
                                           have HS30 := hbk30 HP30.2 (fun k_ e_ => by injection e_ with e_; subst e_; exact ge30_0.1 _ rfl) (x' := y255) (Kd.M_row HP30.1)
                                           rw [← Ny257.out] at HS30
                                           have HQ30 := Aside0.mk HS30
                                           clear HP30 HS30 hbk30 hok30
                                           refine start_ (n := 20) (S := fun w' => w'.cell? (ad250.add (x117_1).toNat) = some (.slice (some ⟨go24, 0, none⟩) (rd_L1 x17_2 x117_1).length c250_0) ∧ w'.cell? (ad251.add (x117_1).toNat) = some (.int .i64 (rd x15_2 x117_1)) ∧ w'.cell? (ad252.add ((rd x15_2 x117_1)).toNat) = some (.slice (some ad254) (rd_L1 x9_3 (rd x15_2 x117_1)).length c252_0) ∧ w'.cell? (ad253.add (x122_2).toNat) = some (.int .i64 (rd x16_2 x122_2)) ∧ w'.cell? (ad254.add ((rd x16_2 x122_2)).toNat) = some (.int .i64 (rd (rd_L1 x9_3 (rd x15_2 x117_1)) (rd x16_2 x122_2)))) (ds := [19]) #[false, false, false, false, false, false, false, false, false, false, false, false, false, false, false, false, false, false, false, false] (by kernel_rfl) rfl rfl ⟨hx250_0, hx251_0, ((HB.out.cell (World.block_lt_of_cell? wb _ hw252_0)).trans hw252_0), hx253_0, ((HB.out.cell (World.block_lt_of_cell? wb _ hw254_0)).trans hw254_0)⟩ (fun hHeld => ?_); refine with_tabW spec_TableForB.tab26 spec_TableForB.bits26 (fun HT_ HW_ => ?_)
                                           generalize wr.drew = w27 at HO_15 HO_16 HO_17 HB GG24 HL250_0 HQ30 HR250_0 HR252_0 HX250_0 hf24_0 hx24_0 hx250_0 hx251_0 hx252_0 hx253_0 hx254_0 hHeld ⊢
                                           refine pure_ (i := 0) (N := some 125) (v := ?_) (a' := ?_) #[true, false, false, false, false, false, false, false, false, false, false, false, false, false, false, false, false, false, false, false] rfl rfl (any_of HT_.out (by kernel_rfl)) (fun _ _ _ h => h) (Or.inl ⟨by rfl, ?_⟩) ?_ ?_
                                           rotate_left
                                           · intro w'
                                             go_simp
                                             with_reducible rfl
                                           rotate_left
                                           · simp only [Act.put, List.setIfInBounds_toArray, List.set_cons_zero, List.set_cons_succ, i64_w, i32_w]
                                             rfl
                                           refine pure_ (i := 1) (N := some 126) (v := ?_) (a' := ?_) #[true, true, false, false, false, false, false, false, false, false, false, false, false, false, false, false, false, false, false, false] rfl rfl (any_of HT_.out (by kernel_rfl)) (fun _ _ _ h => h) (Or.inl ⟨by rfl, ?_⟩) ?_ ?_
                                           rotate_left
                                           · intro w'
                                             go_simp
                                             with_reducible rfl
                                           rotate_left
                                           · simp only [Act.put, List.setIfInBounds_toArray, List.set_cons_zero, List.set_cons_succ, i64_w, i32_w]
                                             rfl
                                           refine pure_ (i := 2) (N := some 127) (v := ?_) (a' := ?_) #[true, true, true, false, false, false, false, false, false, false, false, false, false, false, false, false, false, false, false, false] rfl rfl (any_of HT_.out (by kernel_rfl)) (fun _ _ _ h => h) (Or.inl ⟨by rfl, ?_⟩) ?_ ?_
                                           rotate_left
                                           · intro w'
                                             go_simp
                                             with_reducible rfl
                                           rotate_left
                                           · simp only [Act.put, List.setIfInBounds_toArray, List.set_cons_zero, List.set_cons_succ, i64_w, i32_w]
                                             rfl
                                           refine pure_ (i := 4) (N := some 129) (v := ?_) (a' := ?_) #[true, true, true, false, true, false, false, false, false, false, false, false, false, false, false, false, false, false, false, false] rfl rfl (any_of HT_.out (by kernel_rfl)) (fun _ _ _ h => h) (Or.inl ⟨by rfl, ?_⟩) ?_ ?_
                                           rotate_left
                                           · intro w'
                                             go_simp
                                             with_reducible rfl
                                           rotate_left
                                           · simp only [Act.put, List.setIfInBounds_toArray, List.set_cons_zero, List.set_cons_succ, i64_w, i32_w]
                                             rfl
                                           refine pure_ (i := 5) (N := some 130) (v := ?_) (a' := ?_) #[true, true, true, false, true, true, false, false, false, false, false, false, false, false, false, false, false, false, false, false] rfl rfl (any_of HT_.out (by kernel_rfl)) (fun _ _ _ h => h) (Or.inl ⟨by rfl, ?_⟩) ?_ ?_
                                           rotate_left
                                           · intro w'
                                             go_simp
                                             with_reducible rfl
                                           rotate_left
                                           · simp only [Act.put, List.setIfInBounds_toArray, List.set_cons_zero, List.set_cons_succ, i64_w, i32_w]
                                             rfl
                                           refine pure_ (i := 6) (N := some 131) (v := ?_) (a' := ?_) #[true, true, true, false, true, true, true, false, false, false, false, false, false, false, false, false, false, false, false, false] rfl rfl (any_of HT_.out (by kernel_rfl)) (fun _ _ _ h => h) (Or.inl ⟨by rfl, ?_⟩) ?_ ?_
                                           rotate_left
                                           · intro w'
                                             go_simp
                                             with_reducible rfl
                                           rotate_left
                                           · simp only [Act.put, List.setIfInBounds_toArray, List.set_cons_zero, List.set_cons_succ, i64_w, i32_w]
                                             rfl
                                           refine pure_ (i := 7) (N := some 132) (v := ?_) (a' := ?_) #[true, true, true, false, true, true, true, true, false, false, false, false, false, false, false, false, false, false, false, false] rfl rfl (any_of HT_.out (by kernel_rfl)) (fun _ _ _ h => h) (Or.inl ⟨by rfl, ?_⟩) ?_ ?_
                                           rotate_left
                                           · intro w'
                                             go_simp
                                             with_reducible rfl
                                           rotate_left
                                           · simp only [Act.put, List.setIfInBounds_toArray, List.set_cons_zero, List.set_cons_succ, i64_w, i32_w]
                                             rfl
                                           refine pure_ (i := 8) (N := some 133) (v := ?_) (a' := ?_) #[true, true, true, false, true, true, true, true, true, false, false, false, false, false, false, false, false, false, false, false] rfl rfl (any_of HT_.out (by kernel_rfl)) (fun _ _ _ h => h) (Or.inl ⟨by rfl, ?_⟩) ?_ ?_
                                           rotate_left
                                           · intro w'
                                             go_simp
                                             with_reducible rfl
                                           rotate_left
                                           · simp only [Act.put, List.setIfInBounds_toArray, List.set_cons_zero, List.set_cons_succ, i64_w, i32_w]
                                             rfl
                                           refine pure_ (i := 12) (N := some 137) (v := ?_) (a' := ?_) #[true, true, true, false, true, true, true, true, true, false, false, false, true, false, false, false, false, false, false, false] rfl rfl (any_of HT_.out (by kernel_rfl)) (fun _ _ _ h => h) (Or.inl ⟨by rfl, ?_⟩) ?_ ?_
                                           rotate_left
                                           · intro w'
                                             go_simp
                                             with_reducible rfl
                                           rotate_left
                                           · simp only [Act.put, List.setIfInBounds_toArray, List.set_cons_zero, List.set_cons_succ, i64_w, i32_w]
                                             rfl
                                           refine pure_ (i := 13) (N := some 138) (v := ?_) (a' := ?_) #[true, true, true, false, true, true, true, true, true, false, false, false, true, true, false, false, false, false, false, false] rfl rfl (any_of HT_.out (by kernel_rfl)) (fun _ _ _ h => h) (Or.inl ⟨by rfl, ?_⟩) ?_ ?_
                                           rotate_left
                                           · intro w'
                                             go_simp
                                             with_reducible rfl
                                           rotate_left
                                           · simp only [Act.put, List.setIfInBounds_toArray, List.set_cons_zero, List.set_cons_succ, i64_w, i32_w]
                                             rfl
                                           refine pure_ (i := 14) (N := some 139) (v := ?_) (a' := ?_) #[true, true, true, false, true, true, true, true, true, false, false, false, true, true, true, false, false, false, false, false] rfl rfl (any_of HT_.out (by kernel_rfl)) (fun _ _ _ h => h) (Or.inl ⟨by rfl, ?_⟩) ?_ ?_
                                           rotate_left
                                           · intro w'
                                             go_simp
                                             with_reducible rfl
                                           rotate_left
                                           · simp only [Act.put, List.setIfInBounds_toArray, List.set_cons_zero, List.set_cons_succ, i64_w, i32_w]
                                             rfl
                                           refine take_ (i := 3) (N := some 128) (v := ?_) (a' := ?_) #[true, true, true, true, true, true, true, true, true, false, false, false, true, true, true, false, false, false, false, false] rfl rfl (take_ofW HT_.out HW_.out (by kernel_rfl)) (fun _ _ _ h => h) (Or.inl ⟨by rfl, ?_⟩) hHeld ?_ ?_
                                           rotate_left
                                           · rintro w' ⟨s0, s1, s2, s3, s4⟩
                                             go_simp
                                             with_reducible rfl
                                           rotate_left
                                           · simp only [Act.put, List.setIfInBounds_toArray, List.set_cons_zero, List.set_cons_succ, i64_w, i32_w]
                                             rfl
                                           refine take_ (i := 9) (N := some 134) (v := ?_) (a' := ?_) #[true, true, true, true, true, true, true, true, true, true, false, false, true, true, true, false, false, false, false, false] rfl rfl (take_ofW HT_.out HW_.out (by kernel_rfl)) (fun _ _ _ h => h) (Or.inl ⟨by rfl, ?_⟩) hHeld ?_ ?_
                                           rotate_left
                                           · rintro w' ⟨s0, s1, s2, s3, s4⟩
                                             go_simp
                                             with_reducible rfl
                                           rotate_left
                                           · simp only [Act.put, List.setIfInBounds_toArray, List.set_cons_zero, List.set_cons_succ, i64_w, i32_w]
                                             rfl
                                           refine pure_ (i := 10) (N := some 135) (v := ?_) (a' := ?_) #[true, true, true, true, true, true, true, true, true, true, true, false, true, true, true, false, false, false, false, false] rfl rfl (any_of HT_.out (by kernel_rfl)) (fun _ _ _ h => h) (Or.inl ⟨by rfl, ?_⟩) ?_ ?_
                                           rotate_left
                                           · intro w'
                                             go_simp
                                             with_reducible rfl
                                           rotate_left
                                           · simp only [Act.put, List.setIfInBounds_toArray, List.set_cons_zero, List.set_cons_succ, i64_w, i32_w]
                                             rfl
                                           refine take_ (i := 11) (N := some 136) (v := ?_) (a' := ?_) #[true, true, true, true, true, true, true, true, true, true, true, true, true, true, true, false, false, false, false, false] rfl rfl (take_ofW HT_.out HW_.out (by kernel_rfl)) (fun _ _ _ h => h) (Or.inl ⟨by rfl, ?_⟩) hHeld ?_ ?_
                                           rotate_left
                                           · rintro w' ⟨s0, s1, s2, s3, s4⟩
                                             go_simp
                                             with_reducible rfl
                                           rotate_left
                                           · simp only [Act.put, List.setIfInBounds_toArray, List.set_cons_zero, List.set_cons_succ, i64_w, i32_w]
                                             rfl
                                           refine take_ (i := 15) (N := some 140) (v := ?_) (a' := ?_) #[true, true, true, true, true, true, true, true, true, true, true, true, true, true, true, true, false, false, false, false] rfl rfl (take_ofW HT_.out HW_.out (by kernel_rfl)) (fun _ _ _ h => h) (Or.inl ⟨by rfl, ?_⟩) hHeld ?_ ?_
                                           rotate_left
                                           · rintro w' ⟨s0, s1, s2, s3, s4⟩
                                             go_simp
                                             with_reducible rfl
                                           rotate_left
                                           · simp only [Act.put, List.setIfInBounds_toArray, List.set_cons_zero, List.set_cons_succ, i64_w, i32_w]
                                             rfl
                                           refine pure_ (i := 16) (N := some 141) (v := ?_) (a' := ?_) #[true, true, true, true, true, true, true, true, true, true, true, true, true, true, true, true, true, false, false, false] rfl rfl (any_of HT_.out (by kernel_rfl)) (fun _ _ _ h => h) (Or.inl ⟨by rfl, ?_⟩) ?_ ?_
                                           rotate_left
                                           · intro w'
                                             go_simp
                                             with_reducible rfl
                                           rotate_left
                                           · simp only [Act.put, List.setIfInBounds_toArray, List.set_cons_zero, List.set_cons_succ, i64_w, i32_w]
                                             rfl
                                           refine take_ (i := 17) (N := some 142) (v := ?_) (a' := ?_) #[true, true, true, true, true, true, true, true, true, true, true, true, true, true, true, true, true, true, false, false] rfl rfl (take_ofW HT_.out HW_.out (by kernel_rfl)) (fun _ _ _ h => h) (Or.inl ⟨by rfl, ?_⟩) hHeld ?_ ?_
                                           rotate_left
                                           · rintro w' ⟨s0, s1, s2, s3, s4⟩
                                             go_simp
                                             with_reducible rfl
                                           rotate_left
                                           · simp only [Act.put, List.setIfInBounds_toArray, List.set_cons_zero, List.set_cons_succ, i64_w, i32_w]
                                             rfl
                                           refine pure_ (i := 18) (N := some 143) (v := ?_) (a' := ?_) #[true, true, true, true, true, true, true, true, true, true, true, true, true, true, true, true, true, true, true, false] rfl rfl (any_of HT_.out (by kernel_rfl)) (fun _ _ _ h => h) (Or.inl ⟨by rfl, ?_⟩) ?_ ?_
                                           rotate_left
                                           · intro w'
                                             go_simp
                                             with_reducible rfl
                                           rotate_left
                                           · simp only [Act.put, List.setIfInBounds_toArray, List.set_cons_zero, List.set_cons_succ, i64_w, i32_w]
                                             rfl
                                           refine last_ (i := 19) (N := none) #[true, true, true, true, true, true, true, true, true, true, true, true, true, true, true, true, true, true, true, true] rfl rfl (one_of HT_.out (by kernel_rfl)) (by decide) (fun K hK => ?_)
                                           refine skip_ (w1 := ?_) (by rfl) rfl ?_ ?_
                                           rotate_left
                                           · go_simp
                                             rfl
                                           refine hK.out _ _ ?_
                                           clear hK K
                                           refine done_ (done_of HT_.out (by kernel_rfl)) ?_
                                           have n0_ : Aside0 (Kd.R (Kd.int .i64) 3 (w27.setCell ⟨go24, (x122_2 : Int).toNat, none⟩ (.int .i64 (rd (rd_L1 x9_3 (rd x15_2 x117_1)) (rd x16_2 x122_2)))) wb.heap.size (fun k_ => (wb.heap.size ≤ k_) ∧ some k_ ≠ (.slice (some ad253) x16_2.length co29 : Value).ownBlock) (.slice (some ad251) x15_2.length co28) x15_2) := ⟨by (with_reducible repeat (first | apply Kd.R_alloc | apply Kd.R_drewN | apply Kd.R_drew)); exact Kd.R_mono (Kd.R_far (p := ⟨go24, (x122_2 : Int).toNat, none⟩) (Kd.R_far1 HO_15.out rfl ((HL250_0.out.1 _ rfl).1.2.1)) (fun _ hk => hk.2) (.int .i64 (rd (rd_L1 x9_3 (rd x15_2 x117_1)) (rd x16_2 x122_2)))) (fun _ hk => ⟨hk.1.1, hk.1.2⟩)⟩
                                           have n1_ : Aside0 (Kd.R (Kd.int .i64) 3 (w27.setCell ⟨go24, (x122_2 : Int).toNat, none⟩ (.int .i64 (rd (rd_L1 x9_3 (rd x15_2 x117_1)) (rd x16_2 x122_2)))) wb.heap.size (fun k_ => (wb.heap.size ≤ k_) ∧ some k_ ≠ (.slice (some ad251) x15_2.length co28 : Value).ownBlock) (.slice (some ad253) x16_2.length co29) x16_2) := ⟨by (with_reducible repeat (first | apply Kd.R_alloc | apply Kd.R_drewN | apply Kd.R_drew)); exact Kd.R_mono (Kd.R_far (p := ⟨go24, (x122_2 : Int).toNat, none⟩) (Kd.R_far1 HO_16.out rfl ((HL250_0.out.1 _ rfl).1.2.2)) (fun _ hk => hk.2) (.int .i64 (rd (rd_L1 x9_3 (rd x15_2 x117_1)) (rd x16_2 x122_2)))) (fun _ hk => ⟨hk.1.1, hk.1.2⟩)⟩
                                           have n2_ : Aside0 (Kd.S (Kd.slice 3 (Kd.int .i64)) 22 (w27.setCell ⟨go24, (x122_2 : Int).toNat, none⟩ (.int .i64 (rd (rd_L1 x9_3 (rd x15_2 x117_1)) (rd x16_2 x122_2)))) wb.heap.size (fun k_ => (wb.heap.size ≤ k_) ∧ some k_ ≠ (.slice (some ad251) x15_2.length co28 : Value).ownBlock ∧ some k_ ≠ (.slice (some ad253) x16_2.length co29 : Value).ownBlock) (.slice (some ad250) x17_2.length co11) y257) := ⟨by (with_reducible repeat (first | apply Kd.S_alloc | apply Kd.S_drewN | apply Kd.S_drew)); exact HQ30.out⟩
                                           have n3_ : Aside0 (Below wb.heap.size wb (w27.setCell ⟨go24, (x122_2 : Int).toNat, none⟩ (.int .i64 (rd (rd_L1 x9_3 (rd x15_2 x117_1)) (rd x16_2 x122_2))))) := ⟨by repeat (first | (with_reducible first | exact HB.out | apply below_alloc | apply pw_below_drewN | apply below_drew1 | refine below_set ?_ GB24.out) | exact HB.out)⟩
                                           (try clear HO_15)
                                           (try clear HO_16)
                                           (try clear HO_17)
                                           (try clear HB)
                                           generalize (w27.setCell ⟨go24, (x122_2 : Int).toNat, none⟩ (.int .i64 (rd (rd_L1 x9_3 (rd x15_2 x117_1)) (rd x16_2 x122_2)))) = w32 at n0_ n1_ n2_ n3_ ⊢
                                           have HO_15 := n0_
                                           have HO_16 := n1_
                                           have HO_17 := n2_
                                           have HB := n3_
                                           clear n0_ n1_ n2_ n3_
                                           have p258 : 0 ≤ (x117_1 : Int) := of_decide_eq_true (by first | (with_reducible assumption) | assumption)
                                           have q258 : x117_1 < (y257.length : Int) := (by have h_ : (x117_1 : Int) < ((x17_2.length : Int) : Int) := of_decide_eq_true (by first | (with_reducible assumption) | assumption); first | (have e_ := (Kd.S_reads' HO_17.out).1; omega) | simpa only [Ny257.out, List.length_set] using h_)
                                           have ql258 : ((x117_1 : Int) < ((x17_2.length : Int) : Int)) = True := eq_true (of_decide_eq_true (by first | (with_reducible assumption) | assumption))
                                           obtain ⟨ad258, A258_0, c258_0, e258, hx258_0, hl258_0, hi258_0⟩ := at_L1 (Kd.S_reads' HO_17.out).2.2 x117_1 p258 q258
                                           obtain rfl : ad250 = ad258 := (by injection e258)
                                           obtain ⟨ce258, hce258, hMe258, hcc258⟩ := Kd.S_get HO_17.out [] x117_1 p258 (by first | exact q258 | exact of_decide_eq_true (by first | (with_reducible assumption) | assumption) | (have e_ := (Kd.S_reads' HO_17.out).1; omega))
                                           obtain ⟨ve258_0, rfl, ge258_0⟩ := hMe258
                                           have hv258_0 := hcc258 0 _ rfl
                                           rw [Nat.add_zero, show ((Kd.slice 3 (Kd.int .i64))).sz = 1 from rfl, Nat.mul_one] at hv258_0
                                           replace hv258_0 := Option.some.inj (hv258_0.symm.trans hx258_0)
                                           rw [hv258_0] at ge258_0
                                           have HL258_0 := Aside0.mk (show Kd.R (Kd.int .i64) 3 _ _ _ _ (rd_L1 y257 x117_1) from ge258_0)
                                           clear hv258_0 ge258_0
                                           have HX258_0 := Aside0.mk hx258_0
                                           clear hcc258 hce258
                                           have HR258_0 := Aside0.mk hi258_0
                                           have HC258_0 := Aside0.mk hl258_0
                                           clear hi258_0 hl258_0
                                           replace p258 := eq_true p258
                                           replace q258 := eq_true q258
                                           have p259 : 0 ≤ (x122_2 : Int) := of_decide_eq_true (by first | (with_reducible assumption) | assumption)
                                           have q259 : x122_2 < ((rd_L1 y257 x117_1).length : Int) := of_decide_eq_true (by first | (with_reducible assumption) | assumption)
                                           obtain ⟨ad259, e259, hx259_0⟩ := Kd.at_int (by repeat (first | (with_reducible exact HR258_0.out) | (with_reducible refine Kd.C_alloc ?_ _) | (with_reducible refine Kd.C_drewN ?_ _) | (with_reducible refine Kd.C_drew ?_) | exact HR258_0.out)) x122_2 p259 q259
                                           cases e259
                                           replace p259 := eq_true p259
                                           replace q259 := eq_true q259
                                           try go_wp2_with (first | ((with_reducible refine gate_callee (f := 20) rfl ?_); refine goesL_ (some 152) rfl rfl Try.func20 (by kernel_rfl) rfl #[.int .i64 x18_2, .int .i64 (rd (rd_L1 y257 x117_1) x122_2)] rfl (by (try simp only [List.map_toArray, List.map_cons, List.map_nil]); first | done | rfl | (simp only [List.length_drop, List.length_take]; rfl)) ?_; (with_reducible refine (spec_doGcd.calls k2 x18_2 (rd (rd_L1 y257 x117_1) x122_2) t260 _ A26.out).mono ?_); rintro e w' ⟨rfl, ⟨nd, rfl⟩⟩; refine ⟨_, rfl, ?_⟩))
                                           (try simp only [← hl17_2])
                                           go_roundg k2
                                           case measure => have := HK1.out; have := HK2.out; omega
                                           case rel => exact ⟨(x15_2), (x16_2), (y257), (t260), (wrap64 (x122_2 + 1)), (by first | rfl | (simp; done) | (simp [*]; done)), (by first | rfl | (simp; done) | (simp [*]; done)), H', ⟨by have := HK1.out; have := HK2.out; omega⟩, ⟨by (try simp only [hl17_1]); (try simp only [hl17_2]); (with_reducible repeat (first | apply Kd.R_alloc | apply Kd.R_drewN | apply Kd.R_drew)); exact HO_15.out⟩, ⟨by (try simp only [hl17_1]); (try simp only [hl17_2]); (with_reducible repeat (first | apply Kd.R_alloc | apply Kd.R_drewN | apply Kd.R_drew)); exact HO_16.out⟩, ⟨by (try simp only [hl17_1]); (try simp only [hl17_2]); (with_reducible repeat (first | apply Kd.S_alloc | apply Kd.S_drewN | apply Kd.S_drew)); exact HO_17.out⟩, ⟨by repeat (first | (with_reducible first | exact HB.out | apply below_alloc | apply pw_below_drewN | apply below_drew1) | exact HB.out)⟩⟩
                                         · rw [if_neg c25] at H
                                           exact absurd H (by simp)
                                       · rw [if_neg c23] at H
                                         exact absurd H (by simp)
                                     · rw [if_neg c22] at H
                                       exact absurd H (by simp)
                                   · rw [if_neg c21] at H
                                     exact absurd H (by simp)
                                 · rw [if_neg c20] at H
                                   exact absurd H (by simp)
                               · rw [if_neg c19] at H
                                 exact absurd H (by simp)
                             · rw [if_neg c18] at H
                               exact absurd H (by simp)
                           · rw [if_neg c17] at H
                             exact absurd H (by simp)
                         · rw [if_neg c16] at H
                           exact absurd H (by simp)
                       · rw [if_neg c15] at H
                         exact absurd H (by simp)
                     · rw [if_neg c14] at H
                       exact absurd H (by simp)
                   · rw [if_neg c13] at H
                     have c13b0 : decide (x122_2 < (x17_1.length : Int)) = false := decide_eq_false c13
                     (try rw [hl17_2] at c13b0)
                     (try rw [hl17_1] at c13b0)
                     (try rw [hl9_2] at c13b0)
                     clear c13
                     have H' := Aside0.mk H
                     clear H
                     go_wp2
                     (try simp only [← hl17_1, ← hl17_2])
                     go_roundg k2
                     case measure => have := HK1.out; have := HK2.out; omega
                     case rel => exact ⟨(x15_2), (x16_2), (x17_2), (x18_2), (wrap64 (x117_1 + 1)), (by first | rfl | (simp; done) | (simp [*]; done)), (by first | rfl | (simp; done) | (simp [*]; done)), H', ⟨by have := HK1.out; have := HK2.out; omega⟩, ⟨by (try simp only [hl17_1]); (try simp only [hl17_2]); (with_reducible repeat (first | apply Kd.R_alloc | apply Kd.R_drewN | apply Kd.R_drew)); exact HO_15.out⟩, ⟨by (try simp only [hl17_1]); (try simp only [hl17_2]); (with_reducible repeat (first | apply Kd.R_alloc | apply Kd.R_drewN | apply Kd.R_drew)); exact HO_16.out⟩, ⟨by (try simp only [hl17_1]); (try simp only [hl17_2]); (with_reducible repeat (first | apply Kd.S_alloc | apply Kd.S_drewN | apply Kd.S_drew)); exact HO_17.out⟩, ⟨by repeat (first | (with_reducible first | exact HB.out | apply below_alloc | apply pw_below_drewN | apply below_drew1) | exact HB.out)⟩⟩
               · rw [if_neg c12] at H
                 have c12b0 : decide (x117_1 < (t247.length : Int)) = false := decide_eq_false c12
                 (try rw [hl17_2] at c12b0)
                 (try rw [hl17_1] at c12b0)
                 (try rw [hl9_2] at c12b0)
                 clear c12
                 have H' := Aside0.mk H
                 clear H
                 go_wp2
                 go_loopg [157] k1 (fun kq v157 w' => ∃ (x17_2 : List (List Int)) (x157_2 : Int), v157 = .int .i64 x157_2 ∧ Aside0 (spec_TableForB.l2 kq x17_2 x18_1 (x17_1.length : Int) x157_2 = some (r1, r2)) ∧ Aside0 (kq ≤ k1) ∧ Aside0 (Kd.S (Kd.slice 3 (Kd.int .i64)) 22 w' wb.heap.size (fun k_ => (wb.heap.size ≤ k_)) (.slice Ao11 x17_1.length co11) x17_2) ∧ Aside0 (Below wb.heap.size wb w'))
                 case atStart => exact ⟨(x17_1), (0), (by first | rfl | (simp; done) | (simp [*]; done)), H', ⟨Nat.le_refl _⟩, ⟨by (try simp only [hl17_1]); (with_reducible repeat (first | apply Kd.S_alloc | apply Kd.S_drewN | apply Kd.S_drew)); exact Kd.S_mono HO_17.out (fun _ hk => hk.1)⟩, ⟨by repeat (first | (with_reducible first | exact HB.out | apply below_alloc | apply pw_below_drewN | apply below_drew1) | exact HB.out)⟩⟩
                 case round =>
                  clear H'
                  try clear c1
                  try clear co49
                  try clear p2
                  try clear q2
                  try clear hx2
                  try clear c3
                  try clear q3
                  try clear c4
                  try clear p6
                  try clear c12
                  try clear c12b0
                  try clear c13
                  try clear c13b0
                  try clear c14
                  try clear c14b0
                  try clear c15
                  try clear c15b0
                  try clear c16
                  try clear c16b0
                  try clear c17
                  try clear c17b0
                  try clear c18
                  try clear c18b0
                  try clear c19
                  try clear c19b0
                  try clear c20
                  try clear c20b0
                  try clear c21
                  try clear c21b0
                  try clear c22
                  try clear c22b0
                  try clear c23
                  try clear c23b0
                  try clear p24
                  try clear q24
                  try clear hx24
                  try clear hf24
                  try clear c25
                  try clear c25b0
                  try clear p25
                  try clear q25
                  try clear hx25
                  try clear c30
                  try clear q30
                  try clear hx24_0
                  try clear hx250_0
                  try clear hx251_0
                  try clear hx252_0
                  try clear hx253_0
                  try clear hx254_0
                  try clear hx258_0
                  try clear hx259_0
                  try clear p2
                  try clear p24
                  try clear p250
                  try clear p251
                  try clear p252
                  try clear p253
                  try clear p254
                  try clear p258
                  try clear p259
                  try clear q24
                  try clear q250
                  try clear q251
                  try clear q252
                  try clear q253
                  try clear q254
                  try clear q258
                  try clear q259
                  obtain ⟨x17_2, x157_2, rfl, HA, HK2, HO_17, HB⟩ := hrel
                  have hl17_2 := (Kd.S_reads' HO_17.out).1
                  rw [hl17_2] at HO_17
                  (try simp only [hl17_2])
                  cases gk with
                  | zero => exact absurd HA.out (by simp [spec_TableForB.l2])
                  | succ k2 =>
                   have H := HA.out
                   clear HA
                   simp only [spec_TableForB.l2] at H
                   by_cases c33 : x157_2 < (x17_1.length : Int)
                   · rw [if_pos c33] at H
                     have c33b0 : decide (x157_2 < (x17_1.length : Int)) = true := decide_eq_true c33
                     have c33b0_ := c33b0
                     (try rw [hl17_2] at c33b0_)
                     (try rw [hl17_2] at c33b0_)
                     (try rw [hl17_1] at c33b0_)
                     (try rw [hl9_2] at c33b0_)
                     clear c33
                     have H' := Aside0.mk H
                     clear H
                     go_wp2
                     go_loopg [162] k2 (fun kq v162 w' => ∃ (x17_3 : List (List Int)) (x162_3 : Int), v162 = .int .i64 x162_3 ∧ Aside0 (spec_TableForB.l3 kq x17_3 x18_1 x157_2 (x17_1.length : Int) x157_2 (x17_2.length : Int) x162_3 = some (r1, r2)) ∧ Aside0 (kq ≤ k2) ∧ Aside0 (Kd.S (Kd.slice 3 (Kd.int .i64)) 22 w' wb.heap.size (fun k_ => (wb.heap.size ≤ k_)) (.slice Ao11 x17_2.length co11) x17_3) ∧ Aside0 (Below wb.heap.size wb w'))
                     case atStart => exact ⟨(x17_2), (0), (by first | rfl | (simp; done) | (simp [*]; done)), H', ⟨Nat.le_refl _⟩, ⟨by (try simp only [hl17_1]); (try simp only [hl17_2]); (with_reducible repeat (first | apply Kd.S_alloc | apply Kd.S_drewN | apply Kd.S_drew)); exact HO_17.out⟩, ⟨by repeat (first | (with_reducible first | exact HB.out | apply below_alloc | apply pw_below_drewN | apply below_drew1) | exact HB.out)⟩⟩
                     case round =>
                      clear H'
                      try clear c1
                      try clear co49
                      try clear p2
                      try clear q2
                      try clear hx2
                      try clear c3
                      try clear q3
                      try clear c4
                      try clear p6
                      try clear c12
                      try clear c12b0
                      try clear c13
                      try clear c13b0
                      try clear c14
                      try clear c14b0
                      try clear c15
                      try clear c15b0
                      try clear c16
                      try clear c16b0
                      try clear c17
                      try clear c17b0
                      try clear c18
                      try clear c18b0
                      try clear c19
                      try clear c19b0
                      try clear c20
                      try clear c20b0
                      try clear c21
                      try clear c21b0
                      try clear c22
                      try clear c22b0
                      try clear c23
                      try clear c23b0
                      try clear p24
                      try clear q24
                      try clear hx24
                      try clear hf24
                      try clear c25
                      try clear c25b0
                      try clear p25
                      try clear q25
                      try clear hx25
                      try clear c30
                      try clear q30
                      try clear c33
                      try clear c33b0
                      try clear hx24_0
                      try clear hx250_0
                      try clear hx251_0
                      try clear hx252_0
                      try clear hx253_0
                      try clear hx254_0
                      try clear hx258_0
                      try clear hx259_0
                      try clear p2
                      try clear p24
                      try clear p25
                      try clear p250
                      try clear p251
                      try clear p252
                      try clear p253
                      try clear p254
                      try clear p258
                      try clear p259
                      try clear p6
                      try clear q2
                      try clear q24
                      try clear q25
                      try clear q250
                      try clear q251
                      try clear q252
                      try clear q253
                      try clear q254
                      try clear q258
                      try clear q259
                      try clear q3
                      try clear q30
                      obtain ⟨x17_3, x162_3, rfl, HA, HK3, HO_17, HB⟩ := hrel
                      have hl17_3 := (Kd.S_reads' HO_17.out).1
                      rw [hl17_3] at HO_17
                      (try simp only [hl17_3])
                      cases gk with
                      | zero => exact absurd HA.out (by simp [spec_TableForB.l3])
                      | succ k3 =>
                       have H := HA.out
                       clear HA
                       simp only [spec_TableForB.l3] at H
                       by_cases c34 : x162_3 < (x17_2.length : Int)
                       · rw [if_pos c34] at H
                         have c34b0 : decide (x162_3 < (x17_2.length : Int)) = true := decide_eq_true c34
                         have c34b0_ := c34b0
                         (try rw [hl17_3] at c34b0_)
                         (try rw [hl17_2] at c34b0_)
                         (try rw [hl17_2] at c34b0_)
                         (try rw [hl17_1] at c34b0_)
                         (try rw [hl9_2] at c34b0_)
                         clear c34
                         by_cases c35 : 0 ≤ x157_2
                         · rw [if_pos c35] at H
                           have c35b0 : decide (0 ≤ x157_2) = true := decide_eq_true c35
                           clear c35
                           by_cases c36 : x157_2 < (x17_3.length : Int)
                           · rw [if_pos c36] at H
                             have c36b0 : decide (x157_2 < (x17_3.length : Int)) = true := decide_eq_true c36
                             have c36b0_ := c36b0
                             (try rw [hl17_3] at c36b0_)
                             (try rw [hl17_2] at c36b0_)
                             (try rw [hl17_2] at c36b0_)
                             (try rw [hl17_1] at c36b0_)
                             (try rw [hl9_2] at c36b0_)
                             clear c36
                             by_cases c37 : 0 ≤ x162_3
                             · rw [if_pos c37] at H
                               have c37b0 : decide (0 ≤ x162_3) = true := decide_eq_true c37
                               clear c37
                               by_cases c38 : x162_3 < ((rd_L1 x17_3 x157_2).length : Int)
                               · rw [if_pos c38] at H
                                 have c38b0 : decide (x162_3 < ((rd_L1 x17_3 x157_2).length : Int)) = true := decide_eq_true c38
                                 clear c38
                                 by_cases c39 : x18_1 = 0
                                 · rw [if_pos c39] at H
                                   exact absurd H (by simp)
                                 · rw [if_neg c39] at H
                                   have c39b0 : (x18_1 == 0) = false := beq_eq_false_iff_ne.mpr c39
                                   have c39b1 : (x18_1 != 0) = true := bne_iff_ne.mpr c39
                                   obtain ⟨y267, hy267⟩ : ∃ y_ : List Int, y_ = ((rd_L1 x17_3 x157_2).set (x162_3 : Int).toNat (wrap64 (Int.tdiv (rd (rd_L1 x17_3 x157_2) x162_3) x18_1))) := ⟨_, rfl⟩
                                   replace H : (spec_TableForB.l3 k3 (x17_3.set (x157_2 : Int).toNat y267) x18_1 x157_2 (x17_1.length : Int) x157_2 (x17_2.length : Int) (wrap64 (x162_3 + 1))) = some (r1, r2) := by first | (rw [hy267]; with_reducible exact H) | (have H2_ := (Option.bind_some _ _).symm.trans H; rw [hy267]; with_reducible exact H2_) | (have H2_ := (Option.bind_some _ _).symm.trans H; with_reducible exact H2_) | with_reducible exact H | (rw [hy267]; exact H) | exact H
                                   have Ny267 := Aside0.mk hy267
                                   clear hy267
                                   obtain ⟨y269, hy269⟩ : ∃ y_ : List (List Int), y_ = (x17_3.set (x157_2 : Int).toNat y267) := ⟨_, rfl⟩
                                   replace H : (spec_TableForB.l3 k3 y269 x18_1 x157_2 (x17_1.length : Int) x157_2 (x17_2.length : Int) (wrap64 (x162_3 + 1))) = some (r1, r2) := by first | (rw [hy269]; with_reducible exact H) | (have H2_ := (Option.bind_some _ _).symm.trans H; rw [hy269]; with_reducible exact H2_) | (have H2_ := (Option.bind_some _ _).symm.trans H; with_reducible exact H2_) | with_reducible exact H | (rw [hy269]; exact H) | exact H
                                   have Ny269 := Aside0.mk hy269
                                   clear hy269
                                   have H' := Aside0.mk H
                                   clear H
                                   have p265 : 0 ≤ (x157_2 : Int) := of_decide_eq_true (by first | (with_reducible assumption) | assumption)
                                   have q265 : x157_2 < (x17_3.length : Int) := of_decide_eq_true (by first | (with_reducible assumption) | assumption)
                                   obtain ⟨ad265, A265_0, c265_0, e265, hx265_0, hl265_0, hi265_0⟩ := at_L1 (Kd.S_reads' HO_17.out).2.2 x157_2 p265 q265
                                   cases e265
                                   obtain ⟨ce265, hce265, hMe265, hcc265⟩ := Kd.S_get HO_17.out [] x157_2 p265 (by first | exact q265 | exact of_decide_eq_true (by first | (with_reducible assumption) | assumption) | (have e_ := (Kd.S_reads' HO_17.out).1; omega))
                                   obtain ⟨ve265_0, rfl, ge265_0⟩ := hMe265
                                   have hv265_0 := hcc265 0 _ rfl
                                   rw [Nat.add_zero, show ((Kd.slice 3 (Kd.int .i64))).sz = 1 from rfl, Nat.mul_one] at hv265_0
                                   replace hv265_0 := Option.some.inj (hv265_0.symm.trans hx265_0)
                                   rw [hv265_0] at ge265_0
                                   have HL265_0 := Aside0.mk (show Kd.R (Kd.int .i64) 3 _ _ _ _ (rd_L1 x17_3 x157_2) from ge265_0)
                                   clear hv265_0 ge265_0
                                   have HX265_0 := Aside0.mk hx265_0
                                   clear hcc265 hce265
                                   have HR265_0 := Aside0.mk hi265_0
                                   have HC265_0 := Aside0.mk hl265_0
                                   clear hi265_0 hl265_0
                                   replace p265 := eq_true p265
                                   replace q265 := eq_true q265
                                   have p266 : 0 ≤ (x162_3 : Int) := of_decide_eq_true (by first | (with_reducible assumption) | assumption)
                                   have q266 : x162_3 < ((rd_L1 x17_3 x157_2).length : Int) := of_decide_eq_true (by first | (with_reducible assumption) | assumption)
                                   obtain ⟨ad266, e266, hx266_0⟩ := Kd.at_int (by repeat (first | (with_reducible exact HR265_0.out) | (with_reducible refine Kd.C_alloc ?_ _) | (with_reducible refine Kd.C_drewN ?_ _) | (with_reducible refine Kd.C_drew ?_) | exact HR265_0.out)) x162_3 p266 q266
                                   cases e266
                                   replace p266 := eq_true p266
                                   replace q266 := eq_true q266
                                   have p40 : 0 ≤ (x162_3 : Int) := of_decide_eq_true (by first | (with_reducible assumption) | assumption)
                                   have q40 : (x162_3 : Int) < (((rd_L1 x17_3 x157_2).length : Int) : Int) := of_decide_eq_true (by first | (with_reducible assumption) | assumption)
                                   obtain ⟨go40, co40, eo40, gb40, gl40, cl40, HG40⟩ := Kd.R_form HL265_0.out (by omega)
                                   (first | cases eo40 | (injection eo40 with ea_ en_ ec_; (first | subst ea_ | (injection ea_ with ea_; subst ea_)); subst ec_; clear en_))
                                   have GB40 := Aside0.mk gb40
                                   have GG40 := Aside0.mk HG40
                                   clear gb40 gl40 HG40
                                   (first | simp only [add_plain] at hx266_0 | skip)
                                   obtain ⟨hx40_0, hf40_0⟩ := Kd.R_celln 0 HL265_0.out (x162_3 : Int) p40 q40
                                   replace p40 := eq_true p40
                                   replace q40 := eq_true q40
                                   have hq41 : (x157_2 : Int) < (x17_3.length : Int) := (by have h_ : (x157_2 : Int) < ((x17_3.length : Int) : Int) := of_decide_eq_true (by first | (with_reducible assumption) | assumption); first | exact h_ | (have e_ := (Kd.S_reads' HO_17.out).1; omega) | simpa only [List.length_set, List.length_set] using h_)
                                   obtain ⟨oki41, ce41, hcl41, hM41, hcc41, hok41, hbk41⟩ := Kd.S_borrow HO_17.out [] (x157_2 : Int) (of_decide_eq_true (by first | (with_reducible assumption) | assumption)) (by first | exact hq41 | (have e_ := (Kd.S_reads' HO_17.out).1; omega))
                                   obtain ⟨ve41_0, rfl, ge41_0⟩ := hM41
                                   have hv41 := hcc41 0 _ rfl
                                   rw [Nat.add_zero, show ((Kd.slice 3 (Kd.int .i64))).sz = 1 from rfl, Nat.mul_one] at hv41
                                   replace hv41 := Option.some.inj (hv41.symm.trans HX265_0.out)
                                   subst hv41
                                   clear hcc41 hcl41
                                   replace ge41_0 := (show Kd.R (Kd.int .i64) 3 _ _ _ _ (rd_L1 x17_3 x157_2) from ge41_0)
                                   have HP41 := Kd.R_putg ge41_0 (x162_3 : Int) (wrap64 (Int.tdiv (rd (rd_L1 x17_3 x157_2) x162_3) x18_1))
                                   go_wp2_with (first | ((with_reducible refine gate_store (t := 3) (p := 174) rfl ?_); refine store_event (t := 3) (p := 174) (v := ?vo_w42) (w1 := (wr.setCell ⟨go40, (x162_3 : Int).toNat, none⟩ (.int .i64 (wrap64 (Int.tdiv (rd (rd_L1 x17_3 x157_2) x162_3) x18_1))))) ?hg ?ho ?hn ?hr ?_; (case ho => rfl); (case hg => rfl); (case hn => rfl); (case hr => first | (go_simp; done) | (go_simp; rfl)); intro w42 hw; have hg : wr.grownBy w42 (some go40) := (by rw [hw]; exact HP41.2); have hz_ : Kd.R (Kd.int .i64) 3 w42 wb.heap.size oki41 (.slice (some ⟨go40, 0, none⟩) (rd_L1 x17_3 x157_2).length c265_0) y267 := (by rw [hw, Ny267.out]; exact HP41.1); have hp_ : Kd.S (Kd.slice 3 (Kd.int .i64)) 22 w42 wb.heap.size (fun k_ => (wb.heap.size ≤ k_)) (.slice (some ad265) x17_3.length co11) y269 := (by rw [Ny269.out]; exact hbk41 hg (fun k_ e_ => by injection e_ with e_; subst e_; exact ge41_0.1 _ rfl) (Kd.M_row hz_)); have hm_ := Kd.R_mono hz_ hok41; clear HP41 hbk41; have n0_ := Aside0.mk (hp_); have n1_ := Aside0.mk ((by rw [hw]; exact below_set (HB.out) GB40.out : Below wb.heap.size wb w42)); have n2_ := Aside0.mk (hm_); have n3_ := Aside0.mk ((Kd.R_reads' hm_).2.1); clear HO_17; clear HB; clear HL265_0; have HO_17 := n0_; have HB := n1_; have HL270 := n2_; have HC268 := n3_; clear n0_ n1_ n2_ n3_; clear hg hw hp_ hz_ hm_ hok41))
                                   (try simp only [← hl17_3])
                                   go_roundg k3
                                   case measure => have := HK1.out; have := HK2.out; have := HK3.out; omega
                                   case rel => exact ⟨(y269), (wrap64 (x162_3 + 1)), (by first | rfl | (simp; done) | (simp [*]; done)), H', ⟨by have := HK1.out; have := HK2.out; have := HK3.out; omega⟩, ⟨by (try simp only [hl17_1]); (try simp only [hl17_2]); (try simp only [hl17_3]); (with_reducible repeat (first | apply Kd.S_alloc | apply Kd.S_drewN | apply Kd.S_drew)); exact HO_17.out⟩, ⟨by repeat (first | (with_reducible first | exact HB.out | apply below_alloc | apply pw_below_drewN | apply below_drew1) | exact HB.out)⟩⟩
                               · rw [if_neg c38] at H
                                 exact absurd H (by simp)
                             · rw [if_neg c37] at H
                               exact absurd H (by simp)
                           · rw [if_neg c36] at H
                             exact absurd H (by simp)
                         · rw [if_neg c35] at H
                           exact absurd H (by simp)
                       · rw [if_neg c34] at H
                         have c34b0 : decide (x162_3 < (x17_2.length : Int)) = false := decide_eq_false c34
                         (try rw [hl17_3] at c34b0)
                         (try rw [hl17_2] at c34b0)
                         (try rw [hl17_2] at c34b0)
                         (try rw [hl17_1] at c34b0)
                         (try rw [hl9_2] at c34b0)
                         clear c34
                         have H' := Aside0.mk H
                         clear H
                         go_wp2
                         (try simp only [← hl17_2, ← hl17_3])
                         go_roundg k3
                         case measure => have := HK1.out; have := HK2.out; have := HK3.out; omega
                         case rel => exact ⟨(x17_3), (wrap64 (x157_2 + 1)), (by first | rfl | (simp; done) | (simp [*]; done)), H', ⟨by have := HK1.out; have := HK2.out; have := HK3.out; omega⟩, ⟨by (try simp only [hl17_1]); (try simp only [hl17_2]); (try simp only [hl17_3]); (with_reducible repeat (first | apply Kd.S_alloc | apply Kd.S_drewN | apply Kd.S_drew)); exact HO_17.out⟩, ⟨by repeat (first | (with_reducible first | exact HB.out | apply below_alloc | apply pw_below_drewN | apply below_drew1) | exact HB.out)⟩⟩
                   · rw [if_neg c33] at H
                     have c33b0 : decide (x157_2 < (x17_1.length : Int)) = false := decide_eq_false c33
                     (try rw [hl17_3] at c33b0)
                     (try rw [hl17_2] at c33b0)
                     (try rw [hl17_2] at c33b0)
                     (try rw [hl17_1] at c33b0)
                     (try rw [hl9_2] at c33b0)
                     clear c33
                     replace H := Option.bind_eq_some_iff.mp H
                     obtain ⟨⟨t261, t264⟩, A430, H⟩ := H
                     replace H : (some (t261, t264)) = some (r1, r2) := H
                     have A43 := Aside0.mk A430
                     clear A430
                     simp only [Option.some.injEq, Prod.mk.injEq] at H
                     obtain ⟨rfl, rfl⟩ := H
                     go_wp2_with (first | ((with_reducible refine gate_callee (f := 21) rfl ?_); refine goesL_ (some 178) rfl rfl Try.func21 (by kernel_rfl) rfl #[.slice Ao11 x17_2.length co11] rfl (by (try simp only [List.map_toArray, List.map_cons, List.map_nil]); first | done | rfl | (simp only [List.length_drop, List.length_take]; rfl)) ?_; (with_reducible refine (spec_doIf.calls k2 (fun k_ => (wb.heap.size ≤ k_)) _ _ x17_2 t261 t264 _ ?side1 A43.out).mono ?_); (case side1 => exact Kd.S_V (HO_17.out)); rintro e w44 ⟨v262, rfl, ho0, hb⟩; refine ⟨_, rfl, ?_⟩; have n0_ := Aside0.mk (Kd.S_below (by (with_reducible repeat (first | apply Kd.S_alloc | apply Kd.S_drewN | apply Kd.S_drew)); exact HO_17.out) hb); have n1_ := Aside0.mk (Kd.V_lower (Kd.V_mono (ok' := fun k_ => (wb.heap.size ≤ k_)) ho0 (fun k_ hk_ => Or.elim hk_ (fun hs_ => hs_) (fun hn_ => (Nat.le_trans (below_size (by repeat (first | (with_reducible first | exact HB.out | apply below_alloc | apply pw_below_drewN | apply below_drew1) | exact HB.out))) hn_)))) (below_size (by repeat (first | (with_reducible first | exact HB.out | apply below_alloc | apply pw_below_drewN | apply below_drew1) | exact HB.out)))); have n2_ := Aside0.mk (below_step (by repeat (first | (with_reducible first | exact HB.out | apply below_alloc | apply pw_below_drewN | apply below_drew1) | exact HB.out)) hb); clear HO_17; clear HB; have HO_17 := n0_; have HO263 := n1_; have HB := n2_; clear n0_ n1_ n2_; (try clear hb); (try clear hb2); (try clear hk); (try clear hi); (try clear ho0)))
                     go_ret2
                     exact ⟨_, rfl, Kd.V_lower (Kd.V_mono (by (with_reducible repeat (first | apply Kd.V_alloc | apply Kd.V_drewN | apply Kd.V_drew)); exact HO263.out) (fun _ hk => Nat.le_trans (below_size HBW.out) (by first | exact hk | exact hk.1))) (below_size HBW.out), below_step HBW.out (by repeat (first | (with_reducible first | exact HB.out | apply below_alloc | apply pw_below_drewN | apply below_drew1) | exact HB.out))⟩
end Go.Proofs.Ytmfpgimblifleaa.A

namespace Go.Proofs.Ytmfpgimblifleaa.A
open Go.RowKit Go.Proofs.YtmfpgimblifleaaW.PrintWords Go.Proofs.YtmfpgimblifleaaW.PrintLast Go.Proofs.YtmfpgimblifleaaW.PrintMore
set_option linter.unusedVariables false
set_option linter.unusedSimpArgs false
theorem eqIntS_l (xs ys : List Int) (hx : xs.length ≤ 9223372036854775807) (hl : xs.length = ys.length) : ∀ (n i : Nat), i + n = xs.length → Ev (fun k => laws_eqIntS.l0 k xs ys (i : Int)) (decide (xs.drop i = ys.drop i))
 | 0, i, h => by
  refine Ev.succ ?_
  simp only [laws_eqIntS.l0, if_neg (show ¬ (i : Int) < (xs.length : Int) by omega)]
  rw [List.drop_eq_nil_of_le (by omega), List.drop_eq_nil_of_le (by omega)]
  exact Ev.now _
 | n + 1, i, h => by
  have hi : i < xs.length := by omega
  have hj : i < ys.length := by omega
  refine Ev.succ ?_
  simp only [laws_eqIntS.l0, if_pos (show (i : Int) < (xs.length : Int) by omega), if_pos (show (i : Int) < (ys.length : Int) by omega), if_pos (show (0 : Int) ≤ (i : Int) by omega), rdn hi, rdn hj, wsucc hi hx]
  rw [List.drop_eq_getElem_cons hi, List.drop_eq_getElem_cons hj]
  by_cases c : xs[i] = ys[i]
  · simp only [c, if_true, List.cons.injEq, true_and]
    exact eqIntS_l xs ys hx hl n (i + 1) (by omega)
  · simp only [c, if_false, List.cons.injEq, false_and, decide_false]
    exact Ev.now _
theorem eqIntS_ev (xs ys : List Int) (hx : xs.length ≤ 9223372036854775807) : Ev (fun k => laws_eqIntS.f k xs ys) (decide (xs = ys)) := by
 unfold laws_eqIntS.f
 by_cases h : xs.length = ys.length
 · simp only [if_pos (show (xs.length : Int) = (ys.length : Int) by omega)]
   exact eqIntS_l xs ys hx h xs.length 0 (by omega)
 · simp only [if_neg (show ¬ (xs.length : Int) = (ys.length : Int) by omega)]
   rw [decide_eq_false (fun e => h (by rw [e]))]
   exact Ev.now _
theorem eqIntS_self (xs : List Int) (hx : xs.length ≤ 9223372036854775807) : Ev (fun k => laws_eqIntS.f k xs xs) true := by
 have h := eqIntS_ev xs xs hx
 rw [decide_eq_true rfl] at h
 exact h
end Go.Proofs.Ytmfpgimblifleaa.A

namespace Go.Proofs.Ytmfpgimblifleaa.A
open Go.RowKit Go.Proofs.YtmfpgimblifleaaW.PrintWords Go.Proofs.YtmfpgimblifleaaW.PrintLast Go.Proofs.YtmfpgimblifleaaW.PrintMore
set_option linter.unusedVariables false
set_option linter.unusedSimpArgs false
def marks (a : Int) (n : Nat) : List Int := (List.range n).map fun (j : Nat) => a + (j : Int)
theorem marks_length (a : Int) (n : Nat) : (marks a n).length = n := by simp [marks]
theorem marks_get (a : Int) (n i : Nat) (h : i < (marks a n).length) : (marks a n)[i] = a + (i : Int) := by simp [marks]
theorem markIntS_l (a : Int) (m : Nat) (h0 : 0 ≤ a) (hm : a + m ≤ 9223372036854775807) : ∀ (n i : Nat) (xs : List Int), i + n = m → xs.length = m → xs.take i = (marks a m).take i → Ev (fun k => laws_markIntS.l0 k xs (a + (i : Int)) (i : Int)) (a + (m : Int), marks a m)
 | 0, i, xs, h, hl, ht => by
  refine Ev.succ ?_
  simp only [laws_markIntS.l0, if_neg (show ¬ (i : Int) < (xs.length : Int) by omega)]
  rw [List.take_of_length_le (by omega), List.take_of_length_le (by rw [marks_length]; omega)] at ht
  rw [ht, show i = m by omega]
  exact Ev.now _
 | n + 1, i, xs, h, hl, ht => by
  have hi : i < xs.length := by omega
  refine Ev.succ ?_
  simp only [laws_markIntS.l0, if_pos (show (i : Int) < (xs.length : Int) by omega), if_pos (show (0 : Int) ≤ (i : Int) by omega), wsucc hi (by omega), Int.toNat_natCast, show wrap64 (a + (i : Int) + 1) = a + ((i + 1 : Nat) : Int) from by rw [w64 (by omega) (by omega)]; omega]
  refine markIntS_l a m h0 hm n (i + 1) _ (by omega) (by rw [List.length_set]; exact hl) ?_
  rw [List.take_add_one, List.take_add_one, List.take_set_of_le (Nat.le_refl _), ht]
  congr 1
  rw [List.getElem?_set_self (by omega), List.getElem?_eq_getElem (by rw [marks_length]; omega), marks_get]
theorem markIntS_ev (xs : List Int) (a : Int) (h0 : 0 ≤ a) (hm : a + xs.length ≤ 9223372036854775807) : Ev (fun k => laws_markIntS.f k xs a) (a + (xs.length : Int), marks a xs.length) := by
 have h := markIntS_l a xs.length h0 hm xs.length 0 xs (by omega) rfl (by simp)
 simp only [show a + ((0 : Nat) : Int) = a by omega] at h
 exact h
theorem heldIntS_l (a : Int) (m : Nat) (h0 : 0 ≤ a) (hm : a + m ≤ 9223372036854775807) : ∀ (n i : Nat), i + n = m → Ev (fun k => laws_heldIntS.l0 k (marks a m) (a + (i : Int)) (i : Int)) (a + (m : Int))
 | 0, i, h => by
  refine Ev.succ ?_
  simp only [laws_heldIntS.l0, marks_length, if_neg (show ¬ (i : Int) < (m : Int) by omega)]
  rw [show i = m by omega]
  exact Ev.now _
 | n + 1, i, h => by
  have hi : i < (marks a m).length := by rw [marks_length]; omega
  refine Ev.succ ?_
  simp only [laws_heldIntS.l0, rdn hi, marks_get, marks_length, if_pos (show (i : Int) < (m : Int) by omega), if_pos (show (0 : Int) ≤ (i : Int) by omega), wsucc hi (by rw [marks_length]; omega), if_true, show wrap64 (a + (i : Int) + 1) = a + ((i + 1 : Nat) : Int) from by rw [w64 (by omega) (by omega)]; omega]
  exact heldIntS_l a m h0 hm n (i + 1) (by omega)
theorem heldIntS_ev (a : Int) (m : Nat) (h0 : 0 ≤ a) (hm : a + m ≤ 9223372036854775807) : Ev (fun k => laws_heldIntS.f k (marks a m) a) (a + (m : Int)) := by
 have h := heldIntS_l a m h0 hm m 0 (by omega)
 simp only [show a + ((0 : Nat) : Int) = a by omega] at h
 exact h
end Go.Proofs.Ytmfpgimblifleaa.A

namespace Go.Proofs.Ytmfpgimblifleaa.A
open Go.RowKit Go.Proofs.YtmfpgimblifleaaW.PrintWords Go.Proofs.YtmfpgimblifleaaW.PrintLast Go.Proofs.YtmfpgimblifleaaW.PrintMore
set_option linter.unusedVariables false
set_option linter.unusedSimpArgs false
theorem mks_marks (a : Int) (n : Nat) : mks a n = marks a n := rfl
theorem mark_any (xs : List Int) (a : Int) (h0 : 0 ≤ a) (h1 : a + (xs.length : Int) ≤ 9223372036854775807) : ∃ k, laws_markIntS.f k xs a = some (a + (xs.length : Int), mks a xs.length) := Ev.get (markIntS_ev xs a h0 h1)
theorem markSS_get : ∀ (a : Int) (l : List (List Int)) (i : Nat) (h : i < l.length), (markSS a l)[i]'(by rw [markSS_length]; exact h) = mks (a + (totSS (l.take i) : Int)) (l[i]).length
 | a, [], i, h => by simp at h
 | a, x :: l, 0, h => by simp [markSS, totSS]
 | a, x :: l, i + 1, h => by
  have hi : i < l.length := by simpa using h
  have := markSS_get (a + (x.length : Int)) l i hi
  simp only [markSS, List.getElem_cons_succ, List.take_succ_cons]
  rw [this]
  have e : a + (x.length : Int) + (totSS (l.take i) : Int) = a + (totSS (x :: l.take i) : Int) := by simp [totSS]; omega
  rw [e]
theorem rd_L1n {xs : List (List Int)} {i : Nat} (h : i < xs.length) : rd_L1 xs (i : Int) = xs[i] := by
 unfold rd_L1
 rw [Int.toNat_natCast, List.getD_eq_getElem?_getD, List.getElem?_eq_getElem h]
 rfl
theorem heldIntSS_l (a : Int) (L : List (List Int)) (h0 : 0 ≤ a) (hm : a + (totSS L : Int) ≤ 4611686018427387903) (hl : L.length ≤ 4611686018427387903) : ∀ (n i : Nat), i + n = L.length → Ev (fun k => laws_heldIntSS.l0 k (markSS a L) (a + (totSS (L.take i) : Int)) (i : Int)) (a + (totSS L : Int))
 | 0, i, h => by
  refine Ev.succ ?_
  simp only [laws_heldIntSS.l0, markSS_length, if_neg (show ¬ (i : Int) < (L.length : Int) by omega)]
  rw [List.take_of_length_le (by omega)]
  exact Ev.now _
 | n + 1, i, h => by
  have hi : i < L.length := by omega
  have hi' : i < (markSS a L).length := by rw [markSS_length]; exact hi
  have hle := totSS_le L (i + 1)
  rw [totSS_take hi] at hle
  refine Ev.succ ?_
  simp only [laws_heldIntSS.l0, markSS_length, if_pos (show (i : Int) < (L.length : Int) by omega), if_pos (show (0 : Int) ≤ (i : Int) by omega), rd_L1n hi', markSS_get a L i hi, mks_marks, wsucc hi (by omega)]
  refine Ev.bind (heldIntS_ev (a + (totSS (L.take i) : Int)) (L[i]).length (by omega) (by omega)) ?_
  simp only [if_neg (show ¬ a + (totSS (L.take i) : Int) + ((L[i]).length : Int) < 0 by omega)]
  have := heldIntSS_l a L h0 hm hl n (i + 1) (by omega)
  rw [totSS_take hi] at this
  rw [show a + (totSS (L.take i) : Int) + ((L[i]).length : Int) = a + ((totSS (L.take i) + (L[i]).length : Nat) : Int) by omega]
  exact this
theorem heldIntSS_ev (a : Int) (L : List (List Int)) (h0 : 0 ≤ a) (hm : a + (totSS L : Int) ≤ 4611686018427387903) (hl : L.length ≤ 4611686018427387903) : Ev (fun k => laws_heldIntSS.f k (markSS a L) a) (a + (totSS L : Int)) := by
 have h := heldIntSS_l a L h0 hm hl L.length 0 (by omega)
 simp only [List.take_zero] at h
 rw [show a + (totSS ([] : List (List Int)) : Int) = a by simp [totSS]] at h
 exact h
theorem len_tot {l : List (List Int)} {x : List Int} (h : x ∈ l) : x.length ≤ totSS l := by
 induction l with
 | nil => simp at h
 | cons y l ih =>
  simp only [totSS, List.map_cons, List.sum_cons] at *
  rcases List.mem_cons.1 h with rfl | h
  · omega
  · have := ih h
    omega
theorem eqIntSS_l (L : List (List Int)) (hb : totSS L ≤ 4611686018427387903) (hl : L.length ≤ 4611686018427387903) : ∀ (n i : Nat), i + n = L.length → Ev (fun k => laws_eqIntSS.l0 k L L (i : Int)) true
 | 0, i, h => by
  refine Ev.succ ?_
  simp only [laws_eqIntSS.l0, if_neg (show ¬ (i : Int) < (L.length : Int) by omega)]
  exact Ev.now _
 | n + 1, i, h => by
  have hi : i < L.length := by omega
  have hx := len_tot (List.getElem_mem hi)
  refine Ev.succ ?_
  simp only [laws_eqIntSS.l0, if_pos (show (i : Int) < (L.length : Int) by omega), if_pos (show (0 : Int) ≤ (i : Int) by omega), rd_L1n hi, wsucc hi (by omega)]
  refine Ev.bind (eqIntS_self L[i] (by omega)) ?_
  simp only [if_true]
  exact eqIntSS_l L hb hl n (i + 1) (by omega)
theorem eqIntSS_self (L : List (List Int)) (hb : totSS L ≤ 4611686018427387903) (hl : L.length ≤ 4611686018427387903) : Ev (fun k => laws_eqIntSS.f k L L) true := by
 unfold laws_eqIntSS.f
 simp only [if_true]
 exact eqIntSS_l L hb hl L.length 0 (by omega)
end Go.Proofs.Ytmfpgimblifleaa.A

namespace Go.Proofs.Ytmfpgimblifleaa.A
open Go.RowKit Go.Proofs.YtmfpgimblifleaaW.PrintWords Go.Proofs.YtmfpgimblifleaaW.PrintLast Go.Proofs.YtmfpgimblifleaaW.PrintMore
set_option linter.unusedVariables false
set_option linter.unusedSimpArgs false
theorem foldl_add : ∀ (l : List Int) (s : Int), l.foldl (fun s x => s + x) s = s + l.sum
 | [], s => by simp
 | x :: l, s => by
  rw [List.foldl_cons, foldl_add l, List.sum_cons]
  omega
end Go.Proofs.Ytmfpgimblifleaa.A

namespace Go.Proofs.Ytmfpgimblifleaa.A
open Go.RowKit Go.Proofs.YtmfpgimblifleaaW.PrintWords Go.Proofs.YtmfpgimblifleaaW.PrintLast Go.Proofs.YtmfpgimblifleaaW.PrintMore
set_option linter.unusedVariables false
set_option linter.unusedSimpArgs false
structure Tab (l : List (List Int)) : Prop where
 len : l.length ≤ 6
 row : ∀ x ∈ l, x.length = l.length ∧ ∀ y ∈ x, 0 ≤ y ∧ y ≤ 1000000
theorem tab_rd {l : List (List Int)} (h : Tab l) {x : List Int} (hx : x ∈ l) {i : Nat} (hi : i < l.length) : 0 ≤ rd x (i : Int) ∧ rd x (i : Int) ≤ 1000000 := by
 have h1 := (h.row x hx).1
 rw [rdn (show i < x.length by omega)]
 exact (h.row x hx).2 _ (List.getElem_mem (by omega))
theorem square_tab {l : List (List Int)} (h : squareB l = true) : Tab l ∧ 1 ≤ l.length := by
 unfold squareB at h
 rw [Bool.and_eq_true, decide_eq_true_eq, List.all_eq_true] at h
 refine ⟨⟨by omega, fun x hx => ?_⟩, by omega⟩
 have hr := h.2 x hx
 unfold rowB inR at hr
 rw [Bool.and_eq_true, decide_eq_true_eq, List.all_eq_true] at hr
 exact ⟨by omega, fun y hy => by simpa using hr.2 y hy⟩
end Go.Proofs.Ytmfpgimblifleaa.A

namespace Go.Proofs.Ytmfpgimblifleaa.A
open Go.RowKit Go.Proofs.YtmfpgimblifleaaW.PrintWords Go.Proofs.YtmfpgimblifleaaW.PrintLast Go.Proofs.YtmfpgimblifleaaW.PrintMore
set_option linter.unusedVariables false
set_option linter.unusedSimpArgs false
theorem doGood_l (l : List (List Int)) (hl : l.length ≤ 1048576) (hx : ∀ x ∈ l, x.length ≤ 1048576) : ∀ (n i : Nat), i + n = l.length → Ev (fun k => spec_doGood.l0 k l l (l.length : Int) (i : Int)) (((l.drop i).all (rowB l.length)) && decide ((1 : Int) ≤ l.length ∧ (l.length : Int) ≤ 6))
 | 0, i, h => by
  refine Ev.succ ?_
  simp only [spec_doGood.l0, if_neg (show ¬ (i : Int) < (l.length : Int) by omega), l1In_eq, Option.bind_some]
  rw [List.drop_eq_nil_of_le (by omega), List.all_nil, Bool.true_and]
  exact Ev.now _
 | n + 1, i, h => by
  have hi : i < l.length := by omega
  have hxi := hx _ (List.getElem_mem hi)
  refine Ev.succ ?_
  simp only [spec_doGood.l0, if_pos (show (i : Int) < (l.length : Int) by omega), if_pos (show (0 : Int) ≤ (i : Int) by omega), rd_L1n hi, wsucc hi (by omega)]
  rw [List.drop_eq_getElem_cons hi, List.all_cons]
  by_cases c : ((l[i]).length : Int) = (l.length : Int)
  · simp only [if_pos c]
    refine Ev.bind (l1All_ev l[i] 0 1000000 (by omega)) ?_
    have e : rowB l.length l[i] = inR 0 1000000 l[i] := by
     unfold rowB
     rw [decide_eq_true c, Bool.true_and]
    rw [e]
    cases inR 0 1000000 l[i] with
    | true =>
     simp only [if_true, Bool.true_and]
     exact doGood_l l hl hx n (i + 1) (by omega)
    | false =>
     simp only [Bool.false_eq_true, if_false, Bool.false_and]
     exact Ev.now _
  · have e : rowB l.length l[i] = false := by
     unfold rowB
     rw [decide_eq_false c, Bool.false_and]
    simp only [if_neg c, e, Bool.false_and]
    exact Ev.now _
theorem doGood_ev (l : List (List Int)) (hl : l.length ≤ 1048576) (ht : totSS l ≤ 1048576) : Ev (fun k => spec_doGood.f k l) (squareB l) := by
 have h := doGood_l l hl (fun x h => Nat.le_trans (len_tot h) ht) l.length 0 (by omega)
 rw [List.drop_zero, Bool.and_comm] at h
 exact h
theorem implIsSquare_eq (l : List (List Int)) (hl : l.length ≤ 1048576) (ht : totSS l ≤ 1048576) : impl_IsSquare.f l = some (squareB l) := by
 unfold impl_IsSquare.f
 rw [if_pos ⟨List.all_eq_true.2 fun x h => decide_eq_true (Nat.le_trans (len_tot h) ht), hl⟩]
end Go.Proofs.Ytmfpgimblifleaa.A

namespace Go.Proofs.Ytmfpgimblifleaa.A
open Go.RowKit Go.Proofs.YtmfpgimblifleaaW.PrintWords Go.Proofs.YtmfpgimblifleaaW.PrintLast Go.Proofs.YtmfpgimblifleaaW.PrintMore
set_option linter.unusedVariables false
set_option linter.unusedSimpArgs false
/-! tables told by a function of row and column -/
def tabG (n : Nat) (G : Nat → Nat → Int) : List (List Int) := (List.range n).map fun i => (List.range n).map fun j => G i j
theorem tabG_length (n : Nat) (G : Nat → Nat → Int) : (tabG n G).length = n := by simp [tabG]
theorem tabG_get {n : Nat} {G : Nat → Nat → Int} {i : Nat} (h : i < (tabG n G).length) : (tabG n G)[i] = (List.range n).map fun j => G i j := by simp [tabG]
theorem tabG_row {n : Nat} (G : Nat → Nat → Int) {i : Nat} (h : i < n) : rd_L1 (tabG n G) (i : Int) = (List.range n).map fun j => G i j := by
 rw [rd_L1n (by rw [tabG_length]; exact h), tabG_get]
theorem tabG_rowlen {n : Nat} (G : Nat → Nat → Int) {i : Nat} (h : i < n) : (rd_L1 (tabG n G) (i : Int)).length = n := by rw [tabG_row G h]; simp
theorem rowG_at {n : Nat} (g : Nat → Int) {j : Nat} (h : j < n) : rd ((List.range n).map g) (j : Int) = g j := by
 rw [rdn (by simpa using h)]
 simp
theorem tabG_at {n : Nat} (G : Nat → Nat → Int) {i j : Nat} (h : i < n) (h' : j < n) : rd (rd_L1 (tabG n G) (i : Int)) (j : Int) = G i j := by rw [tabG_row G h, rowG_at _ h']
theorem tabG_congr {n : Nat} {G G' : Nat → Nat → Int} (h : ∀ i j, i < n → j < n → G i j = G' i j) : tabG n G = tabG n G' := by
 unfold tabG
 refine List.map_congr_left fun i hi => List.map_congr_left fun j hj => h i j (List.mem_range.1 hi) (List.mem_range.1 hj)
def updG (G : Nat → Nat → Int) (i j : Nat) (v : Int) : Nat → Nat → Int := fun a b => if a = i ∧ b = j then v else G a b
theorem rowG_set {n : Nat} (g : Nat → Int) (j : Nat) (v : Int) : ((List.range n).map g).set j v = (List.range n).map fun b => if b = j then v else g b := by
 apply List.ext_getElem
 · simp
 · intro k h1 h2
   simp only [List.length_map, List.length_range, List.length_set] at h1 h2
   rw [List.getElem_set]
   by_cases e : j = k
   · subst e
     simp
   · have e' : ¬ k = j := fun h => e h.symm
     simp [e, e']
theorem tabG_set {n : Nat} (G : Nat → Nat → Int) {i : Nat} (j : Nat) (v : Int) (h : i < n) : (tabG n G).set i ((rd_L1 (tabG n G) (i : Int)).set j v) = tabG n (updG G i j v) := by
 rw [tabG_row G h, rowG_set]
 apply List.ext_getElem
 · simp [tabG]
 · intro k h1 h2
   rw [List.length_set, tabG_length] at h1
   rw [List.getElem_set, tabG_get, tabG_get]
   by_cases e : i = k
   · subst e
     rw [if_pos rfl]
     refine List.map_congr_left fun b _ => ?_
     unfold updG
     by_cases e2 : b = j <;> simp [e2]
   · rw [if_neg e]
     refine List.map_congr_left fun b _ => ?_
     unfold updG
     rw [if_neg (fun h => e h.1.symm)]
theorem tabG_zero (n : Nat) : List.replicate n (List.replicate n (0 : Int)) = tabG n (fun _ _ => 0) := by
 unfold tabG
 apply List.ext_getElem
 · simp
 · intro k h1 h2
   simp only [List.getElem_replicate, List.getElem_map]
   apply List.ext_getElem
   · simp
   · intro k h1 h2
     simp
def atG (l : List (List Int)) (i j : Nat) : Int := rd (rd_L1 l (i : Int)) (j : Int)
theorem tabG_self {l : List (List Int)} (h : ∀ x ∈ l, x.length = l.length) : tabG l.length (atG l) = l := by
 apply List.ext_getElem
 · rw [tabG_length]
 · intro i h1 h2
   rw [tabG_get]
   have hl := h _ (List.getElem_mem h2)
   apply List.ext_getElem
   · simp [hl]
   · intro j h3 h4
     simp only [List.getElem_map, List.getElem_range]
     unfold atG
     rw [rd_L1n h2, rdn h4]
theorem atG_tab {n : Nat} (G : Nat → Nat → Int) {i j : Nat} (h : i < n) (h' : j < n) : atG (tabG n G) i j = G i j := tabG_at G h h'
theorem tabG_tot (n : Nat) (G : Nat → Nat → Int) : totSS (tabG n G) = n * n := by
 unfold totSS tabG
 rw [List.map_map]
 have : ∀ m : Nat, ((List.range m).map (List.length ∘ fun i => (List.range n).map fun j => G i j)).sum = m * n := by
  intro m
  induction m with
  | zero => simp
  | succ m ih => rw [List.range_succ, List.map_append, List.sum_append, ih]; simp [Nat.succ_mul]
 exact this n
/-- A table that is filled place by place. -/
theorem fill_ev {ρ : Type} {r : ρ} (n : Nat) (val : Nat → Nat → Int) (g0 : Nat → List (List Int) → Int → Option ρ) (g1 : Nat → List (List Int) → Int → Int → Option ρ)
 (hend : Ev (fun k => g0 k (tabG n val) (n : Int)) r)
 (h0 : ∀ i, i < n → ∀ X : Nat → Nat → Int, Ev (fun k => g1 k (tabG n X) (i : Int) 0) r → Ev (fun k => g0 k (tabG n X) (i : Int)) r)
 (h1 : ∀ i j, i < n → j < n → ∀ H : Nat → Nat → Int, H i j = 0 → Ev (fun k => g1 k (tabG n (updG H i j (val i j))) (i : Int) ((j + 1 : Nat) : Int)) r → Ev (fun k => g1 k (tabG n H) (i : Int) (j : Int)) r)
 (h2 : ∀ i, i < n → ∀ X : Nat → Nat → Int, Ev (fun k => g0 k (tabG n X) ((i + 1 : Nat) : Int)) r → Ev (fun k => g1 k (tabG n X) (i : Int) (n : Int)) r) :
 Ev (fun k => g0 k (tabG n fun _ _ => 0) 0) r := by
 have row : ∀ i, i < n → (Ev (fun k => g0 k (tabG n fun a b => if a < i + 1 then val a b else 0) ((i + 1 : Nat) : Int)) r) → ∀ (m j : Nat), j + m = n → Ev (fun k => g1 k (tabG n fun a b => if a < i ∨ (a = i ∧ b < j) then val a b else 0) (i : Int) (j : Int)) r := by
  intro i hi hr m
  induction m with
  | zero =>
   intro j hj
   have e : j = n := by omega
   subst e
   refine h2 i hi _ ?_
   rw [tabG_congr (G' := fun a b => if a < i + 1 then val a b else 0) (fun a b _ hb => by
    by_cases c : a < i + 1
    · rw [if_pos c, if_pos (by omega)]
    · rw [if_neg c, if_neg (by omega)])]
   exact hr
  | succ m ih =>
   intro j hj
   refine h1 i j hi (by omega) _ (by simp) ?_
   rw [tabG_congr (G' := fun a b => if a < i ∨ (a = i ∧ b < j + 1) then val a b else 0) (fun a b _ hb => by
    unfold updG
    by_cases c : a = i ∧ b = j
    · rw [if_pos c, if_pos (by omega), c.1, c.2]
    · rw [if_neg c]
      show (if a < i ∨ (a = i ∧ b < j) then val a b else 0) = _
      by_cases d : a < i ∨ (a = i ∧ b < j)
      · rw [if_pos d, if_pos (by omega)]
      · rw [if_neg d, if_neg (by omega)])]
   exact ih (j + 1) (by omega)
 have all : ∀ (m i : Nat), i + m = n → Ev (fun k => g0 k (tabG n fun a b => if a < i then val a b else 0) (i : Int)) r := by
  intro m
  induction m with
  | zero =>
   intro i hi
   have e : i = n := by omega
   subst e
   rw [tabG_congr (G' := val) (fun a b ha _ => if_pos ha)]
   exact hend
  | succ m ih =>
   intro i hi
   refine h0 i (by omega) _ ?_
   have := row i (by omega) (ih (i + 1) (by omega)) n 0 (by omega)
   rw [tabG_congr (G' := fun a b => if a < i then val a b else 0) (fun a b _ _ => by
    by_cases c : a < i
    · rw [if_pos c, if_pos (by omega)]
    · rw [if_neg c, if_neg (by omega)])] at this
   exact this
 have := all n 0 (by omega)
 rw [tabG_congr (G' := fun _ _ => 0) (fun a b _ _ => if_neg (by omega))] at this
 exact this
end Go.Proofs.Ytmfpgimblifleaa.A

namespace Go.Proofs.Ytmfpgimblifleaa.A
open Go.RowKit Go.Proofs.YtmfpgimblifleaaW.PrintWords Go.Proofs.YtmfpgimblifleaaW.PrintLast Go.Proofs.YtmfpgimblifleaaW.PrintMore
set_option linter.unusedVariables false
set_option linter.unusedSimpArgs false
/-! a table that is told if it is a square one -/
def checkR (u : List (List Int)) : List (List Int) × Bool := if squareB u = true then (u, true) else ([], false)
theorem checkR_bd (u : List (List Int)) : totSS (checkR u).1 ≤ 1000 ∧ (checkR u).1.length ≤ 1000 := by
 unfold checkR
 split
 · next h =>
   obtain ⟨hT, _⟩ := square_tab h
   have hl := hT.len
   have e := tabG_tot u.length (atG u)
   rw [tabG_self (fun x hx => (hT.row x hx).1)] at e
   have := Nat.mul_le_mul hl hl
   show totSS u ≤ 1000 ∧ u.length ≤ 1000
   omega
 · simp [totSS]
theorem checked_eq (u : List (List Int)) (hl : u.length ≤ 1048576) (ht : totSS u ≤ 1048576) : impl_checked.f u = some (checkR u) := by
 unfold impl_checked.f checkR
 rw [implIsSquare_eq u hl ht, Option.bind_some]
 split <;> rfl
theorem checkedG_eq (n : Nat) (hn : n ≤ 6) (G : Nat → Nat → Int) : impl_checked.f (tabG n G) = some (checkR (tabG n G)) := by
 have := Nat.mul_le_mul hn hn
 exact checked_eq _ (by rw [tabG_length]; omega) (by rw [tabG_tot]; omega)
theorem doIf_ev (u : List (List Int)) (hl : u.length ≤ 1048576) (ht : totSS u ≤ 1048576) : Ev (fun k => spec_doIf.f k u) (checkR u) := by
 unfold spec_doIf.f checkR
 exact Ev.bind (doGood_ev u hl ht) (Ev.ite (fun _ => Ev.now _) (fun _ => Ev.now _))
theorem doIfG_ev (n : Nat) (hn : n ≤ 6) (G : Nat → Nat → Int) : Ev (fun k => spec_doIf.f k (tabG n G)) (checkR (tabG n G)) := by
 have := Nat.mul_le_mul hn hn
 exact doIf_ev _ (by rw [tabG_length]; omega) (by rw [tabG_tot]; omega)
theorem atG_bd {l : List (List Int)} (h : Tab l) {i j : Nat} (hi : i < l.length) (hj : j < l.length) : 0 ≤ atG l i j ∧ atG l i j ≤ 1000000 := by
 unfold atG
 rw [rd_L1n hi]
 exact tab_rd h (List.getElem_mem hi) hj
theorem tab_rowlen {l : List (List Int)} (h : Tab l) {i : Nat} (hi : i < l.length) : (rd_L1 l (i : Int)).length = l.length := by
 rw [rd_L1n hi]
 exact (h.row _ (List.getElem_mem hi)).1
end Go.Proofs.Ytmfpgimblifleaa.A

namespace Go.Proofs.Ytmfpgimblifleaa.A
open Go.RowKit Go.Proofs.YtmfpgimblifleaaW.PrintWords Go.Proofs.YtmfpgimblifleaaW.PrintLast Go.Proofs.YtmfpgimblifleaaW.PrintMore
set_option linter.unusedVariables false
set_option linter.unusedSimpArgs false
theorem doEmpty_l (n : Nat) (hn : n ≤ 1000) : ∀ (m i : Nat), i + m = n → Ev (fun k => spec_doEmpty.l0 k (n : Int) (List.replicate i (List.replicate n 0)) (i : Int)) (tabG n fun _ _ => 0)
 | 0, i, e => by
  have ei : i = n := by omega
  subst ei
  refine Ev.succ ?_
  simp only [spec_doEmpty.l0, if_neg (show ¬ (i : Int) < (i : Int) by omega)]
  rw [tabG_zero]
  exact Ev.now _
 | m + 1, i, e => by
  refine Ev.succ ?_
  have hi : i < n := by omega
  simp only [spec_doEmpty.l0, if_pos (show (i : Int) < (n : Int) by omega), if_pos (show (0 : Int) ≤ (n : Int) by omega), Int.toNat_natCast, if_pos (show n ≤ 35184372088832 by omega), List.length_replicate, if_pos (show i < 5864062014805 by omega), wsucc hi (by omega)]
  have := doEmpty_l n hn m (i + 1) (by omega)
  rw [List.replicate_succ'] at this
  exact this
theorem doEmpty_ev (n : Nat) (hn : n ≤ 1000) : Ev (fun k => spec_doEmpty.f k (n : Int)) (tabG n fun _ _ => 0) := by
 unfold spec_doEmpty.f
 exact doEmpty_l n hn n 0 (by omega)
end Go.Proofs.Ytmfpgimblifleaa.A

namespace Go.Proofs.Ytmfpgimblifleaa.A
open Go.RowKit Go.Proofs.YtmfpgimblifleaaW.PrintWords Go.Proofs.YtmfpgimblifleaaW.PrintLast Go.Proofs.YtmfpgimblifleaaW.PrintMore
set_option linter.unusedVariables false
set_option linter.unusedSimpArgs false
def goodL (xs : List Int) : Bool := if (1 : Int) ≤ xs.length ∧ (xs.length : Int) ≤ 8 then inR 0 60 xs else false
theorem goodL_iff (xs : List Int) : goodL xs = true ↔ 1 ≤ xs.length ∧ xs.length ≤ 8 ∧ ∀ x ∈ xs, 0 ≤ x ∧ x ≤ 60 := by
 unfold goodL inR
 by_cases h : (1 : Int) ≤ xs.length ∧ (xs.length : Int) ≤ 8
 · rw [if_pos h]
   simp only [List.all_eq_true, decide_eq_true_eq]
   exact ⟨fun h' => ⟨by omega, by omega, h'⟩, fun h' => h'.2.2⟩
 · rw [if_neg h]
   constructor
   · intro h'
     cases h'
   · intro h'
     omega
theorem liGood_ev (xs : List Int) (hx : xs.length ≤ 9223372036854775807) : Ev (fun k => spec_liGood.f k xs) (goodL xs) := by
 unfold spec_liGood.f goodL
 simp only [l1In_eq, Option.bind_some, decide_eq_true_eq]
 exact Ev.ite (fun _ => Ev.bind (l1All_ev xs 0 60 hx) (Ev.now _)) (fun _ => Ev.now _)
theorem implIsList_ev (xs : List Int) (hx : xs.length ≤ 9223372036854775807) : Ev (fun k => impl_IsList.f k xs) (goodL xs) := by
 unfold impl_IsList.f goodL
 simp only [within_eq, Option.bind_some, decide_eq_true_eq]
 exact Ev.ite (fun _ => Ev.bind (allWithin_ev xs 0 60 hx) (Ev.now _)) (fun _ => Ev.now _)
end Go.Proofs.Ytmfpgimblifleaa.A

namespace Go.Proofs.Ytmfpgimblifleaa.A
open Go.RowKit Go.Proofs.YtmfpgimblifleaaW.PrintWords Go.Proofs.YtmfpgimblifleaaW.PrintLast Go.Proofs.YtmfpgimblifleaaW.PrintMore
set_option linter.unusedVariables false
set_option linter.unusedSimpArgs false
def giveL (l : List Int) (f t a : Int) : List Int := (l.set f.toNat (rd l f - a)).set t.toNat (rd l t + a)
theorem rd_set_ne {l : List Int} {i j : Int} (x : Int) (h0 : 0 ≤ i) (h1 : 0 ≤ j) (h : i ≠ j) : rd (l.set i.toNat x) j = rd l j := by
 unfold rd
 rw [List.getD_eq_getElem?_getD, List.getD_eq_getElem?_getD, List.getElem?_set_ne (by omega)]
theorem rd_set_self {l : List Int} {i : Int} (x : Int) (h0 : 0 ≤ i) (h1 : i < l.length) : rd (l.set i.toNat x) i = x := by
 unfold rd
 rw [List.getD_eq_getElem?_getD, List.getElem?_set_self (by omega)]
 rfl
end Go.Proofs.Ytmfpgimblifleaa.A

namespace Go.Proofs.Ytmfpgimblifleaa.A
open Go.RowKit Go.Proofs.YtmfpgimblifleaaW.PrintWords Go.Proofs.YtmfpgimblifleaaW.PrintLast Go.Proofs.YtmfpgimblifleaaW.PrintMore
set_option linter.unusedVariables false
set_option linter.unusedSimpArgs false
/-! Hall's theorem over the numbers below n: sets are functions to Bool -/
def cardB (n : Nat) (S : Nat → Bool) : Nat := (List.range n).countP S
theorem countP_sub {α : Type} (A B D : α → Bool) : ∀ l : List α, (∀ x ∈ l, A x = true → B x = true ∨ D x = true) → l.countP A ≤ l.countP B + l.countP D
 | [], _ => by simp
 | x :: l, h => by
  have ih := countP_sub A B D l (fun y hy => h y (List.mem_cons_of_mem _ hy))
  have hx := h x List.mem_cons_self
  rw [List.countP_cons, List.countP_cons, List.countP_cons]
  cases hA : A x with
  | false => simp only [Bool.false_eq_true, if_false]; omega
  | true =>
   rcases hx hA with hB | hD
   · rw [hB]; simp only [if_true]; omega
   · rw [hD]; simp only [if_true]; omega
theorem countP_two {α : Type} (A B D : α → Bool) : ∀ l : List α, (∀ x ∈ l, B x = true → A x = true ∧ D x = false) → (∀ x ∈ l, D x = true → A x = true) → l.countP B + l.countP D ≤ l.countP A
 | [], _, _ => by simp
 | x :: l, h, k => by
  have ih := countP_two A B D l (fun y hy => h y (List.mem_cons_of_mem _ hy)) (fun y hy => k y (List.mem_cons_of_mem _ hy))
  have hx := h x List.mem_cons_self
  have kx := k x List.mem_cons_self
  rw [List.countP_cons, List.countP_cons, List.countP_cons]
  cases hB : B x with
  | true =>
   obtain ⟨h1, h2⟩ := hx hB
   rw [h1, h2]
   simp only [if_true, Bool.false_eq_true, if_false]
   omega
  | false =>
   cases hD : D x with
   | true =>
    rw [kx hD]
    simp only [if_true, Bool.false_eq_true, if_false]
    omega
   | false =>
    simp only [Bool.false_eq_true, if_false]
    omega
theorem cardB_pos {n : Nat} {S : Nat → Bool} {i : Nat} (hi : i < n) (h : S i = true) : 0 < cardB n S := by
 unfold cardB
 rw [List.countP_pos_iff]
 exact ⟨i, List.mem_range.2 hi, h⟩
theorem cardB_ex {n : Nat} {S : Nat → Bool} (h : 0 < cardB n S) : ∃ i, i < n ∧ S i = true := by
 unfold cardB at h
 rw [List.countP_pos_iff] at h
 obtain ⟨i, hi, hs⟩ := h
 exact ⟨i, List.mem_range.1 hi, hs⟩
theorem cardB_one (n c : Nat) : cardB n (fun j => j == c) ≤ 1 := by
 have h := List.nodup_iff_count.1 (List.nodup_range (n := n)) c
 exact h
theorem cardB_le {n : Nat} {A B : Nat → Bool} (h : ∀ i, i < n → A i = true → B i = true) : cardB n A ≤ cardB n B := List.countP_mono_left fun i hi ha => h i (List.mem_range.1 hi) ha
def nbr (n : Nat) (P : Nat → Nat → Bool) (C S : Nat → Bool) (j : Nat) : Bool := C j && (List.range n).any fun i => S i && P i j
theorem nbr_iff {n : Nat} {P : Nat → Nat → Bool} {C S : Nat → Bool} {j : Nat} : nbr n P C S j = true ↔ C j = true ∧ ∃ i, i < n ∧ S i = true ∧ P i j = true := by
 unfold nbr
 simp only [Bool.and_eq_true, List.any_eq_true, List.mem_range]
theorem hall (n : Nat) (P : Nat → Nat → Bool) : ∀ (m : Nat) (R C : Nat → Bool), cardB n R ≤ m → (∀ S : Nat → Bool, (∀ i, i < n → S i = true → R i = true) → cardB n S ≤ cardB n (nbr n P C S)) → ∃ f : Nat → Nat, (∀ i, i < n → R i = true → f i < n ∧ C (f i) = true ∧ P i (f i) = true) ∧ ∀ i j, i < n → j < n → R i = true → R j = true → f i = f j → i = j
 | 0, R, C, hR, _ => by
  have hno : ∀ i, i < n → R i = true → False := fun i hi h => by have := cardB_pos hi h; omega
  exact ⟨id, fun i hi h => (hno i hi h).elim, fun i j hi _ h _ _ => (hno i hi h).elim⟩
 | m + 1, R, C, hR, hH => by
  by_cases hex : 0 < cardB n R
  · obtain ⟨r, hr, hRr⟩ := cardB_ex hex
    by_cases hB : ∃ S : Nat → Bool, (∀ i, i < n → S i = true → R i = true) ∧ 0 < cardB n S ∧ cardB n S < cardB n R ∧ cardB n (nbr n P C S) ≤ cardB n S
    · obtain ⟨S, hS, h0, h1, h2⟩ := hB
      obtain ⟨f1, a1, b1⟩ := hall n P m S C (by omega) (fun T hT => hH T (fun i hi h => hS i hi (hT i hi h)))
      have hsplit : cardB n (fun i => R i && !S i) + cardB n S ≤ cardB n R := countP_two R (fun i => R i && !S i) S (List.range n) (fun i _ h => by simp only [Bool.and_eq_true, Bool.not_eq_true'] at h; exact h) (fun i hi h => hS i (List.mem_range.1 hi) h)
      obtain ⟨f2, a2, b2⟩ := hall n P m (fun i => R i && !S i) (fun j => C j && !nbr n P C S j) (by omega) (fun T hT => by
       have hT' : ∀ i, i < n → T i = true → R i = true ∧ S i = false := fun i hi h => by have := hT i hi h; simp only [Bool.and_eq_true, Bool.not_eq_true'] at this; exact this
       have e1 : cardB n T + cardB n S ≤ cardB n (fun i => T i || S i) := countP_two (fun i => T i || S i) T S (List.range n) (fun i hi h => ⟨by simp [h], (hT' i (List.mem_range.1 hi) h).2⟩) (fun i _ h => by simp [h])
       have e2 := hH (fun i => T i || S i) (fun i hi h => by
        simp only [Bool.or_eq_true] at h
        rcases h with h | h
        · exact (hT' i hi h).1
        · exact hS i hi h)
       have e3 : cardB n (nbr n P C (fun i => T i || S i)) ≤ cardB n (nbr n P (fun j => C j && !nbr n P C S j) T) + cardB n (nbr n P C S) := countP_sub _ _ _ (List.range n) (fun j _ h => by
        obtain ⟨hc, i, hi, hs, hp⟩ := nbr_iff.1 h
        by_cases hn : nbr n P C S j = true
        · exact .inr hn
        · refine .inl (nbr_iff.2 ⟨by simp only [Bool.and_eq_true, Bool.not_eq_true']; exact ⟨hc, by simpa using hn⟩, i, hi, ?_, hp⟩)
          simp only [Bool.or_eq_true] at hs
          rcases hs with hs | hs
          · exact hs
          · exact (hn (nbr_iff.2 ⟨hc, i, hi, hs, hp⟩)).elim)
       omega)
      have q1 : ∀ i, i < n → S i = true → nbr n P C S (f1 i) = true := fun i hi h => by
       obtain ⟨_, hc, hp⟩ := a1 i hi h
       exact nbr_iff.2 ⟨hc, i, hi, h, hp⟩
      have q2 : ∀ i, i < n → R i = true → ¬ S i = true → f2 i < n ∧ C (f2 i) = true ∧ nbr n P C S (f2 i) = false ∧ P i (f2 i) = true := fun i hi h hs => by
       obtain ⟨u, v, w⟩ := a2 i hi (by simp only [Bool.and_eq_true, Bool.not_eq_true']; exact ⟨h, by simpa using hs⟩)
       simp only [Bool.and_eq_true, Bool.not_eq_true'] at v
       exact ⟨u, v.1, v.2, w⟩
      refine ⟨fun i => if S i = true then f1 i else f2 i, fun i hi h => ?_, fun i j hi hj h k e => ?_⟩
      · show (if S i = true then f1 i else f2 i) < n ∧ C (if S i = true then f1 i else f2 i) = true ∧ P i (if S i = true then f1 i else f2 i) = true
        by_cases hs : S i = true
        · rw [if_pos hs]
          exact a1 i hi hs
        · rw [if_neg hs]
          obtain ⟨u, v, _, w⟩ := q2 i hi h hs
          exact ⟨u, v, w⟩
      · simp only at e
        by_cases hs : S i = true
        · by_cases ht : S j = true
          · rw [if_pos hs, if_pos ht] at e
            exact b1 i j hi hj hs ht e
          · rw [if_pos hs, if_neg ht] at e
            have x1 := q1 i hi hs
            have x2 := (q2 j hj k ht).2.2.1
            rw [e, x2] at x1
            cases x1
        · by_cases ht : S j = true
          · rw [if_neg hs, if_pos ht] at e
            have x1 := q1 j hj ht
            have x2 := (q2 i hi h hs).2.2.1
            rw [← e, x2] at x1
            cases x1
          · rw [if_neg hs, if_neg ht] at e
            exact b2 i j hi hj (by simp only [Bool.and_eq_true, Bool.not_eq_true']; exact ⟨h, by simpa using hs⟩) (by simp only [Bool.and_eq_true, Bool.not_eq_true']; exact ⟨k, by simpa using ht⟩) e
    · have hA : ∀ T : Nat → Bool, (∀ i, i < n → T i = true → R i = true) → 0 < cardB n T → cardB n T < cardB n R → cardB n T + 1 ≤ cardB n (nbr n P C T) := fun T h1 h2 h3 => by
       have : ¬ cardB n (nbr n P C T) ≤ cardB n T := fun h4 => hB ⟨T, h1, h2, h3, h4⟩
       omega
      have hs1 : 0 < cardB n (fun i => i == r) := cardB_pos hr (by simp)
      have hN := hH (fun i => i == r) (fun i _ h => by
       have e : i = r := by simpa using h
       rw [e]
       exact hRr)
      obtain ⟨c, hc, hnc⟩ := cardB_ex (show 0 < cardB n (nbr n P C (fun i => i == r)) by omega)
      obtain ⟨hCc, i0, _, hi0, hP⟩ := nbr_iff.1 hnc
      have ei0 : i0 = r := by simpa using hi0
      subst ei0
      have hsplit : cardB n (fun i => R i && !(i == i0)) + cardB n (fun i => i == i0) ≤ cardB n R := countP_two R (fun i => R i && !(i == i0)) (fun i => i == i0) (List.range n) (fun i _ h => by simp only [Bool.and_eq_true, Bool.not_eq_true'] at h; exact h) (fun i _ h => by
       have e : i = i0 := by simpa using h
       rw [e]
       exact hRr)
      obtain ⟨f1, a1, b1⟩ := hall n P m (fun i => R i && !(i == i0)) (fun j => C j && !(j == c)) (by omega) (fun T hT => by
       by_cases ht0 : 0 < cardB n T
       · have hTR : ∀ i, i < n → T i = true → R i = true := fun i hi h => by have := hT i hi h; simp only [Bool.and_eq_true] at this; exact this.1
         have hle : cardB n T ≤ cardB n (fun i => R i && !(i == i0)) := cardB_le hT
         have g := hA T hTR ht0 (by omega)
         have e3 : cardB n (nbr n P C T) ≤ cardB n (nbr n P (fun j => C j && !(j == c)) T) + cardB n (fun j => j == c) := countP_sub _ _ _ (List.range n) (fun j _ h => by
          obtain ⟨hcj, i, hi, hs, hp⟩ := nbr_iff.1 h
          by_cases e : j = c
          · exact .inr (by simpa using e)
          · exact .inl (nbr_iff.2 ⟨by simp only [Bool.and_eq_true, Bool.not_eq_true']; exact ⟨hcj, by simpa using e⟩, i, hi, hs, hp⟩))
         have := cardB_one n c
         omega
       · omega)
      have q : ∀ i, i < n → R i = true → i ≠ i0 → f1 i < n ∧ C (f1 i) = true ∧ f1 i ≠ c ∧ P i (f1 i) = true := fun i hi h hne => by
       obtain ⟨u, v, w⟩ := a1 i hi (by simp only [Bool.and_eq_true, Bool.not_eq_true']; exact ⟨h, by simpa using hne⟩)
       simp only [Bool.and_eq_true, Bool.not_eq_true'] at v
       exact ⟨u, v.1, by simpa using v.2, w⟩
      refine ⟨fun i => if i = i0 then c else f1 i, fun i hi h => ?_, fun i j hi hj h k e => ?_⟩
      · show (if i = i0 then c else f1 i) < n ∧ C (if i = i0 then c else f1 i) = true ∧ P i (if i = i0 then c else f1 i) = true
        by_cases hs : i = i0
        · rw [if_pos hs, hs]
          exact ⟨hc, hCc, hP⟩
        · rw [if_neg hs]
          obtain ⟨u, v, _, w⟩ := q i hi h hs
          exact ⟨u, v, w⟩
      · simp only at e
        by_cases hs : i = i0
        · by_cases ht : j = i0
          · rw [hs, ht]
          · rw [if_pos hs, if_neg ht] at e
            exact ((q j hj k ht).2.2.1 e.symm).elim
        · by_cases ht : j = i0
          · rw [if_neg hs, if_pos ht] at e
            exact ((q i hi h hs).2.2.1 e).elim
          · rw [if_neg hs, if_neg ht] at e
            exact b1 i j hi hj (by simp only [Bool.and_eq_true, Bool.not_eq_true']; exact ⟨h, by simpa using hs⟩) (by simp only [Bool.and_eq_true, Bool.not_eq_true']; exact ⟨k, by simpa using ht⟩) e
  · have hno : ∀ i, i < n → R i = true → False := fun i hi h => hex (cardB_pos hi h)
    exact ⟨id, fun i hi h => (hno i hi h).elim, fun i j hi _ h _ _ => (hno i hi h).elim⟩
end Go.Proofs.Ytmfpgimblifleaa.A

namespace Go.Proofs.Ytmfpgimblifleaa.A
open Go.RowKit Go.Proofs.YtmfpgimblifleaaW.PrintWords Go.Proofs.YtmfpgimblifleaaW.PrintLast Go.Proofs.YtmfpgimblifleaaW.PrintMore
set_option linter.unusedVariables false
set_option linter.unusedSimpArgs false
theorem l1Own_eq (l : List Int) (hx : l.length ≤ 1048576) : spec_l1Own.f l = some l := by
 unfold spec_l1Own.f
 simp only [Option.bind_some, List.nil_append, List.length_nil, Nat.zero_add, if_pos (show l.length < 17592186044416 by omega)]
end Go.Proofs.Ytmfpgimblifleaa.A

namespace Go.Proofs.Ytmfpgimblifleaa.A
open Go.RowKit Go.Proofs.YtmfpgimblifleaaW.PrintWords Go.Proofs.YtmfpgimblifleaaW.PrintLast Go.Proofs.YtmfpgimblifleaaW.PrintMore
set_option linter.unusedVariables false
set_option linter.unusedSimpArgs false
def insD : List Int → Int → List Int
 | [], x => [x]
 | y :: ys, x => if x ≤ y then y :: insD ys x else x :: y :: ys
def Desc (l : List Int) : Prop := l.Pairwise fun x y => y ≤ x
theorem insD_at (x : Int) : ∀ (out : List Int) (j : Nat), j ≤ out.length → (∀ i, i < j → ∀ h : i < out.length, x ≤ out[i]) → (∀ h : j < out.length, ¬ x ≤ out[j]) → insD out x = out.take j ++ [x] ++ out.drop j
 | [], j, hj, _, _ => by simp [insD]
 | y :: ys, 0, _, _, h => by
  have := h (by simp)
  simp only [List.getElem_cons_zero] at this
  simp [insD, this]
 | y :: ys, j + 1, hj, h1, h2 => by
  have h0 := h1 0 (by omega) (by simp)
  simp only [List.getElem_cons_zero] at h0
  have ih := insD_at x ys j (by simpa using hj) (fun i hi h => by have := h1 (i + 1) (by omega) (by simpa using h); simpa using this) (fun h => by have := h2 (by simpa using h); simpa using this)
  simp only [insD, if_pos h0, ih, List.take_succ_cons, List.drop_succ_cons, List.cons_append]
theorem insD_perm (x : Int) : ∀ out : List Int, (insD out x).Perm (x :: out)
 | [] => List.Perm.refl _
 | y :: ys => by
  unfold insD
  split
  · exact ((insD_perm x ys).cons y).trans (List.Perm.swap x y ys)
  · exact List.Perm.refl _
theorem insD_length (x : Int) (out : List Int) : (insD out x).length = out.length + 1 := by
 rw [(insD_perm x out).length_eq, List.length_cons]
theorem insD_desc (x : Int) : ∀ out : List Int, Desc out → Desc (insD out x)
 | [], _ => by simp [insD, Desc]
 | y :: ys, h => by
  unfold insD
  unfold Desc at h
  rw [List.pairwise_cons] at h
  split
  · next hc =>
    unfold Desc
    rw [List.pairwise_cons]
    refine ⟨fun z hz => ?_, insD_desc x ys h.2⟩
    rcases List.mem_cons.1 ((insD_perm x ys).mem_iff.1 hz) with rfl | hz
    · exact hc
    · exact h.1 z hz
  · next hc =>
    unfold Desc
    rw [List.pairwise_cons, List.pairwise_cons]
    refine ⟨fun z hz => ?_, h⟩
    rcases List.mem_cons.1 hz with rfl | hz
    · omega
    · have := h.1 z hz
      omega
theorem descL_perm (l : List Int) : (descL l).Perm l := List.mergeSort_perm l _
theorem descL_desc (l : List Int) : Desc (descL l) := by
 unfold descL Desc
 have h := List.pairwise_mergeSort (le := fun x y : Int => decide (y ≤ x)) (fun a b c h1 h2 => by simp only [decide_eq_true_eq] at *; omega) (fun a b => by simp only [Bool.or_eq_true, decide_eq_true_eq]; omega) l
 exact h.imp (fun h => by simpa using h)
theorem desc_unique {a b : List Int} (h : a.Perm b) (ha : Desc a) (hb : Desc b) : a = b :=
 List.Perm.eq_of_pairwise (le := fun x y : Int => y ≤ x) (fun x y _ _ h1 h2 => by omega) ha hb h
theorem descL_length (l : List Int) : (descL l).length = l.length := (descL_perm l).length_eq
theorem descL_mem {l : List Int} {x : Int} : x ∈ descL l ↔ x ∈ l := (descL_perm l).mem_iff
theorem perm_sum {a b : List Int} (h : a.Perm b) : a.sum = b.sum := by
 induction h with
 | nil => rfl
 | cons x _ ih => simp only [List.sum_cons, ih]
 | swap x y l => simp only [List.sum_cons]; omega
 | trans _ _ ih1 ih2 => exact ih1.trans ih2
theorem descL_sum (l : List Int) : (descL l).sum = l.sum := perm_sum (descL_perm l)
theorem foldl_ins_perm : ∀ (l out : List Int), (l.foldl insD out).Perm (out ++ l)
 | [], out => by simp
 | x :: l, out => by
  rw [List.foldl_cons]
  refine (foldl_ins_perm l (insD out x)).trans ?_
  refine ((insD_perm x out).append_right l).trans ?_
  exact (List.perm_middle (a := x) (l₁ := out) (l₂ := l)).symm
theorem foldl_ins_desc : ∀ (l out : List Int), Desc out → Desc (l.foldl insD out)
 | [], out, h => h
 | x :: l, out, h => by
  rw [List.foldl_cons]
  exact foldl_ins_desc l _ (insD_desc x out h)
theorem foldl_ins (l : List Int) : l.foldl insD [] = descL l :=
 desc_unique ((by simpa using foldl_ins_perm l [] : (l.foldl insD []).Perm l).trans (descL_perm l).symm) (foldl_ins_desc l [] (by simp [Desc])) (descL_desc l)
def Sm (l : List Int) : Prop := l.length ≤ 1000 ∧ ∀ x ∈ l, 0 ≤ x ∧ x ≤ 1000
theorem good_sm {l : List Int} (h : goodL l = true) : Sm l := by
 have := (goodL_iff l).1 h
 exact ⟨by omega, fun x hx => by have := this.2.2 x hx; omega⟩
theorem sm_desc {l : List Int} (h : Sm l) : Sm (descL l) := ⟨by rw [descL_length]; exact h.1, fun x hx => h.2 x (descL_mem.1 hx)⟩
theorem ranking_eq {l : List Int} (h : Sm l) : impl_ranking.f l = some (descL l) := by
 unfold impl_ranking.f smallL
 rw [if_pos]
 simp only [Bool.and_eq_true, decide_eq_true_eq, List.all_eq_true]
 exact ⟨by have := h.1; omega, fun x hx => by have := h.2 x hx; omega⟩
theorem liRank_in (l : List Int) (x : Int) (i9 : Int) (out : List Int) (hout : out.length ≤ 1000000) (r : List Int) (hr : Ev (fun k => spec_liRank.l0 k (insD out x) l (l.length : Int) (wrap64 (i9 + 1))) r) :
 ∀ (n j : Nat), j + n = out.length → (∀ i, i < j → ∀ h : i < out.length, x ≤ out[i]) → Ev (fun k => spec_liRank.l1 k out x (j : Int) l (l.length : Int) i9) r
 | 0, j, h, hall => by
  refine Ev.succ ?_
  have e := insD_at x out j (by omega) hall (fun h' => by omega)
  simp only [spec_liRank.l1, if_neg (show ¬ (j : Int) < (out.length : Int) by omega), if_pos (show (0 : Int) ≤ (j : Int) by omega), if_pos (show (j : Int) ≤ (out.length : Int) by omega), Int.toNat_natCast, l1Own_eq (out.take j) (by rw [List.length_take]; omega), Option.bind_some, List.length_append, List.length_take, List.length_drop, List.length_cons, List.length_nil]
  simp only [if_pos (show min j out.length + (0 + 1) < 17592186044416 by omega), if_pos (show min j out.length + (0 + 1) + (out.length - j) < 17592186044416 by omega)]
  rw [e] at hr
  exact hr
 | n + 1, j, h, hall => by
  have hj : j < out.length := by omega
  refine Ev.succ ?_
  by_cases c : x ≤ out[j]
  · simp only [spec_liRank.l1, if_pos (show (j : Int) < (out.length : Int) by omega), if_pos (show (0 : Int) ≤ (j : Int) by omega), rdn hj, if_pos (show out[j] ≥ x from c), wsucc hj (by omega)]
    refine liRank_in l x i9 out hout r hr n (j + 1) (by omega) (fun i hi h' => ?_)
    by_cases e : i = j
    · subst e
      exact c
    · exact hall i (by omega) h'
  · have e := insD_at x out j (by omega) hall (fun h' => c)
    simp only [spec_liRank.l1, if_pos (show (j : Int) < (out.length : Int) by omega), if_pos (show (0 : Int) ≤ (j : Int) by omega), rdn hj, if_neg (show ¬ out[j] ≥ x from c), if_pos (show (j : Int) ≤ (out.length : Int) by omega), Int.toNat_natCast, l1Own_eq (out.take j) (by rw [List.length_take]; omega), Option.bind_some, List.length_append, List.length_take, List.length_drop, List.length_cons, List.length_nil]
    simp only [if_pos (show min j out.length + (0 + 1) < 17592186044416 by omega), if_pos (show min j out.length + (0 + 1) + (out.length - j) < 17592186044416 by omega)]
    rw [e] at hr
    exact hr
theorem liRank_ev (l : List Int) (hx : l.length ≤ 1000000) : Ev (fun k => spec_liRank.f k l) (descL l) := by
 unfold spec_liRank.f
 have h := ev_fold (xs := l) (g := fun k out i => spec_liRank.l0 k out l (l.length : Int) i) insD (fun out i => out.length = i) id
  (fun s _ => Ev.succ (by simp only [spec_liRank.l0, if_neg (Int.lt_irrefl _)]; exact Ev.now _))
  (fun i h s r hs _ hr => Ev.succ (by
   simp only [spec_liRank.l0, if_pos (show (i : Int) < (l.length : Int) by omega), if_pos (show (0 : Int) ≤ (i : Int) by omega), rdn h]
   exact liRank_in l l[i] (i : Int) s (by omega) r (by rw [wsucc h (by omega)]; exact hr) s.length 0 (by omega) (fun j hj => by omega)))
  (fun i h s hs => by rw [insD_length, hs]) l.length 0 [] (by omega) rfl
 rw [List.drop_zero, foldl_ins] at h
 exact h
end Go.Proofs.Ytmfpgimblifleaa.A

namespace Go.Proofs.Ytmfpgimblifleaa.A
open Go.RowKit Go.Proofs.YtmfpgimblifleaaW.PrintWords Go.Proofs.YtmfpgimblifleaaW.PrintLast Go.Proofs.YtmfpgimblifleaaW.PrintMore
set_option linter.unusedVariables false
set_option linter.unusedSimpArgs false
def psums : Int → List Int → List Int
 | _, [] => []
 | s, x :: l => (s + x) :: psums (s + x) l
def psStep (s : List Int × Int) (x : Int) : List Int × Int := (s.1 ++ [s.2 + x], s.2 + x)
theorem foldl_ps : ∀ (l : List Int) (s : List Int × Int), (l.foldl psStep s).1 = s.1 ++ psums s.2 l
 | [], s => by simp [psums]
 | x :: l, s => by
  rw [List.foldl_cons, foldl_ps l]
  simp [psStep, psums]
theorem psums_length : ∀ (l : List Int) (s : Int), (psums s l).length = l.length
 | [], _ => rfl
 | x :: l, s => by simp [psums, psums_length l]
theorem liSums_ev (l : List Int) (h : Sm l) : Ev (fun k => spec_liSums.f k l) (psums 0 l) := by
 unfold spec_liSums.f
 have hl := h.1
 have h := ev_fold (xs := l) (g := fun k s i => spec_liSums.l0 k s.1 s.2 l (l.length : Int) i) psStep (fun s i => s.1.length = i ∧ 0 ≤ s.2 ∧ s.2 ≤ 1000 * (i : Int)) (fun s => s.1)
  (fun s _ => Ev.succ (by simp only [spec_liSums.l0, if_neg (Int.lt_irrefl _)]; exact Ev.now _))
  (fun i hi s r hs _ hr => Ev.succ (by
   have hb := h.2 _ (List.getElem_mem hi)
   simp only [spec_liSums.l0, if_pos (show (i : Int) < (l.length : Int) by omega), if_pos (show (0 : Int) ≤ (i : Int) by omega), rdn hi, if_pos (show s.1.length < 17592186044416 by omega), wsucc hi (by omega), w64 (x := s.2 + l[i]) (by omega) (by omega)]
   exact hr))
  (fun i hi s hs => by
   have hb := h.2 _ (List.getElem_mem hi)
   simp only [psStep, List.length_append, List.length_cons, List.length_nil]
   omega) l.length 0 ([], 0) (by omega) (by simp)
 rw [List.drop_zero, foldl_ps] at h
 exact h
theorem partial_l (l : List Int) (h : Sm l) : Ev (fun k => impl_partial.l0 k [] 0 l (l.length : Int) 0) (psums 0 l) := by
 have hl := h.1
 have h := ev_fold (xs := l) (g := fun k s i => impl_partial.l0 k s.1 s.2 l (l.length : Int) i) psStep (fun s i => s.1.length = i ∧ 0 ≤ s.2 ∧ s.2 ≤ 1000 * (i : Int)) (fun s => s.1)
  (fun s _ => Ev.succ (by simp only [impl_partial.l0, if_neg (Int.lt_irrefl _)]; exact Ev.now _))
  (fun i hi s r hs _ hr => Ev.succ (by
   have hb := h.2 _ (List.getElem_mem hi)
   simp only [impl_partial.l0, if_pos (show (i : Int) < (l.length : Int) by omega), if_pos (show (0 : Int) ≤ (i : Int) by omega), rdn hi, if_pos (show s.1.length < 17592186044416 by omega), wsucc hi (by omega), w64 (x := s.2 + l[i]) (by omega) (by omega)]
   exact hr))
  (fun i hi s hs => by
   have hb := h.2 _ (List.getElem_mem hi)
   simp only [psStep, List.length_append, List.length_cons, List.length_nil]
   omega) l.length 0 ([], 0) (by omega) (by simp)
 rw [List.drop_zero, foldl_ps] at h
 exact h
def partL (l : List Int) : List Int := psums 0 (descL l)
theorem liPartial_ev (l : List Int) (h : Sm l) : Ev (fun k => spec_liPartial.f k l) (partL l) := by
 unfold spec_liPartial.f
 exact Ev.bind (liRank_ev l (by have := h.1; omega)) (Ev.bind (liSums_ev _ (sm_desc h)) (Ev.now _))
theorem partial_ev (l : List Int) (h : Sm l) : Ev (fun k => impl_partial.f k l) (partL l) := by
 unfold impl_partial.f
 simp only [ranking_eq h, Option.bind_some]
 exact partial_l _ (sm_desc h)
theorem partL_length (l : List Int) : (partL l).length = l.length := by
 unfold partL
 rw [psums_length, descL_length]
end Go.Proofs.Ytmfpgimblifleaa.A

namespace Go.Proofs.Ytmfpgimblifleaa.A
open Go.RowKit Go.Proofs.YtmfpgimblifleaaW.PrintWords Go.Proofs.YtmfpgimblifleaaW.PrintLast Go.Proofs.YtmfpgimblifleaaW.PrintMore
set_option linter.unusedVariables false
set_option linter.unusedSimpArgs false
theorem liSum_ev (l : List Int) (h : Sm l) : Ev (fun k => spec_liSum.f k l) l.sum := by
 unfold spec_liSum.f
 have hl := h.1
 have h := ev_fold (xs := l) (g := fun k s i => spec_liSum.l0 k s l (l.length : Int) i) (fun s x => s + x) (fun s i => 0 ≤ s ∧ s ≤ 1000 * (i : Int)) id
  (fun s _ => Ev.succ (by simp only [spec_liSum.l0, if_neg (Int.lt_irrefl _)]; exact Ev.now _))
  (fun i hi s r hs _ hr => Ev.succ (by
   have hb := h.2 _ (List.getElem_mem hi)
   simp only [spec_liSum.l0, if_pos (show (i : Int) < (l.length : Int) by omega), if_pos (show (0 : Int) ≤ (i : Int) by omega), rdn hi, wsucc hi (by omega), w64 (x := s + l[i]) (by omega) (by omega)]
   exact hr))
  (fun i hi s hs => by
   have hb := h.2 _ (List.getElem_mem hi)
   omega) l.length 0 0 (by omega) (by omega)
 rw [List.drop_zero, foldl_add, Int.zero_add] at h
 exact h
theorem total_ev (l : List Int) (h : Sm l) : Ev (fun k => impl_total.f k l) l.sum := by
 unfold impl_total.f
 have hl := h.1
 have h := ev_fold (xs := l) (g := fun k s i => impl_total.l0 k s l (l.length : Int) i) (fun s x => s + x) (fun s i => 0 ≤ s ∧ s ≤ 1000 * (i : Int)) id
  (fun s _ => Ev.succ (by simp only [impl_total.l0, if_neg (Int.lt_irrefl _)]; exact Ev.now _))
  (fun i hi s r hs _ hr => Ev.succ (by
   have hb := h.2 _ (List.getElem_mem hi)
   simp only [impl_total.l0, if_pos (show (i : Int) < (l.length : Int) by omega), if_pos (show (0 : Int) ≤ (i : Int) by omega), rdn hi, wsucc hi (by omega), w64 (x := s + l[i]) (by omega) (by omega)]
   exact hr))
  (fun i hi s hs => by
   have hb := h.2 _ (List.getElem_mem hi)
   omega) l.length 0 0 (by omega) (by omega)
 rw [List.drop_zero, foldl_add, Int.zero_add] at h
 exact h
def fitB (a b : List Int) : Bool := if (a.length : Int) = (b.length : Int) then (a.sum == b.sum) else false
theorem fitB_iff (a b : List Int) : fitB a b = true ↔ a.length = b.length ∧ a.sum = b.sum := by
 unfold fitB
 by_cases h : (a.length : Int) = (b.length : Int)
 · rw [if_pos h, beq_iff_eq]
   exact ⟨fun h' => ⟨by omega, h'⟩, fun h' => h'.2⟩
 · rw [if_neg h]
   exact ⟨fun h' => absurd h' (by decide), fun h' => absurd h'.1 (by omega)⟩
theorem liFit_ev (a b : List Int) (ha : Sm a) (hb : Sm b) : Ev (fun k => spec_liFit.f k a b) (fitB a b) := by
 unfold spec_liFit.f fitB
 exact Ev.ite (fun _ => Ev.bind (liSum_ev a ha) (Ev.bind (liSum_ev b hb) (Ev.now _))) (fun _ => Ev.now _)
theorem doFit_ev (a b : List Int) (ha : Sm a) (hb : Sm b) : Ev (fun k => impl_doFit.f k a b) (fitB a b) := by
 unfold impl_doFit.f fitB
 exact Ev.ite (fun _ => Ev.bind (total_ev a ha) (Ev.bind (total_ev b hb) (Ev.now _))) (fun _ => Ev.now _)
theorem areLists_ev (a b : List Int) (ha : a.length ≤ 1048576) (hb : b.length ≤ 1048576) : Ev (fun k => impl_areLists.f k a b) (if goodL a = true then goodL b else false) := by
 unfold impl_areLists.f
 exact Ev.bind (implIsList_ev a (by omega)) (Ev.ite (fun _ => Ev.bind (implIsList_ev b (by omega)) (Ev.now _)) (fun _ => Ev.now _))
end Go.Proofs.Ytmfpgimblifleaa.A

namespace Go.Proofs.Ytmfpgimblifleaa.A
open Go.RowKit Go.Proofs.YtmfpgimblifleaaW.PrintWords Go.Proofs.YtmfpgimblifleaaW.PrintLast Go.Proofs.YtmfpgimblifleaaW.PrintMore
set_option linter.unusedVariables false
set_option linter.unusedSimpArgs false
def overL : Int → List Int → List Int → Int
 | i, x :: xs, y :: ys => if x > y then i + 1 else overL (i + 1) xs ys
 | _, _, _ => 0
theorem liOver_l (p q : List Int) (h : p.length ≤ q.length) (hp : p.length ≤ 1000000) : ∀ (n i : Nat), i + n = p.length → Ev (fun k => spec_liOver.l0 k p q (p.length : Int) (i : Int)) (overL (i : Int) (p.drop i) (q.drop i))
 | 0, i, hi => by
  refine Ev.succ ?_
  simp only [spec_liOver.l0, if_neg (show ¬ (i : Int) < (p.length : Int) by omega)]
  rw [List.drop_eq_nil_of_le (by omega), overL]
  exact Ev.now _
  simp
 | n + 1, i, hi => by
  have h1 : i < p.length := by omega
  have h2 : i < q.length := by omega
  refine Ev.succ ?_
  simp only [spec_liOver.l0, if_pos (show (i : Int) < (p.length : Int) by omega), if_pos (show (i : Int) < (q.length : Int) by omega), if_pos (show (0 : Int) ≤ (i : Int) by omega), rdn h1, rdn h2, wsucc h1 (by omega)]
  rw [List.drop_eq_getElem_cons h1, List.drop_eq_getElem_cons h2, overL]
  refine Ev.ite (fun _ => ?_) (fun _ => ?_)
  · rw [show ((i : Int) + 1) = ((i + 1 : Nat) : Int) by omega]
    exact Ev.now _
  · rw [show ((i : Int) + 1) = ((i + 1 : Nat) : Int) by omega]
    exact liOver_l p q h hp n (i + 1) (by omega)
theorem refused_l (p q : List Int) (h : p.length ≤ q.length) (hp : p.length ≤ 1000000) : ∀ (n i : Nat), i + n = p.length → Ev (fun k => impl_refused.l0 k q p (p.length : Int) (i : Int)) (overL (i : Int) (p.drop i) (q.drop i))
 | 0, i, hi => by
  refine Ev.succ ?_
  simp only [impl_refused.l0, if_neg (show ¬ (i : Int) < (p.length : Int) by omega)]
  rw [List.drop_eq_nil_of_le (by omega), overL]
  exact Ev.now _
  simp
 | n + 1, i, hi => by
  have h1 : i < p.length := by omega
  have h2 : i < q.length := by omega
  refine Ev.succ ?_
  simp only [impl_refused.l0, if_pos (show (i : Int) < (p.length : Int) by omega), if_pos (show (i : Int) < (q.length : Int) by omega), if_pos (show (0 : Int) ≤ (i : Int) by omega), rdn h1, rdn h2, wsucc h1 (by omega)]
  rw [List.drop_eq_getElem_cons h1, List.drop_eq_getElem_cons h2, overL]
  refine Ev.ite (fun _ => ?_) (fun _ => ?_)
  · rw [show ((i : Int) + 1) = ((i + 1 : Nat) : Int) by omega]
    exact Ev.now _
  · rw [show ((i : Int) + 1) = ((i + 1 : Nat) : Int) by omega]
    exact refused_l p q h hp n (i + 1) (by omega)
def overR (a b : List Int) : Int := overL 0 (partL a) (partL b)
theorem liOver_ev (a b : List Int) (ha : Sm a) (hb : Sm b) (h : a.length ≤ b.length) : Ev (fun k => spec_liOver.f k a b) (overR a b) := by
 unfold spec_liOver.f
 exact Ev.bind (liPartial_ev a ha) (Ev.bind (liPartial_ev b hb) (liOver_l _ _ (by rw [partL_length, partL_length]; exact h) (by rw [partL_length]; have := ha.1; omega) (partL a).length 0 (by omega)))
theorem refused_ev (a b : List Int) (ha : Sm a) (hb : Sm b) (h : a.length ≤ b.length) : Ev (fun k => impl_refused.f k a b) (overR a b) := by
 unfold impl_refused.f
 exact Ev.bind (partial_ev b hb) (Ev.bind (partial_ev a ha) (refused_l _ _ (by rw [partL_length, partL_length]; exact h) (by rw [partL_length]; have := ha.1; omega) (partL a).length 0 (by omega)))
theorem overL_zero : ∀ (p q : List Int) (i : Int), 0 ≤ i → (overL i p q = 0 ↔ ∀ (j : Nat) (h1 : j < p.length) (h2 : j < q.length), p[j] ≤ q[j])
 | [], q, i, _ => by simp [overL]
 | x :: p, [], i, _ => by simp [overL]
 | x :: p, y :: q, i, h => by
  unfold overL
  by_cases c : x > y
  · rw [if_pos c]
    refine ⟨fun h' => by omega, fun h' => ?_⟩
    have := h' 0 (by simp) (by simp)
    simp only [List.getElem_cons_zero] at this
    omega
  · rw [if_neg c, overL_zero p q (i + 1) (by omega)]
    constructor
    · intro h' j h1 h2
      cases j with
      | zero => simp only [List.getElem_cons_zero]; omega
      | succ j =>
       rw [List.getElem_cons_succ, List.getElem_cons_succ]
       exact h' j (by rw [List.length_cons] at h1; omega) (by rw [List.length_cons] at h2; omega)
    · intro h' j h1 h2
      have h3 := h' (j + 1) (by rw [List.length_cons]; omega) (by rw [List.length_cons]; omega)
      rw [List.getElem_cons_succ, List.getElem_cons_succ] at h3
      exact h3
def majB (a b : List Int) : Bool := if fitB a b = true then (overR a b == 0) else false
theorem liBelow_ev (a b : List Int) (ha : Sm a) (hb : Sm b) : Ev (fun k => spec_liBelow.f k a b) (majB a b) := by
 unfold spec_liBelow.f majB
 exact Ev.bind (liFit_ev a b ha hb) (Ev.ite (fun h => Ev.bind (liOver_ev a b ha hb (by have := (fitB_iff a b).1 h; omega)) (Ev.now _)) (fun _ => Ev.now _))
theorem isMajorized_ev (a b : List Int) (ha : Sm a) (hb : Sm b) : Ev (fun k => impl_isMajorized.f k a b) (majB a b) := by
 unfold impl_isMajorized.f majB
 exact Ev.bind (doFit_ev a b ha hb) (Ev.ite (fun h => Ev.bind (refused_ev a b ha hb (by have := (fitB_iff a b).1 h; omega)) (Ev.now _)) (fun _ => Ev.now _))
theorem majB_iff (a b : List Int) : majB a b = true ↔ a.length = b.length ∧ a.sum = b.sum ∧ ∀ (j : Nat) (h1 : j < (partL a).length) (h2 : j < (partL b).length), (partL a)[j] ≤ (partL b)[j] := by
 unfold majB overR
 by_cases h : fitB a b = true
 · rw [if_pos h, beq_iff_eq, overL_zero _ _ _ (Int.le_refl _)]
   have := (fitB_iff a b).1 h
   simp only [this, true_and]
 · rw [if_neg h]
   rw [fitB_iff] at h
   constructor
   · intro h'
     exact absurd h' (by decide)
   · intro h'
     exact absurd ⟨h'.1, h'.2.1⟩ h
end Go.Proofs.Ytmfpgimblifleaa.A

namespace Go.Proofs.Ytmfpgimblifleaa.A
open Go.RowKit Go.Proofs.YtmfpgimblifleaaW.PrintWords Go.Proofs.YtmfpgimblifleaaW.PrintLast Go.Proofs.YtmfpgimblifleaaW.PrintMore
set_option linter.unusedVariables false
set_option linter.unusedSimpArgs false
def pre (x : List Int) (m : Nat) : Int := (x.take m).sum
theorem pre_zero (x : List Int) : pre x 0 = 0 := rfl
theorem pre_succ {x : List Int} {m : Nat} (h : m < x.length) : pre x (m + 1) = pre x m + rd x (m : Int) := by
 unfold pre
 rw [List.take_succ_eq_append_getElem h, List.sum_append, rdn h, List.sum_cons, List.sum_nil, Int.add_zero]
theorem pre_all {x : List Int} {m : Nat} (h : x.length ≤ m) : pre x m = x.sum := by
 unfold pre
 rw [List.take_of_length_le h]
theorem psums_get : ∀ (l : List Int) (s : Int) (j : Nat) (h : j < (psums s l).length), (psums s l)[j] = s + pre l (j + 1)
 | [], s, j, h => by simp [psums] at h
 | x :: l, s, 0, h => by simp [psums, pre]
 | x :: l, s, j + 1, h => by
  have h' : j < (psums (s + x) l).length := by
   rw [psums, List.length_cons] at h
   omega
  have := psums_get l (s + x) j h'
  simp only [psums, List.getElem_cons_succ]
  rw [this]
  simp only [pre, List.take_succ_cons, List.sum_cons]
  omega
/-- Every partial sum of t is at most that of x; the sums are one. -/
def Dom (x t : List Int) : Prop := x.length = t.length ∧ x.sum = t.sum ∧ ∀ m, pre t m ≤ pre x m
theorem majB_dom (a b : List Int) : majB a b = true ↔ Dom (descL b) (descL a) := by
 rw [majB_iff]
 unfold Dom
 rw [descL_length, descL_length, descL_sum, descL_sum]
 constructor
 · rintro ⟨h1, h2, h3⟩
   refine ⟨h1.symm, h2.symm, fun m => ?_⟩
   cases m with
   | zero => rw [pre_zero, pre_zero]; exact Int.le_refl _
   | succ m =>
    by_cases hm : m < a.length
    · have h := h3 m (by rw [partL_length]; exact hm) (by rw [partL_length]; omega)
      unfold partL at h
      rw [psums_get, psums_get] at h
      omega
    · rw [pre_all (by rw [descL_length]; omega), pre_all (by rw [descL_length]; omega), descL_sum, descL_sum]
      omega
 · rintro ⟨h1, h2, h3⟩
   refine ⟨h1.symm, h2.symm, fun j q1 q2 => ?_⟩
   have e1 : (partL a)[j] = 0 + pre (descL a) (j + 1) := psums_get _ _ _ q1
   have e2 : (partL b)[j] = 0 + pre (descL b) (j + 1) := psums_get _ _ _ q2
   have := h3 (j + 1)
   omega
theorem ext_rd {x t : List Int} (hl : x.length = t.length) (h : ∀ k : Nat, k < x.length → rd x (k : Int) = rd t (k : Int)) : x = t := by
 refine List.ext_getElem hl fun k h1 h2 => ?_
 have := h k h1
 rw [rdn h1, rdn h2] at this
 exact this
theorem desc_rd {x : List Int} (h : Desc x) {a b : Nat} (hab : a ≤ b) (hb : b < x.length) : rd x (b : Int) ≤ rd x (a : Int) := by
 rw [rdn hb, rdn (show a < x.length by omega)]
 rcases Nat.lt_or_ge a b with hlt | hge
 · unfold Desc at h
   exact List.pairwise_iff_getElem.1 h a b (by omega) hb hlt
 · have : a = b := by omega
   subst this
   exact Int.le_refl _
theorem least_lt (P : Nat → Prop) (n : Nat) : (∃ k, k < n ∧ P k) → ∃ j, j < n ∧ P j ∧ ∀ k, k < j → ¬ P k := by
 induction n with
 | zero => rintro ⟨k, hk, _⟩; omega
 | succ n ih =>
  rintro ⟨k, hk, hp⟩
  by_cases h : ∃ k, k < n ∧ P k
  · obtain ⟨j, h1, h2, h3⟩ := ih h
    exact ⟨j, by omega, h2, h3⟩
  · refine ⟨k, hk, hp, fun q hq hpq => h ⟨q, by omega, hpq⟩⟩
theorem last_lt (P : Nat → Prop) (n : Nat) : (∃ k, k < n ∧ P k) → ∃ j, j < n ∧ P j ∧ ∀ k, j < k → k < n → ¬ P k := by
 induction n with
 | zero => rintro ⟨k, hk, _⟩; omega
 | succ n ih =>
  rintro ⟨k, hk, hp⟩
  by_cases h : P n
  · exact ⟨n, by omega, h, fun q h1 h2 => by omega⟩
  · have hk' : k < n := by
     rcases Nat.lt_or_ge k n with h' | h'
     · exact h'
     · have : k = n := by omega
       subst this
       exact absurd hp h
    obtain ⟨j, h1, h2, h3⟩ := ih ⟨k, hk', hp⟩
    refine ⟨j, by omega, h2, fun q hq hq2 => ?_⟩
    rcases Nat.lt_or_ge q n with h' | h'
    · exact h3 q hq h'
    · have : q = n := by omega
      subst this
      exact h
theorem pre_le {x t : List Int} (hl : x.length = t.length) : ∀ m : Nat, m ≤ x.length → (∀ k : Nat, k < m → rd x (k : Int) ≤ rd t (k : Int)) → pre x m ≤ pre t m
 | 0, _, _ => by rw [pre_zero, pre_zero]; exact Int.le_refl _
 | m + 1, hm, h => by
  have ih := pre_le hl m (by omega) (fun k hk => h k (by omega))
  have := h m (by omega)
  rw [pre_succ (by omega), pre_succ (by omega)]
  omega
theorem pre_lt {x t : List Int} (hl : x.length = t.length) : ∀ m : Nat, m ≤ x.length → (∀ k : Nat, k < m → rd x (k : Int) ≤ rd t (k : Int)) → (∃ k : Nat, k < m ∧ rd x (k : Int) < rd t (k : Int)) → pre x m < pre t m
 | 0, _, _, ⟨k, hk, _⟩ => by omega
 | m + 1, hm, h, ⟨k, hk, hk2⟩ => by
  have h2 := h m (by omega)
  rw [pre_succ (by omega), pre_succ (by omega)]
  rcases Nat.lt_or_ge k m with hlt | hge
  · have := pre_lt hl m (by omega) (fun k hk => h k (by omega)) ⟨k, hlt, hk2⟩
    omega
  · have : k = m := by omega
    subst this
    have := pre_le hl k (by omega) (fun k hk => h k (by omega))
    omega
theorem giveL_length (l : List Int) (f t a : Int) : (giveL l f t a).length = l.length := by
 unfold giveL
 rw [List.length_set, List.length_set]
theorem giveL_rd (l : List Int) (i j : Nat) (a : Int) (hi : i < l.length) (hj : j < l.length) (hij : i ≠ j) (k : Nat) : rd (giveL l (i : Int) (j : Int) a) (k : Int) = if k = j then rd l (j : Int) + a else if k = i then rd l (i : Int) - a else rd l (k : Int) := by
 unfold giveL
 by_cases h1 : k = j
 · subst h1
   rw [if_pos rfl, rd_set_self _ (by omega) (by rw [List.length_set]; omega)]
 · rw [if_neg h1, rd_set_ne _ (by omega) (by omega) (by omega)]
   by_cases h2 : k = i
   · subst h2
     rw [if_pos rfl, rd_set_self _ (by omega) (by omega)]
   · rw [if_neg h2, rd_set_ne _ (by omega) (by omega) (by omega)]
theorem giveL_pre (l : List Int) (i j : Nat) (a : Int) (hi : i < l.length) (hj : j < l.length) (hij : i ≠ j) : ∀ m : Nat, m ≤ l.length → pre (giveL l (i : Int) (j : Int) a) m = pre l m - (if i < m then a else 0) + (if j < m then a else 0)
 | 0, _ => by rw [pre_zero, pre_zero, if_neg (by omega), if_neg (by omega)]; omega
 | m + 1, h => by
  rw [pre_succ (by rw [giveL_length]; omega), pre_succ (by omega), giveL_pre l i j a hi hj hij m (by omega), giveL_rd l i j a hi hj hij m]
  by_cases h1 : m = j
  · subst h1
    rw [if_pos rfl, if_neg (show ¬ m < m by omega), if_pos (show m < m + 1 by omega)]
    by_cases h3 : i < m
    · rw [if_pos h3, if_pos (by omega)]; omega
    · rw [if_neg h3, if_neg (by omega)]; omega
  · rw [if_neg h1]
    by_cases h2 : m = i
    · subst h2
      rw [if_pos rfl, if_neg (show ¬ m < m by omega), if_pos (show m < m + 1 by omega)]
      by_cases h3 : j < m
      · rw [if_pos h3, if_pos (by omega)]; omega
      · rw [if_neg h3, if_neg (by omega)]; omega
    · rw [if_neg h2]
      have e1 : i < m + 1 ↔ i < m := by omega
      have e2 : j < m + 1 ↔ j < m := by omega
      simp only [e1, e2]
      omega
theorem giveL_sum (l : List Int) (i j : Nat) (a : Int) (hi : i < l.length) (hj : j < l.length) (hij : i ≠ j) : (giveL l (i : Int) (j : Int) a).sum = l.sum := by
 have h := giveL_pre l i j a hi hj hij l.length (Nat.le_refl _)
 rw [pre_all (by rw [giveL_length]; omega), pre_all (Nat.le_refl _), if_pos hi, if_pos hj] at h
 omega
end Go.Proofs.Ytmfpgimblifleaa.A

namespace Go.Proofs.Ytmfpgimblifleaa.A
open Go.RowKit Go.Proofs.YtmfpgimblifleaaW.PrintWords Go.Proofs.YtmfpgimblifleaaW.PrintLast Go.Proofs.YtmfpgimblifleaaW.PrintMore
set_option linter.unusedVariables false
set_option linter.unusedSimpArgs false
/-! TableFor's gifts: the last place that has too much, the first one behind it that has too little -/
structure Nt (x y : List Int) (i j : Nat) : Prop where
 lt : i < j
 hj : j < x.length
 xi : rd y (i : Int) < rd x (i : Int)
 xj : rd x (j : Int) < rd y (j : Int)
 aft : ∀ k, i < k → k < x.length → rd x (k : Int) ≤ rd y (k : Int)
 bef : ∀ k, i < k → k < j → rd x (k : Int) = rd y (k : Int)
theorem nt_exists {x y : List Int} (hd : Dom x y) (hne : x ≠ y) : ∃ i j, Nt x y i j := by
 obtain ⟨hl, hs, hp⟩ := hd
 have h0 : ∃ k, k < x.length ∧ rd y (k : Int) < rd x (k : Int) := by
  apply Classical.byContradiction
  intro hc
  have hle : ∀ k : Nat, k < x.length → rd x (k : Int) ≤ rd y (k : Int) := fun k hk => by
   by_cases c : rd y (k : Int) < rd x (k : Int)
   · exact absurd ⟨k, hk, c⟩ hc
   · omega
  by_cases c : ∃ k : Nat, k < x.length ∧ rd x (k : Int) < rd y (k : Int)
  · have := pre_lt hl x.length (Nat.le_refl _) hle c
    have := hp x.length
    omega
  · exact hne (ext_rd hl fun k hk => by
     have := hle k hk
     by_cases c2 : rd x (k : Int) < rd y (k : Int)
     · exact absurd ⟨k, hk, c2⟩ c
     · omega)
 obtain ⟨i, hi, hxi, hlast⟩ := last_lt (fun k => rd y (k : Int) < rd x (k : Int)) x.length h0
 have haft : ∀ k, i < k → k < x.length → rd x (k : Int) ≤ rd y (k : Int) := fun k h1 h2 => by have := hlast k h1 h2; omega
 have h1 : ∃ k, k < x.length ∧ (i < k ∧ rd x (k : Int) < rd y (k : Int)) := by
  apply Classical.byContradiction
  intro hc
  have heq : ∀ k, i < k → k < x.length → rd x (k : Int) = rd y (k : Int) := fun k a b => by
   have := haft k a b
   by_cases c : rd x (k : Int) < rd y (k : Int)
   · exact absurd ⟨k, b, a, c⟩ hc
   · omega
  have hpre : ∀ m, i < m → m ≤ x.length → pre y m < pre x m := fun m => by
   induction m with
   | zero => intro h; omega
   | succ m ih =>
    intro a b
    rw [pre_succ (by omega), pre_succ (by omega)]
    rcases Nat.lt_or_ge i m with hlt | hge
    · have := ih hlt (by omega)
      have := heq m hlt (by omega)
      omega
    · obtain rfl : m = i := by omega
      have := hp m
      omega
  have := hpre x.length hi (Nat.le_refl _)
  rw [pre_all (by omega), pre_all (Nat.le_refl _)] at this
  omega
 obtain ⟨j, hj, ⟨hij, hxj⟩, hfirst⟩ := least_lt (fun k => i < k ∧ rd x (k : Int) < rd y (k : Int)) x.length h1
 refine ⟨i, j, hij, hj, hxi, hxj, haft, fun k a b => ?_⟩
 have := haft k a (by omega)
 have := hfirst k b
 omega
def ntA (x y : List Int) (i j : Nat) : Int := min (rd x (i : Int) - rd y (i : Int)) (rd y (j : Int) - rd x (j : Int))
theorem ntA_le {x y : List Int} {i j : Nat} (g : Nt x y i j) : 1 ≤ ntA x y i j ∧ ntA x y i j ≤ rd x (i : Int) - rd y (i : Int) ∧ ntA x y i j ≤ rd y (j : Int) - rd x (j : Int) := by
 have := g.xi
 have := g.xj
 unfold ntA
 omega
theorem nt_dom {x y : List Int} {i j : Nat} (hd : Dom x y) (g : Nt x y i j) : Dom (giveL x (i : Int) (j : Int) (ntA x y i j)) y := by
 obtain ⟨hl, hs, hp⟩ := hd
 have h1 := g.lt
 have h2 := g.hj
 have hA := ntA_le g
 generalize ntA x y i j = a at *
 have key : ∀ m : Nat, i < m → m ≤ j → pre y m + a ≤ pre x m := fun m => by
  induction m with
  | zero => intro h; omega
  | succ m ih =>
   intro u v
   rw [pre_succ (by omega), pre_succ (by omega)]
   rcases Nat.lt_or_ge i m with hlt | hge
   · have := ih hlt (by omega)
     have := g.bef m hlt (by omega)
     omega
   · obtain rfl : m = i := by omega
     have := hp m
     omega
 refine ⟨by rw [giveL_length]; exact hl, by rw [giveL_sum x i j a (by omega) h2 (by omega)]; exact hs, fun m => ?_⟩
 rcases Nat.lt_or_ge x.length m with hm | hm
 · rw [pre_all (by omega), pre_all (by rw [giveL_length]; omega), giveL_sum x i j a (by omega) h2 (by omega)]
   omega
 · rw [giveL_pre x i j a (by omega) h2 (by omega) m hm]
   have := hp m
   by_cases c1 : i < m
   · by_cases c2 : j < m
     · rw [if_pos c1, if_pos c2]; omega
     · rw [if_pos c1, if_neg c2]
       have := key m c1 (by omega)
       omega
   · rw [if_neg c1, if_neg (by omega)]; omega
theorem nt_bd {x y : List Int} {i j : Nat} (hl : x.length = y.length) (g : Nt x y i j) (hx : ∀ k : Nat, k < x.length → 0 ≤ rd x (k : Int) ∧ rd x (k : Int) ≤ 60) (hy : ∀ k : Nat, k < x.length → 0 ≤ rd y (k : Int) ∧ rd y (k : Int) ≤ 60) : ∀ k : Nat, k < x.length → 0 ≤ rd (giveL x (i : Int) (j : Int) (ntA x y i j)) (k : Int) ∧ rd (giveL x (i : Int) (j : Int) (ntA x y i j)) (k : Int) ≤ 60 := fun k hk => by
 have h1 := g.lt
 have h2 := g.hj
 have hA := ntA_le g
 rw [giveL_rd x i j _ (by omega) h2 (by omega)]
 have a1 := hx i (by omega)
 have a2 := hx j h2
 have a3 := hy i (by omega)
 have a4 := hy j h2
 have a5 := hx k hk
 split
 · omega
 · split
   · omega
   · exact a5
theorem nt_gap {x y : List Int} {i j : Nat} (hl : x.length = y.length) (hy : Desc y) (g : Nt x y i j) : 2 * ntA x y i j ≤ rd x (i : Int) - rd x (j : Int) := by
 have h1 := g.lt
 have h2 := g.hj
 have hA := ntA_le g
 have := desc_rd hy (a := i) (b := j) (by omega) (by omega)
 omega
/-- how many places are unlike -/
def unl (x y : List Int) : Nat := (List.range x.length).countP fun (k : Nat) => decide (rd x (k : Int) ≠ rd y (k : Int))
theorem cnt_lt {p q : Nat → Bool} (h : ∀ k, q k = true → p k = true) : ∀ (l : List Nat), (∃ k ∈ l, p k = true ∧ q k = false) → l.countP q < l.countP p
 | [], ⟨k, hk, _⟩ => by simp at hk
 | a :: l, ⟨k, hk, h1, h2⟩ => by
  rw [List.countP_cons, List.countP_cons]
  have hle : l.countP q ≤ l.countP p := List.countP_mono_left fun x _ => h x
  rcases List.mem_cons.1 hk with rfl | hk
  · rw [h1, h2]
    simp
    omega
  · have ih := cnt_lt h l ⟨k, hk, h1, h2⟩
    by_cases c : q a = true
    · rw [if_pos c, if_pos (h a c)]
      omega
    · rw [if_neg c]
      omega
theorem cnt_two {p : Nat → Bool} {n i j : Nat} (hij : i < j) (hj : j < n) (h1 : p i = true) (h2 : p j = true) : 2 ≤ (List.range n).countP p := by
 have a1 := cnt_lt (p := fun k => decide (k = i)) (q := fun _ => false) (fun k h => by cases h) (List.range n) ⟨i, List.mem_range.2 (by omega), decide_eq_true rfl, rfl⟩
 have a2 := cnt_lt (p := p) (q := fun k => decide (k = i)) (fun k h => by rw [of_decide_eq_true h]; exact h1) (List.range n) ⟨j, List.mem_range.2 hj, h2, decide_eq_false (by omega)⟩
 omega
theorem nt_unl2 {x y : List Int} {i j : Nat} (g : Nt x y i j) : 2 ≤ unl x y := by
 have := g.xi
 have := g.xj
 exact cnt_two g.lt g.hj (decide_eq_true (by omega)) (decide_eq_true (by omega))
theorem nt_unl {x y : List Int} {i j : Nat} (g : Nt x y i j) : unl (giveL x (i : Int) (j : Int) (ntA x y i j)) y < unl x y := by
 have h1 := g.lt
 have h2 := g.hj
 have h3 := g.xi
 have h4 := g.xj
 have hA := ntA_le g
 have hr := giveL_rd x i j (ntA x y i j) (by omega) h2 (by omega)
 unfold unl
 rw [giveL_length]
 refine cnt_lt (fun k hk => ?_) _ ?_
 · have hk := of_decide_eq_true hk
   rw [hr] at hk
   apply decide_eq_true
   split at hk
   next c => subst c; omega
   next c =>
    split at hk
    next d => subst d; omega
    next d => exact hk
 · have hm : ntA x y i j = rd x (i : Int) - rd y (i : Int) ∨ ntA x y i j = rd y (j : Int) - rd x (j : Int) := by
    unfold ntA
    omega
   rcases hm with hm | hm
   · refine ⟨i, List.mem_range.2 (by omega), decide_eq_true (by omega), decide_eq_false ?_⟩
     rw [hr, if_neg (by omega), if_pos rfl]
     omega
   · refine ⟨j, List.mem_range.2 h2, decide_eq_true (by omega), decide_eq_false ?_⟩
     rw [hr, if_pos rfl]
     omega
end Go.Proofs.Ytmfpgimblifleaa.A

namespace Go.Proofs.Ytmfpgimblifleaa.A
open Go.RowKit Go.Proofs.YtmfpgimblifleaaW.PrintWords Go.Proofs.YtmfpgimblifleaaW.PrintLast Go.Proofs.YtmfpgimblifleaaW.PrintMore
set_option linter.unusedVariables false
set_option linter.unusedSimpArgs false
/-! GiftTable -/
def gtG (i j : Nat) (s k : Int) (a b : Nat) : Int := if a = b then (if a = i then s - k else if a = j then s - k else s) else if a = i then (if b = j then k else 0) else if a = j then (if b = i then k else 0) else 0
theorem doGift_l (n i j : Nat) (s k : Int) (hn : n ≤ 6) (hij : i < j) (hj : j < n) (hs : 1 ≤ s ∧ s ≤ 1000) (hk : 0 ≤ k ∧ k ≤ s) : ∀ (m x : Nat), x + m = n → Ev (fun q => spec_doGift.l0 q (n : Int) (i : Int) (j : Int) s k (tabG n fun a b => if a = b ∧ a < x then s else 0) (x : Int)) (tabG n (gtG i j s k))
 | 0, x, e => by
  have hxe : x = n := by omega
  subst hxe
  refine Ev.succ ?_
  have hi : i < x := by omega
  simp only [spec_doGift.l0, if_neg (show ¬ (x : Int) < (x : Int) by omega), if_pos (show (0 : Int) ≤ (i : Int) by omega), if_pos (show (0 : Int) ≤ (j : Int) by omega), tabG_length, if_pos (show (i : Int) < (x : Int) by omega), if_pos (show (j : Int) < (x : Int) by omega), tabG_rowlen _ hi, tabG_rowlen _ hj, Int.toNat_natCast, w64 (x := s - k) (by omega) (by omega), tabG_set _ _ _ hi, tabG_set _ _ _ hj, Option.bind_some]
  have e : tabG x (updG (updG (updG (updG (fun a b => if a = b ∧ a < x then s else 0) i i (s - k)) j j (s - k)) i j k) j i k) = tabG x (gtG i j s k) := tabG_congr (fun a b ha hb => by
   unfold updG gtG
   by_cases c1 : a = b
   · subst c1
     by_cases c2 : a = i
     · subst c2
       simp [show ¬ a = j by omega]
     · by_cases c3 : a = j
       · subst c3
         simp [c2]
       · simp [c2, c3, ha]
   · by_cases c2 : a = i
     · subst c2
       by_cases c3 : b = j
       · subst c3
         simp [c1, show ¬ a = b by omega]
       · simp [c1, c3, show ¬ a = j by omega, show ¬ b = a by omega]
     · by_cases c3 : a = j
       · subst c3
         by_cases c4 : b = i
         · subst c4
           simp [c1, c2]
         · simp [c1, c2, c4, show ¬ b = a from fun h => c1 h.symm]
       · simp [c1, c2, c3])
  rw [e]
  exact Ev.now _
 | m + 1, x, e => by
  have hx : x < n := by omega
  refine Ev.succ ?_
  simp only [spec_doGift.l0, if_pos (show (x : Int) < (n : Int) by omega), if_pos (show (0 : Int) ≤ (x : Int) by omega), tabG_length, tabG_rowlen _ hx, Int.toNat_natCast, tabG_set _ _ _ hx, wsucc hx (by omega)]
  have := doGift_l n i j s k hn hij hj hs hk m (x + 1) (by omega)
  rw [tabG_congr (G' := fun a b => if a = b ∧ a < x + 1 then s else 0) (fun a b ha hb => by
   unfold updG
   by_cases c : a = x ∧ b = x
   · rw [if_pos c, if_pos (by omega)]
   · rw [if_neg c]
     show (if a = b ∧ a < x then s else 0) = _
     by_cases d : a = b ∧ a < x
     · rw [if_pos d, if_pos (by omega)]
     · rw [if_neg d, if_neg (by omega)])]
  exact this
end Go.Proofs.Ytmfpgimblifleaa.A

namespace Go.Proofs.Ytmfpgimblifleaa.A
open Go.RowKit Go.Proofs.YtmfpgimblifleaaW.PrintWords Go.Proofs.YtmfpgimblifleaaW.PrintLast Go.Proofs.YtmfpgimblifleaaW.PrintMore
set_option linter.unusedVariables false
set_option linter.unusedSimpArgs false
/-! square, doEmpty: what they make -/
theorem square_l1 (F : Int → Int → Option Int) (G : Nat → Nat → Int) (n : Nat) (hn : n ≤ 1000) (hF : ∀ i j, i < n → j < n → F (i : Int) (j : Int) = some (G i j)) (i : Nat) (hi : i < n) (X : List (List Int)) {r : List (List Int)} (hr : Ev (fun k => if X.length < 5864062014805 then impl_square.l0 F k (n : Int) (X ++ [(List.range n).map fun j => G i j]) (n : Int) ((i + 1 : Nat) : Int) else none) r) : ∀ (m j : Nat), j + m = n → Ev (fun k => impl_square.l1 F k (n : Int) X (i : Int) ((List.range j).map fun j => G i j) (n : Int) (i : Int) (n : Int) (j : Int)) r
 | 0, j, e => by
  have ej : j = n := by omega
  subst ej
  refine Ev.succ ?_
  simp only [impl_square.l1, if_neg (show ¬ (j : Int) < (j : Int) by omega), wsucc hi (by omega)]
  exact hr
 | m + 1, j, e => by
  refine Ev.succ ?_
  have hj : j < n := by omega
  simp only [impl_square.l1, if_pos (show (j : Int) < (n : Int) by omega), hF i j hi hj, Option.bind_some, List.length_map, List.length_range, if_pos (show j < 17592186044416 by omega), wsucc hj (by omega)]
  have := square_l1 F G n hn hF i hi X hr m (j + 1) (by omega)
  rw [List.range_succ, List.map_append] at this
  exact this
theorem square_l0 (F : Int → Int → Option Int) (G : Nat → Nat → Int) (n : Nat) (hn : n ≤ 1000) (hF : ∀ i j, i < n → j < n → F (i : Int) (j : Int) = some (G i j)) : ∀ (m i : Nat), i + m = n → Ev (fun k => impl_square.l0 F k (n : Int) ((List.range i).map fun i => (List.range n).map fun j => G i j) (n : Int) (i : Int)) (tabG n G)
 | 0, i, e => by
  have ei : i = n := by omega
  subst ei
  refine Ev.succ ?_
  simp only [impl_square.l0, if_neg (show ¬ (i : Int) < (i : Int) by omega)]
  exact Ev.now _
 | m + 1, i, e => by
  refine Ev.succ ?_
  have hi : i < n := by omega
  simp only [impl_square.l0, if_pos (show (i : Int) < (n : Int) by omega)]
  refine square_l1 F G n hn hF i hi _ ?_ n 0 (by omega)
  simp only [List.length_map, List.length_range, if_pos (show i < 5864062014805 by omega)]
  have := square_l0 F G n hn hF m (i + 1) (by omega)
  rw [List.range_succ, List.map_append] at this
  exact this
theorem square_ev (F : Int → Int → Option Int) (G : Nat → Nat → Int) (n : Nat) (hn : n ≤ 1000) (hF : ∀ i j, i < n → j < n → F (i : Int) (j : Int) = some (G i j)) : Ev (fun k => impl_square.f F k (n : Int)) (tabG n G) := by
 unfold impl_square.f
 exact square_l0 F G n hn hF n 0 (by omega)
end Go.Proofs.Ytmfpgimblifleaa.A

namespace Go.Proofs.Ytmfpgimblifleaa.A
open Go.RowKit Go.Proofs.YtmfpgimblifleaaW.PrintWords Go.Proofs.YtmfpgimblifleaaW.PrintLast Go.Proofs.YtmfpgimblifleaaW.PrintMore
set_option linter.unusedVariables false
set_option linter.unusedSimpArgs false
/-! product, MultiplyTables -/
def dotN (l0 l1 : List (List Int)) (i j : Nat) : Nat → Int
 | 0 => 0
 | k + 1 => dotN l0 l1 i j k + atG l0 i k * atG l1 k j
theorem dotN_bd {l0 l1 : List (List Int)} (T0 : Tab l0) (T1 : Tab l1) (e : l1.length = l0.length) {i j : Nat} (hi : i < l0.length) (hj : j < l0.length) : ∀ k, k ≤ l0.length → 0 ≤ dotN l0 l1 i j k ∧ dotN l0 l1 i j k ≤ 1000000000000 * (k : Int)
 | 0, _ => by simp [dotN]
 | k + 1, h => by
  have ih := dotN_bd T0 T1 e hi hj k (by omega)
  have b0 := atG_bd T0 hi (show k < l0.length by omega)
  have b1 := atG_bd T1 (show k < l1.length by omega) (show j < l1.length by omega)
  have p0 := Int.mul_nonneg b0.1 b1.1
  have p1 : atG l0 i k * atG l1 k j ≤ 1000000 * 1000000 := Int.mul_le_mul b0.2 b1.2 b1.1 (by decide)
  unfold dotN
  omega
theorem prodG_bd {l0 l1 : List (List Int)} (T0 : Tab l0) (T1 : Tab l1) (e : l1.length = l0.length) {i j k : Nat} (hi : i < l0.length) (hj : j < l0.length) (hk : k < l0.length) : 0 ≤ atG l0 i k * atG l1 k j ∧ atG l0 i k * atG l1 k j ≤ 1000000000000 := by
 have b0 := atG_bd T0 hi hk
 have b1 := atG_bd T1 (show k < l1.length by omega) (show j < l1.length by omega)
 exact ⟨Int.mul_nonneg b0.1 b1.1, Int.mul_le_mul b0.2 b1.2 b1.1 (by decide)⟩
def timesT (l0 l1 : List (List Int)) : List (List Int) := tabG l0.length fun i j => dotN l0 l1 i j l0.length
theorem times_l2 {l0 l1 : List (List Int)} (T0 : Tab l0) (T1 : Tab l1) (e : l1.length = l0.length) {i j : Nat} (hi : i < l0.length) (hj : j < l0.length) (H : Nat → Nat → Int) {r : List (List Int)} (hr : Ev (fun q => spec_doTimes.l1 q l0 l1 (tabG l0.length (updG H i j (dotN l0 l1 i j l0.length))) (i : Int) (l0.length : Int) (i : Int) (l0.length : Int) ((j + 1 : Nat) : Int)) r) : ∀ (m k : Nat), k + m = l0.length → Ev (fun q => spec_doTimes.l2 q l0 l1 (tabG l0.length (updG H i j (dotN l0 l1 i j k))) (i : Int) (j : Int) (l0.length : Int) (i : Int) (l0.length : Int) (j : Int) (l0.length : Int) (k : Int)) r
 | 0, k, ek => by
  have ej : k = l0.length := by omega
  subst ej
  refine Ev.succ ?_
  have := T0.len
  simp only [spec_doTimes.l2, if_neg (Int.lt_irrefl _), wsucc hj (by omega)]
  exact hr
 | m + 1, k, ek => by
  have hk : k < l0.length := by omega
  have b0 := dotN_bd T0 T1 e hi hj k (by omega)
  have b1 := prodG_bd T0 T1 e hi hj hk
  have hl := T0.len
  refine Ev.succ ?_
  simp only [spec_doTimes.l2, if_pos (show (k : Int) < (l0.length : Int) by omega), if_pos (show (0 : Int) ≤ (i : Int) by omega), if_pos (show (0 : Int) ≤ (j : Int) by omega), if_pos (show (0 : Int) ≤ (k : Int) by omega), tabG_length, tabG_rowlen _ hi, tab_rowlen T0 hi, tab_rowlen T1 (show k < l1.length by omega), if_pos (show (i : Int) < (l0.length : Int) by omega), if_pos (show (j : Int) < (l0.length : Int) by omega), if_pos (show (k : Int) < (l1.length : Int) by omega), if_pos (show (j : Int) < (l1.length : Int) by omega), Int.toNat_natCast, tabG_set _ _ _ hi, tabG_at _ hi hj, wsucc hk (by omega)]
  have hv : wrap64 (updG H i j (dotN l0 l1 i j k) i j + wrap64 (rd (rd_L1 l0 (i : Int)) (k : Int) * rd (rd_L1 l1 (k : Int)) (j : Int))) = dotN l0 l1 i j (k + 1) := by
   have h1 : updG H i j (dotN l0 l1 i j k) i j = dotN l0 l1 i j k := if_pos ⟨rfl, rfl⟩
   rw [h1, show rd (rd_L1 l0 (i : Int)) (k : Int) * rd (rd_L1 l1 (k : Int)) (j : Int) = atG l0 i k * atG l1 k j from rfl, w64 (x := atG l0 i k * atG l1 k j) (by omega) (by omega), w64 (by omega) (by omega)]
   rfl
  rw [hv, tabG_congr (G' := updG H i j (dotN l0 l1 i j (k + 1))) (fun a b _ _ => by
   unfold updG
   by_cases c : a = i ∧ b = j
   · rw [if_pos c, if_pos c]
   · rw [if_neg c, if_neg c, if_neg c])]
  exact times_l2 T0 T1 e hi hj H hr m (k + 1) (by omega)
theorem doTimes_ev {l0 l1 : List (List Int)} (T0 : Tab l0) (T1 : Tab l1) (e : l1.length = l0.length) : Ev (fun k => spec_doTimes.f k l0 l1) (timesT l0 l1) := by
 have hl := T0.len
 unfold spec_doTimes.f
 refine Ev.bind (doEmpty_ev l0.length (by omega)) ?_
 refine fill_ev l0.length (fun i j => dotN l0 l1 i j l0.length) (fun k X i => spec_doTimes.l0 k l0 l1 X (l0.length : Int) i) (fun k X i j => spec_doTimes.l1 k l0 l1 X i (l0.length : Int) i (l0.length : Int) j) ?_ ?_ ?_ ?_
 · refine Ev.succ ?_
   simp only [spec_doTimes.l0, if_neg (Int.lt_irrefl _)]
   exact Ev.now _
 · intro i hi X hX
   refine Ev.succ ?_
   simp only [spec_doTimes.l0, if_pos (show (i : Int) < (l0.length : Int) by omega)]
   exact hX
 · intro i j hi hj H hz hX
   refine Ev.succ ?_
   simp only [spec_doTimes.l1, if_pos (show (j : Int) < (l0.length : Int) by omega)]
   have key := times_l2 T0 T1 e hi hj H hX l0.length 0 (by omega)
   rw [tabG_congr (G' := H) (fun a b _ _ => by
    unfold updG
    by_cases c : a = i ∧ b = j
    · rw [if_pos c, c.1, c.2, hz]
      rfl
    · rw [if_neg c])] at key
   exact key
 · intro i hi X hX
   refine Ev.succ ?_
   simp only [spec_doTimes.l1, if_neg (Int.lt_irrefl _), wsucc hi (by omega)]
   exact hX
theorem timesG_eq {l0 l1 : List (List Int)} (T0 : Tab l0) (T1 : Tab l1) (e : l1.length = l0.length) {i j : Nat} (hi : i < l0.length) (hj : j < l0.length) : ∀ (m k : Nat), k + m = l0.length → timesG l0 l1 (i : Int) (j : Int) m (k : Int) (dotN l0 l1 i j k) = some (dotN l0 l1 i j l0.length)
 | 0, k, ek => by
  have ej : k = l0.length := by omega
  subst ej
  rfl
 | m + 1, k, ek => by
  have hk : k < l0.length := by omega
  have b0 := dotN_bd T0 T1 e hi hj k (by omega)
  have b1 := prodG_bd T0 T1 e hi hj hk
  have hl := T0.len
  rw [timesG, if_pos (by rw [tab_rowlen T0 hi, tab_rowlen T1 (show k < l1.length by omega)]; omega), show rd (rd_L1 l0 (i : Int)) (k : Int) * rd (rd_L1 l1 (k : Int)) (j : Int) = atG l0 i k * atG l1 k j from rfl, w64 (x := atG l0 i k * atG l1 k j) (by omega) (by omega), w64 (by omega) (by omega)]
  exact timesG_eq T0 T1 e hi hj m (k + 1) (by omega)
theorem product_ev {l0 l1 : List (List Int)} (T0 : Tab l0) (T1 : Tab l1) (e : l1.length = l0.length) : Ev (fun k => impl_product.f k l0 l1) (timesT l0 l1) := by
 have hl := T0.len
 unfold impl_product.f
 simp only [if_pos (show l0.length ≤ 4611686018427387903 by omega)]
 refine square_ev _ (fun i j => dotN l0 l1 i j l0.length) l0.length (by omega) (fun i j hi hj => ?_)
 exact timesG_eq T0 T1 e hi hj l0.length 0 (by omega)
end Go.Proofs.Ytmfpgimblifleaa.A

namespace Go.Proofs.Ytmfpgimblifleaa.A
open Go.RowKit Go.Proofs.YtmfpgimblifleaaW.PrintWords Go.Proofs.YtmfpgimblifleaaW.PrintLast Go.Proofs.YtmfpgimblifleaaW.PrintMore
set_option linter.unusedVariables false
set_option linter.unusedSimpArgs false
/-! a gift's table times a table -/
theorem dot_gift (t : List (List Int)) (n i j : Nat) (s d : Int) (hij : i < j) (a b : Nat) (ha : a < n) : ∀ K : Nat, K ≤ n → dotN (tabG n (gtG i j s d)) t a b K = (if a < K then gtG i j s d a a * atG t a b else 0) + (if a = i ∧ j < K then d * atG t j b else 0) + (if a = j ∧ i < K then d * atG t i b else 0)
 | 0, _ => by simp [dotN]
 | K + 1, hK => by
  show dotN (tabG n (gtG i j s d)) t a b K + atG (tabG n (gtG i j s d)) a K * atG t K b = _
  rw [dot_gift t n i j s d hij a b ha K (by omega), atG_tab _ ha (by omega)]
  by_cases c : a = K
  · subst c
    rw [if_neg (Nat.lt_irrefl _), if_pos (Nat.lt_succ_self _)]
    by_cases c1 : a = i
    · rw [if_neg (show ¬ (a = i ∧ j < a) by omega), if_neg (show ¬ (a = j ∧ i < a) by omega), if_neg (show ¬ (a = i ∧ j < a + 1) by omega), if_neg (show ¬ (a = j ∧ i < a + 1) by omega)]
      omega
    · by_cases c2 : a = j
      · rw [if_neg (show ¬ (a = i ∧ j < a) by omega), if_pos (show (a = j ∧ i < a) by omega), if_neg (show ¬ (a = i ∧ j < a + 1) by omega), if_pos (show (a = j ∧ i < a + 1) by omega)]
        omega
      · rw [if_neg (show ¬ (a = i ∧ j < a) by omega), if_neg (show ¬ (a = j ∧ i < a) by omega), if_neg (show ¬ (a = i ∧ j < a + 1) by omega), if_neg (show ¬ (a = j ∧ i < a + 1) by omega)]
        omega
  · have e1 : (if a < K + 1 then gtG i j s d a a * atG t a b else 0) = if a < K then gtG i j s d a a * atG t a b else 0 := by
     by_cases c1 : a < K
     · rw [if_pos c1, if_pos (by omega)]
     · rw [if_neg c1, if_neg (by omega)]
    rw [e1]
    by_cases c1 : a = i ∧ K = j
    · have e2 : gtG i j s d a K = d := by
       unfold gtG
       rw [if_neg c, if_pos c1.1, if_pos c1.2]
      rw [e2, if_neg (show ¬ (a = i ∧ j < K) by omega), if_pos (show (a = i ∧ j < K + 1) by omega), if_neg (show ¬ (a = j ∧ i < K) by omega), if_neg (show ¬ (a = j ∧ i < K + 1) by omega), c1.2]
      omega
    · by_cases c2 : a = j ∧ K = i
      · have e2 : gtG i j s d a K = d := by
         unfold gtG
         rw [if_neg c, if_neg (show ¬ a = i by omega), if_pos c2.1, if_pos c2.2]
        rw [e2, if_neg (show ¬ (a = j ∧ i < K) by omega), if_pos (show (a = j ∧ i < K + 1) by omega), if_neg (show ¬ (a = i ∧ j < K) by omega), if_neg (show ¬ (a = i ∧ j < K + 1) by omega), c2.2]
        omega
      · have e2 : gtG i j s d a K = 0 := by
         unfold gtG
         rw [if_neg c]
         by_cases u : a = i
         · rw [if_pos u, if_neg (by omega)]
         · rw [if_neg u]
           by_cases v : a = j
           · rw [if_pos v, if_neg (by omega)]
           · rw [if_neg v]
        have e3 : (if a = i ∧ j < K + 1 then d * atG t j b else 0) = if a = i ∧ j < K then d * atG t j b else 0 := by
         by_cases u : a = i ∧ j < K
         · rw [if_pos u, if_pos (by omega)]
         · rw [if_neg u, if_neg (by omega)]
        have e4 : (if a = j ∧ i < K + 1 then d * atG t i b else 0) = if a = j ∧ i < K then d * atG t i b else 0 := by
         by_cases u : a = j ∧ i < K
         · rw [if_pos u, if_pos (by omega)]
         · rw [if_neg u, if_neg (by omega)]
        rw [e2, e3, e4, Int.zero_mul, Int.add_zero]
end Go.Proofs.Ytmfpgimblifleaa.A

namespace Go.Proofs.Ytmfpgimblifleaa.A
open Go.RowKit Go.Proofs.YtmfpgimblifleaaW.PrintWords Go.Proofs.YtmfpgimblifleaaW.PrintLast Go.Proofs.YtmfpgimblifleaaW.PrintMore
set_option linter.unusedVariables false
set_option linter.unusedSimpArgs false
/-! what a table keeps when a gift's table is multiplied to it -/
structure Kt (n c : Nat) (t : List (List Int)) : Prop where
 len : t.length = n
 row : ∀ x ∈ t, x.length = n
 bd : ∀ a b, a < n → b < n → 0 ≤ atG t a b ∧ atG t a b ≤ (60 ^ c : Nat)
 pos : ∀ a, a < n → ∃ b, b < n ∧ 0 < atG t a b
theorem kt_tab {n c : Nat} {t : List (List Int)} (hn : n ≤ 4) (hc : c ≤ 3) (h : Kt n c t) : Tab t := by
 refine ⟨by rw [h.len]; omega, fun x hx => ⟨by rw [h.row x hx, h.len], fun y hy => ?_⟩⟩
 obtain ⟨a, ha, rfl⟩ := List.getElem_of_mem hx
 obtain ⟨b, hb, rfl⟩ := List.getElem_of_mem hy
 have hr := h.row _ hx
 have hl := h.len
 have := h.bd a b (by omega) (by omega)
 have e : atG t a b = t[a][b] := by
  unfold atG
  rw [rd_L1n ha, rdn hb]
 rw [e] at this
 have : (60 ^ c : Nat) ≤ 60 ^ 3 := Nat.pow_le_pow_right (by omega) hc
 omega
theorem kt_step {n c i j : Nat} {s d : Int} {t : List (List Int)} (h : Kt n c t) (hij : i < j) (hj : j < n) (hd : 1 ≤ d) (hs : 2 * d ≤ s) (h60 : s ≤ 60) : Kt n (c + 1) (timesT (tabG n (gtG i j s d)) t) := by
 have hat : ∀ a b, a < n → b < n → atG (timesT (tabG n (gtG i j s d)) t) a b = gtG i j s d a a * atG t a b + (if a = i then d * atG t j b else 0) + (if a = j then d * atG t i b else 0) := fun a b ha hb => by
  unfold timesT
  rw [tabG_length, atG_tab _ ha hb, dot_gift t n i j s d hij a b ha n (Nat.le_refl _), if_pos ha]
  congr 1
  · congr 1
    by_cases u : a = i
    · rw [if_pos u, if_pos ⟨u, hj⟩]
    · rw [if_neg u, if_neg (fun x => u x.1)]
  · by_cases u : a = j
    · rw [if_pos u, if_pos ⟨u, by omega⟩]
    · rw [if_neg u, if_neg (fun x => u x.1)]
 have hgt : ∀ a, 1 ≤ gtG i j s d a a ∧ gtG i j s d a a + (if a = i then d else 0) + (if a = j then d else 0) ≤ 60 ∧ 0 ≤ gtG i j s d a a := fun a => by
  unfold gtG
  rw [if_pos rfl]
  by_cases u : a = i
  · rw [if_pos u, if_pos u, if_neg (by omega)]
    omega
  · rw [if_neg u, if_neg u]
    by_cases v : a = j
    · rw [if_pos v, if_pos v]
      omega
    · rw [if_neg v, if_neg v]
      omega
 refine ⟨by unfold timesT; rw [tabG_length, tabG_length], fun x hx => ?_, fun a b ha hb => ?_, fun a ha => ?_⟩
 · unfold timesT at hx
   rw [tabG_length] at hx
   unfold tabG at hx
   obtain ⟨q, _, rfl⟩ := List.mem_map.1 hx
   simp
 · rw [hat a b ha hb]
   have g := hgt a
   have b0 := h.bd a b ha hb
   have b1 := h.bd i b (by omega) hb
   have b2 := h.bd j b (by omega) hb
   rw [Nat.pow_succ, Int.natCast_mul]
   generalize ((60 ^ c : Nat) : Int) = M at *
   have m1 := Int.mul_le_mul_of_nonneg_left b0.2 g.2.2
   have m2 := Int.mul_le_mul_of_nonneg_left b1.2 (show 0 ≤ d by omega)
   have m3 := Int.mul_le_mul_of_nonneg_left b2.2 (show 0 ≤ d by omega)
   have n1 := Int.mul_nonneg g.2.2 b0.1
   have n2 := Int.mul_nonneg (show 0 ≤ d by omega) b1.1
   have n3 := Int.mul_nonneg (show 0 ≤ d by omega) b2.1
   have key := Int.mul_le_mul_of_nonneg_right g.2.1 (show 0 ≤ M by omega)
   rw [Int.add_mul, Int.add_mul] at key
   by_cases u : a = i
   · rw [if_pos u, if_neg (show ¬ a = j by omega)]
     rw [if_pos u, if_neg (show ¬ a = j by omega), Int.zero_mul] at key
     omega
   · by_cases v : a = j
     · rw [if_neg u, if_pos v]
       rw [if_neg u, if_pos v, Int.zero_mul] at key
       omega
     · rw [if_neg u, if_neg v]
       rw [if_neg u, if_neg v, Int.zero_mul] at key
       omega
 · obtain ⟨b, hb, hp⟩ := h.pos a ha
   refine ⟨b, hb, ?_⟩
   rw [hat a b ha hb]
   have g := hgt a
   have p1 := Int.mul_pos (show 0 < gtG i j s d a a by omega) hp
   have n2 := Int.mul_nonneg (show 0 ≤ d by omega) (h.bd i b (by omega) hb).1
   have n3 := Int.mul_nonneg (show 0 ≤ d by omega) (h.bd j b (by omega) hb).1
   split <;> split <;> omega
end Go.Proofs.Ytmfpgimblifleaa.A

namespace Go.Proofs.Ytmfpgimblifleaa.A
open Go.RowKit Go.Proofs.YtmfpgimblifleaaW.PrintWords Go.Proofs.YtmfpgimblifleaaW.PrintLast Go.Proofs.YtmfpgimblifleaaW.PrintMore
set_option linter.unusedVariables false
set_option linter.unusedSimpArgs false
theorem given_eq (l : List Int) (f t a : Int) (hx : l.length ≤ 1048576) (h1 : 0 ≤ f ∧ f < l.length) (h2 : 0 ≤ t ∧ t < l.length) (h3 : f ≠ t) : impl_given.f l f t a = some ((l.set f.toNat (wrap64 (rd l f - a))).set t.toNat (wrap64 (rd l t + a))) := by
 unfold impl_given.f slices_Clone_int_int.f
 simp only [if_pos (show l.length ≤ 17592186044416 by omega), Option.bind_some, if_pos h1.1, if_pos h1.2, if_pos h2.1, if_pos h2.2, rd_set_ne _ h1.1 h2.1 h3]
end Go.Proofs.Ytmfpgimblifleaa.A

namespace Go.Proofs.Ytmfpgimblifleaa.A
open Go.RowKit Go.Proofs.YtmfpgimblifleaaW.PrintWords Go.Proofs.YtmfpgimblifleaaW.PrintLast Go.Proofs.YtmfpgimblifleaaW.PrintMore
set_option linter.unusedVariables false
set_option linter.unusedSimpArgs false
/-! impl.TableFor's search -/
theorem istep_l1 {x y : List Int} {i j : Nat} (TB : Nat → List (List Int) → Option (List (List Int) × Bool)) (n : Int) (t : List (List Int)) (hl : x.length = y.length) (hn : x.length ≤ 12) (g : Nt x y i j) {r : List (List Int) × Bool} (hr : Ev (fun K => impl_TableFor.l2 TB K n x y t (i : Int) ((i : Int) + 1)) r) : ∀ (d k : Nat), i + d = k → k < x.length → Ev (fun K => impl_TableFor.l1 TB K n x y t (k : Int)) r
 | 0, k, h, hk => by
  have h1 := g.lt
  have h2 := g.hj
  have h3 := g.xi
  obtain rfl : i = k := by omega
  refine Ev.succ ?_
  simp only [impl_TableFor.l1, if_pos (show (0 : Int) ≤ (i : Int) by omega), if_pos (show (i : Int) < (x.length : Int) by omega), if_pos (show (i : Int) < (y.length : Int) by omega), if_neg (show ¬ rd x (i : Int) ≤ rd y (i : Int) by omega), w64 (x := (i : Int) + 1) (by omega) (by omega)]
  exact hr
 | d + 1, k, h, hk => by
  have h5 := g.aft k (by omega) hk
  refine Ev.succ ?_
  simp only [impl_TableFor.l1, if_pos (show (0 : Int) ≤ (k : Int) by omega), if_pos (show (k : Int) < (x.length : Int) by omega), if_pos (show (k : Int) < (y.length : Int) by omega), if_pos h5, w64 (x := (k : Int) - 1) (by omega) (by omega)]
  rw [show (k : Int) - 1 = ((k - 1 : Nat) : Int) by omega]
  exact istep_l1 TB n t hl hn g hr d (k - 1) (by omega) (by omega)
theorem istep_l2 {x y : List Int} {i j : Nat} (TB : Nat → List (List Int) → Option (List (List Int) × Bool)) (n : Int) (t : List (List Int)) (hl : x.length = y.length) (hn : x.length ≤ 12) (hx : ∀ k : Nat, k < x.length → 0 ≤ rd x (k : Int) ∧ rd x (k : Int) ≤ 60) (hy : ∀ k : Nat, k < x.length → 0 ≤ rd y (k : Int) ∧ rd y (k : Int) ≤ 60) (g : Nt x y i j) {r : List (List Int) × Bool} (hr : Ev (fun K => (impl_giftTable.f K n (i : Int) (j : Int) (rd x (i : Int) - rd x (j : Int)) (ntA x y i j)).bind fun t1 => (impl_product.f K t1 t).bind fun t2 => (impl_given.f x (i : Int) (j : Int) (ntA x y i j)).bind fun x2 => impl_TableFor.l0 TB K n x2 y t2) r) : ∀ (d k : Nat), k + d = j → i < k → Ev (fun K => impl_TableFor.l2 TB K n x y t (i : Int) (k : Int)) r
 | 0, k, h, hk => by
  have h1 := g.lt
  have h2 := g.hj
  have h4 := g.xj
  obtain rfl : k = j := by omega
  have b1 := hx i (by omega)
  have b2 := hy i (by omega)
  have b3 := hx k h2
  have b4 := hy k h2
  refine Ev.succ ?_
  have em : mn (rd x (i : Int) - rd y (i : Int)) (rd y (k : Int) - rd x (k : Int)) = ntA x y i k := by
   unfold ntA mn
   omega
  simp only [impl_TableFor.l2, if_pos (show (0 : Int) ≤ (k : Int) by omega), if_pos (show (k : Int) < (x.length : Int) by omega), if_pos (show (k : Int) < (y.length : Int) by omega), if_neg (show ¬ rd x (k : Int) ≥ rd y (k : Int) by omega), if_pos (show (0 : Int) ≤ (i : Int) by omega), if_pos (show (i : Int) < (x.length : Int) by omega), if_pos (show (i : Int) < (y.length : Int) by omega), w64 (x := rd x (i : Int) - rd y (i : Int)) (by omega) (by omega), w64 (x := rd y (k : Int) - rd x (k : Int)) (by omega) (by omega), w64 (x := rd x (i : Int) - rd x (k : Int)) (by omega) (by omega), em]
  exact hr
 | d + 1, k, h, hk => by
  have h1 := g.lt
  have h2 := g.hj
  have hb := g.bef k hk (by omega)
  refine Ev.succ ?_
  simp only [impl_TableFor.l2, if_pos (show (0 : Int) ≤ (k : Int) by omega), if_pos (show (k : Int) < (x.length : Int) by omega), if_pos (show (k : Int) < (y.length : Int) by omega), if_pos (show rd x (k : Int) ≥ rd y (k : Int) by omega), w64 (x := (k : Int) + 1) (by omega) (by omega)]
  exact istep_l2 TB n t hl hn hx hy g hr d (k + 1) (by omega) (by omega)
end Go.Proofs.Ytmfpgimblifleaa.A

namespace Go.Proofs.Ytmfpgimblifleaa.A
open Go.RowKit Go.Proofs.YtmfpgimblifleaaW.PrintWords Go.Proofs.YtmfpgimblifleaaW.PrintLast Go.Proofs.YtmfpgimblifleaaW.PrintMore
set_option linter.unusedVariables false
set_option linter.unusedSimpArgs false
theorem slEqual_l (xs ys : List Int) (hx : xs.length ≤ 9223372036854775807) (hl : xs.length = ys.length) : ∀ (n i : Nat), i + n = xs.length → Ev (fun k => slices_Equal_int_int.l0 k xs ys (xs.length : Int) (i : Int)) (decide (xs.drop i = ys.drop i))
 | 0, i, h => by
  refine Ev.succ ?_
  simp only [slices_Equal_int_int.l0, if_neg (show ¬ (i : Int) < (xs.length : Int) by omega)]
  rw [List.drop_eq_nil_of_le (by omega), List.drop_eq_nil_of_le (by omega)]
  exact Ev.now _
 | n + 1, i, h => by
  have hi : i < xs.length := by omega
  have hj : i < ys.length := by omega
  refine Ev.succ ?_
  simp only [slices_Equal_int_int.l0, if_pos (show (i : Int) < (xs.length : Int) by omega), if_pos (show (i : Int) < (ys.length : Int) by omega), if_pos (show (0 : Int) ≤ (i : Int) by omega), rdn hi, rdn hj, wsucc hi hx]
  rw [List.drop_eq_getElem_cons hi, List.drop_eq_getElem_cons hj]
  by_cases c : xs[i] = ys[i]
  · simp only [c, if_true, List.cons.injEq, true_and]
    exact slEqual_l xs ys hx hl n (i + 1) (by omega)
  · simp only [c, if_false, List.cons.injEq, false_and, decide_false]
    exact Ev.now _
theorem slEqual_ev (xs ys : List Int) (hx : xs.length ≤ 9223372036854775807) : Ev (fun k => slices_Equal_int_int.f k xs ys) (decide (xs = ys)) := by
 unfold slices_Equal_int_int.f
 by_cases h : xs.length = ys.length
 · simp only [if_pos (show (xs.length : Int) = (ys.length : Int) by omega)]
   exact slEqual_l xs ys hx h xs.length 0 (by omega)
 · simp only [if_neg (show ¬ (xs.length : Int) = (ys.length : Int) by omega)]
   rw [decide_eq_false (fun e => h (by rw [e]))]
   exact Ev.now _
end Go.Proofs.Ytmfpgimblifleaa.A

namespace Go.Proofs.Ytmfpgimblifleaa.A
open Go.RowKit Go.Proofs.YtmfpgimblifleaaW.PrintWords Go.Proofs.YtmfpgimblifleaaW.PrintLast Go.Proofs.YtmfpgimblifleaaW.PrintMore
set_option linter.unusedVariables false
set_option linter.unusedSimpArgs false
theorem l1Least_eq (a b : Int) : spec_l1Least.f a b = some (min a b) := by
 unfold spec_l1Least.f
 split <;> (congr 1; omega)
end Go.Proofs.Ytmfpgimblifleaa.A

namespace Go.Proofs.Ytmfpgimblifleaa.A
open Go.RowKit Go.Proofs.YtmfpgimblifleaaW.PrintWords Go.Proofs.YtmfpgimblifleaaW.PrintLast Go.Proofs.YtmfpgimblifleaaW.PrintMore
set_option linter.unusedVariables false
set_option linter.unusedSimpArgs false
/-! spec.doStep -/
theorem step_l1 {x y : List Int} {i j : Nat} (hl : x.length = y.length) (hn : x.length ≤ 12) (hx : ∀ k : Nat, k < x.length → 0 ≤ rd x (k : Int) ∧ rd x (k : Int) ≤ 60) (hy : ∀ k : Nat, k < x.length → 0 ≤ rd y (k : Int) ∧ rd y (k : Int) ≤ 60) (g : Nt x y i j) : ∀ (d k : Nat), k + d = j → i < k → Ev (fun K => spec_doStep.l1 K x y (i : Int) (k : Int)) ((i : Int), (j : Int), ntA x y i j, true)
 | 0, k, h, hk => by
  have h1 := g.lt
  have h2 := g.hj
  have h4 := g.xj
  obtain rfl : k = j := by omega
  have b1 := hx i (by omega)
  have b2 := hy i (by omega)
  have b3 := hx k h2
  have b4 := hy k h2
  refine Ev.succ ?_
  simp only [spec_doStep.l1, if_pos (show (0 : Int) ≤ (k : Int) by omega), if_pos (show (k : Int) < (x.length : Int) by omega), if_pos (show (k : Int) < (y.length : Int) by omega), if_neg (show ¬ rd x (k : Int) ≥ rd y (k : Int) by omega), if_pos (show (0 : Int) ≤ (i : Int) by omega), if_pos (show (i : Int) < (x.length : Int) by omega), if_pos (show (i : Int) < (y.length : Int) by omega), w64 (x := rd x (i : Int) - rd y (i : Int)) (by omega) (by omega), w64 (x := rd y (k : Int) - rd x (k : Int)) (by omega) (by omega), l1Least_eq, Option.bind_some]
  exact Ev.now _
 | d + 1, k, h, hk => by
  have h1 := g.lt
  have h2 := g.hj
  have hb := g.bef k hk (by omega)
  refine Ev.succ ?_
  simp only [spec_doStep.l1, if_pos (show (0 : Int) ≤ (k : Int) by omega), if_pos (show (k : Int) < (x.length : Int) by omega), if_pos (show (k : Int) < (y.length : Int) by omega), if_pos (show rd x (k : Int) ≥ rd y (k : Int) by omega), w64 (x := (k : Int) + 1) (by omega) (by omega)]
  exact step_l1 hl hn hx hy g d (k + 1) (by omega) (by omega)
theorem step_l0 {x y : List Int} {i j : Nat} (hl : x.length = y.length) (hn : x.length ≤ 12) (g : Nt x y i j) {r : Int × Int × Int × Bool} (hr : Ev (fun K => spec_doStep.l1 K x y (i : Int) ((i : Int) + 1)) r) : ∀ (m k : Nat) (cur : Int), k + m = x.length → (i < k → cur = (i : Int)) → Ev (fun K => spec_doStep.l0 K x y cur (x.length : Int) (k : Int)) r
 | 0, k, cur, h, hc => by
  have h1 := g.lt
  have h2 := g.hj
  obtain rfl := hc (by omega)
  refine Ev.succ ?_
  simp only [spec_doStep.l0, if_neg (show ¬ (k : Int) < (x.length : Int) by omega), if_neg (show ¬ (i : Int) < 0 by omega), w64 (x := (i : Int) + 1) (by omega) (by omega)]
  exact hr
 | m + 1, k, cur, h, hc => by
  have h1 := g.lt
  have h2 := g.hj
  have h3 := g.xi
  refine Ev.succ ?_
  simp only [spec_doStep.l0, if_pos (show (k : Int) < (x.length : Int) by omega), if_pos (show (0 : Int) ≤ (k : Int) by omega), if_pos (show (k : Int) < (y.length : Int) by omega), w64 (x := (k : Int) + 1) (by omega) (by omega)]
  by_cases c : rd x (k : Int) > rd y (k : Int)
  · simp only [if_pos c]
    refine step_l0 hl hn g hr m (k + 1) _ (by omega) (fun hk => ?_)
    rcases Nat.lt_or_ge i k with hlt | hge
    · have := g.aft k hlt (by omega)
      omega
    · omega
  · simp only [if_neg c]
    refine step_l0 hl hn g hr m (k + 1) _ (by omega) (fun hk => ?_)
    rcases Nat.lt_or_ge i k with hlt | hge
    · exact hc hlt
    · obtain rfl : i = k := by omega
      omega
theorem doStep_ev {x y : List Int} {i j : Nat} (hl : x.length = y.length) (hn : x.length ≤ 12) (hx : ∀ k : Nat, k < x.length → 0 ≤ rd x (k : Int) ∧ rd x (k : Int) ≤ 60) (hy : ∀ k : Nat, k < x.length → 0 ≤ rd y (k : Int) ∧ rd y (k : Int) ≤ 60) (g : Nt x y i j) : Ev (fun K => spec_doStep.f K x y) ((i : Int), (j : Int), ntA x y i j, true) := by
 unfold spec_doStep.f
 have h1 := g.lt
 exact step_l0 hl hn g (by
  have := step_l1 hl hn hx hy g (j - (i + 1)) (i + 1) (by omega) (by omega)
  exact this) x.length 0 (-1) (by omega) (fun h => by omega)
theorem doStep_end (x : List Int) (hn : x.length ≤ 12) : ∀ (m k : Nat), k + m = x.length → Ev (fun K => spec_doStep.l0 K x x (-1) (x.length : Int) (k : Int)) (0, 0, 0, false)
 | 0, k, h => by
  refine Ev.succ ?_
  simp only [spec_doStep.l0, if_neg (show ¬ (k : Int) < (x.length : Int) by omega), if_pos (show (-1 : Int) < 0 by omega)]
  exact Ev.now _
 | m + 1, k, h => by
  refine Ev.succ ?_
  simp only [spec_doStep.l0, if_pos (show (k : Int) < (x.length : Int) by omega), if_pos (show (0 : Int) ≤ (k : Int) by omega), if_neg (show ¬ rd x (k : Int) > rd x (k : Int) by omega), w64 (x := (k : Int) + 1) (by omega) (by omega)]
  exact doStep_end x hn m (k + 1) (by omega)
end Go.Proofs.Ytmfpgimblifleaa.A

namespace Go.Proofs.Ytmfpgimblifleaa.A
open Go.RowKit Go.Proofs.YtmfpgimblifleaaW.PrintWords Go.Proofs.YtmfpgimblifleaaW.PrintLast Go.Proofs.YtmfpgimblifleaaW.PrintMore
set_option linter.unusedVariables false
set_option linter.unusedSimpArgs false
/-! the unit table, as impl and spec make it -/
def oneG (a b : Nat) : Int := if a = b then 1 else 0
theorem iunit_ev (n : Nat) (hn : n ≤ 6) : Ev (fun q => impl_giftTable.f q (n : Int) (-1) (-1) 1 0) (tabG n oneG) := by
 unfold impl_giftTable.f
 simp only [if_pos (show (0 : Int) ≤ 1 ∧ (1 : Int) ≤ 1000000 ∧ (0 : Int) ≤ 0 ∧ (0 : Int) ≤ 1000000 by omega)]
 refine square_ev _ _ n (by omega) (fun a b ha hb => ?_)
 congr 1
 unfold giftE oneG
 simp only [Int.ofNat_inj, if_neg (show ¬ (a : Int) = -1 by omega)]
theorem sunit_l (TB : Nat → List (List Int) → Option (List (List Int) × Bool)) (x y : List Int) (n : Nat) (hn : n ≤ 6) {r : List (List Int) × Bool} (hr : Ev (fun k => (spec_doStep.f k x y).bind fun bt => spec_TableFor.l1 TB k (n : Int) x y (tabG n oneG) bt.1 bt.2.1 bt.2.2.1 bt.2.2.2) r) : ∀ (m i : Nat), i + m = n → Ev (fun k => spec_TableFor.l0 TB k (n : Int) x y (tabG n fun a b => if a = b ∧ a < i then 1 else 0) (n : Int) (i : Int)) r
 | 0, i, h => by
  obtain rfl : i = n := by omega
  refine Ev.succ ?_
  simp only [spec_TableFor.l0, if_neg (show ¬ (i : Int) < (i : Int) by omega)]
  rw [tabG_congr (G' := oneG) (fun a b ha hb => by
   unfold oneG
   by_cases c : a = b
   · rw [if_pos ⟨c, ha⟩, if_pos c]
   · rw [if_neg (fun h => c h.1), if_neg c])]
  exact hr
 | m + 1, i, h => by
  have hi : i < n := by omega
  refine Ev.succ ?_
  simp only [spec_TableFor.l0, if_pos (show (i : Int) < (n : Int) by omega), if_pos (show (0 : Int) ≤ (i : Int) by omega), tabG_length, tabG_rowlen _ hi, Int.toNat_natCast, w64 (x := (i : Int) + 1) (by omega) (by omega)]
  rw [tabG_set _ i 1 hi]
  rw [tabG_congr (G' := fun a b => if a = b ∧ a < i + 1 then 1 else 0) (fun a b ha hb => by
   unfold updG
   by_cases c : a = i ∧ b = i
   · rw [if_pos c, if_pos (by omega)]
   · rw [if_neg c]
     show (if a = b ∧ a < i then (1 : Int) else 0) = _
     by_cases d : a = b ∧ a < i
     · rw [if_pos d, if_pos (by omega)]
     · rw [if_neg d, if_neg (by omega)])]
  exact sunit_l TB x y n hn hr m (i + 1) (by omega)
theorem igift_ev (n i j : Nat) (s k : Int) (hn : n ≤ 6) (hs : 0 ≤ s ∧ s ≤ 1000) (hk : 0 ≤ k ∧ k ≤ 1000) (hij : i < j) : Ev (fun q => impl_giftTable.f q (n : Int) (i : Int) (j : Int) s k) (tabG n (gtG i j s k)) := by
 unfold impl_giftTable.f
 simp only [if_pos (show 0 ≤ s ∧ s ≤ 1000000 ∧ 0 ≤ k ∧ k ≤ 1000000 by omega)]
 refine square_ev _ _ n (by omega) (fun a b ha hb => ?_)
 congr 1
 unfold giftE gtG
 simp only [Int.ofNat_inj]
 by_cases c1 : a = b
 · subst c1
   simp
 · by_cases c2 : a = i
   · subst c2
     simp [c1, show ¬ a = j by omega]
   · simp [c1, c2]
theorem sgift_ev (n i j : Nat) (s k : Int) (hn : n ≤ 6) (hij : i < j) (hj : j < n) (h4 : 1 ≤ s ∧ s ≤ 1000) (h5 : 0 ≤ k ∧ k ≤ s) : Ev (fun q => spec_doGift.f q (n : Int) (i : Int) (j : Int) s k) (tabG n (gtG i j s k)) := by
 unfold spec_doGift.f
 refine Ev.bind (doEmpty_ev n (by omega)) ?_
 have := doGift_l n i j s k (by omega) (by omega) (by omega) h4 h5 n 0 (by omega)
 rw [tabG_congr (G' := fun _ _ => 0) (fun a b _ _ => by simp)] at this
 exact this
end Go.Proofs.Ytmfpgimblifleaa.A

namespace Go.Proofs.Ytmfpgimblifleaa.A
open Go.RowKit Go.Proofs.YtmfpgimblifleaaW.PrintWords Go.Proofs.YtmfpgimblifleaaW.PrintLast Go.Proofs.YtmfpgimblifleaaW.PrintMore
set_option linter.unusedVariables false
set_option linter.unusedSimpArgs false
/-! the run of gifts, and both loops -/
structure St (n c : Nat) (x y : List Int) (t : List (List Int)) : Prop where
 lx : x.length = n
 ly : y.length = n
 n4 : n ≤ 4
 dom : Dom x y
 hx : ∀ k : Nat, k < x.length → 0 ≤ rd x (k : Int) ∧ rd x (k : Int) ≤ 60
 hy : ∀ k : Nat, k < x.length → 0 ≤ rd y (k : Int) ∧ rd y (k : Int) ≤ 60
 dy : Desc y
 un : unl x y + c ≤ 4
 kt : Kt n c t
theorem st_step {n c i j : Nat} {x y : List Int} {t : List (List Int)} (S : St n c x y t) (g : Nt x y i j) : St n (c + 1) (giveL x (i : Int) (j : Int) (ntA x y i j)) y (timesT (tabG n (gtG i j (rd x (i : Int) - rd x (j : Int)) (ntA x y i j))) t) := by
 have h1 := g.lt
 have h2 := g.hj
 have hl : x.length = y.length := by rw [S.lx, S.ly]
 have hA := ntA_le g
 have hG := nt_gap hl S.dy g
 have b1 := S.hx i (by omega)
 have b2 := S.hx j h2
 have hu := nt_unl g
 have hun := S.un
 exact ⟨by rw [giveL_length]; exact S.lx, S.ly, S.n4, nt_dom S.dom g, fun k hk => nt_bd hl g S.hx S.hy k (by rw [giveL_length] at hk; exact hk), fun k hk => S.hy k (by rw [giveL_length] at hk; exact hk), S.dy, by omega, kt_step S.kt h1 (by rw [← S.lx]; exact h2) hA.1 hG (by omega)⟩
/-- from the list x with the table t the run of gifts ends at y with the table T -/
inductive Rch (n : Nat) (y : List Int) : List Int → List (List Int) → List (List Int) → Prop
 | done (t : List (List Int)) : Rch n y y t t
 | step {c i j : Nat} {x : List Int} {t T : List (List Int)} (S : St n c x y t) (hc : c ≤ 3) (g : Nt x y i j) (h : Rch n y (giveL x (i : Int) (j : Int) (ntA x y i j)) (timesT (tabG n (gtG i j (rd x (i : Int) - rd x (j : Int)) (ntA x y i j))) t) T) : Rch n y x t T
theorem run_both (n : Nat) (y : List Int) : ∀ (u c : Nat) (x : List Int) (t : List (List Int)), St n c x y t → c ≤ 3 → unl x y ≤ u → ∃ T c', Kt n c' T ∧ c' ≤ 3 ∧ Rch n y x t T ∧ ∀ (TB : Nat → List (List Int) → Option (List (List Int) × Bool)) (r : List (List Int) × Bool), Ev (fun k => TB k T) r → Ev (fun k => (spec_doStep.f k x y).bind fun bt => spec_TableFor.l1 TB k (n : Int) x y t bt.1 bt.2.1 bt.2.2.1 bt.2.2.2) r ∧ Ev (fun k => impl_TableFor.l0 TB k (n : Int) x y t) r := by
 intro u
 induction u with
 | zero =>
  intro c x t S hc hu
  have he : x = y := by
   apply Classical.byContradiction
   intro hne
   obtain ⟨i, j, g⟩ := nt_exists S.dom hne
   have := nt_unl2 g
   omega
  subst he
  refine ⟨t, c, S.kt, hc, Rch.done t, fun TB r hr => ?_⟩
  have hn := S.n4
  have hl := S.lx
  refine ⟨?_, ?_⟩
  · refine Ev.bind (a := (0, 0, 0, false)) (by unfold spec_doStep.f; exact doStep_end x (by omega) x.length 0 (by omega)) ?_
    refine Ev.succ ?_
    simp only [spec_TableFor.l1, Bool.false_eq_true, if_false]
    exact hr
  · refine Ev.succ ?_
    simp only [impl_TableFor.l0]
    have hq := slEqual_ev x x (by omega)
    rw [decide_eq_true rfl] at hq
    refine Ev.bind hq ?_
    simp only [if_true]
    exact hr
 | succ u ih =>
  intro c x t S hc hu
  by_cases he : x = y
  · subst he
    refine ⟨t, c, S.kt, hc, Rch.done t, fun TB r hr => ?_⟩
    have hn := S.n4
    have hl := S.lx
    refine ⟨?_, ?_⟩
    · refine Ev.bind (a := (0, 0, 0, false)) (by unfold spec_doStep.f; exact doStep_end x (by omega) x.length 0 (by omega)) ?_
      refine Ev.succ ?_
      simp only [spec_TableFor.l1, Bool.false_eq_true, if_false]
      exact hr
    · refine Ev.succ ?_
      simp only [impl_TableFor.l0]
      have hq := slEqual_ev x x (by omega)
      rw [decide_eq_true rfl] at hq
      refine Ev.bind hq ?_
      simp only [if_true]
      exact hr
  · obtain ⟨i, j, g⟩ := nt_exists S.dom he
    have h2 := nt_unl2 g
    have hun := S.un
    have hul := nt_unl g
    have S2 := st_step S g
    obtain ⟨T, c', hT, hc', hR, hE⟩ := ih (c + 1) _ _ S2 (by omega) (by omega)
    refine ⟨T, c', hT, hc', Rch.step S hc g hR, fun TB r hr => ?_⟩
    obtain ⟨h, hI⟩ := hE TB r hr
    have hn := S.n4
    have hlx := S.lx
    have hl : x.length = y.length := by rw [S.lx, S.ly]
    have g1 := g.lt
    have g2 := g.hj
    have hA := ntA_le g
    have hG := nt_gap hl S.dy g
    have b1 := S.hx i (by omega)
    have b2 := S.hx j g2
    have b3 := S.hy i (by omega)
    have b4 := S.hy j g2
    have T0 : Tab (tabG n (gtG i j (rd x (i : Int) - rd x (j : Int)) (ntA x y i j))) := by
     have hs60 : rd x (i : Int) - rd x (j : Int) ≤ 60 := by omega
     clear hE h hI ih S2
     generalize ntA x y i j = d at *
     generalize rd x (i : Int) - rd x (j : Int) = s at *
     refine ⟨by rw [tabG_length]; omega, fun z hz => ?_⟩
     unfold tabG at hz
     obtain ⟨q, _, rfl⟩ := List.mem_map.1 hz
     refine ⟨by rw [tabG_length]; simp, fun w hw => ?_⟩
     obtain ⟨p, _, rfl⟩ := List.mem_map.1 hw
     unfold gtG
     repeat (first | omega | split)
    refine ⟨?_, ?_⟩
    · refine Ev.bind (doStep_ev hl (by omega) S.hx S.hy g) ?_
      refine Ev.succ ?_
      simp only [spec_TableFor.l1, if_pos (show (0 : Int) ≤ (i : Int) by omega), if_pos (show (0 : Int) ≤ (j : Int) by omega), if_pos (show (i : Int) < (x.length : Int) by omega), if_pos (show (j : Int) < (x.length : Int) by omega), w64 (x := rd x (i : Int) - rd x (j : Int)) (by omega) (by omega), Option.bind_some]
      refine Ev.bind (sgift_ev n i j _ _ (by omega) g1 (by omega) (by omega) (by omega)) ?_
      refine Ev.bind (doTimes_ev T0 (kt_tab hn hc S.kt) (by rw [tabG_length]; exact S.kt.len)) ?_
      have e1 : rd (x.set (i : Int).toNat (wrap64 (rd x (i : Int) - ntA x y i j))) (j : Int) = rd x (j : Int) := by
       unfold rd
       rw [Int.toNat_natCast, Int.toNat_natCast, List.getD_eq_getElem?_getD, List.getElem?_set_ne (by omega), List.getD_eq_getElem?_getD]
      have e2 : (x.set (i : Int).toNat (wrap64 (rd x (i : Int) - ntA x y i j))).set (j : Int).toNat (wrap64 (rd (x.set (i : Int).toNat (wrap64 (rd x (i : Int) - ntA x y i j))) (j : Int) + ntA x y i j)) = giveL x (i : Int) (j : Int) (ntA x y i j) := by
       rw [e1, w64 (x := rd x (i : Int) - ntA x y i j) (by omega) (by omega), w64 (x := rd x (j : Int) + ntA x y i j) (by omega) (by omega)]
       rfl
      simp only [e2]
      exact h
    · refine Ev.succ ?_
      simp only [impl_TableFor.l0]
      have hq := slEqual_ev x y (by omega)
      rw [decide_eq_false he] at hq
      refine Ev.bind hq ?_
      simp only [Bool.false_eq_true, if_false, w64 (x := (n : Int) - 1) (by omega) (by omega)]
      rw [show (n : Int) - 1 = ((n - 1 : Nat) : Int) by omega]
      refine istep_l1 TB (n : Int) t hl (by omega) g ?_ (n - 1 - i) (n - 1) (by omega) (by omega)
      refine istep_l2 TB (n : Int) t hl (by omega) S.hx S.hy g ?_ (j - (i + 1)) (i + 1) (by omega) (by omega)
      refine Ev.bind (igift_ev n i j _ _ (by omega) (by omega) (by omega) g1) ?_
      refine Ev.bind (product_ev T0 (kt_tab hn hc S.kt) (by rw [tabG_length]; exact S.kt.len)) ?_
      simp only [given_eq x _ _ _ (by omega) (show 0 ≤ (i : Int) ∧ (i : Int) < (x.length : Int) by omega) (show 0 ≤ (j : Int) ∧ (j : Int) < (x.length : Int) by omega) (show (i : Int) ≠ (j : Int) by omega), Option.bind_some]
      rw [w64 (x := rd x (i : Int) - ntA x y i j) (by omega) (by omega), w64 (x := rd x (j : Int) + ntA x y i j) (by omega) (by omega)]
      exact hI
end Go.Proofs.Ytmfpgimblifleaa.A
