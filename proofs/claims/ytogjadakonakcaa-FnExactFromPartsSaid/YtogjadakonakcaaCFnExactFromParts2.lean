/- What the law FnExactFromParts reaches, part 2: Lean functions with the same answers as the Go functions, the proofs that the Go code comes to these answers, and lemmas about them; no condition beyond those that each theorem names. -/
import Derived.WalkKit
import Derived.ProofKit
import Derived.OpenShut
import Derived.Deep.Matrix
import Derived.Lib.SmallJoins
import Derived.Test.YtogjadakonakcaaCFnExactFromParts1
/- FromParts: ContainsFunc over rows with a function that has captured the table, a table of zeros by square, then the placings laid on. -/
namespace Go.Proofs.Ytogjadakonakcaa.A
open Go.RowKit Go.Proofs.YtogjadakonakcaaW.PrintWords Go.Proofs.YtogjadakonakcaaW.PrintLast Go.Proofs.YtogjadakonakcaaW.PrintMore
attribute [local go_sem] max2_int min2_int max_two min_two max_three min_three max_four min_four
set_option linter.unusedVariables false
set_option linter.unusedSimpArgs false

open Go.Shelf Go.Lib
def zeroF (_ _ : Int) : Option Int := some 0
theorem zero_cell {w : World} (i j t : Int) (W : World) (h : zeroF i j = some t) (_ : Below w.heap.size w W) : Calls Try.prog 66 (#[.int .i64 i, .int .i64 j] ++ #[]) W fun e w' => e = .returned (.int .i64 t) ∧ Below W.heap.size W w' := by
  obtain rfl := Option.some.inj h
  show Calls Try.prog 66 #[.int .i64 i, .int .i64 j] W _
  go_enter Try.func66, Try.ntmps66
  go_wp2
  go_ret
  exact ⟨rfl, Below.refl _ _⟩
def badP (n : Nat) (x : List Int) : Bool := !(decide ((x.length : Int) = (n : Int)) && placeB x)
def badAny (l : List (List Int)) : Option Bool := if (l.all fun x => decide (x.length ≤ 1048576)) = true ∧ l.length ≤ 1048576 ∧ 1 ≤ l.length then some (l.any (badP (rd_L1 l 0).length)) else none
set_option maxHeartbeats 2000000 in
set_option maxRecDepth 100000 in
theorem fp_row (ad0 : Addr) (B : Nat) (l0 : List (List Int)) (c0 cx : Nat) (ad : Option Addr) (x : List Int) (W : World) (hx : x.length ≤ 1048576) (hl : 1 ≤ l0.length) (hB : W.cell? ⟨B, 0, none⟩ = some (.slice (some ad0) l0.length c0)) (hT : Kd.C (Kd.slice 3 (Kd.int .i64)) W (some ad0) l0.length l0) (hr : Kd.C (Kd.int .i64) W ad x.length x) (hc : x.length ≤ cx) :
    Calls Try.prog 65 #[.slice ad x.length cx, .pointer (some ⟨B, 0, none⟩)] W fun e w' => e = .returned (.bool (badP (rd_L1 l0 0).length x)) ∧ ∃ q, w' = W.drewN q := by
  obtain ⟨ad1, A1, c1, e1, hx1, _, _⟩ := at_L1 hT 0 (by omega) (by omega)
  injection e1 with e1
  subst e1
  rw [show ((0 : Int)).toNat = 0 from rfl, Addr.add_zero'] at hx1
  obtain ⟨k, hk⟩ := Ev.get (implIsPlacing_ev x (by omega))
  have q0 : (0 < l0.length) = True := eq_true (by omega)
  have HR := Aside0.mk hr
  have HC := Aside0.mk hc
  have HK := Aside0.mk hk
  have hd : badP (rd_L1 l0 0).length x = !(decide ((x.length : Int) = ((rd_L1 l0 0).length : Int)) && placeB x) := rfl
  rw [hd]
  generalize rd_L1 l0 0 = y at *
  have HX := Aside0.mk hx
  clear hd hx hr hc hk hT hl
  by_cases h : (x.length : Int) = (y.length : Int)
  · have h1 : ((x.length : Int) != (y.length : Int)) = false := bne_eq_false_iff_eq.mpr h
    rw [decide_eq_true h, Bool.true_and]
    clear h
    by_cases h6 : (x.length : Int) > 6
    · have h2 : decide ((x.length : Int) > 6) = true := decide_eq_true h6
      have e : placeB x = false := by unfold placeB; rw [if_neg (by omega)]
      rw [e]
      clear h6 e HK
      go_enter Try.func65, Try.ntmps65
      go_wp2
      go_ret
      exact ⟨by simp, 0, rfl⟩
    · have h2 : decide ((x.length : Int) > 6) = false := decide_eq_false h6
      clear h6
      go_enter Try.func65, Try.ntmps65
      go_wp2_with (go_at_call 45; refine (impl_IsPlacing.calls k _ _ x _ _ ?side1 ?side2 HK.out).mono ?_; (case side1 => repeat (first | exact HR.out | (with_reducible refine Kd.C_alloc ?_ _) | (with_reducible refine Kd.C_drewN ?_ _) | (with_reducible refine Kd.C_drew ?_))); (case side2 => exact HC.out); rintro e w' ⟨rfl, ⟨nd, rfl⟩⟩)
      go_ret
      exact ⟨by simp, _, rfl⟩
  · have h1 : ((x.length : Int) != (y.length : Int)) = true := bne_iff_ne.mpr h
    rw [decide_eq_false h]
    clear h HK
    go_enter Try.func65, Try.ntmps65
    go_wp2
    go_ret
    exact ⟨by simp, 0, rfl⟩
theorem fpAny_calls (B : Nat) (A0 : Option Addr) (c0 : Nat) (l0 : List (List Int)) (r : Bool) (w : World) (hB : w.cell? ⟨B, 0, none⟩ = some (.slice A0 l0.length c0)) (hr0 : Kd.C (Kd.slice 3 (Kd.int .i64)) w A0 l0.length l0) (hc0 : l0.length ≤ c0) (h : badAny l0 = some r) :
    Calls Try.prog 64 #[.slice A0 l0.length c0, .func (.func 65) #[] #[.pointer (some ⟨B, 0, none⟩)]] w fun e w' => e = .returned (.bool r) ∧ Below w.heap.size w w' := by
  unfold badAny at h
  split at h
  next hb =>
    obtain ⟨hb1, hb2, hb3⟩ := hb
    obtain ⟨ad, _, _, hA, _⟩ := at_L1 hr0 0 (by omega) (by omega)
    subst hA
    obtain ⟨vs, hvs⟩ := rowsAt hr0
    have eg : ∀ args w, (callFunc 65 args).run Try.prog w = .ok (.enter 65 args) w := enters_of Try.func65 (by kernel_rfl) rfl
    refine (anyHas Try.hasL ad l0.length c0 vs (fun j => badP (rd_L1 l0 0).length (l0.getD j [])) 65 #[.pointer (some ⟨B, 0, none⟩)] w eg (by omega) (fun j hj => (hvs j hj).1) (fun j hj q' => ?_)).mono ?_
    · obtain ⟨A, c, hv, hle, hC⟩ := (hvs j hj).2
      rw [hv]
      have hm : l0.getD j [] ∈ l0 := by
        rw [List.getD_eq_getElem?_getD, List.getElem?_eq_getElem hj]
        exact List.getElem_mem hj
      exact fp_row ad B l0 c0 c A (l0.getD j []) (w.drewN q') (by simpa using List.all_eq_true.1 hb1 _ hm) hb3 hB (Kd.C_drewN hr0 _) (Kd.C_drewN hC _) hle
    · rintro e w' ⟨rb, rfl, hi, q, rfl⟩
      refine ⟨?_, pw_below_drewN (Below.refl _ _) q⟩
      have hr := Option.some.inj h
      have e : rb = r := by
        rw [← hr, Bool.eq_iff_iff, List.any_eq_true]
        rw [hi]
        constructor
        · rintro ⟨j, hj, hp⟩
          rw [List.getD_eq_getElem?_getD, List.getElem?_eq_getElem hj] at hp
          exact ⟨_, List.getElem_mem hj, hp⟩
        · rintro ⟨x, hx, hp⟩
          obtain ⟨j, hj, rfl⟩ := List.mem_iff_getElem.1 hx
          exact ⟨j, hj, by rw [List.getD_eq_getElem?_getD, List.getElem?_eq_getElem hj]; exact hp⟩
      rw [e]
  next => cases h
mutual
def impl_FromParts.j0 : Nat → List Int → List (List Int) → Bool → Option ((List (List Int)) × Bool)
  | 0, _, _, _ => none
  | k + 1, x1, x2, x26 => if x26 = true then (some (([] : List (List Int)), false)) else ((badAny x2).bind fun t466 => (if t466 = true then (some (([] : List (List Int)), false)) else (if 0 < (x2.length : Int) then ((impl_square.f zeroF k ((rd_L1 x2 0).length : Int)).bind fun t468 => (impl_FromParts.l0 k x1 t468 x2 (x2.length : Int) 0)) else (none))))
def impl_FromParts.l0 : Nat → List Int → List (List Int) → List (List Int) → Int → Int → Option ((List (List Int)) × Bool)
  | 0, _, _, _, _, _ => none
  | k + 1, x1, x6, x35, x36, x37 => if x37 < x36 then (if 0 ≤ x37 then (if x37 < (x35.length : Int) then (impl_FromParts.l1 k x1 x6 x37 x35 x36 x37 (rd_L1 x35 x37) ((rd_L1 x35 x37).length : Int) 0) else (none)) else (none)) else ((impl_checked.f x6).bind fun bt471 => (some (bt471.1, bt471.2)))
def impl_FromParts.l1 : Nat → List Int → List (List Int) → Int → List (List Int) → Int → Int → List Int → Int → Int → Option ((List (List Int)) × Bool)
  | 0, _, _, _, _, _, _, _, _, _ => none
  | k + 1, x1, x6, x7, x35, x36, x37, x42, x43, x44 => if x44 < x43 then (if 0 ≤ x44 then (if x44 < (x42.length : Int) then (if x44 < (x6.length : Int) then (if 0 ≤ (rd x42 x44) then (if (rd x42 x44) < ((rd_L1 x6 x44).length : Int) then (if 0 ≤ x7 then (if x7 < (x1.length : Int) then (impl_FromParts.l1 k x1 (x6.set (x44 : Int).toNat ((rd_L1 x6 x44).set ((rd x42 x44) : Int).toNat (wrap64 ((rd (rd_L1 x6 x44) (rd x42 x44)) + (rd x1 x7))))) x7 x35 x36 x37 x42 x43 (wrap64 (x44 + 1))) else (none)) else (none)) else (none)) else (none)) else (none)) else (none)) else (none)) else (impl_FromParts.l0 k x1 x6 x35 x36 (wrap64 (x37 + 1)))
end
def impl_FromParts.f (k : Nat) (l0 : List (List Int)) (l1 : List Int) : Option ((List (List Int)) × Bool) := (impl_within.f (l0.length : Int) 1 40).bind fun t464 => (if t464 = true then (if (l1.length : Int) = (l0.length : Int) then ((impl_allWithin.f k l1 0 1000000).bind fun t465 => (impl_FromParts.j0 k l1 l0 (!t465))) else (impl_FromParts.j0 k l1 l0 true)) else (impl_FromParts.j0 k l1 l0 true))
def impl_FromParts.T12 : Bool × List (List Nat × List Nat) := (true, [([], []), ([], []), ([0, 1], [0, 1]), ([2], [2]), ([], []), ([3, 4], [3, 4]), ([5], [5]), ([], []), ([], []), ([7, 8], [7, 8]), ([9], [9]), ([6, 10], [6, 10]), ([3, 4, 0, 1, 2, 3, 4, 5, 6, 7, 8, 9, 10, 11], [3, 4]), ([12, 11, 0, 1, 2, 3, 4, 5, 6, 7, 8, 9, 10, 11], [11, 12])])
def impl_FromParts.B12 : List Nat := [0, 0, 3, 7, 0, 31, 63, 0, 0, 384, 896, 2047, 4095, 8191]
theorem impl_FromParts.tab12 : rtab .any (opsOf Try.f36 12) = impl_FromParts.T12 := by kernel_rfl
theorem impl_FromParts.bits12 : waitsOk impl_FromParts.T12.2 impl_FromParts.B12 = true := by kernel_rfl
set_option maxHeartbeats 8000000 in
set_option maxRecDepth 100000 in
theorem impl_FromParts.calls (k : Nat) (A0 : Option Addr) (c0 : Nat) (l0 : List (List Int)) (A1 : Option Addr) (c1 : Nat) (l1 : List Int) (r1 : List (List Int)) (r2 : Bool) (w : World) (hr0 : Kd.C (Kd.slice 3 (Kd.int .i64)) w A0 l0.length l0) (hc0 : l0.length ≤ c0) (hr1 : Kd.C (Kd.int .i64) w A1 l1.length l1) (hc1 : l1.length ≤ c1) (h : impl_FromParts.f k l0 l1 = some (r1, r2)) :
    Calls Try.prog 36 #[.slice A0 l0.length c0, .slice A1 l1.length c1] w fun e w' => ∃ v0_ : Value, e = .returned (.tuple #[v0_, .bool r2]) ∧ Kd.S (Kd.slice 3 (Kd.int .i64)) 28 w' w.heap.size (fun _ => True) v0_ r1 ∧ Below w.heap.size w w' := by
  have HR0 := Aside0.mk hr0
  have HC0 := Aside0.mk hc0
  clear hr0 hc0
  have HR1 := Aside0.mk hr1
  have HC1 := Aside0.mk hc1
  clear hr1 hc1
  have HB := Aside0.mk (Below.refl w.heap.size w)
  have H : ((impl_within.f (l0.length : Int) 1 40).bind fun t464 => (if t464 = true then (if (l1.length : Int) = (l0.length : Int) then ((impl_allWithin.f k l1 0 1000000).bind fun t465 => (impl_FromParts.j0 k l1 l0 (!t465))) else (impl_FromParts.j0 k l1 l0 true)) else (impl_FromParts.j0 k l1 l0 true))) = some (r1, r2) := h
  clear h
  have HC3 := Aside0.mk H
  clear H
  go_enter Try.func36, Try.ntmps36
  go_upto_region 1 with (fail)
  have hbx : (w.alloc (.cells #[.slice A0 l0.length c0] 22)).cell? ⟨w.heap.size, 0, none⟩ = some (.slice A0 l0.length c0) := by simp
  have hb0 : Below w.heap.size w (w.alloc (.cells #[.slice A0 l0.length c0] 22)) := below_alloc (Below.refl _ _) _
  have hlt : w.heap.size < (w.alloc (.cells #[.slice A0 l0.length c0] 22)).heap.size := by simp
  generalize w.alloc (.cells #[.slice A0 l0.length c0] 22) = wb at hbx hb0 hlt ⊢
  clear HB
  have HB := Aside0.mk hb0
  have HLT := Aside0.mk hlt
  clear hb0 hlt
  go_cut [26] (fun v26 wc => ∃ (kq : Nat) (x26_2 : Bool), v26 = .bool x26_2 ∧ Aside0 (impl_FromParts.j0 kq l1 l0 x26_2 = some (r1, r2)) ∧ Aside0 (kq ≤ k) ∧ Aside0 (Below w.heap.size w wc) ∧ Aside0 (wc.cell? ⟨w.heap.size, 0, none⟩ = some (.slice A0 l0.length c0) ∧ w.heap.size < wc.heap.size))
  case first =>
    have H := HC3.out
    clear HC3
    replace H := Option.bind_eq_some_iff.mp H
    obtain ⟨t464, A40, H⟩ := H
    replace H : (if t464 = true then (if (l1.length : Int) = (l0.length : Int) then ((impl_allWithin.f k l1 0 1000000).bind fun t465 => (impl_FromParts.j0 k l1 l0 (!t465))) else (impl_FromParts.j0 k l1 l0 true)) else (impl_FromParts.j0 k l1 l0 true)) = some (r1, r2) := H
    have A4 := Aside0.mk A40
    clear A40
    by_cases c5 : t464 = true
    · subst c5
      have H1 : (if (l1.length : Int) = (l0.length : Int) then ((impl_allWithin.f k l1 0 1000000).bind fun t465 => (impl_FromParts.j0 k l1 l0 (!t465))) else (impl_FromParts.j0 k l1 l0 true)) = some (r1, r2) := by rw [if_pos rfl] at H; exact H
      clear H
      have H := H1
      clear H1
      by_cases c6 : (l1.length : Int) = (l0.length : Int)
      · rw [if_pos c6] at H
        have c6b0 : ((l1.length : Int) == (l0.length : Int)) = true := beq_iff_eq.mpr c6
        have c6b1 : ((l1.length : Int) != (l0.length : Int)) = false := bne_eq_false_iff_eq.mpr c6
        have c6b2 : (l1.length == l0.length) = true := by first | simpa using c6 | (simp at c6 ⊢; omega)
        clear c6
        (first | rw [c6b0] | (simp only [i64_w, i32_w]; rw [c6b0]) | skip)
        replace H := Option.bind_eq_some_iff.mp H
        obtain ⟨t465, A70, H⟩ := H
        replace H : (impl_FromParts.j0 k l1 l0 (!t465)) = some (r1, r2) := H
        have A7 := Aside0.mk A70
        clear A70
        have H' := Aside0.mk H
        clear H
        go_wp2_with (first | ((with_reducible refine gate_callee (f := 41) rfl ?_); refine goesL_ (some 13) rfl rfl Try.func41 (by kernel_rfl) rfl #[.int .i64 (l0.length : Int), .int .i64 1, .int .i64 40] rfl (by (try simp only [List.map_toArray, List.map_cons, List.map_nil]); first | done | rfl | (simp only [List.length_drop, List.length_take]; rfl)) ?_; (with_reducible refine (impl_within.calls (l0.length : Int) 1 40 true _ A4.out).mono ?_); rintro e w' ⟨rfl, ⟨nd, rfl⟩⟩; refine ⟨_, rfl, ?_⟩) | (go_at_call 63; (with_reducible refine (impl_allWithin.calls k _ _ l1 0 1000000 t465 _ ?side1 ?side2 A7.out).mono ?_); (case side1 => repeat (first | exact (Kd.C_below HR1.out (by repeat (first | (with_reducible first | exact HB.out | apply below_alloc | apply pw_below_drewN | apply below_drew1) | exact HB.out))) | (with_reducible refine Kd.C_alloc ?_ _) | (with_reducible refine Kd.C_drewN ?_ _) | (with_reducible refine Kd.C_drew ?_))); (case side2 => exact HC1.out); rintro e w' ⟨rfl, ⟨nd, rfl⟩⟩))
        go_meet
        case rel => exact ⟨_, (!t465), (by first | rfl | (simp; done) | (simp [*]; done)), H', ⟨by first | omega | exact Nat.le_refl _⟩, ⟨by repeat (first | (with_reducible first | exact HB.out | apply below_alloc | apply pw_below_drewN | apply below_drew1) | exact HB.out)⟩, ⟨by exact ⟨hbx, HLT.out⟩⟩⟩
      · rw [if_neg c6] at H
        have c6b0 : ((l1.length : Int) == (l0.length : Int)) = false := beq_eq_false_iff_ne.mpr c6
        have c6b1 : ((l1.length : Int) != (l0.length : Int)) = true := bne_iff_ne.mpr c6
        have c6b2 : (l1.length == l0.length) = false := by first | simpa using c6 | (simp at c6 ⊢; omega)
        (first | rw [c6b0] | (simp only [i64_w, i32_w]; rw [c6b0]) | skip)
        have H' := Aside0.mk H
        clear H
        go_wp2_with (first | ((with_reducible refine gate_callee (f := 41) rfl ?_); refine goesL_ (some 13) rfl rfl Try.func41 (by kernel_rfl) rfl #[.int .i64 (l0.length : Int), .int .i64 1, .int .i64 40] rfl (by (try simp only [List.map_toArray, List.map_cons, List.map_nil]); first | done | rfl | (simp only [List.length_drop, List.length_take]; rfl)) ?_; (with_reducible refine (impl_within.calls (l0.length : Int) 1 40 true _ A4.out).mono ?_); rintro e w' ⟨rfl, ⟨nd, rfl⟩⟩; refine ⟨_, rfl, ?_⟩))
        go_meet
        case rel => exact ⟨_, (true), (by first | rfl | (simp; done) | (simp [*]; done)), H', ⟨by first | omega | exact Nat.le_refl _⟩, ⟨by repeat (first | (with_reducible first | exact HB.out | apply below_alloc | apply pw_below_drewN | apply below_drew1) | exact HB.out)⟩, ⟨by exact ⟨hbx, HLT.out⟩⟩⟩
    · replace c5 := Bool.eq_false_iff.mpr c5
      subst c5
      have H1 : (impl_FromParts.j0 k l1 l0 true) = some (r1, r2) := by rw [if_neg (show ¬ (false = true) by decide)] at H; exact H
      clear H
      have H := H1
      clear H1
      have H' := Aside0.mk H
      clear H
      go_wp2_with (first | ((with_reducible refine gate_callee (f := 41) rfl ?_); refine goesL_ (some 13) rfl rfl Try.func41 (by kernel_rfl) rfl #[.int .i64 (l0.length : Int), .int .i64 1, .int .i64 40] rfl (by (try simp only [List.map_toArray, List.map_cons, List.map_nil]); first | done | rfl | (simp only [List.length_drop, List.length_take]; rfl)) ?_; (with_reducible refine (impl_within.calls (l0.length : Int) 1 40 false _ A4.out).mono ?_); rintro e w' ⟨rfl, ⟨nd, rfl⟩⟩; refine ⟨_, rfl, ?_⟩))
      go_meet
      case rel => exact ⟨_, (true), (by first | rfl | (simp; done) | (simp [*]; done)), H', ⟨by first | omega | exact Nat.le_refl _⟩, ⟨by repeat (first | (with_reducible first | exact HB.out | apply below_alloc | apply pw_below_drewN | apply below_drew1) | exact HB.out)⟩, ⟨by exact ⟨hbx, HLT.out⟩⟩⟩
  case rest =>
    clear HC3
    try clear c1
    try clear p2
    try clear c3
    try clear c4
    try clear c5
    try clear c6
    try clear c6b0
    try clear c6b1
    try clear c6b2
    obtain ⟨kq, x26_2, rfl, HA, HJ2, HB, HX⟩ := hcut
    clear hbx
    have hbx := HX.out.1
    cases kq with
    | zero => exact absurd HA.out (by simp [impl_FromParts.j0])
    | succ kj2 =>
      have H := HA.out
      clear HA
      simp only [impl_FromParts.j0] at H
      by_cases c8 : x26_2 = true
      · subst c8
        have H1 : (some (([] : List (List Int)), false)) = some (r1, r2) := by rw [if_pos rfl] at H; exact H
        clear H
        have H := H1
        clear H1
        simp only [Option.some.injEq, Prod.mk.injEq] at H
        obtain ⟨rfl, rfl⟩ := H
        go_wp2
        go_ret2
        exact ⟨_, by first | rfl | (simp [errW_none, errW_some] <;> rfl) | (simp [*, errW_none, errW_some] <;> rfl), by first | exact Kd.S_nil _ _ _ _ _ | exact Kd.N_nil _ _ _ _ _ | exact Kd.V_nil _ _ _ _ _ | exact Kd.Q_nil _ _ _ _ _ | exact Kd.R_nil _ _ _ _ _, by repeat (first | (with_reducible first | exact HB.out | apply below_alloc | apply pw_below_drewN | apply below_drew1) | exact HB.out)⟩
      · replace c8 := Bool.eq_false_iff.mpr c8
        subst c8
        have H1 : ((badAny l0).bind fun t466 => (if t466 = true then (some (([] : List (List Int)), false)) else (if 0 < (l0.length : Int) then ((impl_square.f zeroF kj2 ((rd_L1 l0 0).length : Int)).bind fun t468 => (impl_FromParts.l0 kj2 l1 t468 l0 (l0.length : Int) 0)) else (none)))) = some (r1, r2) := by rw [if_neg (show ¬ (false = true) by decide)] at H; exact H
        clear H
        have H := H1
        clear H1
        replace H := Option.bind_eq_some_iff.mp H
        obtain ⟨t466, A90, H⟩ := H
        replace H : (if t466 = true then (some (([] : List (List Int)), false)) else (if 0 < (l0.length : Int) then ((impl_square.f zeroF kj2 ((rd_L1 l0 0).length : Int)).bind fun t468 => (impl_FromParts.l0 kj2 l1 t468 l0 (l0.length : Int) 0)) else (none))) = some (r1, r2) := H
        have A9 := Aside0.mk A90
        clear A90
        by_cases c10 : t466 = true
        · subst c10
          have H1 : (some (([] : List (List Int)), false)) = some (r1, r2) := by rw [if_pos rfl] at H; exact H
          clear H
          have H := H1
          clear H1
          simp only [Option.some.injEq, Prod.mk.injEq] at H
          obtain ⟨rfl, rfl⟩ := H
          go_wp2_with (first | ((with_reducible refine gate_callee (f := 64) rfl ?_); refine goesL_ (some 29) rfl rfl Try.func64 (by kernel_rfl) rfl #[.slice A0 l0.length c0, .func (.func 65) #[] #[.pointer (some ⟨w.heap.size, 0, none⟩)]] rfl (by (try simp only [List.map_toArray, List.map_cons, List.map_nil]); first | done | rfl | (simp only [List.length_drop, List.length_take]; rfl)) ?_; (with_reducible refine (fpAny_calls w.heap.size _ _ l0 true _ ?side0 ?side1 ?side2 A9.out).mono ?_); (case side0 => exact hbx); (case side1 => repeat (first | exact (Kd.C_below HR0.out HB.out) | (with_reducible refine Kd.C_alloc ?_ _) | (with_reducible refine Kd.C_drewN ?_ _) | (with_reducible refine Kd.C_drew ?_))); (case side2 => exact HC0.out); rintro e w11 ⟨rfl, hb⟩; refine ⟨_, rfl, ?_⟩; have n0_ := Aside0.mk (below_step (by repeat (first | (with_reducible first | exact HB.out | apply below_alloc | apply pw_below_drewN | apply below_drew1) | exact HB.out)) hb); clear HB; have HB := n0_; clear n0_; (try clear hb); (try clear hb2); (try clear hk); (try clear hi)))
          go_ret2
          exact ⟨_, by first | rfl | (simp [errW_none, errW_some] <;> rfl) | (simp [*, errW_none, errW_some] <;> rfl), by first | exact Kd.S_nil _ _ _ _ _ | exact Kd.N_nil _ _ _ _ _ | exact Kd.V_nil _ _ _ _ _ | exact Kd.Q_nil _ _ _ _ _ | exact Kd.R_nil _ _ _ _ _, by repeat (first | (with_reducible first | exact HB.out | apply below_alloc | apply pw_below_drewN | apply below_drew1) | exact HB.out)⟩
        · replace c10 := Bool.eq_false_iff.mpr c10
          subst c10
          have H1 : (if 0 < (l0.length : Int) then ((impl_square.f zeroF kj2 ((rd_L1 l0 0).length : Int)).bind fun t468 => (impl_FromParts.l0 kj2 l1 t468 l0 (l0.length : Int) 0)) else (none)) = some (r1, r2) := by rw [if_neg (show ¬ (false = true) by decide)] at H; exact H
          clear H
          have H := H1
          clear H1
          by_cases c12 : 0 < (l0.length : Int)
          · rw [if_pos c12] at H
            have c12b0 : decide (0 < (l0.length : Int)) = true := decide_eq_true c12
            have c12b1 : decide (0 < l0.length) = true := decide_eq_true (by omega)
            clear c12
            replace H := Option.bind_eq_some_iff.mp H
            obtain ⟨t468, A130, H⟩ := H
            replace H : (impl_FromParts.l0 kj2 l1 t468 l0 (l0.length : Int) 0) = some (r1, r2) := H
            have A13 := Aside0.mk A130
            clear A130
            have H' := Aside0.mk H
            clear H
            go_wp2_with (first | ((with_reducible refine gate_callee (f := 64) rfl ?_); refine goesL_ (some 29) rfl rfl Try.func64 (by kernel_rfl) rfl #[.slice A0 l0.length c0, .func (.func 65) #[] #[.pointer (some ⟨w.heap.size, 0, none⟩)]] rfl (by (try simp only [List.map_toArray, List.map_cons, List.map_nil]); first | done | rfl | (simp only [List.length_drop, List.length_take]; rfl)) ?_; (with_reducible refine (fpAny_calls w.heap.size _ _ l0 false _ ?side0 ?side1 ?side2 A9.out).mono ?_); (case side0 => exact hbx); (case side1 => repeat (first | exact (Kd.C_below HR0.out HB.out) | (with_reducible refine Kd.C_alloc ?_ _) | (with_reducible refine Kd.C_drewN ?_ _) | (with_reducible refine Kd.C_drew ?_))); (case side2 => exact HC0.out); rintro e w14 ⟨rfl, hb⟩; refine ⟨_, rfl, ?_⟩; (have hbx2 := tab_bx hb hbx HX.out.2); clear hbx; (have hbx := hbx2); clear hbx2; have HLT2 := Aside0.mk (Nat.lt_of_lt_of_le HX.out.2 hb.size); have n0_ := Aside0.mk (below_step (by repeat (first | (with_reducible first | exact HB.out | apply below_alloc | apply pw_below_drewN | apply below_drew1) | exact HB.out)) hb); clear HB; have HB := n0_; clear n0_; (try clear hb); (try clear hb2); (try clear hk); (try clear hi); have p467 : 0 ≤ (0 : Int) := (by omega); have q467 : 0 < (l0.length : Int) := of_decide_eq_true (by first | (with_reducible assumption) | assumption); obtain ⟨ad467, A467_0, c467_0, e467, hx467_0, hl467_0, hi467_0⟩ := at_L1 HR0.out 0 p467 q467; cases e467; have qi467 : (0 < l0.length) = True := eq_true (by omega); (try rw [show ((0 : Int)).toNat = 0 from rfl] at hx467_0); (try rw [Addr.add_zero'] at hx467_0); replace hx467_0 := (HB.out.cell (World.block_lt_of_cell? w _ hx467_0)).trans hx467_0; have HR467_0 := Aside0.mk hi467_0; have HC467_0 := Aside0.mk hl467_0; clear hi467_0 hl467_0; replace p467 := eq_true p467; replace q467 := eq_true q467) | ((with_reducible refine gate_callee (f := 46) rfl ?_); refine goesL_ (some 34) rfl rfl Try.func46 (by kernel_rfl) rfl #[.int .i64 ((rd_L1 l0 0).length : Int), .func (.func 66) #[] #[]] rfl (by (try simp only [List.map_toArray, List.map_cons, List.map_nil]); first | done | rfl | (simp only [List.length_drop, List.length_take]; rfl)) ?_; (with_reducible refine (impl_square.calls zeroF 66 #[] (fun args w => enters_ Try.func66 (by kernel_rfl) rfl args w) kj2 ((rd_L1 l0 0).length : Int) t468 _ zero_cell A13.out).mono ?_); rintro e w15 ⟨v469, rfl, ho0, hb⟩; refine ⟨_, rfl, ?_⟩; (have hbx2 := tab_bx hb hbx HLT2.out); clear hbx; (have hbx := hbx2); clear hbx2; have n0_ := Aside0.mk (Kd.S_lower ho0 (below_size (by repeat (first | (with_reducible first | exact HB.out | apply below_alloc | apply pw_below_drewN | apply below_drew1) | exact HB.out)))); have n1_ := Aside0.mk (below_step (by repeat (first | (with_reducible first | exact HB.out | apply below_alloc | apply pw_below_drewN | apply below_drew1) | exact HB.out)) hb); clear HB; have HO470 := n0_; have HB := n1_; clear n0_ n1_; (try clear hb); (try clear hb2); (try clear hk); (try clear hi); (try clear ho0)))
            go_loopg [37] kj2 (fun kq v37 w' => ∃ (x6_2 : List (List Int)) (x37_2 : Int), v37 = .int .i64 x37_2 ∧ Aside0 (impl_FromParts.l0 kq l1 x6_2 l0 (l0.length : Int) x37_2 = some (r1, r2)) ∧ Aside0 (kq ≤ kj2) ∧ Aside0 (Kd.S (Kd.slice 3 (Kd.int .i64)) 28 w' w.heap.size (fun _ => True) v469 x6_2) ∧ Aside0 (Below w.heap.size w w'))
            case atStart => exact ⟨(t468), (0), (by first | rfl | (simp; done) | (simp [*]; done)), H', ⟨Nat.le_refl _⟩, ⟨by (with_reducible repeat (first | apply Kd.S_alloc | apply Kd.S_drewN | apply Kd.S_drew)); exact HO470.out⟩, ⟨by repeat (first | (with_reducible first | exact HB.out | apply below_alloc | apply pw_below_drewN | apply below_drew1) | exact HB.out)⟩⟩
            case round =>
              clear H'
              try clear c1
              try clear p2
              try clear c3
              try clear c4
              try clear p4
              try clear q4
              try clear hx4
              try clear qi4
              try clear c5
              try clear c6
              try clear c6b0
              try clear c6b1
              try clear c6b2
              try clear c8
              try clear c10
              try clear c12
              try clear c12b0
              try clear c12b1
              try clear hx467_0
              try clear p2
              try clear p467
              try clear q467
              obtain ⟨x6_2, x37_2, rfl, HA, HK2, HO_6, HB⟩ := hrel
              cases gk with
              | zero => exact absurd HA.out (by simp [impl_FromParts.l0])
              | succ k2 =>
                have H := HA.out
                clear HA
                simp only [impl_FromParts.l0] at H
                by_cases c16 : x37_2 < (l0.length : Int)
                · rw [if_pos c16] at H
                  have c16b0 : decide (x37_2 < (l0.length : Int)) = true := decide_eq_true c16
                  clear c16
                  by_cases c17 : 0 ≤ x37_2
                  · rw [if_pos c17] at H
                    have c17b0 : decide (0 ≤ x37_2) = true := decide_eq_true c17
                    clear c17
                    by_cases c18 : x37_2 < (l0.length : Int)
                    · rw [if_pos c18] at H
                      have c18b0 : decide (x37_2 < (l0.length : Int)) = true := decide_eq_true c18
                      clear c18
                      have H' := Aside0.mk H
                      clear H
                      have p475 : 0 ≤ (x37_2 : Int) := of_decide_eq_true (by first | (with_reducible assumption) | assumption)
                      have q475 : x37_2 < (l0.length : Int) := of_decide_eq_true (by first | (with_reducible assumption) | assumption)
                      obtain ⟨ad475, A475_0, c475_0, e475, hx475_0, hl475_0, hi475_0⟩ := at_L1 HR0.out x37_2 p475 q475
                      obtain rfl : ad467 = ad475 := (by injection e475)
                      replace hx475_0 := (HB.out.cell (World.block_lt_of_cell? w _ hx475_0)).trans hx475_0
                      have HR475_0 := Aside0.mk hi475_0
                      have HC475_0 := Aside0.mk hl475_0
                      clear hi475_0 hl475_0
                      replace p475 := eq_true p475
                      replace q475 := eq_true q475
                      go_wp2
                      go_loopg [44] k2 (fun kq v44 w' => ∃ (x6_3 : List (List Int)) (x44_3 : Int), v44 = .int .i64 x44_3 ∧ Aside0 (impl_FromParts.l1 kq l1 x6_3 x37_2 l0 (l0.length : Int) x37_2 (rd_L1 l0 x37_2) ((rd_L1 l0 x37_2).length : Int) x44_3 = some (r1, r2)) ∧ Aside0 (kq ≤ k2) ∧ Aside0 (Kd.S (Kd.slice 3 (Kd.int .i64)) 28 w' w.heap.size (fun _ => True) v469 x6_3) ∧ Aside0 (Below w.heap.size w w'))
                      case atStart => exact ⟨(x6_2), (0), (by first | rfl | (simp; done) | (simp [*]; done)), H', ⟨Nat.le_refl _⟩, ⟨by (with_reducible repeat (first | apply Kd.S_alloc | apply Kd.S_drewN | apply Kd.S_drew)); exact HO_6.out⟩, ⟨by repeat (first | (with_reducible first | exact HB.out | apply below_alloc | apply pw_below_drewN | apply below_drew1) | exact HB.out)⟩⟩
                      case round =>
                        clear H'
                        try clear c1
                        try clear p2
                        try clear c3
                        try clear c4
                        try clear p4
                        try clear q4
                        try clear hx4
                        try clear qi4
                        try clear c5
                        try clear c6
                        try clear c6b0
                        try clear c6b1
                        try clear c6b2
                        try clear c8
                        try clear c10
                        try clear c12
                        try clear c12b0
                        try clear c12b1
                        try clear c16
                        try clear c16b0
                        try clear c17
                        try clear c17b0
                        try clear c18
                        try clear c18b0
                        try clear hx467_0
                        try clear hx475_0
                        try clear p2
                        try clear p4
                        try clear p467
                        try clear p475
                        try clear q4
                        try clear q467
                        try clear q475
                        obtain ⟨x6_3, x44_3, rfl, HA, HK3, HO_6, HB⟩ := hrel
                        cases gk with
                        | zero => exact absurd HA.out (by simp [impl_FromParts.l1])
                        | succ k3 =>
                          have H := HA.out
                          clear HA
                          simp only [impl_FromParts.l1] at H
                          by_cases c19 : x44_3 < ((rd_L1 l0 x37_2).length : Int)
                          · rw [if_pos c19] at H
                            have c19b0 : decide (x44_3 < ((rd_L1 l0 x37_2).length : Int)) = true := decide_eq_true c19
                            clear c19
                            by_cases c20 : 0 ≤ x44_3
                            · rw [if_pos c20] at H
                              have c20b0 : decide (0 ≤ x44_3) = true := decide_eq_true c20
                              clear c20
                              by_cases c21 : x44_3 < ((rd_L1 l0 x37_2).length : Int)
                              · rw [if_pos c21] at H
                                have c21b0 : decide (x44_3 < ((rd_L1 l0 x37_2).length : Int)) = true := decide_eq_true c21
                                clear c21
                                by_cases c22 : x44_3 < (x6_3.length : Int)
                                · rw [if_pos c22] at H
                                  have c22b0 : decide (x44_3 < (x6_3.length : Int)) = true := decide_eq_true c22
                                  clear c22
                                  by_cases c23 : 0 ≤ (rd (rd_L1 l0 x37_2) x44_3)
                                  · rw [if_pos c23] at H
                                    have c23b0 : decide (0 ≤ (rd (rd_L1 l0 x37_2) x44_3)) = true := decide_eq_true c23
                                    clear c23
                                    by_cases c24 : (rd (rd_L1 l0 x37_2) x44_3) < ((rd_L1 x6_3 x44_3).length : Int)
                                    · rw [if_pos c24] at H
                                      have c24b0 : decide ((rd (rd_L1 l0 x37_2) x44_3) < ((rd_L1 x6_3 x44_3).length : Int)) = true := decide_eq_true c24
                                      clear c24
                                      by_cases c25 : 0 ≤ x37_2
                                      · rw [if_pos c25] at H
                                        have c25b0 : decide (0 ≤ x37_2) = true := decide_eq_true c25
                                        clear c25
                                        by_cases c26 : x37_2 < (l1.length : Int)
                                        · rw [if_pos c26] at H
                                          have c26b0 : decide (x37_2 < (l1.length : Int)) = true := decide_eq_true c26
                                          clear c26
                                          obtain ⟨y480, hy480⟩ : ∃ y_ : List Int, y_ = ((rd_L1 x6_3 x44_3).set ((rd (rd_L1 l0 x37_2) x44_3) : Int).toNat (wrap64 ((rd (rd_L1 x6_3 x44_3) (rd (rd_L1 l0 x37_2) x44_3)) + (rd l1 x37_2)))) := ⟨_, rfl⟩
                                          replace H : (impl_FromParts.l1 k3 l1 (x6_3.set (x44_3 : Int).toNat y480) x37_2 l0 (l0.length : Int) x37_2 (rd_L1 l0 x37_2) ((rd_L1 l0 x37_2).length : Int) (wrap64 (x44_3 + 1))) = some (r1, r2) := by first | (rw [hy480]; with_reducible exact H) | (have H2_ := (Option.bind_some _ _).symm.trans H; rw [hy480]; with_reducible exact H2_) | (have H2_ := (Option.bind_some _ _).symm.trans H; with_reducible exact H2_) | with_reducible exact H | (rw [hy480]; exact H) | exact H
                                          have Ny480 := Aside0.mk hy480
                                          clear hy480
                                          obtain ⟨y482, hy482⟩ : ∃ y_ : List (List Int), y_ = (x6_3.set (x44_3 : Int).toNat y480) := ⟨_, rfl⟩
                                          replace H : (impl_FromParts.l1 k3 l1 y482 x37_2 l0 (l0.length : Int) x37_2 (rd_L1 l0 x37_2) ((rd_L1 l0 x37_2).length : Int) (wrap64 (x44_3 + 1))) = some (r1, r2) := by first | (rw [hy482]; with_reducible exact H) | (have H2_ := (Option.bind_some _ _).symm.trans H; rw [hy482]; with_reducible exact H2_) | (have H2_ := (Option.bind_some _ _).symm.trans H; with_reducible exact H2_) | with_reducible exact H | (rw [hy482]; exact H) | exact H
                                          have Ny482 := Aside0.mk hy482
                                          clear hy482
                                          have H' := Aside0.mk H
                                          clear H
                                          have p476 : 0 ≤ (x44_3 : Int) := of_decide_eq_true (by first | (with_reducible assumption) | assumption)
                                          have q476 : x44_3 < ((rd_L1 l0 x37_2).length : Int) := of_decide_eq_true (by first | (with_reducible assumption) | assumption)
                                          obtain ⟨ad476, e476, hx476_0⟩ := Kd.at_int HR475_0.out x44_3 p476 q476
                                          cases e476
                                          replace hx476_0 := (HB.out.cell (World.block_lt_of_cell? w _ hx476_0)).trans hx476_0
                                          replace p476 := eq_true p476
                                          replace q476 := eq_true q476
                                          try go_wp2
                                          have n0_ := Aside0.mk (Kd.S_drew HO_6.out)
                                          have n1_ := Aside0.mk (below_drew1 HB.out)
                                          clear HO_6
                                          clear HB
                                          have HO_6 := n0_
                                          have HB := n1_
                                          clear n0_ n1_
                                          obtain ⟨Ao29, co29, eo29⟩ := Kd.S_slice HO_6.out
                                          (first | subst eo29 | (injection eo29 with f1_ f2_ f3_; have f4_ := f1_.symm; have f5_ := f3_.symm; clear f1_ f2_ f3_; subst f4_; subst f5_))
                                          have p477 : 0 ≤ (x44_3 : Int) := of_decide_eq_true (by first | (with_reducible assumption) | assumption)
                                          have q477 : x44_3 < (x6_3.length : Int) := of_decide_eq_true (by first | (with_reducible assumption) | assumption)
                                          obtain ⟨ad477, A477_0, c477_0, e477, hx477_0, hl477_0, hi477_0⟩ := at_L1 (Kd.S_reads' HO_6.out).2.2 x44_3 p477 q477
                                          cases e477
                                          obtain ⟨ce477, hce477, hMe477, hcc477⟩ := Kd.S_get HO_6.out [] x44_3 p477 (by first | exact q477 | exact of_decide_eq_true (by first | (with_reducible assumption) | assumption) | (have e_ := (Kd.S_reads' HO_6.out).1; omega))
                                          obtain ⟨ve477_0, rfl, ge477_0⟩ := hMe477
                                          have hv477_0 := hcc477 0 _ rfl
                                          rw [Nat.add_zero, show ((Kd.slice 3 (Kd.int .i64))).sz = 1 from rfl, Nat.mul_one] at hv477_0
                                          replace hv477_0 := Option.some.inj (hv477_0.symm.trans hx477_0)
                                          rw [hv477_0] at ge477_0
                                          have HL477_0 := Aside0.mk (show Kd.R (Kd.int .i64) 3 _ _ _ _ (rd_L1 x6_3 x44_3) from ge477_0)
                                          clear hv477_0 ge477_0
                                          have HX477_0 := Aside0.mk hx477_0
                                          clear hcc477 hce477
                                          have HR477_0 := Aside0.mk hi477_0
                                          have HC477_0 := Aside0.mk hl477_0
                                          clear hi477_0 hl477_0
                                          replace p477 := eq_true p477
                                          replace q477 := eq_true q477
                                          have p478 : 0 ≤ ((rd (rd_L1 l0 x37_2) x44_3) : Int) := of_decide_eq_true (by first | (with_reducible assumption) | assumption)
                                          have q478 : (rd (rd_L1 l0 x37_2) x44_3) < ((rd_L1 x6_3 x44_3).length : Int) := of_decide_eq_true (by first | (with_reducible assumption) | assumption)
                                          obtain ⟨ad478, e478, hx478_0⟩ := Kd.at_int (by repeat (first | (with_reducible exact HR477_0.out) | (with_reducible refine Kd.C_alloc ?_ _) | (with_reducible refine Kd.C_drewN ?_ _) | (with_reducible refine Kd.C_drew ?_) | exact HR477_0.out)) (rd (rd_L1 l0 x37_2) x44_3) p478 q478
                                          cases e478
                                          replace p478 := eq_true p478
                                          replace q478 := eq_true q478
                                          have p479 : 0 ≤ (x37_2 : Int) := of_decide_eq_true (by first | (with_reducible assumption) | assumption)
                                          have q479 : x37_2 < (l1.length : Int) := of_decide_eq_true (by first | (with_reducible assumption) | assumption)
                                          obtain ⟨ad479, e479, hx479_0⟩ := Kd.at_int HR1.out x37_2 p479 q479
                                          have hw479_0 := hx479_0
                                          cases e479
                                          replace hx479_0 := (HB.out.cell (World.block_lt_of_cell? w _ hx479_0)).trans hx479_0
                                          replace p479 := eq_true p479
                                          replace q479 := eq_true q479
                                          have p27 : 0 ≤ ((rd (rd_L1 l0 x37_2) x44_3) : Int) := of_decide_eq_true (by first | (with_reducible assumption) | assumption)
                                          have q27 : ((rd (rd_L1 l0 x37_2) x44_3) : Int) < (((rd_L1 x6_3 x44_3).length : Int) : Int) := of_decide_eq_true (by first | (with_reducible assumption) | assumption)
                                          obtain ⟨go27, co27, eo27, gb27, gl27, cl27, HG27⟩ := Kd.R_form HL477_0.out (by omega)
                                          (first | cases eo27 | (injection eo27 with ea_ en_ ec_; (first | subst ea_ | (injection ea_ with ea_; subst ea_)); subst ec_; clear en_))
                                          have GB27 := Aside0.mk gb27
                                          have GG27 := Aside0.mk HG27
                                          clear gb27 gl27 HG27
                                          (first | simp only [add_plain] at hx478_0 | skip)
                                          obtain ⟨hx27_0, hf27_0⟩ := Kd.R_celln 0 HL477_0.out ((rd (rd_L1 l0 x37_2) x44_3) : Int) p27 q27
                                          replace p27 := eq_true p27
                                          replace q27 := eq_true q27
                                          have hq30 : (x44_3 : Int) < (x6_3.length : Int) := (by have h_ : (x44_3 : Int) < ((x6_3.length : Int) : Int) := of_decide_eq_true (by first | (with_reducible assumption) | assumption); first | exact h_ | (have e_ := (Kd.S_reads' HO_6.out).1; omega) | simpa only [List.length_set, List.length_set] using h_)
                                          obtain ⟨oki30, ce30, hcl30, hM30, hcc30, hok30, hbk30⟩ := Kd.S_borrow HO_6.out [] (x44_3 : Int) (of_decide_eq_true (by first | (with_reducible assumption) | assumption)) (by first | exact hq30 | (have e_ := (Kd.S_reads' HO_6.out).1; omega))
                                          obtain ⟨ve30_0, rfl, ge30_0⟩ := hM30
                                          have hv30 := hcc30 0 _ rfl
                                          rw [Nat.add_zero, show ((Kd.slice 3 (Kd.int .i64))).sz = 1 from rfl, Nat.mul_one] at hv30
                                          replace hv30 := Option.some.inj (hv30.symm.trans HX477_0.out)
                                          subst hv30
                                          clear hcc30 hcl30
                                          replace ge30_0 := (show Kd.R (Kd.int .i64) 3 _ _ _ _ (rd_L1 x6_3 x44_3) from ge30_0)
                                          have HP30 := Kd.R_putg ge30_0 ((rd (rd_L1 l0 x37_2) x44_3) : Int) (wrap64 ((rd (rd_L1 x6_3 x44_3) (rd (rd_L1 l0 x37_2) x44_3)) + (rd l1 x37_2)))
                                          rw [← Ny480.out] at HP30
                                          have HS30 := hbk30 HP30.2 (fun k_ e_ => by injection e_ with e_; subst e_; exact ge30_0.1 _ rfl) (x' := y480) (Kd.M_row HP30.1)
                                          rw [← Ny482.out] at HS30
                                          have HQ30 := Aside0.mk HS30
                                          clear HP30 HS30 hbk30 hok30
                                          refine start_ (n := 14) (S := fun w' => w'.cell? (ad477.add (x44_3).toNat) = some (.slice (some ⟨go27, 0, none⟩) (rd_L1 x6_3 x44_3).length c477_0) ∧ w'.cell? ⟨go27, ((rd (rd_L1 l0 x37_2) x44_3)).toNat, none⟩ = some (.int .i64 (rd (rd_L1 x6_3 x44_3) (rd (rd_L1 l0 x37_2) x44_3))) ∧ w'.cell? (ad479.add (x37_2).toNat) = some (.int .i64 (rd l1 x37_2))) (ds := [13]) #[false, false, false, false, false, false, false, false, false, false, false, false, false, false] (by kernel_rfl) rfl rfl ⟨hx477_0, hx478_0, ((HB.out.cell (World.block_lt_of_cell? w _ hw479_0)).trans hw479_0)⟩ (fun hHeld => ?_); refine with_tabW impl_FromParts.tab12 impl_FromParts.bits12 (fun HT_ HW_ => ?_)
                                          generalize wr.drew = w28 at HO_6 HB GG27 HL477_0 HQ30 HR477_0 HX477_0 hf27_0 hx27_0 hx477_0 hx478_0 hx479_0 hHeld ⊢
                                          refine pure_ (i := 0) (N := some 49) (v := ?_) (a' := ?_) #[true, false, false, false, false, false, false, false, false, false, false, false, false, false] rfl rfl (any_of HT_.out (by kernel_rfl)) (fun _ _ _ h => h) (Or.inl ⟨by rfl, ?_⟩) ?_ ?_
                                          rotate_left
                                          · intro w'
                                            go_simp
                                            with_reducible rfl
                                          rotate_left
                                          · simp only [Act.put, List.setIfInBounds_toArray, List.set_cons_zero, List.set_cons_succ, i64_w, i32_w]
                                            rfl
                                          refine pure_ (i := 1) (N := some 50) (v := ?_) (a' := ?_) #[true, true, false, false, false, false, false, false, false, false, false, false, false, false] rfl rfl (any_of HT_.out (by kernel_rfl)) (fun _ _ _ h => h) (Or.inl ⟨by rfl, ?_⟩) ?_ ?_
                                          rotate_left
                                          · intro w'
                                            go_simp
                                            with_reducible rfl
                                          rotate_left
                                          · simp only [Act.put, List.setIfInBounds_toArray, List.set_cons_zero, List.set_cons_succ, i64_w, i32_w]
                                            rfl
                                          refine pure_ (i := 2) (N := some 51) (v := ?_) (a' := ?_) #[true, true, true, false, false, false, false, false, false, false, false, false, false, false] rfl rfl (any_of HT_.out (by kernel_rfl)) (fun _ _ _ h => h) (Or.inl ⟨by rfl, ?_⟩) ?_ ?_
                                          rotate_left
                                          · intro w'
                                            go_simp
                                            with_reducible rfl
                                          rotate_left
                                          · simp only [Act.put, List.setIfInBounds_toArray, List.set_cons_zero, List.set_cons_succ, i64_w, i32_w]
                                            rfl
                                          refine pure_ (i := 4) (N := some 53) (v := ?_) (a' := ?_) #[true, true, true, false, true, false, false, false, false, false, false, false, false, false] rfl rfl (any_of HT_.out (by kernel_rfl)) (fun _ _ _ h => h) (Or.inl ⟨by rfl, ?_⟩) ?_ ?_
                                          rotate_left
                                          · intro w'
                                            go_simp
                                            with_reducible rfl
                                          rotate_left
                                          · simp only [Act.put, List.setIfInBounds_toArray, List.set_cons_zero, List.set_cons_succ, i64_w, i32_w]
                                            rfl
                                          refine pure_ (i := 7) (N := some 56) (v := ?_) (a' := ?_) #[true, true, true, false, true, false, false, true, false, false, false, false, false, false] rfl rfl (any_of HT_.out (by kernel_rfl)) (fun _ _ _ h => h) (Or.inl ⟨by rfl, ?_⟩) ?_ ?_
                                          rotate_left
                                          · intro w'
                                            go_simp
                                            with_reducible rfl
                                          rotate_left
                                          · simp only [Act.put, List.setIfInBounds_toArray, List.set_cons_zero, List.set_cons_succ, i64_w, i32_w]
                                            rfl
                                          refine pure_ (i := 8) (N := some 57) (v := ?_) (a' := ?_) #[true, true, true, false, true, false, false, true, true, false, false, false, false, false] rfl rfl (any_of HT_.out (by kernel_rfl)) (fun _ _ _ h => h) (Or.inl ⟨by rfl, ?_⟩) ?_ ?_
                                          rotate_left
                                          · intro w'
                                            go_simp
                                            with_reducible rfl
                                          rotate_left
                                          · simp only [Act.put, List.setIfInBounds_toArray, List.set_cons_zero, List.set_cons_succ, i64_w, i32_w]
                                            rfl
                                          refine pure_ (i := 9) (N := some 58) (v := ?_) (a' := ?_) #[true, true, true, false, true, false, false, true, true, true, false, false, false, false] rfl rfl (any_of HT_.out (by kernel_rfl)) (fun _ _ _ h => h) (Or.inl ⟨by rfl, ?_⟩) ?_ ?_
                                          rotate_left
                                          · intro w'
                                            go_simp
                                            with_reducible rfl
                                          rotate_left
                                          · simp only [Act.put, List.setIfInBounds_toArray, List.set_cons_zero, List.set_cons_succ, i64_w, i32_w]
                                            rfl
                                          refine take_ (i := 3) (N := some 52) (v := ?_) (a' := ?_) #[true, true, true, true, true, false, false, true, true, true, false, false, false, false] rfl rfl (take_ofW HT_.out HW_.out (by kernel_rfl)) (fun _ _ _ h => h) (Or.inl ⟨by rfl, ?_⟩) hHeld ?_ ?_
                                          rotate_left
                                          · rintro w' ⟨s0, s1, s2⟩
                                            go_simp
                                            with_reducible rfl
                                          rotate_left
                                          · simp only [Act.put, List.setIfInBounds_toArray, List.set_cons_zero, List.set_cons_succ, i64_w, i32_w]
                                            rfl
                                          refine pure_ (i := 5) (N := some 54) (v := ?_) (a' := ?_) #[true, true, true, true, true, true, false, true, true, true, false, false, false, false] rfl rfl (any_of HT_.out (by kernel_rfl)) (fun _ _ _ h => h) (Or.inl ⟨by rfl, ?_⟩) ?_ ?_
                                          rotate_left
                                          · intro w'
                                            go_simp
                                            with_reducible rfl
                                          rotate_left
                                          · simp only [Act.put, List.setIfInBounds_toArray, List.set_cons_zero, List.set_cons_succ, i64_w, i32_w]
                                            rfl
                                          refine take_ (i := 6) (N := some 55) (v := ?_) (a' := ?_) #[true, true, true, true, true, true, true, true, true, true, false, false, false, false] rfl rfl (take_ofW HT_.out HW_.out (by kernel_rfl)) (fun _ _ _ h => h) (Or.inl ⟨by rfl, ?_⟩) hHeld ?_ ?_
                                          rotate_left
                                          · rintro w' ⟨s0, s1, s2⟩
                                            go_simp
                                            with_reducible rfl
                                          rotate_left
                                          · simp only [Act.put, List.setIfInBounds_toArray, List.set_cons_zero, List.set_cons_succ, i64_w, i32_w]
                                            rfl
                                          refine take_ (i := 10) (N := some 59) (v := ?_) (a' := ?_) #[true, true, true, true, true, true, true, true, true, true, true, false, false, false] rfl rfl (take_ofW HT_.out HW_.out (by kernel_rfl)) (fun _ _ _ h => h) (Or.inl ⟨by rfl, ?_⟩) hHeld ?_ ?_
                                          rotate_left
                                          · rintro w' ⟨s0, s1, s2⟩
                                            go_simp
                                            with_reducible rfl
                                          rotate_left
                                          · simp only [Act.put, List.setIfInBounds_toArray, List.set_cons_zero, List.set_cons_succ, i64_w, i32_w]
                                            rfl
                                          refine pure_ (i := 11) (N := some 60) (v := ?_) (a' := ?_) #[true, true, true, true, true, true, true, true, true, true, true, true, false, false] rfl rfl (any_of HT_.out (by kernel_rfl)) (fun _ _ _ h => h) (Or.inl ⟨by rfl, ?_⟩) ?_ ?_
                                          rotate_left
                                          · intro w'
                                            go_simp
                                            with_reducible rfl
                                          rotate_left
                                          · simp only [Act.put, List.setIfInBounds_toArray, List.set_cons_zero, List.set_cons_succ, i64_w, i32_w]
                                            rfl
                                          refine pure_ (i := 12) (N := some 61) (v := ?_) (a' := ?_) #[true, true, true, true, true, true, true, true, true, true, true, true, true, false] rfl rfl (any_of HT_.out (by kernel_rfl)) (fun _ _ _ h => h) (Or.inl ⟨by rfl, ?_⟩) ?_ ?_
                                          rotate_left
                                          · intro w'
                                            go_simp
                                            with_reducible rfl
                                          rotate_left
                                          · simp only [Act.put, List.setIfInBounds_toArray, List.set_cons_zero, List.set_cons_succ, i64_w, i32_w]
                                            rfl
                                          refine last_ (i := 13) (N := none) #[true, true, true, true, true, true, true, true, true, true, true, true, true, true] rfl rfl (one_of HT_.out (by kernel_rfl)) (by decide) (fun K hK => ?_)
                                          refine skip_ (w1 := ?_) (by rfl) rfl ?_ ?_
                                          rotate_left
                                          · go_simp
                                            rfl
                                          refine hK.out _ _ ?_
                                          clear hK K
                                          refine done_ (done_of HT_.out (by kernel_rfl)) ?_
                                          try go_wp2
                                          go_roundg k3
                                          case measure => have := HJ2.out; have := HK2.out; have := HK3.out; omega
                                          case rel => exact ⟨(y482), (wrap64 (x44_3 + 1)), (by first | rfl | (simp; done) | (simp [*]; done)), H', ⟨by have := HJ2.out; have := HK2.out; have := HK3.out; omega⟩, ⟨by (with_reducible repeat (first | apply Kd.S_alloc | apply Kd.S_drewN | apply Kd.S_drew)); exact HQ30.out⟩, ⟨by repeat (first | (with_reducible first | exact HB.out | apply below_alloc | apply pw_below_drewN | apply below_drew1 | refine below_set ?_ GB27.out) | exact HB.out)⟩⟩
                                        · rw [if_neg c26] at H
                                          exact absurd H (by simp)
                                      · rw [if_neg c25] at H
                                        exact absurd H (by simp)
                                    · rw [if_neg c24] at H
                                      exact absurd H (by simp)
                                  · rw [if_neg c23] at H
                                    exact absurd H (by simp)
                                · rw [if_neg c22] at H
                                  exact absurd H (by simp)
                              · rw [if_neg c21] at H
                                exact absurd H (by simp)
                            · rw [if_neg c20] at H
                              exact absurd H (by simp)
                          · rw [if_neg c19] at H
                            have c19b0 : decide (x44_3 < ((rd_L1 l0 x37_2).length : Int)) = false := decide_eq_false c19
                            clear c19
                            have H' := Aside0.mk H
                            clear H
                            go_wp2
                            go_roundg k3
                            case measure => have := HJ2.out; have := HK2.out; have := HK3.out; omega
                            case rel => exact ⟨(x6_3), (wrap64 (x37_2 + 1)), (by first | rfl | (simp; done) | (simp [*]; done)), H', ⟨by have := HJ2.out; have := HK2.out; have := HK3.out; omega⟩, ⟨by (with_reducible repeat (first | apply Kd.S_alloc | apply Kd.S_drewN | apply Kd.S_drew)); exact HO_6.out⟩, ⟨by repeat (first | (with_reducible first | exact HB.out | apply below_alloc | apply pw_below_drewN | apply below_drew1) | exact HB.out)⟩⟩
                    · rw [if_neg c18] at H
                      exact absurd H (by simp)
                  · rw [if_neg c17] at H
                    exact absurd H (by simp)
                · rw [if_neg c16] at H
                  have c16b0 : decide (x37_2 < (l0.length : Int)) = false := decide_eq_false c16
                  clear c16
                  replace H := Option.bind_eq_some_iff.mp H
                  obtain ⟨⟨t471, t472⟩, A320, H⟩ := H
                  replace H : (some (t471, t472)) = some (r1, r2) := H
                  have A32 := Aside0.mk A320
                  clear A320
                  simp only [Option.some.injEq, Prod.mk.injEq] at H
                  obtain ⟨rfl, rfl⟩ := H
                  obtain ⟨Ao33, co33, eo33⟩ := Kd.S_slice HO_6.out
                  subst eo33
                  go_wp2_with (first | ((with_reducible refine gate_callee (f := 55) rfl ?_); refine goesL_ (some 65) rfl rfl Try.func55 (by kernel_rfl) rfl #[.slice Ao33 x6_2.length co33] rfl (by (try simp only [List.map_toArray, List.map_cons, List.map_nil]); first | done | rfl | (simp only [List.length_drop, List.length_take]; rfl)) ?_; (refine (impl_checked.calls _ w.heap.size _ _ x6_2 t471 t472 _ (by (with_reducible repeat (first | apply Kd.S_alloc | apply Kd.S_drewN | apply Kd.S_drew)); exact HO_6.out) A32.out).mono ?_); rintro e w34 ⟨v473, rfl, ho0, hb⟩; refine ⟨_, rfl, ?_⟩; have HO474 := Aside0.mk ho0; have n2_ := Aside0.mk (below_step (by repeat (first | (with_reducible first | exact HB.out | apply below_alloc | apply pw_below_drewN | apply below_drew1) | exact HB.out)) hb); clear HO_6 HB; have HB := n2_; clear n2_ hb ho0))
                  go_ret2
                  exact ⟨_, by first | rfl | (simp [errW_none, errW_some] <;> rfl) | (simp [*, errW_none, errW_some] <;> rfl), by (with_reducible repeat (first | apply Kd.S_alloc | apply Kd.S_drewN | apply Kd.S_drew)); exact Kd.S_mono HO474.out (fun _ hk => trivial), by repeat (first | (with_reducible first | exact HB.out | apply below_alloc | apply pw_below_drewN | apply below_drew1) | exact HB.out)⟩
          · rw [if_neg c12] at H
            exact absurd H (by simp)
end Go.Proofs.Ytogjadakonakcaa.A

/- markIntSS: what it writes into rows of rows that lie apart. -/
namespace Go.Proofs.Ytogjadakonakcaa.A
open Go.RowKit Go.Proofs.YtogjadakonakcaaW.PrintWords Go.Proofs.YtogjadakonakcaaW.PrintLast Go.Proofs.YtogjadakonakcaaW.PrintMore
attribute [local go_sem] max2_int min2_int max_two min_two max_three min_three max_four min_four
set_option linter.unusedVariables false
set_option linter.unusedSimpArgs false

def mks (a : Int) (n : Nat) : List Int := (List.range n).map fun (j : Nat) => a + (j : Int)
def totSS (l : List (List Int)) : Nat := (l.map List.length).sum
def markSS : Int → List (List Int) → List (List Int)
  | _, [] => []
  | a, x :: l => mks a x.length :: markSS (a + (x.length : Int)) l
theorem totSS_append (x y : List (List Int)) : totSS (x ++ y) = totSS x + totSS y := by simp [totSS]
theorem totSS_take {l : List (List Int)} {i : Nat} (h : i < l.length) : totSS (l.take (i + 1)) = totSS (l.take i) + (l[i]).length := by
  rw [List.take_succ_eq_append_getElem h, totSS_append]
  simp [totSS]
theorem totSS_le (l : List (List Int)) (i : Nat) : totSS (l.take i) ≤ totSS l := by
  have h := totSS_append (l.take i) (l.drop i)
  rw [List.take_append_drop] at h
  omega
theorem markSS_length : ∀ (a : Int) (l : List (List Int)), (markSS a l).length = l.length
  | _, [] => rfl
  | a, x :: l => by simp [markSS, markSS_length _ l]
theorem markSS_append : ∀ (a : Int) (x y : List (List Int)), markSS a (x ++ y) = markSS a x ++ markSS (a + (totSS x : Int)) y
  | a, [], y => by simp [markSS, totSS]
  | a, z :: x, y => by
    have e : a + (z.length : Int) + (totSS x : Int) = a + (totSS (z :: x) : Int) := by simp [totSS]; omega
    rw [List.cons_append, markSS, markSS_append, markSS, e, List.cons_append]
theorem markSS_step (a : Int) (l : List (List Int)) (i : Nat) (h : i < l.length) : (markSS a (l.take i) ++ l.drop i).set i (mks (a + (totSS (l.take i) : Int)) (l[i]).length) = markSS a (l.take (i + 1)) ++ l.drop (i + 1) := by
  have hl : (markSS a (l.take i)).length = i := by rw [markSS_length, List.length_take]; omega
  rw [List.set_append_right _ _ (by omega), hl, Nat.sub_self, List.drop_eq_getElem_cons h, List.set_cons_zero, List.take_succ_eq_append_getElem h, markSS_append, List.append_assoc]
  rfl
theorem markSS_at (a : Int) (l : List (List Int)) (i : Nat) (h : i < l.length) : (markSS a (l.take i) ++ l.drop i).getD i [] = l[i] := by
  have hl : (markSS a (l.take i)).length = i := by rw [markSS_length, List.length_take]; omega
  rw [List.getD_eq_getElem?_getD, List.getElem?_append_right (by omega), hl, Nat.sub_self, List.getElem?_drop, Nat.add_zero, List.getElem?_eq_getElem h]
  rfl
set_option maxHeartbeats 4000000 in
set_option maxRecDepth 100000 in
theorem markSS_calls (hm : ∀ (xs : List Int) (a : Int), 0 ≤ a → a + (xs.length : Int) ≤ 9223372036854775807 → ∃ k, laws_markIntS.f k xs a = some (a + (xs.length : Int), mks a xs.length)) (P : Nat → Prop) (v : Value) (xs : List (List Int)) (a : Int) (w W : World) (h0 : 0 ≤ a) (hbig : a + (totSS xs : Int) ≤ 4611686018427387903) (hxl : xs.length ≤ 4611686018427387903) (hB : Below w.heap.size w W) (hS : Kd.S (Kd.slice 3 (Kd.int .i64)) 28 W w.heap.size P v xs) :
    Calls Try.prog 15 #[v, .int .i64 a] W fun e w' => e = .returned (.int .i64 (a + (totSS xs : Int))) ∧ Kd.S (Kd.slice 3 (Kd.int .i64)) 28 w' w.heap.size P v (markSS a xs) ∧ Below w.heap.size w w' ∧ Kept W w' P := by
  obtain ⟨A, c, rfl⟩ := Kd.S_slice hS
  go_enter Try.func15, Try.ntmps15
  go_wp2
  go_loopg [1, 5] xs.length (fun g v1 v5 wr => ∃ i : Nat, i ≤ xs.length ∧ xs.length - i ≤ g ∧ v1 = .int .i64 (a + (totSS (xs.take i) : Int)) ∧ v5 = .int .i64 (i : Int) ∧ Aside0 (Kd.S (Kd.slice 3 (Kd.int .i64)) 28 wr w.heap.size P (.slice A xs.length c) (markSS a (xs.take i) ++ xs.drop i)) ∧ Aside0 (Below w.heap.size w wr) ∧ Aside0 (Kept W wr P))
  case atStart => exact ⟨0, Nat.zero_le _, by omega, by simp [totSS], rfl, ⟨by (with_reducible repeat (first | apply Kd.S_alloc | apply Kd.S_drewN | apply Kd.S_drew)); simpa [markSS] using hS⟩, ⟨by repeat (first | (with_reducible first | exact hB | apply below_alloc | apply pw_below_drewN | apply below_drew1) | exact hB)⟩, ⟨by repeat (first | exact Kept.refl _ _ | apply Kept.drewN | apply Kept.drew)⟩⟩
  case round =>
    obtain ⟨i, hi, hg, rfl, rfl, HS, HB, HK⟩ := hrel
    by_cases hlt : i < xs.length
    · have c0 : decide ((i : Int) < (xs.length : Int)) = true := decide_eq_true (by omega)
      have hlen : (markSS a (xs.take i) ++ xs.drop i).length = xs.length := by rw [List.length_append, markSS_length, List.length_take, List.length_drop]; omega
      obtain ⟨g, cap, he, _⟩ := Kd.S_form HS.out (by omega)
      injection he with he1 he2 he3
      subst he1
      obtain ⟨oki, cc, hcl, ⟨vi, hcc, hR⟩, hcell, hoki, hH⟩ := Kd.S_lend HS.out [] (i : Int) (by omega) (by omega)
      subst hcc
      rw [Int.toNat_natCast, markSS_at a xs i hlt] at hR
      have hce := hcell 0 vi rfl
      rw [Int.toNat_natCast] at hce
      have hsz : (Kd.slice 3 (Kd.int .i64)).sz = 1 := rfl
      rw [hsz, Nat.mul_one, Nat.add_zero] at hce
      have hle := totSS_le xs (i + 1)
      rw [totSS_take hlt] at hle
      obtain ⟨k, hk⟩ := hm xs[i] (a + (totSS (xs.take i) : Int)) (by omega) (by omega)
      obtain ⟨Ai, ci, rfl⟩ := Kd.R_slice hR
      have HR := Aside0.mk hR
      have HH := Aside0.mk hH
      have HO := Aside0.mk hoki
      have HKK := Aside0.mk hk
      have p0 : (0 ≤ (i : Int)) = True := eq_true (by omega)
      have q0 : ((i : Int) < (xs.length : Int)) = True := eq_true (by omega)
      clear hR hH hoki hk hcell hlen hle hcl hsz hS hB he2 he3
      go_wp2_with (first | ((with_reducible refine gate_callee (f := 21) rfl ?_); refine goesL_ (some 17) rfl rfl Try.func21 (by kernel_rfl) rfl #[.slice Ai xs[i].length ci, .int .i64 (a + (totSS (xs.take i) : Int))] rfl (by (try simp only [List.map_toArray, List.map_cons, List.map_nil]); first | done | rfl) ?_; (with_reducible refine (laws_markIntS.calls k oki _ xs[i] _ _ _ w _ ?side1 ?side2 HKK.out).mono ?_); (case side1 => repeat (first | (with_reducible first | exact HB.out | apply below_alloc | apply pw_below_drewN | apply below_drew1) | exact HB.out)); (case side2 => (with_reducible repeat (first | apply Kd.R_alloc | apply Kd.R_drewN | apply Kd.R_drew)); exact HR.out); rintro e w27 ⟨rfl, hR2, hb2, hk2⟩; refine ⟨_, rfl, ?_⟩; have HM := Aside0.mk (Kd.R_mono (Kd.R_tight rfl hR2) (fun k hk => HR.out.1 k hk.symm)); have HH2 := Aside0.mk (Kd.H_step (by (with_reducible repeat (first | apply Kd.H_alloc | apply Kd.H_drewN | apply Kd.H_drew)); exact HH.out) (fun k hok hno hlt => hk2.2 k hlt hno)); have HK2 := Aside0.mk (Kept.then_ (by (with_reducible repeat (first | apply Kept.alloc | apply Kept.drewN | apply Kept.drew)); exact HK.out) hk2 (fun k hk => .inl (HO.out k hk).1)); have HB2 := Aside0.mk hb2; clear hR2 hb2 hk2))


      go_roundg (xs.length - (i + 1))
      case measure => omega
      case rel =>
        have hS2 := Kd.H_back HH2.out (x' := mks (a + (totSS (xs.take i) : Int)) xs[i].length) (okp := oki) ⟨_, rfl, HM.out⟩ (fun _ h => h)
        rw [Int.toNat_natCast, markSS_step a xs i hlt] at hS2
        exact ⟨i + 1, by omega, by omega, by rw [totSS_take hlt]; first | (congr 1; omega) | (congr 2; omega), by first | rfl | (rw [show wrap64 ((i : Int) + 1) = ((i + 1 : Nat) : Int) from by rw [wrap64]; omega]) , ⟨by (with_reducible repeat (first | apply Kd.S_alloc | apply Kd.S_drewN | apply Kd.S_drew)); exact hS2⟩, ⟨by repeat (first | (with_reducible first | exact HB2.out | apply below_alloc | apply pw_below_drewN | apply below_drew1) | exact HB2.out)⟩, ⟨by (with_reducible repeat (first | apply Kept.alloc | apply Kept.drewN | apply Kept.drew)); exact HK2.out⟩⟩
    · have hi' : i = xs.length := by omega
      have c0 : decide ((i : Int) < (xs.length : Int)) = false := decide_eq_false (by omega)
      subst hi'
      have HS' : Kd.S (Kd.slice 3 (Kd.int .i64)) 28 wr w.heap.size P (.slice A xs.length c) (markSS a xs) := by
        have := HS.out
        rw [List.take_of_length_le (Nat.le_refl _), List.drop_eq_nil_of_le (Nat.le_refl _), List.append_nil] at this
        exact this
      go_wp2
      go_ret
      exact ⟨by (try rw [List.take_of_length_le (Nat.le_refl _)]); rfl, HS', HB.out, HK.out⟩
end Go.Proofs.Ytogjadakonakcaa.A

namespace Go.Proofs.Ytogjadakonakcaa.A
open Go.RowKit Go.Proofs.YtogjadakonakcaaW.PrintWords Go.Proofs.YtogjadakonakcaaW.PrintLast Go.Proofs.YtogjadakonakcaaW.PrintMore
set_option linter.unusedVariables false
set_option linter.unusedSimpArgs false
theorem eqIntS_l (xs ys : List Int) (hx : xs.length ≤ 9223372036854775807) (hl : xs.length = ys.length) : ∀ (n i : Nat), i + n = xs.length → Ev (fun k => laws_eqIntS.l0 k xs ys (i : Int)) (decide (xs.drop i = ys.drop i))
  | 0, i, h => by
    refine Ev.succ ?_
    simp only [laws_eqIntS.l0, if_neg (show ¬ (i : Int) < (xs.length : Int) by omega)]
    rw [List.drop_eq_nil_of_le (by omega), List.drop_eq_nil_of_le (by omega)]
    exact Ev.now _
  | n + 1, i, h => by
    have hi : i < xs.length := by omega
    have hj : i < ys.length := by omega
    refine Ev.succ ?_
    simp only [laws_eqIntS.l0, if_pos (show (i : Int) < (xs.length : Int) by omega), if_pos (show (i : Int) < (ys.length : Int) by omega), if_pos (show (0 : Int) ≤ (i : Int) by omega), rdn hi, rdn hj, wsucc hi hx]
    rw [List.drop_eq_getElem_cons hi, List.drop_eq_getElem_cons hj]
    by_cases c : xs[i] = ys[i]
    · simp only [c, if_true, List.cons.injEq, true_and]
      exact eqIntS_l xs ys hx hl n (i + 1) (by omega)
    · simp only [c, if_false, List.cons.injEq, false_and, decide_false]
      exact Ev.now _
theorem eqIntS_ev (xs ys : List Int) (hx : xs.length ≤ 9223372036854775807) : Ev (fun k => laws_eqIntS.f k xs ys) (decide (xs = ys)) := by
  unfold laws_eqIntS.f
  by_cases h : xs.length = ys.length
  · simp only [if_pos (show (xs.length : Int) = (ys.length : Int) by omega)]
    exact eqIntS_l xs ys hx h xs.length 0 (by omega)
  · simp only [if_neg (show ¬ (xs.length : Int) = (ys.length : Int) by omega)]
    rw [decide_eq_false (fun e => h (by rw [e]))]
    exact Ev.now _
theorem eqIntS_self (xs : List Int) (hx : xs.length ≤ 9223372036854775807) : Ev (fun k => laws_eqIntS.f k xs xs) true := by
  have h := eqIntS_ev xs xs hx
  rw [decide_eq_true rfl] at h
  exact h
end Go.Proofs.Ytogjadakonakcaa.A

-- made by a program of this repo (wip/pp.py) through the kit's printer
namespace Go.Proofs.Ytogjadakonakcaa.A
open Go.RowKit Go.Proofs.YtogjadakonakcaaW.PrintWords Go.Proofs.YtogjadakonakcaaW.PrintLast Go.Proofs.YtogjadakonakcaaW.PrintMore
attribute [local go_sem] max2_int min2_int max_two min_two max_three min_three max_four min_four
set_option linter.unusedVariables false
set_option linter.unusedSimpArgs false

/-! ### spec_liSum: function 82 -/
def spec_liSum.l0 : Nat → Int → List Int → Int → Int → Option (Int)
  | 0, _, _, _, _ => none
  | k + 1, x3, x6, x7, x8 => if x8 < x7 then (if 0 ≤ x8 then (if x8 < (x6.length : Int) then (spec_liSum.l0 k (wrap64 (x3 + (rd x6 x8))) x6 x7 (wrap64 (x8 + 1))) else (none)) else (none)) else (some x3)
def spec_liSum.f (k : Nat) (l0 : List Int) : Option (Int) := spec_liSum.l0 k 0 l0 (l0.length : Int) 0
end Go.Proofs.Ytogjadakonakcaa.A

-- made by a program of this repo (wip/pp.py) through the kit's printer
namespace Go.Proofs.Ytogjadakonakcaa.A
open Go.RowKit Go.Proofs.YtogjadakonakcaaW.PrintWords Go.Proofs.YtogjadakonakcaaW.PrintLast Go.Proofs.YtogjadakonakcaaW.PrintMore
attribute [local go_sem] max2_int min2_int max_two min_two max_three min_three max_four min_four
set_option linter.unusedVariables false
set_option linter.unusedSimpArgs false

/-! ### spec_doSum: function 67 -/
mutual
def spec_doSum.l0 : Nat → List (List Int) → Int → List (List Int) → Int → Int → Option (Int)
  | 0, _, _, _, _, _ => none
  | k + 1, x0, x3, x13, x14, x15 => if x15 < x14 then (if 0 ≤ x15 then (if x15 < (x13.length : Int) then (spec_doSum.l1 k x0 x3 x15 (rd_L1 x13 x15) 0 x13 x14 x15 x0 (x0.length : Int) 0) else (none)) else (none)) else (some x3)
def spec_doSum.l1 : Nat → List (List Int) → Int → Int → List Int → Int → List (List Int) → Int → Int → List (List Int) → Int → Int → Option (Int)
  | 0, _, _, _, _, _, _, _, _, _, _, _ => none
  | k + 1, x0, x3, x4, x5, x6, x13, x14, x15, x20, x21, x22 => if x22 < x21 then (if 0 ≤ x22 then (if x22 < (x20.length : Int) then (if 0 ≤ x4 then (if x4 < ((rd_L1 x20 x22).length : Int) then (spec_doSum.l1 k x0 x3 x4 x5 (wrap64 (x6 + (rd (rd_L1 x20 x22) x4))) x13 x14 x15 x20 x21 (wrap64 (x22 + 1))) else (none)) else (none)) else (none)) else (none)) else ((spec_liSum.f k x5).bind fun t500 => (if t500 = x3 then (if x6 = x3 then (spec_doSum.l0 k x0 x3 x13 x14 (wrap64 (x15 + 1))) else (some (-1))) else (some (-1))))
end
end Go.Proofs.Ytogjadakonakcaa.A

-- made by a program of this repo (wip/pp.py) through the kit's printer
namespace Go.Proofs.Ytogjadakonakcaa.A
open Go.RowKit Go.Proofs.YtogjadakonakcaaW.PrintWords Go.Proofs.YtogjadakonakcaaW.PrintLast Go.Proofs.YtogjadakonakcaaW.PrintMore
attribute [local go_sem] max2_int min2_int max_two min_two max_three min_three max_four min_four
set_option linter.unusedVariables false
set_option linter.unusedSimpArgs false

/-! ### impl_total: function 72 -/
def impl_total.l0 : Nat → Int → List Int → Int → Int → Option (Int)
  | 0, _, _, _, _ => none
  | k + 1, x3, x6, x7, x8 => if x8 < x7 then (if 0 ≤ x8 then (if x8 < (x6.length : Int) then (impl_total.l0 k (wrap64 (x3 + (rd x6 x8))) x6 x7 (wrap64 (x8 + 1))) else (none)) else (none)) else (some x3)
def impl_total.f (k : Nat) (l0 : List Int) : Option (Int) := impl_total.l0 k 0 l0 (l0.length : Int) 0
end Go.Proofs.Ytogjadakonakcaa.A

-- made by a program of this repo (wip/pp.py) through the kit's printer
namespace Go.Proofs.Ytogjadakonakcaa.A
open Go.RowKit Go.Proofs.YtogjadakonakcaaW.PrintWords Go.Proofs.YtogjadakonakcaaW.PrintLast Go.Proofs.YtogjadakonakcaaW.PrintMore
attribute [local go_sem] max2_int min2_int max_two min_two max_three min_three max_four min_four
set_option linter.unusedVariables false
set_option linter.unusedSimpArgs false

/-! ### impl_equalSum: function 70 -/
mutual
def impl_equalSum.l0 : Nat → List (List Int) → Int → List (List Int) → Int → Int → Option (Int × Bool)
  | 0, _, _, _, _, _ => none
  | k + 1, x0, x4, x14, x15, x16 => if x16 < x15 then (if 0 ≤ x16 then (if x16 < (x14.length : Int) then (impl_equalSum.l1 k x0 x4 x16 (rd_L1 x14 x16) 0 x14 x15 x16 x0 (x0.length : Int) 0) else (none)) else (none)) else (some (x4, true))
def impl_equalSum.l1 : Nat → List (List Int) → Int → Int → List Int → Int → List (List Int) → Int → Int → List (List Int) → Int → Int → Option (Int × Bool)
  | 0, _, _, _, _, _, _, _, _, _, _, _ => none
  | k + 1, x0, x4, x5, x6, x7, x14, x15, x16, x21, x22, x23 => if x23 < x22 then (if 0 ≤ x23 then (if x23 < (x21.length : Int) then (if 0 ≤ x5 then (if x5 < ((rd_L1 x21 x23).length : Int) then (impl_equalSum.l1 k x0 x4 x5 x6 (wrap64 (x7 + (rd (rd_L1 x21 x23) x5))) x14 x15 x16 x21 x22 (wrap64 (x23 + 1))) else (none)) else (none)) else (none)) else (none)) else ((impl_total.f k x6).bind fun t532 => (if t532 = x4 then (if x7 = x4 then (impl_equalSum.l0 k x0 x4 x14 x15 (wrap64 (x16 + 1))) else (some (0, false))) else (some (0, false))))
end
end Go.Proofs.Ytogjadakonakcaa.A

namespace Go.Proofs.Ytogjadakonakcaa.A
open Go.RowKit Go.Proofs.YtogjadakonakcaaW.PrintWords Go.Proofs.YtogjadakonakcaaW.PrintLast Go.Proofs.YtogjadakonakcaaW.PrintMore
set_option linter.unusedVariables false
set_option linter.unusedSimpArgs false
end Go.Proofs.Ytogjadakonakcaa.A

namespace Go.Proofs.Ytogjadakonakcaa.A
open Go.RowKit Go.Proofs.YtogjadakonakcaaW.PrintWords Go.Proofs.YtogjadakonakcaaW.PrintLast Go.Proofs.YtogjadakonakcaaW.PrintMore
set_option linter.unusedVariables false
set_option linter.unusedSimpArgs false
def marks (a : Int) (n : Nat) : List Int := (List.range n).map fun (j : Nat) => a + (j : Int)
theorem marks_length (a : Int) (n : Nat) : (marks a n).length = n := by simp [marks]
theorem marks_get (a : Int) (n i : Nat) (h : i < (marks a n).length) : (marks a n)[i] = a + (i : Int) := by simp [marks]
theorem markIntS_l (a : Int) (m : Nat) (h0 : 0 ≤ a) (hm : a + m ≤ 9223372036854775807) : ∀ (n i : Nat) (xs : List Int), i + n = m → xs.length = m → xs.take i = (marks a m).take i → Ev (fun k => laws_markIntS.l0 k xs (a + (i : Int)) (i : Int)) (a + (m : Int), marks a m)
  | 0, i, xs, h, hl, ht => by
    refine Ev.succ ?_
    simp only [laws_markIntS.l0, if_neg (show ¬ (i : Int) < (xs.length : Int) by omega)]
    rw [List.take_of_length_le (by omega), List.take_of_length_le (by rw [marks_length]; omega)] at ht
    rw [ht, show i = m by omega]
    exact Ev.now _
  | n + 1, i, xs, h, hl, ht => by
    have hi : i < xs.length := by omega
    refine Ev.succ ?_
    simp only [laws_markIntS.l0, if_pos (show (i : Int) < (xs.length : Int) by omega), if_pos (show (0 : Int) ≤ (i : Int) by omega), wsucc hi (by omega), Int.toNat_natCast, show wrap64 (a + (i : Int) + 1) = a + ((i + 1 : Nat) : Int) from by rw [w64 (by omega) (by omega)]; omega]
    refine markIntS_l a m h0 hm n (i + 1) _ (by omega) (by rw [List.length_set]; exact hl) ?_
    rw [List.take_add_one, List.take_add_one, List.take_set_of_le (Nat.le_refl _), ht]
    congr 1
    rw [List.getElem?_set_self (by omega), List.getElem?_eq_getElem (by rw [marks_length]; omega), marks_get]
theorem markIntS_ev (xs : List Int) (a : Int) (h0 : 0 ≤ a) (hm : a + xs.length ≤ 9223372036854775807) : Ev (fun k => laws_markIntS.f k xs a) (a + (xs.length : Int), marks a xs.length) := by
  have h := markIntS_l a xs.length h0 hm xs.length 0 xs (by omega) rfl (by simp)
  simp only [show a + ((0 : Nat) : Int) = a by omega] at h
  exact h
theorem heldIntS_l (a : Int) (m : Nat) (h0 : 0 ≤ a) (hm : a + m ≤ 9223372036854775807) : ∀ (n i : Nat), i + n = m → Ev (fun k => laws_heldIntS.l0 k (marks a m) (a + (i : Int)) (i : Int)) (a + (m : Int))
  | 0, i, h => by
    refine Ev.succ ?_
    simp only [laws_heldIntS.l0, marks_length, if_neg (show ¬ (i : Int) < (m : Int) by omega)]
    rw [show i = m by omega]
    exact Ev.now _
  | n + 1, i, h => by
    have hi : i < (marks a m).length := by rw [marks_length]; omega
    refine Ev.succ ?_
    simp only [laws_heldIntS.l0, rdn hi, marks_get, marks_length, if_pos (show (i : Int) < (m : Int) by omega), if_pos (show (0 : Int) ≤ (i : Int) by omega), wsucc hi (by rw [marks_length]; omega), if_true, show wrap64 (a + (i : Int) + 1) = a + ((i + 1 : Nat) : Int) from by rw [w64 (by omega) (by omega)]; omega]
    exact heldIntS_l a m h0 hm n (i + 1) (by omega)
theorem heldIntS_ev (a : Int) (m : Nat) (h0 : 0 ≤ a) (hm : a + m ≤ 9223372036854775807) : Ev (fun k => laws_heldIntS.f k (marks a m) a) (a + (m : Int)) := by
  have h := heldIntS_l a m h0 hm m 0 (by omega)
  simp only [show a + ((0 : Nat) : Int) = a by omega] at h
  exact h
end Go.Proofs.Ytogjadakonakcaa.A

namespace Go.Proofs.Ytogjadakonakcaa.A
open Go.RowKit Go.Proofs.YtogjadakonakcaaW.PrintWords Go.Proofs.YtogjadakonakcaaW.PrintLast Go.Proofs.YtogjadakonakcaaW.PrintMore
set_option linter.unusedVariables false
set_option linter.unusedSimpArgs false
theorem mks_marks (a : Int) (n : Nat) : mks a n = marks a n := rfl
theorem mark_any (xs : List Int) (a : Int) (h0 : 0 ≤ a) (h1 : a + (xs.length : Int) ≤ 9223372036854775807) : ∃ k, laws_markIntS.f k xs a = some (a + (xs.length : Int), mks a xs.length) := Ev.get (markIntS_ev xs a h0 h1)
theorem markSS_get : ∀ (a : Int) (l : List (List Int)) (i : Nat) (h : i < l.length), (markSS a l)[i]'(by rw [markSS_length]; exact h) = mks (a + (totSS (l.take i) : Int)) (l[i]).length
  | a, [], i, h => by simp at h
  | a, x :: l, 0, h => by simp [markSS, totSS]
  | a, x :: l, i + 1, h => by
    have hi : i < l.length := by simpa using h
    have := markSS_get (a + (x.length : Int)) l i hi
    simp only [markSS, List.getElem_cons_succ, List.take_succ_cons]
    rw [this]
    have e : a + (x.length : Int) + (totSS (l.take i) : Int) = a + (totSS (x :: l.take i) : Int) := by simp [totSS]; omega
    rw [e]
theorem rd_L1n {xs : List (List Int)} {i : Nat} (h : i < xs.length) : rd_L1 xs (i : Int) = xs[i] := by
  unfold rd_L1
  rw [Int.toNat_natCast, List.getD_eq_getElem?_getD, List.getElem?_eq_getElem h]
  rfl
theorem heldIntSS_l (a : Int) (L : List (List Int)) (h0 : 0 ≤ a) (hm : a + (totSS L : Int) ≤ 4611686018427387903) (hl : L.length ≤ 4611686018427387903) : ∀ (n i : Nat), i + n = L.length → Ev (fun k => laws_heldIntSS.l0 k (markSS a L) (a + (totSS (L.take i) : Int)) (i : Int)) (a + (totSS L : Int))
  | 0, i, h => by
    refine Ev.succ ?_
    simp only [laws_heldIntSS.l0, markSS_length, if_neg (show ¬ (i : Int) < (L.length : Int) by omega)]
    rw [List.take_of_length_le (by omega)]
    exact Ev.now _
  | n + 1, i, h => by
    have hi : i < L.length := by omega
    have hi' : i < (markSS a L).length := by rw [markSS_length]; exact hi
    have hle := totSS_le L (i + 1)
    rw [totSS_take hi] at hle
    refine Ev.succ ?_
    simp only [laws_heldIntSS.l0, markSS_length, if_pos (show (i : Int) < (L.length : Int) by omega), if_pos (show (0 : Int) ≤ (i : Int) by omega), rd_L1n hi', markSS_get a L i hi, mks_marks, wsucc hi (by omega)]
    refine Ev.bind (heldIntS_ev (a + (totSS (L.take i) : Int)) (L[i]).length (by omega) (by omega)) ?_
    simp only [if_neg (show ¬ a + (totSS (L.take i) : Int) + ((L[i]).length : Int) < 0 by omega)]
    have := heldIntSS_l a L h0 hm hl n (i + 1) (by omega)
    rw [totSS_take hi] at this
    rw [show a + (totSS (L.take i) : Int) + ((L[i]).length : Int) = a + ((totSS (L.take i) + (L[i]).length : Nat) : Int) by omega]
    exact this
theorem heldIntSS_ev (a : Int) (L : List (List Int)) (h0 : 0 ≤ a) (hm : a + (totSS L : Int) ≤ 4611686018427387903) (hl : L.length ≤ 4611686018427387903) : Ev (fun k => laws_heldIntSS.f k (markSS a L) a) (a + (totSS L : Int)) := by
  have h := heldIntSS_l a L h0 hm hl L.length 0 (by omega)
  simp only [List.take_zero] at h
  rw [show a + (totSS ([] : List (List Int)) : Int) = a by simp [totSS]] at h
  exact h
theorem len_tot {l : List (List Int)} {x : List Int} (h : x ∈ l) : x.length ≤ totSS l := by
  induction l with
  | nil => simp at h
  | cons y l ih =>
    simp only [totSS, List.map_cons, List.sum_cons] at *
    rcases List.mem_cons.1 h with rfl | h
    · omega
    · have := ih h
      omega
theorem eqIntSS_l (L : List (List Int)) (hb : totSS L ≤ 4611686018427387903) (hl : L.length ≤ 4611686018427387903) : ∀ (n i : Nat), i + n = L.length → Ev (fun k => laws_eqIntSS.l0 k L L (i : Int)) true
  | 0, i, h => by
    refine Ev.succ ?_
    simp only [laws_eqIntSS.l0, if_neg (show ¬ (i : Int) < (L.length : Int) by omega)]
    exact Ev.now _
  | n + 1, i, h => by
    have hi : i < L.length := by omega
    have hx := len_tot (List.getElem_mem hi)
    refine Ev.succ ?_
    simp only [laws_eqIntSS.l0, if_pos (show (i : Int) < (L.length : Int) by omega), if_pos (show (0 : Int) ≤ (i : Int) by omega), rd_L1n hi, wsucc hi (by omega)]
    refine Ev.bind (eqIntS_self L[i] (by omega)) ?_
    simp only [if_true]
    exact eqIntSS_l L hb hl n (i + 1) (by omega)
theorem eqIntSS_self (L : List (List Int)) (hb : totSS L ≤ 4611686018427387903) (hl : L.length ≤ 4611686018427387903) : Ev (fun k => laws_eqIntSS.f k L L) true := by
  unfold laws_eqIntSS.f
  simp only [if_true]
  exact eqIntSS_l L hb hl L.length 0 (by omega)
end Go.Proofs.Ytogjadakonakcaa.A

namespace Go.Proofs.Ytogjadakonakcaa.A
open Go.RowKit Go.Proofs.YtogjadakonakcaaW.PrintWords Go.Proofs.YtogjadakonakcaaW.PrintLast Go.Proofs.YtogjadakonakcaaW.PrintMore
set_option linter.unusedVariables false
set_option linter.unusedSimpArgs false
structure Tab (l : List (List Int)) : Prop where
  len : l.length ≤ 6
  row : ∀ x ∈ l, x.length = l.length ∧ ∀ y ∈ x, 0 ≤ y ∧ y ≤ 1000000
theorem square_tab {l : List (List Int)} (h : squareB l = true) : Tab l ∧ 1 ≤ l.length := by
  unfold squareB at h
  rw [Bool.and_eq_true, decide_eq_true_eq, List.all_eq_true] at h
  refine ⟨⟨by omega, fun x hx => ?_⟩, by omega⟩
  have hr := h.2 x hx
  unfold rowB inR at hr
  rw [Bool.and_eq_true, decide_eq_true_eq, List.all_eq_true] at hr
  exact ⟨by omega, fun y hy => by simpa using hr.2 y hy⟩
end Go.Proofs.Ytogjadakonakcaa.A

namespace Go.Proofs.Ytogjadakonakcaa.A
open Go.RowKit Go.Proofs.YtogjadakonakcaaW.PrintWords Go.Proofs.YtogjadakonakcaaW.PrintLast Go.Proofs.YtogjadakonakcaaW.PrintMore
set_option linter.unusedVariables false
set_option linter.unusedSimpArgs false
theorem doGood_l (l : List (List Int)) (hl : l.length ≤ 1048576) (hx : ∀ x ∈ l, x.length ≤ 1048576) : ∀ (n i : Nat), i + n = l.length → Ev (fun k => spec_doGood.l0 k l l (l.length : Int) (i : Int)) (((l.drop i).all (rowB l.length)) && decide ((1 : Int) ≤ l.length ∧ (l.length : Int) ≤ 6))
  | 0, i, h => by
    refine Ev.succ ?_
    simp only [spec_doGood.l0, if_neg (show ¬ (i : Int) < (l.length : Int) by omega), l1In_eq, Option.bind_some]
    rw [List.drop_eq_nil_of_le (by omega), List.all_nil, Bool.true_and]
    exact Ev.now _
  | n + 1, i, h => by
    have hi : i < l.length := by omega
    have hxi := hx _ (List.getElem_mem hi)
    refine Ev.succ ?_
    simp only [spec_doGood.l0, if_pos (show (i : Int) < (l.length : Int) by omega), if_pos (show (0 : Int) ≤ (i : Int) by omega), rd_L1n hi, wsucc hi (by omega)]
    rw [List.drop_eq_getElem_cons hi, List.all_cons]
    by_cases c : ((l[i]).length : Int) = (l.length : Int)
    · simp only [if_pos c]
      refine Ev.bind (l1All_ev l[i] 0 1000000 (by omega)) ?_
      have e : rowB l.length l[i] = inR 0 1000000 l[i] := by
        unfold rowB
        rw [decide_eq_true c, Bool.true_and]
      rw [e]
      cases inR 0 1000000 l[i] with
      | true =>
        simp only [if_true, Bool.true_and]
        exact doGood_l l hl hx n (i + 1) (by omega)
      | false =>
        simp only [Bool.false_eq_true, if_false, Bool.false_and]
        exact Ev.now _
    · have e : rowB l.length l[i] = false := by
        unfold rowB
        rw [decide_eq_false c, Bool.false_and]
      simp only [if_neg c, e, Bool.false_and]
      exact Ev.now _
theorem doGood_ev (l : List (List Int)) (hl : l.length ≤ 1048576) (ht : totSS l ≤ 1048576) : Ev (fun k => spec_doGood.f k l) (squareB l) := by
  have h := doGood_l l hl (fun x h => Nat.le_trans (len_tot h) ht) l.length 0 (by omega)
  rw [List.drop_zero, Bool.and_comm] at h
  exact h
theorem implIsSquare_eq (l : List (List Int)) (hl : l.length ≤ 1048576) (ht : totSS l ≤ 1048576) : impl_IsSquare.f l = some (squareB l) := by
  unfold impl_IsSquare.f
  rw [if_pos ⟨List.all_eq_true.2 fun x h => decide_eq_true (Nat.le_trans (len_tot h) ht), hl⟩]
end Go.Proofs.Ytogjadakonakcaa.A

namespace Go.Proofs.Ytogjadakonakcaa.A
open Go.RowKit Go.Proofs.YtogjadakonakcaaW.PrintWords Go.Proofs.YtogjadakonakcaaW.PrintLast Go.Proofs.YtogjadakonakcaaW.PrintMore
set_option linter.unusedVariables false
set_option linter.unusedSimpArgs false
/-! tables told by a function of row and column -/
def tabG (n : Nat) (G : Nat → Nat → Int) : List (List Int) := (List.range n).map fun i => (List.range n).map fun j => G i j
theorem tabG_length (n : Nat) (G : Nat → Nat → Int) : (tabG n G).length = n := by simp [tabG]
theorem tabG_get {n : Nat} {G : Nat → Nat → Int} {i : Nat} (h : i < (tabG n G).length) : (tabG n G)[i] = (List.range n).map fun j => G i j := by simp [tabG]
theorem tabG_row {n : Nat} (G : Nat → Nat → Int) {i : Nat} (h : i < n) : rd_L1 (tabG n G) (i : Int) = (List.range n).map fun j => G i j := by
  rw [rd_L1n (by rw [tabG_length]; exact h), tabG_get]
theorem tabG_rowlen {n : Nat} (G : Nat → Nat → Int) {i : Nat} (h : i < n) : (rd_L1 (tabG n G) (i : Int)).length = n := by rw [tabG_row G h]; simp
theorem rowG_at {n : Nat} (g : Nat → Int) {j : Nat} (h : j < n) : rd ((List.range n).map g) (j : Int) = g j := by
  rw [rdn (by simpa using h)]
  simp
theorem tabG_at {n : Nat} (G : Nat → Nat → Int) {i j : Nat} (h : i < n) (h' : j < n) : rd (rd_L1 (tabG n G) (i : Int)) (j : Int) = G i j := by rw [tabG_row G h, rowG_at _ h']
theorem tabG_congr {n : Nat} {G G' : Nat → Nat → Int} (h : ∀ i j, i < n → j < n → G i j = G' i j) : tabG n G = tabG n G' := by
  unfold tabG
  refine List.map_congr_left fun i hi => List.map_congr_left fun j hj => h i j (List.mem_range.1 hi) (List.mem_range.1 hj)
def updG (G : Nat → Nat → Int) (i j : Nat) (v : Int) : Nat → Nat → Int := fun a b => if a = i ∧ b = j then v else G a b
theorem rowG_set {n : Nat} (g : Nat → Int) (j : Nat) (v : Int) : ((List.range n).map g).set j v = (List.range n).map fun b => if b = j then v else g b := by
  apply List.ext_getElem
  · simp
  · intro k h1 h2
    simp only [List.length_map, List.length_range, List.length_set] at h1 h2
    rw [List.getElem_set]
    by_cases e : j = k
    · subst e
      simp
    · have e' : ¬ k = j := fun h => e h.symm
      simp [e, e']
theorem tabG_set {n : Nat} (G : Nat → Nat → Int) {i : Nat} (j : Nat) (v : Int) (h : i < n) : (tabG n G).set i ((rd_L1 (tabG n G) (i : Int)).set j v) = tabG n (updG G i j v) := by
  rw [tabG_row G h, rowG_set]
  apply List.ext_getElem
  · simp [tabG]
  · intro k h1 h2
    rw [List.length_set, tabG_length] at h1
    rw [List.getElem_set, tabG_get, tabG_get]
    by_cases e : i = k
    · subst e
      rw [if_pos rfl]
      refine List.map_congr_left fun b _ => ?_
      unfold updG
      by_cases e2 : b = j <;> simp [e2]
    · rw [if_neg e]
      refine List.map_congr_left fun b _ => ?_
      unfold updG
      rw [if_neg (fun h => e h.1.symm)]
theorem tabG_zero (n : Nat) : List.replicate n (List.replicate n (0 : Int)) = tabG n (fun _ _ => 0) := by
  unfold tabG
  apply List.ext_getElem
  · simp
  · intro k h1 h2
    simp only [List.getElem_replicate, List.getElem_map]
    apply List.ext_getElem
    · simp
    · intro k h1 h2
      simp
def atG (l : List (List Int)) (i j : Nat) : Int := rd (rd_L1 l (i : Int)) (j : Int)
theorem tabG_self {l : List (List Int)} (h : ∀ x ∈ l, x.length = l.length) : tabG l.length (atG l) = l := by
  apply List.ext_getElem
  · rw [tabG_length]
  · intro i h1 h2
    rw [tabG_get]
    have hl := h _ (List.getElem_mem h2)
    apply List.ext_getElem
    · simp [hl]
    · intro j h3 h4
      simp only [List.getElem_map, List.getElem_range]
      unfold atG
      rw [rd_L1n h2, rdn h4]
theorem tabG_tot (n : Nat) (G : Nat → Nat → Int) : totSS (tabG n G) = n * n := by
  unfold totSS tabG
  rw [List.map_map]
  have : ∀ m : Nat, ((List.range m).map (List.length ∘ fun i => (List.range n).map fun j => G i j)).sum = m * n := by
    intro m
    induction m with
    | zero => simp
    | succ m ih => rw [List.range_succ, List.map_append, List.sum_append, ih]; simp [Nat.succ_mul]
  exact this n
end Go.Proofs.Ytogjadakonakcaa.A

namespace Go.Proofs.Ytogjadakonakcaa.A
open Go.RowKit Go.Proofs.YtogjadakonakcaaW.PrintWords Go.Proofs.YtogjadakonakcaaW.PrintLast Go.Proofs.YtogjadakonakcaaW.PrintMore
set_option linter.unusedVariables false
set_option linter.unusedSimpArgs false
/-! a table that is told if it is a square one -/
def checkR (u : List (List Int)) : List (List Int) × Bool := if squareB u = true then (u, true) else ([], false)
theorem checkR_bd (u : List (List Int)) : totSS (checkR u).1 ≤ 1000 ∧ (checkR u).1.length ≤ 1000 := by
  unfold checkR
  split
  · next h =>
    obtain ⟨hT, _⟩ := square_tab h
    have hl := hT.len
    have e := tabG_tot u.length (atG u)
    rw [tabG_self (fun x hx => (hT.row x hx).1)] at e
    have := Nat.mul_le_mul hl hl
    show totSS u ≤ 1000 ∧ u.length ≤ 1000
    omega
  · simp [totSS]
theorem checked_eq (u : List (List Int)) (hl : u.length ≤ 1048576) (ht : totSS u ≤ 1048576) : impl_checked.f u = some (checkR u) := by
  unfold impl_checked.f checkR
  rw [implIsSquare_eq u hl ht, Option.bind_some]
  split <;> rfl
theorem checkedG_eq (n : Nat) (hn : n ≤ 6) (G : Nat → Nat → Int) : impl_checked.f (tabG n G) = some (checkR (tabG n G)) := by
  have := Nat.mul_le_mul hn hn
  exact checked_eq _ (by rw [tabG_length]; omega) (by rw [tabG_tot]; omega)
theorem doIf_ev (u : List (List Int)) (hl : u.length ≤ 1048576) (ht : totSS u ≤ 1048576) : Ev (fun k => spec_doIf.f k u) (checkR u) := by
  unfold spec_doIf.f checkR
  exact Ev.bind (doGood_ev u hl ht) (Ev.ite (fun _ => Ev.now _) (fun _ => Ev.now _))
theorem doIfG_ev (n : Nat) (hn : n ≤ 6) (G : Nat → Nat → Int) : Ev (fun k => spec_doIf.f k (tabG n G)) (checkR (tabG n G)) := by
  have := Nat.mul_le_mul hn hn
  exact doIf_ev _ (by rw [tabG_length]; omega) (by rw [tabG_tot]; omega)
end Go.Proofs.Ytogjadakonakcaa.A

namespace Go.Proofs.Ytogjadakonakcaa.A
open Go.RowKit Go.Proofs.YtogjadakonakcaaW.PrintWords Go.Proofs.YtogjadakonakcaaW.PrintLast Go.Proofs.YtogjadakonakcaaW.PrintMore
set_option linter.unusedVariables false
set_option linter.unusedSimpArgs false
theorem doEmpty_l (n : Nat) (hn : n ≤ 1000) : ∀ (m i : Nat), i + m = n → Ev (fun k => spec_doEmpty.l0 k (n : Int) (List.replicate i (List.replicate n 0)) (i : Int)) (tabG n fun _ _ => 0)
  | 0, i, e => by
    have ei : i = n := by omega
    subst ei
    refine Ev.succ ?_
    simp only [spec_doEmpty.l0, if_neg (show ¬ (i : Int) < (i : Int) by omega)]
    rw [tabG_zero]
    exact Ev.now _
  | m + 1, i, e => by
    refine Ev.succ ?_
    have hi : i < n := by omega
    simp only [spec_doEmpty.l0, if_pos (show (i : Int) < (n : Int) by omega), if_pos (show (0 : Int) ≤ (n : Int) by omega), Int.toNat_natCast, if_pos (show n ≤ 35184372088832 by omega), List.length_replicate, if_pos (show i < 5864062014805 by omega), wsucc hi (by omega)]
    have := doEmpty_l n hn m (i + 1) (by omega)
    rw [List.replicate_succ'] at this
    exact this
theorem doEmpty_ev (n : Nat) (hn : n ≤ 1000) : Ev (fun k => spec_doEmpty.f k (n : Int)) (tabG n fun _ _ => 0) := by
  unfold spec_doEmpty.f
  exact doEmpty_l n hn n 0 (by omega)
end Go.Proofs.Ytogjadakonakcaa.A

-- made by a program of this repo (wip/pp.py) through the kit's printer
namespace Go.Proofs.Ytogjadakonakcaa.A
open Go.RowKit Go.Proofs.YtogjadakonakcaaW.PrintWords Go.Proofs.YtogjadakonakcaaW.PrintLast Go.Proofs.YtogjadakonakcaaW.PrintMore
attribute [local go_sem] max2_int min2_int max_two min_two max_three min_three max_four min_four
set_option linter.unusedVariables false
set_option linter.unusedSimpArgs false

end Go.Proofs.Ytogjadakonakcaa.A

/- PlacingTable: the table of a placing, by a function that has captured it. -/
namespace Go.Proofs.Ytogjadakonakcaa.A
open Go.RowKit Go.Proofs.YtogjadakonakcaaW.PrintWords Go.Proofs.YtogjadakonakcaaW.PrintLast Go.Proofs.YtogjadakonakcaaW.PrintMore
attribute [local go_sem] max2_int min2_int max_two min_two max_three min_three max_four min_four
set_option linter.unusedVariables false
set_option linter.unusedSimpArgs false

end Go.Proofs.Ytogjadakonakcaa.A

namespace Go.Proofs.Ytogjadakonakcaa.A
open Go.RowKit Go.Proofs.YtogjadakonakcaaW.PrintWords Go.Proofs.YtogjadakonakcaaW.PrintLast Go.Proofs.YtogjadakonakcaaW.PrintMore
set_option linter.unusedVariables false
set_option linter.unusedSimpArgs false
/-! square, doEmpty: what they make -/
theorem square_l1 (F : Int → Int → Option Int) (G : Nat → Nat → Int) (n : Nat) (hn : n ≤ 1000) (hF : ∀ i j, i < n → j < n → F (i : Int) (j : Int) = some (G i j)) (i : Nat) (hi : i < n) (X : List (List Int)) {r : List (List Int)} (hr : Ev (fun k => if X.length < 5864062014805 then impl_square.l0 F k (n : Int) (X ++ [(List.range n).map fun j => G i j]) (n : Int) ((i + 1 : Nat) : Int) else none) r) : ∀ (m j : Nat), j + m = n → Ev (fun k => impl_square.l1 F k (n : Int) X (i : Int) ((List.range j).map fun j => G i j) (n : Int) (i : Int) (n : Int) (j : Int)) r
  | 0, j, e => by
    have ej : j = n := by omega
    subst ej
    refine Ev.succ ?_
    simp only [impl_square.l1, if_neg (show ¬ (j : Int) < (j : Int) by omega), wsucc hi (by omega)]
    exact hr
  | m + 1, j, e => by
    refine Ev.succ ?_
    have hj : j < n := by omega
    simp only [impl_square.l1, if_pos (show (j : Int) < (n : Int) by omega), hF i j hi hj, Option.bind_some, List.length_map, List.length_range, if_pos (show j < 17592186044416 by omega), wsucc hj (by omega)]
    have := square_l1 F G n hn hF i hi X hr m (j + 1) (by omega)
    rw [List.range_succ, List.map_append] at this
    exact this
theorem square_l0 (F : Int → Int → Option Int) (G : Nat → Nat → Int) (n : Nat) (hn : n ≤ 1000) (hF : ∀ i j, i < n → j < n → F (i : Int) (j : Int) = some (G i j)) : ∀ (m i : Nat), i + m = n → Ev (fun k => impl_square.l0 F k (n : Int) ((List.range i).map fun i => (List.range n).map fun j => G i j) (n : Int) (i : Int)) (tabG n G)
  | 0, i, e => by
    have ei : i = n := by omega
    subst ei
    refine Ev.succ ?_
    simp only [impl_square.l0, if_neg (show ¬ (i : Int) < (i : Int) by omega)]
    exact Ev.now _
  | m + 1, i, e => by
    refine Ev.succ ?_
    have hi : i < n := by omega
    simp only [impl_square.l0, if_pos (show (i : Int) < (n : Int) by omega)]
    refine square_l1 F G n hn hF i hi _ ?_ n 0 (by omega)
    simp only [List.length_map, List.length_range, if_pos (show i < 5864062014805 by omega)]
    have := square_l0 F G n hn hF m (i + 1) (by omega)
    rw [List.range_succ, List.map_append] at this
    exact this
theorem square_ev (F : Int → Int → Option Int) (G : Nat → Nat → Int) (n : Nat) (hn : n ≤ 1000) (hF : ∀ i j, i < n → j < n → F (i : Int) (j : Int) = some (G i j)) : Ev (fun k => impl_square.f F k (n : Int)) (tabG n G) := by
  unfold impl_square.f
  exact square_l0 F G n hn hF n 0 (by omega)
end Go.Proofs.Ytogjadakonakcaa.A

namespace Go.Proofs.Ytogjadakonakcaa.A
open Go.RowKit Go.Proofs.YtogjadakonakcaaW.PrintWords Go.Proofs.YtogjadakonakcaaW.PrintLast Go.Proofs.YtogjadakonakcaaW.PrintMore
set_option linter.unusedVariables false
set_option linter.unusedSimpArgs false
theorem placeB_len {l0 : List Int} (h : placeB l0 = true) : 1 ≤ l0.length ∧ l0.length ≤ 6 ∧ l0.Nodup ∧ ∀ x ∈ l0, 0 ≤ x ∧ x < (l0.length : Int) := by
  unfold placeB at h
  split at h
  · next h1 =>
    split at h
    · next h2 =>
      unfold inR at h
      simp only [List.all_eq_true, decide_eq_true_eq] at h
      exact ⟨by omega, by omega, h2, fun x hx => by have := h x hx; omega⟩
    · cases h
  · cases h
end Go.Proofs.Ytogjadakonakcaa.A

namespace Go.Proofs.Ytogjadakonakcaa.A
open Go.RowKit Go.Proofs.YtogjadakonakcaaW.PrintWords Go.Proofs.YtogjadakonakcaaW.PrintLast Go.Proofs.YtogjadakonakcaaW.PrintMore
set_option linter.unusedVariables false
set_option linter.unusedSimpArgs false
/-! FromParts -/
def sumK (ps : List (List Int)) (cs : List Int) : Nat → Nat → Nat → Int
  | 0, _, _ => 0
  | k + 1, a, b => sumK ps cs k a b + (if rd (rd_L1 ps (k : Int)) (a : Int) = (b : Int) then rd cs (k : Int) else 0)
theorem sumK_bd (ps : List (List Int)) (cs : List Int) (hc : ∀ k, k < cs.length → 0 ≤ rd cs (k : Int) ∧ rd cs (k : Int) ≤ 1000000) (a b : Nat) : ∀ k, k ≤ cs.length → 0 ≤ sumK ps cs k a b ∧ sumK ps cs k a b ≤ 1000000 * (k : Int)
  | 0, _ => by simp [sumK]
  | k + 1, h => by
    have ih := sumK_bd ps cs hc a b k (by omega)
    have h1 := hc k (by omega)
    unfold sumK
    split <;> omega
structure Parts (ps : List (List Int)) (cs : List Int) (n : Nat) : Prop where
  len : cs.length = ps.length
  few : ps.length ≤ 40
  n6 : n ≤ 6
  pl : ∀ k, k < ps.length → (rd_L1 ps (k : Int)).length = n ∧ ∀ i, i < n → 0 ≤ rd (rd_L1 ps (k : Int)) (i : Int) ∧ rd (rd_L1 ps (k : Int)) (i : Int) < (n : Int)
  cs : ∀ k, k < cs.length → 0 ≤ rd cs (k : Int) ∧ rd cs (k : Int) ≤ 1000000
def midK (ps : List (List Int)) (cs : List Int) (k i : Nat) (a b : Nat) : Int := if a < i then sumK ps cs (k + 1) a b else sumK ps cs k a b
theorem midK_step {ps : List (List Int)} {cs : List Int} {n : Nat} (h : Parts ps cs n) {k i : Nat} (hk : k < ps.length) (hi : i < n) (x : Nat) (hx : rd (rd_L1 ps (k : Int)) (i : Int) = (x : Int)) : tabG n (updG (midK ps cs k i) i x (wrap64 (midK ps cs k i i x + rd cs (k : Int)))) = tabG n (midK ps cs k (i + 1)) := tabG_congr fun a b ha hb => by
  have hc := h.len
  have hf := h.few
  unfold updG
  by_cases c : a = i ∧ b = x
  · obtain ⟨rfl, rfl⟩ := c
    rw [if_pos ⟨rfl, rfl⟩]
    unfold midK
    have b1 := sumK_bd ps cs h.cs a b k (by omega)
    have b2 := h.cs k (by omega)
    rw [if_neg (by omega), if_pos (by omega), w64 (by omega) (by omega)]
    show _ = sumK ps cs k a b + _
    rw [if_pos hx]
  · rw [if_neg c]
    unfold midK
    by_cases d : a < i
    · rw [if_pos d, if_pos (by omega)]
    · rw [if_neg d]
      by_cases e : a = i
      · subst e
        rw [if_pos (by omega)]
        show _ = sumK ps cs k a b + _
        rw [hx, if_neg (by omega)]
        omega
      · rw [if_neg (by omega)]
theorem fromI_l1 {ps : List (List Int)} {cs : List Int} {n : Nat} (h : Parts ps cs n) {k : Nat} (hk : k < ps.length) {r : List (List Int) × Bool} (hr : Ev (fun q => impl_FromParts.l0 q cs (tabG n (sumK ps cs (k + 1))) ps (ps.length : Int) ((k + 1 : Nat) : Int)) r) : ∀ (m i : Nat), i + m = n → Ev (fun q => impl_FromParts.l1 q cs (tabG n (midK ps cs k i)) (k : Int) ps (ps.length : Int) (k : Int) (rd_L1 ps (k : Int)) ((rd_L1 ps (k : Int)).length : Int) (i : Int)) r
  | 0, i, e => by
    have hp := (h.pl k hk).1
    have hf := h.few
    refine Ev.succ ?_
    simp only [impl_FromParts.l1, hp, if_neg (show ¬ (i : Int) < (n : Int) by omega), wsucc hk (by omega)]
    rw [tabG_congr (G' := sumK ps cs (k + 1)) (fun a b ha _ => by unfold midK; rw [if_pos (by omega)])]
    exact hr
  | m + 1, i, e => by
    have hp := (h.pl k hk).1
    have hi : i < n := by omega
    have hx := (h.pl k hk).2 i hi
    have hn := h.n6
    have hc := h.len
    obtain ⟨x, hxe⟩ := Int.eq_ofNat_of_zero_le hx.1
    refine Ev.succ ?_
    simp only [impl_FromParts.l1, hp, if_pos (show (i : Int) < (n : Int) by omega), if_pos (show (0 : Int) ≤ (i : Int) by omega), tabG_length, tabG_rowlen _ hi, hxe, if_pos (show (0 : Int) ≤ (x : Int) by omega), if_pos (show (x : Int) < (n : Int) by omega), if_pos (show (0 : Int) ≤ (k : Int) by omega), if_pos (show (k : Int) < (cs.length : Int) by omega), Int.toNat_natCast, tabG_set _ _ _ hi, tabG_at _ hi (show x < n by omega), wsucc hi (by omega)]
    rw [midK_step h hk hi x hxe]
    have ih := fromI_l1 h hk hr m (i + 1) (by omega)
    simp only [hp] at ih
    exact ih
theorem fromI_l0 {ps : List (List Int)} {cs : List Int} {n : Nat} (h : Parts ps cs n) : ∀ (m k : Nat), k + m = ps.length → Ev (fun q => impl_FromParts.l0 q cs (tabG n (sumK ps cs k)) ps (ps.length : Int) (k : Int)) (checkR (tabG n (sumK ps cs ps.length)))
  | 0, k, e => by
    have ek : k = ps.length := by omega
    subst ek
    refine Ev.succ ?_
    simp only [impl_FromParts.l0, if_neg (Int.lt_irrefl _), checkedG_eq _ h.n6, Option.bind_some]
    exact Ev.now _
  | m + 1, k, e => by
    have hk : k < ps.length := by omega
    refine Ev.succ ?_
    simp only [impl_FromParts.l0, if_pos (show (k : Int) < (ps.length : Int) by omega), if_pos (show (0 : Int) ≤ (k : Int) by omega)]
    have := fromI_l1 h hk (fromI_l0 h m (k + 1) (by omega)) n 0 (by omega)
    rw [tabG_congr (G' := sumK ps cs k) (fun a b ha _ => by unfold midK; rw [if_neg (by omega)])] at this
    exact this
theorem fromS_l2 {ps : List (List Int)} {cs : List Int} {n : Nat} (h : Parts ps cs n) {k : Nat} (hk : k < ps.length) {r : List (List Int) × Bool} (hr : Ev (fun q => spec_FromParts.l1 q cs (tabG n (sumK ps cs (k + 1))) ps (ps.length : Int) ((k + 1 : Nat) : Int)) r) : ∀ (m i : Nat), i + m = n → Ev (fun q => spec_FromParts.l2 q cs (tabG n (midK ps cs k i)) (k : Int) ps (ps.length : Int) (k : Int) (rd_L1 ps (k : Int)) ((rd_L1 ps (k : Int)).length : Int) (i : Int)) r
  | 0, i, e => by
    have hp := (h.pl k hk).1
    have hf := h.few
    refine Ev.succ ?_
    simp only [spec_FromParts.l2, hp, if_neg (show ¬ (i : Int) < (n : Int) by omega), wsucc hk (by omega)]
    rw [tabG_congr (G' := sumK ps cs (k + 1)) (fun a b ha _ => by unfold midK; rw [if_pos (by omega)])]
    exact hr
  | m + 1, i, e => by
    have hp := (h.pl k hk).1
    have hi : i < n := by omega
    have hx := (h.pl k hk).2 i hi
    have hn := h.n6
    have hc := h.len
    obtain ⟨x, hxe⟩ := Int.eq_ofNat_of_zero_le hx.1
    refine Ev.succ ?_
    simp only [spec_FromParts.l2, hp, if_pos (show (i : Int) < (n : Int) by omega), if_pos (show (0 : Int) ≤ (i : Int) by omega), tabG_length, tabG_rowlen _ hi, hxe, if_pos (show (0 : Int) ≤ (x : Int) by omega), if_pos (show (x : Int) < (n : Int) by omega), if_pos (show (0 : Int) ≤ (k : Int) by omega), if_pos (show (k : Int) < (cs.length : Int) by omega), Int.toNat_natCast, tabG_set _ _ _ hi, tabG_at _ hi (show x < n by omega), wsucc hi (by omega)]
    rw [midK_step h hk hi x hxe]
    have ih := fromS_l2 h hk hr m (i + 1) (by omega)
    simp only [hp] at ih
    exact ih
theorem fromS_l1 {ps : List (List Int)} {cs : List Int} {n : Nat} (h : Parts ps cs n) : ∀ (m k : Nat), k + m = ps.length → Ev (fun q => spec_FromParts.l1 q cs (tabG n (sumK ps cs k)) ps (ps.length : Int) (k : Int)) (checkR (tabG n (sumK ps cs ps.length)))
  | 0, k, e => by
    have ek : k = ps.length := by omega
    subst ek
    refine Ev.succ ?_
    simp only [spec_FromParts.l1, if_neg (Int.lt_irrefl _)]
    exact Ev.bind (doIfG_ev _ h.n6 _) (Ev.now _)
  | m + 1, k, e => by
    have hk : k < ps.length := by omega
    refine Ev.succ ?_
    simp only [spec_FromParts.l1, if_pos (show (k : Int) < (ps.length : Int) by omega), if_pos (show (0 : Int) ≤ (k : Int) by omega)]
    have := fromS_l2 h hk (fromS_l1 h m (k + 1) (by omega)) n 0 (by omega)
    rw [tabG_congr (G' := sumK ps cs k) (fun a b ha _ => by unfold midK; rw [if_neg (by omega)])] at this
    exact this
def goodP (n : Nat) (x : List Int) : Bool := decide ((x.length : Int) = (n : Int)) && placeB x
def frR (ps : List (List Int)) (cs : List Int) : List (List Int) × Bool := if 1 ≤ (ps.length : Int) ∧ (ps.length : Int) ≤ 40 then (if (cs.length : Int) = (ps.length : Int) then (if inR 0 1000000 cs = true then (if ps.all (goodP (rd_L1 ps 0).length) = true then checkR (tabG (rd_L1 ps 0).length (sumK ps cs ps.length)) else ([], false)) else ([], false)) else ([], false)) else ([], false)
theorem frR_bd (ps : List (List Int)) (cs : List Int) : totSS (frR ps cs).1 ≤ 1000 ∧ (frR ps cs).1.length ≤ 1000 := by
  have h0 : totSS ([] : List (List Int)) ≤ 1000 ∧ ([] : List (List Int)).length ≤ 1000 := by simp [totSS]
  unfold frR
  repeat' split
  · exact checkR_bd _
  all_goals exact h0
theorem parts_of {ps : List (List Int)} {cs : List Int} (h1 : 1 ≤ (ps.length : Int) ∧ (ps.length : Int) ≤ 40) (h2 : (cs.length : Int) = (ps.length : Int)) (h3 : inR 0 1000000 cs = true) (h4 : ps.all (goodP (rd_L1 ps 0).length) = true) : Parts ps cs (rd_L1 ps 0).length := by
  have e0 : rd_L1 ps 0 = ps[0]'(by omega) := rd_L1n (i := 0) (by omega)
  rw [List.all_eq_true] at h4
  have g : ∀ x ∈ ps, x.length = (rd_L1 ps 0).length ∧ placeB x = true := fun x hx => by
    have := h4 x hx
    unfold goodP at this
    rw [Bool.and_eq_true, decide_eq_true_eq] at this
    exact ⟨by omega, this.2⟩
  refine ⟨by omega, by omega, ?_, fun k hk => ?_, fun k hk => ?_⟩
  · have := placeB_len (g _ (List.getElem_mem (show 0 < ps.length by omega))).2
    rw [e0]
    omega
  · have hg := g _ (List.getElem_mem hk)
    rw [rd_L1n hk]
    refine ⟨hg.1, fun i hi => ?_⟩
    have hp := placeB_len hg.2
    rw [rdn (show i < (ps[k]).length by omega)]
    have := hp.2.2.2 _ (List.getElem_mem (show i < (ps[k]).length by omega))
    omega
  · unfold inR at h3
    simp only [List.all_eq_true, decide_eq_true_eq] at h3
    rw [rdn hk]
    exact h3 _ (List.getElem_mem hk)
theorem fromS_l0 (ps : List (List Int)) (cs : List Int) (h1 : 1 ≤ (ps.length : Int) ∧ (ps.length : Int) ≤ 40) {r : List (List Int) × Bool} (hyes : ps.all (goodP (rd_L1 ps 0).length) = true → Ev (fun q => (spec_doEmpty.f q ((rd_L1 ps 0).length : Int)).bind fun t401 => spec_FromParts.l1 q cs t401 ps (ps.length : Int) 0) r) (hno : ps.all (goodP (rd_L1 ps 0).length) = false → r = ([], false)) : ∀ (m k : Nat), k + m = ps.length → (ps.take k).all (goodP (rd_L1 ps 0).length) = true → Ev (fun q => spec_FromParts.l0 q ps cs ps (ps.length : Int) (k : Int)) r
  | 0, k, e, ha => by
    refine Ev.succ ?_
    simp only [spec_FromParts.l0, if_neg (show ¬ (k : Int) < (ps.length : Int) by omega), if_pos (show (0 : Int) < (ps.length : Int) by omega)]
    rw [List.take_of_length_le (by omega)] at ha
    exact hyes ha
  | m + 1, k, e, ha => by
    have hk : k < ps.length := by omega
    have bad : goodP (rd_L1 ps 0).length ps[k] = false → r = ([], false) := fun hb => hno (by
      rw [List.all_eq_false]
      exact ⟨_, List.getElem_mem hk, by rw [hb]; decide⟩)
    refine Ev.succ ?_
    simp only [spec_FromParts.l0, if_pos (show (k : Int) < (ps.length : Int) by omega), if_pos (show (0 : Int) ≤ (k : Int) by omega), if_pos (show (0 : Int) < (ps.length : Int) by omega), rd_L1n hk, wsucc hk (by omega)]
    refine Ev.bind (doPlacing_ev ps[k]) ?_
    by_cases c1 : placeB ps[k] = true
    · simp only [if_pos c1]
      by_cases c2 : ((ps[k]).length : Int) = ((rd_L1 ps 0).length : Int)
      · simp only [if_pos c2]
        refine fromS_l0 ps cs h1 hyes hno m (k + 1) (by omega) ?_
        rw [List.take_succ_eq_append_getElem hk, List.all_append, ha, Bool.true_and, List.all_cons, List.all_nil, Bool.and_true]
        unfold goodP
        rw [decide_eq_true c2, c1]
        rfl
      · simp only [if_neg c2]
        rw [bad (by unfold goodP; rw [decide_eq_false c2]; rfl)]
        exact Ev.now _
    · simp only [if_neg c1]
      rw [bad (by unfold goodP; rw [Bool.eq_false_iff.mpr c1, Bool.and_false])]
      exact Ev.now _
theorem zeros_sum (ps : List (List Int)) (cs : List Int) (n : Nat) : tabG n (fun _ _ => 0) = tabG n (sumK ps cs 0) := tabG_congr fun _ _ _ _ => rfl
theorem specFromParts_ev (l0 : List (List Int)) (l1 : List Int) (u0 : l0.length ≤ 1048576) (v0 : totSS l0 ≤ 1048576) (u1 : l1.length ≤ 1048576) : Ev (fun k => spec_FromParts.f k l0 l1) (frR l0 l1) := by
  have stop : Ev (fun k => spec_FromParts.j0 k l0 l1 true) (([], false) : List (List Int) × Bool) := Ev.succ (by simp only [spec_FromParts.j0, if_true]; exact Ev.now _)
  unfold spec_FromParts.f frR
  simp only [l1In_eq, Option.bind_some, decide_eq_true_eq]
  refine Ev.ite (fun h1 => Ev.ite (fun h2 => ?_) (fun _ => stop)) (fun _ => stop)
  refine Ev.bind (l1All_ev l1 0 1000000 (by omega)) ?_
  by_cases h3 : inR 0 1000000 l1 = true
  · simp only [if_pos h3]
    rw [h3]
    refine Ev.succ ?_
    simp only [spec_FromParts.j0, Bool.not_true, Bool.false_eq_true, if_false]
    refine fromS_l0 l0 l1 h1 (fun h4 => ?_) (fun h4 => by rw [h4]; simp) l0.length 0 (by omega) (by simp)
    have hP := parts_of h1 h2 h3 h4
    have hn := hP.n6
    refine Ev.bind (doEmpty_ev (rd_L1 l0 0).length (by omega)) ?_
    rw [if_pos h4, zeros_sum l0 l1]
    exact fromS_l1 hP l0.length 0 (by omega)
  · simp only [if_neg h3]
    rw [Bool.eq_false_iff.mpr h3]
    exact stop
theorem implFromParts_ev (l0 : List (List Int)) (l1 : List Int) (u0 : l0.length ≤ 1048576) (v0 : totSS l0 ≤ 1048576) (u1 : l1.length ≤ 1048576) : Ev (fun k => impl_FromParts.f k l0 l1) (frR l0 l1) := by
  have stop : Ev (fun k => impl_FromParts.j0 k l1 l0 true) (([], false) : List (List Int) × Bool) := Ev.succ (by simp only [impl_FromParts.j0, if_true]; exact Ev.now _)
  unfold impl_FromParts.f frR
  simp only [within_eq, Option.bind_some, decide_eq_true_eq]
  refine Ev.ite (fun h1 => Ev.ite (fun h2 => ?_) (fun _ => stop)) (fun _ => stop)
  refine Ev.bind (allWithin_ev l1 0 1000000 (by omega)) ?_
  by_cases h3 : inR 0 1000000 l1 = true
  · simp only [if_pos h3]
    rw [h3]
    refine Ev.succ ?_
    simp only [impl_FromParts.j0, Bool.not_true, Bool.false_eq_true, if_false]
    have hbad : badAny l0 = some (l0.any (badP (rd_L1 l0 0).length)) := by
      unfold badAny
      rw [if_pos ⟨List.all_eq_true.2 fun x h => decide_eq_true (Nat.le_trans (len_tot h) v0), u0, by omega⟩]
    have hng : l0.any (badP (rd_L1 l0 0).length) = !(l0.all (goodP (rd_L1 l0 0).length)) := by
      rw [List.not_all_eq_any_not]
      rfl
    simp only [hbad, Option.bind_some]
    rw [hng]
    cases h4 : l0.all (goodP (rd_L1 l0 0).length) with
    | false =>
      simp only [Bool.not_false, if_true, Bool.false_eq_true, if_false]
      exact Ev.now _
    | true =>
      simp only [Bool.not_true, Bool.false_eq_true, if_false, if_true, if_pos (show (0 : Int) < (l0.length : Int) by omega)]
      have hP := parts_of h1 h2 h3 h4
      have hn := hP.n6
      refine Ev.bind (square_ev _ (fun _ _ => 0) (rd_L1 l0 0).length (by omega) (fun _ _ _ _ => rfl)) ?_
      rw [zeros_sum l0 l1]
      exact fromI_l0 hP l0.length 0 (by omega)
  · simp only [if_neg h3]
    rw [Bool.eq_false_iff.mpr h3]
    exact stop
end Go.Proofs.Ytogjadakonakcaa.A

namespace Go.Proofs.Ytogjadakonakcaa.A
open Go.RowKit Go.Proofs.YtogjadakonakcaaW.PrintWords Go.Proofs.YtogjadakonakcaaW.PrintLast Go.Proofs.YtogjadakonakcaaW.PrintMore
set_option linter.unusedVariables false
set_option linter.unusedSimpArgs false
theorem toIntS_l (xs : List Int) (hx : xs.length ≤ 35184372088832) : ∀ (n i : Nat) (ys : List Int), i + n = xs.length → ys.length = xs.length → ys.take i = xs.take i → Ev (fun k => laws_toIntS.l0 k xs ys (i : Int)) xs
  | 0, i, ys, h, hl, ht => by
    refine Ev.succ ?_
    simp only [laws_toIntS.l0, if_neg (show ¬ (i : Int) < (xs.length : Int) by omega)]
    rw [List.take_of_length_le (by omega), List.take_of_length_le (by omega)] at ht
    rw [ht]
    exact Ev.now _
  | n + 1, i, ys, h, hl, ht => by
    have hi : i < xs.length := by omega
    refine Ev.succ ?_
    simp only [laws_toIntS.l0, if_pos (show (i : Int) < (xs.length : Int) by omega), if_pos (show (i : Int) < (ys.length : Int) by omega), if_pos (show (0 : Int) ≤ (i : Int) by omega), rdn hi, wsucc hi (by omega), Int.toNat_natCast]
    refine toIntS_l xs hx n (i + 1) _ (by omega) (by rw [List.length_set]; exact hl) ?_
    rw [List.take_add_one, List.take_add_one, List.take_set_of_le (Nat.le_refl _), ht]
    congr 1
    rw [List.getElem?_set_self (by omega), List.getElem?_eq_getElem hi]
theorem toIntS_ev (xs : List Int) (hx : xs.length ≤ 35184372088832) : Ev (fun k => laws_toIntS.f k xs) xs := by
  unfold laws_toIntS.f
  simp only [if_pos (show (0 : Int) ≤ (xs.length : Int) by omega), Int.toNat_natCast, if_pos hx]
  exact toIntS_l xs hx xs.length 0 _ (by omega) (by simp) (by simp)
end Go.Proofs.Ytogjadakonakcaa.A

namespace Go.Proofs.Ytogjadakonakcaa.A
open Go.RowKit Go.Proofs.YtogjadakonakcaaW.PrintWords Go.Proofs.YtogjadakonakcaaW.PrintLast Go.Proofs.YtogjadakonakcaaW.PrintMore
set_option linter.unusedVariables false
set_option linter.unusedSimpArgs false
theorem szIntS_eq (x : List Int) (s : Int) (hx : x.length ≤ 9223372036854775807) (h0 : 0 ≤ s) (h1 : s ≤ 1048576) : laws_szIntS.f x s = some (if s - (x.length : Int) < 0 then -1 else s - (x.length : Int)) := by
  unfold laws_szIntS.f
  rw [w64 (x := s - (x.length : Int)) (by omega) (by omega)]
  split <;> rfl
theorem toIntSS_l (l : List (List Int)) (hl : l.length ≤ 1048576) (hx : ∀ x ∈ l, x.length ≤ 1048576) : ∀ (n i : Nat) (ys : List (List Int)), i + n = l.length → ys.length = l.length → ys.take i = l.take i → Ev (fun k => laws_toIntSS.l0 k l ys (i : Int)) l
  | 0, i, ys, h, hy, ht => by
    refine Ev.succ ?_
    simp only [laws_toIntSS.l0, if_neg (show ¬ (i : Int) < (l.length : Int) by omega)]
    rw [List.take_of_length_le (by omega), List.take_of_length_le (by omega)] at ht
    rw [ht]
    exact Ev.now _
  | n + 1, i, ys, h, hy, ht => by
    have hi : i < l.length := by omega
    refine Ev.succ ?_
    simp only [laws_toIntSS.l0, if_pos (show (i : Int) < (l.length : Int) by omega), if_pos (show (i : Int) < (ys.length : Int) by omega), if_pos (show (0 : Int) ≤ (i : Int) by omega), rd_L1n hi, wsucc hi (by omega), Int.toNat_natCast]
    refine Ev.bind (toIntS_ev l[i] (by have := hx _ (List.getElem_mem hi); omega)) ?_
    refine toIntSS_l l hl hx n (i + 1) _ (by omega) (by rw [List.length_set]; exact hy) ?_
    rw [List.take_add_one, List.take_add_one, List.take_set_of_le (Nat.le_refl _), ht]
    congr 1
    rw [List.getElem?_set_self (by omega), List.getElem?_eq_getElem hi]
theorem toIntSS_ev (l : List (List Int)) (hl : l.length ≤ 1048576) (hx : totSS l ≤ 1048576) : Ev (fun k => laws_toIntSS.f k l) l := by
  unfold laws_toIntSS.f
  simp only [if_pos (show (0 : Int) ≤ (l.length : Int) by omega), Int.toNat_natCast, if_pos (show l.length ≤ 11728124029610 by omega)]
  exact toIntSS_l l hl (fun x h => Nat.le_trans (len_tot h) hx) l.length 0 _ (by omega) (by simp) (by simp)
end Go.Proofs.Ytogjadakonakcaa.A

namespace Go.Proofs.Ytogjadakonakcaa.A
open Go.RowKit Go.Proofs.YtogjadakonakcaaW.PrintWords Go.Proofs.YtogjadakonakcaaW.PrintLast Go.Proofs.YtogjadakonakcaaW.PrintMore
set_option linter.unusedVariables false
set_option linter.unusedSimpArgs false
theorem szGen_l (l : List (List Int)) (hl : l.length ≤ 9223372036854775807) (hx : ∀ x ∈ l, x.length ≤ 9223372036854775807) : ∀ (n i : Nat) (s : Int), i + n = l.length → 0 ≤ s → s ≤ 1048576 → ∃ r, Ev (fun k => laws_szIntSS.l0 k l s (i : Int)) r ∧ (0 ≤ r → (totSS (l.drop i) : Int) ≤ s ∧ r ≤ s)
  | 0, i, s, h, h0, h1 => by
    refine ⟨s, Ev.succ ?_, fun _ => ?_⟩
    · simp only [laws_szIntSS.l0, if_neg (show ¬ (i : Int) < (l.length : Int) by omega)]
      exact Ev.now _
    · rw [List.drop_eq_nil_of_le (by omega)]
      exact ⟨by simpa [totSS] using h0, Int.le_refl _⟩
  | n + 1, i, s, h, h0, h1 => by
    have hi : i < l.length := by omega
    have hxi := hx _ (List.getElem_mem hi)
    have hd : totSS (l.drop i) = (l[i]).length + totSS (l.drop (i + 1)) := by
      unfold totSS
      rw [List.drop_eq_getElem_cons hi, List.map_cons, List.sum_cons]
    by_cases hc : s - ((l[i]).length : Int) < 0
    · refine ⟨-1, Ev.succ ?_, fun h => by omega⟩
      simp only [laws_szIntSS.l0, if_pos (show (i : Int) < (l.length : Int) by omega), if_pos (show (0 : Int) ≤ (i : Int) by omega), rd_L1n hi, szIntS_eq _ s hxi h0 h1, if_pos hc, Option.bind_some, if_pos (show (-1 : Int) < 0 by decide)]
      exact Ev.now _
    · obtain ⟨r, hr, hr2⟩ := szGen_l l hl hx n (i + 1) (s - ((l[i]).length : Int)) (by omega) (by omega) (by omega)
      refine ⟨r, Ev.succ ?_, fun h => by have := hr2 h; omega⟩
      simp only [laws_szIntSS.l0, if_pos (show (i : Int) < (l.length : Int) by omega), if_pos (show (0 : Int) ≤ (i : Int) by omega), rd_L1n hi, szIntS_eq _ s hxi h0 h1, if_neg hc, Option.bind_some, wsucc hi (by omega)]
      exact hr
theorem szIntSS_gen (l : List (List Int)) (s : Int) (h0 : 0 ≤ s) (h1 : s ≤ 1048576) (hl : l.length ≤ 9223372036854775807) (hx : ∀ x ∈ l, x.length ≤ 9223372036854775807) : ∃ r, Ev (fun k => laws_szIntSS.f k l s) r ∧ (0 ≤ r → l.length ≤ 1048576 ∧ totSS l ≤ 1048576 ∧ r ≤ 1048576) := by
  unfold laws_szIntSS.f
  simp only [w64 (x := s - (l.length : Int)) (by omega) (by omega)]
  by_cases hc : s - (l.length : Int) < 0
  · refine ⟨-1, ?_, fun h => by omega⟩
    simp only [if_pos hc]
    exact Ev.now _
  · obtain ⟨r, hr, hr2⟩ := szGen_l l hl hx l.length 0 (s - (l.length : Int)) (by omega) (by omega) (by omega)
    refine ⟨r, ?_, fun h => ?_⟩
    · simp only [if_neg hc]
      exact hr
    · have := hr2 h
      rw [List.drop_zero] at this
      omega
end Go.Proofs.Ytogjadakonakcaa.A

namespace Go.Proofs.Ytogjadakonakcaa.A
open Go.RowKit Go.Proofs.YtogjadakonakcaaW.PrintWords Go.Proofs.YtogjadakonakcaaW.PrintLast Go.Proofs.YtogjadakonakcaaW.PrintMore
set_option linter.unusedVariables false
set_option linter.unusedSimpArgs false
set_option maxHeartbeats 8000000 in
set_option maxRecDepth 100000 in
theorem FnExactFromParts_walk (A0 : Option Addr) (c0 : Nat) (l0 : List (List Int)) (A1 : Option Addr) (c1 : Nat) (l1 : List Int) (W : World) (hr0 : Kd.C (Kd.slice 3 (Kd.int .i64)) W A0 l0.length l0) (hc0 : l0.length ≤ c0) (hr1 : Kd.C (Kd.int .i64) W A1 l1.length l1) (hc1 : l1.length ≤ c1) (m0 : l0.length ≤ 9223372036854775807) (w0 : ∀ x ∈ l0, x.length ≤ 9223372036854775807 ∧ ∀ y ∈ x, (Lit.int .i64 y).wf = true) (m1 : l1.length ≤ maxLen) :
    Calls Try.prog 10 #[.slice A0 l0.length c0, .slice A1 l1.length c1] W fun e w' => e = .returned (.bool true) ∧ Below W.heap.size W w' := by
  have HR0 := Aside0.mk hr0
  have HC0 := Aside0.mk hc0
  have HR1 := Aside0.mk hr1
  have HC1 := Aside0.mk hc1
  have HB := Aside0.mk (Below.refl W.heap.size W)
  (try clear hr0); (try clear hc0); (try clear hr1); (try clear hc1)
  by_cases q1 : (l1.length : Int) > 1048576
  · have q1b : decide ((l1.length : Int) > 1048576) = true := decide_eq_true q1
    (try clear q1); (try clear m0); (try clear m1); (try clear w0)
    go_enter Try.func10, Try.ntmps10
    go_wp2
    go_ret
    exact ⟨rfl, (by repeat (first | (with_reducible first | exact HB.out | apply below_alloc | apply pw_below_drewN | apply below_drew1) | exact HB.out))⟩
  have q1b : decide ((l1.length : Int) > 1048576) = false := decide_eq_false q1
  obtain ⟨Z0, hz0, hzb0⟩ := szIntSS_gen l0 1048576 (by omega) (by omega) m0 (fun x h => (w0 x h).1)
  obtain ⟨kz0, hy0⟩ := Ev.get hz0
  have AZ0 := Aside0.mk hy0
  (try clear hz0); (try clear hy0)
  by_cases q0 : Z0 < 0
  · have q0b : decide (Z0 < 0) = true := decide_eq_true q0
    (try clear q0); (try clear m0); (try clear m1); (try clear w0); (try clear hzb0); (try clear q1)
    go_enter Try.func10, Try.ntmps10
    go_wp2_with (first | ((with_reducible refine gate_callee (f := 22) rfl ?_); refine goesL_ (some 22) rfl rfl Try.func22 (by kernel_rfl) rfl #[.slice A0 l0.length c0, .int .i64 1048576] rfl (by (try simp only [List.map_toArray, List.map_cons, List.map_nil]); first | done | rfl | (simp only [List.length_drop, List.length_take]; rfl)) ?_; (with_reducible refine (laws_szIntSS.calls kz0 _ _ l0 1048576 Z0 _ ?side1 ?side2 AZ0.out).mono ?_); (case side1 => exact (Kd.C_below HR0.out (by repeat (first | (with_reducible first | exact HB.out | apply below_alloc | apply pw_below_drewN | apply below_drew1) | exact HB.out)))); (case side2 => exact HC0.out); rintro e w' ⟨rfl, ⟨nd, rfl⟩⟩; refine ⟨_, rfl, ?_⟩))
    go_ret
    exact ⟨rfl, (by repeat (first | (with_reducible first | exact HB.out | apply below_alloc | apply pw_below_drewN | apply below_drew1) | exact HB.out))⟩
  have q0b : decide (Z0 < 0) = false := decide_eq_false q0
  obtain ⟨u0, v0, s0⟩ := hzb0 (by omega)
  obtain ⟨kt0, ht0⟩ := Ev.get (toIntSS_ev l0 u0 v0)
  have AT0 := Aside0.mk ht0
  obtain ⟨kt1, ht1⟩ := Ev.get (toIntS_ev l1 (by omega))
  have AT1 := Aside0.mk ht1
  obtain ⟨kS, hS⟩ := Ev.get (specFromParts_ev l0 l1 u0 v0 (by omega))
  obtain ⟨kI, hI⟩ := Ev.get (implFromParts_ev l0 l1 u0 v0 (by omega))
  have hbd := frR_bd l0 l1
  generalize frR l0 l1 = R at hS hI hbd
  obtain ⟨L0, b⟩ := R
  simp only at hbd
  obtain ⟨hb0, hb1⟩ := hbd
  have AS := Aside0.mk hS
  have AI := Aside0.mk hI
  have hbb : (b != b) = false := by simp
  obtain ⟨kAE0, hAE0⟩ := Ev.get (eqIntSS_self L0 (by omega) (by omega))
  obtain ⟨kAE1, hAE1⟩ := Ev.get (eqIntSS_self l0 (by omega) (by omega))
  obtain ⟨kAE2, hAE2⟩ := Ev.get (eqIntS_self l1 (by omega))
  obtain ⟨T0, hT0⟩ : ∃ T : Int, T = 1 + (totSS l0 : Int) := ⟨_, rfl⟩
  have hAK0 := fun (v : Value) (W W' : World) (P : Nat → Prop) (hB : Below W.heap.size W W') (hS : Kd.S (Kd.slice 3 (Kd.int .i64)) 28 W' W.heap.size P v l0) => markSS_calls mark_any P v l0 1 W W' (by omega) (by omega) (by omega) hB hS
  rw [← hT0] at hAK0
  have qT0 : decide (T0 < 0) = false := decide_eq_false (by omega)
  have qT0n : (T0 != T0) = false := by simp
  obtain ⟨T1, hT1⟩ : ∃ T : Int, T = T0 + (l1.length : Int) := ⟨_, rfl⟩
  obtain ⟨kAK1, hAK1⟩ := Ev.get (markIntS_ev l1 T0 (by omega) (by omega))
  rw [← hT1] at hAK1
  obtain ⟨M1, hM1⟩ : ∃ M, M = marks T0 l1.length := ⟨_, rfl⟩
  have hM1l : M1.length = l1.length := by rw [hM1, marks_length]
  rw [← hM1] at hAK1
  have qT1 : decide (T1 < 0) = false := decide_eq_false (by omega)
  have qT1n : (T1 != T1) = false := by simp
  obtain ⟨T2, hT2⟩ : ∃ T : Int, T = 1 + (totSS L0 : Int) := ⟨_, rfl⟩
  have hAK2 := fun (v : Value) (W W' : World) (P : Nat → Prop) (hB : Below W.heap.size W W') (hS : Kd.S (Kd.slice 3 (Kd.int .i64)) 28 W' W.heap.size P v L0) => markSS_calls mark_any P v L0 1 W W' (by omega) (by omega) (by omega) hB hS
  rw [← hT2] at hAK2
  obtain ⟨M2, hM2⟩ : ∃ M, M = markSS 1 L0 := ⟨_, rfl⟩
  have hM2l : M2.length = L0.length := by rw [hM2, markSS_length]
  rw [← hM2] at hAK2
  have qT2 : decide (T2 < 0) = false := decide_eq_false (by omega)
  have qT2n : (T2 != T2) = false := by simp
  obtain ⟨kAH2, hhAH2⟩ := Ev.get (heldIntSS_ev 1 L0 (by omega) (by omega) (by omega))
  rw [← hM2, ← hT2] at hhAH2
  have hAH2 : ∀ (A : Option Addr) (c : Nat) (w' : World), (∃ P : Nat → Prop, Kd.S (Kd.slice 3 (Kd.int .i64)) 28 w' W.heap.size P (.slice A L0.length c) M2) → Calls Try.prog 16 #[.slice A L0.length c, .int .i64 1] w' fun e w'' => e = .returned (.int .i64 T2) ∧ Drawn0 w' w'' := fun A c w' hS' => by
    obtain ⟨P, hS⟩ := hS'
    have h1 := (Kd.S_reads' hS).2
    rw [← hM2l] at h1 ⊢
    exact laws_heldIntSS.calls kAH2 A c M2 1 T2 w' h1.2 h1.1 hhAH2
  have AE0 := Aside0.mk hAE0
  have AE1 := Aside0.mk hAE1
  have AE2 := Aside0.mk hAE2
  have AK0 := Aside0.mk hAK0
  have AK1 := Aside0.mk hAK1
  have AK2 := Aside0.mk hAK2
  have AH2 := Aside0.mk hAH2
  obtain ⟨n0, hn0⟩ : ∃ n, n = W.heap.size := ⟨_, rfl⟩
  have HN := Aside0.mk (Nat.le_of_eq hn0)
  (try clear hAE0); (try clear hAE1); (try clear hAE2); (try clear hAK0); (try clear hAK1); (try clear hAK2); (try clear hAH2); (try clear hhAH2); (try clear hT0); (try clear hT1); (try clear hM1); (try clear hT2); (try clear hM2); (try clear hM1l); (try clear hM2l); (try clear hS); (try clear hI); (try clear hn0); (try clear hb0); (try clear hb1); (try clear ht0); (try clear ht1); (try clear m0); (try clear m1); (try clear w0); (try clear q1); (try clear u0); (try clear v0); (try clear s0); (try clear q0); (try clear hzb0)
  go_enter Try.func10, Try.ntmps10
  go_upto_region 7 with (first | ((with_reducible refine gate_callee (f := 22) rfl ?_); refine goesL_ (some 22) rfl rfl Try.func22 (by kernel_rfl) rfl #[.slice A0 l0.length c0, .int .i64 1048576] rfl (by (try simp only [List.map_toArray, List.map_cons, List.map_nil]); first | done | rfl | (simp only [List.length_drop, List.length_take]; rfl)) ?_; (with_reducible refine (laws_szIntSS.calls kz0 _ _ l0 1048576 Z0 _ ?side1 ?side2 AZ0.out).mono ?_); (case side1 => exact (Kd.C_below HR0.out (by repeat (first | (with_reducible first | exact HB.out | apply below_alloc | apply pw_below_drewN | apply below_drew1) | exact HB.out)))); (case side2 => exact HC0.out); rintro e w' ⟨rfl, ⟨nd, rfl⟩⟩; refine ⟨_, rfl, ?_⟩))
  go_upto_region 8 with (first | ((with_reducible refine gate_callee (f := 24) rfl ?_); refine goesL_ (some 27) rfl rfl Try.func24 (by kernel_rfl) rfl #[.slice A0 l0.length c0] rfl (by (try simp only [List.map_toArray, List.map_cons, List.map_nil]); first | done | rfl | (simp only [List.length_drop, List.length_take]; rfl)) ?_; (with_reducible refine (laws_toIntSS.calls kt0 _ _ l0 l0 _ ?side1 ?side2 AT0.out).mono ?_); (case side1 => exact (Kd.C_below HR0.out (by repeat (first | (with_reducible first | exact HB.out | apply below_alloc | apply pw_below_drewN | apply below_drew1) | exact HB.out)))); (case side2 => exact HC0.out); rintro e w1 ⟨vv0, rfl, ho0, hb⟩; refine ⟨_, rfl, ?_⟩; obtain ⟨n1, hn_⟩ : ∃ n, n = w1.heap.size := ⟨_, rfl⟩; have HLn1 := Aside0.mk (show n0 ≤ n1 from Nat.le_trans HN.out (Nat.le_trans hb.size (Nat.le_of_eq hn_.symm))); have HV0 := Aside0.mk (Kd.S_mono (ok' := fun k => n0 ≤ k ∧ k < n1) (Kd.S_lower (Kd.S_bound ho0) (below_size (by repeat (first | (with_reducible first | exact HB.out | apply below_alloc | apply pw_below_drewN | apply below_drew1) | exact HB.out)))) (fun k hk => ⟨Nat.le_trans HN.out hk.2.1, by have := hk.2.2.1; omega⟩)); have HB2 := Aside0.mk (below_step (by repeat (first | (with_reducible first | exact HB.out | apply below_alloc | apply pw_below_drewN | apply below_drew1) | exact HB.out)) hb); have HN2_ := Aside0.mk (Nat.le_of_eq hn_); clear HB HN hb hn_ ho0; have HB := HB2; have HN := HN2_; clear HB2 HN2_ ; obtain ⟨B0, cc0, es_⟩ := Kd.S_slice HV0.out; subst es_) | ((with_reducible refine gate_callee (f := 18) rfl ?_); refine goesL_ (some 29) rfl rfl Try.func18 (by kernel_rfl) rfl #[.slice A1 l1.length c1] rfl (by (try simp only [List.map_toArray, List.map_cons, List.map_nil]); first | done | rfl | (simp only [List.length_drop, List.length_take]; rfl)) ?_; (with_reducible refine (laws_toIntS.calls kt1 _ _ l1 l1 _ ?side1 ?side2 AT1.out).mono ?_); (case side1 => exact (Kd.C_below HR1.out (by repeat (first | (with_reducible first | exact HB.out | apply below_alloc | apply pw_below_drewN | apply below_drew1) | exact HB.out)))); (case side2 => exact HC1.out); rintro e w2 ⟨vv0, rfl, ho0, hb⟩; refine ⟨_, rfl, ?_⟩; obtain ⟨n2, hn_⟩ : ∃ n, n = w2.heap.size := ⟨_, rfl⟩; have HLn2 := Aside0.mk (show n1 ≤ n2 from Nat.le_trans HN.out (Nat.le_trans hb.size (Nat.le_of_eq hn_.symm))); have HV1 := Aside0.mk (Kd.R_mono (ok' := fun k => n1 ≤ k ∧ k < n2) (Kd.R_lower (Kd.R_bound ho0) (below_size (by repeat (first | (with_reducible first | exact HB.out | apply below_alloc | apply pw_below_drewN | apply below_drew1) | exact HB.out)))) (fun k hk => ⟨Nat.le_trans HN.out hk.2.1, by have := hk.2.2.1; omega⟩)); have HV02 := Aside0.mk (Kd.S_below (by (with_reducible repeat (first | apply Kd.S_alloc | apply Kd.S_drewN | apply Kd.S_drew)); exact HV0.out) hb); have HB2 := Aside0.mk (below_step (by repeat (first | (with_reducible first | exact HB.out | apply below_alloc | apply pw_below_drewN | apply below_drew1) | exact HB.out)) hb); have HN2_ := Aside0.mk (Nat.le_of_eq hn_); clear HB HN hb hn_ ho0 HV0; have HB := HB2; have HN := HN2_; have HV0 := HV02; clear HB2 HN2_ HV02; obtain ⟨B1, cc1, es_⟩ := Kd.R_slice HV1.out; subst es_) | ((with_reducible refine gate_callee (f := 35) rfl ?_); refine goesL_ (some 30) rfl rfl Try.func35 (by kernel_rfl) rfl #[.slice B0 l0.length cc0, .slice B1 l1.length cc1] rfl (by (try simp only [List.map_toArray, List.map_cons, List.map_nil]); first | done | rfl | (simp only [List.length_drop, List.length_take]; rfl)) ?_; (with_reducible refine (spec_FromParts.calls kS _ _ l0 _ _ l1 L0 b _ ?side1 ?side2 ?side3 ?side4 AS.out).mono ?_); (case side1 => exact (Kd.S_reads' (by (with_reducible repeat (first | apply Kd.S_alloc | apply Kd.S_drewN | apply Kd.S_drew)); exact HV0.out)).2.2); (case side2 => exact (Kd.S_reads' HV0.out).2.1); (case side3 => exact (Kd.R_reads' (by (with_reducible repeat (first | apply Kd.R_alloc | apply Kd.R_drewN | apply Kd.R_drew)); exact HV1.out)).2.2); (case side4 => exact (Kd.R_reads' HV1.out).2.1); rintro e w3 ⟨vv0, rfl, ho0, hb⟩; refine ⟨_, rfl, ?_⟩; obtain ⟨n3, hn_⟩ : ∃ n, n = w3.heap.size := ⟨_, rfl⟩; have HLn3 := Aside0.mk (show n2 ≤ n3 from Nat.le_trans HN.out (Nat.le_trans hb.size (Nat.le_of_eq hn_.symm))); have HV2 := Aside0.mk (Kd.V_mono (ok' := fun k => n2 ≤ k ∧ k < n3) (Kd.V_lower (Kd.V_bound ho0) (below_size (by repeat (first | (with_reducible first | exact HB.out | apply below_alloc | apply pw_below_drewN | apply below_drew1) | exact HB.out)))) (fun k hk => ⟨Nat.le_trans HN.out hk.1, by have := hk.2; omega⟩)); have HV02 := Aside0.mk (Kd.S_below (by (with_reducible repeat (first | apply Kd.S_alloc | apply Kd.S_drewN | apply Kd.S_drew)); exact HV0.out) hb); have HV12 := Aside0.mk (Kd.R_below (by (with_reducible repeat (first | apply Kd.R_alloc | apply Kd.R_drewN | apply Kd.R_drew)); exact HV1.out) hb); have HB2 := Aside0.mk (below_step (by repeat (first | (with_reducible first | exact HB.out | apply below_alloc | apply pw_below_drewN | apply below_drew1) | exact HB.out)) hb); have HN2_ := Aside0.mk (Nat.le_of_eq hn_); clear HB HN hb hn_ ho0 HV0 HV1; have HB := HB2; have HN := HN2_; have HV0 := HV02; have HV1 := HV12; clear HB2 HN2_ HV02 HV12; obtain ⟨B2, cc2, es_⟩ := Kd.V_slice HV2.out; subst es_))
  go_upto_region 9 with (first | ((with_reducible refine gate_callee (f := 24) rfl ?_); refine goesL_ (some 34) rfl rfl Try.func24 (by kernel_rfl) rfl #[.slice A0 l0.length c0] rfl (by (try simp only [List.map_toArray, List.map_cons, List.map_nil]); first | done | rfl | (simp only [List.length_drop, List.length_take]; rfl)) ?_; (with_reducible refine (laws_toIntSS.calls kt0 _ _ l0 l0 _ ?side1 ?side2 AT0.out).mono ?_); (case side1 => exact (Kd.C_below HR0.out (by repeat (first | (with_reducible first | exact HB.out | apply below_alloc | apply pw_below_drewN | apply below_drew1) | exact HB.out)))); (case side2 => exact HC0.out); rintro e w4 ⟨vv0, rfl, ho0, hb⟩; refine ⟨_, rfl, ?_⟩; obtain ⟨n4, hn_⟩ : ∃ n, n = w4.heap.size := ⟨_, rfl⟩; have HLn4 := Aside0.mk (show n3 ≤ n4 from Nat.le_trans HN.out (Nat.le_trans hb.size (Nat.le_of_eq hn_.symm))); have HV3 := Aside0.mk (Kd.S_mono (ok' := fun k => n3 ≤ k ∧ k < n4) (Kd.S_lower (Kd.S_bound ho0) (below_size (by repeat (first | (with_reducible first | exact HB.out | apply below_alloc | apply pw_below_drewN | apply below_drew1) | exact HB.out)))) (fun k hk => ⟨Nat.le_trans HN.out hk.2.1, by have := hk.2.2.1; omega⟩)); have HV02 := Aside0.mk (Kd.S_below (by (with_reducible repeat (first | apply Kd.S_alloc | apply Kd.S_drewN | apply Kd.S_drew)); exact HV0.out) hb); have HV12 := Aside0.mk (Kd.R_below (by (with_reducible repeat (first | apply Kd.R_alloc | apply Kd.R_drewN | apply Kd.R_drew)); exact HV1.out) hb); have HV22 := Aside0.mk (Kd.V_below (by (with_reducible repeat (first | apply Kd.V_alloc | apply Kd.V_drewN | apply Kd.V_drew)); exact HV2.out) hb); have HB2 := Aside0.mk (below_step (by repeat (first | (with_reducible first | exact HB.out | apply below_alloc | apply pw_below_drewN | apply below_drew1) | exact HB.out)) hb); have HN2_ := Aside0.mk (Nat.le_of_eq hn_); clear HB HN hb hn_ ho0 HV0 HV1 HV2; have HB := HB2; have HN := HN2_; have HV0 := HV02; have HV1 := HV12; have HV2 := HV22; clear HB2 HN2_ HV02 HV12 HV22; obtain ⟨B3, cc3, es_⟩ := Kd.S_slice HV3.out; subst es_))
  go_upto_region 10 with (first | ((with_reducible refine gate_callee (f := 18) rfl ?_); refine goesL_ (some 36) rfl rfl Try.func18 (by kernel_rfl) rfl #[.slice A1 l1.length c1] rfl (by (try simp only [List.map_toArray, List.map_cons, List.map_nil]); first | done | rfl | (simp only [List.length_drop, List.length_take]; rfl)) ?_; (with_reducible refine (laws_toIntS.calls kt1 _ _ l1 l1 _ ?side1 ?side2 AT1.out).mono ?_); (case side1 => exact (Kd.C_below HR1.out (by repeat (first | (with_reducible first | exact HB.out | apply below_alloc | apply pw_below_drewN | apply below_drew1) | exact HB.out)))); (case side2 => exact HC1.out); rintro e w5 ⟨vv0, rfl, ho0, hb⟩; refine ⟨_, rfl, ?_⟩; obtain ⟨n5, hn_⟩ : ∃ n, n = w5.heap.size := ⟨_, rfl⟩; have HLn5 := Aside0.mk (show n4 ≤ n5 from Nat.le_trans HN.out (Nat.le_trans hb.size (Nat.le_of_eq hn_.symm))); have HV4 := Aside0.mk (Kd.R_mono (ok' := fun k => n4 ≤ k ∧ k < n5) (Kd.R_lower (Kd.R_bound ho0) (below_size (by repeat (first | (with_reducible first | exact HB.out | apply below_alloc | apply pw_below_drewN | apply below_drew1) | exact HB.out)))) (fun k hk => ⟨Nat.le_trans HN.out hk.2.1, by have := hk.2.2.1; omega⟩)); have HV02 := Aside0.mk (Kd.S_below (by (with_reducible repeat (first | apply Kd.S_alloc | apply Kd.S_drewN | apply Kd.S_drew)); exact HV0.out) hb); have HV12 := Aside0.mk (Kd.R_below (by (with_reducible repeat (first | apply Kd.R_alloc | apply Kd.R_drewN | apply Kd.R_drew)); exact HV1.out) hb); have HV22 := Aside0.mk (Kd.V_below (by (with_reducible repeat (first | apply Kd.V_alloc | apply Kd.V_drewN | apply Kd.V_drew)); exact HV2.out) hb); have HV32 := Aside0.mk (Kd.S_below (by (with_reducible repeat (first | apply Kd.S_alloc | apply Kd.S_drewN | apply Kd.S_drew)); exact HV3.out) hb); have HB2 := Aside0.mk (below_step (by repeat (first | (with_reducible first | exact HB.out | apply below_alloc | apply pw_below_drewN | apply below_drew1) | exact HB.out)) hb); have HN2_ := Aside0.mk (Nat.le_of_eq hn_); clear HB HN hb hn_ ho0 HV0 HV1 HV2 HV3; have HB := HB2; have HN := HN2_; have HV0 := HV02; have HV1 := HV12; have HV2 := HV22; have HV3 := HV32; clear HB2 HN2_ HV02 HV12 HV22 HV32; obtain ⟨B4, cc4, es_⟩ := Kd.R_slice HV4.out; subst es_))
  go_upto_region 11 with (first | ((with_reducible refine gate_callee (f := 36) rfl ?_); refine goesL_ (some 40) rfl rfl Try.func36 (by kernel_rfl) rfl #[.slice B3 l0.length cc3, .slice B4 l1.length cc4] rfl (by (try simp only [List.map_toArray, List.map_cons, List.map_nil]); first | done | rfl | (simp only [List.length_drop, List.length_take]; rfl)) ?_; (with_reducible refine (impl_FromParts.calls kI _ _ l0 _ _ l1 L0 b _ ?side1 ?side2 ?side3 ?side4 AI.out).mono ?_); (case side1 => exact (Kd.S_reads' (by (with_reducible repeat (first | apply Kd.S_alloc | apply Kd.S_drewN | apply Kd.S_drew)); exact HV3.out)).2.2); (case side2 => exact (Kd.S_reads' HV3.out).2.1); (case side3 => exact (Kd.R_reads' (by (with_reducible repeat (first | apply Kd.R_alloc | apply Kd.R_drewN | apply Kd.R_drew)); exact HV4.out)).2.2); (case side4 => exact (Kd.R_reads' HV4.out).2.1); rintro e w6 ⟨vv0, rfl, ho0, hb⟩; refine ⟨_, rfl, ?_⟩; obtain ⟨n6, hn_⟩ : ∃ n, n = w6.heap.size := ⟨_, rfl⟩; have HLn6 := Aside0.mk (show n5 ≤ n6 from Nat.le_trans HN.out (Nat.le_trans hb.size (Nat.le_of_eq hn_.symm))); have HV5 := Aside0.mk (Kd.S_mono (ok' := fun k => n5 ≤ k ∧ k < n6) (Kd.S_lower (Kd.S_bound ho0) (below_size (by repeat (first | (with_reducible first | exact HB.out | apply below_alloc | apply pw_below_drewN | apply below_drew1) | exact HB.out)))) (fun k hk => ⟨Nat.le_trans HN.out hk.2.1, by have := hk.2.2.1; omega⟩)); have HV02 := Aside0.mk (Kd.S_below (by (with_reducible repeat (first | apply Kd.S_alloc | apply Kd.S_drewN | apply Kd.S_drew)); exact HV0.out) hb); have HV12 := Aside0.mk (Kd.R_below (by (with_reducible repeat (first | apply Kd.R_alloc | apply Kd.R_drewN | apply Kd.R_drew)); exact HV1.out) hb); have HV22 := Aside0.mk (Kd.V_below (by (with_reducible repeat (first | apply Kd.V_alloc | apply Kd.V_drewN | apply Kd.V_drew)); exact HV2.out) hb); have HV32 := Aside0.mk (Kd.S_below (by (with_reducible repeat (first | apply Kd.S_alloc | apply Kd.S_drewN | apply Kd.S_drew)); exact HV3.out) hb); have HV42 := Aside0.mk (Kd.R_below (by (with_reducible repeat (first | apply Kd.R_alloc | apply Kd.R_drewN | apply Kd.R_drew)); exact HV4.out) hb); have HB2 := Aside0.mk (below_step (by repeat (first | (with_reducible first | exact HB.out | apply below_alloc | apply pw_below_drewN | apply below_drew1) | exact HB.out)) hb); have HN2_ := Aside0.mk (Nat.le_of_eq hn_); clear HB HN hb hn_ ho0 HV0 HV1 HV2 HV3 HV4; have HB := HB2; have HN := HN2_; have HV0 := HV02; have HV1 := HV12; have HV2 := HV22; have HV3 := HV32; have HV4 := HV42; clear HB2 HN2_ HV02 HV12 HV22 HV32 HV42; obtain ⟨B5, cc5, es_⟩ := Kd.S_slice HV5.out; subst es_))
  go_upto_region 13 with (first | ((with_reducible refine gate_callee (f := 14) rfl ?_); refine goesL_ (some 45) rfl rfl Try.func14 (by kernel_rfl) rfl #[.slice B5 L0.length cc5, .slice B2 L0.length cc2] rfl (by (try simp only [List.map_toArray, List.map_cons, List.map_nil]); first | done | rfl | (simp only [List.length_drop, List.length_take]; rfl)) ?_; (with_reducible refine (laws_eqIntSS.calls kAE0 _ _ L0 _ _ L0 true _ ?side1 ?side2 ?side3 ?side4 AE0.out).mono ?_); (case side1 => exact (Kd.S_reads' (by (with_reducible repeat (first | apply Kd.S_alloc | apply Kd.S_drewN | apply Kd.S_drew)); exact HV5.out)).2.2); (case side2 => exact (Kd.S_reads' HV5.out).2.1); (case side3 => exact (Kd.V_reads' (by (with_reducible repeat (first | apply Kd.V_alloc | apply Kd.V_drewN | apply Kd.V_drew)); exact HV2.out)).2.2); (case side4 => exact (Kd.V_reads' HV2.out).2.1); rintro e w' ⟨rfl, ⟨nd, rfl⟩⟩; refine ⟨_, rfl, ?_⟩))
  go_upto_region 15 with (first | ((with_reducible refine gate_callee (f := 24) rfl ?_); refine goesL_ (some 54) rfl rfl Try.func24 (by kernel_rfl) rfl #[.slice A0 l0.length c0] rfl (by (try simp only [List.map_toArray, List.map_cons, List.map_nil]); first | done | rfl | (simp only [List.length_drop, List.length_take]; rfl)) ?_; (with_reducible refine (laws_toIntSS.calls kt0 _ _ l0 l0 _ ?side1 ?side2 AT0.out).mono ?_); (case side1 => exact (Kd.C_below HR0.out (by repeat (first | (with_reducible first | exact HB.out | apply below_alloc | apply pw_below_drewN | apply below_drew1) | exact HB.out)))); (case side2 => exact HC0.out); rintro e w7 ⟨vv0, rfl, ho0, hb⟩; refine ⟨_, rfl, ?_⟩; obtain ⟨n7, hn_⟩ : ∃ n, n = w7.heap.size := ⟨_, rfl⟩; have HLn7 := Aside0.mk (show n6 ≤ n7 from Nat.le_trans HN.out (Nat.le_trans hb.size (Nat.le_of_eq hn_.symm))); have HV6 := Aside0.mk (Kd.S_mono (ok' := fun k => n6 ≤ k ∧ k < n7) (Kd.S_lower (Kd.S_bound ho0) (below_size (by repeat (first | (with_reducible first | exact HB.out | apply below_alloc | apply pw_below_drewN | apply below_drew1) | exact HB.out)))) (fun k hk => ⟨Nat.le_trans HN.out hk.2.1, by have := hk.2.2.1; omega⟩)); have HV02 := Aside0.mk (Kd.S_below (by (with_reducible repeat (first | apply Kd.S_alloc | apply Kd.S_drewN | apply Kd.S_drew)); exact HV0.out) hb); have HV12 := Aside0.mk (Kd.R_below (by (with_reducible repeat (first | apply Kd.R_alloc | apply Kd.R_drewN | apply Kd.R_drew)); exact HV1.out) hb); have HV22 := Aside0.mk (Kd.V_below (by (with_reducible repeat (first | apply Kd.V_alloc | apply Kd.V_drewN | apply Kd.V_drew)); exact HV2.out) hb); have HV32 := Aside0.mk (Kd.S_below (by (with_reducible repeat (first | apply Kd.S_alloc | apply Kd.S_drewN | apply Kd.S_drew)); exact HV3.out) hb); have HV42 := Aside0.mk (Kd.R_below (by (with_reducible repeat (first | apply Kd.R_alloc | apply Kd.R_drewN | apply Kd.R_drew)); exact HV4.out) hb); have HV52 := Aside0.mk (Kd.S_below (by (with_reducible repeat (first | apply Kd.S_alloc | apply Kd.S_drewN | apply Kd.S_drew)); exact HV5.out) hb); have HB2 := Aside0.mk (below_step (by repeat (first | (with_reducible first | exact HB.out | apply below_alloc | apply pw_below_drewN | apply below_drew1) | exact HB.out)) hb); have HN2_ := Aside0.mk (Nat.le_of_eq hn_); clear HB HN hb hn_ ho0 HV0 HV1 HV2 HV3 HV4 HV5; have HB := HB2; have HN := HN2_; have HV0 := HV02; have HV1 := HV12; have HV2 := HV22; have HV3 := HV32; have HV4 := HV42; have HV5 := HV52; clear HB2 HN2_ HV02 HV12 HV22 HV32 HV42 HV52; obtain ⟨B6, cc6, es_⟩ := Kd.S_slice HV6.out; subst es_) | ((with_reducible refine gate_callee (f := 14) rfl ?_); refine goesL_ (some 55) rfl rfl Try.func14 (by kernel_rfl) rfl #[.slice B3 l0.length cc3, .slice B6 l0.length cc6] rfl (by (try simp only [List.map_toArray, List.map_cons, List.map_nil]); first | done | rfl | (simp only [List.length_drop, List.length_take]; rfl)) ?_; (with_reducible refine (laws_eqIntSS.calls kAE1 _ _ l0 _ _ l0 true _ ?side1 ?side2 ?side3 ?side4 AE1.out).mono ?_); (case side1 => exact (Kd.S_reads' (by (with_reducible repeat (first | apply Kd.S_alloc | apply Kd.S_drewN | apply Kd.S_drew)); exact HV3.out)).2.2); (case side2 => exact (Kd.S_reads' HV3.out).2.1); (case side3 => exact (Kd.S_reads' (by (with_reducible repeat (first | apply Kd.S_alloc | apply Kd.S_drewN | apply Kd.S_drew)); exact HV6.out)).2.2); (case side4 => exact (Kd.S_reads' HV6.out).2.1); rintro e w' ⟨rfl, ⟨nd, rfl⟩⟩; refine ⟨_, rfl, ?_⟩))
  go_upto_region 18 with (first | ((with_reducible refine gate_callee (f := 18) rfl ?_); refine goesL_ (some 59) rfl rfl Try.func18 (by kernel_rfl) rfl #[.slice A1 l1.length c1] rfl (by (try simp only [List.map_toArray, List.map_cons, List.map_nil]); first | done | rfl | (simp only [List.length_drop, List.length_take]; rfl)) ?_; (with_reducible refine (laws_toIntS.calls kt1 _ _ l1 l1 _ ?side1 ?side2 AT1.out).mono ?_); (case side1 => exact (Kd.C_below HR1.out (by repeat (first | (with_reducible first | exact HB.out | apply below_alloc | apply pw_below_drewN | apply below_drew1) | exact HB.out)))); (case side2 => exact HC1.out); rintro e w8 ⟨vv0, rfl, ho0, hb⟩; refine ⟨_, rfl, ?_⟩; obtain ⟨n8, hn_⟩ : ∃ n, n = w8.heap.size := ⟨_, rfl⟩; have HLn8 := Aside0.mk (show n7 ≤ n8 from Nat.le_trans HN.out (Nat.le_trans hb.size (Nat.le_of_eq hn_.symm))); have HV7 := Aside0.mk (Kd.R_mono (ok' := fun k => n7 ≤ k ∧ k < n8) (Kd.R_lower (Kd.R_bound ho0) (below_size (by repeat (first | (with_reducible first | exact HB.out | apply below_alloc | apply pw_below_drewN | apply below_drew1) | exact HB.out)))) (fun k hk => ⟨Nat.le_trans HN.out hk.2.1, by have := hk.2.2.1; omega⟩)); have HV02 := Aside0.mk (Kd.S_below (by (with_reducible repeat (first | apply Kd.S_alloc | apply Kd.S_drewN | apply Kd.S_drew)); exact HV0.out) hb); have HV12 := Aside0.mk (Kd.R_below (by (with_reducible repeat (first | apply Kd.R_alloc | apply Kd.R_drewN | apply Kd.R_drew)); exact HV1.out) hb); have HV22 := Aside0.mk (Kd.V_below (by (with_reducible repeat (first | apply Kd.V_alloc | apply Kd.V_drewN | apply Kd.V_drew)); exact HV2.out) hb); have HV32 := Aside0.mk (Kd.S_below (by (with_reducible repeat (first | apply Kd.S_alloc | apply Kd.S_drewN | apply Kd.S_drew)); exact HV3.out) hb); have HV42 := Aside0.mk (Kd.R_below (by (with_reducible repeat (first | apply Kd.R_alloc | apply Kd.R_drewN | apply Kd.R_drew)); exact HV4.out) hb); have HV52 := Aside0.mk (Kd.S_below (by (with_reducible repeat (first | apply Kd.S_alloc | apply Kd.S_drewN | apply Kd.S_drew)); exact HV5.out) hb); have HV62 := Aside0.mk (Kd.S_below (by (with_reducible repeat (first | apply Kd.S_alloc | apply Kd.S_drewN | apply Kd.S_drew)); exact HV6.out) hb); have HB2 := Aside0.mk (below_step (by repeat (first | (with_reducible first | exact HB.out | apply below_alloc | apply pw_below_drewN | apply below_drew1) | exact HB.out)) hb); have HN2_ := Aside0.mk (Nat.le_of_eq hn_); clear HB HN hb hn_ ho0 HV0 HV1 HV2 HV3 HV4 HV5 HV6; have HB := HB2; have HN := HN2_; have HV0 := HV02; have HV1 := HV12; have HV2 := HV22; have HV3 := HV32; have HV4 := HV42; have HV5 := HV52; have HV6 := HV62; clear HB2 HN2_ HV02 HV12 HV22 HV32 HV42 HV52 HV62; obtain ⟨B7, cc7, es_⟩ := Kd.R_slice HV7.out; subst es_) | ((with_reducible refine gate_callee (f := 20) rfl ?_); refine goesL_ (some 60) rfl rfl Try.func20 (by kernel_rfl) rfl #[.slice B4 l1.length cc4, .slice B7 l1.length cc7] rfl (by (try simp only [List.map_toArray, List.map_cons, List.map_nil]); first | done | rfl | (simp only [List.length_drop, List.length_take]; rfl)) ?_; (with_reducible refine (laws_eqIntS.calls kAE2 _ _ l1 _ _ l1 true _ ?side1 ?side2 ?side3 ?side4 AE2.out).mono ?_); (case side1 => exact (Kd.R_reads' (by (with_reducible repeat (first | apply Kd.R_alloc | apply Kd.R_drewN | apply Kd.R_drew)); exact HV4.out)).2.2); (case side2 => exact (Kd.R_reads' HV4.out).2.1); (case side3 => exact (Kd.R_reads' (by (with_reducible repeat (first | apply Kd.R_alloc | apply Kd.R_drewN | apply Kd.R_drew)); exact HV7.out)).2.2); (case side4 => exact (Kd.R_reads' HV7.out).2.1); rintro e w' ⟨rfl, ⟨nd, rfl⟩⟩; refine ⟨_, rfl, ?_⟩))
  go_upto_region 19 with (first | ((with_reducible refine gate_callee (f := 15) rfl ?_); refine goesL_ (some 64) rfl rfl Try.func15 (by kernel_rfl) rfl #[.slice B3 l0.length cc3, .int .i64 1] rfl (by (try simp only [List.map_toArray, List.map_cons, List.map_nil]); first | done | rfl | (simp only [List.length_drop, List.length_take]; rfl)) ?_; (with_reducible refine (AK0.out _ W _ (fun k => n3 ≤ k ∧ k < n4) ?side1 ?side2).mono ?_); (case side1 => exact (by repeat (first | (with_reducible first | exact HB.out | apply below_alloc | apply pw_below_drewN | apply below_drew1) | exact HB.out))); (case side2 => exact (by (with_reducible repeat (first | apply Kd.S_alloc | apply Kd.S_drewN | apply Kd.S_drew)); exact HV3.out)); rintro e w9 ⟨rfl, ho, hb, hk⟩; refine ⟨_, rfl, ?_⟩; have HV02 := Aside0.mk (Kd.S_kept (by (with_reducible repeat (first | apply Kd.S_alloc | apply Kd.S_drewN | apply Kd.S_drew)); exact HV0.out) hk (fun k h1 h2 => by obtain ⟨a1, a2⟩ := h1; obtain ⟨b1, b2⟩ := h2; have zn1 := HLn1.out; have zn2 := HLn2.out; have zn3 := HLn3.out; have zn4 := HLn4.out; have zn5 := HLn5.out; have zn6 := HLn6.out; have zn7 := HLn7.out; have zn8 := HLn8.out; omega)); have HV12 := Aside0.mk (Kd.R_kept (by (with_reducible repeat (first | apply Kd.R_alloc | apply Kd.R_drewN | apply Kd.R_drew)); exact HV1.out) hk (fun k h1 h2 => by obtain ⟨a1, a2⟩ := h1; obtain ⟨b1, b2⟩ := h2; have zn1 := HLn1.out; have zn2 := HLn2.out; have zn3 := HLn3.out; have zn4 := HLn4.out; have zn5 := HLn5.out; have zn6 := HLn6.out; have zn7 := HLn7.out; have zn8 := HLn8.out; omega)); have HV22 := Aside0.mk (Kd.V_kept (by (with_reducible repeat (first | apply Kd.V_alloc | apply Kd.V_drewN | apply Kd.V_drew)); exact HV2.out) hk (fun k h1 h2 => by obtain ⟨a1, a2⟩ := h1; obtain ⟨b1, b2⟩ := h2; have zn1 := HLn1.out; have zn2 := HLn2.out; have zn3 := HLn3.out; have zn4 := HLn4.out; have zn5 := HLn5.out; have zn6 := HLn6.out; have zn7 := HLn7.out; have zn8 := HLn8.out; omega)); have HV42 := Aside0.mk (Kd.R_kept (by (with_reducible repeat (first | apply Kd.R_alloc | apply Kd.R_drewN | apply Kd.R_drew)); exact HV4.out) hk (fun k h1 h2 => by obtain ⟨a1, a2⟩ := h1; obtain ⟨b1, b2⟩ := h2; have zn1 := HLn1.out; have zn2 := HLn2.out; have zn3 := HLn3.out; have zn4 := HLn4.out; have zn5 := HLn5.out; have zn6 := HLn6.out; have zn7 := HLn7.out; have zn8 := HLn8.out; omega)); have HV52 := Aside0.mk (Kd.S_kept (by (with_reducible repeat (first | apply Kd.S_alloc | apply Kd.S_drewN | apply Kd.S_drew)); exact HV5.out) hk (fun k h1 h2 => by obtain ⟨a1, a2⟩ := h1; obtain ⟨b1, b2⟩ := h2; have zn1 := HLn1.out; have zn2 := HLn2.out; have zn3 := HLn3.out; have zn4 := HLn4.out; have zn5 := HLn5.out; have zn6 := HLn6.out; have zn7 := HLn7.out; have zn8 := HLn8.out; omega)); have HV62 := Aside0.mk (Kd.S_kept (by (with_reducible repeat (first | apply Kd.S_alloc | apply Kd.S_drewN | apply Kd.S_drew)); exact HV6.out) hk (fun k h1 h2 => by obtain ⟨a1, a2⟩ := h1; obtain ⟨b1, b2⟩ := h2; have zn1 := HLn1.out; have zn2 := HLn2.out; have zn3 := HLn3.out; have zn4 := HLn4.out; have zn5 := HLn5.out; have zn6 := HLn6.out; have zn7 := HLn7.out; have zn8 := HLn8.out; omega)); have HV72 := Aside0.mk (Kd.R_kept (by (with_reducible repeat (first | apply Kd.R_alloc | apply Kd.R_drewN | apply Kd.R_drew)); exact HV7.out) hk (fun k h1 h2 => by obtain ⟨a1, a2⟩ := h1; obtain ⟨b1, b2⟩ := h2; have zn1 := HLn1.out; have zn2 := HLn2.out; have zn3 := HLn3.out; have zn4 := HLn4.out; have zn5 := HLn5.out; have zn6 := HLn6.out; have zn7 := HLn7.out; have zn8 := HLn8.out; omega)); have HO2_ := Aside0.mk ho; have HB2 := Aside0.mk hb; have HN2_ := Aside0.mk (Nat.le_trans HN.out hk.1); clear ho hb hk HB HN HV0 HV1 HV2 HV3 HV4 HV5 HV6 HV7; have HB := HB2; have HN := HN2_; have HV0 := HV02; have HV1 := HV12; have HV2 := HV22; have HV4 := HV42; have HV5 := HV52; have HV6 := HV62; have HV7 := HV72; clear HB2 HN2_ HO2_ HV02 HV12 HV22 HV42 HV52 HV62 HV72))
  go_upto_region 20 with (first | ((with_reducible refine gate_callee (f := 21) rfl ?_); refine goesL_ (some 67) rfl rfl Try.func21 (by kernel_rfl) rfl #[.slice B4 l1.length cc4, .int .i64 T0] rfl (by (try simp only [List.map_toArray, List.map_cons, List.map_nil]); first | done | rfl | (simp only [List.length_drop, List.length_take]; rfl)) ?_; (with_reducible refine (laws_markIntS.calls kAK1 (fun k => n4 ≤ k ∧ k < n5) _ l1 T0 T1 M1 W _ ?side1 ?side2 AK1.out).mono ?_); (case side1 => exact (by repeat (first | (with_reducible first | exact HB.out | apply below_alloc | apply pw_below_drewN | apply below_drew1) | exact HB.out))); (case side2 => exact (by (with_reducible repeat (first | apply Kd.R_alloc | apply Kd.R_drewN | apply Kd.R_drew)); exact HV4.out)); rintro e w10 ⟨rfl, ho, hb, hk⟩; refine ⟨_, rfl, ?_⟩; have HV02 := Aside0.mk (Kd.S_kept (by (with_reducible repeat (first | apply Kd.S_alloc | apply Kd.S_drewN | apply Kd.S_drew)); exact HV0.out) hk (fun k h1 h2 => by obtain ⟨a1, a2⟩ := h1; obtain ⟨b1, b2⟩ := h2; have zn1 := HLn1.out; have zn2 := HLn2.out; have zn3 := HLn3.out; have zn4 := HLn4.out; have zn5 := HLn5.out; have zn6 := HLn6.out; have zn7 := HLn7.out; have zn8 := HLn8.out; omega)); have HV12 := Aside0.mk (Kd.R_kept (by (with_reducible repeat (first | apply Kd.R_alloc | apply Kd.R_drewN | apply Kd.R_drew)); exact HV1.out) hk (fun k h1 h2 => by obtain ⟨a1, a2⟩ := h1; obtain ⟨b1, b2⟩ := h2; have zn1 := HLn1.out; have zn2 := HLn2.out; have zn3 := HLn3.out; have zn4 := HLn4.out; have zn5 := HLn5.out; have zn6 := HLn6.out; have zn7 := HLn7.out; have zn8 := HLn8.out; omega)); have HV22 := Aside0.mk (Kd.V_kept (by (with_reducible repeat (first | apply Kd.V_alloc | apply Kd.V_drewN | apply Kd.V_drew)); exact HV2.out) hk (fun k h1 h2 => by obtain ⟨a1, a2⟩ := h1; obtain ⟨b1, b2⟩ := h2; have zn1 := HLn1.out; have zn2 := HLn2.out; have zn3 := HLn3.out; have zn4 := HLn4.out; have zn5 := HLn5.out; have zn6 := HLn6.out; have zn7 := HLn7.out; have zn8 := HLn8.out; omega)); have HV52 := Aside0.mk (Kd.S_kept (by (with_reducible repeat (first | apply Kd.S_alloc | apply Kd.S_drewN | apply Kd.S_drew)); exact HV5.out) hk (fun k h1 h2 => by obtain ⟨a1, a2⟩ := h1; obtain ⟨b1, b2⟩ := h2; have zn1 := HLn1.out; have zn2 := HLn2.out; have zn3 := HLn3.out; have zn4 := HLn4.out; have zn5 := HLn5.out; have zn6 := HLn6.out; have zn7 := HLn7.out; have zn8 := HLn8.out; omega)); have HV62 := Aside0.mk (Kd.S_kept (by (with_reducible repeat (first | apply Kd.S_alloc | apply Kd.S_drewN | apply Kd.S_drew)); exact HV6.out) hk (fun k h1 h2 => by obtain ⟨a1, a2⟩ := h1; obtain ⟨b1, b2⟩ := h2; have zn1 := HLn1.out; have zn2 := HLn2.out; have zn3 := HLn3.out; have zn4 := HLn4.out; have zn5 := HLn5.out; have zn6 := HLn6.out; have zn7 := HLn7.out; have zn8 := HLn8.out; omega)); have HV72 := Aside0.mk (Kd.R_kept (by (with_reducible repeat (first | apply Kd.R_alloc | apply Kd.R_drewN | apply Kd.R_drew)); exact HV7.out) hk (fun k h1 h2 => by obtain ⟨a1, a2⟩ := h1; obtain ⟨b1, b2⟩ := h2; have zn1 := HLn1.out; have zn2 := HLn2.out; have zn3 := HLn3.out; have zn4 := HLn4.out; have zn5 := HLn5.out; have zn6 := HLn6.out; have zn7 := HLn7.out; have zn8 := HLn8.out; omega)); have HO2_ := Aside0.mk ho; have HB2 := Aside0.mk hb; have HN2_ := Aside0.mk (Nat.le_trans HN.out hk.1); clear ho hb hk HB HN HV0 HV1 HV2 HV4 HV5 HV6 HV7; have HB := HB2; have HN := HN2_; have HV0 := HV02; have HV1 := HV12; have HV2 := HV22; have HV5 := HV52; have HV6 := HV62; have HV7 := HV72; clear HB2 HN2_ HO2_ HV02 HV12 HV22 HV52 HV62 HV72))
  go_upto_region 23 with (first | (go_at_call 14; (with_reducible refine (laws_eqIntSS.calls kAE0 _ _ L0 _ _ L0 true _ ?side1 ?side2 ?side3 ?side4 AE0.out).mono ?_); (case side1 => exact (Kd.S_reads' (by (with_reducible repeat (first | apply Kd.S_alloc | apply Kd.S_drewN | apply Kd.S_drew)); exact HV5.out)).2.2); (case side2 => exact (Kd.S_reads' HV5.out).2.1); (case side3 => exact (Kd.V_reads' (by (with_reducible repeat (first | apply Kd.V_alloc | apply Kd.V_drewN | apply Kd.V_drew)); exact HV2.out)).2.2); (case side4 => exact (Kd.V_reads' HV2.out).2.1); rintro e w' ⟨rfl, ⟨nd, rfl⟩⟩))
  go_upto_region 25 with (first | ((with_reducible refine gate_callee (f := 15) rfl ?_); refine goesL_ (some 83) rfl rfl Try.func15 (by kernel_rfl) rfl #[.slice B5 L0.length cc5, .int .i64 1] rfl (by (try simp only [List.map_toArray, List.map_cons, List.map_nil]); first | done | rfl | (simp only [List.length_drop, List.length_take]; rfl)) ?_; (with_reducible refine (AK2.out _ W _ (fun k => n5 ≤ k ∧ k < n6) ?side1 ?side2).mono ?_); (case side1 => exact (by repeat (first | (with_reducible first | exact HB.out | apply below_alloc | apply pw_below_drewN | apply below_drew1) | exact HB.out))); (case side2 => exact (by (with_reducible repeat (first | apply Kd.S_alloc | apply Kd.S_drewN | apply Kd.S_drew)); exact HV5.out)); rintro e w11 ⟨rfl, ho, hb, hk⟩; refine ⟨_, rfl, ?_⟩; have HV02 := Aside0.mk (Kd.S_kept (by (with_reducible repeat (first | apply Kd.S_alloc | apply Kd.S_drewN | apply Kd.S_drew)); exact HV0.out) hk (fun k h1 h2 => by obtain ⟨a1, a2⟩ := h1; obtain ⟨b1, b2⟩ := h2; have zn1 := HLn1.out; have zn2 := HLn2.out; have zn3 := HLn3.out; have zn4 := HLn4.out; have zn5 := HLn5.out; have zn6 := HLn6.out; have zn7 := HLn7.out; have zn8 := HLn8.out; omega)); have HV12 := Aside0.mk (Kd.R_kept (by (with_reducible repeat (first | apply Kd.R_alloc | apply Kd.R_drewN | apply Kd.R_drew)); exact HV1.out) hk (fun k h1 h2 => by obtain ⟨a1, a2⟩ := h1; obtain ⟨b1, b2⟩ := h2; have zn1 := HLn1.out; have zn2 := HLn2.out; have zn3 := HLn3.out; have zn4 := HLn4.out; have zn5 := HLn5.out; have zn6 := HLn6.out; have zn7 := HLn7.out; have zn8 := HLn8.out; omega)); have HV22 := Aside0.mk (Kd.V_kept (by (with_reducible repeat (first | apply Kd.V_alloc | apply Kd.V_drewN | apply Kd.V_drew)); exact HV2.out) hk (fun k h1 h2 => by obtain ⟨a1, a2⟩ := h1; obtain ⟨b1, b2⟩ := h2; have zn1 := HLn1.out; have zn2 := HLn2.out; have zn3 := HLn3.out; have zn4 := HLn4.out; have zn5 := HLn5.out; have zn6 := HLn6.out; have zn7 := HLn7.out; have zn8 := HLn8.out; omega)); have HV62 := Aside0.mk (Kd.S_kept (by (with_reducible repeat (first | apply Kd.S_alloc | apply Kd.S_drewN | apply Kd.S_drew)); exact HV6.out) hk (fun k h1 h2 => by obtain ⟨a1, a2⟩ := h1; obtain ⟨b1, b2⟩ := h2; have zn1 := HLn1.out; have zn2 := HLn2.out; have zn3 := HLn3.out; have zn4 := HLn4.out; have zn5 := HLn5.out; have zn6 := HLn6.out; have zn7 := HLn7.out; have zn8 := HLn8.out; omega)); have HV72 := Aside0.mk (Kd.R_kept (by (with_reducible repeat (first | apply Kd.R_alloc | apply Kd.R_drewN | apply Kd.R_drew)); exact HV7.out) hk (fun k h1 h2 => by obtain ⟨a1, a2⟩ := h1; obtain ⟨b1, b2⟩ := h2; have zn1 := HLn1.out; have zn2 := HLn2.out; have zn3 := HLn3.out; have zn4 := HLn4.out; have zn5 := HLn5.out; have zn6 := HLn6.out; have zn7 := HLn7.out; have zn8 := HLn8.out; omega)); have HO2_ := Aside0.mk ho; have HB2 := Aside0.mk hb; have HN2_ := Aside0.mk (Nat.le_trans HN.out hk.1); clear ho hb hk HB HN HV0 HV1 HV2 HV5 HV6 HV7; have HB := HB2; have HN := HN2_; have HV0 := HV02; have HV1 := HV12; have HV2 := HV22; have HV6 := HV62; have HV7 := HV72; have HV5 := HO2_; clear HB2 HN2_ HO2_ HV02 HV12 HV22 HV62 HV72))
  go_upto_region 30 with (first | ((with_reducible refine gate_callee (f := 16) rfl ?_); refine goesL_ (some 86) rfl rfl Try.func16 (by kernel_rfl) rfl #[.slice B5 L0.length cc5, .int .i64 1] rfl (by (try simp only [List.map_toArray, List.map_cons, List.map_nil]); first | done | rfl | (simp only [List.length_drop, List.length_take]; rfl)) ?_; (with_reducible refine (AH2.out B5 cc5 _ ?side1).mono ?_); (case side1 => exact ⟨_, (by (with_reducible repeat (first | apply Kd.S_alloc | apply Kd.S_drewN | apply Kd.S_drew)); exact HV5.out)⟩); rintro e w' ⟨rfl, ⟨nd, rfl⟩⟩; refine ⟨_, rfl, ?_⟩))
  go_upto_region 31 with (first | ((with_reducible refine gate_callee (f := 24) rfl ?_); refine goesL_ (some 94) rfl rfl Try.func24 (by kernel_rfl) rfl #[.slice A0 l0.length c0] rfl (by (try simp only [List.map_toArray, List.map_cons, List.map_nil]); first | done | rfl | (simp only [List.length_drop, List.length_take]; rfl)) ?_; (with_reducible refine (laws_toIntSS.calls kt0 _ _ l0 l0 _ ?side1 ?side2 AT0.out).mono ?_); (case side1 => exact (Kd.C_below HR0.out (by repeat (first | (with_reducible first | exact HB.out | apply below_alloc | apply pw_below_drewN | apply below_drew1) | exact HB.out)))); (case side2 => exact HC0.out); rintro e w12 ⟨vv0, rfl, ho0, hb⟩; refine ⟨_, rfl, ?_⟩; obtain ⟨n9, hn_⟩ : ∃ n, n = w12.heap.size := ⟨_, rfl⟩; have HLn9 := Aside0.mk (show n8 ≤ n9 from Nat.le_trans HN.out (Nat.le_trans hb.size (Nat.le_of_eq hn_.symm))); have HV8 := Aside0.mk (Kd.S_mono (ok' := fun k => n8 ≤ k ∧ k < n9) (Kd.S_lower (Kd.S_bound ho0) (below_size (by repeat (first | (with_reducible first | exact HB.out | apply below_alloc | apply pw_below_drewN | apply below_drew1) | exact HB.out)))) (fun k hk => ⟨Nat.le_trans HN.out hk.2.1, by have := hk.2.2.1; omega⟩)); have HV02 := Aside0.mk (Kd.S_below (by (with_reducible repeat (first | apply Kd.S_alloc | apply Kd.S_drewN | apply Kd.S_drew)); exact HV0.out) hb); have HV12 := Aside0.mk (Kd.R_below (by (with_reducible repeat (first | apply Kd.R_alloc | apply Kd.R_drewN | apply Kd.R_drew)); exact HV1.out) hb); have HV22 := Aside0.mk (Kd.V_below (by (with_reducible repeat (first | apply Kd.V_alloc | apply Kd.V_drewN | apply Kd.V_drew)); exact HV2.out) hb); have HV52 := Aside0.mk (Kd.S_below (by (with_reducible repeat (first | apply Kd.S_alloc | apply Kd.S_drewN | apply Kd.S_drew)); exact HV5.out) hb); have HV62 := Aside0.mk (Kd.S_below (by (with_reducible repeat (first | apply Kd.S_alloc | apply Kd.S_drewN | apply Kd.S_drew)); exact HV6.out) hb); have HV72 := Aside0.mk (Kd.R_below (by (with_reducible repeat (first | apply Kd.R_alloc | apply Kd.R_drewN | apply Kd.R_drew)); exact HV7.out) hb); have HB2 := Aside0.mk (below_step (by repeat (first | (with_reducible first | exact HB.out | apply below_alloc | apply pw_below_drewN | apply below_drew1) | exact HB.out)) hb); have HN2_ := Aside0.mk (Nat.le_of_eq hn_); clear HB HN hb hn_ ho0 HV0 HV1 HV2 HV5 HV6 HV7; have HB := HB2; have HN := HN2_; have HV0 := HV02; have HV1 := HV12; have HV2 := HV22; have HV5 := HV52; have HV6 := HV62; have HV7 := HV72; clear HB2 HN2_ HV02 HV12 HV22 HV52 HV62 HV72; obtain ⟨B8, cc8, es_⟩ := Kd.S_slice HV8.out; subst es_) | ((with_reducible refine gate_callee (f := 18) rfl ?_); refine goesL_ (some 96) rfl rfl Try.func18 (by kernel_rfl) rfl #[.slice A1 l1.length c1] rfl (by (try simp only [List.map_toArray, List.map_cons, List.map_nil]); first | done | rfl | (simp only [List.length_drop, List.length_take]; rfl)) ?_; (with_reducible refine (laws_toIntS.calls kt1 _ _ l1 l1 _ ?side1 ?side2 AT1.out).mono ?_); (case side1 => exact (Kd.C_below HR1.out (by repeat (first | (with_reducible first | exact HB.out | apply below_alloc | apply pw_below_drewN | apply below_drew1) | exact HB.out)))); (case side2 => exact HC1.out); rintro e w13 ⟨vv0, rfl, ho0, hb⟩; refine ⟨_, rfl, ?_⟩; obtain ⟨n10, hn_⟩ : ∃ n, n = w13.heap.size := ⟨_, rfl⟩; have HLn10 := Aside0.mk (show n9 ≤ n10 from Nat.le_trans HN.out (Nat.le_trans hb.size (Nat.le_of_eq hn_.symm))); have HV9 := Aside0.mk (Kd.R_mono (ok' := fun k => n9 ≤ k ∧ k < n10) (Kd.R_lower (Kd.R_bound ho0) (below_size (by repeat (first | (with_reducible first | exact HB.out | apply below_alloc | apply pw_below_drewN | apply below_drew1) | exact HB.out)))) (fun k hk => ⟨Nat.le_trans HN.out hk.2.1, by have := hk.2.2.1; omega⟩)); have HV02 := Aside0.mk (Kd.S_below (by (with_reducible repeat (first | apply Kd.S_alloc | apply Kd.S_drewN | apply Kd.S_drew)); exact HV0.out) hb); have HV12 := Aside0.mk (Kd.R_below (by (with_reducible repeat (first | apply Kd.R_alloc | apply Kd.R_drewN | apply Kd.R_drew)); exact HV1.out) hb); have HV22 := Aside0.mk (Kd.V_below (by (with_reducible repeat (first | apply Kd.V_alloc | apply Kd.V_drewN | apply Kd.V_drew)); exact HV2.out) hb); have HV52 := Aside0.mk (Kd.S_below (by (with_reducible repeat (first | apply Kd.S_alloc | apply Kd.S_drewN | apply Kd.S_drew)); exact HV5.out) hb); have HV62 := Aside0.mk (Kd.S_below (by (with_reducible repeat (first | apply Kd.S_alloc | apply Kd.S_drewN | apply Kd.S_drew)); exact HV6.out) hb); have HV72 := Aside0.mk (Kd.R_below (by (with_reducible repeat (first | apply Kd.R_alloc | apply Kd.R_drewN | apply Kd.R_drew)); exact HV7.out) hb); have HV82 := Aside0.mk (Kd.S_below (by (with_reducible repeat (first | apply Kd.S_alloc | apply Kd.S_drewN | apply Kd.S_drew)); exact HV8.out) hb); have HB2 := Aside0.mk (below_step (by repeat (first | (with_reducible first | exact HB.out | apply below_alloc | apply pw_below_drewN | apply below_drew1) | exact HB.out)) hb); have HN2_ := Aside0.mk (Nat.le_of_eq hn_); clear HB HN hb hn_ ho0 HV0 HV1 HV2 HV5 HV6 HV7 HV8; have HB := HB2; have HN := HN2_; have HV0 := HV02; have HV1 := HV12; have HV2 := HV22; have HV5 := HV52; have HV6 := HV62; have HV7 := HV72; have HV8 := HV82; clear HB2 HN2_ HV02 HV12 HV22 HV52 HV62 HV72 HV82; obtain ⟨B9, cc9, es_⟩ := Kd.R_slice HV9.out; subst es_) | ((with_reducible refine gate_callee (f := 36) rfl ?_); refine goesL_ (some 97) rfl rfl Try.func36 (by kernel_rfl) rfl #[.slice B8 l0.length cc8, .slice B9 l1.length cc9] rfl (by (try simp only [List.map_toArray, List.map_cons, List.map_nil]); first | done | rfl | (simp only [List.length_drop, List.length_take]; rfl)) ?_; (with_reducible refine (impl_FromParts.calls kI _ _ l0 _ _ l1 L0 b _ ?side1 ?side2 ?side3 ?side4 AI.out).mono ?_); (case side1 => exact (Kd.S_reads' (by (with_reducible repeat (first | apply Kd.S_alloc | apply Kd.S_drewN | apply Kd.S_drew)); exact HV8.out)).2.2); (case side2 => exact (Kd.S_reads' HV8.out).2.1); (case side3 => exact (Kd.R_reads' (by (with_reducible repeat (first | apply Kd.R_alloc | apply Kd.R_drewN | apply Kd.R_drew)); exact HV9.out)).2.2); (case side4 => exact (Kd.R_reads' HV9.out).2.1); rintro e w14 ⟨vv0, rfl, ho0, hb⟩; refine ⟨_, rfl, ?_⟩; obtain ⟨n11, hn_⟩ : ∃ n, n = w14.heap.size := ⟨_, rfl⟩; have HLn11 := Aside0.mk (show n10 ≤ n11 from Nat.le_trans HN.out (Nat.le_trans hb.size (Nat.le_of_eq hn_.symm))); have HV10 := Aside0.mk (Kd.S_mono (ok' := fun k => n10 ≤ k ∧ k < n11) (Kd.S_lower (Kd.S_bound ho0) (below_size (by repeat (first | (with_reducible first | exact HB.out | apply below_alloc | apply pw_below_drewN | apply below_drew1) | exact HB.out)))) (fun k hk => ⟨Nat.le_trans HN.out hk.2.1, by have := hk.2.2.1; omega⟩)); have HV02 := Aside0.mk (Kd.S_below (by (with_reducible repeat (first | apply Kd.S_alloc | apply Kd.S_drewN | apply Kd.S_drew)); exact HV0.out) hb); have HV12 := Aside0.mk (Kd.R_below (by (with_reducible repeat (first | apply Kd.R_alloc | apply Kd.R_drewN | apply Kd.R_drew)); exact HV1.out) hb); have HV22 := Aside0.mk (Kd.V_below (by (with_reducible repeat (first | apply Kd.V_alloc | apply Kd.V_drewN | apply Kd.V_drew)); exact HV2.out) hb); have HV52 := Aside0.mk (Kd.S_below (by (with_reducible repeat (first | apply Kd.S_alloc | apply Kd.S_drewN | apply Kd.S_drew)); exact HV5.out) hb); have HV62 := Aside0.mk (Kd.S_below (by (with_reducible repeat (first | apply Kd.S_alloc | apply Kd.S_drewN | apply Kd.S_drew)); exact HV6.out) hb); have HV72 := Aside0.mk (Kd.R_below (by (with_reducible repeat (first | apply Kd.R_alloc | apply Kd.R_drewN | apply Kd.R_drew)); exact HV7.out) hb); have HV82 := Aside0.mk (Kd.S_below (by (with_reducible repeat (first | apply Kd.S_alloc | apply Kd.S_drewN | apply Kd.S_drew)); exact HV8.out) hb); have HV92 := Aside0.mk (Kd.R_below (by (with_reducible repeat (first | apply Kd.R_alloc | apply Kd.R_drewN | apply Kd.R_drew)); exact HV9.out) hb); have HB2 := Aside0.mk (below_step (by repeat (first | (with_reducible first | exact HB.out | apply below_alloc | apply pw_below_drewN | apply below_drew1) | exact HB.out)) hb); have HN2_ := Aside0.mk (Nat.le_of_eq hn_); clear HB HN hb hn_ ho0 HV0 HV1 HV2 HV5 HV6 HV7 HV8 HV9; have HB := HB2; have HN := HN2_; have HV0 := HV02; have HV1 := HV12; have HV2 := HV22; have HV5 := HV52; have HV6 := HV62; have HV7 := HV72; have HV8 := HV82; have HV9 := HV92; clear HB2 HN2_ HV02 HV12 HV22 HV52 HV62 HV72 HV82 HV92; obtain ⟨B10, cc10, es_⟩ := Kd.S_slice HV10.out; subst es_))
  go_upto_region 34 with (first | ((with_reducible refine gate_callee (f := 14) rfl ?_); refine goesL_ (some 102) rfl rfl Try.func14 (by kernel_rfl) rfl #[.slice B10 L0.length cc10, .slice B2 L0.length cc2] rfl (by (try simp only [List.map_toArray, List.map_cons, List.map_nil]); first | done | rfl | (simp only [List.length_drop, List.length_take]; rfl)) ?_; (with_reducible refine (laws_eqIntSS.calls kAE0 _ _ L0 _ _ L0 true _ ?side1 ?side2 ?side3 ?side4 AE0.out).mono ?_); (case side1 => exact (Kd.S_reads' (by (with_reducible repeat (first | apply Kd.S_alloc | apply Kd.S_drewN | apply Kd.S_drew)); exact HV10.out)).2.2); (case side2 => exact (Kd.S_reads' HV10.out).2.1); (case side3 => exact (Kd.V_reads' (by (with_reducible repeat (first | apply Kd.V_alloc | apply Kd.V_drewN | apply Kd.V_drew)); exact HV2.out)).2.2); (case side4 => exact (Kd.V_reads' HV2.out).2.1); rintro e w' ⟨rfl, ⟨nd, rfl⟩⟩; refine ⟨_, rfl, ?_⟩))
  go_wp2_with (first | ((with_reducible refine gate_callee (f := 16) rfl ?_); refine goesL_ (some 111) rfl rfl Try.func16 (by kernel_rfl) rfl #[.slice B5 L0.length cc5, .int .i64 1] rfl (by (try simp only [List.map_toArray, List.map_cons, List.map_nil]); first | done | rfl | (simp only [List.length_drop, List.length_take]; rfl)) ?_; (with_reducible refine (AH2.out B5 cc5 _ ?side1).mono ?_); (case side1 => exact ⟨_, (by (with_reducible repeat (first | apply Kd.S_alloc | apply Kd.S_drewN | apply Kd.S_drew)); exact HV5.out)⟩); rintro e w' ⟨rfl, ⟨nd, rfl⟩⟩; refine ⟨_, rfl, ?_⟩))
  go_ret
  exact ⟨rfl, (by repeat (first | (with_reducible first | exact HB.out | apply below_alloc | apply pw_below_drewN | apply below_drew1) | exact HB.out))⟩
end Go.Proofs.Ytogjadakonakcaa.A

/- What came in as a slice, opened and read in the words of rows. -/
namespace Go.Proofs.Ytogjadakonakcaa.A
open Go.RowKit Go.Proofs.YtogjadakonakcaaW.PrintWords Go.Proofs.YtogjadakonakcaaW.PrintLast Go.Proofs.YtogjadakonakcaaW.PrintMore
attribute [local go_sem] max2_int min2_int max_two min_two max_three min_three max_four min_four
set_option linter.unusedVariables false
set_option linter.unusedSimpArgs false

open Go.ChangeShapes Go.WideShapes Go.ChangeAt Go.Deep
theorem row_ints {H : Type} {enc : TypeId × Value → H} {P : Program} {W : World} {base : Nat} {held : Bool} {t e : TypeId} {a : Option Addr} {len cap : Nat} {d : DataW H} {ps : List MemPlace}
    (ht : P.underlying t = some (.slice e)) (he : P.underlying e = some (.int .i64)) (hC : P.cellsOf e = 1) (h : DataW.Trod enc P W base (fun _ => true) held t (.slice a len cap) d ps) :
    ∃ l : List Int, len = l.length ∧ Kd.C (Kd.int .i64) W a l.length l ∧ l.length ≤ maxLen ∧ (∀ x ∈ l, (Lit.int .i64 x).wf = true) ∧ l.length ≤ cap := by
  have w0 : (a = none ∧ len = 0 ∧ cap = 0 ∧ ∃ z : List Int, z = []) ∨ ∃ z : List Int, ∃ x, a = some x ∧ len ≤ cap ∧ cap ≤ maxLen ∧ z.length = cap ∧ (∀ i, i < z.length → W.cell? (x.add i) = some (.int .i64 (z.getD i 0))) ∧ ∀ n ∈ z, (Lit.int .i64 n).wf = true := by
    obtain ⟨fuel, hf⟩ := h
    rcases open_ints ht he hC hf with ⟨hcs, _⟩ | ⟨x, l, c, zs, hcs, _, hl, hm, hz, _, hcell, hwz⟩
    · simp [Value.cells] at hcs
      obtain ⟨rfl, rfl, rfl⟩ := hcs
      exact .inl ⟨rfl, rfl, rfl, [], rfl⟩
    · simp [Value.cells] at hcs
      obtain ⟨rfl, rfl, rfl⟩ := hcs
      exact .inr ⟨zs, _, rfl, hl, hm, by simpa using hz, hcell, hwz⟩
  rcases w0 with ⟨rfl, rfl, rfl, _⟩ | ⟨z, x, rfl, hl, hm, hz, hcell, hw⟩
  · obtain ⟨l, hlen, hr, hm, hw, hc⟩ := ReadsInt.ofRowC (k := .i64) (w := W) (a := none) (len := 0) (cap := 0) (zs := []) (.inl ⟨rfl, rfl, rfl, rfl⟩)
    exact ⟨l, hlen, Kd.C_of_reads (d := (0 : Int)) (h1 := fun _ => rfl) hr, hm, hw, hc⟩
  · obtain ⟨l, hlen, hr, hm, hw, hc⟩ := ReadsInt.ofRowC (k := .i64) (w := W) (a := some x) (len := len) (cap := cap) (zs := z) (.inr ⟨x, rfl, hl, hm, hz, hcell, hw⟩)
    exact ⟨l, hlen, Kd.C_of_reads (d := (0 : Int)) (h1 := fun _ => rfl) hr, hm, hw, hc⟩
theorem row_rows {H : Type} {enc : TypeId × Value → H} {P : Program} {W : World} {base : Nat} {held : Bool} {t e q : TypeId} {a : Option Addr} {len cap : Nat} {d : DataW H} {ps : List MemPlace}
    (ht : P.underlying t = some (.slice e)) (he : P.underlying e = some (.slice q)) (hq : P.underlying q = some (.int .i64)) (ce : P.cellsOf e = 1) (cq : P.cellsOf q = 1) (h : DataW.Trod enc P W base (fun _ => true) held t (.slice a len cap) d ps) :
    ∃ l : List (List Int), len = l.length ∧ Kd.C (Kd.slice q (Kd.int .i64)) W a l.length l ∧ l.length ≤ 9223372036854775807 ∧ (∀ x ∈ l, x.length ≤ 9223372036854775807 ∧ ∀ y ∈ x, (Lit.int .i64 y).wf = true) ∧ l.length ≤ cap := by
  obtain ⟨fuel, hf⟩ := h
  rcases open_int_rows ht he hq ce cq hf with ⟨hcs, _⟩ | ⟨x, len', cap', A, L, C, Z, hcs, _, hl, hm, _, hrows⟩
  · simp [Value.cells] at hcs
    obtain ⟨rfl, rfl, rfl⟩ := hcs
    exact ⟨[], rfl, Kd.C_nil _ _, by simp, by simp, Nat.zero_le _⟩
  · simp [Value.cells] at hcs
    obtain ⟨rfl, rfl, rfl⟩ := hcs
    have hmax : cap ≤ 9223372036854775807 := by
      unfold maxLen at hm
      omega
    refine ⟨(List.range len).map fun r => (Z r).take (L r), by simp, ⟨rfl, by simp; omega, fun _ => ⟨x, rfl, fun j p hj => ?_⟩⟩, by simp; omega, ?_, by simpa using hl⟩
    · simp only [List.getElem?_map] at hj
      obtain ⟨r, hr, rfl⟩ := Option.map_eq_some_iff.1 hj
      obtain ⟨hjl, hjr⟩ := List.getElem?_eq_some_iff.1 hr
      rw [List.getElem_range] at hjr
      subst hjr
      rw [List.length_range] at hjl
      obtain ⟨h1, h2, h3, h4, h5, h6, h7⟩ := hrows j (by omega)
      have hlen : ((Z j).take (L j)).length = L j := by rw [List.length_take]; omega
      refine ⟨[.slice (A j) (L j) (C j)], rfl, ⟨A j, C j, by rw [hlen], by rw [hlen]; exact h2, ?_⟩, ?_⟩
      · refine Kd.C_of_reads (d := (0 : Int)) (h1 := fun _ => rfl) ⟨rfl, by rw [hlen]; unfold maxLen at h3; omega, fun hp => ?_⟩
        rw [hlen] at hp
        cases ha : A j with
        | none =>
          have := h6 ha
          omega
        | some a' =>
          refine ⟨a', rfl, fun i hi => ?_⟩
          rw [hlen] at hi
          rw [(h7 a' ha).2 i (by omega)]
          simp only [List.getD_eq_getElem?_getD, List.getElem?_take_of_lt hi]
      · intro i u hu
        cases i with
        | zero =>
          simp at hu
          subst hu
          rw [Nat.add_zero]
          have : (Kd.slice q (Kd.int .i64)).sz = 1 := rfl
          rw [this, Nat.mul_one]
          exact h1
        | succ i => simp at hu
    · intro y hy
      obtain ⟨r, hr, rfl⟩ := List.mem_map.1 hy
      rw [List.mem_range] at hr
      obtain ⟨h1, h2, h3, h4, h5, h6, h7⟩ := hrows r (by omega)
      refine ⟨by rw [List.length_take]; unfold maxLen at h3; omega, fun z hz => h5 z (List.mem_of_mem_take hz)⟩
end Go.Proofs.Ytogjadakonakcaa.A
