/- What the law FnPartsOfTables reaches, part 3: Lean functions with the same answers as the Go functions, the proofs that the Go code comes to these answers, and lemmas about them; no condition beyond those that each theorem names. -/
import Derived.Test.YtgcgecbdmomceaaCFnPartsOfTablesw1
import Derived.Lib.SliceRun
import Derived.Laws.EntriesVeiled
import Derived.Laws.Cover3
import Derived.Test.YtgcgecbdmomceaaCFnPartsOfTables1
import Derived.Test.YtgcgecbdmomceaaCFnPartsOfTables2
/- FromParts: ContainsFunc over rows with a function that has captured the table, a table of zeros by square, then the placings laid on. -/
namespace Go.Proofs.Ytgcgecbdmomceaa.A
open Go.RowKit Go.Proofs.YtgcgecbdmomceaaW.PrintWords Go.Proofs.YtgcgecbdmomceaaW.PrintLast Go.Proofs.YtgcgecbdmomceaaW.PrintMore
attribute [local go_sem] max2_int min2_int max_two min_two max_three min_three max_four min_four
set_option linter.unusedVariables false
set_option linter.unusedSimpArgs false

open Go.Shelf Go.Lib
def zeroF (_ _ : Int) : Option Int := some 0
theorem zero_cell {w : World} (i j t : Int) (W : World) (h : zeroF i j = some t) (_ : Below w.heap.size w W) : Calls Try.prog 33 (#[.int .i64 i, .int .i64 j] ++ #[]) W fun e w' => e = .returned (.int .i64 t) ∧ Below W.heap.size W w' := by
 obtain rfl := Option.some.inj h
 show Calls Try.prog 33 #[.int .i64 i, .int .i64 j] W _
 go_enter Try.func33, Try.ntmps33
 go_wp2
 go_ret
 exact ⟨rfl, Below.refl _ _⟩
def badP (n : Nat) (x : List Int) : Bool := !(decide ((x.length : Int) = (n : Int)) && placeB x)
def badAny (l : List (List Int)) : Option Bool := if (l.all fun x => decide (x.length ≤ 1048576)) = true ∧ l.length ≤ 1048576 ∧ 1 ≤ l.length then some (l.any (badP (rd_L2 l 0).length)) else none
set_option maxHeartbeats 2000000 in
set_option maxRecDepth 100000 in
theorem fp_row (ad0 : Addr) (B : Nat) (l0 : List (List Int)) (c0 cx : Nat) (ad : Option Addr) (x : List Int) (W : World) (hx : x.length ≤ 1048576) (hl : 1 ≤ l0.length) (hB : W.cell? ⟨B, 0, none⟩ = some (.slice (some ad0) l0.length c0)) (hT : Kd.C (Kd.slice 3 (Kd.int .i64)) W (some ad0) l0.length l0) (hr : Kd.C (Kd.int .i64) W ad x.length x) (hc : x.length ≤ cx) :
 Calls Try.prog 31 #[.slice ad x.length cx, .pointer (some ⟨B, 0, none⟩)] W fun e w' => e = .returned (.bool (badP (rd_L2 l0 0).length x)) ∧ ∃ q, w' = W.drewN q := by
 obtain ⟨ad1, A1, c1, e1, hx1, _, _⟩ := at_L2 hT 0 (by omega) (by omega)
 injection e1 with e1
 subst e1
 rw [show ((0 : Int)).toNat = 0 from rfl, Addr.add_zero'] at hx1
 obtain ⟨k, hk⟩ := Ev.get (implIsPlacing_ev x (by omega))
 have q0 : (0 < l0.length) = True := eq_true (by omega)
 have HR := Aside0.mk hr
 have HC := Aside0.mk hc
 have HK := Aside0.mk hk
 have hd : badP (rd_L2 l0 0).length x = !(decide ((x.length : Int) = ((rd_L2 l0 0).length : Int)) && placeB x) := rfl
 rw [hd]
 generalize rd_L2 l0 0 = y at *
 have HX := Aside0.mk hx
 clear hd hx hr hc hk hT hl
 by_cases h : (x.length : Int) = (y.length : Int)
 · have h1 : ((x.length : Int) != (y.length : Int)) = false := bne_eq_false_iff_eq.mpr h
   rw [decide_eq_true h, Bool.true_and]
   clear h
   by_cases h6 : (x.length : Int) > 6
   · have h2 : decide ((x.length : Int) > 6) = true := decide_eq_true h6
     have e : placeB x = false := by unfold placeB; rw [if_neg (by omega)]
     rw [e]
     clear h6 e HK
     go_enter Try.func31, Try.ntmps31
     go_wp2
     go_ret
     exact ⟨by simp, 0, rfl⟩
   · have h2 : decide ((x.length : Int) > 6) = false := decide_eq_false h6
     clear h6
     go_enter Try.func31, Try.ntmps31
     go_wp2_with (go_at_call 32; refine (impl_IsPlacing.calls k _ _ x _ _ ?side1 ?side2 HK.out).mono ?_; (case side1 => repeat (first | exact HR.out | (with_reducible refine Kd.C_alloc ?_ _) | (with_reducible refine Kd.C_drewN ?_ _) | (with_reducible refine Kd.C_drew ?_))); (case side2 => exact HC.out); rintro e w' ⟨rfl, ⟨nd, rfl⟩⟩)
     go_ret
     exact ⟨by simp, _, rfl⟩
 · have h1 : ((x.length : Int) != (y.length : Int)) = true := bne_iff_ne.mpr h
   rw [decide_eq_false h]
   clear h HK
   go_enter Try.func31, Try.ntmps31
   go_wp2
   go_ret
   exact ⟨by simp, 0, rfl⟩
theorem fpAny_calls (B : Nat) (A0 : Option Addr) (c0 : Nat) (l0 : List (List Int)) (r : Bool) (w : World) (hB : w.cell? ⟨B, 0, none⟩ = some (.slice A0 l0.length c0)) (hr0 : Kd.C (Kd.slice 3 (Kd.int .i64)) w A0 l0.length l0) (hc0 : l0.length ≤ c0) (h : badAny l0 = some r) :
 Calls Try.prog 30 #[.slice A0 l0.length c0, .func (.func 31) #[] #[.pointer (some ⟨B, 0, none⟩)]] w fun e w' => e = .returned (.bool r) ∧ Below w.heap.size w w' := by
 unfold badAny at h
 split at h
 next hb =>
  obtain ⟨hb1, hb2, hb3⟩ := hb
  obtain ⟨ad, _, _, hA, _⟩ := at_L2 hr0 0 (by omega) (by omega)
  subst hA
  obtain ⟨vs, hvs⟩ := rowsAt hr0
  have eg : ∀ args w, (callFunc 31 args).run Try.prog w = .ok (.enter 31 args) w := enters_of Try.func31 (by kernel_rfl) rfl
  refine (anyHas Try.hasL ad l0.length c0 vs (fun j => badP (rd_L2 l0 0).length (l0.getD j [])) 31 #[.pointer (some ⟨B, 0, none⟩)] w eg (by omega) (fun j hj => (hvs j hj).1) (fun j hj q' => ?_)).mono ?_
  · obtain ⟨A, c, hv, hle, hC⟩ := (hvs j hj).2
    rw [hv]
    have hm : l0.getD j [] ∈ l0 := by
     rw [List.getD_eq_getElem?_getD, List.getElem?_eq_getElem hj]
     exact List.getElem_mem hj
    exact fp_row ad B l0 c0 c A (l0.getD j []) (w.drewN q') (by simpa using List.all_eq_true.1 hb1 _ hm) hb3 hB (Kd.C_drewN hr0 _) (Kd.C_drewN hC _) hle
  · rintro e w' ⟨rb, rfl, hi, q, rfl⟩
    refine ⟨?_, pw_below_drewN (Below.refl _ _) q⟩
    have hr := Option.some.inj h
    have e : rb = r := by
     rw [← hr, Bool.eq_iff_iff, List.any_eq_true]
     rw [hi]
     constructor
     · rintro ⟨j, hj, hp⟩
       rw [List.getD_eq_getElem?_getD, List.getElem?_eq_getElem hj] at hp
       exact ⟨_, List.getElem_mem hj, hp⟩
     · rintro ⟨x, hx, hp⟩
       obtain ⟨j, hj, rfl⟩ := List.mem_iff_getElem.1 hx
       exact ⟨j, hj, by rw [List.getD_eq_getElem?_getD, List.getElem?_eq_getElem hj]; exact hp⟩
    rw [e]
 next => cases h
mutual
def impl_FromParts.j0 : Nat → List Int → List (List Int) → Bool → Option ((List (List Int)) × Bool)
 | 0, _, _, _ => none
 | k + 1, x1, x2, x26 => if x26 = true then (some (([] : List (List Int)), false)) else ((badAny x2).bind fun t466 => (if t466 = true then (some (([] : List (List Int)), false)) else (if 0 < (x2.length : Int) then ((impl_square.f zeroF k ((rd_L2 x2 0).length : Int)).bind fun t468 => (impl_FromParts.l0 k x1 t468 x2 (x2.length : Int) 0)) else (none))))
def impl_FromParts.l0 : Nat → List Int → List (List Int) → List (List Int) → Int → Int → Option ((List (List Int)) × Bool)
 | 0, _, _, _, _, _ => none
 | k + 1, x1, x6, x35, x36, x37 => if x37 < x36 then (if 0 ≤ x37 then (if x37 < (x35.length : Int) then (impl_FromParts.l1 k x1 x6 x37 x35 x36 x37 (rd_L2 x35 x37) ((rd_L2 x35 x37).length : Int) 0) else (none)) else (none)) else ((impl_checked.f x6).bind fun bt471 => (some (bt471.1, bt471.2)))
def impl_FromParts.l1 : Nat → List Int → List (List Int) → Int → List (List Int) → Int → Int → List Int → Int → Int → Option ((List (List Int)) × Bool)
 | 0, _, _, _, _, _, _, _, _, _ => none
 | k + 1, x1, x6, x7, x35, x36, x37, x42, x43, x44 => if x44 < x43 then (if 0 ≤ x44 then (if x44 < (x42.length : Int) then (if x44 < (x6.length : Int) then (if 0 ≤ (rd x42 x44) then (if (rd x42 x44) < ((rd_L2 x6 x44).length : Int) then (if 0 ≤ x7 then (if x7 < (x1.length : Int) then (impl_FromParts.l1 k x1 (x6.set (x44 : Int).toNat ((rd_L2 x6 x44).set ((rd x42 x44) : Int).toNat (wrap64 ((rd (rd_L2 x6 x44) (rd x42 x44)) + (rd x1 x7))))) x7 x35 x36 x37 x42 x43 (wrap64 (x44 + 1))) else (none)) else (none)) else (none)) else (none)) else (none)) else (none)) else (none)) else (impl_FromParts.l0 k x1 x6 x35 x36 (wrap64 (x37 + 1)))
end
def impl_FromParts.f (k : Nat) (l0 : List (List Int)) (l1 : List Int) : Option ((List (List Int)) × Bool) := (impl_within.f (l0.length : Int) 1 40).bind fun t464 => (if t464 = true then (if (l1.length : Int) = (l0.length : Int) then ((impl_allWithin.f k l1 0 1000000).bind fun t465 => (impl_FromParts.j0 k l1 l0 (!t465))) else (impl_FromParts.j0 k l1 l0 true)) else (impl_FromParts.j0 k l1 l0 true))
def impl_FromParts.T12 : Bool × List (List Nat × List Nat) := (true, [([], []), ([], []), ([0, 1], [0, 1]), ([2], [2]), ([], []), ([3, 4], [3, 4]), ([5], [5]), ([], []), ([], []), ([7, 8], [7, 8]), ([9], [9]), ([6, 10], [6, 10]), ([3, 4, 0, 1, 2, 3, 4, 5, 6, 7, 8, 9, 10, 11], [3, 4]), ([12, 11, 0, 1, 2, 3, 4, 5, 6, 7, 8, 9, 10, 11], [11, 12])])
def impl_FromParts.B12 : List Nat := [0, 0, 3, 7, 0, 31, 63, 0, 0, 384, 896, 2047, 4095, 8191]
theorem impl_FromParts.tab12 : rtab .any (opsOf Try.f12 12) = impl_FromParts.T12 := by kernel_rfl
theorem impl_FromParts.bits12 : waitsOk impl_FromParts.T12.2 impl_FromParts.B12 = true := by kernel_rfl
set_option maxHeartbeats 8000000 in
set_option maxRecDepth 100000 in
theorem impl_FromParts.calls (k : Nat) (A0 : Option Addr) (c0 : Nat) (l0 : List (List Int)) (A1 : Option Addr) (c1 : Nat) (l1 : List Int) (r1 : List (List Int)) (r2 : Bool) (w : World) (hr0 : Kd.C (Kd.slice 3 (Kd.int .i64)) w A0 l0.length l0) (hc0 : l0.length ≤ c0) (hr1 : Kd.C (Kd.int .i64) w A1 l1.length l1) (hc1 : l1.length ≤ c1) (h : impl_FromParts.f k l0 l1 = some (r1, r2)) :
 Calls Try.prog 12 #[.slice A0 l0.length c0, .slice A1 l1.length c1] w fun e w' => ∃ v0_ : Value, e = .returned (.tuple #[v0_, .bool r2]) ∧ Kd.S (Kd.slice 3 (Kd.int .i64)) 26 w' w.heap.size (fun _ => True) v0_ r1 ∧ Below w.heap.size w w' := by
 have HR0 := Aside0.mk hr0
 have HC0 := Aside0.mk hc0
 clear hr0 hc0
 have HR1 := Aside0.mk hr1
 have HC1 := Aside0.mk hc1
 clear hr1 hc1
 have HB := Aside0.mk (Below.refl w.heap.size w)
 have H : ((impl_within.f (l0.length : Int) 1 40).bind fun t464 => (if t464 = true then (if (l1.length : Int) = (l0.length : Int) then ((impl_allWithin.f k l1 0 1000000).bind fun t465 => (impl_FromParts.j0 k l1 l0 (!t465))) else (impl_FromParts.j0 k l1 l0 true)) else (impl_FromParts.j0 k l1 l0 true))) = some (r1, r2) := h
 clear h
 have HC3 := Aside0.mk H
 clear H
 go_enter Try.func12, Try.ntmps12
 go_upto_region 1 with (fail)
 have hbx : (w.alloc (.cells #[.slice A0 l0.length c0] 24)).cell? ⟨w.heap.size, 0, none⟩ = some (.slice A0 l0.length c0) := by simp
 have hb0 : Below w.heap.size w (w.alloc (.cells #[.slice A0 l0.length c0] 24)) := below_alloc (Below.refl _ _) _
 have hlt : w.heap.size < (w.alloc (.cells #[.slice A0 l0.length c0] 24)).heap.size := by simp
 generalize w.alloc (.cells #[.slice A0 l0.length c0] 24) = wb at hbx hb0 hlt ⊢
 clear HB
 have HB := Aside0.mk hb0
 have HLT := Aside0.mk hlt
 clear hb0 hlt
 go_cut [26] (fun v26 wc => ∃ (kq : Nat) (x26_2 : Bool), v26 = .bool x26_2 ∧ Aside0 (impl_FromParts.j0 kq l1 l0 x26_2 = some (r1, r2)) ∧ Aside0 (kq ≤ k) ∧ Aside0 (Below w.heap.size w wc) ∧ Aside0 (wc.cell? ⟨w.heap.size, 0, none⟩ = some (.slice A0 l0.length c0) ∧ w.heap.size < wc.heap.size))
 case first =>
  have H := HC3.out
  clear HC3
  replace H := Option.bind_eq_some_iff.mp H
  obtain ⟨t464, A40, H⟩ := H
  replace H : (if t464 = true then (if (l1.length : Int) = (l0.length : Int) then ((impl_allWithin.f k l1 0 1000000).bind fun t465 => (impl_FromParts.j0 k l1 l0 (!t465))) else (impl_FromParts.j0 k l1 l0 true)) else (impl_FromParts.j0 k l1 l0 true)) = some (r1, r2) := H
  have A4 := Aside0.mk A40
  clear A40
  by_cases c5 : t464 = true
  · subst c5
    have H1 : (if (l1.length : Int) = (l0.length : Int) then ((impl_allWithin.f k l1 0 1000000).bind fun t465 => (impl_FromParts.j0 k l1 l0 (!t465))) else (impl_FromParts.j0 k l1 l0 true)) = some (r1, r2) := by rw [if_pos rfl] at H; exact H
    clear H
    have H := H1
    clear H1
    by_cases c6 : (l1.length : Int) = (l0.length : Int)
    · rw [if_pos c6] at H
      have c6b0 : ((l1.length : Int) == (l0.length : Int)) = true := beq_iff_eq.mpr c6
      have c6b1 : ((l1.length : Int) != (l0.length : Int)) = false := bne_eq_false_iff_eq.mpr c6
      have c6b2 : (l1.length == l0.length) = true := by first | simpa using c6 | (simp at c6 ⊢; omega)
      clear c6
      (first | rw [c6b0] | (simp only [i64_w, i32_w]; rw [c6b0]) | skip)
      replace H := Option.bind_eq_some_iff.mp H
      obtain ⟨t465, A70, H⟩ := H
      replace H : (impl_FromParts.j0 k l1 l0 (!t465)) = some (r1, r2) := H
      have A7 := Aside0.mk A70
      clear A70
      have H' := Aside0.mk H
      clear H
      go_wp2_with (first | ((with_reducible refine gate_callee (f := 28) rfl ?_); refine goesL_ (some 13) rfl rfl Try.func28 (by kernel_rfl) rfl #[.int .i64 (l0.length : Int), .int .i64 1, .int .i64 40] rfl (by (try simp only [List.map_toArray, List.map_cons, List.map_nil]); first | done | rfl | (simp only [List.length_drop, List.length_take]; rfl)) ?_; (with_reducible refine (impl_within.calls (l0.length : Int) 1 40 true _ A4.out).mono ?_); rintro e w' ⟨rfl, ⟨nd, rfl⟩⟩; refine ⟨_, rfl, ?_⟩) | (go_at_call 29; (with_reducible refine (impl_allWithin.calls k _ _ l1 0 1000000 t465 _ ?side1 ?side2 A7.out).mono ?_); (case side1 => repeat (first | exact (Kd.C_below HR1.out (by repeat (first | (with_reducible first | exact HB.out | apply below_alloc | apply pw_below_drewN | apply below_drew1) | exact HB.out))) | (with_reducible refine Kd.C_alloc ?_ _) | (with_reducible refine Kd.C_drewN ?_ _) | (with_reducible refine Kd.C_drew ?_))); (case side2 => exact HC1.out); rintro e w' ⟨rfl, ⟨nd, rfl⟩⟩))
      go_meet
      case rel => exact ⟨_, (!t465), (by first | rfl | (simp; done) | (simp [*]; done)), H', ⟨by first | omega | exact Nat.le_refl _⟩, ⟨by repeat (first | (with_reducible first | exact HB.out | apply below_alloc | apply pw_below_drewN | apply below_drew1) | exact HB.out)⟩, ⟨by exact ⟨hbx, HLT.out⟩⟩⟩
    · rw [if_neg c6] at H
      have c6b0 : ((l1.length : Int) == (l0.length : Int)) = false := beq_eq_false_iff_ne.mpr c6
      have c6b1 : ((l1.length : Int) != (l0.length : Int)) = true := bne_iff_ne.mpr c6
      have c6b2 : (l1.length == l0.length) = false := by first | simpa using c6 | (simp at c6 ⊢; omega)
      (first | rw [c6b0] | (simp only [i64_w, i32_w]; rw [c6b0]) | skip)
      have H' := Aside0.mk H
      clear H
      go_wp2_with (first | ((with_reducible refine gate_callee (f := 28) rfl ?_); refine goesL_ (some 13) rfl rfl Try.func28 (by kernel_rfl) rfl #[.int .i64 (l0.length : Int), .int .i64 1, .int .i64 40] rfl (by (try simp only [List.map_toArray, List.map_cons, List.map_nil]); first | done | rfl | (simp only [List.length_drop, List.length_take]; rfl)) ?_; (with_reducible refine (impl_within.calls (l0.length : Int) 1 40 true _ A4.out).mono ?_); rintro e w' ⟨rfl, ⟨nd, rfl⟩⟩; refine ⟨_, rfl, ?_⟩))
      go_meet
      case rel => exact ⟨_, (true), (by first | rfl | (simp; done) | (simp [*]; done)), H', ⟨by first | omega | exact Nat.le_refl _⟩, ⟨by repeat (first | (with_reducible first | exact HB.out | apply below_alloc | apply pw_below_drewN | apply below_drew1) | exact HB.out)⟩, ⟨by exact ⟨hbx, HLT.out⟩⟩⟩
  · replace c5 := Bool.eq_false_iff.mpr c5
    subst c5
    have H1 : (impl_FromParts.j0 k l1 l0 true) = some (r1, r2) := by rw [if_neg (show ¬ (false = true) by decide)] at H; exact H
    clear H
    have H := H1
    clear H1
    have H' := Aside0.mk H
    clear H
    go_wp2_with (first | ((with_reducible refine gate_callee (f := 28) rfl ?_); refine goesL_ (some 13) rfl rfl Try.func28 (by kernel_rfl) rfl #[.int .i64 (l0.length : Int), .int .i64 1, .int .i64 40] rfl (by (try simp only [List.map_toArray, List.map_cons, List.map_nil]); first | done | rfl | (simp only [List.length_drop, List.length_take]; rfl)) ?_; (with_reducible refine (impl_within.calls (l0.length : Int) 1 40 false _ A4.out).mono ?_); rintro e w' ⟨rfl, ⟨nd, rfl⟩⟩; refine ⟨_, rfl, ?_⟩))
    go_meet
    case rel => exact ⟨_, (true), (by first | rfl | (simp; done) | (simp [*]; done)), H', ⟨by first | omega | exact Nat.le_refl _⟩, ⟨by repeat (first | (with_reducible first | exact HB.out | apply below_alloc | apply pw_below_drewN | apply below_drew1) | exact HB.out)⟩, ⟨by exact ⟨hbx, HLT.out⟩⟩⟩
 case rest =>
  clear HC3
  try clear c1
  try clear p2
  try clear c3
  try clear c4
  try clear c5
  try clear c6
  try clear c6b0
  try clear c6b1
  try clear c6b2
  obtain ⟨kq, x26_2, rfl, HA, HJ2, HB, HX⟩ := hcut
  clear hbx
  have hbx := HX.out.1
  cases kq with
  | zero => exact absurd HA.out (by simp [impl_FromParts.j0])
  | succ kj2 =>
   have H := HA.out
   clear HA
   simp only [impl_FromParts.j0] at H
   by_cases c8 : x26_2 = true
   · subst c8
     have H1 : (some (([] : List (List Int)), false)) = some (r1, r2) := by rw [if_pos rfl] at H; exact H
     clear H
     have H := H1
     clear H1
     simp only [Option.some.injEq, Prod.mk.injEq] at H
     obtain ⟨rfl, rfl⟩ := H
     go_wp2
     go_ret2
     exact ⟨_, by first | rfl | (simp [errW_none, errW_some] <;> rfl) | (simp [*, errW_none, errW_some] <;> rfl), by first | exact Kd.S_nil _ _ _ _ _ | exact Kd.N_nil _ _ _ _ _ | exact Kd.V_nil _ _ _ _ _ | exact Kd.Q_nil _ _ _ _ _ | exact Kd.R_nil _ _ _ _ _, by repeat (first | (with_reducible first | exact HB.out | apply below_alloc | apply pw_below_drewN | apply below_drew1) | exact HB.out)⟩
   · replace c8 := Bool.eq_false_iff.mpr c8
     subst c8
     have H1 : ((badAny l0).bind fun t466 => (if t466 = true then (some (([] : List (List Int)), false)) else (if 0 < (l0.length : Int) then ((impl_square.f zeroF kj2 ((rd_L2 l0 0).length : Int)).bind fun t468 => (impl_FromParts.l0 kj2 l1 t468 l0 (l0.length : Int) 0)) else (none)))) = some (r1, r2) := by rw [if_neg (show ¬ (false = true) by decide)] at H; exact H
     clear H
     have H := H1
     clear H1
     replace H := Option.bind_eq_some_iff.mp H
     obtain ⟨t466, A90, H⟩ := H
     replace H : (if t466 = true then (some (([] : List (List Int)), false)) else (if 0 < (l0.length : Int) then ((impl_square.f zeroF kj2 ((rd_L2 l0 0).length : Int)).bind fun t468 => (impl_FromParts.l0 kj2 l1 t468 l0 (l0.length : Int) 0)) else (none))) = some (r1, r2) := H
     have A9 := Aside0.mk A90
     clear A90
     by_cases c10 : t466 = true
     · subst c10
       have H1 : (some (([] : List (List Int)), false)) = some (r1, r2) := by rw [if_pos rfl] at H; exact H
       clear H
       have H := H1
       clear H1
       simp only [Option.some.injEq, Prod.mk.injEq] at H
       obtain ⟨rfl, rfl⟩ := H
       go_wp2_with (first | ((with_reducible refine gate_callee (f := 30) rfl ?_); refine goesL_ (some 29) rfl rfl Try.func30 (by kernel_rfl) rfl #[.slice A0 l0.length c0, .func (.func 31) #[] #[.pointer (some ⟨w.heap.size, 0, none⟩)]] rfl (by (try simp only [List.map_toArray, List.map_cons, List.map_nil]); first | done | rfl | (simp only [List.length_drop, List.length_take]; rfl)) ?_; (with_reducible refine (fpAny_calls w.heap.size _ _ l0 true _ ?side0 ?side1 ?side2 A9.out).mono ?_); (case side0 => exact hbx); (case side1 => repeat (first | exact (Kd.C_below HR0.out HB.out) | (with_reducible refine Kd.C_alloc ?_ _) | (with_reducible refine Kd.C_drewN ?_ _) | (with_reducible refine Kd.C_drew ?_))); (case side2 => exact HC0.out); rintro e w11 ⟨rfl, hb⟩; refine ⟨_, rfl, ?_⟩; have n0_ := Aside0.mk (below_step (by repeat (first | (with_reducible first | exact HB.out | apply below_alloc | apply pw_below_drewN | apply below_drew1) | exact HB.out)) hb); clear HB; have HB := n0_; clear n0_; (try clear hb); (try clear hb2); (try clear hk); (try clear hi)))
       go_ret2
       exact ⟨_, by first | rfl | (simp [errW_none, errW_some] <;> rfl) | (simp [*, errW_none, errW_some] <;> rfl), by first | exact Kd.S_nil _ _ _ _ _ | exact Kd.N_nil _ _ _ _ _ | exact Kd.V_nil _ _ _ _ _ | exact Kd.Q_nil _ _ _ _ _ | exact Kd.R_nil _ _ _ _ _, by repeat (first | (with_reducible first | exact HB.out | apply below_alloc | apply pw_below_drewN | apply below_drew1) | exact HB.out)⟩
     · replace c10 := Bool.eq_false_iff.mpr c10
       subst c10
       have H1 : (if 0 < (l0.length : Int) then ((impl_square.f zeroF kj2 ((rd_L2 l0 0).length : Int)).bind fun t468 => (impl_FromParts.l0 kj2 l1 t468 l0 (l0.length : Int) 0)) else (none)) = some (r1, r2) := by rw [if_neg (show ¬ (false = true) by decide)] at H; exact H
       clear H
       have H := H1
       clear H1
       by_cases c12 : 0 < (l0.length : Int)
       · rw [if_pos c12] at H
         have c12b0 : decide (0 < (l0.length : Int)) = true := decide_eq_true c12
         have c12b1 : decide (0 < l0.length) = true := decide_eq_true (by omega)
         clear c12
         replace H := Option.bind_eq_some_iff.mp H
         obtain ⟨t468, A130, H⟩ := H
         replace H : (impl_FromParts.l0 kj2 l1 t468 l0 (l0.length : Int) 0) = some (r1, r2) := H
         have A13 := Aside0.mk A130
         clear A130
         have H' := Aside0.mk H
         clear H
         go_wp2_with (first | ((with_reducible refine gate_callee (f := 30) rfl ?_); refine goesL_ (some 29) rfl rfl Try.func30 (by kernel_rfl) rfl #[.slice A0 l0.length c0, .func (.func 31) #[] #[.pointer (some ⟨w.heap.size, 0, none⟩)]] rfl (by (try simp only [List.map_toArray, List.map_cons, List.map_nil]); first | done | rfl | (simp only [List.length_drop, List.length_take]; rfl)) ?_; (with_reducible refine (fpAny_calls w.heap.size _ _ l0 false _ ?side0 ?side1 ?side2 A9.out).mono ?_); (case side0 => exact hbx); (case side1 => repeat (first | exact (Kd.C_below HR0.out HB.out) | (with_reducible refine Kd.C_alloc ?_ _) | (with_reducible refine Kd.C_drewN ?_ _) | (with_reducible refine Kd.C_drew ?_))); (case side2 => exact HC0.out); rintro e w14 ⟨rfl, hb⟩; refine ⟨_, rfl, ?_⟩; (have hbx2 := tab_bx hb hbx HX.out.2); clear hbx; (have hbx := hbx2); clear hbx2; have HLT2 := Aside0.mk (Nat.lt_of_lt_of_le HX.out.2 hb.size); have n0_ := Aside0.mk (below_step (by repeat (first | (with_reducible first | exact HB.out | apply below_alloc | apply pw_below_drewN | apply below_drew1) | exact HB.out)) hb); clear HB; have HB := n0_; clear n0_; (try clear hb); (try clear hb2); (try clear hk); (try clear hi); have p467 : 0 ≤ (0 : Int) := (by omega); have q467 : 0 < (l0.length : Int) := of_decide_eq_true (by first | (with_reducible assumption) | assumption); obtain ⟨ad467, A467_0, c467_0, e467, hx467_0, hl467_0, hi467_0⟩ := at_L2 HR0.out 0 p467 q467; cases e467; have qi467 : (0 < l0.length) = True := eq_true (by omega); (try rw [show ((0 : Int)).toNat = 0 from rfl] at hx467_0); (try rw [Addr.add_zero'] at hx467_0); replace hx467_0 := (HB.out.cell (World.block_lt_of_cell? w _ hx467_0)).trans hx467_0; have HR467_0 := Aside0.mk hi467_0; have HC467_0 := Aside0.mk hl467_0; clear hi467_0 hl467_0; replace p467 := eq_true p467; replace q467 := eq_true q467) | ((with_reducible refine gate_callee (f := 18) rfl ?_); refine goesL_ (some 34) rfl rfl Try.func18 (by kernel_rfl) rfl #[.int .i64 ((rd_L2 l0 0).length : Int), .func (.func 33) #[] #[]] rfl (by (try simp only [List.map_toArray, List.map_cons, List.map_nil]); first | done | rfl | (simp only [List.length_drop, List.length_take]; rfl)) ?_; (with_reducible refine (impl_square.calls zeroF 33 #[] (fun args w => enters_ Try.func33 (by kernel_rfl) rfl args w) kj2 ((rd_L2 l0 0).length : Int) t468 _ zero_cell A13.out).mono ?_); rintro e w15 ⟨v469, rfl, ho0, hb⟩; refine ⟨_, rfl, ?_⟩; (have hbx2 := tab_bx hb hbx HLT2.out); clear hbx; (have hbx := hbx2); clear hbx2; have n0_ := Aside0.mk (Kd.S_lower ho0 (below_size (by repeat (first | (with_reducible first | exact HB.out | apply below_alloc | apply pw_below_drewN | apply below_drew1) | exact HB.out)))); have n1_ := Aside0.mk (below_step (by repeat (first | (with_reducible first | exact HB.out | apply below_alloc | apply pw_below_drewN | apply below_drew1) | exact HB.out)) hb); clear HB; have HO470 := n0_; have HB := n1_; clear n0_ n1_; (try clear hb); (try clear hb2); (try clear hk); (try clear hi); (try clear ho0)))
         go_loopg [37] kj2 (fun kq v37 w' => ∃ (x6_2 : List (List Int)) (x37_2 : Int), v37 = .int .i64 x37_2 ∧ Aside0 (impl_FromParts.l0 kq l1 x6_2 l0 (l0.length : Int) x37_2 = some (r1, r2)) ∧ Aside0 (kq ≤ kj2) ∧ Aside0 (Kd.S (Kd.slice 3 (Kd.int .i64)) 26 w' w.heap.size (fun _ => True) v469 x6_2) ∧ Aside0 (Below w.heap.size w w'))
         case atStart => exact ⟨(t468), (0), (by first | rfl | (simp; done) | (simp [*]; done)), H', ⟨Nat.le_refl _⟩, ⟨by (with_reducible repeat (first | apply Kd.S_alloc | apply Kd.S_drewN | apply Kd.S_drew)); exact HO470.out⟩, ⟨by repeat (first | (with_reducible first | exact HB.out | apply below_alloc | apply pw_below_drewN | apply below_drew1) | exact HB.out)⟩⟩
         case round =>
          clear H'
          try clear c1
          try clear p2
          try clear c3
          try clear c4
          try clear p4
          try clear q4
          try clear hx4
          try clear qi4
          try clear c5
          try clear c6
          try clear c6b0
          try clear c6b1
          try clear c6b2
          try clear c8
          try clear c10
          try clear c12
          try clear c12b0
          try clear c12b1
          try clear hx467_0
          try clear p2
          try clear p467
          try clear q467
          obtain ⟨x6_2, x37_2, rfl, HA, HK2, HO_6, HB⟩ := hrel
          cases gk with
          | zero => exact absurd HA.out (by simp [impl_FromParts.l0])
          | succ k2 =>
           have H := HA.out
           clear HA
           simp only [impl_FromParts.l0] at H
           by_cases c16 : x37_2 < (l0.length : Int)
           · rw [if_pos c16] at H
             have c16b0 : decide (x37_2 < (l0.length : Int)) = true := decide_eq_true c16
             clear c16
             by_cases c17 : 0 ≤ x37_2
             · rw [if_pos c17] at H
               have c17b0 : decide (0 ≤ x37_2) = true := decide_eq_true c17
               clear c17
               by_cases c18 : x37_2 < (l0.length : Int)
               · rw [if_pos c18] at H
                 have c18b0 : decide (x37_2 < (l0.length : Int)) = true := decide_eq_true c18
                 clear c18
                 have H' := Aside0.mk H
                 clear H
                 have p475 : 0 ≤ (x37_2 : Int) := of_decide_eq_true (by first | (with_reducible assumption) | assumption)
                 have q475 : x37_2 < (l0.length : Int) := of_decide_eq_true (by first | (with_reducible assumption) | assumption)
                 obtain ⟨ad475, A475_0, c475_0, e475, hx475_0, hl475_0, hi475_0⟩ := at_L2 HR0.out x37_2 p475 q475
                 obtain rfl : ad467 = ad475 := (by injection e475)
                 replace hx475_0 := (HB.out.cell (World.block_lt_of_cell? w _ hx475_0)).trans hx475_0
                 have HR475_0 := Aside0.mk hi475_0
                 have HC475_0 := Aside0.mk hl475_0
                 clear hi475_0 hl475_0
                 replace p475 := eq_true p475
                 replace q475 := eq_true q475
                 go_wp2
                 go_loopg [44] k2 (fun kq v44 w' => ∃ (x6_3 : List (List Int)) (x44_3 : Int), v44 = .int .i64 x44_3 ∧ Aside0 (impl_FromParts.l1 kq l1 x6_3 x37_2 l0 (l0.length : Int) x37_2 (rd_L2 l0 x37_2) ((rd_L2 l0 x37_2).length : Int) x44_3 = some (r1, r2)) ∧ Aside0 (kq ≤ k2) ∧ Aside0 (Kd.S (Kd.slice 3 (Kd.int .i64)) 26 w' w.heap.size (fun _ => True) v469 x6_3) ∧ Aside0 (Below w.heap.size w w'))
                 case atStart => exact ⟨(x6_2), (0), (by first | rfl | (simp; done) | (simp [*]; done)), H', ⟨Nat.le_refl _⟩, ⟨by (with_reducible repeat (first | apply Kd.S_alloc | apply Kd.S_drewN | apply Kd.S_drew)); exact HO_6.out⟩, ⟨by repeat (first | (with_reducible first | exact HB.out | apply below_alloc | apply pw_below_drewN | apply below_drew1) | exact HB.out)⟩⟩
                 case round =>
                  clear H'
                  try clear c1
                  try clear p2
                  try clear c3
                  try clear c4
                  try clear p4
                  try clear q4
                  try clear hx4
                  try clear qi4
                  try clear c5
                  try clear c6
                  try clear c6b0
                  try clear c6b1
                  try clear c6b2
                  try clear c8
                  try clear c10
                  try clear c12
                  try clear c12b0
                  try clear c12b1
                  try clear c16
                  try clear c16b0
                  try clear c17
                  try clear c17b0
                  try clear c18
                  try clear c18b0
                  try clear hx467_0
                  try clear hx475_0
                  try clear p2
                  try clear p4
                  try clear p467
                  try clear p475
                  try clear q4
                  try clear q467
                  try clear q475
                  obtain ⟨x6_3, x44_3, rfl, HA, HK3, HO_6, HB⟩ := hrel
                  cases gk with
                  | zero => exact absurd HA.out (by simp [impl_FromParts.l1])
                  | succ k3 =>
                   have H := HA.out
                   clear HA
                   simp only [impl_FromParts.l1] at H
                   by_cases c19 : x44_3 < ((rd_L2 l0 x37_2).length : Int)
                   · rw [if_pos c19] at H
                     have c19b0 : decide (x44_3 < ((rd_L2 l0 x37_2).length : Int)) = true := decide_eq_true c19
                     clear c19
                     by_cases c20 : 0 ≤ x44_3
                     · rw [if_pos c20] at H
                       have c20b0 : decide (0 ≤ x44_3) = true := decide_eq_true c20
                       clear c20
                       by_cases c21 : x44_3 < ((rd_L2 l0 x37_2).length : Int)
                       · rw [if_pos c21] at H
                         have c21b0 : decide (x44_3 < ((rd_L2 l0 x37_2).length : Int)) = true := decide_eq_true c21
                         clear c21
                         by_cases c22 : x44_3 < (x6_3.length : Int)
                         · rw [if_pos c22] at H
                           have c22b0 : decide (x44_3 < (x6_3.length : Int)) = true := decide_eq_true c22
                           clear c22
                           by_cases c23 : 0 ≤ (rd (rd_L2 l0 x37_2) x44_3)
                           · rw [if_pos c23] at H
                             have c23b0 : decide (0 ≤ (rd (rd_L2 l0 x37_2) x44_3)) = true := decide_eq_true c23
                             clear c23
                             by_cases c24 : (rd (rd_L2 l0 x37_2) x44_3) < ((rd_L2 x6_3 x44_3).length : Int)
                             · rw [if_pos c24] at H
                               have c24b0 : decide ((rd (rd_L2 l0 x37_2) x44_3) < ((rd_L2 x6_3 x44_3).length : Int)) = true := decide_eq_true c24
                               clear c24
                               by_cases c25 : 0 ≤ x37_2
                               · rw [if_pos c25] at H
                                 have c25b0 : decide (0 ≤ x37_2) = true := decide_eq_true c25
                                 clear c25
                                 by_cases c26 : x37_2 < (l1.length : Int)
                                 · rw [if_pos c26] at H
                                   have c26b0 : decide (x37_2 < (l1.length : Int)) = true := decide_eq_true c26
                                   clear c26
                                   obtain ⟨y480, hy480⟩ : ∃ y_ : List Int, y_ = ((rd_L2 x6_3 x44_3).set ((rd (rd_L2 l0 x37_2) x44_3) : Int).toNat (wrap64 ((rd (rd_L2 x6_3 x44_3) (rd (rd_L2 l0 x37_2) x44_3)) + (rd l1 x37_2)))) := ⟨_, rfl⟩
                                   replace H : (impl_FromParts.l1 k3 l1 (x6_3.set (x44_3 : Int).toNat y480) x37_2 l0 (l0.length : Int) x37_2 (rd_L2 l0 x37_2) ((rd_L2 l0 x37_2).length : Int) (wrap64 (x44_3 + 1))) = some (r1, r2) := by first | (rw [hy480]; with_reducible exact H) | (have H2_ := (Option.bind_some _ _).symm.trans H; rw [hy480]; with_reducible exact H2_) | (have H2_ := (Option.bind_some _ _).symm.trans H; with_reducible exact H2_) | with_reducible exact H | (rw [hy480]; exact H) | exact H
                                   have Ny480 := Aside0.mk hy480
                                   clear hy480
                                   obtain ⟨y482, hy482⟩ : ∃ y_ : List (List Int), y_ = (x6_3.set (x44_3 : Int).toNat y480) := ⟨_, rfl⟩
                                   replace H : (impl_FromParts.l1 k3 l1 y482 x37_2 l0 (l0.length : Int) x37_2 (rd_L2 l0 x37_2) ((rd_L2 l0 x37_2).length : Int) (wrap64 (x44_3 + 1))) = some (r1, r2) := by first | (rw [hy482]; with_reducible exact H) | (have H2_ := (Option.bind_some _ _).symm.trans H; rw [hy482]; with_reducible exact H2_) | (have H2_ := (Option.bind_some _ _).symm.trans H; with_reducible exact H2_) | with_reducible exact H | (rw [hy482]; exact H) | exact H
                                   have Ny482 := Aside0.mk hy482
                                   clear hy482
                                   have H' := Aside0.mk H
                                   clear H
                                   have p476 : 0 ≤ (x44_3 : Int) := of_decide_eq_true (by first | (with_reducible assumption) | assumption)
                                   have q476 : x44_3 < ((rd_L2 l0 x37_2).length : Int) := of_decide_eq_true (by first | (with_reducible assumption) | assumption)
                                   obtain ⟨ad476, e476, hx476_0⟩ := Kd.at_int HR475_0.out x44_3 p476 q476
                                   cases e476
                                   replace hx476_0 := (HB.out.cell (World.block_lt_of_cell? w _ hx476_0)).trans hx476_0
                                   replace p476 := eq_true p476
                                   replace q476 := eq_true q476
                                   try go_wp2
                                   have n0_ := Aside0.mk (Kd.S_drew HO_6.out)
                                   have n1_ := Aside0.mk (below_drew1 HB.out)
                                   clear HO_6
                                   clear HB
                                   have HO_6 := n0_
                                   have HB := n1_
                                   clear n0_ n1_
                                   obtain ⟨Ao29, co29, eo29⟩ := Kd.S_slice HO_6.out
                                   (first | subst eo29 | (injection eo29 with f1_ f2_ f3_; have f4_ := f1_.symm; have f5_ := f3_.symm; clear f1_ f2_ f3_; subst f4_; subst f5_))
                                   have p477 : 0 ≤ (x44_3 : Int) := of_decide_eq_true (by first | (with_reducible assumption) | assumption)
                                   have q477 : x44_3 < (x6_3.length : Int) := of_decide_eq_true (by first | (with_reducible assumption) | assumption)
                                   obtain ⟨ad477, A477_0, c477_0, e477, hx477_0, hl477_0, hi477_0⟩ := at_L2 (Kd.S_reads' HO_6.out).2.2 x44_3 p477 q477
                                   cases e477
                                   obtain ⟨ce477, hce477, hMe477, hcc477⟩ := Kd.S_get HO_6.out [] x44_3 p477 (by first | exact q477 | exact of_decide_eq_true (by first | (with_reducible assumption) | assumption) | (have e_ := (Kd.S_reads' HO_6.out).1; omega))
                                   obtain ⟨ve477_0, rfl, ge477_0⟩ := hMe477
                                   have hv477_0 := hcc477 0 _ rfl
                                   rw [Nat.add_zero, show ((Kd.slice 3 (Kd.int .i64))).sz = 1 from rfl, Nat.mul_one] at hv477_0
                                   replace hv477_0 := Option.some.inj (hv477_0.symm.trans hx477_0)
                                   rw [hv477_0] at ge477_0
                                   have HL477_0 := Aside0.mk (show Kd.R (Kd.int .i64) 3 _ _ _ _ (rd_L2 x6_3 x44_3) from ge477_0)
                                   clear hv477_0 ge477_0
                                   have HX477_0 := Aside0.mk hx477_0
                                   clear hcc477 hce477
                                   have HR477_0 := Aside0.mk hi477_0
                                   have HC477_0 := Aside0.mk hl477_0
                                   clear hi477_0 hl477_0
                                   replace p477 := eq_true p477
                                   replace q477 := eq_true q477
                                   have p478 : 0 ≤ ((rd (rd_L2 l0 x37_2) x44_3) : Int) := of_decide_eq_true (by first | (with_reducible assumption) | assumption)
                                   have q478 : (rd (rd_L2 l0 x37_2) x44_3) < ((rd_L2 x6_3 x44_3).length : Int) := of_decide_eq_true (by first | (with_reducible assumption) | assumption)
                                   obtain ⟨ad478, e478, hx478_0⟩ := Kd.at_int (by repeat (first | (with_reducible exact HR477_0.out) | (with_reducible refine Kd.C_alloc ?_ _) | (with_reducible refine Kd.C_drewN ?_ _) | (with_reducible refine Kd.C_drew ?_) | exact HR477_0.out)) (rd (rd_L2 l0 x37_2) x44_3) p478 q478
                                   cases e478
                                   replace p478 := eq_true p478
                                   replace q478 := eq_true q478
                                   have p479 : 0 ≤ (x37_2 : Int) := of_decide_eq_true (by first | (with_reducible assumption) | assumption)
                                   have q479 : x37_2 < (l1.length : Int) := of_decide_eq_true (by first | (with_reducible assumption) | assumption)
                                   obtain ⟨ad479, e479, hx479_0⟩ := Kd.at_int HR1.out x37_2 p479 q479
                                   have hw479_0 := hx479_0
                                   cases e479
                                   replace hx479_0 := (HB.out.cell (World.block_lt_of_cell? w _ hx479_0)).trans hx479_0
                                   replace p479 := eq_true p479
                                   replace q479 := eq_true q479
                                   have p27 : 0 ≤ ((rd (rd_L2 l0 x37_2) x44_3) : Int) := of_decide_eq_true (by first | (with_reducible assumption) | assumption)
                                   have q27 : ((rd (rd_L2 l0 x37_2) x44_3) : Int) < (((rd_L2 x6_3 x44_3).length : Int) : Int) := of_decide_eq_true (by first | (with_reducible assumption) | assumption)
                                   obtain ⟨go27, co27, eo27, gb27, gl27, cl27, HG27⟩ := Kd.R_form HL477_0.out (by omega)
                                   (first | cases eo27 | (injection eo27 with ea_ en_ ec_; (first | subst ea_ | (injection ea_ with ea_; subst ea_)); subst ec_; clear en_))
                                   have GB27 := Aside0.mk gb27
                                   have GG27 := Aside0.mk HG27
                                   clear gb27 gl27 HG27
                                   (first | simp only [add_plain] at hx478_0 | skip)
                                   obtain ⟨hx27_0, hf27_0⟩ := Kd.R_celln 0 HL477_0.out ((rd (rd_L2 l0 x37_2) x44_3) : Int) p27 q27
                                   replace p27 := eq_true p27
                                   replace q27 := eq_true q27
                                   have hq30 : (x44_3 : Int) < (x6_3.length : Int) := (by have h_ : (x44_3 : Int) < ((x6_3.length : Int) : Int) := of_decide_eq_true (by first | (with_reducible assumption) | assumption); first | exact h_ | (have e_ := (Kd.S_reads' HO_6.out).1; omega) | simpa only [List.length_set, List.length_set] using h_)
                                   obtain ⟨oki30, ce30, hcl30, hM30, hcc30, hok30, hbk30⟩ := Kd.S_borrow HO_6.out [] (x44_3 : Int) (of_decide_eq_true (by first | (with_reducible assumption) | assumption)) (by first | exact hq30 | (have e_ := (Kd.S_reads' HO_6.out).1; omega))
                                   obtain ⟨ve30_0, rfl, ge30_0⟩ := hM30
                                   have hv30 := hcc30 0 _ rfl
                                   rw [Nat.add_zero, show ((Kd.slice 3 (Kd.int .i64))).sz = 1 from rfl, Nat.mul_one] at hv30
                                   replace hv30 := Option.some.inj (hv30.symm.trans HX477_0.out)
                                   subst hv30
                                   clear hcc30 hcl30
                                   replace ge30_0 := (show Kd.R (Kd.int .i64) 3 _ _ _ _ (rd_L2 x6_3 x44_3) from ge30_0)
                                   have HP30 := Kd.R_putg ge30_0 ((rd (rd_L2 l0 x37_2) x44_3) : Int) (wrap64 ((rd (rd_L2 x6_3 x44_3) (rd (rd_L2 l0 x37_2) x44_3)) + (rd l1 x37_2)))
                                   rw [← Ny480.out] at HP30
                                   have HS30 := hbk30 HP30.2 (fun k_ e_ => by injection e_ with e_; subst e_; exact ge30_0.1 _ rfl) (x' := y480) (Kd.M_row HP30.1)
                                   rw [← Ny482.out] at HS30
                                   have HQ30 := Aside0.mk HS30
                                   clear HP30 HS30 hbk30 hok30
                                   refine start_ (n := 14) (S := fun w' => w'.cell? (ad477.add (x44_3).toNat) = some (.slice (some ⟨go27, 0, none⟩) (rd_L2 x6_3 x44_3).length c477_0) ∧ w'.cell? ⟨go27, ((rd (rd_L2 l0 x37_2) x44_3)).toNat, none⟩ = some (.int .i64 (rd (rd_L2 x6_3 x44_3) (rd (rd_L2 l0 x37_2) x44_3))) ∧ w'.cell? (ad479.add (x37_2).toNat) = some (.int .i64 (rd l1 x37_2))) (ds := [13]) #[false, false, false, false, false, false, false, false, false, false, false, false, false, false] (by kernel_rfl) rfl rfl ⟨hx477_0, hx478_0, ((HB.out.cell (World.block_lt_of_cell? w _ hw479_0)).trans hw479_0)⟩ (fun hHeld => ?_); refine with_tabW impl_FromParts.tab12 impl_FromParts.bits12 (fun HT_ HW_ => ?_)
                                   generalize wr.drew = w28 at HO_6 HB GG27 HL477_0 HQ30 HR477_0 HX477_0 hf27_0 hx27_0 hx477_0 hx478_0 hx479_0 hHeld ⊢
                                   refine pure_ (i := 0) (N := some 49) (v := ?_) (a' := ?_) #[true, false, false, false, false, false, false, false, false, false, false, false, false, false] rfl rfl (any_of HT_.out (by kernel_rfl)) (fun _ _ _ h => h) (Or.inl ⟨by rfl, ?_⟩) ?_ ?_
                                   rotate_left
                                   · intro w'
                                     go_simp
                                     with_reducible rfl
                                   rotate_left
                                   · simp only [Act.put, List.setIfInBounds_toArray, List.set_cons_zero, List.set_cons_succ, i64_w, i32_w]
                                     rfl
                                   refine pure_ (i := 1) (N := some 50) (v := ?_) (a' := ?_) #[true, true, false, false, false, false, false, false, false, false, false, false, false, false] rfl rfl (any_of HT_.out (by kernel_rfl)) (fun _ _ _ h => h) (Or.inl ⟨by rfl, ?_⟩) ?_ ?_
                                   rotate_left
                                   · intro w'
                                     go_simp
                                     with_reducible rfl
                                   rotate_left
                                   · simp only [Act.put, List.setIfInBounds_toArray, List.set_cons_zero, List.set_cons_succ, i64_w, i32_w]
                                     rfl
                                   refine pure_ (i := 2) (N := some 51) (v := ?_) (a' := ?_) #[true, true, true, false, false, false, false, false, false, false, false, false, false, false] rfl rfl (any_of HT_.out (by kernel_rfl)) (fun _ _ _ h => h) (Or.inl ⟨by rfl, ?_⟩) ?_ ?_
                                   rotate_left
                                   · intro w'
                                     go_simp
                                     with_reducible rfl
                                   rotate_left
                                   · simp only [Act.put, List.setIfInBounds_toArray, List.set_cons_zero, List.set_cons_succ, i64_w, i32_w]
                                     rfl
                                   refine pure_ (i := 4) (N := some 53) (v := ?_) (a' := ?_) #[true, true, true, false, true, false, false, false, false, false, false, false, false, false] rfl rfl (any_of HT_.out (by kernel_rfl)) (fun _ _ _ h => h) (Or.inl ⟨by rfl, ?_⟩) ?_ ?_
                                   rotate_left
                                   · intro w'
                                     go_simp
                                     with_reducible rfl
                                   rotate_left
                                   · simp only [Act.put, List.setIfInBounds_toArray, List.set_cons_zero, List.set_cons_succ, i64_w, i32_w]
                                     rfl
                                   refine pure_ (i := 7) (N := some 56) (v := ?_) (a' := ?_) #[true, true, true, false, true, false, false, true, false, false, false, false, false, false] rfl rfl (any_of HT_.out (by kernel_rfl)) (fun _ _ _ h => h) (Or.inl ⟨by rfl, ?_⟩) ?_ ?_
                                   rotate_left
                                   · intro w'
                                     go_simp
                                     with_reducible rfl
                                   rotate_left
                                   · simp only [Act.put, List.setIfInBounds_toArray, List.set_cons_zero, List.set_cons_succ, i64_w, i32_w]
                                     rfl
                                   refine pure_ (i := 8) (N := some 57) (v := ?_) (a' := ?_) #[true, true, true, false, true, false, false, true, true, false, false, false, false, false] rfl rfl (any_of HT_.out (by kernel_rfl)) (fun _ _ _ h => h) (Or.inl ⟨by rfl, ?_⟩) ?_ ?_
                                   rotate_left
                                   · intro w'
                                     go_simp
                                     with_reducible rfl
                                   rotate_left
                                   · simp only [Act.put, List.setIfInBounds_toArray, List.set_cons_zero, List.set_cons_succ, i64_w, i32_w]
                                     rfl
                                   refine pure_ (i := 9) (N := some 58) (v := ?_) (a' := ?_) #[true, true, true, false, true, false, false, true, true, true, false, false, false, false] rfl rfl (any_of HT_.out (by kernel_rfl)) (fun _ _ _ h => h) (Or.inl ⟨by rfl, ?_⟩) ?_ ?_
                                   rotate_left
                                   · intro w'
                                     go_simp
                                     with_reducible rfl
                                   rotate_left
                                   · simp only [Act.put, List.setIfInBounds_toArray, List.set_cons_zero, List.set_cons_succ, i64_w, i32_w]
                                     rfl
                                   refine take_ (i := 3) (N := some 52) (v := ?_) (a' := ?_) #[true, true, true, true, true, false, false, true, true, true, false, false, false, false] rfl rfl (take_ofW HT_.out HW_.out (by kernel_rfl)) (fun _ _ _ h => h) (Or.inl ⟨by rfl, ?_⟩) hHeld ?_ ?_
                                   rotate_left
                                   · rintro w' ⟨s0, s1, s2⟩
                                     go_simp
                                     with_reducible rfl
                                   rotate_left
                                   · simp only [Act.put, List.setIfInBounds_toArray, List.set_cons_zero, List.set_cons_succ, i64_w, i32_w]
                                     rfl
                                   refine pure_ (i := 5) (N := some 54) (v := ?_) (a' := ?_) #[true, true, true, true, true, true, false, true, true, true, false, false, false, false] rfl rfl (any_of HT_.out (by kernel_rfl)) (fun _ _ _ h => h) (Or.inl ⟨by rfl, ?_⟩) ?_ ?_
                                   rotate_left
                                   · intro w'
                                     go_simp
                                     with_reducible rfl
                                   rotate_left
                                   · simp only [Act.put, List.setIfInBounds_toArray, List.set_cons_zero, List.set_cons_succ, i64_w, i32_w]
                                     rfl
                                   refine take_ (i := 6) (N := some 55) (v := ?_) (a' := ?_) #[true, true, true, true, true, true, true, true, true, true, false, false, false, false] rfl rfl (take_ofW HT_.out HW_.out (by kernel_rfl)) (fun _ _ _ h => h) (Or.inl ⟨by rfl, ?_⟩) hHeld ?_ ?_
                                   rotate_left
                                   · rintro w' ⟨s0, s1, s2⟩
                                     go_simp
                                     with_reducible rfl
                                   rotate_left
                                   · simp only [Act.put, List.setIfInBounds_toArray, List.set_cons_zero, List.set_cons_succ, i64_w, i32_w]
                                     rfl
                                   refine take_ (i := 10) (N := some 59) (v := ?_) (a' := ?_) #[true, true, true, true, true, true, true, true, true, true, true, false, false, false] rfl rfl (take_ofW HT_.out HW_.out (by kernel_rfl)) (fun _ _ _ h => h) (Or.inl ⟨by rfl, ?_⟩) hHeld ?_ ?_
                                   rotate_left
                                   · rintro w' ⟨s0, s1, s2⟩
                                     go_simp
                                     with_reducible rfl
                                   rotate_left
                                   · simp only [Act.put, List.setIfInBounds_toArray, List.set_cons_zero, List.set_cons_succ, i64_w, i32_w]
                                     rfl
                                   refine pure_ (i := 11) (N := some 60) (v := ?_) (a' := ?_) #[true, true, true, true, true, true, true, true, true, true, true, true, false, false] rfl rfl (any_of HT_.out (by kernel_rfl)) (fun _ _ _ h => h) (Or.inl ⟨by rfl, ?_⟩) ?_ ?_
                                   rotate_left
                                   · intro w'
                                     go_simp
                                     with_reducible rfl
                                   rotate_left
                                   · simp only [Act.put, List.setIfInBounds_toArray, List.set_cons_zero, List.set_cons_succ, i64_w, i32_w]
                                     rfl
                                   refine pure_ (i := 12) (N := some 61) (v := ?_) (a' := ?_) #[true, true, true, true, true, true, true, true, true, true, true, true, true, false] rfl rfl (any_of HT_.out (by kernel_rfl)) (fun _ _ _ h => h) (Or.inl ⟨by rfl, ?_⟩) ?_ ?_
                                   rotate_left
                                   · intro w'
                                     go_simp
                                     with_reducible rfl
                                   rotate_left
                                   · simp only [Act.put, List.setIfInBounds_toArray, List.set_cons_zero, List.set_cons_succ, i64_w, i32_w]
                                     rfl
                                   refine last_ (i := 13) (N := none) #[true, true, true, true, true, true, true, true, true, true, true, true, true, true] rfl rfl (one_of HT_.out (by kernel_rfl)) (by decide) (fun K hK => ?_)
                                   refine skip_ (w1 := ?_) (by rfl) rfl ?_ ?_
                                   rotate_left
                                   · go_simp
                                     rfl
                                   refine hK.out _ _ ?_
                                   clear hK K
                                   refine done_ (done_of HT_.out (by kernel_rfl)) ?_
                                   try go_wp2
                                   go_roundg k3
                                   case measure => have := HJ2.out; have := HK2.out; have := HK3.out; omega
                                   case rel => exact ⟨(y482), (wrap64 (x44_3 + 1)), (by first | rfl | (simp; done) | (simp [*]; done)), H', ⟨by have := HJ2.out; have := HK2.out; have := HK3.out; omega⟩, ⟨by (with_reducible repeat (first | apply Kd.S_alloc | apply Kd.S_drewN | apply Kd.S_drew)); exact HQ30.out⟩, ⟨by repeat (first | (with_reducible first | exact HB.out | apply below_alloc | apply pw_below_drewN | apply below_drew1 | refine below_set ?_ GB27.out) | exact HB.out)⟩⟩
                                 · rw [if_neg c26] at H
                                   exact absurd H (by simp)
                               · rw [if_neg c25] at H
                                 exact absurd H (by simp)
                             · rw [if_neg c24] at H
                               exact absurd H (by simp)
                           · rw [if_neg c23] at H
                             exact absurd H (by simp)
                         · rw [if_neg c22] at H
                           exact absurd H (by simp)
                       · rw [if_neg c21] at H
                         exact absurd H (by simp)
                     · rw [if_neg c20] at H
                       exact absurd H (by simp)
                   · rw [if_neg c19] at H
                     have c19b0 : decide (x44_3 < ((rd_L2 l0 x37_2).length : Int)) = false := decide_eq_false c19
                     clear c19
                     have H' := Aside0.mk H
                     clear H
                     go_wp2
                     go_roundg k3
                     case measure => have := HJ2.out; have := HK2.out; have := HK3.out; omega
                     case rel => exact ⟨(x6_3), (wrap64 (x37_2 + 1)), (by first | rfl | (simp; done) | (simp [*]; done)), H', ⟨by have := HJ2.out; have := HK2.out; have := HK3.out; omega⟩, ⟨by (with_reducible repeat (first | apply Kd.S_alloc | apply Kd.S_drewN | apply Kd.S_drew)); exact HO_6.out⟩, ⟨by repeat (first | (with_reducible first | exact HB.out | apply below_alloc | apply pw_below_drewN | apply below_drew1) | exact HB.out)⟩⟩
               · rw [if_neg c18] at H
                 exact absurd H (by simp)
             · rw [if_neg c17] at H
               exact absurd H (by simp)
           · rw [if_neg c16] at H
             have c16b0 : decide (x37_2 < (l0.length : Int)) = false := decide_eq_false c16
             clear c16
             replace H := Option.bind_eq_some_iff.mp H
             obtain ⟨⟨t471, t472⟩, A320, H⟩ := H
             replace H : (some (t471, t472)) = some (r1, r2) := H
             have A32 := Aside0.mk A320
             clear A320
             simp only [Option.some.injEq, Prod.mk.injEq] at H
             obtain ⟨rfl, rfl⟩ := H
             obtain ⟨Ao33, co33, eo33⟩ := Kd.S_slice HO_6.out
             subst eo33
             go_wp2_with (first | ((with_reducible refine gate_callee (f := 34) rfl ?_); refine goesL_ (some 65) rfl rfl Try.func34 (by kernel_rfl) rfl #[.slice Ao33 x6_2.length co33] rfl (by (try simp only [List.map_toArray, List.map_cons, List.map_nil]); first | done | rfl | (simp only [List.length_drop, List.length_take]; rfl)) ?_; (refine (impl_checked.calls _ w.heap.size _ _ x6_2 t471 t472 _ (by (with_reducible repeat (first | apply Kd.S_alloc | apply Kd.S_drewN | apply Kd.S_drew)); exact HO_6.out) A32.out).mono ?_); rintro e w34 ⟨v473, rfl, ho0, hb⟩; refine ⟨_, rfl, ?_⟩; have HO474 := Aside0.mk ho0; have n2_ := Aside0.mk (below_step (by repeat (first | (with_reducible first | exact HB.out | apply below_alloc | apply pw_below_drewN | apply below_drew1) | exact HB.out)) hb); clear HO_6 HB; have HB := n2_; clear n2_ hb ho0))
             go_ret2
             exact ⟨_, by first | rfl | (simp [errW_none, errW_some] <;> rfl) | (simp [*, errW_none, errW_some] <;> rfl), by (with_reducible repeat (first | apply Kd.S_alloc | apply Kd.S_drewN | apply Kd.S_drew)); exact Kd.S_mono HO474.out (fun _ hk => trivial), by repeat (first | (with_reducible first | exact HB.out | apply below_alloc | apply pw_below_drewN | apply below_drew1) | exact HB.out)⟩
       · rw [if_neg c12] at H
         exact absurd H (by simp)
end Go.Proofs.Ytgcgecbdmomceaa.A

/- Words for PartsOf: what one round does; where a table's number lies. -/
namespace Go.Proofs.Ytgcgecbdmomceaa.A
open Go.RowKit Go.Proofs.YtgcgecbdmomceaaW.PrintWords Go.Proofs.YtgcgecbdmomceaaW.PrintLast Go.Proofs.YtgcgecbdmomceaaW.PrintMore
attribute [local go_sem] max2_int min2_int max_two min_two max_three min_three max_four min_four
set_option linter.unusedVariables false
set_option linter.unusedSimpArgs false

/-! PartsOf: what one round does -/
def pOk (x5 : List (List Int)) (p : List Int) (i : Nat) : Bool := decide (i < x5.length ∧ 0 ≤ rd p (i : Int) ∧ rd p (i : Int) < ((rd_L2 x5 (i : Int)).length : Int))
def pEnt (x5 : List (List Int)) (p : List Int) (i : Nat) : Int := rd (rd_L2 x5 (i : Int)) (rd p (i : Int))
def pLeast (x5 : List (List Int)) (p : List Int) : Nat → Nat → Int → Option Int
 | 0, _, a => some a
 | d + 1, i, a => if pOk x5 p i = true then pLeast x5 p d (i + 1) (min a (pEnt x5 p i)) else none
def pSub (p : List Int) (c : Int) : Nat → Nat → List (List Int) → Option (List (List Int))
 | 0, _, x5 => some x5
 | d + 1, i, x5 => if pOk x5 p i = true then pSub p c d (i + 1) (x5.set i ((rd_L2 x5 (i : Int)).set (rd p (i : Int)).toNat (wrap64 (pEnt x5 p i - c)))) else none
theorem cut_above {W : World} {base : Nat} {ok : Nat → Prop} {v : Value} {l : List (List Int)} (h : Kd.S (Kd.slice 3 (Kd.int .i64)) 26 W base ok v l) : ∃ n1, n1 = W.heap.size ∧ Kd.S (Kd.slice 3 (Kd.int .i64)) 26 W base (fun k => k < n1) v l := ⟨_, rfl, Kd.S_mono (Kd.S_bound h) (fun _ hk => hk.2.2.1)⟩
/-- The blocks from n1 on that were there are as they were. -/
def KeptUp (n1 : Nat) (W W' : World) : Prop := W.heap.size ≤ W'.heap.size ∧ ∀ k, n1 ≤ k → k < W.heap.size → W'.heap[k]? = W.heap[k]?
theorem KeptUp.refl (n1 : Nat) (W : World) : KeptUp n1 W W := ⟨Nat.le_refl _, fun _ _ _ => rfl⟩
theorem KeptUp.grown {n1 : Nat} {W W1 W2 : World} {g : Nat} (h : KeptUp n1 W W1) (hg : W1.grownBy W2 (some g)) (hlt : g < n1) : KeptUp n1 W W2 :=
 ⟨Nat.le_trans h.1 hg.size, fun k hk hl => (hg.block k (Nat.lt_of_lt_of_le hl h.1) (fun e => by injection e with e; omega)).trans (h.2 k hk hl)⟩
/-- Where a number of the table lies, and which. -/
theorem ent_at {W : World} {base : Nat} {ok : Nat → Prop} {A : Option Addr} {n c : Nat} {l : List (List Int)} (h : Kd.S (Kd.slice 3 (Kd.int .i64)) 26 W base ok (.slice A n c) l) {p : List Int} {i : Nat} (hok : pOk l p i = true) :
 ∃ (ad : Addr) (go cc : Nat), A = some ad ∧ (W.cell? (ad.add i) = some (.slice (some ⟨go, 0, none⟩) (rd_L2 l (i : Int)).length cc) ∧ W.cell? ⟨go, (rd p (i : Int)).toNat, none⟩ = some (.int .i64 (pEnt l p i)) ∧ W.frozen? ⟨go, (rd p (i : Int)).toNat, none⟩ = false) ∧ base ≤ go ∧ ok go ∧ ad.block ≠ go := by
 unfold pOk at hok
 rw [decide_eq_true_eq] at hok
 obtain ⟨hi, k0, k1⟩ := hok
 obtain rfl := (Kd.S_reads' h).1
 obtain ⟨ad, A0, c0, e, hx, hl, hC⟩ := at_L2 (Kd.S_reads' h).2.2 (i : Int) (Int.natCast_nonneg i) (by omega)
 subst e
 obtain ⟨ce, hce, hMe, hcc⟩ := Kd.S_get h [] (i : Int) (Int.natCast_nonneg i) (by omega)
 obtain ⟨ve, rfl, ge⟩ := hMe
 have hv := hcc 0 _ rfl
 rw [Nat.add_zero, show ((Kd.slice 3 (Kd.int .i64))).sz = 1 from rfl, Nat.mul_one] at hv
 replace hv := Option.some.inj (hv.symm.trans hx)
 rw [hv] at ge
 have HL := (show Kd.R (Kd.int .i64) 3 _ _ _ _ (rd_L2 l (i : Int)) from ge)
 obtain ⟨go, co, eo, gb, gl, cl, HG⟩ := Kd.R_form HL (by omega)
 injection eo with ea en ec
 subst ea
 subst ec
 obtain ⟨hx2, hf2⟩ := Kd.R_celln 0 HL (rd p (i : Int)) k0 k1
 refine ⟨ad, go, c0, rfl, ⟨hx, hx2, hf2⟩, gb, (HL.1 go rfl).1, fun e_ => ?_⟩
 obtain ⟨cs2, t2⟩ := Kd.S_typed h ad.block rfl
 rw [e_, HG] at t2
 injection t2 with t2
 injection t2 with _ t3
 exact absurd t3 (by decide)
/-- The number written: the table is still the call's own. -/
theorem ent_put {W : World} {base : Nat} {ok : Nat → Prop} {ad : Addr} {n c go cc : Nat} {l : List (List Int)} (h : Kd.S (Kd.slice 3 (Kd.int .i64)) 26 W base ok (.slice (some ad) n c) l) {p : List Int} {i : Nat} (hok : pOk l p i = true) (hx : W.cell? (ad.add i) = some (.slice (some ⟨go, 0, none⟩) (rd_L2 l (i : Int)).length cc)) (x : Int) :
 Kd.S (Kd.slice 3 (Kd.int .i64)) 26 (W.setCell ⟨go, (rd p (i : Int)).toNat, none⟩ (.int .i64 x)) base ok (.slice (some ad) n c) (l.set i ((rd_L2 l (i : Int)).set (rd p (i : Int)).toNat x)) ∧ W.grownBy (W.setCell ⟨go, (rd p (i : Int)).toNat, none⟩ (.int .i64 x)) (some go) := by
 unfold pOk at hok
 rw [decide_eq_true_eq] at hok
 obtain ⟨hi, k0, k1⟩ := hok
 obtain rfl := (Kd.S_reads' h).1
 obtain ⟨oki, ce, hcl, hM, hcc, hoki, hbk⟩ := Kd.S_borrow h [] (i : Int) (Int.natCast_nonneg i) (by omega)
 obtain ⟨ve, rfl, ge⟩ := hM
 have hv := hcc 0 _ rfl
 rw [Nat.add_zero, show ((Kd.slice 3 (Kd.int .i64))).sz = 1 from rfl, Nat.mul_one] at hv
 replace hv := Option.some.inj (hv.symm.trans hx)
 subst hv
 have ge := (show Kd.R (Kd.int .i64) 3 _ _ _ _ (rd_L2 l (i : Int)) from ge)
 have HP := Kd.R_putg ge (rd p (i : Int)) x
 exact ⟨hbk HP.2 (fun k_ e_ => by injection e_ with e_; subst e_; exact ge.1 _ rfl) (Kd.M_row HP.1), HP.2⟩
/-- The first row of a row of rows. -/
theorem first_row {W : World} {base : Nat} {ok : Nat → Prop} {A : Option Addr} {n c : Nat} {q : List (List Int)} (h : Kd.N (Kd.slice 3 (Kd.int .i64)) 26 W base ok (.slice A n c) q) (hq : 0 < q.length) :
 ∃ (ad : Addr) (Ap : Option Addr) (cp : Nat), A = some ad ∧ W.cell? ad = some (.slice Ap (rd_L2 q 0).length cp) ∧ Kd.V (Kd.int .i64) 3 W base ok (.slice Ap (rd_L2 q 0).length cp) (rd_L2 q 0) := by
 obtain rfl := (Kd.N_reads' h).1
 obtain ⟨ad, A0, c0, e, hx, hl, hC⟩ := at_L2 (Kd.N_reads' h).2.2 0 (Int.le_refl 0) (by omega)
 subst e
 obtain ⟨cs, hcl, hFK, hcc⟩ := Kd.N_get h [] 0 (Int.le_refl 0) (by omega)
 obtain ⟨A1, c1, rfl, hl1, hF⟩ := Kd.FK_slice_open hFK
 have hv := hcc 0 _ rfl
 rw [Nat.add_zero, show ((Kd.slice 3 (Kd.int .i64))).sz = 1 from rfl, Nat.mul_one] at hv
 have e := Option.some.inj (hv.symm.trans hx)
 injection e with ea en ec
 subst ea
 subst ec
 rw [show ((0 : Int)).toNat = 0 from rfl, Addr.add_zero'] at hx
 exact ⟨ad, A1, c1, rfl, hx, ⟨A1, c1, rfl, hl1, Kd.F_mono hF (fun _ hk => hk.1)⟩⟩
theorem pOk_iff {l : List (List Int)} {p : List Int} {i : Nat} : pOk l p i = true ↔ i < l.length ∧ 0 ≤ rd p (i : Int) ∧ rd p (i : Int) < ((rd_L2 l (i : Int)).length : Int) := by
 unfold pOk
 rw [decide_eq_true_eq]
/-- The first row of the call's own table. -/
theorem row0_at {W : World} {base : Nat} {ok : Nat → Prop} {A : Option Addr} {n c : Nat} {l : List (List Int)} (h : Kd.S (Kd.slice 3 (Kd.int .i64)) 26 W base ok (.slice A n c) l) (hn : 0 < l.length) :
 ∃ (ad : Addr) (A0 : Option Addr) (c0 : Nat), A = some ad ∧ W.cell? ad = some (.slice A0 (rd_L2 l 0).length c0) ∧ (rd_L2 l 0).length ≤ c0 ∧ Kd.C (Kd.int .i64) W A0 (rd_L2 l 0).length (rd_L2 l 0) := by
 obtain rfl := (Kd.S_reads' h).1
 obtain ⟨ad, A0, c0, e, hx, hl, hC⟩ := at_L2 (Kd.S_reads' h).2.2 0 (Int.le_refl 0) (by omega)
 rw [show ((0 : Int)).toNat = 0 from rfl, Addr.add_zero'] at hx
 exact ⟨ad, A0, c0, e, hx, hl, hC⟩
end Go.Proofs.Ytgcgecbdmomceaa.A

/- slices.Clone at []int: a copy in memory of the call's own (the shelf's worked proof, turned to this claim). -/
namespace Go.Proofs.Ytgcgecbdmomceaa.A
open Go.RowKit Go.Proofs.YtgcgecbdmomceaaW.PrintWords Go.Proofs.YtgcgecbdmomceaaW.PrintLast Go.Proofs.YtgcgecbdmomceaaW.PrintMore
attribute [local go_sem] max2_int min2_int max_two min_two max_three min_three max_four min_four
set_option linter.unusedVariables false
set_option linter.unusedSimpArgs false

def slices_Clone_int_int.f (l0 : List Int) : Option (List Int) := if l0.length ≤ 17592186044416 then some l0 else none
set_option maxHeartbeats 2000000 in
set_option maxRecDepth 100000 in
theorem slices_Clone_int_int.calls (A0 : Option Addr) (c0 : Nat) (l0 : List Int) (r : List Int) (w : World) (hr0 : Kd.C (Kd.int .i64) w A0 l0.length l0) (hc0 : l0.length ≤ c0) (h : slices_Clone_int_int.f l0 = some r) :
 Calls Try.prog 54 #[.slice A0 l0.length c0] w fun e w' => ∃ v0_ : Value, e = .returned (v0_) ∧ Kd.R (Kd.int .i64) 3 w' w.heap.size (fun _ => True) v0_ r ∧ Below w.heap.size w w' := by
 have hl : l0.length ≤ 17592186044416 ∧ l0 = r := by
  unfold slices_Clone_int_int.f at h
  by_cases c : l0.length ≤ 17592186044416
  · rw [if_pos c] at h
    exact ⟨c, Option.some.inj h⟩
  · rw [if_neg c] at h
    cases h
 clear h
 obtain ⟨hl, rfl⟩ := hl
 have hn := (Kd.reads_of_C (d := (0 : Int)) (h1 := fun _ => rfl) hr0).2.2
 clear hr0
 have q := fun (w : World) (a : Option Addr) (n c n' c' : Nat) => Lib.run_eql_slice_nil (P := Try.prog) w 26 3 a n c n' c' Try.underlying26
 cases A0 with
 | none =>
  have e0 : l0 = [] := by
   cases l0 with
   | nil => rfl
   | cons x t =>
    obtain ⟨ad, e', _⟩ := hn (by simp)
    cases e'
  subst e0
  clear hn
  go_enter Try.func54, Try.ntmps54
  go_wp2
  go_ret
  exact ⟨_, rfl, Kd.R_nil _ _ _ _ _, Below.refl _ _⟩
 | some ad =>
  have HC : Aside0 (∀ j u, (encs (Value.int .i64) l0)[j]? = some u → w.cell? (ad.add j) = some u) := ⟨by
   intro j u hj
   have hjl : j < l0.length := by
    have := (List.getElem?_eq_some_iff.1 hj).1
    rwa [encs_length] at this
   obtain ⟨ad', e', hcell⟩ := hn (by omega)
   cases e'
   rw [encs_get (d := (0 : Int)) l0 j hjl] at hj
   injection hj with hj
   rw [← hj]
   exact hcell j hjl⟩
  clear hn
  obtain ⟨i0, hi, hzz⟩ := Option.map_eq_some_iff.1 info3
  simp only [Prod.mk.injEq] at hzz
  obtain ⟨hz0, hz1, hz2⟩ := hzz
  have Hl := Aside0.mk hl
  have Hc := Aside0.mk hc0
  clear hl hc0
  go_enter Try.func54, Try.ntmps54
  go_wp2_with (at_builtin; refine wpList_append_own _ rfl _ _ 26 rfl w.heap.size 3 i0 (.int .i64 0) 1 8 Try.underlying26 hi hz0 hz1 hz2 rfl (by decide) _ _ _ rfl (World.ownsRow_made w #[] 0 (Nat.le_refl _) (Nat.zero_le _) (by simp)) ad l0.length c0 (encs (Value.int .i64) l0) rfl ?qc1 ?qc2 ?qc3 ?qc4 ?qc5 ?qc6 ?_)
  case qc1 => rw [encs_length, Nat.mul_one]
  case qc2 =>
   intro j u hj
   exact Lib.cell?_alloc_some _ (HC.out j u hj)
  case qc3 =>
   intro u hu
   obtain ⟨x, _, rfl⟩ := List.mem_map.1 hu
   rfl
  case qc4 =>
   have := Hl.out
   unfold maxLen
   omega
  case qc5 =>
   have := Hl.out
   omega
  case qc6 => simp
  intro v' w1 hown hgrow hnil
  go_wp2
  go_ret
  refine ⟨v', rfl, ?_, ?_⟩
  · refine Kd.R_of_own ?_ (fun _ _ => trivial)
    simpa using hown
  · exact ((Below.refl _ w).alloc (Nat.le_refl _) _).grown hgrow (by simp) (by intro k hk; simp [Value.ownBlock] at hk; omega)
end Go.Proofs.Ytgcgecbdmomceaa.A

/- A world in which one elder block alone may have changed. -/
namespace Go.Proofs.Ytgcgecbdmomceaa.A
open Go.RowKit Go.Proofs.YtgcgecbdmomceaaW.PrintWords Go.Proofs.YtgcgecbdmomceaaW.PrintLast Go.Proofs.YtgcgecbdmomceaaW.PrintMore
attribute [local go_sem] max2_int min2_int max_two min_two max_three min_three max_four min_four
set_option linter.unusedVariables false
set_option linter.unusedSimpArgs false

def GB (w W : World) (g : Nat) : Prop := w.grownBy W (some g)
theorem gb_refl (w : World) (g : Nat) : GB w w g := World.grownBy.refl w _
theorem gb_keep {w W : World} {g : Nat} (h : GB w W g) : KeepBut w W g none := ⟨h.size, fun i hi hne _ => h.block i hi (by intro e; injection e with e; exact hne e)⟩
theorem gb_trans {w W W' : World} {g : Nat} (h : GB w W g) (k : GB W W' g) : GB w W' g := ⟨k.os.trans h.os, k.tape.trans h.tape, k.output.trans h.output, Nat.le_trans h.size k.size, fun i hi hne => (k.block i (Nat.lt_of_lt_of_le hi h.size) hne).trans (h.block i hi hne)⟩
theorem gb_below {W W' : World} {g : Nat} (h : Below W.heap.size W W') : GB W W' g := ⟨h.os, h.tape, h.output, h.size, fun i hi _ => h.block i hi⟩
theorem gb_drewN {W W' : World} {g : Nat} (h : GB W W' g) (m : Nat) : GB W (W'.drewN m) g := gb_trans h (gb_below (pw_below_drewN (Below.refl _ _) m))
theorem below_gb {w W W' : World} {g : Nat} (h : Below w.heap.size w W) (k : GB W W' g) (hg : w.heap.size ≤ g) : Below w.heap.size w W' := ⟨k.os.trans h.os, k.tape.trans h.tape, k.output.trans h.output, Nat.le_trans h.size k.size, fun i hi => (k.block i (Nat.lt_of_lt_of_le hi h.size) (by intro e; injection e with e; omega)).trans (h.block i hi)⟩
end Go.Proofs.Ytgcgecbdmomceaa.A

/- placings: all placings in a table, in order; what a visiting function does to one cell is told by a step. -/
namespace Go.Proofs.Ytgcgecbdmomceaa.A
open Go.RowKit Go.Proofs.YtgcgecbdmomceaaW.PrintWords Go.Proofs.YtgcgecbdmomceaaW.PrintLast Go.Proofs.YtgcgecbdmomceaaW.PrintMore
attribute [local go_sem] max2_int min2_int max_two min_two max_three min_three max_four min_four
set_option linter.unusedVariables false
set_option linter.unusedSimpArgs false

def loopB {σ : Type} (f : σ → Nat → σ × Bool) : List Nat → σ → σ × Bool
 | [], s => (s, true)
 | j :: js, s => if (f s j).2 = true then loopB f js (f s j).1 else ((f s j).1, false)
def dfs {σ : Type} (l : List (List Int)) (step : σ → List Int → σ × Bool) : Nat → σ → List Int → σ × Bool
 | 0, s, p => step s p
 | m + 1, s, p => loopB (fun s j => if rd (rd_L2 l (p.length : Int)) (j : Int) > 0 then (if (j : Int) ∈ p then (s, true) else dfs l step m s (p ++ [(j : Int)])) else (s, true)) (List.range (rd_L2 l (p.length : Int)).length) s
theorem loopB_at {σ : Type} (f : σ → Nat → σ × Bool) (s : σ) {n i : Nat} (h : i < n) : loopB f ((List.range n).drop i) s = if (f s i).2 = true then loopB f ((List.range n).drop (i + 1)) (f s i).1 else ((f s i).1, false) := by
 rw [List.drop_eq_getElem_cons (by simpa using h)]
 simp [loopB]
theorem loopB_end {σ : Type} (f : σ → Nat → σ × Bool) (s : σ) (n : Nat) : loopB f ((List.range n).drop n) s = (s, true) := by
 rw [List.drop_eq_nil_of_le (by simp)]
 rfl
theorem pkeep_cell {W W' : World} {g B : Nat} {v : Value} (h : KeepBut W W' g none) (hc : W.cell? ⟨B, 0, none⟩ = some v) (hB : B ≠ g) : W'.cell? ⟨B, 0, none⟩ = some v := by
 have hlt := World.block_lt_of_cell? W _ hc
 have := h.2 B hlt hB (by simp)
 unfold World.cell? at hc ⊢
 simp only at hc ⊢
 rw [this]
 exact hc
theorem alloc_bx {W : World} {B : Nat} {v : Value} (o : Obj) (h : W.cell? ⟨B, 0, none⟩ = some v) : (W.alloc o).cell? ⟨B, 0, none⟩ = some v := tab_bx (below_alloc (Below.refl _ W) o) h (World.block_lt_of_cell? W _ h)
theorem alloc_new_at (W : World) (c : Value) (t : TypeId) : (W.alloc (.cells #[c] t)).cell? ⟨W.heap.size, 0, none⟩ = some c := by simp
theorem row_foot {w0 : World} {g : Nat} {A0 : Option Addr} {l0 : List (List Int)} (hT : ∀ W', KeepBut w0 W' g none → Kd.C (Kd.slice 3 (Kd.int .i64)) W' A0 l0.length l0) (i : Int) (h0 : 0 ≤ i) (h1 : i < (l0.length : Int)) :
 ∃ ad Ar cr, A0 = some ad ∧ (rd_L2 l0 i).length ≤ cr ∧ ∀ W', KeepBut w0 W' g none → W'.cell? (ad.add i.toNat) = some (.slice Ar (rd_L2 l0 i).length cr) ∧ Kd.C (Kd.int .i64) W' Ar (rd_L2 l0 i).length (rd_L2 l0 i) := by
 obtain ⟨ad, Ar, cr, rfl, hx, hl, hi⟩ := at_L2 (hT w0 (KeepBut.refl w0 g none)) i h0 h1
 refine ⟨ad, Ar, cr, rfl, hl, fun W' hk => ?_⟩
 have hne : ad.block ≠ g := Kd.foot_ne hT (by omega) (by decide)
 have hc : W'.cell? (ad.add i.toNat) = some (.slice Ar (rd_L2 l0 i).length cr) := keep_cell hk hx (by rw [add_block]; exact hne)
 refine ⟨hc, ?_⟩
 obtain ⟨ad', Ar', cr', e, hx', hl', hi'⟩ := at_L2 (hT W' hk) i h0 h1
 injection e with e
 subst e
 rw [hc] at hx'
 injection hx' with hx'
 injection hx' with e1 e2 e3
 subst e1
 exact hi'
theorem one_row {W : World} {a : Addr} {x : Int} (h : W.cell? a = some (.int .i64 x)) : ReadsRow (fun (x : Int) (cs : List Value) => cs = [.int .i64 x]) 1 W (some a) 1 [x] := ⟨rfl, by decide, fun _ => ⟨a, rfl, fun j p hj => by
 have hj0 : j = 0 := by
  have := (List.getElem?_eq_some_iff.1 hj).1
  simpa using this
 subst hj0
 simp at hj
 subst hj
 exact ⟨[.int .i64 x], rfl, rfl, fun i u hu => by
  match i with
  | 0 =>
   simp at hu
   subst hu
   rw [Nat.zero_mul, Nat.zero_add, Addr.add_zero']
   exact h
  | i + 1 => simp at hu⟩⟩⟩
set_option maxHeartbeats 8000000 in
set_option maxRecDepth 100000 in
theorem place_calls {σ : Type} (l0 : List (List Int)) (A0 : Option Addr) (c0 : Nat) (w0 : World) (g : Nat) (Inv : σ → World → Prop) (step : σ → List Int → σ × Bool) (fv : Nat) (lb : Array Value) (B0 Bv Bp : Nat) (hg : g < w0.heap.size) (hl0 : l0.length ≤ 1000) (hrl : ∀ x ∈ l0, x.length ≤ 1000)
 (eg : ∀ args w, (callFunc fv args).run Try.prog w = .ok (.enter fv args) w)
 (hT : ∀ W', KeepBut w0 W' g none → Kd.C (Kd.slice 3 (Kd.int .i64)) W' A0 l0.length l0)
 (hb0 : w0.cell? ⟨B0, 0, none⟩ = some (.slice A0 l0.length c0)) (nb0 : B0 ≠ g) (hbv : w0.cell? ⟨Bv, 0, none⟩ = some (.func (.func fv) #[] lb)) (nbv : Bv ≠ g) (hbp : w0.cell? ⟨Bp, 0, none⟩ = some (.func (.func 53) #[] #[.pointer (some ⟨B0, 0, none⟩), .pointer (some ⟨Bv, 0, none⟩), .pointer (some ⟨Bp, 0, none⟩)])) (nbp : Bp ≠ g)
 (hI : ∀ s W W', Below W.heap.size W W' → Inv s W → Inv s W')
 (hv : ∀ s p v W, GB w0 W g → Inv s W → p.length = l0.length → Kd.R (Kd.int .i64) 3 W w0.heap.size (fun _ => True) v p → Calls Try.prog fv (#[v] ++ lb) W fun e w' => e = .returned (.bool (step s p).2) ∧ GB W w' g ∧ Inv (step s p).1 w') :
 ∀ (m : Nat) (s : σ) (p : List Int) (v : Value) (W : World), p.length + m = l0.length → GB w0 W g → Inv s W → Kd.R (Kd.int .i64) 3 W w0.heap.size (fun _ => True) v p →
  Calls Try.prog 53 #[v, .pointer (some ⟨B0, 0, none⟩), .pointer (some ⟨Bv, 0, none⟩), .pointer (some ⟨Bp, 0, none⟩)] W fun e w' => e = .returned (.bool (dfs l0 step m s p).2) ∧ GB W w' g ∧ Inv (dfs l0 step m s p).1 w' := by
 have HV := Aside0.mk hv
 have EGP := Aside0.mk (show ∀ args w, (callFunc 53 args).run Try.prog w = .ok (.enter 53 args) w from fun args w => enters_ Try.func53 (by kernel_rfl) rfl args w)
 have HT := Aside0.mk hT
 have EG := Aside0.mk eg
 have HI := Aside0.mk hI
 have HB0 := Aside0.mk hb0
 have HBV := Aside0.mk hbv
 have HBP := Aside0.mk hbp
 have HRL := Aside0.mk hrl
 clear hv hT eg hI hb0 hbv hbp hrl
 intro m
 induction m with
 | zero =>
  intro s p v W hm hk hi hR
  obtain ⟨Ap, cp, rfl⟩ := Kd.R_slice hR
  have x0 := pkeep_cell (gb_keep hk) HB0.out nb0
  have x1 := pkeep_cell (gb_keep hk) HBV.out nbv
  have HK := Aside0.mk hk
  have HN := Aside0.mk hi
  have HR := Aside0.mk hR
  have e0 : ((p.length : Int) == (l0.length : Int)) = true := beq_iff_eq.mpr (by omega)
  have HM := Aside0.mk (show p.length = l0.length by omega)
  clear hm hk hi hR
  go_enter Try.func53, Try.ntmps53
  go_wp2_with (first | ((with_reducible refine gate_dst (N := 17) rfl ?_); refine goesF_ (some 17) rfl rfl 15 fv lb EG.out #[.slice Ap p.length cp] rfl rfl (by (try simp only [List.map_toArray, List.map_cons, List.map_nil]); first | done | rfl) ?_; (with_reducible refine (HV.out s p _ W HK.out HN.out HM.out HR.out).mono ?_); rintro e w1 ⟨rfl, hk1, hi1⟩; refine ⟨_, rfl, ?_⟩; have HK1 := Aside0.mk hk1; have HI1 := Aside0.mk hi1; clear hk1 hi1))
  go_ret
  exact ⟨rfl, HK1.out, HI1.out⟩
 | succ m ih =>
  intro s p v W hm hk hi hR
  obtain ⟨Ap, cp, rfl⟩ := Kd.R_slice hR
  have HIH := Aside0.mk ih
  clear ih
  obtain ⟨ad, Ar, cr, rfl, hcr, hrow⟩ := row_foot HT.out (p.length : Int) (by omega) (by omega)
  have x0 := pkeep_cell (gb_keep hk) HB0.out nb0
  have x1 := (hrow W (gb_keep hk)).1
  rw [Int.toNat_natCast] at x1
  have HROW := Aside0.mk hrow
  have HK := Aside0.mk hk
  have HN := Aside0.mk hi
  have HR := Aside0.mk hR
  have e0 : ((p.length : Int) == (l0.length : Int)) = false := beq_eq_false_iff_ne.mpr (by omega)
  have p0 : (0 ≤ (p.length : Int)) = True := eq_true (by omega)
  have p1 : ((p.length : Int) < (l0.length : Int)) = True := eq_true (by omega)
  have HM := Aside0.mk hm
  have HCR := Aside0.mk hcr
  obtain ⟨f, hf⟩ : ∃ f : σ → Nat → σ × Bool, f = fun (s : σ) (j : Nat) => if rd (rd_L2 l0 (p.length : Int)) (j : Int) > 0 then (if (j : Int) ∈ p then (s, true) else dfs l0 step m s (p ++ [(j : Int)])) else (s, true) := ⟨_, rfl⟩
  have hd : dfs l0 step (m + 1) s p = loopB f (List.range (rd_L2 l0 (p.length : Int)).length) s := by rw [hf]; rfl
  rw [hd]
  have HF := Aside0.mk hf
  have hrl2 : (rd_L2 l0 (p.length : Int)).length ≤ 1000 := by
   have hlt : p.length < l0.length := by omega
   unfold rd_L2
   rw [Int.toNat_natCast, List.getD_eq_getElem?_getD, List.getElem?_eq_getElem hlt]
   exact HRL.out _ (List.getElem_mem hlt)
  clear hm hk hi hR hrow hcr hf hd
  generalize rd_L2 l0 (p.length : Int) = row at *
  obtain ⟨R, hR⟩ : ∃ R, R = loopB f (List.range row.length) s := ⟨_, rfl⟩
  rw [← hR]
  obtain ⟨rs, rb⟩ := R
  have HL := Aside0.mk hR.symm
  clear hR
  go_enter Try.func53, Try.ntmps53
  go_wp2
  go_loopg [23] row.length (fun gg v23 wr => ∃ (j : Nat) (s' : σ), v23 = .int .i64 (j : Int) ∧ j ≤ row.length ∧ row.length - j ≤ gg ∧ Aside0 (GB W wr g) ∧ Aside0 (Inv s' wr) ∧ Aside0 (loopB f ((List.range row.length).drop j) s' = (rs, rb)))
  case atStart => exact ⟨0, s, rfl, Nat.zero_le _, by omega, ⟨by repeat (first | exact gb_refl _ _ | apply gb_drewN)⟩, ⟨by first | exact HN.out | exact HI.out _ _ _ (pw_below_drewN (Below.refl _ _) _) HN.out⟩, ⟨by simpa using HL.out⟩⟩
  case round =>
   obtain ⟨j, s', rfl, hj, hg', HK2, HN2, HL2⟩ := hrel
   by_cases hlt : j < row.length
   · have c0 : decide ((j : Int) < (row.length : Int)) = true := decide_eq_true (by omega)
     have q0 : (0 ≤ (j : Int)) = True := eq_true (by omega)
     have q1 : ((j : Int) < (row.length : Int)) = True := eq_true (by omega)
     have hkw := gb_trans HK.out HK2.out
     obtain ⟨_, hC⟩ := HROW.out wr (gb_keep hkw)
     obtain ⟨ad2, hA, hx⟩ := Kd.at_int hC (j : Int) (by omega) (by omega)
     subst hA
     rw [Int.toNat_natCast] at hx
     have z0 := pkeep_cell (gb_keep hkw) HBP.out nbp
     have HKW := Aside0.mk hkw
     have hq := HL2.out
     rw [loopB_at f s' hlt] at hq
     have hfj : f s' j = if rd row (j : Int) > 0 then (if (j : Int) ∈ p then (s', true) else dfs l0 step m s' (p ++ [(j : Int)])) else (s', true) := by rw [HF.out]
     rw [hfj] at hq
     clear hkw hC hfj
     by_cases cx : rd row (j : Int) > 0
     · have d0 : decide (rd row (j : Int) > 0) = true := decide_eq_true cx
       rw [if_pos cx] at hq
       by_cases cm : (j : Int) ∈ p
       · rw [if_pos cm] at hq
         have HQ := Aside0.mk hq
         obtain ⟨kc, hkc⟩ := Ev.get (slContains_ev p (j : Int) (by have := HM.out; omega))
         rw [decide_eq_true cm] at hkc
         have AC := Aside0.mk hkc
         clear hq cx HL2 cm hkc
         go_wp2
         repeat (go_quiet ((go_at_call 50; (with_reducible refine (slices_Contains_int_int.calls kc _ _ p (j : Int) true _ ?side1 ?side2 AC.out).mono ?_); (case side1 => exact (Kd.R_reads' (Kd.R_keep (Kd.R_mono (Kd.R_bound HR.out) (ok' := fun k => w0.heap.size ≤ k) (fun k hk => hk.2.1)) (gb_keep HK2.out) (fun k hk => by omega))).2.2); (case side2 => exact (Kd.R_reads' HR.out).2.1); rintro e w' ⟨rfl, ⟨nd, rfl⟩⟩; (try first | exact ⟨rfl, _, World.drewN_drewN _ _ _⟩ | exact ⟨rfl, _, Eq.trans (World.drewN_drewN _ _ _) (congrArg (World.drewN _) (Nat.add_assoc _ _ _))⟩))); try go_wp2)
         go_roundg (row.length - (j + 1))
         case measure => omega
         case rel => exact ⟨j + 1, s', by go_num, by omega, by omega, ⟨by repeat (first | exact HK2.out | apply gb_drewN)⟩, ⟨by first | exact HN2.out | exact HI.out _ _ _ (pw_below_drewN (Below.refl _ _) _) HN2.out⟩, ⟨by simpa using HQ.out⟩⟩
       · rw [if_neg cm] at hq
         obtain ⟨kc, hkc⟩ := Ev.get (slContains_ev p (j : Int) (by have := HM.out; omega))
         rw [decide_eq_false cm] at hkc
         have AC := Aside0.mk hkc
         obtain ⟨D, hD⟩ : ∃ D, D = dfs l0 step m s' (p ++ [(j : Int)]) := ⟨_, rfl⟩
         rw [← hD] at hq
         obtain ⟨ds, db⟩ := D
         have HREC : Aside0 (∀ (v : Value) (W1 : World), Below wr.heap.size wr W1 → Kd.R (Kd.int .i64) 3 W1 wr.heap.size (fun _ => True) v (p ++ [(j : Int)]) → Calls Try.prog 53 #[v, .pointer (some ⟨B0, 0, none⟩), .pointer (some ⟨Bv, 0, none⟩), .pointer (some ⟨Bp, 0, none⟩)] W1 fun e w' => e = .returned (.bool db) ∧ GB wr w' g ∧ Inv ds w') := ⟨fun v W1 hb hr => by
          have h1 := HIH.out s' (p ++ [(j : Int)]) v W1 (by rw [List.length_append]; have := HM.out; simp only [List.length_cons, List.length_nil]; omega) (gb_trans HKW.out (gb_below hb)) (HI.out _ _ _ hb HN2.out) (Kd.R_lower hr HKW.out.size)
          rw [← hD] at h1
          exact h1.mono (fun e w' h => ⟨h.1, gb_trans (gb_below hb) h.2.1, h.2.2⟩)⟩
         have HRP := Aside0.mk (Kd.R_keep (Kd.R_mono (Kd.R_bound HR.out) (ok' := fun k => w0.heap.size ≤ k) (fun k hk => hk.2.1)) (gb_keep HK2.out) (fun k hk => by omega))
         have HCL := Aside0.mk (show slices_Clone_int_int.f p = some p by unfold slices_Clone_int_int.f; rw [if_pos (by have := HM.out; omega)])
         have HBW := Aside0.mk (Below.refl wr.heap.size wr)
         have hp6 : p.length ≤ 1000 := by have := HM.out; omega
         cases db with
         | true =>
          rw [if_pos rfl] at hq
          have HQ := Aside0.mk hq
          clear hq cx HL2 cm hkc hD
          go_wp2
          go_region_law (first | ((with_reducible refine gateS_ 33 rfl ?_); refine goes_ Try.func50 (by kernel_rfl) rfl #[.slice Ap p.length cp, .int .i64 (j : Int)] (by rfl) rfl rfl (by first | (simp [Act.eval, Act.put]; done) | rfl | (go_simp; done) | (go_simp; rfl)) ?_; (with_reducible refine (slices_Contains_int_int.calls kc _ _ p (j : Int) false _ ?side1 ?side2 AC.out).mono ?_); (case side1 => exact Kd.C_below (Kd.R_reads' HRP.out).2.2 (by repeat (first | (with_reducible first | exact HBW.out | apply below_alloc | apply pw_below_drewN | apply below_drew1) | exact HBW.out))); (case side2 => exact (Kd.R_reads' HR.out).2.1); rintro e w' ⟨rfl, ⟨nd, rfl⟩⟩; refine ⟨_, rfl, ?_⟩; have z5 := alloc_bx (W := wr.drewN (1 + nd)) (.cells #[.int .i64 (j : Int)] 3) z0) | ((with_reducible refine gateS_ 39 rfl ?_); refine goes_ Try.func54 (by kernel_rfl) rfl #[.slice Ap p.length cp] (by rfl) rfl rfl (by first | (simp [Act.eval, Act.put]; done) | rfl | (go_simp; done) | (go_simp; rfl)) ?_; (with_reducible show Calls _ _ _ (World.alloc _ _) _); (refine (slices_Clone_int_int.calls _ _ p p _ ?side1 ?side2 HCL.out).mono ?_); (case side1 => exact Kd.C_below (Kd.R_reads' HRP.out).2.2 (by repeat (first | (with_reducible first | exact HBW.out | apply below_alloc | apply pw_below_drewN | apply below_drew1) | exact HBW.out))); (case side2 => exact (Kd.R_reads' HR.out).2.1); rintro e wc ⟨vc, rfl, ho, hb⟩; refine ⟨_, rfl, ?_⟩; (have hb1 := below_step (by repeat (first | (with_reducible first | exact HBW.out | apply below_alloc | apply pw_below_drewN | apply below_drew1) | exact HBW.out)) hb); (have HO := Aside0.mk (show Kd.R (Kd.int .i64) 3 wc wr.heap.size (fun _ => True) vc p from Kd.R_lower ho (below_size (by repeat (first | (with_reducible first | exact HBW.out | apply below_alloc | apply pw_below_drewN | apply below_drew1) | exact HBW.out))))); (have HBW2 := Aside0.mk hb1); have z1 := tab_bx hb1 z0 (World.block_lt_of_cell? wr _ z0); have z4 := alloc_bx (.cells #[.int .i64 (j : Int)] 3) z1; have zb : wc.cell? ⟨wr.heap.size, 0, none⟩ = some (.int .i64 (j : Int)) := (hb.cell (p := ⟨wr.heap.size, 0, none⟩) (by first | (simp; done) | (simp [go_sem]; done))).trans (alloc_new_at (wr.drewN _) _ _); clear ho hb hb1 HBW; have HBW := HBW2; clear HBW2) | ((with_reducible refine gateS_ 39 rfl ?_); refine goes_ Try.func54 (by kernel_rfl) rfl #[.slice Ap p.length cp] (by rfl) rfl rfl (by first | (simp [Act.eval, Act.put]; done) | rfl | (go_simp; done) | (go_simp; rfl)) ?_; (refine (slices_Clone_int_int.calls _ _ p p _ ?side1 ?side2 HCL.out).mono ?_); (case side1 => exact Kd.C_below (Kd.R_reads' HRP.out).2.2 (by repeat (first | (with_reducible first | exact HBW.out | apply below_alloc | apply pw_below_drewN | apply below_drew1) | exact HBW.out))); (case side2 => exact (Kd.R_reads' HR.out).2.1); rintro e wc ⟨vc, rfl, ho, hb⟩; refine ⟨_, rfl, ?_⟩; (have hb1 := below_step (by repeat (first | (with_reducible first | exact HBW.out | apply below_alloc | apply pw_below_drewN | apply below_drew1) | exact HBW.out)) hb); (have HO := Aside0.mk (show Kd.R (Kd.int .i64) 3 wc wr.heap.size (fun _ => True) vc p from Kd.R_lower ho (below_size (by repeat (first | (with_reducible first | exact HBW.out | apply below_alloc | apply pw_below_drewN | apply below_drew1) | exact HBW.out))))); (have HBW2 := Aside0.mk hb1); have z1 := tab_bx hb1 z0 (World.block_lt_of_cell? wr _ z0); have z4 := alloc_bx (.cells #[.int .i64 (j : Int)] 3) z1; clear ho hb hb1 HBW; have HBW := HBW2; clear HBW2) | ((with_reducible refine gateS_ 42 rfl ?_); refine Kd.R_append_rows_step (Kd.int .i64) (w0 := wr) wr.heap.size (by rfl) (.tmp 39) (.tmp 41) 26 3 (.int .i64 0) 8 rfl Try.underlying26 info3 rfl (by decide) (by omega) vc p [(j : Int)] (some ⟨wr.heap.size, 0, none⟩) 1 1 (fun _ => True) (fun _ => False) (by first | (simp [Act.eval, Act.put]; done) | rfl | (go_simp; done) | (go_simp; rfl)) (by first | (simp [Act.eval, Act.put]; done) | rfl | (go_simp; done) | (go_simp; rfl)) HO.out (Rr := fun x cs => cs = [.int .i64 x]) (one_row zb) (fun _ _ h => h) (fun _ hk => hk.elim) (fun _ _ => trivial) HBW.out HBW.out.size (by omega) ?_; intro v1 w1 ho hb hg hat; have HO1 := Aside0.mk ho; have HB1 := Aside0.mk hb; have z2 := tab_bx hb z0 (World.block_lt_of_cell? wr _ z0); clear ho hb hg hat) | ((with_reducible refine gateS_ 42 rfl ?_); refine Kd.R_append_step (Kd.int .i64) (w0 := wr) wr.heap.size (by rfl) (.tmp 39) (.tmp 41) 26 3 (.int .i64 0) 8 rfl Try.underlying26 info3 rfl (by decide) (by omega) vc p (j : Int) [.int .i64 (j : Int)] (fun _ => True) (fun _ => False) (by first | (simp [Act.eval, Act.put]; done) | rfl | (go_simp; done) | (go_simp; rfl)) (by first | (simp [Act.eval, Act.put]; done) | rfl | (go_simp; done) | (go_simp; rfl)) rfl (fun _ hk => hk.elim) (fun _ _ => trivial) HO.out HBW.out HBW.out.size (by omega) ?_; intro v1 w1 ho hb hg hat; have HO1 := Aside0.mk ho; have HB1 := Aside0.mk hb; have z2 := tab_bx hb z0 (World.block_lt_of_cell? wr _ z0); clear ho hb hg hat) | ((with_reducible refine gateS_ 43 rfl ?_); refine goesFS_ (some 43) 37 53 #[.pointer (some ⟨B0, 0, none⟩), .pointer (some ⟨Bv, 0, none⟩), .pointer (some ⟨Bp, 0, none⟩)] EGP.out #[v1] (by rfl) rfl rfl (by first | (simp [Act.eval, Act.put]; done) | rfl | (go_simp; done) | (go_simp; rfl)) (by first | (simp [Act.eval, Act.put]; done) | rfl | (go_simp; done) | (go_simp; rfl)) ?_; (refine (HREC.out v1 _ HB1.out HO1.out).mono ?_); rintro e w2 ⟨rfl, hk2, hi2⟩; refine ⟨_, rfl, ?_⟩; have HK3 := Aside0.mk hk2; have HI3 := Aside0.mk hi2; clear hk2 hi2))
          all_goals
           go_wp2
           go_roundg (row.length - (j + 1))
           case measure => omega
           case rel => exact ⟨j + 1, ds, by go_num, by omega, by omega, ⟨gb_trans HK2.out HK3.out⟩, ⟨HI3.out⟩, ⟨by simpa using HQ.out⟩⟩
         | false =>
          rw [if_neg (by simp)] at hq
          obtain ⟨rfl, rfl⟩ : ds = rs ∧ false = rb := by simpa using hq
          clear hq cx HL2 cm hkc hD
          go_wp2
          go_region_law (first | ((with_reducible refine gateS_ 33 rfl ?_); refine goes_ Try.func50 (by kernel_rfl) rfl #[.slice Ap p.length cp, .int .i64 (j : Int)] (by rfl) rfl rfl (by first | (simp [Act.eval, Act.put]; done) | rfl | (go_simp; done) | (go_simp; rfl)) ?_; (with_reducible refine (slices_Contains_int_int.calls kc _ _ p (j : Int) false _ ?side1 ?side2 AC.out).mono ?_); (case side1 => exact Kd.C_below (Kd.R_reads' HRP.out).2.2 (by repeat (first | (with_reducible first | exact HBW.out | apply below_alloc | apply pw_below_drewN | apply below_drew1) | exact HBW.out))); (case side2 => exact (Kd.R_reads' HR.out).2.1); rintro e w' ⟨rfl, ⟨nd, rfl⟩⟩; refine ⟨_, rfl, ?_⟩; have z5 := alloc_bx (W := wr.drewN (1 + nd)) (.cells #[.int .i64 (j : Int)] 3) z0) | ((with_reducible refine gateS_ 39 rfl ?_); refine goes_ Try.func54 (by kernel_rfl) rfl #[.slice Ap p.length cp] (by rfl) rfl rfl (by first | (simp [Act.eval, Act.put]; done) | rfl | (go_simp; done) | (go_simp; rfl)) ?_; (with_reducible show Calls _ _ _ (World.alloc _ _) _); (refine (slices_Clone_int_int.calls _ _ p p _ ?side1 ?side2 HCL.out).mono ?_); (case side1 => exact Kd.C_below (Kd.R_reads' HRP.out).2.2 (by repeat (first | (with_reducible first | exact HBW.out | apply below_alloc | apply pw_below_drewN | apply below_drew1) | exact HBW.out))); (case side2 => exact (Kd.R_reads' HR.out).2.1); rintro e wc ⟨vc, rfl, ho, hb⟩; refine ⟨_, rfl, ?_⟩; (have hb1 := below_step (by repeat (first | (with_reducible first | exact HBW.out | apply below_alloc | apply pw_below_drewN | apply below_drew1) | exact HBW.out)) hb); (have HO := Aside0.mk (show Kd.R (Kd.int .i64) 3 wc wr.heap.size (fun _ => True) vc p from Kd.R_lower ho (below_size (by repeat (first | (with_reducible first | exact HBW.out | apply below_alloc | apply pw_below_drewN | apply below_drew1) | exact HBW.out))))); (have HBW2 := Aside0.mk hb1); have z1 := tab_bx hb1 z0 (World.block_lt_of_cell? wr _ z0); have z4 := alloc_bx (.cells #[.int .i64 (j : Int)] 3) z1; have zb : wc.cell? ⟨wr.heap.size, 0, none⟩ = some (.int .i64 (j : Int)) := (hb.cell (p := ⟨wr.heap.size, 0, none⟩) (by first | (simp; done) | (simp [go_sem]; done))).trans (alloc_new_at (wr.drewN _) _ _); clear ho hb hb1 HBW; have HBW := HBW2; clear HBW2) | ((with_reducible refine gateS_ 39 rfl ?_); refine goes_ Try.func54 (by kernel_rfl) rfl #[.slice Ap p.length cp] (by rfl) rfl rfl (by first | (simp [Act.eval, Act.put]; done) | rfl | (go_simp; done) | (go_simp; rfl)) ?_; (refine (slices_Clone_int_int.calls _ _ p p _ ?side1 ?side2 HCL.out).mono ?_); (case side1 => exact Kd.C_below (Kd.R_reads' HRP.out).2.2 (by repeat (first | (with_reducible first | exact HBW.out | apply below_alloc | apply pw_below_drewN | apply below_drew1) | exact HBW.out))); (case side2 => exact (Kd.R_reads' HR.out).2.1); rintro e wc ⟨vc, rfl, ho, hb⟩; refine ⟨_, rfl, ?_⟩; (have hb1 := below_step (by repeat (first | (with_reducible first | exact HBW.out | apply below_alloc | apply pw_below_drewN | apply below_drew1) | exact HBW.out)) hb); (have HO := Aside0.mk (show Kd.R (Kd.int .i64) 3 wc wr.heap.size (fun _ => True) vc p from Kd.R_lower ho (below_size (by repeat (first | (with_reducible first | exact HBW.out | apply below_alloc | apply pw_below_drewN | apply below_drew1) | exact HBW.out))))); (have HBW2 := Aside0.mk hb1); have z1 := tab_bx hb1 z0 (World.block_lt_of_cell? wr _ z0); have z4 := alloc_bx (.cells #[.int .i64 (j : Int)] 3) z1; clear ho hb hb1 HBW; have HBW := HBW2; clear HBW2) | ((with_reducible refine gateS_ 42 rfl ?_); refine Kd.R_append_rows_step (Kd.int .i64) (w0 := wr) wr.heap.size (by rfl) (.tmp 39) (.tmp 41) 26 3 (.int .i64 0) 8 rfl Try.underlying26 info3 rfl (by decide) (by omega) vc p [(j : Int)] (some ⟨wr.heap.size, 0, none⟩) 1 1 (fun _ => True) (fun _ => False) (by first | (simp [Act.eval, Act.put]; done) | rfl | (go_simp; done) | (go_simp; rfl)) (by first | (simp [Act.eval, Act.put]; done) | rfl | (go_simp; done) | (go_simp; rfl)) HO.out (Rr := fun x cs => cs = [.int .i64 x]) (one_row zb) (fun _ _ h => h) (fun _ hk => hk.elim) (fun _ _ => trivial) HBW.out HBW.out.size (by omega) ?_; intro v1 w1 ho hb hg hat; have HO1 := Aside0.mk ho; have HB1 := Aside0.mk hb; have z2 := tab_bx hb z0 (World.block_lt_of_cell? wr _ z0); clear ho hb hg hat) | ((with_reducible refine gateS_ 42 rfl ?_); refine Kd.R_append_step (Kd.int .i64) (w0 := wr) wr.heap.size (by rfl) (.tmp 39) (.tmp 41) 26 3 (.int .i64 0) 8 rfl Try.underlying26 info3 rfl (by decide) (by omega) vc p (j : Int) [.int .i64 (j : Int)] (fun _ => True) (fun _ => False) (by first | (simp [Act.eval, Act.put]; done) | rfl | (go_simp; done) | (go_simp; rfl)) (by first | (simp [Act.eval, Act.put]; done) | rfl | (go_simp; done) | (go_simp; rfl)) rfl (fun _ hk => hk.elim) (fun _ _ => trivial) HO.out HBW.out HBW.out.size (by omega) ?_; intro v1 w1 ho hb hg hat; have HO1 := Aside0.mk ho; have HB1 := Aside0.mk hb; have z2 := tab_bx hb z0 (World.block_lt_of_cell? wr _ z0); clear ho hb hg hat) | ((with_reducible refine gateS_ 43 rfl ?_); refine goesFS_ (some 43) 37 53 #[.pointer (some ⟨B0, 0, none⟩), .pointer (some ⟨Bv, 0, none⟩), .pointer (some ⟨Bp, 0, none⟩)] EGP.out #[v1] (by rfl) rfl rfl (by first | (simp [Act.eval, Act.put]; done) | rfl | (go_simp; done) | (go_simp; rfl)) (by first | (simp [Act.eval, Act.put]; done) | rfl | (go_simp; done) | (go_simp; rfl)) ?_; (refine (HREC.out v1 _ HB1.out HO1.out).mono ?_); rintro e w2 ⟨rfl, hk2, hi2⟩; refine ⟨_, rfl, ?_⟩; have HK3 := Aside0.mk hk2; have HI3 := Aside0.mk hi2; clear hk2 hi2))
          all_goals
           go_wp2
           go_ret
           exact ⟨rfl, gb_trans HK2.out HK3.out, HI3.out⟩
     · have d0 : decide (rd row (j : Int) > 0) = false := decide_eq_false cx
       rw [if_neg cx] at hq
       have HQ := Aside0.mk hq
       clear hq cx HL2
       go_wp2
       repeat (go_quiet (fail); try go_wp2)
       go_wp2
       go_roundg (row.length - (j + 1))
       case measure => omega
       case rel => exact ⟨j + 1, s', by go_num, by omega, by omega, ⟨by repeat (first | exact HK2.out | apply gb_drewN)⟩, ⟨by first | exact HN2.out | exact HI.out _ _ _ (pw_below_drewN (Below.refl _ _) _) HN2.out⟩, ⟨by simpa using HQ.out⟩⟩
   · have c0 : decide ((j : Int) < (row.length : Int)) = false := decide_eq_false (by omega)
     have e : j = row.length := by omega
     have hq := HL2.out
     rw [e, loopB_end] at hq
     obtain ⟨rfl, rfl⟩ : s' = rs ∧ true = rb := by simpa using hq
     clear hq e
     go_wp2
     go_ret
     exact ⟨rfl, HK2.out, HN2.out⟩
end Go.Proofs.Ytgcgecbdmomceaa.A

/- placings: the visit of all placings in a table. -/
namespace Go.Proofs.Ytgcgecbdmomceaa.A
open Go.RowKit Go.Proofs.YtgcgecbdmomceaaW.PrintWords Go.Proofs.YtgcgecbdmomceaaW.PrintLast Go.Proofs.YtgcgecbdmomceaaW.PrintMore
attribute [local go_sem] max2_int min2_int max_two min_two max_three min_three max_four min_four
set_option linter.unusedVariables false
set_option linter.unusedSimpArgs false

set_option maxHeartbeats 8000000 in
set_option maxRecDepth 100000 in
theorem placings_calls {σ : Type} (l0 : List (List Int)) (A0 : Option Addr) (c0 : Nat) (w : World) (g : Nat) (Inv : σ → World → Prop) (step : σ → List Int → σ × Bool) (fv : Nat) (lb : Array Value) (s : σ) (hg : g < w.heap.size) (hl0 : l0.length ≤ 1000) (hrl : ∀ x ∈ l0, x.length ≤ 1000)
 (eg : ∀ args w, (callFunc fv args).run Try.prog w = .ok (.enter fv args) w)
 (hT : ∀ W', KeepBut w W' g none → Kd.C (Kd.slice 3 (Kd.int .i64)) W' A0 l0.length l0)
 (hI : ∀ s W W', Below W.heap.size W W' → Inv s W → Inv s W') (hi : Inv s w)
 (hv : ∀ s p v W, GB w W g → Inv s W → p.length = l0.length → Kd.R (Kd.int .i64) 3 W w.heap.size (fun _ => True) v p → Calls Try.prog fv (#[v] ++ lb) W fun e w' => e = .returned (.bool (step s p).2) ∧ GB W w' g ∧ Inv (step s p).1 w') :
 Calls Try.prog 45 #[.slice A0 l0.length c0, .func (.func fv) #[] lb] w fun e w' => e = .returned (.tuple #[]) ∧ GB w w' g ∧ Inv (dfs l0 step l0.length s []).1 w' := by
 have HV := Aside0.mk hv
 have HT := Aside0.mk hT
 have EG := Aside0.mk eg
 have HI := Aside0.mk hI
 have HN := Aside0.mk hi
 have HRL := Aside0.mk hrl
 clear hv hT eg hI hi hrl
 have EGP := Aside0.mk (show ∀ args w, (callFunc 53 args).run Try.prog w = .ok (.enter 53 args) w from fun args w => enters_ Try.func53 (by kernel_rfl) rfl args w)
 have hb3 : Below w.heap.size w (((w.alloc (.cells #[.slice A0 l0.length c0] 24)).alloc (.cells #[.func (.func fv) #[] lb] 49)).alloc (.cells #[(.func (.func 53) #[] #[.pointer (some ⟨w.heap.size, 0, none⟩), .pointer (some ⟨w.heap.size + 1, 0, none⟩), .pointer (some ⟨w.heap.size + 1 + 1, 0, none⟩)])] 49)) := by repeat (first | exact Below.refl _ _ | apply below_alloc)
 have h0 : (((w.alloc (.cells #[.slice A0 l0.length c0] 24)).alloc (.cells #[.func (.func fv) #[] lb] 49)).alloc (.cells #[(.func (.func 53) #[] #[.pointer (some ⟨w.heap.size, 0, none⟩), .pointer (some ⟨w.heap.size + 1, 0, none⟩), .pointer (some ⟨w.heap.size + 1 + 1, 0, none⟩)])] 49)).cell? ⟨w.heap.size, 0, none⟩ = some (.slice A0 l0.length c0) := by simp [go_sem]
 have h1 : (((w.alloc (.cells #[.slice A0 l0.length c0] 24)).alloc (.cells #[.func (.func fv) #[] lb] 49)).alloc (.cells #[(.func (.func 53) #[] #[.pointer (some ⟨w.heap.size, 0, none⟩), .pointer (some ⟨w.heap.size + 1, 0, none⟩), .pointer (some ⟨w.heap.size + 1 + 1, 0, none⟩)])] 49)).cell? ⟨w.heap.size + 1, 0, none⟩ = some (.func (.func fv) #[] lb) := by simp [go_sem]
 have h2 : (((w.alloc (.cells #[.slice A0 l0.length c0] 24)).alloc (.cells #[.func (.func fv) #[] lb] 49)).alloc (.cells #[(.func (.func 53) #[] #[.pointer (some ⟨w.heap.size, 0, none⟩), .pointer (some ⟨w.heap.size + 1, 0, none⟩), .pointer (some ⟨w.heap.size + 1 + 1, 0, none⟩)])] 49)).cell? ⟨w.heap.size + 1 + 1, 0, none⟩ = some (.func (.func 53) #[] #[.pointer (some ⟨w.heap.size, 0, none⟩), .pointer (some ⟨w.heap.size + 1, 0, none⟩), .pointer (some ⟨w.heap.size + 1 + 1, 0, none⟩)]) := by simp [go_sem]
 go_enter Try.func45, Try.ntmps45
 go_upto_region 3 with (fail)
 generalize (((w.alloc (.cells #[.slice A0 l0.length c0] 24)).alloc (.cells #[.func (.func fv) #[] lb] 49)).alloc (.cells #[(.func (.func 53) #[] #[.pointer (some ⟨w.heap.size, 0, none⟩), .pointer (some ⟨w.heap.size + 1, 0, none⟩), .pointer (some ⟨w.heap.size + 1 + 1, 0, none⟩)])] 49)) = W3 at hb3 h0 h1 h2 ⊢
 have X0 := Aside0.mk h0
 have X1 := Aside0.mk h1
 have X2 := Aside0.mk h2
 have HB3 := Aside0.mk hb3
 have HG3 := Aside0.mk (Nat.lt_of_lt_of_le hg hb3.size)
 have HN3 := Aside0.mk (HI.out _ _ _ hb3 HN.out)
 have HT3 := Aside0.mk (fun (W' : World) (hk : KeepBut W3 W' g none) => HT.out W' ((KeepBut.of_below hb3 g none).trans hk (.inl rfl)))
 have HV3 := Aside0.mk (fun (s : σ) (p : List Int) (v : Value) (W : World) (hk : GB W3 W g) (hi : Inv s W) (hp : p.length = l0.length) (hr : Kd.R (Kd.int .i64) 3 W W3.heap.size (fun _ => True) v p) => HV.out s p v W (gb_trans (gb_below hb3) hk) hi hp (Kd.R_lower hr hb3.size))
 clear h0 h1 hb3
 go_wp2_with (first | ((with_reducible refine gate_dst (N := 7) rfl ?_); refine Kd.R_lit (Kd.int .i64) _ 3 ?hg (N := 7) ?hd (xs := ([] : List Int)) (inner := []) (ok := fun _ => True) (okp := fun _ => True) ?hr ?hp (fun _ hk => hk) trivial (Below.refl _ _) (Nat.le_refl _) (by simp) ?_; (case hd => rfl); (case hg => rfl); (case hr => first | (go_simp; done) | (go_simp; rfl)); (case hp => exact (Reps.none _ _)); intro v4 w4 ho hb hg_ hnew_; clear hg_ hnew_; have HO := Aside0.mk ho; have HB4 := Aside0.mk hb; clear ho hb) | ((with_reducible refine gate_dst (N := 8) rfl ?_); refine goesF_ (some 8) rfl rfl 6 53 #[.pointer (some ⟨w.heap.size, 0, none⟩), .pointer (some ⟨w.heap.size + 1, 0, none⟩), .pointer (some ⟨w.heap.size + 1 + 1, 0, none⟩)] EGP.out #[v4] rfl rfl (by (try simp only [List.map_toArray, List.map_cons, List.map_nil]); first | done | rfl) ?_; (refine (place_calls l0 A0 c0 W3 g Inv step fv lb w.heap.size (w.heap.size + 1) (w.heap.size + 1 + 1) HG3.out hl0 HRL.out EG.out HT3.out X0.out (by omega) X1.out (by omega) X2.out (by omega) HI.out HV3.out l0.length s [] v4 w4 (by simp) (gb_below HB4.out) (HI.out _ _ _ HB4.out HN3.out) HO.out).mono ?_); rintro e w5 ⟨rfl, hk5, hi5⟩; refine ⟨_, rfl, ?_⟩; have HK5 := Aside0.mk hk5; have HI5 := Aside0.mk hi5; clear hk5 hi5))
 exact bodyPost_end (results_none rfl _ _ _) rfl ⟨rfl, gb_trans (gb_below HB3.out) (gb_trans (gb_below HB4.out) HK5.out), HI5.out⟩
end Go.Proofs.Ytgcgecbdmomceaa.A

/- firstPlacing, FirstPlacing: the first visit lays the placing into memory and ends the search. -/
namespace Go.Proofs.Ytgcgecbdmomceaa.A
open Go.RowKit Go.Proofs.YtgcgecbdmomceaaW.PrintWords Go.Proofs.YtgcgecbdmomceaaW.PrintLast Go.Proofs.YtgcgecbdmomceaaW.PrintMore
attribute [local go_sem] max2_int min2_int max_two min_two max_three min_three max_four min_four
set_option linter.unusedVariables false
set_option linter.unusedSimpArgs false

def firstStep (_ : Option (List Int)) (p : List Int) : Option (List Int) × Bool := (some p, false)
def firstP (l0 : List (List Int)) : Option (List Int) := (dfs l0 firstStep l0.length none []).1
def smallR (l : List (List Int)) : Bool := decide (l.length ≤ 1000) && l.all fun x => decide (x.length ≤ 1000)
theorem smallR_spec {l : List (List Int)} (h : smallR l = true) : l.length ≤ 1000 ∧ ∀ x ∈ l, x.length ≤ 1000 := by
 unfold smallR at h
 simpa using h
def RowAt (base g : Nat) (o : Option (List Int)) (W : World) : Prop := W.frozen? ⟨g, 0, none⟩ = false ∧ match o with | none => W.cell? ⟨g, 0, none⟩ = some (.slice none 0 0) | some p => ∃ v, W.cell? ⟨g, 0, none⟩ = some v ∧ Kd.R (Kd.int .i64) 3 W base (fun _ => True) v p
theorem rowAt_cell {base g : Nat} {o : Option (List Int)} {W : World} (h : RowAt base g o W) : ∃ v, W.cell? ⟨g, 0, none⟩ = some v ∧ v.oneCell' = true := by
 cases o with
 | none => exact ⟨_, h.2, rfl⟩
 | some p =>
  obtain ⟨v, hv, hr⟩ := h.2
  obtain ⟨A, c, rfl⟩ := Kd.R_slice hr
  exact ⟨_, hv, rfl⟩
theorem rowAt_below {base g : Nat} {o : Option (List Int)} {W W' : World} (hb : Below W.heap.size W W') (h : RowAt base g o W) : RowAt base g o W' := by
 obtain ⟨u, hu, _⟩ := rowAt_cell h
 have hlt := World.block_lt_of_cell? W _ hu
 refine ⟨(hb.frozen (p := ⟨g, 0, none⟩) hlt).trans h.1, ?_⟩
 cases o with
 | none => exact (hb.cell (p := ⟨g, 0, none⟩) hlt).trans h.2
 | some p =>
  obtain ⟨v, hv, hr⟩ := h.2
  exact ⟨v, (hb.cell (p := ⟨g, 0, none⟩) hlt).trans hv, Kd.R_below hr hb⟩
theorem gb_set1 (W : World) (g : Nat) (u : Value) : GB W (W.setCell ⟨g, 0, none⟩ u) g := ⟨rfl, rfl, rfl, by simp, fun i hi hne => Below.heap_setCell W ⟨g, 0, none⟩ u i (by intro e; exact hne (congrArg some e))⟩
set_option maxHeartbeats 2000000 in
theorem first_cell (base b0 g : Nat) (o : Option (List Int)) (p : List Int) (v : Value) (W : World) (hg : g < b0) (hb0 : base ≤ b0) (h : RowAt base g o W) (hr : Kd.R (Kd.int .i64) 3 W b0 (fun _ => True) v p) :
 Calls Try.prog 46 (#[v] ++ #[.pointer (some ⟨g, 0, none⟩)]) W fun e w' => e = .returned (.bool false) ∧ GB W w' g ∧ RowAt base g (some p) w' := by
 obtain ⟨u, hu, _⟩ := rowAt_cell h
 obtain ⟨A, c, rfl⟩ := Kd.R_slice hr
 have hf := h.1
 have HS := Aside0.mk (show RowAt base g (some p) (W.setCell ⟨g, 0, none⟩ (.slice A p.length c)) from ⟨by rw [World.frozen?_setCell]; exact hf, _, World.cell?_setCell_same _ _ _ hu, Kd.R_lower (Kd.R_mono (ok' := fun _ => True) (Kd.R_far (p := ⟨g, 0, none⟩) (ok := fun k => b0 ≤ k) (Kd.R_mono (Kd.R_bound hr) (fun k hk => hk.2.1)) (fun k hk => by show k ≠ g; omega) _) (fun _ _ => trivial)) hb0⟩)
 have HK := Aside0.mk (gb_set1 W g (.slice A p.length c))
 clear h hr
 show Calls Try.prog 46 #[.slice A p.length c, .pointer (some ⟨g, 0, none⟩)] W _
 go_enter Try.func46, Try.ntmps46
 go_wp2
 go_ret
 exact ⟨rfl, HK.out, HS.out⟩
def FirstAt (W : World) (base : Nat) (v : Value) (o : Option (List Int)) : Prop := (o = none → v = .slice none 0 0) ∧ ∀ p, o = some p → Kd.R (Kd.int .i64) 3 W base (fun _ => True) v p
def FirstPost (base : Nat) (o : Option (List Int)) (e : Ending) (W : World) : Prop := ∃ v, e = .returned v ∧ FirstAt W base v o
set_option maxHeartbeats 4000000 in
set_option maxRecDepth 100000 in
theorem firstPlacing_calls (A0 : Option Addr) (c0 : Nat) (l0 : List (List Int)) (w : World) (hT : Kd.C (Kd.slice 3 (Kd.int .i64)) w A0 l0.length l0) (hl : l0.length ≤ 1000) (hx : ∀ x ∈ l0, x.length ≤ 1000) :
 Calls Try.prog 21 #[.slice A0 l0.length c0] w fun e w' => FirstPost w.heap.size (firstP l0) e w' ∧ Below w.heap.size w w' := by
 have HT := Aside0.mk hT
 have HL := Aside0.mk hl
 have HX := Aside0.mk hx
 have EG := Aside0.mk (show ∀ args w, (callFunc 46 args).run Try.prog w = .ok (.enter 46 args) w from fun args w => enters_ Try.func46 (by kernel_rfl) rfl args w)
 obtain ⟨R, hR⟩ : ∃ R, R = firstP l0 := ⟨_, rfl⟩
 rw [← hR]
 have HRR := Aside0.mk hR
 have HB := Aside0.mk (Below.refl w.heap.size w)
 clear hT hl hx hR
 go_enter Try.func21, Try.ntmps21
 go_wp2_with (go_at_call 45; (refine (placings_calls l0 A0 c0 _ w.heap.size (RowAt w.heap.size w.heap.size) firstStep 46 #[.pointer (some ⟨w.heap.size, 0, none⟩)] none (by simp) HL.out HX.out EG.out ?side1 (fun s W W' hb h => rowAt_below hb h) ?side2 ?side3).mono ?_); (case side1 => exact Kd.C_foot_came (Kd.heap_slice _ (Kd.heap_int _)) HT.out (below_alloc (Below.refl _ _) _) (Nat.le_refl _)); (case side2 => exact ⟨by simp, by simp⟩); (case side3 => exact fun s p v W hk hi hp hr => first_cell w.heap.size (w.heap.size + 1) w.heap.size s p v W (by omega) (by omega) hi (by simpa using hr)); rintro e w2 ⟨rfl, hk, hi⟩; have HK := Aside0.mk (below_gb (Below.refl w.heap.size w) (gb_trans (gb_below (below_alloc (Below.refl _ _) _)) hk) (Nat.le_refl _)); obtain ⟨u, hu, hone⟩ := rowAt_cell hi; have HI := Aside0.mk (show RowAt w.heap.size w.heap.size R w2 by rw [HRR.out]; exact hi); clear hk hi)
 go_ret
 refine ⟨⟨_, rfl, fun hn => ?_, fun p hp => ?_⟩, HK.out⟩
 · have hi := HI.out
   rw [hn] at hi
   exact Option.some.inj (hu.symm.trans hi.2)
 · have hi := HI.out
   rw [hp] at hi
   obtain ⟨v, hv, hr⟩ := hi.2
   rw [Option.some.inj (hu.symm.trans hv)]
   exact hr
end Go.Proofs.Ytgcgecbdmomceaa.A

/- impl.PartsOf: a copy of the table by square, then, as long as there is something left, the first placing, as often as it can be taken. -/
namespace Go.Proofs.Ytgcgecbdmomceaa.A
open Go.RowKit Go.Proofs.YtgcgecbdmomceaaW.PrintWords Go.Proofs.YtgcgecbdmomceaaW.PrintLast Go.Proofs.YtgcgecbdmomceaaW.PrintMore
attribute [local go_sem] max2_int min2_int max_two min_two max_three min_three max_four min_four
set_option linter.unusedVariables false
set_option linter.unusedSimpArgs false

def partF (l0 : List (List Int)) (i j : Int) : Option Int := if 0 ≤ i ∧ i < (l0.length : Int) ∧ 0 ≤ j ∧ j < ((rd_L2 l0 i).length : Int) then some (rd (rd_L2 l0 i) j) else none
def impl_PartsOf.l1 : Nat → List (List Int) → List (List Int) → List Int → Option ((List (List Int)) × List Int × Bool)
 | 0, _, _, _ => none
 | k + 1, x5, x8, x9 => if 0 < x5.length ∧ smallR x5 = true then ((impl_total.f k (rd_L2 x5 0)).bind fun s => (if s > 0 then ((firstP x5).bind fun p => ((pLeast x5 p p.length 0 1000000).bind fun c => ((pSub p c p.length 0 x5).bind fun y => (if x8.length < 1000000 ∧ x9.length < 1000000 then (impl_PartsOf.l1 k y (x8 ++ [p]) (x9 ++ [c])) else none)))) else (some (x8, x9, true)))) else none
def impl_PartsOf.f (k : Nat) (l0 : List (List Int)) : Option ((List (List Int)) × List Int × Bool) := (impl_IsSquare.f l0).bind fun t => if t = true then ((impl_equalSum.f k l0).bind fun bt => if bt.2 = true then ((impl_square.f (partF l0) k (l0.length : Int)).bind fun u => impl_PartsOf.l1 k u [] []) else some ([], [], false)) else some ([], [], false)
set_option maxHeartbeats 4000000 in
set_option maxRecDepth 100000 in
theorem part_cell (l0 : List (List Int)) (i j t : Int) (A0 : Option Addr) (c0 B0 : Nat) (W : World) (hF : partF l0 i j = some t) (h0 : W.cell? ⟨B0, 0, none⟩ = some (.slice A0 l0.length c0)) (hr0 : Kd.C (Kd.slice 3 (Kd.int .i64)) W A0 l0.length l0) :
 Calls Try.prog 19 #[.int .i64 i, .int .i64 j, .pointer (some ⟨B0, 0, none⟩)] W fun e w' => e = .returned (.int .i64 t) ∧ Below W.heap.size W w' := by
 unfold partF at hF
 split at hF
 next hc =>
  obtain ⟨p0, p1, p3, p4⟩ := hc
  obtain rfl := Option.some.inj hF
  obtain ⟨ad0, ad1, d0, rfl, x0, x1⟩ := tab_at hr0 i j p0 p1 p3 p4
  have q0 := eq_true p0
  have q1 := eq_true p1
  have q3 := eq_true p3
  have q4 := eq_true p4
  clear hr0 hF p0 p1 p3 p4
  go_enter Try.func19, Try.ntmps19
  go_wp2
  repeat (go_quiet (fail); try go_wp2)
  go_ret
  exact ⟨rfl, by repeat (first | exact Below.refl _ _ | apply below_alloc | apply pw_below_drewN | apply below_drew1)⟩
 next => cases hF
set_option maxHeartbeats 8000000 in
set_option maxRecDepth 100000 in
theorem impl_PartsOf.callsS (k : Nat) (A0 : Option Addr) (c0 : Nat) (l0 : List (List Int)) (r1 : List (List Int)) (r2 : List Int) (r3 : Bool) (w : World) (hr0 : Kd.C (Kd.slice 3 (Kd.int .i64)) w A0 l0.length l0) (hc0 : l0.length ≤ c0) (h : impl_PartsOf.f k l0 = some (r1, r2, r3)) :
 Calls Try.prog 6 #[.slice A0 l0.length c0] w fun e w' => ∃ v0_ v1_ : Value, e = .returned (.tuple #[v0_, v1_, .bool r3]) ∧ Kd.S (Kd.slice 3 (Kd.int .i64)) 26 w' w.heap.size (fun k_ => w.heap.size ≤ k_ ∧ some k_ ≠ (v1_ : Value).ownBlock) v0_ r1 ∧ Kd.R (Kd.int .i64) 3 w' w.heap.size (fun _ => True) v1_ r2 ∧ Below w.heap.size w w' := by
 unfold impl_PartsOf.f at h
 obtain ⟨t, hs, h⟩ := Option.bind_eq_some_iff.mp h
 have HS := Aside0.mk hs
 have HR0 := Aside0.mk hr0
 have HC0 := Aside0.mk hc0
 have HB := Aside0.mk (Below.refl w.heap.size w)
 clear hr0 hs hc0
 cases t with
 | false =>
  obtain ⟨rfl, rfl, rfl⟩ : [] = r1 ∧ [] = r2 ∧ false = r3 := by simpa using h
  clear h
  go_enter Try.func6, Try.ntmps6
  go_wp2_with (go_at_call 16; (refine (impl_IsSquare.calls _ _ l0 false _ ?side1 ?side2 HS.out).mono ?_); (case side1 => exact Kd.C_below HR0.out (by repeat (first | (with_reducible first | exact HB.out | apply below_alloc | apply pw_below_drewN | apply below_drew1) | exact HB.out))); (case side2 => exact HC0.out); rintro e w1 ⟨rfl, hb⟩; have HB2 := Aside0.mk (below_step (by repeat (first | (with_reducible first | exact HB.out | apply below_alloc | apply pw_below_drewN | apply below_drew1) | exact HB.out)) hb); have x0 := tab_bx hb (B := w.heap.size) (v := .slice A0 l0.length c0) (by simp [go_sem]) (by first | (simp; done) | (simp; omega)); have x2 := Aside0.mk (show w.heap.size < w1.heap.size by have := hb.size; simp at this; omega); clear HB hb; have HB := HB2; clear HB2)
  go_ret3
  exact ⟨_, _, rfl, Kd.S_nil _ _ _ _ _, Kd.R_nil _ _ _ _ _, HB.out⟩
 | true =>
  obtain ⟨⟨es, eb⟩, he, h⟩ := Option.bind_eq_some_iff.mp h
  have HE := Aside0.mk he
  clear he
  cases eb with
  | false =>
   obtain ⟨rfl, rfl, rfl⟩ : [] = r1 ∧ [] = r2 ∧ false = r3 := by simpa using h
   clear h
   go_enter Try.func6, Try.ntmps6
   go_wp2_with (first | (go_at_call 16; (refine (impl_IsSquare.calls _ _ l0 true _ ?side1 ?side2 HS.out).mono ?_); (case side1 => exact Kd.C_below HR0.out (by repeat (first | (with_reducible first | exact HB.out | apply below_alloc | apply pw_below_drewN | apply below_drew1) | exact HB.out))); (case side2 => exact HC0.out); rintro e w1 ⟨rfl, hb⟩; have HB2 := Aside0.mk (below_step (by repeat (first | (with_reducible first | exact HB.out | apply below_alloc | apply pw_below_drewN | apply below_drew1) | exact HB.out)) hb); have x0 := tab_bx hb (B := w.heap.size) (v := .slice A0 l0.length c0) (by simp [go_sem]) (by first | (simp; done) | (simp; omega)); have x2 := Aside0.mk (show w.heap.size < w1.heap.size by have := hb.size; simp at this; omega); clear HB hb; have HB := HB2; clear HB2) | (go_at_call 17; (refine (impl_equalSum.calls k A0 c0 l0 es false _ ?side1 ?side2 HE.out).mono ?_); (case side1 => exact Kd.C_below HR0.out (by repeat (first | (with_reducible first | exact HB.out | apply below_alloc | apply pw_below_drewN | apply below_drew1) | exact HB.out))); (case side2 => exact HC0.out); rintro e w' ⟨rfl, ⟨nd, rfl⟩⟩))
   go_ret3
   exact ⟨_, _, rfl, Kd.S_nil _ _ _ _ _, Kd.R_nil _ _ _ _ _, (by repeat (first | (with_reducible first | exact HB.out | apply below_alloc | apply pw_below_drewN | apply below_drew1) | exact HB.out))⟩
  | true =>
   obtain ⟨u, hu, h⟩ := Option.bind_eq_some_iff.mp h
   have HU := Aside0.mk hu
   have H' := Aside0.mk h
   have EG := Aside0.mk (show ∀ args w, (callFunc 19 args).run Try.prog w = .ok (.enter 19 args) w from fun args w => enters_ Try.func19 (by kernel_rfl) rfl args w)
   clear h hu
   go_enter Try.func6, Try.ntmps6
   go_wp2_with (first | (go_at_call 16; (refine (impl_IsSquare.calls _ _ l0 true _ ?side1 ?side2 HS.out).mono ?_); (case side1 => exact Kd.C_below HR0.out (by repeat (first | (with_reducible first | exact HB.out | apply below_alloc | apply pw_below_drewN | apply below_drew1) | exact HB.out))); (case side2 => exact HC0.out); rintro e w1 ⟨rfl, hb⟩; have HB2 := Aside0.mk (below_step (by repeat (first | (with_reducible first | exact HB.out | apply below_alloc | apply pw_below_drewN | apply below_drew1) | exact HB.out)) hb); have x0 := tab_bx hb (B := w.heap.size) (v := .slice A0 l0.length c0) (by simp [go_sem]) (by first | (simp; done) | (simp; omega)); have x2 := Aside0.mk (show w.heap.size < w1.heap.size by have := hb.size; simp at this; omega); clear HB hb; have HB := HB2; clear HB2) | (go_at_call 17; (refine (impl_equalSum.calls k A0 c0 l0 es true _ ?side1 ?side2 HE.out).mono ?_); (case side1 => exact Kd.C_below HR0.out (by repeat (first | (with_reducible first | exact HB.out | apply below_alloc | apply pw_below_drewN | apply below_drew1) | exact HB.out))); (case side2 => exact HC0.out); rintro e w' ⟨rfl, ⟨nd, rfl⟩⟩) | (go_at_call 18; (refine (impl_square.calls _ 19 #[.pointer (some ⟨w.heap.size, 0, none⟩)] EG.out k (l0.length : Int) u _ ?side1 HU.out).mono ?_); (case side1 => intro i' j' t W' hF hb; exact part_cell l0 i' j' t A0 c0 w.heap.size W' hF (tab_bx hb x0 x2.out) (Kd.C_below HR0.out (below_step (by repeat (first | (with_reducible first | exact HB.out | apply below_alloc | apply pw_below_drewN | apply below_drew1) | exact HB.out)) hb))); rintro e w2 ⟨v152, rfl, ho, hb⟩; have HO_5 := Aside0.mk (show Kd.S (Kd.slice 3 (Kd.int .i64)) 26 w2 w.heap.size (fun _ => True) v152 u from Kd.S_lower ho (below_size (by repeat (first | (with_reducible first | exact HB.out | apply below_alloc | apply pw_below_drewN | apply below_drew1) | exact HB.out)))); have HB2 := Aside0.mk (below_step (by repeat (first | (with_reducible first | exact HB.out | apply below_alloc | apply pw_below_drewN | apply below_drew1) | exact HB.out)) hb); clear HB ho hb x0 x2; have HB := HB2; clear HB2; obtain ⟨n1, hn1, hS1⟩ := cut_above HO_5.out; have HNW := Aside0.mk (Nat.le_of_eq hn1); have HBN := Aside0.mk (show w.heap.size ≤ n1 by rw [hn1]; exact HB.out.size); clear HO_5; have HO_5 := Aside0.mk hS1; clear hS1 hn1) | ((with_reducible refine gate_dst (N := 30) rfl ?_); refine Kd.S_lit (Kd.slice 3 (Kd.int .i64)) _ 26 ?hg (N := 30) ?hd (xs := ([] : List (List Int))) (inner := []) (ok := fun k_ => n1 ≤ k_) (okp := fun _ => False) ?hr ?hp (fun _ hk => hk.elim) ?hf (Below.refl _ _) (Nat.le_refl _) (by simp) ?_; (case hd => rfl); (case hg => rfl); (case hr => first | (go_simp; done) | (go_simp; rfl)); (case hp => exact Reps.none _ _); (case hf => exact HNW.out); intro v8_ w30 ho8 hb hg_ hat_; have n0_ := Aside0.mk (Kd.S_below (by (with_reducible repeat (first | apply Kd.S_alloc | apply Kd.S_drewN | apply Kd.S_drew)); exact HO_5.out) hb); have n1_ := Aside0.mk (Kd.S_lower ho8 (below_size (by repeat (first | (with_reducible first | exact HB.out | apply below_alloc | apply pw_below_drewN | apply below_drew1) | exact HB.out)))); have n2_ := Aside0.mk (below_step (by repeat (first | (with_reducible first | exact HB.out | apply below_alloc | apply pw_below_drewN | apply below_drew1) | exact HB.out)) hb); have n3_ := Aside0.mk (Nat.le_trans HNW.out hb.size); clear HO_5 HB HNW ho8 hb hg_ hat_; have HO_5 := n0_; have HO_8 := n1_; have HB := n2_; have HNW := n3_; clear n0_ n1_ n2_ n3_) | ((with_reducible refine gate_dst (N := 31) rfl ?_); refine Kd.R_lit (Kd.int .i64) _ 3 ?hg (N := 31) ?hd (xs := ([] : List Int)) (inner := []) (ok := fun k_ => n1 ≤ k_) (okp := fun _ => False) ?hr ?hp (fun _ hk => hk.elim) ?hf (Below.refl _ _) (Nat.le_refl _) (by simp) ?_; (case hd => rfl); (case hg => rfl); (case hr => first | (go_simp; done) | (go_simp; rfl)); (case hp => exact Reps.none _ _); (case hf => exact HNW.out); intro v9_ w31 ho9 hb hg_ hat_; have n0_ := Aside0.mk (Kd.S_below (by (with_reducible repeat (first | apply Kd.S_alloc | apply Kd.S_drewN | apply Kd.S_drew)); exact HO_5.out) hb); have n1_ := Aside0.mk (Kd.S_elder' (by (with_reducible repeat (first | apply Kd.S_alloc | apply Kd.S_drewN | apply Kd.S_drew)); exact HO_8.out) (fun k_ h_ => by obtain ⟨b_, e_, hle_⟩ := hat_; rw [e_] at h_; injection h_ with h_; rw [← h_]; exact hle_) hb); have n2_ := Aside0.mk (Kd.R_lower ho9 (below_size (by repeat (first | (with_reducible first | exact HB.out | apply below_alloc | apply pw_below_drewN | apply below_drew1) | exact HB.out)))); have n3_ := Aside0.mk (below_step (by repeat (first | (with_reducible first | exact HB.out | apply below_alloc | apply pw_below_drewN | apply below_drew1) | exact HB.out)) hb); have n4_ := Aside0.mk (Nat.le_trans HNW.out hb.size); clear HO_5 HO_8 HB HNW ho9 hb hg_ hat_; have HO_5 := n0_; have HO_8 := n1_; have HO_9 := n2_; have HB := n3_; have HNW := n4_; clear n0_ n1_ n2_ n3_ n4_))
   go_loopg [8, 9] k (fun kq v8 v9 w' => ∃ (x5_3 : List (List Int)) (x8_3 : List (List Int)) (x9_3 : List Int), Aside0 (impl_PartsOf.l1 kq x5_3 x8_3 x9_3 = some (r1, r2, r3)) ∧ Aside0 (kq ≤ k) ∧ Aside0 (Kd.S (Kd.slice 3 (Kd.int .i64)) 26 w' w.heap.size (fun k_ => k_ < n1) v152 x5_3) ∧ Aside0 (Kd.S (Kd.slice 3 (Kd.int .i64)) 26 w' w.heap.size (fun k_ => n1 ≤ k_ ∧ some k_ ≠ (v9 : Value).ownBlock) v8 x8_3) ∧ Aside0 (Kd.R (Kd.int .i64) 3 w' w.heap.size (fun k_ => n1 ≤ k_) v9 x9_3) ∧ Aside0 (Below w.heap.size w w') ∧ Aside0 (n1 ≤ w'.heap.size))
   case atStart => exact ⟨u, (([] : List (List Int))), (([] : List Int)), H', ⟨Nat.le_refl _⟩, ⟨by (with_reducible repeat (first | apply Kd.S_alloc | apply Kd.S_drewN | apply Kd.S_drew)); exact HO_5.out⟩, ⟨by (with_reducible repeat (first | apply Kd.S_alloc | apply Kd.S_drewN | apply Kd.S_drew)); exact HO_8.out⟩, ⟨by (with_reducible repeat (first | apply Kd.R_alloc | apply Kd.R_drewN | apply Kd.R_drew)); exact HO_9.out⟩, ⟨by repeat (first | (with_reducible first | exact HB.out | apply below_alloc | apply pw_below_drewN | apply below_drew1) | exact HB.out)⟩, HNW⟩
   case round =>
    clear H'
    obtain ⟨x5_3, x8_3, x9_3, HA, HK3, HO_5, HO_8, HO_9, HB, HNW⟩ := hrel
    have HNR := Aside0.mk HNW.out
    obtain ⟨b0, hb0⟩ : ∃ b, b = wr.heap.size := ⟨_, rfl⟩
    have HB0 := Aside0.mk (show n1 ≤ b0 by rw [hb0]; exact HNW.out)
    cases gk with
    | zero => exact absurd HA.out (by simp [impl_PartsOf.l1])
    | succ k3 =>
     have H := HA.out
     clear HA
     simp only [impl_PartsOf.l1] at H
     by_cases hg : 0 < x5_3.length ∧ smallR x5_3 = true
     · rw [if_pos hg] at H
       obtain ⟨hx5, hsm⟩ := hg
       obtain ⟨hl5, hx55⟩ := smallR_spec hsm
       have HL5 := Aside0.mk hl5
       have HX55 := Aside0.mk hx55
       clear hl5 hx55 hsm
       obtain ⟨s, hs, H⟩ := Option.bind_eq_some_iff.mp H
       have A18 := Aside0.mk hs
       clear hs
       obtain ⟨Ao25, co25, eo25⟩ := Kd.S_slice HO_5.out
       subst eo25
       obtain ⟨ad0_, A00_, c00_, e0_, hx0_, hrl0_, hrow0_⟩ := row0_at HO_5.out hx5
       cases e0_
       have hrl_ := Aside0.mk hrl0_
       have hrow_ := Aside0.mk hrow0_
       clear hrl0_ hrow0_
       have hx5b := eq_true hx5
       by_cases c19 : s > 0
       · rw [if_pos c19] at H
         have c19b0 : decide (0 < s) = true := decide_eq_true c19
         clear c19
         obtain ⟨p, hp, H⟩ := Option.bind_eq_some_iff.mp H
         obtain ⟨c, hcl, H⟩ := Option.bind_eq_some_iff.mp H
         obtain ⟨y, hy, H⟩ := Option.bind_eq_some_iff.mp H
         by_cases hb8 : x8_3.length < 1000000 ∧ x9_3.length < 1000000
         · rw [if_pos hb8] at H
           have H' := Aside0.mk H
           have HFP := Aside0.mk hp
           have HCL := Aside0.mk hcl
           have HY := Aside0.mk hy
           have HB8 := Aside0.mk hb8
           clear H hcl hy hb8 hp
           go_wp2_with (first | (go_at_call 20; (refine (impl_total.calls k3 _ _ (rd_L2 x5_3 0) s _ ?side1 ?side2 A18.out).mono ?_); (case side1 => repeat (first | exact hrow_.out | (with_reducible refine Kd.C_alloc ?_ _) | (with_reducible refine Kd.C_drewN ?_ _) | (with_reducible refine Kd.C_drew ?_))); (case side2 => exact hrl_.out); rintro e w' ⟨rfl, ⟨nd, rfl⟩⟩) | (go_at_call 21; (refine (firstPlacing_calls _ _ x5_3 _ ?side1 HL5.out HX55.out).mono ?_); (case side1 => repeat (first | exact (Kd.S_reads' HO_5.out).2.2 | (with_reducible refine Kd.C_alloc ?_ _) | (with_reducible refine Kd.C_drewN ?_ _) | (with_reducible refine Kd.C_drew ?_))); rintro e w20 ⟨⟨v44, rfl, hv⟩, hb⟩; have hRp_ := hv.2 p HFP.out; obtain ⟨Ap_, cp_, ep_⟩ := Kd.R_slice hRp_; subst ep_; have HPR := Aside0.mk (show Kd.R (Kd.int .i64) 3 w20 w.heap.size (fun k_ => b0 ≤ k_) (.slice Ap_ p.length cp_) p from Kd.R_lower (Kd.R_mono (Kd.R_bound hRp_) (fun k_ hk_ => by rw [hb0]; exact hk_.2.1)) (below_size (by repeat (first | (with_reducible first | exact HB.out | apply below_alloc | apply pw_below_drewN | apply below_drew1) | exact HB.out)))); have HP := Aside0.mk (show Kd.V (Kd.int .i64) 3 w20 w.heap.size (fun k_ => b0 ≤ k_) (.slice Ap_ p.length cp_) p from Kd.V_mono (Kd.R_V (Kd.R_bound hRp_)) (fun k_ hk_ => by rw [hb0]; exact hk_.2.1)); have HL8 := Aside0.mk (show ∀ k, (u8 : Value).ownBlock = some k → k < b0 from fun k h_ => by rw [hb0]; exact Kd.S_lt HO_8.out k h_); have HL9 := Aside0.mk (show ∀ k, (u9 : Value).ownBlock = some k → k < b0 from fun k h_ => by rw [hb0]; exact Kd.R_lt HO_9.out k h_); have HS20 := Aside0.mk (show b0 ≤ w20.heap.size by rw [hb0]; exact hb.size); have n0_ := Aside0.mk (Kd.S_below (by (with_reducible repeat (first | apply Kd.S_alloc | apply Kd.S_drewN | apply Kd.S_drew)); exact HO_5.out) hb); have n1_ := Aside0.mk (Kd.S_below (Kd.S_drewN (Kd.S_mono (ok' := fun k_ => (n1 ≤ k_ ∧ some k_ ≠ (u9 : Value).ownBlock) ∧ k_ < b0) (Kd.S_bound HO_8.out) (fun k_ hk_ => ⟨hk_.1, by rw [hb0]; exact hk_.2.2.1⟩)) _) hb); have n2_ := Aside0.mk (Kd.R_below (Kd.R_drewN HO_9.out _) hb); have n3_ := Aside0.mk (below_step (by repeat (first | (with_reducible first | exact HB.out | apply below_alloc | apply pw_below_drewN | apply below_drew1) | exact HB.out)) hb); have n4_ := Aside0.mk (Nat.le_trans HNW.out hb.size); clear HO_5 HO_8 HO_9 HB HNW hb hv hRp_ hx0_ hrow_; have HO_5 := n0_; have HO_8 := n1_; have HO_9 := n2_; have HB := n3_; have HNW := n4_; clear n0_ n1_ n2_ n3_ n4_))

           go_loopg [11, 41] p.length (fun kq v11 v41 w' => ∃ (i : Nat) (a : Int), v11 = .int .i64 a ∧ v41 = .int .i64 (i : Int) ∧ i + kq = p.length ∧ Aside0 (pLeast x5_3 p kq i a = some c) ∧ ∃ nd, w' = w20.drewN nd)
           case atStart => exact ⟨0, 1000000, rfl, by first | rfl | go_num, by omega, HCL, by first | exact ⟨_, rfl⟩ | exact ⟨0, rfl⟩ | exact ⟨1, rfl⟩⟩
           case round =>
            obtain ⟨i, a, rfl, rfl, hik, HL, nd2, rfl⟩ := hrel
            cases gk with
            | succ d =>
             have H := HL.out
             unfold pLeast at H
             by_cases hk : pOk x5_3 p i = true
             · rw [if_pos hk] at H
               have HL2 := Aside0.mk H
               clear H HL
               obtain ⟨ad0_, go0_, cc0_, e0_, ⟨hx0_, hy0_, hf0_⟩, _, _, _⟩ := ent_at (Kd.S_drewN HO_5.out nd2) hk
               cases e0_
               obtain ⟨adp_, ep_, hxp_⟩ := Kd.at_int (Kd.C_drewN (Kd.V_reads' HP.out).2.2 nd2) (i : Int) (Int.natCast_nonneg i) (by omega)
               cases ep_
               rw [Int.toNat_natCast] at hxp_
               obtain ⟨j1_, j2_, j3_⟩ := pOk_iff.1 hk
               have i1_ : ((i : Int) < (p.length : Int)) = True := eq_true (by omega)
               have i1b_ : (i < p.length) = True := eq_true (by omega)
               have i2_ : ((i : Int) < (x5_3.length : Int)) = True := eq_true (by omega)
               replace j1_ := eq_true j1_
               replace j2_ := eq_true j2_
               replace j3_ := eq_true j3_
               have hpl_ : p.length ≤ 9223372036854775807 := (Kd.V_reads' HP.out).2.2.2.1
               go_wp2
               all_goals (
                go_roundg d
                case measure => omega
                case rel => exact ⟨i + 1, min a (pEnt x5_3 p i), by first | rfl | (congr 1; omega) | omega, by first | rfl | (rw [wsucc (show i < p.length by omega) hpl_]; done) | rw [wsucc (show i < p.length by omega) hpl_], by omega, HL2, by first | exact ⟨_, rfl⟩ | exact ⟨0, rfl⟩ | exact ⟨1, rfl⟩⟩)
             · rw [if_neg hk] at H
               cases H
            | zero =>
             have H := HL.out
             unfold pLeast at H
             obtain rfl := Option.some.inj H
             clear H HL
             have i1_ : ((i : Int) < (p.length : Int)) = False := eq_false (by omega)
             have i1b_ : (i < p.length) = False := eq_false (by omega)
             go_wp2
             go_loopg [58] p.length (fun kq v58 w' => ∃ (i : Nat) (z : List (List Int)), v58 = .int .i64 (i : Int) ∧ i + kq = p.length ∧ Aside0 (pSub p a kq i z = some y) ∧ Aside0 (Kd.S (Kd.slice 3 (Kd.int .i64)) 26 w' w.heap.size (fun k_ => k_ < n1) (.slice (some ad0_) x5_3.length co25) z) ∧ Aside0 (KeptUp n1 w20 w') ∧ Aside0 (Below w.heap.size w w'))
             case atStart => exact ⟨0, x5_3, rfl, by omega, HY, ⟨by (with_reducible repeat (first | apply Kd.S_alloc | apply Kd.S_drewN | apply Kd.S_drew)); exact HO_5.out⟩, ⟨KeptUp.refl _ _⟩, ⟨by repeat (first | (with_reducible first | exact HB.out | apply below_alloc | apply pw_below_drewN | apply below_drew1) | exact HB.out)⟩⟩
             case round =>
              clear i1_ i1b_ hik HO_5 HB
              obtain ⟨i, z, rfl, hik, HZ, HO_5, HKU, HB⟩ := hrel
              cases gk with
              | succ d =>
               have H := HZ.out
               unfold pSub at H
               by_cases hk : pOk z p i = true
               · rw [if_pos hk] at H
                 have HZ2 := Aside0.mk H
                 clear H HZ
                 obtain ⟨ad1_, go1_, cc1_, e1_, ⟨hx1_, hy1_, hf1_⟩, hg1_, hn1_, hne1_⟩ := ent_at HO_5.out hk
                 cases e1_
                 obtain ⟨k1_, k2_⟩ := ent_put HO_5.out hk hx1_ (wrap64 (pEnt z p i - a))
                 obtain ⟨adp_, ep_, hxp_⟩ := Kd.at_int (Kd.V_reads' (Kd.V_step HP.out (fun k_ hk_ hl_ => HKU.out.2 k_ (Nat.le_trans HB0.out hk_) hl_))).2.2 (i : Int) (Int.natCast_nonneg i) (by omega)
                 cases ep_
                 rw [Int.toNat_natCast] at hxp_
                 obtain ⟨j1_, j2_, j3_⟩ := pOk_iff.1 hk
                 have i1_ : ((i : Int) < (p.length : Int)) = True := eq_true (by omega)
                 have i1b_ : (i < p.length) = True := eq_true (by omega)
                 have hzl_ : x5_3.length = z.length := (Kd.S_reads' HO_5.out).1
                 have i2_ : ((i : Int) < (x5_3.length : Int)) = True := eq_true (by omega)
                 have i2b_ : (i < x5_3.length) = True := eq_true (by omega)
                 clear hzl_
                 replace j1_ := eq_true j1_
                 replace j2_ := eq_true j2_
                 replace j3_ := eq_true j3_
                 have hpl_ : p.length ≤ 9223372036854775807 := (Kd.V_reads' HP.out).2.2.2.1
                 have HK1 := Aside0.mk k1_
                 have HK2 := Aside0.mk k2_
                 have HG1 := Aside0.mk hg1_
                 have HNN1 := Aside0.mk hn1_
                 clear k1_ k2_ hg1_ hn1_ hne1_
                 go_wp2
                 go_roundg d
                 case measure => omega
                 case rel => exact ⟨i + 1, _, by first | rfl | (rw [wsucc (show i < p.length by omega) hpl_]; done) | rw [wsucc (show i < p.length by omega) hpl_], by omega, HZ2, HK1, ⟨KeptUp.grown HKU.out HK2.out HNN1.out⟩, ⟨below_set HB.out HG1.out⟩⟩
               · rw [if_neg hk] at H
                 cases H
              | zero =>
               have H := HZ.out
               unfold pSub at H
               obtain rfl := Option.some.inj H
               clear H HZ
               have i1_ : ((i : Int) < (p.length : Int)) = False := eq_false (by omega)
               have i1b_ : (i < p.length) = False := eq_false (by omega)
               have hz1_ := Aside0.mk (Kd.S_step HO_8.out (fun k_ hk_ hl_ => HKU.out.2 k_ hk_.1.1 hl_))
               have hz2_ := Aside0.mk (Kd.R_step HO_9.out (fun k_ hk_ hl_ => HKU.out.2 k_ hk_ hl_))
               have hz3_ := Aside0.mk (Kd.V_step HP.out (fun k_ hk_ hl_ => HKU.out.2 k_ (Nat.le_trans HB0.out hk_) hl_))
               have hz4_ := Aside0.mk (Nat.le_trans HS20.out HKU.out.1)
               have hz5_ := Aside0.mk (Kd.R_step HPR.out (fun k_ hk_ hl_ => HKU.out.2 k_ (Nat.le_trans HB0.out hk_) hl_))
               clear HO_8 HO_9 HP HPR HKU
               have HO_8 := hz1_
               have HO_9 := hz2_
               have HP := hz3_
               have HPR := hz5_
               clear hz1_ hz2_ hz3_ hz5_
               go_wp2_with (first | ((with_reducible refine gate_dst (N := 77) rfl ?_); refine Kd.S_append (Kd.slice 3 (Kd.int .i64)) (w0 := w) w.heap.size rfl (.tmp 74) (.tmp 76) 24 26 (.slice none 0 0) 24 rfl Try.underlying24 info26 rfl (by decide) (by omega) u8 x8_3 p [.slice Ap_ p.length cp_] (fun k_ => n1 ≤ k_ ∧ some k_ ≠ (u9 : Value).ownBlock) (fun k_ => b0 ≤ k_) rfl rfl ?aP ?aK ?aF ?aO ?aB ?aS ?aL ?_; (case aP => exact Kd.M_row (by (with_reducible repeat (first | apply Kd.R_alloc | apply Kd.R_drewN | apply Kd.R_drew)); exact HPR.out)); (case aK => exact (fun k_ hk_ => ⟨⟨Nat.le_trans HB0.out hk_, fun e_ => Nat.lt_irrefl _ (Nat.lt_of_lt_of_le (HL9.out k_ e_.symm) hk_)⟩, fun e_ => Nat.lt_irrefl _ (Nat.lt_of_lt_of_le (HL8.out k_ e_.symm) hk_)⟩)); (case aF => exact (fun k_ hk_ => ⟨Nat.le_trans HB0.out (Nat.le_trans hz4_.out hk_), fun e_ => Nat.lt_irrefl _ (Nat.lt_of_lt_of_le (HL9.out k_ e_.symm) (Nat.le_trans hz4_.out hk_))⟩)); (case aO => refine Kd.S_mono (ok := fun k_ => (n1 ≤ k_ ∧ some k_ ≠ (u9 : Value).ownBlock) ∧ k_ < b0) ?_ (fun k_ hk_ => ⟨hk_.1, Nat.not_le_of_lt hk_.2⟩); (with_reducible repeat (first | apply Kd.S_alloc | apply Kd.S_drewN | apply Kd.S_drew)); exact HO_8.out); (case aB => exact (by repeat (first | (with_reducible first | exact HB.out | apply below_alloc | apply pw_below_drewN | apply below_drew1) | exact HB.out))); (case aS => exact HB.out.size); (case aL => have := HB8.out; omega); intro v95 w95 ho hb hg hat; have n0_ := Aside0.mk (Kd.S_grown (by (with_reducible repeat (first | apply Kd.S_alloc | apply Kd.S_drewN | apply Kd.S_drew)); exact HO_5.out) hg (fun k_ hk_ e_ => Nat.lt_irrefl _ (Nat.lt_of_lt_of_le hk_ ((Kd.S_R HO_8.out).1 k_ e_.symm).1.1))); have n1_ := Aside0.mk (Kd.R_mono (ok' := fun k_ => n1 ≤ k_) (Kd.R_grown (Kd.R_tight rfl (by (with_reducible repeat (first | apply Kd.R_alloc | apply Kd.R_drewN | apply Kd.R_drew)); exact HO_9.out)) hg (fun k_ hk_ e_ => ((Kd.S_R HO_8.out).1 k_ e_.symm).1.2 hk_)) (fun k_ hk_ => HO_9.out.1 k_ hk_.symm)); have n2_ := Aside0.mk ho; have n3_ := Aside0.mk hb; have n4_ := Aside0.mk (Nat.le_trans hz4_.out hg.size); clear HO_5 HO_9 HO_8 HB hz4_ ho hb hg hat; have HO_5 := n0_; have HO_9 := n1_; have HO_8 := n2_; have HB := n3_; have hz4_ := n4_; clear n0_ n1_ n2_ n3_ n4_) | ((with_reducible refine gate_dst (N := 81) rfl ?_); refine Kd.R_append (Kd.int .i64) (w0 := w) w.heap.size rfl (.tmp 78) (.tmp 80) 26 3 (.int .i64 0) 8 rfl Try.underlying26 info3 rfl (by decide) (by omega) u9 x9_3 a [.int .i64 a] (fun k_ => n1 ≤ k_) (fun _ => False) rfl rfl ?aP (fun _ hk => hk.elim) ?aF ?aO ?aB ?aS ?aL ?_; (case aP => exact rfl); (case aF => exact (fun k_ hk_ => Nat.le_trans HB0.out (Nat.le_trans hz4_.out hk_))); (case aO => exact (by (with_reducible repeat (first | apply Kd.R_alloc | apply Kd.R_drewN | apply Kd.R_drew)); exact HO_9.out)); (case aB => exact (by repeat (first | (with_reducible first | exact HB.out | apply below_alloc | apply pw_below_drewN | apply below_drew1) | exact HB.out))); (case aS => exact HB.out.size); (case aL => have := HB8.out; omega); intro v97 w97 ho hb hg hat; have n0_ := Aside0.mk (Kd.S_grown (by (with_reducible repeat (first | apply Kd.S_alloc | apply Kd.S_drewN | apply Kd.S_drew)); exact HO_5.out) hg (fun k_ hk_ e_ => Nat.lt_irrefl _ (Nat.lt_of_lt_of_le hk_ (HO_9.out.1 k_ e_.symm)))); have n1_ := Aside0.mk (Kd.S_after (by (with_reducible repeat (first | apply Kd.S_alloc | apply Kd.S_drewN | apply Kd.S_drew)); exact HO_8.out) hg hat); have n2_ := Aside0.mk ho; have n3_ := Aside0.mk hb; have n4_ := Aside0.mk (Nat.le_trans hz4_.out hg.size); clear HO_5 HO_9 HO_8 HB hz4_ ho hb hg hat; have HO_5 := n0_; have HO_8 := n1_; have HO_9 := n2_; have HB := n3_; have hz4_ := n4_; clear n0_ n1_ n2_ n3_ n4_))
               go_roundg k3
               case measure => omega
               case rel => exact ⟨_, x8_3 ++ [p], x9_3 ++ [a], H', ⟨by have := HK3.out; omega⟩, HO_5, HO_8, HO_9, HB, ⟨Nat.le_trans HB0.out hz4_.out⟩⟩
         · rw [if_neg hb8] at H
           cases H
       · rw [if_neg c19] at H
         have c19b0 : decide (0 < s) = false := decide_eq_false c19
         clear c19
         simp only [Option.some.injEq, Prod.mk.injEq] at H
         obtain ⟨rfl, rfl, rfl⟩ := H
         go_wp2_with (go_at_call 20; (refine (impl_total.calls k3 _ _ (rd_L2 x5_3 0) s _ ?side1 ?side2 A18.out).mono ?_); (case side1 => repeat (first | exact hrow_.out | (with_reducible refine Kd.C_alloc ?_ _) | (with_reducible refine Kd.C_drewN ?_ _) | (with_reducible refine Kd.C_drew ?_))); (case side2 => exact hrl_.out); rintro e w' ⟨rfl, ⟨nd, rfl⟩⟩)
         go_ret3
         exact ⟨_, _, rfl, Kd.S_mono (Kd.S_drewN HO_8.out _) (fun k hk => ⟨Nat.le_trans HBN.out hk.1, hk.2⟩), Kd.R_mono (Kd.R_drewN HO_9.out _) (fun _ _ => trivial), (by repeat (first | (with_reducible first | exact HB.out | apply below_alloc | apply pw_below_drewN | apply below_drew1) | exact HB.out))⟩
     · rw [if_neg hg] at H
       cases H
theorem impl_PartsOf.calls (k : Nat) (A0 : Option Addr) (c0 : Nat) (l0 : List (List Int)) (r1 : List (List Int)) (r2 : List Int) (r3 : Bool) (w : World) (hr0 : Kd.C (Kd.slice 3 (Kd.int .i64)) w A0 l0.length l0) (hc0 : l0.length ≤ c0) (h : impl_PartsOf.f k l0 = some (r1, r2, r3)) :
 Calls Try.prog 6 #[.slice A0 l0.length c0] w fun e w' => ∃ v0_ v1_ : Value, e = .returned (.tuple #[v0_, v1_, .bool r3]) ∧ Kd.N (Kd.slice 3 (Kd.int .i64)) 26 w' w.heap.size (fun k_ => w.heap.size ≤ k_ ∧ some k_ ≠ (v1_ : Value).ownBlock) v0_ r1 ∧ Kd.R (Kd.int .i64) 3 w' w.heap.size (fun _ => True) v1_ r2 ∧ Below w.heap.size w w' := by
 refine (impl_PartsOf.callsS k A0 c0 l0 r1 r2 r3 w hr0 hc0 h).mono ?_
 rintro e w' ⟨v0, v1, he, h0, h1, hb⟩
 exact ⟨v0, v1, he, Kd.S_N h0, h1, hb⟩
end Go.Proofs.Ytgcgecbdmomceaa.A

-- made by a program of this repo (wip/pp.py) through the kit's printer
namespace Go.Proofs.Ytgcgecbdmomceaa.A
open Go.RowKit Go.Proofs.YtgcgecbdmomceaaW.PrintWords Go.Proofs.YtgcgecbdmomceaaW.PrintLast Go.Proofs.YtgcgecbdmomceaaW.PrintMore
attribute [local go_sem] max2_int min2_int max_two min_two max_three min_three max_four min_four
set_option linter.unusedVariables false
set_option linter.unusedSimpArgs false

/-! ### spec_l1Own: function 25 -/
def spec_l1Own.f (l0 : List Int) : Option (List Int) := (some (([] : List Int) : List Int)).bind fun y219 => (if y219.length + l0.length < 17592186044416 then (some (y219 ++ l0)) else (none))
set_option maxHeartbeats 8000000 in
set_option maxRecDepth 100000 in
theorem spec_l1Own.calls (A0 : Option Addr) (c0 : Nat) (l0 : List Int) (r : List Int) (w : World) (hr0 : Kd.C (Kd.int .i64) w A0 l0.length l0) (hc0 : l0.length ≤ c0) (h : spec_l1Own.f l0 = some r) :
 Calls Try.prog 25 #[.slice A0 l0.length c0] w fun e w' => ∃ v0_ : Value, e = .returned (v0_) ∧ Kd.R (Kd.int .i64) 3 w' w.heap.size (fun _ => True) v0_ r ∧ Below w.heap.size w w' := by
 have HR0 := Aside0.mk hr0
 have HC0 := Aside0.mk hc0
 clear hr0 hc0
 have HB := Aside0.mk (Below.refl w.heap.size w)
 have H : ((some (([] : List Int) : List Int)).bind fun y219 => (if y219.length + l0.length < 17592186044416 then (some (y219 ++ l0)) else (none))) = some r := h
 clear h
 obtain ⟨y219, hy219⟩ : ∃ y_ : List Int, y_ = (([] : List Int)) := ⟨_, rfl⟩
 replace H : (if y219.length + l0.length < 17592186044416 then (some (y219 ++ l0)) else (none)) = some r := by first | (rw [hy219]; with_reducible exact H) | (have H2_ := (Option.bind_some _ _).symm.trans H; rw [hy219]; with_reducible exact H2_) | (have H2_ := (Option.bind_some _ _).symm.trans H; with_reducible exact H2_) | with_reducible exact H | (rw [hy219]; exact H) | exact H
 have Ny219 := Aside0.mk hy219
 clear hy219
 by_cases c2 : y219.length + l0.length < 17592186044416
 · rw [if_pos c2] at H
   have LMc2 := Aside0.mk c2
   clear c2
   obtain ⟨y222, hy222⟩ : ∃ y_ : List Int, y_ = (y219 ++ l0) := ⟨_, rfl⟩
   replace H : (some y222) = some r := by first | (rw [hy222]; with_reducible exact H) | (have H2_ := (Option.bind_some _ _).symm.trans H; rw [hy222]; with_reducible exact H2_) | (have H2_ := (Option.bind_some _ _).symm.trans H; with_reducible exact H2_) | with_reducible exact H | (rw [hy222]; exact H) | exact H
   have Ny222 := Aside0.mk hy222
   clear hy222
   obtain rfl := Option.some.inj H
   go_enter Try.func25, Try.ntmps25
   go_wp2_with (first | ((with_reducible refine gate_dst (N := 3) rfl ?_); refine Kd.R_lit (Kd.int .i64) _ 3 ?hg (N := 3) ?hd (xs := ([] : List Int)) (inner := []) (ok := fun _ => True) (okp := fun _ => True) ?hr ?hp (fun _ hk => hk) trivial (Below.refl _ _) (Nat.le_refl _) (by simp) ?_; (case hd => rfl); (case hg => rfl); (case hr => first | (go_simp; done) | (go_simp; rfl)); (case hp => exact (Reps.none _ _)); intro v220 w3 ho4 hb hg_ hnew_; clear hg_ hnew_; (first | rw [← Ny219.out] at ho4 | (simp only [Int.reduceToNat] at ho4; rw [← Ny219.out] at ho4)); have n0_ := Aside0.mk (Kd.R_lower ho4 (below_size (by repeat (first | (with_reducible first | exact HB.out | apply below_alloc | apply pw_below_drewN | apply below_drew1) | exact HB.out)))); have n1_ := Aside0.mk (below_step (by repeat (first | (with_reducible first | exact HB.out | apply below_alloc | apply pw_below_drewN | apply below_drew1) | exact HB.out)) hb); clear HB; have HO221 := n0_; have HB := n1_; clear n0_ n1_; clear hb ho4) | ((with_reducible refine gate_builtin (b := .append) (xs := #[.tmp 3, .tmp 4]) rfl ?_); at_builtin; refine Kd.R_append_rows (Kd.int .i64) (w0 := w) w.heap.size rfl (.tmp 3) (.tmp 4) 26 3 (.int .i64 0) 8 rfl Try.underlying26 info3 rfl (by decide) (by omega) v220 y219 l0 _ _ _ (fun _ => True) (fun _ => False) rfl rfl ?aO ?aR (fun _ _ h => h) (fun _ h => h.elim) ?aF ?aB ?aS ?aL ?_; (case aR => repeat (first | exact (Kd.C_below HR0.out HB.out) | (with_reducible refine Kd.C_alloc ?_ _) | (with_reducible refine Kd.C_drewN ?_ _) | (with_reducible refine Kd.C_drew ?_))); (case aB => exact (by repeat (first | (with_reducible first | exact HB.out | apply below_alloc | apply pw_below_drewN | apply below_drew1) | exact HB.out))); (case aF => exact (fun _ _ => trivial)); (case aO => exact (by (with_reducible repeat (first | apply Kd.R_alloc | apply Kd.R_drewN | apply Kd.R_drew)); exact HO221.out)); (case aS => exact (below_size (by repeat (first | (with_reducible first | exact HB.out | apply below_alloc | apply pw_below_drewN | apply below_drew1) | exact HB.out)))); (case aL => have := LMc2.out; omega); intro v223 w5 ho hb hg hat; rw [← Ny222.out] at ho; have n0_ := Aside0.mk (hb); have n1_ := Aside0.mk (ho); clear HB; clear HO221; have HB := n0_; have HO224 := n1_; clear n0_ n1_; clear ho hb hg hat))
   go_ret
   exact ⟨_, by first | rfl | (simp [errW_none, errW_some] <;> rfl) | (simp [*, errW_none, errW_some] <;> rfl), by (with_reducible repeat (first | apply Kd.R_alloc | apply Kd.R_drewN | apply Kd.R_drew)); exact HO224.out, by repeat (first | (with_reducible first | exact HB.out | apply below_alloc | apply pw_below_drewN | apply below_drew1) | exact HB.out)⟩
 · rw [if_neg c2] at H
   exact absurd H (by simp)

end Go.Proofs.Ytgcgecbdmomceaa.A

-- made by a program of this repo (wip/pp.py) through the kit's printer
namespace Go.Proofs.Ytgcgecbdmomceaa.A
open Go.RowKit Go.Proofs.YtgcgecbdmomceaaW.PrintWords Go.Proofs.YtgcgecbdmomceaaW.PrintLast Go.Proofs.YtgcgecbdmomceaaW.PrintMore
attribute [local go_sem] max2_int min2_int max_two min_two max_three min_three max_four min_four
set_option linter.unusedVariables false
set_option linter.unusedSimpArgs false

/-! ### spec_doPlacings: function 26 -/
mutual
def spec_doPlacings.l0 : Nat → List (List Int) → List Int → Int → List (List Int) → List Int → Int → Int → Option ((List (List Int)))
 | 0, _, _, _, _, _, _, _ => none
 | k + 1, x0, x1, x2, x7, x22, x23, x24 => if x24 < x23 then (if 0 ≤ x24 then (if x24 < (x22.length : Int) then (if (rd x22 x24) > 0 then ((spec_l1Has.f k x1 x24).bind fun t233 => (if t233 = true then (spec_doPlacings.j1 k x0 x1 x2 x7 x24 x22 x23 x24 false) else (spec_doPlacings.j1 k x0 x1 x2 x7 x24 x22 x23 x24 (decide ((x7.length : Int) < x2))))) else (spec_doPlacings.j1 k x0 x1 x2 x7 x24 x22 x23 x24 false)) else (none)) else (none)) else (some x7)
def spec_doPlacings.j1 : Nat → List (List Int) → List Int → Int → List (List Int) → Int → List Int → Int → Int → Bool → Option ((List (List Int)))
 | 0, _, _, _, _, _, _, _, _, _ => none
 | k + 1, x0, x1, x2, x7, x8, x22, x23, x24, x42 => if x42 = true then ((spec_l1Own.f x1).bind fun t234 => (if t234.length < 17592186044416 then ((spec_doPlacings.f k x0 (t234 ++ [x8]) (wrap64 (x2 - (x7.length : Int)))).bind fun t240 => (if x7.length + t240.length < 5864062014805 then (spec_doPlacings.l0 k x0 x1 x2 (x7 ++ t240) x22 x23 (wrap64 (x24 + 1))) else (none))) else (none))) else (spec_doPlacings.l0 k x0 x1 x2 x7 x22 x23 (wrap64 (x24 + 1)))
def spec_doPlacings.f : Nat → List (List Int) → List Int → Int → Option ((List (List Int)))
 | 0, _, _, _ => none
 | k + 1, l0, l1, a2 => if (l1.length : Int) = (l0.length : Int) then ((spec_l1Own.f l1).bind fun t225 => (some (([t225] : List (List Int))))) else (if 0 ≤ (l1.length : Int) then (if (l1.length : Int) < (l0.length : Int) then (spec_doPlacings.l0 k l0 l1 a2 ([] : List (List Int)) (rd_L2 l0 (l1.length : Int)) ((rd_L2 l0 (l1.length : Int)).length : Int) 0) else (none)) else (none))
end
set_option maxHeartbeats 8000000 in
set_option maxRecDepth 100000 in
theorem spec_doPlacings.calls (k : Nat) : ∀ (A0 : Option Addr) (c0 : Nat) (l0 : List (List Int)) (A1 : Option Addr) (c1 : Nat) (l1 : List Int) (a2 : Int) (r : List (List Int)) (w : World) (hr0 : Kd.C (Kd.slice 3 (Kd.int .i64)) w A0 l0.length l0) (hc0 : l0.length ≤ c0) (hr1 : Kd.C (Kd.int .i64) w A1 l1.length l1) (hc1 : l1.length ≤ c1) (h : spec_doPlacings.f k l0 l1 a2 = some r),
 Calls Try.prog 26 #[.slice A0 l0.length c0, .slice A1 l1.length c1, .int .i64 a2] w fun e w' => ∃ v0_ : Value, e = .returned (v0_) ∧ Kd.N (Kd.slice 3 (Kd.int .i64)) 26 w' w.heap.size (fun k_ => (w.heap.size ≤ k_)) v0_ r ∧ Below w.heap.size w w' := by
 induction k using Nat.strongRecOn with
 | _ k ih =>
 intro A0 c0 l0 A1 c1 l1 a2 r w hr0 hc0 hr1 hc1 h
 cases k with
 | zero => exact absurd h (by simp [spec_doPlacings.f])
 | succ k =>
 simp only [spec_doPlacings.f] at h
 have HR0 := Aside0.mk hr0
 have HC0 := Aside0.mk hc0
 clear hr0 hc0
 have HR1 := Aside0.mk hr1
 have HC1 := Aside0.mk hc1
 clear hr1 hc1
 have HB := Aside0.mk (Below.refl w.heap.size w)
 have H : (if (l1.length : Int) = (l0.length : Int) then ((spec_l1Own.f l1).bind fun t225 => (some (([t225] : List (List Int))))) else (if 0 ≤ (l1.length : Int) then (if (l1.length : Int) < (l0.length : Int) then (spec_doPlacings.l0 k l0 l1 a2 ([] : List (List Int)) (rd_L2 l0 (l1.length : Int)) ((rd_L2 l0 (l1.length : Int)).length : Int) 0) else (none)) else (none))) = some r := h
 clear h
 by_cases c4 : (l1.length : Int) = (l0.length : Int)
 · rw [if_pos c4] at H
   have c4b0 : ((l1.length : Int) == (l0.length : Int)) = true := beq_iff_eq.mpr c4
   have c4b1 : ((l1.length : Int) != (l0.length : Int)) = false := bne_eq_false_iff_eq.mpr c4
   have c4b2 : (l1.length == l0.length) = true := by first | simpa using c4 | (simp at c4 ⊢; omega)
   clear c4
   replace H := Option.bind_eq_some_iff.mp H
   obtain ⟨t225, A50, H⟩ := H
   replace H : (some (([t225] : List (List Int)))) = some r := H
   have A5 := Aside0.mk A50
   clear A50
   obtain ⟨y228, hy228⟩ : ∃ y_ : List (List Int), y_ = (([t225] : List (List Int))) := ⟨_, rfl⟩
   replace H : (some y228) = some r := by first | (rw [hy228]; with_reducible exact H) | (have H2_ := (Option.bind_some _ _).symm.trans H; rw [hy228]; with_reducible exact H2_) | (have H2_ := (Option.bind_some _ _).symm.trans H; with_reducible exact H2_) | with_reducible exact H | (rw [hy228]; exact H) | exact H
   have Ny228 := Aside0.mk hy228
   clear hy228
   obtain rfl := Option.some.inj H
   go_enter Try.func26, Try.ntmps26
   go_wp2_with (first | ((with_reducible refine gate_callee (f := 25) rfl ?_); refine goesL_ (some 16) rfl rfl Try.func25 (by kernel_rfl) rfl #[.slice A1 l1.length c1] rfl (by (try simp only [List.map_toArray, List.map_cons, List.map_nil]); first | done | rfl | (simp only [List.length_drop, List.length_take]; rfl)) ?_; (with_reducible refine (spec_l1Own.calls _ _ l1 t225 _ ?side1 ?side2 A5.out).mono ?_); (case side1 => repeat (first | exact HR1.out | (with_reducible refine Kd.C_alloc ?_ _) | (with_reducible refine Kd.C_drewN ?_ _) | (with_reducible refine Kd.C_drew ?_))); (case side2 => exact HC1.out); rintro e w6 ⟨v226, rfl, ho0, hb⟩; refine ⟨_, rfl, ?_⟩; have n0_ := Aside0.mk (Kd.R_lower (Kd.R_newM (M := fun k_ => (w.heap.size ≤ k_)) ho0 (below_size (by repeat (first | (with_reducible first | exact HB.out | apply below_alloc | apply pw_below_drewN | apply below_drew1) | exact HB.out))) (fun k_ h_ => h_)) (below_size (by repeat (first | (with_reducible first | exact HB.out | apply below_alloc | apply pw_below_drewN | apply below_drew1) | exact HB.out)))); have n1_ := Aside0.mk (below_step (by repeat (first | (with_reducible first | exact HB.out | apply below_alloc | apply pw_below_drewN | apply below_drew1) | exact HB.out)) hb); clear HB; have HO227 := n0_; have HB := n1_; clear n0_ n1_; (try clear hb); (try clear hb2); (try clear hk); (try clear hi); (try clear ho0); obtain ⟨Ao7, co7, eo7⟩ := Kd.R_slice HO227.out; subst eo7) | ((with_reducible refine gate_dst (N := 17) rfl ?_); (try (refine gate_guard (by rfl) ?_; dsimp only)); refine Kd.N_lit (Kd.slice 3 (Kd.int .i64)) _ 26 ?hg (N' := 17) ?hd (xs := ([t225] : List (List Int))) (inner := [.slice Ao7 t225.length co7]) (ok := (fun k_ => (w.heap.size ≤ k_))) (okp := (fun k_ => (w.heap.size ≤ k_))) ?hr ?hp (fun _ hk => hk) ((show ∀ k_, w6.heap.size ≤ k_ → (fun k_ => (w.heap.size ≤ k_)) k_ from fun k_ hk => (Nat.le_trans (below_size (by repeat (first | (with_reducible first | exact HB.out | apply below_alloc | apply pw_below_drewN | apply below_drew1) | exact HB.out))) hk)) _ (Nat.le_refl _)) (Below.refl _ _) (Nat.le_refl _) (by simp) ?_; (case hd => rfl); (case hg => rfl); (case hr => first | (go_simp; done) | (go_simp; rfl)); (case hp => exact (Reps.one (show Kd.FK (Kd.slice 3 (Kd.int .i64)) _ _ t225 [.slice Ao7 t225.length co7] from (Kd.FK_slice_mk (Kd.R_reads' (Kd.R_mono (ok' := (fun k_ => (w.heap.size ≤ k_))) (HO227.out) (fun k_ hk => hk.1))).2.1 (Kd.R_F (Kd.R_mono (ok' := (fun k_ => (w.heap.size ≤ k_))) (HO227.out) (fun k_ hk => hk.1))))) (Reps.none _ _))); intro v229 w8 ho9 hb hg_ hnew_; clear hg_ hnew_; (first | rw [← Ny228.out] at ho9 | (simp only [Int.reduceToNat] at ho9; rw [← Ny228.out] at ho9)); have n0_ := Aside0.mk (Kd.N_lower ho9 (below_size (by repeat (first | (with_reducible first | exact HB.out | apply below_alloc | apply pw_below_drewN | apply below_drew1) | exact HB.out)))); have n1_ := Aside0.mk (below_step (by repeat (first | (with_reducible first | exact HB.out | apply below_alloc | apply pw_below_drewN | apply below_drew1) | exact HB.out)) hb); clear HB; clear HO227; have HO230 := n0_; have HB := n1_; clear n0_ n1_; clear hb ho9))
   go_ret
   exact ⟨_, by first | rfl | (simp [errW_none, errW_some] <;> rfl) | (simp [*, errW_none, errW_some] <;> rfl), by (with_reducible repeat (first | apply Kd.N_alloc | apply Kd.N_drewN | apply Kd.N_drew)); exact HO230.out, by repeat (first | (with_reducible first | exact HB.out | apply below_alloc | apply pw_below_drewN | apply below_drew1) | exact HB.out)⟩
 · rw [if_neg c4] at H
   have c4b0 : ((l1.length : Int) == (l0.length : Int)) = false := beq_eq_false_iff_ne.mpr c4
   have c4b1 : ((l1.length : Int) != (l0.length : Int)) = true := bne_iff_ne.mpr c4
   have c4b2 : (l1.length == l0.length) = false := by first | simpa using c4 | (simp at c4 ⊢; omega)
   by_cases c10 : 0 ≤ (l1.length : Int)
   · rw [if_pos c10] at H
     have c10b0 : decide (0 ≤ (l1.length : Int)) = true := decide_eq_true c10
     have c10b1 : decide (0 ≤ l1.length) = true := decide_eq_true (by omega)
     clear c10
     by_cases c11 : (l1.length : Int) < (l0.length : Int)
     · rw [if_pos c11] at H
       have c11b0 : decide ((l1.length : Int) < (l0.length : Int)) = true := decide_eq_true c11
       have c11b1 : decide (l1.length < l0.length) = true := decide_eq_true (Int.ofNat_lt.mp c11)
       clear c11
       have H' := Aside0.mk H
       clear H
       have p231 : 0 ≤ ((l1.length : Int) : Int) := of_decide_eq_true (by first | (with_reducible assumption) | assumption)
       have q231 : (l1.length : Int) < (l0.length : Int) := of_decide_eq_true (by first | (with_reducible assumption) | assumption)
       obtain ⟨ad231, A231_0, c231_0, e231, hx231_0, hl231_0, hi231_0⟩ := at_L2 HR0.out (l1.length : Int) p231 q231
       cases e231
       have HR231_0 := Aside0.mk hi231_0
       have HC231_0 := Aside0.mk hl231_0
       clear hi231_0 hl231_0
       (try simp only [Go.IntWalk.toNatUp] at hx231_0)
       replace p231 := eq_true p231
       replace q231 := eq_true q231
       go_enter Try.func26, Try.ntmps26
       go_wp2
       go_loopg [7, 24] k (fun kq v7 v24 w' => ∃ (x7_1 : List (List Int)) (x24_1 : Int), v24 = .int .i64 x24_1 ∧ Aside0 (spec_doPlacings.l0 kq l0 l1 a2 x7_1 (rd_L2 l0 (l1.length : Int)) ((rd_L2 l0 (l1.length : Int)).length : Int) x24_1 = some r) ∧ Aside0 (kq ≤ k) ∧ Aside0 (Kd.N (Kd.slice 3 (Kd.int .i64)) 26 w' w.heap.size (fun k_ => (w.heap.size ≤ k_)) v7 x7_1) ∧ Aside0 (Below w.heap.size w w'))
       case atStart => exact ⟨(([] : List (List Int))), (0), (by first | rfl | (simp; done) | (simp [*]; done)), H', ⟨Nat.le_refl _⟩, ⟨by first | exact Kd.S_nil _ _ _ _ _ | exact Kd.N_nil _ _ _ _ _ | exact Kd.V_nil _ _ _ _ _ | exact Kd.Q_nil _ _ _ _ _ | exact Kd.R_nil _ _ _ _ _⟩, ⟨by repeat (first | (with_reducible first | exact HB.out | apply below_alloc | apply pw_below_drewN | apply below_drew1) | exact HB.out)⟩⟩
       case round =>
        clear H'
        try clear c1
        try clear c2
        try clear p2
        try clear q2
        try clear hx2
        try clear c4
        try clear c4b0
        try clear c4b1
        try clear c4b2
        try clear c10
        try clear c10b0
        try clear c10b1
        try clear c11
        try clear c11b0
        try clear c11b1
        try clear hx231_0
        try clear p231
        try clear q231
        obtain ⟨x7_1, x24_1, rfl, HA, HK1, HO_7, HB⟩ := hrel
        cases gk with
        | zero => exact absurd HA.out (by simp [spec_doPlacings.l0])
        | succ k1 =>
         have H := HA.out
         clear HA
         simp only [spec_doPlacings.l0] at H
         by_cases c12 : x24_1 < ((rd_L2 l0 (l1.length : Int)).length : Int)
         · rw [if_pos c12] at H
           have c12b0 : decide (x24_1 < ((rd_L2 l0 (l1.length : Int)).length : Int)) = true := decide_eq_true c12
           clear c12
           by_cases c13 : 0 ≤ x24_1
           · rw [if_pos c13] at H
             have c13b0 : decide (0 ≤ x24_1) = true := decide_eq_true c13
             clear c13
             by_cases c14 : x24_1 < ((rd_L2 l0 (l1.length : Int)).length : Int)
             · rw [if_pos c14] at H
               have c14b0 : decide (x24_1 < ((rd_L2 l0 (l1.length : Int)).length : Int)) = true := decide_eq_true c14
               clear c14
               have HC15 := Aside0.mk H
               clear H
               have p232 : 0 ≤ (x24_1 : Int) := of_decide_eq_true (by first | (with_reducible assumption) | assumption)
               have q232 : x24_1 < ((rd_L2 l0 (l1.length : Int)).length : Int) := of_decide_eq_true (by first | (with_reducible assumption) | assumption)
               obtain ⟨ad232, e232, hx232_0⟩ := Kd.at_int HR231_0.out x24_1 p232 q232
               cases e232
               replace hx232_0 := (HB.out.cell (World.block_lt_of_cell? w _ hx232_0)).trans hx232_0
               replace p232 := eq_true p232
               replace q232 := eq_true q232
               go_upto_region 7 with (fail)
               go_cut [42] (fun v42 wc => ∃ (kq : Nat) (x42_14 : Bool), v42 = .bool x42_14 ∧ Aside0 (spec_doPlacings.j1 kq l0 l1 a2 x7_1 x24_1 (rd_L2 l0 (l1.length : Int)) ((rd_L2 l0 (l1.length : Int)).length : Int) x24_1 x42_14 = some r) ∧ Aside0 (kq ≤ k1) ∧ Aside0 (Kd.N (Kd.slice 3 (Kd.int .i64)) 26 wc w.heap.size (fun k_ => (w.heap.size ≤ k_)) u7 x7_1) ∧ Aside0 (Below w.heap.size w wc))
               case first =>
                have H := HC15.out
                clear HC15
                by_cases c16 : (rd (rd_L2 l0 (l1.length : Int)) x24_1) > 0
                · rw [if_pos c16] at H
                  have c16b0 : decide (0 < (rd (rd_L2 l0 (l1.length : Int)) x24_1)) = true := decide_eq_true c16
                  clear c16
                  (first | rw [c16b0] | (simp only [i64_w, i32_w]; rw [c16b0]) | skip)
                  replace H := Option.bind_eq_some_iff.mp H
                  obtain ⟨t233, A170, H⟩ := H
                  replace H : (if t233 = true then (spec_doPlacings.j1 k1 l0 l1 a2 x7_1 x24_1 (rd_L2 l0 (l1.length : Int)) ((rd_L2 l0 (l1.length : Int)).length : Int) x24_1 false) else (spec_doPlacings.j1 k1 l0 l1 a2 x7_1 x24_1 (rd_L2 l0 (l1.length : Int)) ((rd_L2 l0 (l1.length : Int)).length : Int) x24_1 (decide ((x7_1.length : Int) < a2)))) = some r := H
                  have A17 := Aside0.mk A170
                  clear A170
                  by_cases c18 : t233 = true
                  · subst c18
                    have H1 : (spec_doPlacings.j1 k1 l0 l1 a2 x7_1 x24_1 (rd_L2 l0 (l1.length : Int)) ((rd_L2 l0 (l1.length : Int)).length : Int) x24_1 false) = some r := by rw [if_pos rfl] at H; exact H
                    clear H
                    have H := H1
                    clear H1
                    have H' := Aside0.mk H
                    clear H
                    go_wp2_with (first | (go_at_call 48; (with_reducible refine (spec_l1Has.calls k1 _ _ l1 x24_1 true _ ?side1 ?side2 A17.out).mono ?_); (case side1 => repeat (first | exact (Kd.C_below HR1.out HB.out) | (with_reducible refine Kd.C_alloc ?_ _) | (with_reducible refine Kd.C_drewN ?_ _) | (with_reducible refine Kd.C_drew ?_))); (case side2 => exact HC1.out); rintro e w' ⟨rfl, ⟨nd, rfl⟩⟩))
                    go_meet
                    case rel => exact ⟨_, (false), (by first | rfl | (simp; done) | (simp [*]; done)), H', ⟨by have := HK1.out; first | omega | exact Nat.le_refl _⟩, ⟨by (with_reducible repeat (first | apply Kd.N_alloc | apply Kd.N_drewN | apply Kd.N_drew)); exact HO_7.out⟩, ⟨by repeat (first | (with_reducible first | exact HB.out | apply below_alloc | apply pw_below_drewN | apply below_drew1) | exact HB.out)⟩⟩
                  · replace c18 := Bool.eq_false_iff.mpr c18
                    subst c18
                    have H1 : (spec_doPlacings.j1 k1 l0 l1 a2 x7_1 x24_1 (rd_L2 l0 (l1.length : Int)) ((rd_L2 l0 (l1.length : Int)).length : Int) x24_1 (decide ((x7_1.length : Int) < a2))) = some r := by rw [if_neg (show ¬ (false = true) by decide)] at H; exact H
                    clear H
                    have H := H1
                    clear H1
                    have H' := Aside0.mk H
                    clear H
                    go_wp2_with (first | (go_at_call 48; (with_reducible refine (spec_l1Has.calls k1 _ _ l1 x24_1 false _ ?side1 ?side2 A17.out).mono ?_); (case side1 => repeat (first | exact (Kd.C_below HR1.out HB.out) | (with_reducible refine Kd.C_alloc ?_ _) | (with_reducible refine Kd.C_drewN ?_ _) | (with_reducible refine Kd.C_drew ?_))); (case side2 => exact HC1.out); rintro e w' ⟨rfl, ⟨nd, rfl⟩⟩; obtain ⟨Ao19, co19, eo19⟩ := Kd.N_slice HO_7.out; subst eo19))
                    go_meet
                    case rel => exact ⟨_, (decide ((x7_1.length : Int) < a2)), (by first | rfl | (simp; done) | (simp [*]; done)), H', ⟨by have := HK1.out; first | omega | exact Nat.le_refl _⟩, ⟨by (with_reducible repeat (first | apply Kd.N_alloc | apply Kd.N_drewN | apply Kd.N_drew)); exact HO_7.out⟩, ⟨by repeat (first | (with_reducible first | exact HB.out | apply below_alloc | apply pw_below_drewN | apply below_drew1) | exact HB.out)⟩⟩
                · rw [if_neg c16] at H
                  have c16b0 : decide (0 < (rd (rd_L2 l0 (l1.length : Int)) x24_1)) = false := decide_eq_false c16
                  clear c16
                  (first | rw [c16b0] | (simp only [i64_w, i32_w]; rw [c16b0]) | skip)
                  have H' := Aside0.mk H
                  clear H
                  go_wp2
                  go_meet
                  case rel => exact ⟨_, (false), (by first | rfl | (simp; done) | (simp [*]; done)), H', ⟨by have := HK1.out; first | omega | exact Nat.le_refl _⟩, ⟨by (with_reducible repeat (first | apply Kd.N_alloc | apply Kd.N_drewN | apply Kd.N_drew)); exact HO_7.out⟩, ⟨by repeat (first | (with_reducible first | exact HB.out | apply below_alloc | apply pw_below_drewN | apply below_drew1) | exact HB.out)⟩⟩
               case rest =>
                clear HC15
                try clear c1
                try clear c2
                try clear p2
                try clear q2
                try clear hx2
                try clear c4
                try clear c4b0
                try clear c4b1
                try clear c4b2
                try clear c10
                try clear c10b0
                try clear c10b1
                try clear c11
                try clear c11b0
                try clear c11b1
                try clear c12
                try clear c12b0
                try clear c13
                try clear c13b0
                try clear c14
                try clear c14b0
                try clear c16
                try clear c16b0
                try clear c18
                try clear hx231_0
                try clear hx232_0
                try clear p2
                try clear p231
                try clear p232
                try clear q2
                try clear q231
                try clear q232
                obtain ⟨kq, x42_14, rfl, HA, HJ14, HO_7, HB⟩ := hcut
                cases kq with
                | zero => exact absurd HA.out (by simp [spec_doPlacings.j1])
                | succ kj14 =>
                 have H := HA.out
                 clear HA
                 simp only [spec_doPlacings.j1] at H
                 by_cases c20 : x42_14 = true
                 · subst c20
                   have H1 : ((spec_l1Own.f l1).bind fun t234 => (if t234.length < 17592186044416 then ((spec_doPlacings.f kj14 l0 (t234 ++ [x24_1]) (wrap64 (a2 - (x7_1.length : Int)))).bind fun t240 => (if x7_1.length + t240.length < 5864062014805 then (spec_doPlacings.l0 kj14 l0 l1 a2 (x7_1 ++ t240) (rd_L2 l0 (l1.length : Int)) ((rd_L2 l0 (l1.length : Int)).length : Int) (wrap64 (x24_1 + 1))) else (none))) else (none))) = some r := by rw [if_pos rfl] at H; exact H
                   clear H
                   have H := H1
                   clear H1
                   replace H := Option.bind_eq_some_iff.mp H
                   obtain ⟨t234, A210, H⟩ := H
                   replace H : (if t234.length < 17592186044416 then ((spec_doPlacings.f kj14 l0 (t234 ++ [x24_1]) (wrap64 (a2 - (x7_1.length : Int)))).bind fun t240 => (if x7_1.length + t240.length < 5864062014805 then (spec_doPlacings.l0 kj14 l0 l1 a2 (x7_1 ++ t240) (rd_L2 l0 (l1.length : Int)) ((rd_L2 l0 (l1.length : Int)).length : Int) (wrap64 (x24_1 + 1))) else (none))) else (none)) = some r := H
                   have A21 := Aside0.mk A210
                   clear A210
                   by_cases c22 : t234.length < 17592186044416
                   · rw [if_pos c22] at H
                     have LMc22 := Aside0.mk c22
                     clear c22
                     obtain ⟨y237, hy237⟩ : ∃ y_ : List Int, y_ = (t234 ++ [x24_1]) := ⟨_, rfl⟩
                     replace H : ((spec_doPlacings.f kj14 l0 y237 (wrap64 (a2 - (x7_1.length : Int)))).bind fun t240 => (if x7_1.length + t240.length < 5864062014805 then (spec_doPlacings.l0 kj14 l0 l1 a2 (x7_1 ++ t240) (rd_L2 l0 (l1.length : Int)) ((rd_L2 l0 (l1.length : Int)).length : Int) (wrap64 (x24_1 + 1))) else (none))) = some r := by first | (rw [hy237]; with_reducible exact H) | (have H2_ := (Option.bind_some _ _).symm.trans H; rw [hy237]; with_reducible exact H2_) | (have H2_ := (Option.bind_some _ _).symm.trans H; with_reducible exact H2_) | with_reducible exact H | (rw [hy237]; exact H) | exact H
                     have Ny237 := Aside0.mk hy237
                     clear hy237
                     replace H := Option.bind_eq_some_iff.mp H
                     obtain ⟨t240, A230, H⟩ := H
                     replace H : (if x7_1.length + t240.length < 5864062014805 then (spec_doPlacings.l0 kj14 l0 l1 a2 (x7_1 ++ t240) (rd_L2 l0 (l1.length : Int)) ((rd_L2 l0 (l1.length : Int)).length : Int) (wrap64 (x24_1 + 1))) else (none)) = some r := H
                     have A23 := Aside0.mk A230
                     clear A230
                     by_cases c24 : x7_1.length + t240.length < 5864062014805
                     · rw [if_pos c24] at H
                       have LMc24 := Aside0.mk c24
                       clear c24
                       obtain ⟨y243, hy243⟩ : ∃ y_ : List (List Int), y_ = (x7_1 ++ t240) := ⟨_, rfl⟩
                       replace H : (spec_doPlacings.l0 kj14 l0 l1 a2 y243 (rd_L2 l0 (l1.length : Int)) ((rd_L2 l0 (l1.length : Int)).length : Int) (wrap64 (x24_1 + 1))) = some r := by first | (rw [hy243]; with_reducible exact H) | (have H2_ := (Option.bind_some _ _).symm.trans H; rw [hy243]; with_reducible exact H2_) | (have H2_ := (Option.bind_some _ _).symm.trans H; with_reducible exact H2_) | with_reducible exact H | (rw [hy243]; exact H) | exact H
                       have Ny243 := Aside0.mk hy243
                       clear hy243
                       have H' := Aside0.mk H
                       clear H
                       go_wp2_with (first | ((with_reducible refine gate_callee (f := 25) rfl ?_); refine goesL_ (some 46) rfl rfl Try.func25 (by kernel_rfl) rfl #[.slice A1 l1.length c1] rfl (by (try simp only [List.map_toArray, List.map_cons, List.map_nil]); first | done | rfl | (simp only [List.length_drop, List.length_take]; rfl)) ?_; (with_reducible refine (spec_l1Own.calls _ _ l1 t234 _ ?side1 ?side2 A21.out).mono ?_); (case side1 => repeat (first | exact (Kd.C_below HR1.out HB.out) | (with_reducible refine Kd.C_alloc ?_ _) | (with_reducible refine Kd.C_drewN ?_ _) | (with_reducible refine Kd.C_drew ?_))); (case side2 => exact HC1.out); rintro e w25 ⟨v235, rfl, ho0, hb⟩; refine ⟨_, rfl, ?_⟩; have n0_ := Aside0.mk (Kd.N_elder' (by (with_reducible repeat (first | apply Kd.N_alloc | apply Kd.N_drewN | apply Kd.N_drew)); exact HO_7.out) (Kd.R_base ho0) hb); have n1_ := Aside0.mk (Kd.R_lower (Kd.R_newM (M := fun k_ => (w.heap.size ≤ k_)) ho0 (below_size (by repeat (first | (with_reducible first | exact HB.out | apply below_alloc | apply pw_below_drewN | apply below_drew1) | exact HB.out))) (fun k_ h_ => h_)) (below_size (by repeat (first | (with_reducible first | exact HB.out | apply below_alloc | apply pw_below_drewN | apply below_drew1) | exact HB.out)))); have n2_ := Aside0.mk (below_step (by repeat (first | (with_reducible first | exact HB.out | apply below_alloc | apply pw_below_drewN | apply below_drew1) | exact HB.out)) hb); clear HO_7; clear HB; have HO_7 := n0_; have HO236 := n1_; have HB := n2_; clear n0_ n1_ n2_; (try clear hb); (try clear hb2); (try clear hk); (try clear hi); (try clear ho0)) | ((with_reducible refine gate_builtin (b := .append) (xs := #[.tmp 46, .tmp 48]) rfl ?_); (try (refine gate_guard (by rfl) ?_; dsimp only)); at_builtin; refine Kd.R_append (Kd.int .i64) (w0 := w) w.heap.size rfl (.tmp 46) (.tmp 48) 26 3 (.int .i64 0) 8 rfl Try.underlying26 info3 rfl (by decide) (by omega) v235 t234 x24_1 [.int .i64 x24_1] (fun k_ => (w.heap.size ≤ k_)) (fun _ => False) rfl rfl ?aP (fun _ hk => hk.elim) ?aF ?aO ?aB ?aS ?aL ?_; (case aP => exact rfl); (case aB => exact (by repeat (first | (with_reducible first | exact HB.out | apply below_alloc | apply pw_below_drewN | apply below_drew1) | exact HB.out))); (case aF => exact (fun k_ hk => (Nat.le_trans (below_size (by repeat (first | (with_reducible first | exact HB.out | apply below_alloc | apply pw_below_drewN | apply below_drew1) | exact HB.out))) hk))); (case aO => exact (by (with_reducible repeat (first | apply Kd.R_alloc | apply Kd.R_drewN | apply Kd.R_drew)); exact Kd.R_mono HO236.out (fun _ hk => hk.1))); (case aS => exact (below_size (by repeat (first | (with_reducible first | exact HB.out | apply below_alloc | apply pw_below_drewN | apply below_drew1) | exact HB.out)))); (case aL => have := LMc22.out; omega); intro v238 w26 ho hb hg hat; rw [← Ny237.out] at ho; have n0_ := Aside0.mk (Kd.N_afterv (ok := (fun k_ => (w.heap.size ≤ k_))) (by (with_reducible repeat (first | apply Kd.N_alloc | apply Kd.N_drewN | apply Kd.N_drew)); exact HO_7.out) hg hat); have n1_ := Aside0.mk (hb); have n2_ := Aside0.mk (ho); clear HO_7; clear HB; clear HO236; have HO_7 := n0_; have HB := n1_; have HO239 := n2_; clear n0_ n1_ n2_; clear ho hb hg hat; obtain ⟨Ao27, co27, eo27⟩ := Kd.N_slice HO_7.out; subst eo27; obtain ⟨Ao28, co28, eo28⟩ := Kd.R_slice HO239.out; subst eo28) | ((with_reducible refine gate_callee (f := 26) rfl ?_); refine goesL_ (some 54) rfl rfl Try.func26 (by kernel_rfl) rfl #[.slice (some ad231) l0.length c0, .slice Ao28 y237.length co28, .int .i64 (wrap64 (a2 - (x7_1.length : Int)))] rfl (by (try simp only [List.map_toArray, List.map_cons, List.map_nil]); first | done | rfl | (simp only [List.length_drop, List.length_take]; rfl)) ?_; (with_reducible refine (ih kj14 (by have := HK1.out; have := HJ14.out; omega) _ _ l0 _ _ y237 (wrap64 (a2 - (x7_1.length : Int))) t240 _ ?side1 ?side2 ?side3 ?side4 A23.out).mono ?_); (case side1 => repeat (first | exact (Kd.C_below HR0.out HB.out) | (with_reducible refine Kd.C_alloc ?_ _) | (with_reducible refine Kd.C_drewN ?_ _) | (with_reducible refine Kd.C_drew ?_))); (case side2 => exact HC0.out); (case side3 => repeat (first | exact (Kd.R_reads' HO239.out).2.2 | (with_reducible refine Kd.C_alloc ?_ _) | (with_reducible refine Kd.C_drewN ?_ _) | (with_reducible refine Kd.C_drew ?_))); (case side4 => exact (Kd.R_reads' HO239.out).2.1); rintro e w29 ⟨v241, rfl, ho0, hb⟩; refine ⟨_, rfl, ?_⟩; have n0_ := Aside0.mk (Kd.N_elder' (by (with_reducible repeat (first | apply Kd.N_alloc | apply Kd.N_drewN | apply Kd.N_drew)); exact HO_7.out) (Kd.N_base ho0) hb); have n1_ := Aside0.mk (Kd.R_below (by (with_reducible repeat (first | apply Kd.R_alloc | apply Kd.R_drewN | apply Kd.R_drew)); exact HO239.out) hb); have n2_ := Aside0.mk (Kd.N_lower (Kd.N_mono (ok' := fun k_ => (w.heap.size ≤ k_) ∧ some k_ ≠ (.slice Ao27 x7_1.length co27 : Value).ownBlock ∧ some k_ ≠ (.slice Ao28 y237.length co28 : Value).ownBlock) ho0 (fun k_ hk_ => ⟨(Nat.le_trans (below_size (by repeat (first | (with_reducible first | exact HB.out | apply below_alloc | apply pw_below_drewN | apply below_drew1) | exact HB.out))) hk_), (Kd.fresh' (Kd.N_lt (by (with_reducible repeat (first | apply Kd.N_alloc | apply Kd.N_drewN | apply Kd.N_drew)); exact HO_7.out)) k_ hk_), (Kd.fresh' (Kd.R_lt (by (with_reducible repeat (first | apply Kd.R_alloc | apply Kd.R_drewN | apply Kd.R_drew)); exact HO239.out)) k_ hk_)⟩)) (below_size (by repeat (first | (with_reducible first | exact HB.out | apply below_alloc | apply pw_below_drewN | apply below_drew1) | exact HB.out)))); have n3_ := Aside0.mk (below_step (by repeat (first | (with_reducible first | exact HB.out | apply below_alloc | apply pw_below_drewN | apply below_drew1) | exact HB.out)) hb); clear HO_7; clear HO239; clear HB; have HO_7 := n0_; have HO239 := n1_; have HO242 := n2_; have HB := n3_; clear n0_ n1_ n2_ n3_; (try clear hb); (try clear hb2); (try clear hk); (try clear hi); (try clear ho0); obtain ⟨Ao31, co31, eo31⟩ := Kd.N_slice HO242.out; subst eo31) | ((with_reducible refine gate_builtin (b := .append) (xs := #[.tmp 43, .tmp 54]) rfl ?_); (try (refine gate_guard (by rfl) ?_; dsimp only)); at_builtin; refine Kd.N_append_rows (Kd.slice 3 (Kd.int .i64)) (w0 := w) w.heap.size rfl (.tmp 43) (.tmp 54) 24 26 (.slice none 0 0) 24 rfl Try.underlying24 info26 rfl (by decide) (by omega) (.slice Ao27 x7_1.length co27) x7_1 t240 _ _ _ (fun k_ => (w.heap.size ≤ k_) ∧ some k_ ≠ (.slice Ao28 y237.length co28 : Value).ownBlock) (fun k_ => ((fun k_ => (w.heap.size ≤ k_) ∧ some k_ ≠ (.slice Ao28 y237.length co28 : Value).ownBlock)) k_ ∧ some k_ ≠ (.slice Ao27 x7_1.length co27 : Value).ownBlock) rfl rfl ?aO ?aR (fun _ hk => hk) ?aF ?aB ?aS ?aL ?_; (case aR => exact (by skip; exact Kd.N_F (Kd.N_mono (ok' := (fun k_ => ((fun k_ => (w.heap.size ≤ k_) ∧ some k_ ≠ (.slice Ao28 y237.length co28 : Value).ownBlock)) k_ ∧ some k_ ≠ (.slice Ao27 x7_1.length co27 : Value).ownBlock)) (HO242.out) (fun k_ hk => ⟨⟨hk.1, hk.2.2⟩, hk.2.1⟩)))); (case aB => exact (by repeat (first | (with_reducible first | exact HB.out | apply below_alloc | apply pw_below_drewN | apply below_drew1) | exact HB.out))); (case aF => exact (fun k_ hk => ⟨(Nat.le_trans (below_size (by repeat (first | (with_reducible first | exact HB.out | apply below_alloc | apply pw_below_drewN | apply below_drew1) | exact HB.out))) hk), Kd.fresh' (Kd.R_lt (by (with_reducible repeat (first | apply Kd.R_alloc | apply Kd.R_drewN | apply Kd.R_drew)); exact HO239.out)) k_ hk⟩)); (case aO => exact (by (with_reducible repeat (first | apply Kd.N_alloc | apply Kd.N_drewN | apply Kd.N_drew)); exact Kd.N_mono HO_7.out (fun _ hk => ⟨hk.1.1, hk.1.2⟩))); (case aS => exact (below_size (by repeat (first | (with_reducible first | exact HB.out | apply below_alloc | apply pw_below_drewN | apply below_drew1) | exact HB.out)))); (case aL => have := LMc24.out; omega); intro v244 w30 ho hb hg hat; rw [← Ny243.out] at ho; have n0_ := Aside0.mk (Kd.R_over' (by (with_reducible repeat (first | apply Kd.R_alloc | apply Kd.R_drewN | apply Kd.R_drew)); exact HO239.out) (Kd.N_typed (by (with_reducible repeat (first | apply Kd.N_alloc | apply Kd.N_drewN | apply Kd.N_drew)); exact HO_7.out)) (by decide) hg); have n1_ := Aside0.mk (Kd.N_afterv (ok := (fun k_ => (w.heap.size ≤ k_) ∧ some k_ ≠ (.slice Ao28 y237.length co28 : Value).ownBlock)) (by (with_reducible repeat (first | apply Kd.N_alloc | apply Kd.N_drewN | apply Kd.N_drew)); exact Kd.N_mono HO242.out (fun _ hk => ⟨⟨hk.1, hk.2.2⟩, hk.2.1⟩)) hg hat); have n2_ := Aside0.mk (hb); have n3_ := Aside0.mk (ho); clear HO239; clear HO242; clear HB; clear HO_7; have HO239 := n0_; have HO242 := n1_; have HB := n2_; have HO245 := n3_; clear n0_ n1_ n2_ n3_; clear ho hb hg hat))
                       go_roundg kj14
                       case measure => have := HK1.out; have := HJ14.out; omega
                       case rel => exact ⟨(y243), (wrap64 (x24_1 + 1)), (by first | rfl | (simp; done) | (simp [*]; done)), H', ⟨by have := HK1.out; have := HJ14.out; omega⟩, ⟨by (with_reducible repeat (first | apply Kd.N_alloc | apply Kd.N_drewN | apply Kd.N_drew)); exact Kd.N_mono HO245.out (fun _ hk => hk.1)⟩, ⟨by repeat (first | (with_reducible first | exact HB.out | apply below_alloc | apply pw_below_drewN | apply below_drew1) | exact HB.out)⟩⟩
                     · rw [if_neg c24] at H
                       exact absurd H (by simp)
                   · rw [if_neg c22] at H
                     exact absurd H (by simp)
                 · replace c20 := Bool.eq_false_iff.mpr c20
                   subst c20
                   have H1 : (spec_doPlacings.l0 kj14 l0 l1 a2 x7_1 (rd_L2 l0 (l1.length : Int)) ((rd_L2 l0 (l1.length : Int)).length : Int) (wrap64 (x24_1 + 1))) = some r := by rw [if_neg (show ¬ (false = true) by decide)] at H; exact H
                   clear H
                   have H := H1
                   clear H1
                   have H' := Aside0.mk H
                   clear H
                   go_wp2
                   go_roundg kj14
                   case measure => have := HK1.out; have := HJ14.out; omega
                   case rel => exact ⟨(x7_1), (wrap64 (x24_1 + 1)), (by first | rfl | (simp; done) | (simp [*]; done)), H', ⟨by have := HK1.out; have := HJ14.out; omega⟩, ⟨by (with_reducible repeat (first | apply Kd.N_alloc | apply Kd.N_drewN | apply Kd.N_drew)); exact HO_7.out⟩, ⟨by repeat (first | (with_reducible first | exact HB.out | apply below_alloc | apply pw_below_drewN | apply below_drew1) | exact HB.out)⟩⟩
             · rw [if_neg c14] at H
               exact absurd H (by simp)
           · rw [if_neg c13] at H
             exact absurd H (by simp)
         · rw [if_neg c12] at H
           have c12b0 : decide (x24_1 < ((rd_L2 l0 (l1.length : Int)).length : Int)) = false := decide_eq_false c12
           clear c12
           obtain rfl := Option.some.inj H
           go_wp2
           go_ret
           exact ⟨_, by first | rfl | (simp [errW_none, errW_some] <;> rfl) | (simp [*, errW_none, errW_some] <;> rfl), by (with_reducible repeat (first | apply Kd.N_alloc | apply Kd.N_drewN | apply Kd.N_drew)); exact HO_7.out, by repeat (first | (with_reducible first | exact HB.out | apply below_alloc | apply pw_below_drewN | apply below_drew1) | exact HB.out)⟩
     · rw [if_neg c11] at H
       exact absurd H (by simp)
   · rw [if_neg c10] at H
     exact absurd H (by simp)

end Go.Proofs.Ytgcgecbdmomceaa.A

-- made by a program of this repo (wip/pp.py) through the kit's printer
namespace Go.Proofs.Ytgcgecbdmomceaa.A
open Go.RowKit Go.Proofs.YtgcgecbdmomceaaW.PrintWords Go.Proofs.YtgcgecbdmomceaaW.PrintLast Go.Proofs.YtgcgecbdmomceaaW.PrintMore
attribute [local go_sem] max2_int min2_int max_two min_two max_three min_three max_four min_four
set_option linter.unusedVariables false
set_option linter.unusedSimpArgs false

/-! ### spec_l1Least: function 27 -/
def spec_l1Least.f (a0 : Int) (a1 : Int) : Option (Int) := if a0 < a1 then (some a0) else (some a1)
set_option maxHeartbeats 8000000 in
set_option maxRecDepth 100000 in
theorem spec_l1Least.calls (a0 : Int) (a1 : Int) (r : Int) (w : World) (h : spec_l1Least.f a0 a1 = some r) :
 Calls Try.prog 27 #[.int .i64 a0, .int .i64 a1] w fun e w' => e = .returned (.int .i64 r) ∧ Drawn0 w w' := by
 have H : (if a0 < a1 then (some a0) else (some a1)) = some r := h
 clear h
 by_cases c3 : a0 < a1
 · rw [if_pos c3] at H
   have c3b0 : decide (a0 < a1) = true := decide_eq_true c3
   clear c3
   obtain rfl := Option.some.inj H
   go_enter Try.func27, Try.ntmps27
   go_wp2
   go_ret
   exact ⟨by first | rfl | (simp; done) | (simp [*]; done), by repeat (first | exact Drawn0.refl _ | apply Drawn0.step)⟩
 · rw [if_neg c3] at H
   have c3b0 : decide (a0 < a1) = false := decide_eq_false c3
   clear c3
   obtain rfl := Option.some.inj H
   go_enter Try.func27, Try.ntmps27
   go_wp2
   go_ret
   exact ⟨by first | rfl | (simp; done) | (simp [*]; done), by repeat (first | exact Drawn0.refl _ | apply Drawn0.step)⟩

end Go.Proofs.Ytgcgecbdmomceaa.A

namespace Go.Proofs.Ytgcgecbdmomceaa.A
open Go.RowKit Go.Proofs.YtgcgecbdmomceaaW.PrintWords Go.Proofs.YtgcgecbdmomceaaW.PrintLast Go.Proofs.YtgcgecbdmomceaaW.PrintMore
set_option linter.unusedVariables false
set_option linter.unusedSimpArgs false
theorem l1Least_eq (a b : Int) : spec_l1Least.f a b = some (min a b) := by
 unfold spec_l1Least.f
 split <;> (congr 1; omega)
end Go.Proofs.Ytgcgecbdmomceaa.A

/- spec.PartsOf (the text up to the outer loop printed by wip/mkspartsof.py, the outer loop by hand) -/
namespace Go.Proofs.Ytgcgecbdmomceaa.A
open Go.RowKit Go.Proofs.YtgcgecbdmomceaaW.PrintWords Go.Proofs.YtgcgecbdmomceaaW.PrintLast Go.Proofs.YtgcgecbdmomceaaW.PrintMore
attribute [local go_sem] max2_int min2_int max_two min_two max_three min_three max_four min_four
set_option linter.unusedVariables false
set_option linter.unusedSimpArgs false

def spec_PartsOf.l1 : Nat → List (List Int) → List (List Int) → List Int → Option ((List (List Int)) × List Int × Bool)
 | 0, _, _, _ => none
 | k + 1, x5, x8, x9 => (spec_doSum.f k x5).bind fun s => (if s > 0 then ((spec_doPlacings.f k x5 ([] : List Int) 1).bind fun q => (if 0 < q.length ∧ 0 < (rd_L2 q 0).length ∧ pOk x5 (rd_L2 q 0) 0 = true then ((pLeast x5 (rd_L2 q 0) (rd_L2 q 0).length 0 (pEnt x5 (rd_L2 q 0) 0)).bind fun c => ((pSub (rd_L2 q 0) c (rd_L2 q 0).length 0 x5).bind fun y => (if x8.length < 1000000 ∧ x9.length < 1000000 then (spec_PartsOf.l1 k y (x8 ++ [rd_L2 q 0]) (x9 ++ [c])) else none))) else none)) else (some (x8, x9, true)))
def spec_PartsOf.l0 : Nat → List (List Int) → List (List Int) → Int → Int → Option ((List (List Int)) × List Int × Bool)
 | 0, _, _, _, _ => none
 | k + 1, x5, x27, x28, x29 => if x29 < x28 then (if 0 ≤ x29 then (if x29 < (x27.length : Int) then ((spec_l1Own.f (rd_L2 x27 x29)).bind fun t155 => (if x29 < (x5.length : Int) then (spec_PartsOf.l0 k (x5.set (x29 : Int).toNat t155) x27 x28 (wrap64 (x29 + 1))) else (none))) else (none)) else (none)) else (spec_PartsOf.l1 k x5 ([] : List (List Int)) ([] : List Int))
def spec_PartsOf.j0 : Nat → List (List Int) → Bool → Option ((List (List Int)) × List Int × Bool)
 | 0, _, _ => none
 | k + 1, x0, x23 => if x23 = true then (some (([] : List (List Int)), ([] : List Int), false)) else ((spec_doEmpty.f k (x0.length : Int)).bind fun t151 => (spec_PartsOf.l0 k t151 x0 (x0.length : Int) 0))
def spec_PartsOf.f (k : Nat) (l0 : List (List Int)) : Option ((List (List Int)) × List Int × Bool) := (spec_doGood.f k l0).bind fun t149 => (if t149 = true then ((spec_doSum.f k l0).bind fun t150 => (spec_PartsOf.j0 k l0 (decide (t150 < 0)))) else (spec_PartsOf.j0 k l0 true))
set_option maxHeartbeats 8000000 in
set_option maxRecDepth 100000 in
theorem spec_PartsOf.calls (k : Nat) (A0 : Option Addr) (c0 : Nat) (l0 : List (List Int)) (r1 : List (List Int)) (r2 : List Int) (r3 : Bool) (w : World) (hr0 : Kd.C (Kd.slice 3 (Kd.int .i64)) w A0 l0.length l0) (hc0 : l0.length ≤ c0) (h : spec_PartsOf.f k l0 = some (r1, r2, r3)) :
 Calls Try.prog 7 #[.slice A0 l0.length c0] w fun e w' => ∃ v0_ v1_ : Value, e = .returned (.tuple #[v0_, v1_, .bool r3]) ∧ Kd.N (Kd.slice 3 (Kd.int .i64)) 26 w' w.heap.size (fun k_ => w.heap.size ≤ k_ ∧ some k_ ≠ (v1_ : Value).ownBlock) v0_ r1 ∧ Kd.R (Kd.int .i64) 3 w' w.heap.size (fun _ => True) v1_ r2 ∧ Below w.heap.size w w' := by
 have HR0 := Aside0.mk hr0
 have HC0 := Aside0.mk hc0
 clear hr0 hc0
 have HB := Aside0.mk (Below.refl w.heap.size w)
 have H : ((spec_doGood.f k l0).bind fun t149 => (if t149 = true then ((spec_doSum.f k l0).bind fun t150 => (spec_PartsOf.j0 k l0 (decide (t150 < 0)))) else (spec_PartsOf.j0 k l0 true))) = some (r1, r2, r3) := h
 clear h
 have HC2 := Aside0.mk H
 clear H
 go_enter Try.func7, Try.ntmps7
 go_upto_region 1 with (fail)
 repeat (go_quiet (fail); go_upto_region 1 with (fail))
 go_cut [23] (fun v23 wc => ∃ (kq : Nat) (x23_1 : Bool), v23 = .bool x23_1 ∧ Aside0 (spec_PartsOf.j0 kq l0 x23_1 = some (r1, r2, r3)) ∧ Aside0 (kq ≤ k) ∧ Aside0 (Below w.heap.size w wc))
 case first =>
  have H := HC2.out
  clear HC2
  replace H := Option.bind_eq_some_iff.mp H
  obtain ⟨t149, A30, H⟩ := H
  replace H : (if t149 = true then ((spec_doSum.f k l0).bind fun t150 => (spec_PartsOf.j0 k l0 (decide (t150 < 0)))) else (spec_PartsOf.j0 k l0 true)) = some (r1, r2, r3) := H
  have A3 := Aside0.mk A30
  clear A30
  by_cases c4 : t149 = true
  · subst c4
    have H1 : ((spec_doSum.f k l0).bind fun t150 => (spec_PartsOf.j0 k l0 (decide (t150 < 0)))) = some (r1, r2, r3) := by rw [if_pos rfl] at H; exact H
    clear H
    have H := H1
    clear H1
    replace H := Option.bind_eq_some_iff.mp H
    obtain ⟨t150, A50, H⟩ := H
    replace H : (spec_PartsOf.j0 k l0 (decide (t150 < 0))) = some (r1, r2, r3) := H
    have A5 := Aside0.mk A50
    clear A50
    have H' := Aside0.mk H
    clear H
    go_wp2_with (first | (go_at_call 22; (with_reducible refine (spec_doGood.calls k _ _ l0 true _ ?side1 ?side2 A3.out).mono ?_); (case side1 => repeat (first | exact (Kd.C_below HR0.out HB.out) | (with_reducible refine Kd.C_alloc ?_ _) | (with_reducible refine Kd.C_drewN ?_ _) | (with_reducible refine Kd.C_drew ?_))); (case side2 => exact HC0.out); rintro e w' ⟨rfl, ⟨nd, rfl⟩⟩; (try first | exact ⟨rfl, _, World.drewN_drewN _ _ _⟩ | exact ⟨rfl, _, Eq.trans (World.drewN_drewN _ _ _) (congrArg (World.drewN _) (Nat.add_assoc _ _ _))⟩)) | (go_at_call 23; (with_reducible refine (spec_doSum.calls k _ _ l0 t150 _ ?side1 ?side2 A5.out).mono ?_); (case side1 => repeat (first | exact (Kd.C_below HR0.out (by repeat (first | (with_reducible first | exact HB.out | apply below_alloc | apply pw_below_drewN | apply below_drew1) | exact HB.out))) | (with_reducible refine Kd.C_alloc ?_ _) | (with_reducible refine Kd.C_drewN ?_ _) | (with_reducible refine Kd.C_drew ?_))); (case side2 => exact HC0.out); rintro e w' ⟨rfl, ⟨nd, rfl⟩⟩; (try first | exact ⟨rfl, _, World.drewN_drewN _ _ _⟩ | exact ⟨rfl, _, Eq.trans (World.drewN_drewN _ _ _) (congrArg (World.drewN _) (Nat.add_assoc _ _ _))⟩)))
    repeat (go_quiet (first | (go_at_call 22; (with_reducible refine (spec_doGood.calls k _ _ l0 true _ ?side1 ?side2 A3.out).mono ?_); (case side1 => repeat (first | exact (Kd.C_below HR0.out HB.out) | (with_reducible refine Kd.C_alloc ?_ _) | (with_reducible refine Kd.C_drewN ?_ _) | (with_reducible refine Kd.C_drew ?_))); (case side2 => exact HC0.out); rintro e w' ⟨rfl, ⟨nd, rfl⟩⟩; (try first | exact ⟨rfl, _, World.drewN_drewN _ _ _⟩ | exact ⟨rfl, _, Eq.trans (World.drewN_drewN _ _ _) (congrArg (World.drewN _) (Nat.add_assoc _ _ _))⟩)) | (go_at_call 23; (with_reducible refine (spec_doSum.calls k _ _ l0 t150 _ ?side1 ?side2 A5.out).mono ?_); (case side1 => repeat (first | exact (Kd.C_below HR0.out (by repeat (first | (with_reducible first | exact HB.out | apply below_alloc | apply pw_below_drewN | apply below_drew1) | exact HB.out))) | (with_reducible refine Kd.C_alloc ?_ _) | (with_reducible refine Kd.C_drewN ?_ _) | (with_reducible refine Kd.C_drew ?_))); (case side2 => exact HC0.out); rintro e w' ⟨rfl, ⟨nd, rfl⟩⟩; (try first | exact ⟨rfl, _, World.drewN_drewN _ _ _⟩ | exact ⟨rfl, _, Eq.trans (World.drewN_drewN _ _ _) (congrArg (World.drewN _) (Nat.add_assoc _ _ _))⟩))); try go_wp2_with (first | (go_at_call 22; (with_reducible refine (spec_doGood.calls k _ _ l0 true _ ?side1 ?side2 A3.out).mono ?_); (case side1 => repeat (first | exact (Kd.C_below HR0.out HB.out) | (with_reducible refine Kd.C_alloc ?_ _) | (with_reducible refine Kd.C_drewN ?_ _) | (with_reducible refine Kd.C_drew ?_))); (case side2 => exact HC0.out); rintro e w' ⟨rfl, ⟨nd, rfl⟩⟩; (try first | exact ⟨rfl, _, World.drewN_drewN _ _ _⟩ | exact ⟨rfl, _, Eq.trans (World.drewN_drewN _ _ _) (congrArg (World.drewN _) (Nat.add_assoc _ _ _))⟩)) | (go_at_call 23; (with_reducible refine (spec_doSum.calls k _ _ l0 t150 _ ?side1 ?side2 A5.out).mono ?_); (case side1 => repeat (first | exact (Kd.C_below HR0.out (by repeat (first | (with_reducible first | exact HB.out | apply below_alloc | apply pw_below_drewN | apply below_drew1) | exact HB.out))) | (with_reducible refine Kd.C_alloc ?_ _) | (with_reducible refine Kd.C_drewN ?_ _) | (with_reducible refine Kd.C_drew ?_))); (case side2 => exact HC0.out); rintro e w' ⟨rfl, ⟨nd, rfl⟩⟩; (try first | exact ⟨rfl, _, World.drewN_drewN _ _ _⟩ | exact ⟨rfl, _, Eq.trans (World.drewN_drewN _ _ _) (congrArg (World.drewN _) (Nat.add_assoc _ _ _))⟩))))
    go_meet
    case rel => exact ⟨_, (decide (t150 < 0)), (by first | rfl | (simp; done) | (simp [*]; done)), H', ⟨by first | omega | exact Nat.le_refl _⟩, ⟨by repeat (first | (with_reducible first | exact HB.out | apply below_alloc | apply pw_below_drewN | apply below_drew1) | exact HB.out)⟩⟩
  · replace c4 := Bool.eq_false_iff.mpr c4
    subst c4
    have H1 : (spec_PartsOf.j0 k l0 true) = some (r1, r2, r3) := by rw [if_neg (show ¬ (false = true) by decide)] at H; exact H
    clear H
    have H := H1
    clear H1
    have H' := Aside0.mk H
    clear H
    go_wp2_with (first | (go_at_call 22; (with_reducible refine (spec_doGood.calls k _ _ l0 false _ ?side1 ?side2 A3.out).mono ?_); (case side1 => repeat (first | exact (Kd.C_below HR0.out HB.out) | (with_reducible refine Kd.C_alloc ?_ _) | (with_reducible refine Kd.C_drewN ?_ _) | (with_reducible refine Kd.C_drew ?_))); (case side2 => exact HC0.out); rintro e w' ⟨rfl, ⟨nd, rfl⟩⟩; (try first | exact ⟨rfl, _, World.drewN_drewN _ _ _⟩ | exact ⟨rfl, _, Eq.trans (World.drewN_drewN _ _ _) (congrArg (World.drewN _) (Nat.add_assoc _ _ _))⟩)))
    repeat (go_quiet (first | (go_at_call 22; (with_reducible refine (spec_doGood.calls k _ _ l0 false _ ?side1 ?side2 A3.out).mono ?_); (case side1 => repeat (first | exact (Kd.C_below HR0.out HB.out) | (with_reducible refine Kd.C_alloc ?_ _) | (with_reducible refine Kd.C_drewN ?_ _) | (with_reducible refine Kd.C_drew ?_))); (case side2 => exact HC0.out); rintro e w' ⟨rfl, ⟨nd, rfl⟩⟩; (try first | exact ⟨rfl, _, World.drewN_drewN _ _ _⟩ | exact ⟨rfl, _, Eq.trans (World.drewN_drewN _ _ _) (congrArg (World.drewN _) (Nat.add_assoc _ _ _))⟩))); try go_wp2_with (first | (go_at_call 22; (with_reducible refine (spec_doGood.calls k _ _ l0 false _ ?side1 ?side2 A3.out).mono ?_); (case side1 => repeat (first | exact (Kd.C_below HR0.out HB.out) | (with_reducible refine Kd.C_alloc ?_ _) | (with_reducible refine Kd.C_drewN ?_ _) | (with_reducible refine Kd.C_drew ?_))); (case side2 => exact HC0.out); rintro e w' ⟨rfl, ⟨nd, rfl⟩⟩; (try first | exact ⟨rfl, _, World.drewN_drewN _ _ _⟩ | exact ⟨rfl, _, Eq.trans (World.drewN_drewN _ _ _) (congrArg (World.drewN _) (Nat.add_assoc _ _ _))⟩))))
    go_meet
    case rel => exact ⟨_, (true), (by first | rfl | (simp; done) | (simp [*]; done)), H', ⟨by first | omega | exact Nat.le_refl _⟩, ⟨by repeat (first | (with_reducible first | exact HB.out | apply below_alloc | apply pw_below_drewN | apply below_drew1) | exact HB.out)⟩⟩
 case rest =>
  clear HC2
  try clear p2
  try clear c4
  obtain ⟨kq, x23_1, rfl, HA, HJ1, HB⟩ := hcut
  cases kq with
  | zero => exact absurd HA.out (by simp [spec_PartsOf.j0])
  | succ kj1 =>
   have H := HA.out
   clear HA
   simp only [spec_PartsOf.j0] at H
   by_cases c6 : x23_1 = true
   · subst c6
     have H1 : (some (([] : List (List Int)), ([] : List Int), false)) = some (r1, r2, r3) := by rw [if_pos rfl] at H; exact H
     clear H
     have H := H1
     clear H1
     simp only [Option.some.injEq, Prod.mk.injEq] at H
     obtain ⟨rfl, rfl, rfl⟩ := H
     go_wp2
     repeat (go_quiet (fail); try go_wp2)
     go_ret3
     exact ⟨_, _, rfl, Kd.N_nil _ _ _ _ _, Kd.R_nil _ _ _ _ _, by repeat (first | (with_reducible first | exact HB.out | apply below_alloc | apply pw_below_drewN | apply below_drew1) | exact HB.out)⟩
   · replace c6 := Bool.eq_false_iff.mpr c6
     subst c6
     have H1 : ((spec_doEmpty.f kj1 (l0.length : Int)).bind fun t151 => (spec_PartsOf.l0 kj1 t151 l0 (l0.length : Int) 0)) = some (r1, r2, r3) := by rw [if_neg (show ¬ (false = true) by decide)] at H; exact H
     clear H
     have H := H1
     clear H1
     replace H := Option.bind_eq_some_iff.mp H
     obtain ⟨t151, A70, H⟩ := H
     replace H : (spec_PartsOf.l0 kj1 t151 l0 (l0.length : Int) 0) = some (r1, r2, r3) := H
     have A7 := Aside0.mk A70
     clear A70
     have H' := Aside0.mk H
     clear H
     go_wp2_with (first | (go_at_call 24; (with_reducible refine (spec_doEmpty.calls kj1 (l0.length : Int) t151 _ A7.out).mono ?_); rintro e w8 ⟨v152, rfl, ho0, hb⟩; have n0_ := Aside0.mk (Kd.S_lower ho0 (below_size (by repeat (first | (with_reducible first | exact HB.out | apply below_alloc | apply pw_below_drewN | apply below_drew1) | exact HB.out)))); have n1_ := Aside0.mk (below_step (by repeat (first | (with_reducible first | exact HB.out | apply below_alloc | apply pw_below_drewN | apply below_drew1) | exact HB.out)) hb); clear HB; have HO153 := n0_; have HB := n1_; clear n0_ n1_; (try clear hb); (try clear hb2); (try clear hk); (try clear hi); (try clear ho0)))
     repeat (go_quiet (first | (go_at_call 24; (with_reducible refine (spec_doEmpty.calls kj1 (l0.length : Int) t151 _ A7.out).mono ?_); rintro e w8 ⟨v152, rfl, ho0, hb⟩; have n0_ := Aside0.mk (Kd.S_lower ho0 (below_size (by repeat (first | (with_reducible first | exact HB.out | apply below_alloc | apply pw_below_drewN | apply below_drew1) | exact HB.out)))); have n1_ := Aside0.mk (below_step (by repeat (first | (with_reducible first | exact HB.out | apply below_alloc | apply pw_below_drewN | apply below_drew1) | exact HB.out)) hb); clear HB; have HO153 := n0_; have HB := n1_; clear n0_ n1_; (try clear hb); (try clear hb2); (try clear hk); (try clear hi); (try clear ho0))); try go_wp2_with (first | (go_at_call 24; (with_reducible refine (spec_doEmpty.calls kj1 (l0.length : Int) t151 _ A7.out).mono ?_); rintro e w8 ⟨v152, rfl, ho0, hb⟩; have n0_ := Aside0.mk (Kd.S_lower ho0 (below_size (by repeat (first | (with_reducible first | exact HB.out | apply below_alloc | apply pw_below_drewN | apply below_drew1) | exact HB.out)))); have n1_ := Aside0.mk (below_step (by repeat (first | (with_reducible first | exact HB.out | apply below_alloc | apply pw_below_drewN | apply below_drew1) | exact HB.out)) hb); clear HB; have HO153 := n0_; have HB := n1_; clear n0_ n1_; (try clear hb); (try clear hb2); (try clear hk); (try clear hi); (try clear ho0))))
     go_loopg [29] kj1 (fun kq v29 w' => ∃ (x5_2 : List (List Int)) (x29_2 : Int), v29 = .int .i64 x29_2 ∧ Aside0 (spec_PartsOf.l0 kq x5_2 l0 (l0.length : Int) x29_2 = some (r1, r2, r3)) ∧ Aside0 (kq ≤ kj1) ∧ Aside0 (Kd.S (Kd.slice 3 (Kd.int .i64)) 26 w' w.heap.size (fun _ => True) v152 x5_2) ∧ Aside0 (Below w.heap.size w w'))
     case atStart => exact ⟨(t151), (0), (by first | rfl | (simp; done) | (simp [*]; done)), H', ⟨Nat.le_refl _⟩, ⟨by (with_reducible repeat (first | apply Kd.S_alloc | apply Kd.S_drewN | apply Kd.S_drew)); exact HO153.out⟩, ⟨by repeat (first | (with_reducible first | exact HB.out | apply below_alloc | apply pw_below_drewN | apply below_drew1) | exact HB.out)⟩⟩
     case round =>
      clear H'
      try clear p2
      try clear c4
      try clear c6
      try clear c8
      try clear p2
      obtain ⟨x5_2, x29_2, rfl, HA, HK2, HO_5, HB⟩ := hrel
      cases gk with
      | zero => exact absurd HA.out (by simp [spec_PartsOf.l0])
      | succ k2 =>
       have H := HA.out
       clear HA
       simp only [spec_PartsOf.l0] at H
       by_cases c9 : x29_2 < (l0.length : Int)
       · rw [if_pos c9] at H
         have c9b0 : decide (x29_2 < (l0.length : Int)) = true := decide_eq_true c9
         clear c9
         by_cases c10 : 0 ≤ x29_2
         · rw [if_pos c10] at H
           have c10b0 : decide (0 ≤ x29_2) = true := decide_eq_true c10
           clear c10
           by_cases c11 : x29_2 < (l0.length : Int)
           · rw [if_pos c11] at H
             have c11b0 : decide (x29_2 < (l0.length : Int)) = true := decide_eq_true c11
             clear c11
             replace H := Option.bind_eq_some_iff.mp H
             obtain ⟨t155, A120, H⟩ := H
             replace H : (if x29_2 < (x5_2.length : Int) then (spec_PartsOf.l0 k2 (x5_2.set (x29_2 : Int).toNat t155) l0 (l0.length : Int) (wrap64 (x29_2 + 1))) else (none)) = some (r1, r2, r3) := H
             have A12 := Aside0.mk A120
             clear A120
             by_cases c13 : x29_2 < (x5_2.length : Int)
             · rw [if_pos c13] at H
               have c13b0 : decide (x29_2 < (x5_2.length : Int)) = true := decide_eq_true c13
               clear c13
               obtain ⟨y158, hy158⟩ : ∃ y_ : List (List Int), y_ = (x5_2.set (x29_2 : Int).toNat t155) := ⟨_, rfl⟩
               replace H : (spec_PartsOf.l0 k2 y158 l0 (l0.length : Int) (wrap64 (x29_2 + 1))) = some (r1, r2, r3) := by first | (rw [hy158]; with_reducible exact H) | (have H2_ := (Option.bind_some _ _).symm.trans H; rw [hy158]; with_reducible exact H2_) | (have H2_ := (Option.bind_some _ _).symm.trans H; with_reducible exact H2_) | with_reducible exact H | (rw [hy158]; exact H) | exact H
               have Ny158 := Aside0.mk hy158
               clear hy158
               have H' := Aside0.mk H
               clear H
               have p154 : 0 ≤ (x29_2 : Int) := of_decide_eq_true (by first | (with_reducible assumption) | assumption)
               have q154 : x29_2 < (l0.length : Int) := of_decide_eq_true (by first | (with_reducible assumption) | assumption)
               obtain ⟨ad154, A154_0, c154_0, e154, hx154_0, hl154_0, hi154_0⟩ := at_L2 HR0.out x29_2 p154 q154
               cases e154
               replace hx154_0 := (HB.out.cell (World.block_lt_of_cell? w _ hx154_0)).trans hx154_0
               have HR154_0 := Aside0.mk hi154_0
               have HC154_0 := Aside0.mk hl154_0
               clear hi154_0 hl154_0
               replace p154 := eq_true p154
               replace q154 := eq_true q154
               go_wp2_with (first | (go_at_call 25; (with_reducible refine (spec_l1Own.calls _ _ (rd_L2 l0 x29_2) t155 _ ?side1 ?side2 A12.out).mono ?_); (case side1 => repeat (first | exact (Kd.C_below HR154_0.out HB.out) | (with_reducible refine Kd.C_alloc ?_ _) | (with_reducible refine Kd.C_drewN ?_ _) | (with_reducible refine Kd.C_drew ?_))); (case side2 => exact HC154_0.out); rintro e w15 ⟨v156, rfl, ho0, hb⟩; have n0_ := Aside0.mk (Kd.S_elder' (by (with_reducible repeat (first | apply Kd.S_alloc | apply Kd.S_drewN | apply Kd.S_drew)); exact HO_5.out) (Kd.R_base ho0) hb); have n1_ := Aside0.mk (Kd.R_lower ho0 (below_size (by repeat (first | (with_reducible first | exact HB.out | apply below_alloc | apply pw_below_drewN | apply below_drew1) | exact HB.out)))); have n2_ := Aside0.mk (below_step (by repeat (first | (with_reducible first | exact HB.out | apply below_alloc | apply pw_below_drewN | apply below_drew1) | exact HB.out)) hb); clear HO_5; clear HB; have HO_5 := n0_; have HO157 := n1_; have HB := n2_; clear n0_ n1_ n2_; (try clear hb); (try clear hb2); (try clear hk); (try clear hi); (try clear ho0); have p14 : 0 ≤ (x29_2 : Int) := of_decide_eq_true (by first | (with_reducible assumption) | assumption); have q14 : (x29_2 : Int) < ((x5_2.length : Int) : Int) := of_decide_eq_true (by first | (with_reducible assumption) | assumption); obtain ⟨go14, co14, eo14, gb14, gl14, cl14, HG14⟩ := Kd.S_form HO_5.out (by omega); (first | cases eo14 | (injection eo14 with ea_ en_ ec_; (first | subst ea_ | (injection ea_ with ea_; subst ea_)); subst ec_; clear en_)); have GB14 := Aside0.mk gb14; have GG14 := Aside0.mk HG14; clear gb14 gl14 HG14; obtain ⟨_, ce14, hcl14, hM14, hcc14, hfr14, _, _⟩ := Kd.S_elem HO_5.out [] (x29_2 : Int) p14 q14; obtain ⟨ve14_0, rfl, ge14_0⟩ := hM14; have hx14_0 := hcc14 0 _ rfl; have hf14_0 := hfr14 0; (try simp only [show ((Kd.slice 3 (Kd.int .i64))).sz = 1 from rfl, Nat.mul_one, Nat.add_zero] at hx14_0); (try simp only [show ((Kd.slice 3 (Kd.int .i64))).sz = 1 from rfl, Nat.mul_one, Nat.add_zero] at hf14_0); (try clear hcl14); (try clear hcc14); (try clear hfr14); (try clear hM14); replace p14 := eq_true p14; replace q14 := eq_true q14; have n_ := Aside0.mk (Kd.S_mono (ok' := (fun k_ => some k_ ≠ (v156 : Value).ownBlock)) HO_5.out (fun k_ hk => hk.2)); clear HO_5; have HO_5 := n_; clear n_; have HX16 := Aside0.mk (show Kd.S (Kd.slice 3 (Kd.int .i64)) 26 w15 w.heap.size (fun k_ => ((fun _ => True)) k_ ∧ ¬ ((fun k_ => some k_ = (v156 : Value).ownBlock)) k_) (.slice (some ⟨go14, 0, none⟩) x5_2.length co14) x5_2 from (by (with_reducible repeat (first | apply Kd.S_alloc | apply Kd.S_drewN | apply Kd.S_drew)); exact Kd.S_mono HO_5.out (fun k_ hk => ⟨trivial, fun e_ => hk e_⟩))); obtain ⟨oki16, ce16, hcl16, hM16, hcc16, hfr16, hoki16, hH16⟩ := Kd.S_elem HX16.out [] (x29_2 : Int) (of_decide_eq_true (by first | (with_reducible assumption) | assumption)) (by have h_ : (x29_2 : Int) < ((x5_2.length : Int) : Int) := of_decide_eq_true (by first | (with_reducible assumption) | assumption); first | exact h_ | (have e_ := (Kd.S_reads' HO_5.out).1; omega) | simpa using h_); obtain ⟨ve16_0, rfl, ge16_0⟩ := hM16; have HP16 := Kd.S_seg hH16 (of_decide_eq_true (by first | (with_reducible assumption) | assumption)) (by have h_ : (x29_2 : Int) < ((x5_2.length : Int) : Int) := of_decide_eq_true (by first | (with_reducible assumption) | assumption); first | exact h_ | (have e_ := (Kd.S_reads' HO_5.out).1; omega) | simpa using h_) (seg := [v156]) (j := 0) (show 1 ≤ 1 from by decide) (x' := t155) (Kd.M_row (Kd.R_mono (Kd.R_tight rfl (Kd.R_mono (ok' := fun k_ => ((fun _ => True)) k_ ∧ k_ ≠ go14) (Kd.R_apart' (HO157.out) (Kd.S_typed HO_5.out) (by decide)) (fun k_ hk => ⟨trivial, fun e_ => (hk.2) (by rw [e_]; rfl)⟩))) (fun _ h_ => Or.inr (h_)))) (fun _ hk => hk) (fun k_ hk_ => ((Kd.R_mono (ok' := fun k_ => ((fun _ => True)) k_ ∧ k_ ≠ go14) (Kd.R_apart' (HO157.out) (Kd.S_typed HO_5.out) (by decide)) (fun k_ hk => ⟨trivial, fun e_ => (hk.2) (by rw [e_]; rfl)⟩))).1 k_ hk_.symm); have hx16_0 := hcc16 0 _ rfl; (try simp only [show ((Kd.slice 3 (Kd.int .i64))).sz = 1 from rfl, Nat.mul_one, Nat.add_zero] at hx16_0); have hf16_0 := hfr16 0; (try simp only [show ((Kd.slice 3 (Kd.int .i64))).sz = 1 from rfl, Nat.mul_one, Nat.add_zero] at hf16_0); (try clear hcl16); (try clear hcc16); (try clear hfr16); (try clear hM16); (try clear hoki16); (try clear hH16); (try simp only [show ((Kd.slice 3 (Kd.int .i64))).sz = 1 from rfl, Nat.mul_one, Nat.add_zero] at HP16)) | ((with_reducible refine gate_store (t := 26) (p := 38) rfl ?_); (try (rw [drewN_self w15]; generalize hq_ : World.drewN w15 _ = w15; have n0_ := Aside0.mk (Kd.S_at hq_ HO_5.out); have n1_ := Aside0.mk (below_at hq_ HB.out); clear hq_ HO_5 HB; have HO_5 := n0_; have HB := n1_; clear n0_ n1_; (try (have n_ := Aside0.mk (Kd.S_mono (ok' := (fun k_ => some k_ ≠ (v156 : Value).ownBlock)) HO_5.out (fun k_ hk => hk.2)); clear HO_5; have HO_5 := n_; clear n_)); (try (have HX16 := Aside0.mk (show Kd.S (Kd.slice 3 (Kd.int .i64)) 26 w15 w.heap.size (fun k_ => ((fun _ => True)) k_ ∧ ¬ ((fun k_ => some k_ = (v156 : Value).ownBlock)) k_) (.slice (some ⟨go14, 0, none⟩) x5_2.length co14) x5_2 from (by (with_reducible repeat (first | apply Kd.S_alloc | apply Kd.S_drewN | apply Kd.S_drew)); exact Kd.S_mono HO_5.out (fun k_ hk => ⟨trivial, fun e_ => hk e_⟩))))); (try (obtain ⟨oki16, ce16, hcl16, hM16, hcc16, hfr16, hoki16, hH16⟩ := Kd.S_elem HX16.out [] (x29_2 : Int) (of_decide_eq_true (by first | (with_reducible assumption) | assumption)) (by have h_ : (x29_2 : Int) < ((x5_2.length : Int) : Int) := of_decide_eq_true (by first | (with_reducible assumption) | assumption); first | exact h_ | (have e_ := (Kd.S_reads' HO_5.out).1; omega) | simpa using h_))); (try (obtain ⟨ve16_0, rfl, ge16_0⟩ := hM16)); (try (have HP16 := Kd.S_seg hH16 (of_decide_eq_true (by first | (with_reducible assumption) | assumption)) (by have h_ : (x29_2 : Int) < ((x5_2.length : Int) : Int) := of_decide_eq_true (by first | (with_reducible assumption) | assumption); first | exact h_ | (have e_ := (Kd.S_reads' HO_5.out).1; omega) | simpa using h_) (seg := [v156]) (j := 0) (show 1 ≤ 1 from by decide) (x' := t155) (Kd.M_row (Kd.R_mono (Kd.R_tight rfl (Kd.R_mono (ok' := fun k_ => ((fun _ => True)) k_ ∧ k_ ≠ go14) (Kd.R_apart' (HO157.out) (Kd.S_typed HO_5.out) (by decide)) (fun k_ hk => ⟨trivial, fun e_ => (hk.2) (by rw [e_]; rfl)⟩))) (fun _ h_ => Or.inr (h_)))) (fun _ hk => hk) (fun k_ hk_ => ((Kd.R_mono (ok' := fun k_ => ((fun _ => True)) k_ ∧ k_ ≠ go14) (Kd.R_apart' (HO157.out) (Kd.S_typed HO_5.out) (by decide)) (fun k_ hk => ⟨trivial, fun e_ => (hk.2) (by rw [e_]; rfl)⟩))).1 k_ hk_.symm))); (try (have hx16_0 := hcc16 0 _ rfl)); (try (try simp only [show ((Kd.slice 3 (Kd.int .i64))).sz = 1 from rfl, Nat.mul_one, Nat.add_zero] at hx16_0)); (try (have hf16_0 := hfr16 0)); (try (try simp only [show ((Kd.slice 3 (Kd.int .i64))).sz = 1 from rfl, Nat.mul_one, Nat.add_zero] at hf16_0)); (try ((try clear hcl16); (try clear hcc16); (try clear hfr16); (try clear hM16); (try clear hoki16); (try clear hH16))); (try (try simp only [show ((Kd.slice 3 (Kd.int .i64))).sz = 1 from rfl, Nat.mul_one, Nat.add_zero] at HP16)))); refine store_event (t := 26) (p := 38) (v := ?vo_w17) (w1 := (w15.setCell ⟨go14, (x29_2 : Int).toNat, none⟩ (v156))) ?hg ?ho ?hn ?hr ?_; (case ho => rfl); (case hg => rfl); (case hn => rfl); (case hr => first | (go_simp; done) | (go_simp; rfl; done) | (obtain ⟨_, _, e_⟩ := Kd.R_slice HO157.out; subst e_; first | (go_simp; done) | (go_simp; rfl))); intro w17 hw; have hg : w15.grownBy w17 (some go14) := (by rw [hw]; exact HP16.2); have hp_ : Kd.S (Kd.slice 3 (Kd.int .i64)) 26 w17 w.heap.size (fun _ => True) (.slice (some ⟨go14, 0, none⟩) x5_2.length co14) y158 := (by rw [hw, Ny158.out]; exact HP16.1); clear HP16; have n0_ := Aside0.mk (hp_); have n1_ := Aside0.mk ((by rw [hw]; exact below_set (HB.out) GB14.out : Below w.heap.size w w17)); clear HO_5; clear HB; clear HO157; have HO_5 := n0_; have HB := n1_; clear n0_ n1_; clear hg hw hp_))
               repeat (go_quiet (first | (go_at_call 25; (with_reducible refine (spec_l1Own.calls _ _ (rd_L2 l0 x29_2) t155 _ ?side1 ?side2 A12.out).mono ?_); (case side1 => repeat (first | exact (Kd.C_below HR154_0.out HB.out) | (with_reducible refine Kd.C_alloc ?_ _) | (with_reducible refine Kd.C_drewN ?_ _) | (with_reducible refine Kd.C_drew ?_))); (case side2 => exact HC154_0.out); rintro e w15 ⟨v156, rfl, ho0, hb⟩; have n0_ := Aside0.mk (Kd.S_elder' (by (with_reducible repeat (first | apply Kd.S_alloc | apply Kd.S_drewN | apply Kd.S_drew)); exact HO_5.out) (Kd.R_base ho0) hb); have n1_ := Aside0.mk (Kd.R_lower ho0 (below_size (by repeat (first | (with_reducible first | exact HB.out | apply below_alloc | apply pw_below_drewN | apply below_drew1) | exact HB.out)))); have n2_ := Aside0.mk (below_step (by repeat (first | (with_reducible first | exact HB.out | apply below_alloc | apply pw_below_drewN | apply below_drew1) | exact HB.out)) hb); clear HO_5; clear HB; have HO_5 := n0_; have HO157 := n1_; have HB := n2_; clear n0_ n1_ n2_; (try clear hb); (try clear hb2); (try clear hk); (try clear hi); (try clear ho0); have p14 : 0 ≤ (x29_2 : Int) := of_decide_eq_true (by first | (with_reducible assumption) | assumption); have q14 : (x29_2 : Int) < ((x5_2.length : Int) : Int) := of_decide_eq_true (by first | (with_reducible assumption) | assumption); obtain ⟨go14, co14, eo14, gb14, gl14, cl14, HG14⟩ := Kd.S_form HO_5.out (by omega); (first | cases eo14 | (injection eo14 with ea_ en_ ec_; (first | subst ea_ | (injection ea_ with ea_; subst ea_)); subst ec_; clear en_)); have GB14 := Aside0.mk gb14; have GG14 := Aside0.mk HG14; clear gb14 gl14 HG14; obtain ⟨_, ce14, hcl14, hM14, hcc14, hfr14, _, _⟩ := Kd.S_elem HO_5.out [] (x29_2 : Int) p14 q14; obtain ⟨ve14_0, rfl, ge14_0⟩ := hM14; have hx14_0 := hcc14 0 _ rfl; have hf14_0 := hfr14 0; (try simp only [show ((Kd.slice 3 (Kd.int .i64))).sz = 1 from rfl, Nat.mul_one, Nat.add_zero] at hx14_0); (try simp only [show ((Kd.slice 3 (Kd.int .i64))).sz = 1 from rfl, Nat.mul_one, Nat.add_zero] at hf14_0); (try clear hcl14); (try clear hcc14); (try clear hfr14); (try clear hM14); replace p14 := eq_true p14; replace q14 := eq_true q14; have n_ := Aside0.mk (Kd.S_mono (ok' := (fun k_ => some k_ ≠ (v156 : Value).ownBlock)) HO_5.out (fun k_ hk => hk.2)); clear HO_5; have HO_5 := n_; clear n_; have HX16 := Aside0.mk (show Kd.S (Kd.slice 3 (Kd.int .i64)) 26 w15 w.heap.size (fun k_ => ((fun _ => True)) k_ ∧ ¬ ((fun k_ => some k_ = (v156 : Value).ownBlock)) k_) (.slice (some ⟨go14, 0, none⟩) x5_2.length co14) x5_2 from (by (with_reducible repeat (first | apply Kd.S_alloc | apply Kd.S_drewN | apply Kd.S_drew)); exact Kd.S_mono HO_5.out (fun k_ hk => ⟨trivial, fun e_ => hk e_⟩))); obtain ⟨oki16, ce16, hcl16, hM16, hcc16, hfr16, hoki16, hH16⟩ := Kd.S_elem HX16.out [] (x29_2 : Int) (of_decide_eq_true (by first | (with_reducible assumption) | assumption)) (by have h_ : (x29_2 : Int) < ((x5_2.length : Int) : Int) := of_decide_eq_true (by first | (with_reducible assumption) | assumption); first | exact h_ | (have e_ := (Kd.S_reads' HO_5.out).1; omega) | simpa using h_); obtain ⟨ve16_0, rfl, ge16_0⟩ := hM16; have HP16 := Kd.S_seg hH16 (of_decide_eq_true (by first | (with_reducible assumption) | assumption)) (by have h_ : (x29_2 : Int) < ((x5_2.length : Int) : Int) := of_decide_eq_true (by first | (with_reducible assumption) | assumption); first | exact h_ | (have e_ := (Kd.S_reads' HO_5.out).1; omega) | simpa using h_) (seg := [v156]) (j := 0) (show 1 ≤ 1 from by decide) (x' := t155) (Kd.M_row (Kd.R_mono (Kd.R_tight rfl (Kd.R_mono (ok' := fun k_ => ((fun _ => True)) k_ ∧ k_ ≠ go14) (Kd.R_apart' (HO157.out) (Kd.S_typed HO_5.out) (by decide)) (fun k_ hk => ⟨trivial, fun e_ => (hk.2) (by rw [e_]; rfl)⟩))) (fun _ h_ => Or.inr (h_)))) (fun _ hk => hk) (fun k_ hk_ => ((Kd.R_mono (ok' := fun k_ => ((fun _ => True)) k_ ∧ k_ ≠ go14) (Kd.R_apart' (HO157.out) (Kd.S_typed HO_5.out) (by decide)) (fun k_ hk => ⟨trivial, fun e_ => (hk.2) (by rw [e_]; rfl)⟩))).1 k_ hk_.symm); have hx16_0 := hcc16 0 _ rfl; (try simp only [show ((Kd.slice 3 (Kd.int .i64))).sz = 1 from rfl, Nat.mul_one, Nat.add_zero] at hx16_0); have hf16_0 := hfr16 0; (try simp only [show ((Kd.slice 3 (Kd.int .i64))).sz = 1 from rfl, Nat.mul_one, Nat.add_zero] at hf16_0); (try clear hcl16); (try clear hcc16); (try clear hfr16); (try clear hM16); (try clear hoki16); (try clear hH16); (try simp only [show ((Kd.slice 3 (Kd.int .i64))).sz = 1 from rfl, Nat.mul_one, Nat.add_zero] at HP16)) | ((with_reducible refine gate_store (t := 26) (p := 38) rfl ?_); (try (rw [drewN_self w15]; generalize hq_ : World.drewN w15 _ = w15; have n0_ := Aside0.mk (Kd.S_at hq_ HO_5.out); have n1_ := Aside0.mk (below_at hq_ HB.out); clear hq_ HO_5 HB; have HO_5 := n0_; have HB := n1_; clear n0_ n1_; (try (have n_ := Aside0.mk (Kd.S_mono (ok' := (fun k_ => some k_ ≠ (v156 : Value).ownBlock)) HO_5.out (fun k_ hk => hk.2)); clear HO_5; have HO_5 := n_; clear n_)); (try (have HX16 := Aside0.mk (show Kd.S (Kd.slice 3 (Kd.int .i64)) 26 w15 w.heap.size (fun k_ => ((fun _ => True)) k_ ∧ ¬ ((fun k_ => some k_ = (v156 : Value).ownBlock)) k_) (.slice (some ⟨go14, 0, none⟩) x5_2.length co14) x5_2 from (by (with_reducible repeat (first | apply Kd.S_alloc | apply Kd.S_drewN | apply Kd.S_drew)); exact Kd.S_mono HO_5.out (fun k_ hk => ⟨trivial, fun e_ => hk e_⟩))))); (try (obtain ⟨oki16, ce16, hcl16, hM16, hcc16, hfr16, hoki16, hH16⟩ := Kd.S_elem HX16.out [] (x29_2 : Int) (of_decide_eq_true (by first | (with_reducible assumption) | assumption)) (by have h_ : (x29_2 : Int) < ((x5_2.length : Int) : Int) := of_decide_eq_true (by first | (with_reducible assumption) | assumption); first | exact h_ | (have e_ := (Kd.S_reads' HO_5.out).1; omega) | simpa using h_))); (try (obtain ⟨ve16_0, rfl, ge16_0⟩ := hM16)); (try (have HP16 := Kd.S_seg hH16 (of_decide_eq_true (by first | (with_reducible assumption) | assumption)) (by have h_ : (x29_2 : Int) < ((x5_2.length : Int) : Int) := of_decide_eq_true (by first | (with_reducible assumption) | assumption); first | exact h_ | (have e_ := (Kd.S_reads' HO_5.out).1; omega) | simpa using h_) (seg := [v156]) (j := 0) (show 1 ≤ 1 from by decide) (x' := t155) (Kd.M_row (Kd.R_mono (Kd.R_tight rfl (Kd.R_mono (ok' := fun k_ => ((fun _ => True)) k_ ∧ k_ ≠ go14) (Kd.R_apart' (HO157.out) (Kd.S_typed HO_5.out) (by decide)) (fun k_ hk => ⟨trivial, fun e_ => (hk.2) (by rw [e_]; rfl)⟩))) (fun _ h_ => Or.inr (h_)))) (fun _ hk => hk) (fun k_ hk_ => ((Kd.R_mono (ok' := fun k_ => ((fun _ => True)) k_ ∧ k_ ≠ go14) (Kd.R_apart' (HO157.out) (Kd.S_typed HO_5.out) (by decide)) (fun k_ hk => ⟨trivial, fun e_ => (hk.2) (by rw [e_]; rfl)⟩))).1 k_ hk_.symm))); (try (have hx16_0 := hcc16 0 _ rfl)); (try (try simp only [show ((Kd.slice 3 (Kd.int .i64))).sz = 1 from rfl, Nat.mul_one, Nat.add_zero] at hx16_0)); (try (have hf16_0 := hfr16 0)); (try (try simp only [show ((Kd.slice 3 (Kd.int .i64))).sz = 1 from rfl, Nat.mul_one, Nat.add_zero] at hf16_0)); (try ((try clear hcl16); (try clear hcc16); (try clear hfr16); (try clear hM16); (try clear hoki16); (try clear hH16))); (try (try simp only [show ((Kd.slice 3 (Kd.int .i64))).sz = 1 from rfl, Nat.mul_one, Nat.add_zero] at HP16)))); refine store_event (t := 26) (p := 38) (v := ?vo_w17) (w1 := (w15.setCell ⟨go14, (x29_2 : Int).toNat, none⟩ (v156))) ?hg ?ho ?hn ?hr ?_; (case ho => rfl); (case hg => rfl); (case hn => rfl); (case hr => first | (go_simp; done) | (go_simp; rfl; done) | (obtain ⟨_, _, e_⟩ := Kd.R_slice HO157.out; subst e_; first | (go_simp; done) | (go_simp; rfl))); intro w17 hw; have hg : w15.grownBy w17 (some go14) := (by rw [hw]; exact HP16.2); have hp_ : Kd.S (Kd.slice 3 (Kd.int .i64)) 26 w17 w.heap.size (fun _ => True) (.slice (some ⟨go14, 0, none⟩) x5_2.length co14) y158 := (by rw [hw, Ny158.out]; exact HP16.1); clear HP16; have n0_ := Aside0.mk (hp_); have n1_ := Aside0.mk ((by rw [hw]; exact below_set (HB.out) GB14.out : Below w.heap.size w w17)); clear HO_5; clear HB; clear HO157; have HO_5 := n0_; have HB := n1_; clear n0_ n1_; clear hg hw hp_)); try go_wp2_with (first | (go_at_call 25; (with_reducible refine (spec_l1Own.calls _ _ (rd_L2 l0 x29_2) t155 _ ?side1 ?side2 A12.out).mono ?_); (case side1 => repeat (first | exact (Kd.C_below HR154_0.out HB.out) | (with_reducible refine Kd.C_alloc ?_ _) | (with_reducible refine Kd.C_drewN ?_ _) | (with_reducible refine Kd.C_drew ?_))); (case side2 => exact HC154_0.out); rintro e w15 ⟨v156, rfl, ho0, hb⟩; have n0_ := Aside0.mk (Kd.S_elder' (by (with_reducible repeat (first | apply Kd.S_alloc | apply Kd.S_drewN | apply Kd.S_drew)); exact HO_5.out) (Kd.R_base ho0) hb); have n1_ := Aside0.mk (Kd.R_lower ho0 (below_size (by repeat (first | (with_reducible first | exact HB.out | apply below_alloc | apply pw_below_drewN | apply below_drew1) | exact HB.out)))); have n2_ := Aside0.mk (below_step (by repeat (first | (with_reducible first | exact HB.out | apply below_alloc | apply pw_below_drewN | apply below_drew1) | exact HB.out)) hb); clear HO_5; clear HB; have HO_5 := n0_; have HO157 := n1_; have HB := n2_; clear n0_ n1_ n2_; (try clear hb); (try clear hb2); (try clear hk); (try clear hi); (try clear ho0); have p14 : 0 ≤ (x29_2 : Int) := of_decide_eq_true (by first | (with_reducible assumption) | assumption); have q14 : (x29_2 : Int) < ((x5_2.length : Int) : Int) := of_decide_eq_true (by first | (with_reducible assumption) | assumption); obtain ⟨go14, co14, eo14, gb14, gl14, cl14, HG14⟩ := Kd.S_form HO_5.out (by omega); (first | cases eo14 | (injection eo14 with ea_ en_ ec_; (first | subst ea_ | (injection ea_ with ea_; subst ea_)); subst ec_; clear en_)); have GB14 := Aside0.mk gb14; have GG14 := Aside0.mk HG14; clear gb14 gl14 HG14; obtain ⟨_, ce14, hcl14, hM14, hcc14, hfr14, _, _⟩ := Kd.S_elem HO_5.out [] (x29_2 : Int) p14 q14; obtain ⟨ve14_0, rfl, ge14_0⟩ := hM14; have hx14_0 := hcc14 0 _ rfl; have hf14_0 := hfr14 0; (try simp only [show ((Kd.slice 3 (Kd.int .i64))).sz = 1 from rfl, Nat.mul_one, Nat.add_zero] at hx14_0); (try simp only [show ((Kd.slice 3 (Kd.int .i64))).sz = 1 from rfl, Nat.mul_one, Nat.add_zero] at hf14_0); (try clear hcl14); (try clear hcc14); (try clear hfr14); (try clear hM14); replace p14 := eq_true p14; replace q14 := eq_true q14; have n_ := Aside0.mk (Kd.S_mono (ok' := (fun k_ => some k_ ≠ (v156 : Value).ownBlock)) HO_5.out (fun k_ hk => hk.2)); clear HO_5; have HO_5 := n_; clear n_; have HX16 := Aside0.mk (show Kd.S (Kd.slice 3 (Kd.int .i64)) 26 w15 w.heap.size (fun k_ => ((fun _ => True)) k_ ∧ ¬ ((fun k_ => some k_ = (v156 : Value).ownBlock)) k_) (.slice (some ⟨go14, 0, none⟩) x5_2.length co14) x5_2 from (by (with_reducible repeat (first | apply Kd.S_alloc | apply Kd.S_drewN | apply Kd.S_drew)); exact Kd.S_mono HO_5.out (fun k_ hk => ⟨trivial, fun e_ => hk e_⟩))); obtain ⟨oki16, ce16, hcl16, hM16, hcc16, hfr16, hoki16, hH16⟩ := Kd.S_elem HX16.out [] (x29_2 : Int) (of_decide_eq_true (by first | (with_reducible assumption) | assumption)) (by have h_ : (x29_2 : Int) < ((x5_2.length : Int) : Int) := of_decide_eq_true (by first | (with_reducible assumption) | assumption); first | exact h_ | (have e_ := (Kd.S_reads' HO_5.out).1; omega) | simpa using h_); obtain ⟨ve16_0, rfl, ge16_0⟩ := hM16; have HP16 := Kd.S_seg hH16 (of_decide_eq_true (by first | (with_reducible assumption) | assumption)) (by have h_ : (x29_2 : Int) < ((x5_2.length : Int) : Int) := of_decide_eq_true (by first | (with_reducible assumption) | assumption); first | exact h_ | (have e_ := (Kd.S_reads' HO_5.out).1; omega) | simpa using h_) (seg := [v156]) (j := 0) (show 1 ≤ 1 from by decide) (x' := t155) (Kd.M_row (Kd.R_mono (Kd.R_tight rfl (Kd.R_mono (ok' := fun k_ => ((fun _ => True)) k_ ∧ k_ ≠ go14) (Kd.R_apart' (HO157.out) (Kd.S_typed HO_5.out) (by decide)) (fun k_ hk => ⟨trivial, fun e_ => (hk.2) (by rw [e_]; rfl)⟩))) (fun _ h_ => Or.inr (h_)))) (fun _ hk => hk) (fun k_ hk_ => ((Kd.R_mono (ok' := fun k_ => ((fun _ => True)) k_ ∧ k_ ≠ go14) (Kd.R_apart' (HO157.out) (Kd.S_typed HO_5.out) (by decide)) (fun k_ hk => ⟨trivial, fun e_ => (hk.2) (by rw [e_]; rfl)⟩))).1 k_ hk_.symm); have hx16_0 := hcc16 0 _ rfl; (try simp only [show ((Kd.slice 3 (Kd.int .i64))).sz = 1 from rfl, Nat.mul_one, Nat.add_zero] at hx16_0); have hf16_0 := hfr16 0; (try simp only [show ((Kd.slice 3 (Kd.int .i64))).sz = 1 from rfl, Nat.mul_one, Nat.add_zero] at hf16_0); (try clear hcl16); (try clear hcc16); (try clear hfr16); (try clear hM16); (try clear hoki16); (try clear hH16); (try simp only [show ((Kd.slice 3 (Kd.int .i64))).sz = 1 from rfl, Nat.mul_one, Nat.add_zero] at HP16)) | ((with_reducible refine gate_store (t := 26) (p := 38) rfl ?_); (try (rw [drewN_self w15]; generalize hq_ : World.drewN w15 _ = w15; have n0_ := Aside0.mk (Kd.S_at hq_ HO_5.out); have n1_ := Aside0.mk (below_at hq_ HB.out); clear hq_ HO_5 HB; have HO_5 := n0_; have HB := n1_; clear n0_ n1_; (try (have n_ := Aside0.mk (Kd.S_mono (ok' := (fun k_ => some k_ ≠ (v156 : Value).ownBlock)) HO_5.out (fun k_ hk => hk.2)); clear HO_5; have HO_5 := n_; clear n_)); (try (have HX16 := Aside0.mk (show Kd.S (Kd.slice 3 (Kd.int .i64)) 26 w15 w.heap.size (fun k_ => ((fun _ => True)) k_ ∧ ¬ ((fun k_ => some k_ = (v156 : Value).ownBlock)) k_) (.slice (some ⟨go14, 0, none⟩) x5_2.length co14) x5_2 from (by (with_reducible repeat (first | apply Kd.S_alloc | apply Kd.S_drewN | apply Kd.S_drew)); exact Kd.S_mono HO_5.out (fun k_ hk => ⟨trivial, fun e_ => hk e_⟩))))); (try (obtain ⟨oki16, ce16, hcl16, hM16, hcc16, hfr16, hoki16, hH16⟩ := Kd.S_elem HX16.out [] (x29_2 : Int) (of_decide_eq_true (by first | (with_reducible assumption) | assumption)) (by have h_ : (x29_2 : Int) < ((x5_2.length : Int) : Int) := of_decide_eq_true (by first | (with_reducible assumption) | assumption); first | exact h_ | (have e_ := (Kd.S_reads' HO_5.out).1; omega) | simpa using h_))); (try (obtain ⟨ve16_0, rfl, ge16_0⟩ := hM16)); (try (have HP16 := Kd.S_seg hH16 (of_decide_eq_true (by first | (with_reducible assumption) | assumption)) (by have h_ : (x29_2 : Int) < ((x5_2.length : Int) : Int) := of_decide_eq_true (by first | (with_reducible assumption) | assumption); first | exact h_ | (have e_ := (Kd.S_reads' HO_5.out).1; omega) | simpa using h_) (seg := [v156]) (j := 0) (show 1 ≤ 1 from by decide) (x' := t155) (Kd.M_row (Kd.R_mono (Kd.R_tight rfl (Kd.R_mono (ok' := fun k_ => ((fun _ => True)) k_ ∧ k_ ≠ go14) (Kd.R_apart' (HO157.out) (Kd.S_typed HO_5.out) (by decide)) (fun k_ hk => ⟨trivial, fun e_ => (hk.2) (by rw [e_]; rfl)⟩))) (fun _ h_ => Or.inr (h_)))) (fun _ hk => hk) (fun k_ hk_ => ((Kd.R_mono (ok' := fun k_ => ((fun _ => True)) k_ ∧ k_ ≠ go14) (Kd.R_apart' (HO157.out) (Kd.S_typed HO_5.out) (by decide)) (fun k_ hk => ⟨trivial, fun e_ => (hk.2) (by rw [e_]; rfl)⟩))).1 k_ hk_.symm))); (try (have hx16_0 := hcc16 0 _ rfl)); (try (try simp only [show ((Kd.slice 3 (Kd.int .i64))).sz = 1 from rfl, Nat.mul_one, Nat.add_zero] at hx16_0)); (try (have hf16_0 := hfr16 0)); (try (try simp only [show ((Kd.slice 3 (Kd.int .i64))).sz = 1 from rfl, Nat.mul_one, Nat.add_zero] at hf16_0)); (try ((try clear hcl16); (try clear hcc16); (try clear hfr16); (try clear hM16); (try clear hoki16); (try clear hH16))); (try (try simp only [show ((Kd.slice 3 (Kd.int .i64))).sz = 1 from rfl, Nat.mul_one, Nat.add_zero] at HP16)))); refine store_event (t := 26) (p := 38) (v := ?vo_w17) (w1 := (w15.setCell ⟨go14, (x29_2 : Int).toNat, none⟩ (v156))) ?hg ?ho ?hn ?hr ?_; (case ho => rfl); (case hg => rfl); (case hn => rfl); (case hr => first | (go_simp; done) | (go_simp; rfl; done) | (obtain ⟨_, _, e_⟩ := Kd.R_slice HO157.out; subst e_; first | (go_simp; done) | (go_simp; rfl))); intro w17 hw; have hg : w15.grownBy w17 (some go14) := (by rw [hw]; exact HP16.2); have hp_ : Kd.S (Kd.slice 3 (Kd.int .i64)) 26 w17 w.heap.size (fun _ => True) (.slice (some ⟨go14, 0, none⟩) x5_2.length co14) y158 := (by rw [hw, Ny158.out]; exact HP16.1); clear HP16; have n0_ := Aside0.mk (hp_); have n1_ := Aside0.mk ((by rw [hw]; exact below_set (HB.out) GB14.out : Below w.heap.size w w17)); clear HO_5; clear HB; clear HO157; have HO_5 := n0_; have HB := n1_; clear n0_ n1_; clear hg hw hp_)))
               go_roundg k2
               case measure => have := HJ1.out; have := HK2.out; omega
               case rel => exact ⟨(y158), (wrap64 (x29_2 + 1)), (by first | rfl | (simp; done) | (simp [*]; done)), H', ⟨by have := HJ1.out; have := HK2.out; omega⟩, ⟨by (with_reducible repeat (first | apply Kd.S_alloc | apply Kd.S_drewN | apply Kd.S_drew)); exact HO_5.out⟩, ⟨by repeat (first | (with_reducible first | exact HB.out | apply below_alloc | apply pw_below_drewN | apply below_drew1) | exact HB.out)⟩⟩
             · rw [if_neg c13] at H
               exact absurd H (by simp)
           · rw [if_neg c11] at H
             exact absurd H (by simp)
         · rw [if_neg c10] at H
           exact absurd H (by simp)
       · rw [if_neg c9] at H
         have c9b0 : decide (x29_2 < (l0.length : Int)) = false := decide_eq_false c9
         clear c9
         have H' := Aside0.mk H
         clear H
         go_wp2
         repeat (go_quiet (fail); try go_wp2)
         obtain ⟨n1, hn1, hS1⟩ := cut_above HO_5.out
         have HN1 := Aside0.mk (Nat.le_of_eq hn1)
         have HBN := Aside0.mk (show w.heap.size ≤ n1 by rw [hn1]; exact HB.out.size)
         have HO_5b := Aside0.mk hS1
         clear HO_5 hS1 hn1
         have HO_5 := HO_5b
         clear HO_5b
         go_loopg [8, 9] k2 (fun kq v8 v9 w' => ∃ (x5_3 : List (List Int)) (x8_3 : List (List Int)) (x9_3 : List Int), Aside0 (spec_PartsOf.l1 kq x5_3 x8_3 x9_3 = some (r1, r2, r3)) ∧ Aside0 (kq ≤ k2) ∧ Aside0 (Kd.S (Kd.slice 3 (Kd.int .i64)) 26 w' w.heap.size (fun k_ => k_ < n1) v152 x5_3) ∧ Aside0 (Kd.N (Kd.slice 3 (Kd.int .i64)) 26 w' w.heap.size (fun k_ => n1 ≤ k_ ∧ some k_ ≠ (v9 : Value).ownBlock) v8 x8_3) ∧ Aside0 (Kd.R (Kd.int .i64) 3 w' w.heap.size (fun k_ => n1 ≤ k_) v9 x9_3) ∧ Aside0 (Below w.heap.size w w') ∧ Aside0 (n1 ≤ w'.heap.size))
         case atStart => exact ⟨(x5_2), (([] : List (List Int))), (([] : List Int)), H', ⟨Nat.le_refl _⟩, ⟨by (with_reducible repeat (first | apply Kd.S_alloc | apply Kd.S_drewN | apply Kd.S_drew)); exact HO_5.out⟩, ⟨Kd.N_nil _ _ _ _ _⟩, ⟨Kd.R_nil _ _ _ _ _⟩, ⟨by repeat (first | (with_reducible first | exact HB.out | apply below_alloc | apply pw_below_drewN | apply below_drew1) | exact HB.out)⟩, HN1⟩
         case round =>
          clear H'
          obtain ⟨x5_3, x8_3, x9_3, HA, HK3, HO_5, HO_8, HO_9, HB, HNW⟩ := hrel
          have HNR := Aside0.mk HNW.out
          obtain ⟨b0, hb0⟩ : ∃ b, b = wr.heap.size := ⟨_, rfl⟩
          have HB0 := Aside0.mk (show n1 ≤ b0 by rw [hb0]; exact HNW.out)
          cases gk with
          | zero => exact absurd HA.out (by simp [spec_PartsOf.l1])
          | succ k3 =>
           have H := HA.out
           clear HA
           simp only [spec_PartsOf.l1] at H
           obtain ⟨s, hs, H⟩ := Option.bind_eq_some_iff.mp H
           have A18 := Aside0.mk hs
           clear hs
           obtain ⟨Ao25, co25, eo25⟩ := Kd.S_slice HO_5.out
           subst eo25
           by_cases c19 : s > 0
           · rw [if_pos c19] at H
             have c19b0 : decide (0 < s) = true := decide_eq_true c19
             clear c19
             obtain ⟨q, hq, H⟩ := Option.bind_eq_some_iff.mp H
             have A20 := Aside0.mk hq
             clear hq
             generalize hpq : rd_L2 q 0 = p at H
             by_cases hc : 0 < q.length ∧ 0 < p.length ∧ pOk x5_3 p 0 = true
             · rw [if_pos hc] at H
               obtain ⟨hq0, hp0, hok0⟩ := hc
               obtain ⟨c, hcl, H⟩ := Option.bind_eq_some_iff.mp H
               obtain ⟨y, hy, H⟩ := Option.bind_eq_some_iff.mp H
               by_cases hb8 : x8_3.length < 1000000 ∧ x9_3.length < 1000000
               · rw [if_pos hb8] at H
                 have H' := Aside0.mk H
                 have HCL := Aside0.mk hcl
                 have HY := Aside0.mk hy
                 have HB8 := Aside0.mk hb8
                 have HQ0 := Aside0.mk hq0
                 have HP0 := Aside0.mk hp0
                 have HOK := Aside0.mk hok0
                 clear H hcl hy hb8 hq0 hp0 hok0
                 go_wp2_with (first | (go_at_call 23; (with_reducible refine (spec_doSum.calls k3 _ _ x5_3 s _ ?side1 ?side2 A18.out).mono ?_); (case side1 => repeat (first | exact (Kd.S_reads' HO_5.out).2.2 | (with_reducible refine Kd.C_alloc ?_ _) | (with_reducible refine Kd.C_drewN ?_ _) | (with_reducible refine Kd.C_drew ?_))); (case side2 => exact (Kd.S_reads' HO_5.out).2.1); rintro e w' ⟨rfl, ⟨nd, rfl⟩⟩) | (go_at_call 26; (refine (spec_doPlacings.calls k3 _ _ x5_3 _ _ [] 1 q _ ?side1 ?side2 ?side3 ?side4 A20.out).mono ?_); (case side1 => repeat (first | exact (Kd.S_reads' HO_5.out).2.2 | (with_reducible refine Kd.C_alloc ?_ _) | (with_reducible refine Kd.C_drewN ?_ _) | (with_reducible refine Kd.C_drew ?_))); (case side2 => exact (Kd.S_reads' HO_5.out).2.1); (case side3 => exact Kd.C_nil _ _); (case side4 => exact Nat.le_refl _); rintro e w20 ⟨v44, rfl, ho0, hb⟩; obtain ⟨Aq_, cq_, eq_⟩ := Kd.N_slice ho0; subst eq_; obtain ⟨adq_, Ap_, cp_, eA_, hxq_, hVp_⟩ := first_row ho0 HQ0.out; cases eA_; rw [hpq] at hxq_ hVp_; have HP := Aside0.mk (Kd.V_mono (ok' := fun k_ => b0 ≤ k_) hVp_ (fun k_ hk_ => by rw [hb0]; exact hk_)); have HL8 := Aside0.mk (show ∀ k, (u8 : Value).ownBlock = some k → k < b0 from fun k h_ => by rw [hb0]; exact Kd.N_lt HO_8.out k h_); have HL9 := Aside0.mk (show ∀ k, (u9 : Value).ownBlock = some k → k < b0 from fun k h_ => by rw [hb0]; exact Kd.R_lt HO_9.out k h_); have HS20 := Aside0.mk (show b0 ≤ w20.heap.size by rw [hb0]; exact hb.size); have n0_ := Aside0.mk (Kd.S_below (by (with_reducible repeat (first | apply Kd.S_alloc | apply Kd.S_drewN | apply Kd.S_drew)); exact HO_5.out) hb); have n1_ := Aside0.mk (Kd.N_below (Kd.N_drewN HO_8.out _) hb); have n2_ := Aside0.mk (Kd.R_below (Kd.R_drewN HO_9.out _) hb); have n3_ := Aside0.mk (below_step (by repeat (first | (with_reducible first | exact HB.out | apply below_alloc | apply pw_below_drewN | apply below_drew1) | exact HB.out)) hb); have n4_ := Aside0.mk (Nat.le_trans HNW.out hb.size); clear HO_5 HO_8 HO_9 HB HNW ho0 hb hVp_; have HO_5 := n0_; have HO_8 := n1_; have HO_9 := n2_; have HB := n3_; have HNW := n4_; clear n0_ n1_ n2_ n3_ n4_; obtain ⟨ad0_, go0_, cc0_, e0_, ⟨hx0_, hy0_, hf0_⟩, _, _, _⟩ := ent_at HO_5.out HOK.out; cases e0_; rw [Addr.add_zero'] at hx0_; replace hx0_ : w20.cell? ad0_ = some (.slice (some ⟨go0_, 0, none⟩) (rd_L2 x5_3 0).length cc0_) := hx0_; replace hy0_ : w20.cell? ⟨go0_, (rd p 0).toNat, none⟩ = some (.int .i64 (pEnt x5_3 p 0)) := hy0_; clear hf0_; obtain ⟨adp_, ep_, hxp_⟩ := Kd.at_int (Kd.V_reads' HP.out).2.2 0 (Int.le_refl 0) (by have := HP0.out; omega); cases ep_; rw [show ((0 : Int)).toNat = 0 from rfl, Addr.add_zero'] at hxp_; obtain ⟨j1_, j2_, j3_⟩ := pOk_iff.1 HOK.out; replace j1_ := eq_true j1_; have j2b_ : (0 ≤ rd p 0) = True := eq_true j2_; have j3b_ : (rd p 0 < ((rd_L2 x5_3 0).length : Int)) = True := eq_true j3_; have j0_ := eq_true HP0.out; have q0_ := eq_true HQ0.out))
                 repeat (go_quiet (fail); try go_wp2)

                 go_loopg [11, 57] p.length (fun kq v11 v57 w' => ∃ (i : Nat) (a : Int), v11 = .int .i64 a ∧ v57 = .int .i64 (i : Int) ∧ i + kq = p.length ∧ Aside0 (pLeast x5_3 p kq i a = some c) ∧ ∃ nd, w' = w20.drewN nd)
                 case atStart => exact ⟨0, pEnt x5_3 p 0, rfl, by first | rfl | go_num, by omega, HCL, by first | exact ⟨_, rfl⟩ | exact ⟨0, rfl⟩ | exact ⟨1, rfl⟩⟩
                 case round =>
                  clear hx0_ hy0_ hxp_ hxq_ j1_ j2b_ j3b_ j2_ j3_ q0_
                  obtain ⟨i, a, rfl, rfl, hik, HL, nd2, rfl⟩ := hrel
                  cases gk with
                  | succ d =>
                   have H := HL.out
                   unfold pLeast at H
                   by_cases hk : pOk x5_3 p i = true
                   · rw [if_pos hk] at H
                     have HL2 := Aside0.mk H
                     clear H HL
                     obtain ⟨ad0_, go0_, cc0_, e0_, ⟨hx0_, hy0_, hf0_⟩, _, _, _⟩ := ent_at (Kd.S_drewN HO_5.out nd2) hk
                     cases e0_
                     obtain ⟨adp_, ep_, hxp_⟩ := Kd.at_int (Kd.C_drewN (Kd.V_reads' HP.out).2.2 nd2) (i : Int) (Int.natCast_nonneg i) (by omega)
                     cases ep_
                     rw [Int.toNat_natCast] at hxp_
                     obtain ⟨j1_, j2_, j3_⟩ := pOk_iff.1 hk
                     have i1_ : ((i : Int) < (p.length : Int)) = True := eq_true (by omega)
                     have i1b_ : (i < p.length) = True := eq_true (by omega)
                     have i2_ : ((i : Int) < (x5_3.length : Int)) = True := eq_true (by omega)
                     replace j1_ := eq_true j1_
                     replace j2_ := eq_true j2_
                     replace j3_ := eq_true j3_
                     go_wp2_with (go_at_call 27; (refine (spec_l1Least.calls a (pEnt x5_3 p i) (min a (pEnt x5_3 p i)) _ (l1Least_eq _ _)).mono ?_); rintro e w' ⟨rfl, ⟨nd3, rfl⟩⟩)
                     have hpl_ : p.length ≤ 9223372036854775807 := (Kd.V_reads' HP.out).2.2.2.1
                     go_roundg d
                     case measure => omega
                     case rel => exact ⟨i + 1, _, rfl, by rw [wsucc (show i < p.length by omega) hpl_], by omega, HL2, by first | exact ⟨_, rfl⟩ | exact ⟨0, rfl⟩ | exact ⟨1, rfl⟩⟩
                   · rw [if_neg hk] at H
                     cases H
                  | zero =>
                   have H := HL.out
                   unfold pLeast at H
                   obtain rfl := Option.some.inj H
                   clear H HL
                   have i1_ : ((i : Int) < (p.length : Int)) = False := eq_false (by omega)
                   have i1b_ : (i < p.length) = False := eq_false (by omega)
                   go_wp2
                   go_loopg [74] p.length (fun kq v74 w' => ∃ (i : Nat) (z : List (List Int)), v74 = .int .i64 (i : Int) ∧ i + kq = p.length ∧ Aside0 (pSub p a kq i z = some y) ∧ Aside0 (Kd.S (Kd.slice 3 (Kd.int .i64)) 26 w' w.heap.size (fun k_ => k_ < n1) (.slice (some ad0_) x5_3.length co25) z) ∧ Aside0 (KeptUp n1 w20 w') ∧ Aside0 (Below w.heap.size w w'))
                   case atStart => exact ⟨0, x5_3, rfl, by omega, HY, ⟨by (with_reducible repeat (first | apply Kd.S_alloc | apply Kd.S_drewN | apply Kd.S_drew)); exact HO_5.out⟩, ⟨KeptUp.refl _ _⟩, ⟨by repeat (first | (with_reducible first | exact HB.out | apply below_alloc | apply pw_below_drewN | apply below_drew1) | exact HB.out)⟩⟩
                   case round =>
                    clear i1_ i1b_ hik HO_5 HB
                    obtain ⟨i, z, rfl, hik, HZ, HO_5, HKU, HB⟩ := hrel
                    cases gk with
                    | succ d =>
                     have H := HZ.out
                     unfold pSub at H
                     by_cases hk : pOk z p i = true
                     · rw [if_pos hk] at H
                       have HZ2 := Aside0.mk H
                       clear H HZ
                       obtain ⟨ad1_, go1_, cc1_, e1_, ⟨hx1_, hy1_, hf1_⟩, hg1_, hn1_, hne1_⟩ := ent_at HO_5.out hk
                       cases e1_
                       obtain ⟨k1_, k2_⟩ := ent_put HO_5.out hk hx1_ (wrap64 (pEnt z p i - a))
                       obtain ⟨adp_, ep_, hxp_⟩ := Kd.at_int (Kd.V_reads' (Kd.V_step HP.out (fun k_ hk_ hl_ => HKU.out.2 k_ (Nat.le_trans HB0.out hk_) hl_))).2.2 (i : Int) (Int.natCast_nonneg i) (by omega)
                       cases ep_
                       rw [Int.toNat_natCast] at hxp_
                       obtain ⟨j1_, j2_, j3_⟩ := pOk_iff.1 hk
                       have i1_ : ((i : Int) < (p.length : Int)) = True := eq_true (by omega)
                       have i1b_ : (i < p.length) = True := eq_true (by omega)
                       have hzl_ : x5_3.length = z.length := (Kd.S_reads' HO_5.out).1
                       have i2_ : ((i : Int) < (x5_3.length : Int)) = True := eq_true (by omega)
                       have i2b_ : (i < x5_3.length) = True := eq_true (by omega)
                       clear hzl_
                       replace j1_ := eq_true j1_
                       replace j2_ := eq_true j2_
                       replace j3_ := eq_true j3_
                       have hpl_ : p.length ≤ 9223372036854775807 := (Kd.V_reads' HP.out).2.2.2.1
                       have HK1 := Aside0.mk k1_
                       have HK2 := Aside0.mk k2_
                       have HG1 := Aside0.mk hg1_
                       have HNN1 := Aside0.mk hn1_
                       clear k1_ k2_ hg1_ hn1_ hne1_
                       go_wp2
                       go_roundg d
                       case measure => omega
                       case rel => exact ⟨i + 1, _, by first | rfl | (rw [wsucc (show i < p.length by omega) hpl_]; done) | rw [wsucc (show i < p.length by omega) hpl_], by omega, HZ2, HK1, ⟨KeptUp.grown HKU.out HK2.out HNN1.out⟩, ⟨below_set HB.out HG1.out⟩⟩
                     · rw [if_neg hk] at H
                       cases H
                    | zero =>
                     have H := HZ.out
                     unfold pSub at H
                     obtain rfl := Option.some.inj H
                     clear H HZ
                     have i1_ : ((i : Int) < (p.length : Int)) = False := eq_false (by omega)
                     have i1b_ : (i < p.length) = False := eq_false (by omega)
                     have hz1_ := Aside0.mk (Kd.N_step HO_8.out (fun k_ hk_ hl_ => HKU.out.2 k_ hk_.1 hl_))
                     have hz2_ := Aside0.mk (Kd.R_step HO_9.out (fun k_ hk_ hl_ => HKU.out.2 k_ hk_ hl_))
                     have hz3_ := Aside0.mk (Kd.V_step HP.out (fun k_ hk_ hl_ => HKU.out.2 k_ (Nat.le_trans HB0.out hk_) hl_))
                     have hz4_ := Aside0.mk (Nat.le_trans HS20.out HKU.out.1)
                     clear HO_8 HO_9 HP HKU
                     have HO_8 := hz1_
                     have HO_9 := hz2_
                     have HP := hz3_
                     clear hz1_ hz2_ hz3_
                     go_wp2_with (first | ((with_reducible refine gate_dst (N := 93) rfl ?_); refine Kd.N_append (Kd.slice 3 (Kd.int .i64)) (w0 := w) w.heap.size rfl (.tmp 90) (.tmp 92) 24 26 (.slice none 0 0) 24 rfl Try.underlying24 info26 rfl (by decide) (by omega) u8 x8_3 p [.slice (some adp_) p.length cp_] (fun k_ => n1 ≤ k_ ∧ some k_ ≠ (u9 : Value).ownBlock) (fun k_ => b0 ≤ k_) rfl rfl ?aP ?aK ?aF ?aO ?aB ?aS ?aL ?_; (case aP => exact Kd.FK_slice_mk (Kd.V_reads' HP.out).2.1 (by (with_reducible repeat (first | apply Kd.F_alloc | apply Kd.F_drewN | apply Kd.F_drew)); exact Kd.V_F HP.out)); (case aK => exact (fun k_ hk_ => ⟨⟨Nat.le_trans HB0.out hk_, fun e_ => Nat.lt_irrefl _ (Nat.lt_of_lt_of_le (HL9.out k_ e_.symm) hk_)⟩, fun e_ => Nat.lt_irrefl _ (Nat.lt_of_lt_of_le (HL8.out k_ e_.symm) hk_)⟩)); (case aF => exact (fun k_ hk_ => ⟨Nat.le_trans HB0.out (Nat.le_trans hz4_.out hk_), fun e_ => Nat.lt_irrefl _ (Nat.lt_of_lt_of_le (HL9.out k_ e_.symm) (Nat.le_trans hz4_.out hk_))⟩)); (case aO => exact (by (with_reducible repeat (first | apply Kd.N_alloc | apply Kd.N_drewN | apply Kd.N_drew)); exact HO_8.out)); (case aB => exact (by repeat (first | (with_reducible first | exact HB.out | apply below_alloc | apply pw_below_drewN | apply below_drew1) | exact HB.out))); (case aS => exact HB.out.size); (case aL => have := HB8.out; omega); intro v95 w95 ho hb hg hat; have n0_ := Aside0.mk (Kd.S_grown (by (with_reducible repeat (first | apply Kd.S_alloc | apply Kd.S_drewN | apply Kd.S_drew)); exact HO_5.out) hg (fun k_ hk_ e_ => Nat.lt_irrefl _ (Nat.lt_of_lt_of_le hk_ (HO_8.out.1 k_ e_.symm).1))); have n1_ := Aside0.mk (Kd.R_mono (ok' := fun k_ => n1 ≤ k_) (Kd.R_grown (Kd.R_tight rfl (by (with_reducible repeat (first | apply Kd.R_alloc | apply Kd.R_drewN | apply Kd.R_drew)); exact HO_9.out)) hg (fun k_ hk_ e_ => (HO_8.out.1 k_ e_.symm).2 hk_)) (fun k_ hk_ => HO_9.out.1 k_ hk_.symm)); have n2_ := Aside0.mk ho; have n3_ := Aside0.mk hb; have n4_ := Aside0.mk (Nat.le_trans hz4_.out hg.size); clear HO_5 HO_9 HO_8 HB hz4_ ho hb hg hat; have HO_5 := n0_; have HO_9 := n1_; have HO_8 := n2_; have HB := n3_; have hz4_ := n4_; clear n0_ n1_ n2_ n3_ n4_) | ((with_reducible refine gate_dst (N := 97) rfl ?_); refine Kd.R_append (Kd.int .i64) (w0 := w) w.heap.size rfl (.tmp 94) (.tmp 96) 26 3 (.int .i64 0) 8 rfl Try.underlying26 info3 rfl (by decide) (by omega) u9 x9_3 a [.int .i64 a] (fun k_ => n1 ≤ k_) (fun _ => False) rfl rfl ?aP (fun _ hk => hk.elim) ?aF ?aO ?aB ?aS ?aL ?_; (case aP => exact rfl); (case aF => exact (fun k_ hk_ => Nat.le_trans HB0.out (Nat.le_trans hz4_.out hk_))); (case aO => exact (by (with_reducible repeat (first | apply Kd.R_alloc | apply Kd.R_drewN | apply Kd.R_drew)); exact HO_9.out)); (case aB => exact (by repeat (first | (with_reducible first | exact HB.out | apply below_alloc | apply pw_below_drewN | apply below_drew1) | exact HB.out))); (case aS => exact HB.out.size); (case aL => have := HB8.out; omega); intro v97 w97 ho hb hg hat; have n0_ := Aside0.mk (Kd.S_grown (by (with_reducible repeat (first | apply Kd.S_alloc | apply Kd.S_drewN | apply Kd.S_drew)); exact HO_5.out) hg (fun k_ hk_ e_ => Nat.lt_irrefl _ (Nat.lt_of_lt_of_le hk_ (HO_9.out.1 k_ e_.symm)))); have n1_ := Aside0.mk (Kd.N_after (by (with_reducible repeat (first | apply Kd.N_alloc | apply Kd.N_drewN | apply Kd.N_drew)); exact HO_8.out) hg hat); have n2_ := Aside0.mk ho; have n3_ := Aside0.mk hb; have n4_ := Aside0.mk (Nat.le_trans hz4_.out hg.size); clear HO_5 HO_9 HO_8 HB hz4_ ho hb hg hat; have HO_5 := n0_; have HO_8 := n1_; have HO_9 := n2_; have HB := n3_; have hz4_ := n4_; clear n0_ n1_ n2_ n3_ n4_))
                     go_roundg k3
                     case measure => omega
                     case rel => exact ⟨_, x8_3 ++ [p], x9_3 ++ [a], H', ⟨by have := HK3.out; omega⟩, HO_5, HO_8, HO_9, HB, ⟨Nat.le_trans HB0.out hz4_.out⟩⟩
               · rw [if_neg hb8] at H
                 cases H
             · rw [if_neg hc] at H
               cases H
           · rw [if_neg c19] at H
             have c19b0 : decide (0 < s) = false := decide_eq_false c19
             clear c19
             simp only [Option.some.injEq, Prod.mk.injEq] at H
             obtain ⟨rfl, rfl, rfl⟩ := H
             go_wp2_with (first | (go_at_call 23; (with_reducible refine (spec_doSum.calls k3 _ _ x5_3 s _ ?side1 ?side2 A18.out).mono ?_); (case side1 => repeat (first | exact (Kd.S_reads' HO_5.out).2.2 | (with_reducible refine Kd.C_alloc ?_ _) | (with_reducible refine Kd.C_drewN ?_ _) | (with_reducible refine Kd.C_drew ?_))); (case side2 => exact (Kd.S_reads' HO_5.out).2.1); rintro e w' ⟨rfl, ⟨nd, rfl⟩⟩))
             go_ret3
             exact ⟨_, _, rfl, Kd.N_mono (Kd.N_drewN HO_8.out _) (fun k hk => ⟨Nat.le_trans HBN.out hk.1, hk.2⟩), Kd.R_mono (Kd.R_drewN HO_9.out _) (fun _ _ => trivial), by repeat (first | (with_reducible first | exact HB.out | apply below_alloc | apply pw_below_drewN | apply below_drew1) | exact HB.out)⟩
end Go.Proofs.Ytgcgecbdmomceaa.A
