/- What the law FnExactJoinOf reaches, part 3: Lean functions with the same answers as the Go functions, the proofs that the Go code comes to these answers, and lemmas about them; no condition beyond those that each theorem names. -/
import Derived.Test.YtbobgkpmlbihnaaCFnExactJoinOf1
import Derived.Test.YtbobgkpmlbihnaaCFnExactJoinOf2
-- made by a program of this repo (wip/pp.py) through the kit's printer
namespace Go.Proofs.Ytbobgkpmlbihnaa.A
open Go.RowKit Go.Proofs.YtbobgkpmlbihnaaW.PrintWords Go.Proofs.YtbobgkpmlbihnaaW.PrintLast Go.Proofs.YtbobgkpmlbihnaaW.PrintMore
attribute [local go_sem] max2_int min2_int max_two min_two max_three min_three max_four min_four
set_option linter.unusedVariables false
set_option linter.unusedSimpArgs false

/-! ### impl_MeetOf: function 31 -/
def impl_MeetOf.f (k : Nat) (l0 : List Int) (l1 : List Int) : Option (List Int × Bool) := (impl_areLists.f k l0 l1).bind fun t504 => (if t504 = true then ((impl_doFit.f k l0 l1).bind fun t505 => (if t505 = true then ((impl_meet.f k l0 l1).bind fun t506 => (some (t506, true))) else (some (([] : List Int), false)))) else (some (([] : List Int), false)))
theorem impl_MeetOf.mono : ∀ a0 a1 k, LeO (impl_MeetOf.f k a0 a1) (impl_MeetOf.f (k + 1) a0 a1) := by
  intro a0 a1 k
  unfold impl_MeetOf.f
  repeat' first
      | (with_reducible exact impl_areLists.mono _ _ _)
      | (with_reducible exact impl_doFit.mono _ _ _)
      | (with_reducible exact impl_meet.mono _ _ _)
      | (with_reducible exact LeO.refl _)
      | (with_reducible exact LeO.none _)
      | (with_reducible refine LeO.ite ?_ ?_)
      | (with_reducible refine LeO.bind ?_ (fun _ => ?_))
      | exact impl_areLists.mono _ _ _
      | exact impl_doFit.mono _ _ _
      | exact impl_meet.mono _ _ _
      | exact LeO.none _
      | refine LeO.ite ?_ ?_
      | refine LeO.bind ?_ (fun _ => ?_)
set_option maxHeartbeats 8000000 in
set_option maxRecDepth 100000 in
theorem impl_MeetOf.calls (k : Nat) (A0 : Option Addr) (c0 : Nat) (l0 : List Int) (A1 : Option Addr) (c1 : Nat) (l1 : List Int) (r1 : List Int) (r2 : Bool) (w : World) (hr0 : Kd.C (Kd.int .i64) w A0 l0.length l0) (hc0 : l0.length ≤ c0) (hr1 : Kd.C (Kd.int .i64) w A1 l1.length l1) (hc1 : l1.length ≤ c1) (h : impl_MeetOf.f k l0 l1 = some (r1, r2)) :
    Calls Try.prog 31 #[.slice A0 l0.length c0, .slice A1 l1.length c1] w fun e w' => ∃ v0_ : Value, e = .returned (.tuple #[v0_, .bool r2]) ∧ Kd.R (Kd.int .i64) 3 w' w.heap.size (fun _ => True) v0_ r1 ∧ Below w.heap.size w w' := by
  have HR0 := Aside0.mk hr0
  have HC0 := Aside0.mk hc0
  clear hr0 hc0
  have HR1 := Aside0.mk hr1
  have HC1 := Aside0.mk hc1
  clear hr1 hc1
  have HB := Aside0.mk (Below.refl w.heap.size w)
  have H : ((impl_areLists.f k l0 l1).bind fun t504 => (if t504 = true then ((impl_doFit.f k l0 l1).bind fun t505 => (if t505 = true then ((impl_meet.f k l0 l1).bind fun t506 => (some (t506, true))) else (some (([] : List Int), false)))) else (some (([] : List Int), false)))) = some (r1, r2) := h
  clear h
  replace H := Option.bind_eq_some_iff.mp H
  obtain ⟨t504, A30, H⟩ := H
  replace H : (if t504 = true then ((impl_doFit.f k l0 l1).bind fun t505 => (if t505 = true then ((impl_meet.f k l0 l1).bind fun t506 => (some (t506, true))) else (some (([] : List Int), false)))) else (some (([] : List Int), false))) = some (r1, r2) := H
  have A3 := Aside0.mk A30
  clear A30
  by_cases c4 : t504 = true
  · subst c4
    have H1 : ((impl_doFit.f k l0 l1).bind fun t505 => (if t505 = true then ((impl_meet.f k l0 l1).bind fun t506 => (some (t506, true))) else (some (([] : List Int), false)))) = some (r1, r2) := by rw [if_pos rfl] at H; exact H
    clear H
    have H := H1
    clear H1
    replace H := Option.bind_eq_some_iff.mp H
    obtain ⟨t505, A50, H⟩ := H
    replace H : (if t505 = true then ((impl_meet.f k l0 l1).bind fun t506 => (some (t506, true))) else (some (([] : List Int), false))) = some (r1, r2) := H
    have A5 := Aside0.mk A50
    clear A50
    by_cases c6 : t505 = true
    · subst c6
      have H1 : ((impl_meet.f k l0 l1).bind fun t506 => (some (t506, true))) = some (r1, r2) := by rw [if_pos rfl] at H; exact H
      clear H
      have H := H1
      clear H1
      replace H := Option.bind_eq_some_iff.mp H
      obtain ⟨t506, A70, H⟩ := H
      replace H : (some (t506, true)) = some (r1, r2) := H
      have A7 := Aside0.mk A70
      clear A70
      simp only [Option.some.injEq, Prod.mk.injEq] at H
      obtain ⟨rfl, rfl⟩ := H
      go_enter Try.func31, Try.ntmps31
      go_wp2_with (first | ((with_reducible refine gate_callee (f := 50) rfl ?_); refine goesL_ (some 8) rfl rfl Try.func50 (by kernel_rfl) rfl #[.slice A0 l0.length c0, .slice A1 l1.length c1] rfl (by (try simp only [List.map_toArray, List.map_cons, List.map_nil]); first | done | rfl | (simp only [List.length_drop, List.length_take]; rfl)) ?_; (with_reducible refine (impl_areLists.calls k _ _ l0 _ _ l1 true _ ?side1 ?side2 ?side3 ?side4 A3.out).mono ?_); (case side1 => repeat (first | exact HR0.out | (with_reducible refine Kd.C_alloc ?_ _) | (with_reducible refine Kd.C_drewN ?_ _) | (with_reducible refine Kd.C_drew ?_))); (case side2 => exact HC0.out); (case side3 => repeat (first | exact HR1.out | (with_reducible refine Kd.C_alloc ?_ _) | (with_reducible refine Kd.C_drewN ?_ _) | (with_reducible refine Kd.C_drew ?_))); (case side4 => exact HC1.out); rintro e w' ⟨rfl, ⟨nd, rfl⟩⟩; refine ⟨_, rfl, ?_⟩) | (go_at_call 54; (with_reducible refine (impl_doFit.calls k _ _ l0 _ _ l1 true _ ?side1 ?side2 ?side3 ?side4 A5.out).mono ?_); (case side1 => repeat (first | exact HR0.out | (with_reducible refine Kd.C_alloc ?_ _) | (with_reducible refine Kd.C_drewN ?_ _) | (with_reducible refine Kd.C_drew ?_))); (case side2 => exact HC0.out); (case side3 => repeat (first | exact HR1.out | (with_reducible refine Kd.C_alloc ?_ _) | (with_reducible refine Kd.C_drewN ?_ _) | (with_reducible refine Kd.C_drew ?_))); (case side4 => exact HC1.out); rintro e w' ⟨rfl, ⟨nd, rfl⟩⟩) | ((with_reducible refine gate_callee (f := 59) rfl ?_); refine goesL_ (some 18) rfl rfl Try.func59 (by kernel_rfl) rfl #[.slice A0 l0.length c0, .slice A1 l1.length c1] rfl (by (try simp only [List.map_toArray, List.map_cons, List.map_nil]); first | done | rfl | (simp only [List.length_drop, List.length_take]; rfl)) ?_; (with_reducible refine (impl_meet.calls k _ _ l0 _ _ l1 t506 _ ?side1 ?side2 ?side3 ?side4 A7.out).mono ?_); (case side1 => repeat (first | exact HR0.out | (with_reducible refine Kd.C_alloc ?_ _) | (with_reducible refine Kd.C_drewN ?_ _) | (with_reducible refine Kd.C_drew ?_))); (case side2 => exact HC0.out); (case side3 => repeat (first | exact HR1.out | (with_reducible refine Kd.C_alloc ?_ _) | (with_reducible refine Kd.C_drewN ?_ _) | (with_reducible refine Kd.C_drew ?_))); (case side4 => exact HC1.out); rintro e w8 ⟨v507, rfl, ho0, hb⟩; refine ⟨_, rfl, ?_⟩; have n0_ := Aside0.mk (Kd.R_lower ho0 (below_size (by repeat (first | (with_reducible first | exact HB.out | apply below_alloc | apply pw_below_drewN | apply below_drew1) | exact HB.out)))); have n1_ := Aside0.mk (below_step (by repeat (first | (with_reducible first | exact HB.out | apply below_alloc | apply pw_below_drewN | apply below_drew1) | exact HB.out)) hb); clear HB; have HO508 := n0_; have HB := n1_; clear n0_ n1_; (try clear hb); (try clear hb2); (try clear hk); (try clear hi); (try clear ho0)))
      go_ret2
      exact ⟨_, by first | rfl | (simp [errW_none, errW_some] <;> rfl) | (simp [*, errW_none, errW_some] <;> rfl), by (with_reducible repeat (first | apply Kd.R_alloc | apply Kd.R_drewN | apply Kd.R_drew)); exact HO508.out, by repeat (first | (with_reducible first | exact HB.out | apply below_alloc | apply pw_below_drewN | apply below_drew1) | exact HB.out)⟩
    · replace c6 := Bool.eq_false_iff.mpr c6
      subst c6
      have H1 : (some (([] : List Int), false)) = some (r1, r2) := by rw [if_neg (show ¬ (false = true) by decide)] at H; exact H
      clear H
      have H := H1
      clear H1
      simp only [Option.some.injEq, Prod.mk.injEq] at H
      obtain ⟨rfl, rfl⟩ := H
      go_enter Try.func31, Try.ntmps31
      go_wp2_with (first | ((with_reducible refine gate_callee (f := 50) rfl ?_); refine goesL_ (some 8) rfl rfl Try.func50 (by kernel_rfl) rfl #[.slice A0 l0.length c0, .slice A1 l1.length c1] rfl (by (try simp only [List.map_toArray, List.map_cons, List.map_nil]); first | done | rfl | (simp only [List.length_drop, List.length_take]; rfl)) ?_; (with_reducible refine (impl_areLists.calls k _ _ l0 _ _ l1 true _ ?side1 ?side2 ?side3 ?side4 A3.out).mono ?_); (case side1 => repeat (first | exact HR0.out | (with_reducible refine Kd.C_alloc ?_ _) | (with_reducible refine Kd.C_drewN ?_ _) | (with_reducible refine Kd.C_drew ?_))); (case side2 => exact HC0.out); (case side3 => repeat (first | exact HR1.out | (with_reducible refine Kd.C_alloc ?_ _) | (with_reducible refine Kd.C_drewN ?_ _) | (with_reducible refine Kd.C_drew ?_))); (case side4 => exact HC1.out); rintro e w' ⟨rfl, ⟨nd, rfl⟩⟩; refine ⟨_, rfl, ?_⟩) | (go_at_call 54; (with_reducible refine (impl_doFit.calls k _ _ l0 _ _ l1 false _ ?side1 ?side2 ?side3 ?side4 A5.out).mono ?_); (case side1 => repeat (first | exact HR0.out | (with_reducible refine Kd.C_alloc ?_ _) | (with_reducible refine Kd.C_drewN ?_ _) | (with_reducible refine Kd.C_drew ?_))); (case side2 => exact HC0.out); (case side3 => repeat (first | exact HR1.out | (with_reducible refine Kd.C_alloc ?_ _) | (with_reducible refine Kd.C_drewN ?_ _) | (with_reducible refine Kd.C_drew ?_))); (case side4 => exact HC1.out); rintro e w' ⟨rfl, ⟨nd, rfl⟩⟩))
      go_ret2
      exact ⟨_, by first | rfl | (simp [errW_none, errW_some] <;> rfl) | (simp [*, errW_none, errW_some] <;> rfl), by first | exact Kd.R_nil _ _ _ _ _ | exact Kd.N_nil _ _ _ _ _ | exact Kd.V_nil _ _ _ _ _ | exact Kd.Q_nil _ _ _ _ _ | exact Kd.S_nil _ _ _ _ _, by repeat (first | (with_reducible first | exact HB.out | apply below_alloc | apply pw_below_drewN | apply below_drew1) | exact HB.out)⟩
  · replace c4 := Bool.eq_false_iff.mpr c4
    subst c4
    have H1 : (some (([] : List Int), false)) = some (r1, r2) := by rw [if_neg (show ¬ (false = true) by decide)] at H; exact H
    clear H
    have H := H1
    clear H1
    simp only [Option.some.injEq, Prod.mk.injEq] at H
    obtain ⟨rfl, rfl⟩ := H
    go_enter Try.func31, Try.ntmps31
    go_wp2_with (first | ((with_reducible refine gate_callee (f := 50) rfl ?_); refine goesL_ (some 8) rfl rfl Try.func50 (by kernel_rfl) rfl #[.slice A0 l0.length c0, .slice A1 l1.length c1] rfl (by (try simp only [List.map_toArray, List.map_cons, List.map_nil]); first | done | rfl | (simp only [List.length_drop, List.length_take]; rfl)) ?_; (with_reducible refine (impl_areLists.calls k _ _ l0 _ _ l1 false _ ?side1 ?side2 ?side3 ?side4 A3.out).mono ?_); (case side1 => repeat (first | exact HR0.out | (with_reducible refine Kd.C_alloc ?_ _) | (with_reducible refine Kd.C_drewN ?_ _) | (with_reducible refine Kd.C_drew ?_))); (case side2 => exact HC0.out); (case side3 => repeat (first | exact HR1.out | (with_reducible refine Kd.C_alloc ?_ _) | (with_reducible refine Kd.C_drewN ?_ _) | (with_reducible refine Kd.C_drew ?_))); (case side4 => exact HC1.out); rintro e w' ⟨rfl, ⟨nd, rfl⟩⟩; refine ⟨_, rfl, ?_⟩))
    go_ret2
    exact ⟨_, by first | rfl | (simp [errW_none, errW_some] <;> rfl) | (simp [*, errW_none, errW_some] <;> rfl), by first | exact Kd.R_nil _ _ _ _ _ | exact Kd.N_nil _ _ _ _ _ | exact Kd.V_nil _ _ _ _ _ | exact Kd.Q_nil _ _ _ _ _ | exact Kd.S_nil _ _ _ _ _, by repeat (first | (with_reducible first | exact HB.out | apply below_alloc | apply pw_below_drewN | apply below_drew1) | exact HB.out)⟩

end Go.Proofs.Ytbobgkpmlbihnaa.A

namespace Go.Proofs.Ytbobgkpmlbihnaa.A
open Go.RowKit Go.Proofs.YtbobgkpmlbihnaaW.PrintWords Go.Proofs.YtbobgkpmlbihnaaW.PrintLast Go.Proofs.YtbobgkpmlbihnaaW.PrintMore
set_option linter.unusedVariables false
set_option linter.unusedSimpArgs false
theorem l1In_eq (a b c : Int) : spec_l1In.f a b c = some (decide (b ≤ a ∧ a ≤ c)) := by
  unfold spec_l1In.f
  by_cases h : b ≤ a <;> simp [h]
theorem within_eq (a b c : Int) : impl_within.f a b c = some (decide (b ≤ a ∧ a ≤ c)) := by
  unfold impl_within.f
  by_cases h : b ≤ a <;> simp [h]
end Go.Proofs.Ytbobgkpmlbihnaa.A

namespace Go.Proofs.Ytbobgkpmlbihnaa.A
open Go.RowKit Go.Proofs.YtbobgkpmlbihnaaW.PrintWords Go.Proofs.YtbobgkpmlbihnaaW.PrintLast Go.Proofs.YtbobgkpmlbihnaaW.PrintMore
set_option linter.unusedVariables false
set_option linter.unusedSimpArgs false
def inR (lo hi : Int) (xs : List Int) : Bool := xs.all fun x => decide (lo ≤ x ∧ x ≤ hi)
theorem l1All_ev (xs : List Int) (lo hi : Int) (hx : xs.length ≤ 9223372036854775807) : Ev (fun k => spec_l1All.f k xs lo hi) (inR lo hi xs) := by
  have h := ev_all (xs := xs) (g := fun k i => spec_l1All.l0 k lo hi xs (xs.length : Int) i) (fun x => decide (lo ≤ x ∧ x ≤ hi))
    (Ev.succ (by simp only [spec_l1All.l0, if_neg (Int.lt_irrefl _)]; exact Ev.now _))
    (fun i h r hp hr => Ev.succ (by
      simp only [spec_l1All.l0, if_pos (show (i : Int) < (xs.length : Int) by omega), if_pos (show (0 : Int) ≤ (i : Int) by omega), rdn h, l1In_eq, Option.bind_some, hp, if_true, wsucc h hx]
      exact hr))
    (fun i h hp => Ev.succ (by
      simp only [spec_l1All.l0, if_pos (show (i : Int) < (xs.length : Int) by omega), if_pos (show (0 : Int) ≤ (i : Int) by omega), rdn h, l1In_eq, Option.bind_some, hp]
      exact Ev.now _)) xs.length 0 (by omega)
  exact h
theorem allWithin_ev (xs : List Int) (lo hi : Int) (hx : xs.length ≤ 9223372036854775807) : Ev (fun k => impl_allWithin.f k xs lo hi) (inR lo hi xs) := by
  have h := ev_all (xs := xs) (g := fun k i => impl_allWithin.l0 k lo hi xs (xs.length : Int) i) (fun x => decide (lo ≤ x ∧ x ≤ hi))
    (Ev.succ (by simp only [impl_allWithin.l0, if_neg (Int.lt_irrefl _)]; exact Ev.now _))
    (fun i h r hp hr => Ev.succ (by
      simp only [impl_allWithin.l0, if_pos (show (i : Int) < (xs.length : Int) by omega), if_pos (show (0 : Int) ≤ (i : Int) by omega), rdn h, within_eq, Option.bind_some, hp, if_true, wsucc h hx]
      exact hr))
    (fun i h hp => Ev.succ (by
      simp only [impl_allWithin.l0, if_pos (show (i : Int) < (xs.length : Int) by omega), if_pos (show (0 : Int) ≤ (i : Int) by omega), rdn h, within_eq, Option.bind_some, hp]
      exact Ev.now _)) xs.length 0 (by omega)
  exact h
end Go.Proofs.Ytbobgkpmlbihnaa.A

namespace Go.Proofs.Ytbobgkpmlbihnaa.A
open Go.RowKit Go.Proofs.YtbobgkpmlbihnaaW.PrintWords Go.Proofs.YtbobgkpmlbihnaaW.PrintLast Go.Proofs.YtbobgkpmlbihnaaW.PrintMore
set_option linter.unusedVariables false
set_option linter.unusedSimpArgs false
def goodL (xs : List Int) : Bool := if (1 : Int) ≤ xs.length ∧ (xs.length : Int) ≤ 8 then inR 0 60 xs else false
theorem goodL_iff (xs : List Int) : goodL xs = true ↔ 1 ≤ xs.length ∧ xs.length ≤ 8 ∧ ∀ x ∈ xs, 0 ≤ x ∧ x ≤ 60 := by
  unfold goodL inR
  by_cases h : (1 : Int) ≤ xs.length ∧ (xs.length : Int) ≤ 8
  · rw [if_pos h]
    simp only [List.all_eq_true, decide_eq_true_eq]
    exact ⟨fun h' => ⟨by omega, by omega, h'⟩, fun h' => h'.2.2⟩
  · rw [if_neg h]
    constructor
    · intro h'
      cases h'
    · intro h'
      omega
theorem liGood_ev (xs : List Int) (hx : xs.length ≤ 9223372036854775807) : Ev (fun k => spec_liGood.f k xs) (goodL xs) := by
  unfold spec_liGood.f goodL
  simp only [l1In_eq, Option.bind_some, decide_eq_true_eq]
  exact Ev.ite (fun _ => Ev.bind (l1All_ev xs 0 60 hx) (Ev.now _)) (fun _ => Ev.now _)
theorem implIsList_ev (xs : List Int) (hx : xs.length ≤ 9223372036854775807) : Ev (fun k => impl_IsList.f k xs) (goodL xs) := by
  unfold impl_IsList.f goodL
  simp only [within_eq, Option.bind_some, decide_eq_true_eq]
  exact Ev.ite (fun _ => Ev.bind (allWithin_ev xs 0 60 hx) (Ev.now _)) (fun _ => Ev.now _)
end Go.Proofs.Ytbobgkpmlbihnaa.A

namespace Go.Proofs.Ytbobgkpmlbihnaa.A
open Go.RowKit Go.Proofs.YtbobgkpmlbihnaaW.PrintWords Go.Proofs.YtbobgkpmlbihnaaW.PrintLast Go.Proofs.YtbobgkpmlbihnaaW.PrintMore
set_option linter.unusedVariables false
set_option linter.unusedSimpArgs false
theorem l1Own_eq (l : List Int) (hx : l.length ≤ 1048576) : spec_l1Own.f l = some l := by
  unfold spec_l1Own.f
  simp only [Option.bind_some, List.nil_append, List.length_nil, Nat.zero_add, if_pos (show l.length < 17592186044416 by omega)]
end Go.Proofs.Ytbobgkpmlbihnaa.A

namespace Go.Proofs.Ytbobgkpmlbihnaa.A
open Go.RowKit Go.Proofs.YtbobgkpmlbihnaaW.PrintWords Go.Proofs.YtbobgkpmlbihnaaW.PrintLast Go.Proofs.YtbobgkpmlbihnaaW.PrintMore
set_option linter.unusedVariables false
set_option linter.unusedSimpArgs false
def insD : List Int → Int → List Int
  | [], x => [x]
  | y :: ys, x => if x ≤ y then y :: insD ys x else x :: y :: ys
def Desc (l : List Int) : Prop := l.Pairwise fun x y => y ≤ x
theorem insD_at (x : Int) : ∀ (out : List Int) (j : Nat), j ≤ out.length → (∀ i, i < j → ∀ h : i < out.length, x ≤ out[i]) → (∀ h : j < out.length, ¬ x ≤ out[j]) → insD out x = out.take j ++ [x] ++ out.drop j
  | [], j, hj, _, _ => by simp [insD]
  | y :: ys, 0, _, _, h => by
    have := h (by simp)
    simp only [List.getElem_cons_zero] at this
    simp [insD, this]
  | y :: ys, j + 1, hj, h1, h2 => by
    have h0 := h1 0 (by omega) (by simp)
    simp only [List.getElem_cons_zero] at h0
    have ih := insD_at x ys j (by simpa using hj) (fun i hi h => by have := h1 (i + 1) (by omega) (by simpa using h); simpa using this) (fun h => by have := h2 (by simpa using h); simpa using this)
    simp only [insD, if_pos h0, ih, List.take_succ_cons, List.drop_succ_cons, List.cons_append]
theorem insD_perm (x : Int) : ∀ out : List Int, (insD out x).Perm (x :: out)
  | [] => List.Perm.refl _
  | y :: ys => by
    unfold insD
    split
    · exact ((insD_perm x ys).cons y).trans (List.Perm.swap x y ys)
    · exact List.Perm.refl _
theorem insD_length (x : Int) (out : List Int) : (insD out x).length = out.length + 1 := by
  rw [(insD_perm x out).length_eq, List.length_cons]
theorem insD_desc (x : Int) : ∀ out : List Int, Desc out → Desc (insD out x)
  | [], _ => by simp [insD, Desc]
  | y :: ys, h => by
    unfold insD
    unfold Desc at h
    rw [List.pairwise_cons] at h
    split
    · next hc =>
      unfold Desc
      rw [List.pairwise_cons]
      refine ⟨fun z hz => ?_, insD_desc x ys h.2⟩
      rcases List.mem_cons.1 ((insD_perm x ys).mem_iff.1 hz) with rfl | hz
      · exact hc
      · exact h.1 z hz
    · next hc =>
      unfold Desc
      rw [List.pairwise_cons, List.pairwise_cons]
      refine ⟨fun z hz => ?_, h⟩
      rcases List.mem_cons.1 hz with rfl | hz
      · omega
      · have := h.1 z hz
        omega
theorem descL_perm (l : List Int) : (descL l).Perm l := List.mergeSort_perm l _
theorem descL_desc (l : List Int) : Desc (descL l) := by
  unfold descL Desc
  have h := List.pairwise_mergeSort (le := fun x y : Int => decide (y ≤ x)) (fun a b c h1 h2 => by simp only [decide_eq_true_eq] at *; omega) (fun a b => by simp only [Bool.or_eq_true, decide_eq_true_eq]; omega) l
  exact h.imp (fun h => by simpa using h)
theorem desc_unique {a b : List Int} (h : a.Perm b) (ha : Desc a) (hb : Desc b) : a = b :=
  List.Perm.eq_of_pairwise (le := fun x y : Int => y ≤ x) (fun x y _ _ h1 h2 => by omega) ha hb h
theorem descL_length (l : List Int) : (descL l).length = l.length := (descL_perm l).length_eq
theorem descL_mem {l : List Int} {x : Int} : x ∈ descL l ↔ x ∈ l := (descL_perm l).mem_iff
theorem descL_of_desc {l : List Int} (h : Desc l) : descL l = l := desc_unique (descL_perm l) (descL_desc l) h
theorem descL_descL (l : List Int) : descL (descL l) = descL l := descL_of_desc (descL_desc l)
theorem descL_perm_eq {a b : List Int} (h : a.Perm b) : descL a = descL b := desc_unique (((descL_perm a).trans h).trans (descL_perm b).symm) (descL_desc a) (descL_desc b)
theorem perm_sum {a b : List Int} (h : a.Perm b) : a.sum = b.sum := by
  induction h with
  | nil => rfl
  | cons x _ ih => simp only [List.sum_cons, ih]
  | swap x y l => simp only [List.sum_cons]; omega
  | trans _ _ ih1 ih2 => exact ih1.trans ih2
theorem descL_sum (l : List Int) : (descL l).sum = l.sum := perm_sum (descL_perm l)
theorem foldl_ins_perm : ∀ (l out : List Int), (l.foldl insD out).Perm (out ++ l)
  | [], out => by simp
  | x :: l, out => by
    rw [List.foldl_cons]
    refine (foldl_ins_perm l (insD out x)).trans ?_
    refine ((insD_perm x out).append_right l).trans ?_
    exact (List.perm_middle (a := x) (l₁ := out) (l₂ := l)).symm
theorem foldl_ins_desc : ∀ (l out : List Int), Desc out → Desc (l.foldl insD out)
  | [], out, h => h
  | x :: l, out, h => by
    rw [List.foldl_cons]
    exact foldl_ins_desc l _ (insD_desc x out h)
theorem foldl_ins (l : List Int) : l.foldl insD [] = descL l :=
  desc_unique ((by simpa using foldl_ins_perm l [] : (l.foldl insD []).Perm l).trans (descL_perm l).symm) (foldl_ins_desc l [] (by simp [Desc])) (descL_desc l)
def Sm (l : List Int) : Prop := l.length ≤ 1000 ∧ ∀ x ∈ l, 0 ≤ x ∧ x ≤ 1000
theorem good_sm {l : List Int} (h : goodL l = true) : Sm l := by
  have := (goodL_iff l).1 h
  exact ⟨by omega, fun x hx => by have := this.2.2 x hx; omega⟩
theorem sm_desc {l : List Int} (h : Sm l) : Sm (descL l) := ⟨by rw [descL_length]; exact h.1, fun x hx => h.2 x (descL_mem.1 hx)⟩
theorem good_desc (l : List Int) : goodL (descL l) = goodL l := by
  rw [Bool.eq_iff_iff, goodL_iff, goodL_iff, descL_length]
  simp only [descL_mem]
theorem ranking_eq {l : List Int} (h : Sm l) : impl_ranking.f l = some (descL l) := by
  unfold impl_ranking.f smallL
  rw [if_pos]
  simp only [Bool.and_eq_true, decide_eq_true_eq, List.all_eq_true]
  exact ⟨by have := h.1; omega, fun x hx => by have := h.2 x hx; omega⟩
theorem liRank_in (l : List Int) (x : Int) (i9 : Int) (out : List Int) (hout : out.length ≤ 1000000) (r : List Int) (hr : Ev (fun k => spec_liRank.l0 k (insD out x) l (l.length : Int) (wrap64 (i9 + 1))) r) :
    ∀ (n j : Nat), j + n = out.length → (∀ i, i < j → ∀ h : i < out.length, x ≤ out[i]) → Ev (fun k => spec_liRank.l1 k out x (j : Int) l (l.length : Int) i9) r
  | 0, j, h, hall => by
    refine Ev.succ ?_
    have e := insD_at x out j (by omega) hall (fun h' => by omega)
    simp only [spec_liRank.l1, if_neg (show ¬ (j : Int) < (out.length : Int) by omega), if_pos (show (0 : Int) ≤ (j : Int) by omega), if_pos (show (j : Int) ≤ (out.length : Int) by omega), Int.toNat_natCast, l1Own_eq (out.take j) (by rw [List.length_take]; omega), Option.bind_some, List.length_append, List.length_take, List.length_drop, List.length_cons, List.length_nil]
    simp only [if_pos (show min j out.length + (0 + 1) < 17592186044416 by omega), if_pos (show min j out.length + (0 + 1) + (out.length - j) < 17592186044416 by omega)]
    rw [e] at hr
    exact hr
  | n + 1, j, h, hall => by
    have hj : j < out.length := by omega
    refine Ev.succ ?_
    by_cases c : x ≤ out[j]
    · simp only [spec_liRank.l1, if_pos (show (j : Int) < (out.length : Int) by omega), if_pos (show (0 : Int) ≤ (j : Int) by omega), rdn hj, if_pos (show out[j] ≥ x from c), wsucc hj (by omega)]
      refine liRank_in l x i9 out hout r hr n (j + 1) (by omega) (fun i hi h' => ?_)
      by_cases e : i = j
      · subst e
        exact c
      · exact hall i (by omega) h'
    · have e := insD_at x out j (by omega) hall (fun h' => c)
      simp only [spec_liRank.l1, if_pos (show (j : Int) < (out.length : Int) by omega), if_pos (show (0 : Int) ≤ (j : Int) by omega), rdn hj, if_neg (show ¬ out[j] ≥ x from c), if_pos (show (j : Int) ≤ (out.length : Int) by omega), Int.toNat_natCast, l1Own_eq (out.take j) (by rw [List.length_take]; omega), Option.bind_some, List.length_append, List.length_take, List.length_drop, List.length_cons, List.length_nil]
      simp only [if_pos (show min j out.length + (0 + 1) < 17592186044416 by omega), if_pos (show min j out.length + (0 + 1) + (out.length - j) < 17592186044416 by omega)]
      rw [e] at hr
      exact hr
theorem liRank_ev (l : List Int) (hx : l.length ≤ 1000000) : Ev (fun k => spec_liRank.f k l) (descL l) := by
  unfold spec_liRank.f
  have h := ev_fold (xs := l) (g := fun k out i => spec_liRank.l0 k out l (l.length : Int) i) insD (fun out i => out.length = i) id
    (fun s _ => Ev.succ (by simp only [spec_liRank.l0, if_neg (Int.lt_irrefl _)]; exact Ev.now _))
    (fun i h s r hs _ hr => Ev.succ (by
      simp only [spec_liRank.l0, if_pos (show (i : Int) < (l.length : Int) by omega), if_pos (show (0 : Int) ≤ (i : Int) by omega), rdn h]
      exact liRank_in l l[i] (i : Int) s (by omega) r (by rw [wsucc h (by omega)]; exact hr) s.length 0 (by omega) (fun j hj => by omega)))
    (fun i h s hs => by rw [insD_length, hs]) l.length 0 [] (by omega) rfl
  rw [List.drop_zero, foldl_ins] at h
  exact h
end Go.Proofs.Ytbobgkpmlbihnaa.A

namespace Go.Proofs.Ytbobgkpmlbihnaa.A
open Go.RowKit Go.Proofs.YtbobgkpmlbihnaaW.PrintWords Go.Proofs.YtbobgkpmlbihnaaW.PrintLast Go.Proofs.YtbobgkpmlbihnaaW.PrintMore
set_option linter.unusedVariables false
set_option linter.unusedSimpArgs false
def psums : Int → List Int → List Int
  | _, [] => []
  | s, x :: l => (s + x) :: psums (s + x) l
def psStep (s : List Int × Int) (x : Int) : List Int × Int := (s.1 ++ [s.2 + x], s.2 + x)
theorem foldl_ps : ∀ (l : List Int) (s : List Int × Int), (l.foldl psStep s).1 = s.1 ++ psums s.2 l
  | [], s => by simp [psums]
  | x :: l, s => by
    rw [List.foldl_cons, foldl_ps l]
    simp [psStep, psums]
theorem psums_length : ∀ (l : List Int) (s : Int), (psums s l).length = l.length
  | [], _ => rfl
  | x :: l, s => by simp [psums, psums_length l]
theorem psums_bd : ∀ (l : List Int) (s : Int) (B : Int), 0 ≤ s → 0 ≤ B → (∀ x ∈ l, 0 ≤ x ∧ x ≤ B) → ∀ y ∈ psums s l, 0 ≤ y ∧ y ≤ s + B * l.length
  | [], s, B, _, _, _, y, hy => by simp [psums] at hy
  | x :: l, s, B, h0, hB, hx, y, hy => by
    have h1 := hx x List.mem_cons_self
    have hBl : 0 ≤ B * (l.length : Int) := Int.mul_nonneg hB (by omega)
    have e : B * ((x :: l).length : Int) = B * (l.length : Int) + B := by
      rw [List.length_cons, Int.natCast_add, Int.mul_add]
      simp
    rw [psums, List.mem_cons] at hy
    rw [e]
    rcases hy with rfl | hy
    · omega
    · have := psums_bd l (s + x) B (by omega) hB (fun z hz => hx z (List.mem_cons_of_mem _ hz)) y hy
      omega
theorem sums_bd {l : List Int} (h : Sm l) : ∀ y ∈ psums 0 l, 0 ≤ y ∧ y ≤ 1000000 := by
  intro y hy
  have h1 := psums_bd l 0 1000 (by omega) (by omega) h.2 y hy
  have h2 := h.1
  omega
theorem liSums_ev (l : List Int) (h : Sm l) : Ev (fun k => spec_liSums.f k l) (psums 0 l) := by
  unfold spec_liSums.f
  have hl := h.1
  have h := ev_fold (xs := l) (g := fun k s i => spec_liSums.l0 k s.1 s.2 l (l.length : Int) i) psStep (fun s i => s.1.length = i ∧ 0 ≤ s.2 ∧ s.2 ≤ 1000 * (i : Int)) (fun s => s.1)
    (fun s _ => Ev.succ (by simp only [spec_liSums.l0, if_neg (Int.lt_irrefl _)]; exact Ev.now _))
    (fun i hi s r hs _ hr => Ev.succ (by
      have hb := h.2 _ (List.getElem_mem hi)
      simp only [spec_liSums.l0, if_pos (show (i : Int) < (l.length : Int) by omega), if_pos (show (0 : Int) ≤ (i : Int) by omega), rdn hi, if_pos (show s.1.length < 17592186044416 by omega), wsucc hi (by omega), w64 (x := s.2 + l[i]) (by omega) (by omega)]
      exact hr))
    (fun i hi s hs => by
      have hb := h.2 _ (List.getElem_mem hi)
      simp only [psStep, List.length_append, List.length_cons, List.length_nil]
      omega) l.length 0 ([], 0) (by omega) (by simp)
  rw [List.drop_zero, foldl_ps] at h
  exact h
theorem partial_l (l : List Int) (h : Sm l) : Ev (fun k => impl_partial.l0 k [] 0 l (l.length : Int) 0) (psums 0 l) := by
  have hl := h.1
  have h := ev_fold (xs := l) (g := fun k s i => impl_partial.l0 k s.1 s.2 l (l.length : Int) i) psStep (fun s i => s.1.length = i ∧ 0 ≤ s.2 ∧ s.2 ≤ 1000 * (i : Int)) (fun s => s.1)
    (fun s _ => Ev.succ (by simp only [impl_partial.l0, if_neg (Int.lt_irrefl _)]; exact Ev.now _))
    (fun i hi s r hs _ hr => Ev.succ (by
      have hb := h.2 _ (List.getElem_mem hi)
      simp only [impl_partial.l0, if_pos (show (i : Int) < (l.length : Int) by omega), if_pos (show (0 : Int) ≤ (i : Int) by omega), rdn hi, if_pos (show s.1.length < 17592186044416 by omega), wsucc hi (by omega), w64 (x := s.2 + l[i]) (by omega) (by omega)]
      exact hr))
    (fun i hi s hs => by
      have hb := h.2 _ (List.getElem_mem hi)
      simp only [psStep, List.length_append, List.length_cons, List.length_nil]
      omega) l.length 0 ([], 0) (by omega) (by simp)
  rw [List.drop_zero, foldl_ps] at h
  exact h
def partL (l : List Int) : List Int := psums 0 (descL l)
theorem liPartial_ev (l : List Int) (h : Sm l) : Ev (fun k => spec_liPartial.f k l) (partL l) := by
  unfold spec_liPartial.f
  exact Ev.bind (liRank_ev l (by have := h.1; omega)) (Ev.bind (liSums_ev _ (sm_desc h)) (Ev.now _))
theorem partial_ev (l : List Int) (h : Sm l) : Ev (fun k => impl_partial.f k l) (partL l) := by
  unfold impl_partial.f
  simp only [ranking_eq h, Option.bind_some]
  exact partial_l _ (sm_desc h)
theorem partL_length (l : List Int) : (partL l).length = l.length := by
  unfold partL
  rw [psums_length, descL_length]
end Go.Proofs.Ytbobgkpmlbihnaa.A

namespace Go.Proofs.Ytbobgkpmlbihnaa.A
open Go.RowKit Go.Proofs.YtbobgkpmlbihnaaW.PrintWords Go.Proofs.YtbobgkpmlbihnaaW.PrintLast Go.Proofs.YtbobgkpmlbihnaaW.PrintMore
set_option linter.unusedVariables false
set_option linter.unusedSimpArgs false
theorem foldl_add : ∀ (l : List Int) (s : Int), l.foldl (fun s x => s + x) s = s + l.sum
  | [], s => by simp
  | x :: l, s => by
    rw [List.foldl_cons, foldl_add l, List.sum_cons]
    omega
theorem liSum_ev (l : List Int) (h : Sm l) : Ev (fun k => spec_liSum.f k l) l.sum := by
  unfold spec_liSum.f
  have hl := h.1
  have h := ev_fold (xs := l) (g := fun k s i => spec_liSum.l0 k s l (l.length : Int) i) (fun s x => s + x) (fun s i => 0 ≤ s ∧ s ≤ 1000 * (i : Int)) id
    (fun s _ => Ev.succ (by simp only [spec_liSum.l0, if_neg (Int.lt_irrefl _)]; exact Ev.now _))
    (fun i hi s r hs _ hr => Ev.succ (by
      have hb := h.2 _ (List.getElem_mem hi)
      simp only [spec_liSum.l0, if_pos (show (i : Int) < (l.length : Int) by omega), if_pos (show (0 : Int) ≤ (i : Int) by omega), rdn hi, wsucc hi (by omega), w64 (x := s + l[i]) (by omega) (by omega)]
      exact hr))
    (fun i hi s hs => by
      have hb := h.2 _ (List.getElem_mem hi)
      omega) l.length 0 0 (by omega) (by omega)
  rw [List.drop_zero, foldl_add, Int.zero_add] at h
  exact h
theorem total_ev (l : List Int) (h : Sm l) : Ev (fun k => impl_total.f k l) l.sum := by
  unfold impl_total.f
  have hl := h.1
  have h := ev_fold (xs := l) (g := fun k s i => impl_total.l0 k s l (l.length : Int) i) (fun s x => s + x) (fun s i => 0 ≤ s ∧ s ≤ 1000 * (i : Int)) id
    (fun s _ => Ev.succ (by simp only [impl_total.l0, if_neg (Int.lt_irrefl _)]; exact Ev.now _))
    (fun i hi s r hs _ hr => Ev.succ (by
      have hb := h.2 _ (List.getElem_mem hi)
      simp only [impl_total.l0, if_pos (show (i : Int) < (l.length : Int) by omega), if_pos (show (0 : Int) ≤ (i : Int) by omega), rdn hi, wsucc hi (by omega), w64 (x := s + l[i]) (by omega) (by omega)]
      exact hr))
    (fun i hi s hs => by
      have hb := h.2 _ (List.getElem_mem hi)
      omega) l.length 0 0 (by omega) (by omega)
  rw [List.drop_zero, foldl_add, Int.zero_add] at h
  exact h
def fitB (a b : List Int) : Bool := if (a.length : Int) = (b.length : Int) then (a.sum == b.sum) else false
theorem fitB_iff (a b : List Int) : fitB a b = true ↔ a.length = b.length ∧ a.sum = b.sum := by
  unfold fitB
  by_cases h : (a.length : Int) = (b.length : Int)
  · rw [if_pos h, beq_iff_eq]
    exact ⟨fun h' => ⟨by omega, h'⟩, fun h' => h'.2⟩
  · rw [if_neg h]
    exact ⟨fun h' => absurd h' (by decide), fun h' => absurd h'.1 (by omega)⟩
theorem liFit_ev (a b : List Int) (ha : Sm a) (hb : Sm b) : Ev (fun k => spec_liFit.f k a b) (fitB a b) := by
  unfold spec_liFit.f fitB
  exact Ev.ite (fun _ => Ev.bind (liSum_ev a ha) (Ev.bind (liSum_ev b hb) (Ev.now _))) (fun _ => Ev.now _)
theorem doFit_ev (a b : List Int) (ha : Sm a) (hb : Sm b) : Ev (fun k => impl_doFit.f k a b) (fitB a b) := by
  unfold impl_doFit.f fitB
  exact Ev.ite (fun _ => Ev.bind (total_ev a ha) (Ev.bind (total_ev b hb) (Ev.now _))) (fun _ => Ev.now _)
theorem areLists_ev (a b : List Int) (ha : a.length ≤ 1048576) (hb : b.length ≤ 1048576) : Ev (fun k => impl_areLists.f k a b) (if goodL a = true then goodL b else false) := by
  unfold impl_areLists.f
  exact Ev.bind (implIsList_ev a (by omega)) (Ev.ite (fun _ => Ev.bind (implIsList_ev b (by omega)) (Ev.now _)) (fun _ => Ev.now _))
end Go.Proofs.Ytbobgkpmlbihnaa.A

namespace Go.Proofs.Ytbobgkpmlbihnaa.A
open Go.RowKit Go.Proofs.YtbobgkpmlbihnaaW.PrintWords Go.Proofs.YtbobgkpmlbihnaaW.PrintLast Go.Proofs.YtbobgkpmlbihnaaW.PrintMore
set_option linter.unusedVariables false
set_option linter.unusedSimpArgs false
def fromL : Int → List Int → List Int
  | _, [] => []
  | l, s :: t => (s - l) :: fromL s t
theorem fromL_length : ∀ (l : Int) (s : List Int), (fromL l s).length = s.length
  | _, [] => rfl
  | l, s :: t => by simp [fromL, fromL_length s t]
theorem liFrom_l (s : List Int) (hs : ∀ y ∈ s, 0 ≤ y ∧ y ≤ 1000000) (hl : s.length ≤ 1000000) : ∀ (n i : Nat) (acc : List Int) (last : Int), i + n = s.length → acc.length = i → 0 ≤ last → last ≤ 1000000 → Ev (fun k => spec_liFrom.l0 k acc last s (s.length : Int) (i : Int)) (acc ++ fromL last (s.drop i))
  | 0, i, acc, last, h, ha, h0, h1 => by
    refine Ev.succ ?_
    simp only [spec_liFrom.l0, if_neg (show ¬ (i : Int) < (s.length : Int) by omega)]
    rw [List.drop_eq_nil_of_le (by omega), fromL, List.append_nil]
    exact Ev.now _
  | n + 1, i, acc, last, h, ha, h0, h1 => by
    have hi : i < s.length := by omega
    have hb := hs _ (List.getElem_mem hi)
    refine Ev.succ ?_
    simp only [spec_liFrom.l0, if_pos (show (i : Int) < (s.length : Int) by omega), if_pos (show (0 : Int) ≤ (i : Int) by omega), rdn hi, wsucc hi (by omega), if_pos (show acc.length < 17592186044416 by omega), w64 (x := s[i] - last) (by omega) (by omega)]
    have ih := liFrom_l s hs hl n (i + 1) (acc ++ [s[i] - last]) s[i] (by omega) (by simp [ha]) hb.1 hb.2
    rw [List.drop_eq_getElem_cons hi, fromL]
    rw [List.append_assoc] at ih
    exact ih
theorem liFrom_ev (s : List Int) (hs : ∀ y ∈ s, 0 ≤ y ∧ y ≤ 1000000) (hl : s.length ≤ 1000000) : Ev (fun k => spec_liFrom.f k s) (fromL 0 s) := by
  have h := liFrom_l s hs hl s.length 0 [] 0 (by omega) rfl (by omega) (by omega)
  exact h
theorem l1Least_eq (a b : Int) : spec_l1Least.f a b = some (min a b) := by
  unfold spec_l1Least.f
  split <;> (congr 1; omega)
def minL (p q : List Int) : List Int := List.zipWith (fun x y => min x y) p q
theorem minL_bd (p q : List Int) (hp : ∀ y ∈ p, 0 ≤ y ∧ y ≤ 1000000) (hq : ∀ y ∈ q, 0 ≤ y ∧ y ≤ 1000000) : ∀ y ∈ minL p q, 0 ≤ y ∧ y ≤ 1000000 := by
  intro y hy
  obtain ⟨i, hi, rfl⟩ := List.mem_iff_getElem.1 hy
  unfold minL at hi ⊢
  rw [List.length_zipWith] at hi
  rw [List.getElem_zipWith]
  have h1 := hp _ (List.getElem_mem (show i < p.length by omega))
  have h2 := hq _ (List.getElem_mem (show i < q.length by omega))
  omega
theorem implMeet_l (p q : List Int) (hl : p.length = q.length) (hm : p.length ≤ 1000000) (hp : ∀ y ∈ p, 0 ≤ y ∧ y ≤ 1000000) (hq : ∀ y ∈ q, 0 ≤ y ∧ y ≤ 1000000) : ∀ (n i : Nat) (acc : List Int) (last : Int), i + n = p.length → acc.length = i → 0 ≤ last → last ≤ 1000000 → Ev (fun k => impl_meet.l0 k acc last q p (p.length : Int) (i : Int)) (acc ++ fromL last ((minL p q).drop i))
  | 0, i, acc, last, h, ha, h0, h1 => by
    refine Ev.succ ?_
    simp only [impl_meet.l0, if_neg (show ¬ (i : Int) < (p.length : Int) by omega)]
    rw [List.drop_eq_nil_of_le (by unfold minL; rw [List.length_zipWith]; omega), fromL, List.append_nil]
    exact Ev.now _
  | n + 1, i, acc, last, h, ha, h0, h1 => by
    have hi : i < p.length := by omega
    have hj : i < q.length := by omega
    have b1 := hp _ (List.getElem_mem hi)
    have b2 := hq _ (List.getElem_mem hj)
    have hmn : mn p[i] q[i] = min p[i] q[i] := by unfold mn; omega
    refine Ev.succ ?_
    simp only [impl_meet.l0, if_pos (show (i : Int) < (p.length : Int) by omega), if_pos (show (i : Int) < (q.length : Int) by omega), if_pos (show (0 : Int) ≤ (i : Int) by omega), rdn hi, rdn hj, wsucc hi (by omega), if_pos (show acc.length < 17592186044416 by omega), hmn, w64 (x := min p[i] q[i] - last) (by omega) (by omega)]
    have ih := implMeet_l p q hl hm hp hq n (i + 1) (acc ++ [min p[i] q[i] - last]) (min p[i] q[i]) (by omega) (by simp [ha]) (by omega) (by omega)
    have hk : i < (minL p q).length := by unfold minL; rw [List.length_zipWith]; omega
    rw [List.drop_eq_getElem_cons hk, fromL]
    have e : (minL p q)[i] = min p[i] q[i] := by simp [minL]
    rw [e]
    rw [List.append_assoc] at ih
    exact ih
def meetL (a b : List Int) : List Int := fromL 0 (minL (partL a) (partL b))
theorem part_bd {a : List Int} (h : Sm a) : ∀ y ∈ partL a, 0 ≤ y ∧ y ≤ 1000000 := sums_bd (sm_desc h)
theorem implmeet_ev (a b : List Int) (ha : Sm a) (hb : Sm b) (hl : a.length = b.length) : Ev (fun k => impl_meet.f k a b) (meetL a b) := by
  unfold impl_meet.f
  have h1 := ha.1
  refine Ev.bind (partial_ev b hb) (Ev.bind (partial_ev a ha) ?_)
  exact implMeet_l (partL a) (partL b) (by rw [partL_length, partL_length, hl]) (by rw [partL_length]; omega) (part_bd ha) (part_bd hb) (partL a).length 0 [] 0 (by omega) rfl (by omega) (by omega)
theorem specMeet_l (p q : List Int) (hl : p.length = q.length) (hm : p.length ≤ 1000000) (hp : ∀ y ∈ p, 0 ≤ y ∧ y ≤ 1000000) (hq : ∀ y ∈ q, 0 ≤ y ∧ y ≤ 1000000) : Ev (fun k => spec_MeetOf.l0 k p q [] (p.length : Int) 0) (fromL 0 (minL p q), true) := by
  have hz : (minL p q).length = p.length := by unfold minL; rw [List.length_zipWith]; omega
  have h := ev_build (g := fun k acc i => spec_MeetOf.l0 k p q acc (p.length : Int) i) (minL p q) (fromL 0 (minL p q), true)
    (Ev.succ (by
      simp only [spec_MeetOf.l0, hz, if_neg (Int.lt_irrefl _)]
      exact Ev.bind (liFrom_ev _ (minL_bd p q hp hq) (by omega)) (Ev.now _)))
    (fun i h r hr => Ev.succ (by
      have hi : i < p.length := by rw [hz] at h; exact h
      have hj : i < q.length := by omega
      have e : (minL p q)[i] = min p[i] q[i] := by simp [minL]
      simp only [spec_MeetOf.l0, if_pos (show (i : Int) < (p.length : Int) by omega), if_pos (show (i : Int) < (q.length : Int) by omega), if_pos (show (0 : Int) ≤ (i : Int) by omega), rdn hi, rdn hj, wsucc hi (by omega), l1Least_eq, Option.bind_some, if_pos (show ((minL p q).take i).length < 17592186044416 by rw [List.length_take, hz]; omega)]
      rw [e] at hr
      exact hr)) p.length 0 (by rw [hz]; omega)
  exact h
def meetR (a b : List Int) : List Int × Bool := if goodL a = true then (if goodL b = true then (if fitB a b = true then (meetL a b, true) else ([], false)) else ([], false)) else ([], false)
theorem specMeetOf_ev (a b : List Int) (ha : a.length ≤ 1048576) (hb : b.length ≤ 1048576) : Ev (fun k => spec_MeetOf.f k a b) (meetR a b) := by
  unfold spec_MeetOf.f meetR
  have J : Ev (fun k => spec_MeetOf.j0 k a b true) (([] : List Int), false) := Ev.succ (by simp only [spec_MeetOf.j0, if_true]; exact Ev.now _)
  refine Ev.bind (liGood_ev a (by omega)) (Ev.ite (fun ga => ?_) (fun _ => J))
  refine Ev.bind (liGood_ev b (by omega)) (Ev.ite (fun gb => ?_) (fun _ => J))
  refine Ev.bind (liFit_ev a b (good_sm ga) (good_sm gb)) ?_
  by_cases hf : fitB a b = true
  · have hl := ((fitB_iff a b).1 hf).1
    have h1 := (good_sm ga).1
    simp only [hf, Bool.not_true, if_true]
    refine Ev.succ ?_
    simp only [spec_MeetOf.j0, Bool.false_eq_true, if_false]
    exact Ev.bind (liPartial_ev a (good_sm ga)) (Ev.bind (liPartial_ev b (good_sm gb)) (specMeet_l _ _ (by rw [partL_length, partL_length, hl]) (by rw [partL_length]; omega) (part_bd (good_sm ga)) (part_bd (good_sm gb))))
  · have hf' : fitB a b = false := Bool.eq_false_iff.2 hf
    simp only [hf', Bool.not_false, Bool.false_eq_true, if_false]
    exact J
theorem implMeetOf_ev (a b : List Int) (ha : a.length ≤ 1048576) (hb : b.length ≤ 1048576) : Ev (fun k => impl_MeetOf.f k a b) (meetR a b) := by
  unfold impl_MeetOf.f meetR
  refine Ev.bind (areLists_ev a b ha hb) ?_
  by_cases ga : goodL a = true
  · by_cases gb : goodL b = true
    · simp only [ga, gb, if_true]
      exact Ev.bind (doFit_ev a b (good_sm ga) (good_sm gb)) (Ev.ite (fun hf => Ev.bind (implmeet_ev a b (good_sm ga) (good_sm gb) ((fitB_iff a b).1 hf).1) (Ev.now _)) (fun _ => Ev.now _))
    · simp only [ga, if_true, if_neg gb]
      exact Ev.now _
  · simp only [if_neg ga, Bool.false_eq_true, if_false]
    exact Ev.now _
theorem meetL_length (a b : List Int) (hl : a.length = b.length) : (meetL a b).length = a.length := by
  unfold meetL minL
  rw [fromL_length, List.length_zipWith, partL_length, partL_length]
  omega
theorem meetR_len (a b : List Int) (ha : a.length ≤ 1048576) (hb : b.length ≤ 1048576) : (meetR a b).1.length ≤ 1048576 := by
  unfold meetR
  split
  · split
    · split
      · next h1 h2 h3 =>
        simp only [meetL_length a b ((fitB_iff a b).1 h3).1]
        exact ha
      · simp
    · simp
  · simp
end Go.Proofs.Ytbobgkpmlbihnaa.A

namespace Go.Proofs.Ytbobgkpmlbihnaa.A
open Go.RowKit Go.Proofs.YtbobgkpmlbihnaaW.PrintWords Go.Proofs.YtbobgkpmlbihnaaW.PrintLast Go.Proofs.YtbobgkpmlbihnaaW.PrintMore
set_option linter.unusedVariables false
set_option linter.unusedSimpArgs false
def gtN (l : List Int) (j : Nat) : Nat := l.countP fun x => decide ((j : Int) < x)
theorem gtN_le (l : List Int) (j : Nat) : gtN l j ≤ l.length := List.countP_le_length
theorem gtN_anti (l : List Int) {i j : Nat} (h : i ≤ j) : gtN l j ≤ gtN l i := List.countP_mono_left fun x _ hx => by
  simp only [decide_eq_true_eq] at hx ⊢
  omega
theorem gtN_zero (l : List Int) (m : Int) (j : Nat) (hl : ∀ x ∈ l, x ≤ m) (hj : m ≤ j) : gtN l j = 0 := by
  unfold gtN
  rw [List.countP_eq_zero]
  intro x hx
  have := hl x hx
  simp only [decide_eq_true_eq]
  omega
def mapR (n : Nat) (f : Nat → Int) : List Int := (List.range n).map f
theorem mapR_length (n : Nat) (f : Nat → Int) : (mapR n f).length = n := by simp [mapR]
theorem mapR_get (n : Nat) (f : Nat → Int) (i : Nat) (h : i < (mapR n f).length) : (mapR n f)[i] = f i := by simp [mapR]
theorem mapR_congr {n : Nat} {f g : Nat → Int} (h : ∀ i, i < n → f i = g i) : mapR n f = mapR n g := by
  unfold mapR
  exact List.map_congr_left fun i hi => h i (List.mem_range.1 hi)
theorem incT_mapR (n m : Nat) (f : Nat → Int) (hf : ∀ i, i < n → 0 ≤ f i ∧ f i ≤ 1000000000) : incT (mapR n f) m = mapR n (fun j => f j + if j < m then 1 else 0) := by
  refine List.ext_getElem (by rw [incT_length, mapR_length, mapR_length]) fun i h1 h2 => ?_
  have h3 := h1
  rw [incT_length, mapR_length] at h3
  have := hf i h3
  simp only [incT, List.getElem_append, List.length_map, List.length_take, mapR_length, List.getElem_map, List.getElem_take, List.getElem_drop, mapR_get]
  split
  · rw [w64 (by omega) (by omega), if_pos (by omega)]
  · rw [if_neg (by omega)]
    by_cases hm : m ≤ n
    · rw [show m + (i - min m n) = i from by omega]; omega
    · omega
theorem conj_fold (n : Int) (h0 : 0 ≤ n) : ∀ (l : List Int) (f : Nat → Int), l.length ≤ 1000000 → (∀ i, i < n.toNat → 0 ≤ f i ∧ f i + l.length ≤ 1000000) → l.foldl (conjStep n) (mapR n.toNat f) = mapR n.toNat (fun j => f j + (gtN l j : Nat))
  | [], f, _, _ => by
    refine mapR_congr fun i _ => ?_
    simp [gtN]
  | x :: l, f, hl, hf => by
    rw [List.foldl_cons]
    unfold conjStep
    rw [incT_mapR _ _ _ (fun i hi => by have := hf i hi; rw [List.length_cons] at this; omega)]
    have := conj_fold n h0 l (fun j => f j + if j < (min x n).toNat then 1 else 0) (by rw [List.length_cons] at hl; omega) (fun i hi => by
      have := hf i hi
      rw [List.length_cons] at this
      split <;> omega)
    unfold conjStep at this
    rw [this]
    refine mapR_congr fun i hi => ?_
    simp only [gtN, List.countP_cons, decide_eq_true_eq]
    have : i < (min x n).toNat ↔ (i : Int) < x := by omega
    simp only [this]
    split <;> simp <;> omega
theorem conjL_eq (l : List Int) (n : Int) (h0 : 0 ≤ n) (hl : l.length ≤ 1000000) : conjL l n = mapR n.toNat (fun j => (gtN l j : Int)) := by
  unfold conjL
  have e : List.replicate n.toNat (0 : Int) = mapR n.toNat (fun _ => 0) := by
    refine List.ext_getElem (by rw [mapR_length, List.length_replicate]) fun i h1 h2 => ?_
    rw [mapR_get, List.getElem_replicate]
  rw [e, conj_fold n h0 l _ hl (fun i _ => by omega)]
  refine mapR_congr fun i _ => by omega
theorem conjL_bd (l : List Int) (n : Int) (h0 : 0 ≤ n) (hl : l.length ≤ 1000) (hn : n ≤ 1000) : Sm (conjL l n) := by
  refine ⟨by rw [conjL_length]; omega, fun x hx => ?_⟩
  rw [conjL_eq l n h0 (by omega)] at hx
  obtain ⟨j, hj, rfl⟩ := List.mem_map.1 hx
  have := gtN_le l j
  omega
theorem conjL_desc (l : List Int) (n : Int) (h0 : 0 ≤ n) (hl : l.length ≤ 1000000) : Desc (conjL l n) := by
  rw [conjL_eq l n h0 hl]
  unfold Desc
  rw [List.pairwise_iff_getElem]
  intro i j hi hj hij
  rw [mapR_get, mapR_get]
  have := gtN_anti l (i := i) (j := j) (by omega)
  omega
theorem conjL_more (l : List Int) (m n : Int) (h0 : 0 ≤ m) (hm : m ≤ n) (hl : l.length ≤ 1000000) (hx : ∀ x ∈ l, x ≤ m) : conjL l n = conjL l m ++ List.replicate (n - m).toNat 0 := by
  rw [conjL_eq l n (by omega) hl, conjL_eq l m h0 hl]
  refine List.ext_getElem (by rw [List.length_append, mapR_length, mapR_length, List.length_replicate]; omega) fun i h1 h2 => ?_
  rw [mapR_get, List.getElem_append]
  split
  · rw [mapR_get]
  · next h =>
    rw [mapR_length] at h
    rw [List.getElem_replicate, gtN_zero l m i hx (by omega)]
    rfl
theorem conjL_zeros (l : List Int) (n : Int) (z : Nat) (h0 : 0 ≤ n) : conjL (l ++ List.replicate z 0) n = conjL l n := by
  unfold conjL
  rw [List.foldl_append]
  generalize l.foldl (conjStep n) (List.replicate n.toNat 0) = o
  induction z with
  | zero => rfl
  | succ z ih =>
    rw [List.replicate_succ, List.foldl_cons]
    have : conjStep n o 0 = o := by
      unfold conjStep
      rw [show (min 0 n).toNat = 0 from by omega, incT_zero]
    rw [this, ih]
theorem psums_append : ∀ (x y : List Int) (s : Int), psums s (x ++ y) = psums s x ++ psums (s + x.sum) y
  | [], y, s => by simp [psums]
  | a :: x, y, s => by
    rw [List.cons_append, psums, psums, psums_append x y, List.sum_cons, List.cons_append, Int.add_assoc]
theorem psums_zeros : ∀ (z : Nat) (s : Int), psums s (List.replicate z 0) = List.replicate z s
  | 0, _ => rfl
  | z + 1, s => by rw [List.replicate_succ, psums, Int.add_zero, psums_zeros z, List.replicate_succ]
theorem minL_append (p q x y : List Int) (h : p.length = q.length) : minL (p ++ x) (q ++ y) = minL p q ++ minL x y := List.zipWith_append h
theorem minL_rep (z : Nat) (s t : Int) : minL (List.replicate z s) (List.replicate z t) = List.replicate z (min s t) := by simp [minL]
theorem fromL_rep : ∀ (z : Nat) (s : Int), fromL s (List.replicate z s) = List.replicate z 0
  | 0, _ => rfl
  | z + 1, s => by rw [List.replicate_succ, fromL, fromL_rep z, List.replicate_succ, Int.sub_self]
theorem fromL_meet : ∀ (x y : List Int) (s t l : Int) (z : Nat), x.length = y.length → l = min s t → fromL l (minL (psums s x) (psums t y) ++ List.replicate z (min (s + x.sum) (t + y.sum))) = fromL l (minL (psums s x) (psums t y)) ++ List.replicate z 0
  | [], [], s, t, l, z, _, h => by
    subst h
    simp [psums, minL, fromL, fromL_rep]
  | [], b :: y, s, t, l, z, hl, h => by simp at hl
  | a :: x, [], s, t, l, z, hl, h => by simp at hl
  | a :: x, b :: y, s, t, l, z, hl, h => by
    have ih := fromL_meet x y (s + a) (t + b) (min (s + a) (t + b)) z (by simpa using hl) rfl
    simp only [psums, minL, List.zipWith_cons_cons, List.cons_append, fromL, List.sum_cons, ← Int.add_assoc] at ih ⊢
    rw [ih]
def meetS (p q : List Int) : List Int := fromL 0 (minL (psums 0 p) (psums 0 q))
theorem meetS_zeros (p q : List Int) (z : Nat) (h : p.length = q.length) : meetS (p ++ List.replicate z 0) (q ++ List.replicate z 0) = meetS p q ++ List.replicate z 0 := by
  unfold meetS
  rw [psums_append, psums_append, psums_zeros, psums_zeros, minL_append _ _ _ _ (by rw [psums_length, psums_length, h]), minL_rep]
  exact fromL_meet p q 0 0 0 z h rfl
theorem meetL_desc {p q : List Int} (hp : Desc p) (hq : Desc q) : meetL p q = meetS p q := by
  unfold meetL meetS partL
  rw [descL_of_desc hp, descL_of_desc hq]
end Go.Proofs.Ytbobgkpmlbihnaa.A

namespace Go.Proofs.Ytbobgkpmlbihnaa.A
open Go.RowKit Go.Proofs.YtbobgkpmlbihnaaW.PrintWords Go.Proofs.YtbobgkpmlbihnaaW.PrintLast Go.Proofs.YtbobgkpmlbihnaaW.PrintMore
set_option linter.unusedVariables false
set_option linter.unusedSimpArgs false
theorem slMax_l' (l : List Int) (hx : l.length ≤ 1048576) : ∀ (d i : Nat) (m : Int), i + d = l.length → ∃ r, Ev (fun k => slices_Max_int_int.l0 k l m (i : Int)) r ∧ ∀ n, (r ≤ n ↔ m ≤ n ∧ ∀ x ∈ l.drop i, x ≤ n)
  | 0, i, m, h => by
    refine ⟨m, Ev.succ ?_, fun n => ?_⟩
    · simp only [slices_Max_int_int.l0, if_neg (show ¬ (i : Int) < (l.length : Int) by omega)]
      exact Ev.now _
    · rw [List.drop_eq_nil_of_le (by omega)]
      simp
  | d + 1, i, m, h => by
    have hi : i < l.length := by omega
    obtain ⟨r, h1, h2⟩ := slMax_l' l hx d (i + 1) (mx m l[i]) (by omega)
    refine ⟨r, Ev.succ ?_, fun n => ?_⟩
    · simp only [slices_Max_int_int.l0, if_pos (show (i : Int) < (l.length : Int) by omega), if_pos (show (0 : Int) ≤ (i : Int) by omega), rdn hi, wsucc hi (by omega)]
      exact h1
    · rw [h2, List.drop_eq_getElem_cons hi]
      simp only [List.mem_cons, forall_eq_or_imp]
      have : mx m l[i] ≤ n ↔ m ≤ n ∧ l[i] ≤ n := by unfold mx; omega
      rw [this, and_assoc]
theorem slMax_ev' (l : List Int) (h0 : 0 < l.length) (hx : l.length ≤ 1048576) : ∃ r, Ev (fun k => slices_Max_int_int.f k l) r ∧ ∀ n, (r ≤ n ↔ ∀ x ∈ l, x ≤ n) := by
  obtain ⟨r, h1, h2⟩ := slMax_l' l hx (l.length - 1) 1 l[0] (by omega)
  refine ⟨r, ?_, fun n => ?_⟩
  · unfold slices_Max_int_int.f
    simp only [if_neg (show ¬ (l.length : Int) < 1 by omega), if_pos (show (0 : Int) < (l.length : Int) by omega), show rd l 0 = l[0] from rdn (i := 0) h0]
    exact h1
  · rw [h2]
    obtain ⟨x, t, rfl⟩ : ∃ x t, l = x :: t := by
      cases l with
      | nil => simp at h0
      | cons x t => exact ⟨x, t, rfl⟩
    simp
theorem slMax_good {l : List Int} (hg : goodL l = true) : ∃ r, Ev (fun k => slices_Max_int_int.f k l) r ∧ 0 ≤ r ∧ r ≤ 60 ∧ ∀ x ∈ l, x ≤ r := by
  have hb := (goodL_iff l).1 hg
  obtain ⟨r, h1, h2⟩ := slMax_ev' l (by omega) (by omega)
  refine ⟨r, h1, ?_, (h2 60).2 fun x hx => (hb.2.2 x hx).2, (h2 r).1 (Int.le_refl _)⟩
  have := (h2 r).1 (Int.le_refl _) _ (List.getElem_mem (show 0 < l.length by omega))
  have := (hb.2.2 _ (List.getElem_mem (show 0 < l.length by omega))).1
  omega
theorem specliMeet_l (p q : List Int) (hl : p.length = q.length) (hm : p.length ≤ 1000000) (hp : ∀ y ∈ p, 0 ≤ y ∧ y ≤ 1000000) (hq : ∀ y ∈ q, 0 ≤ y ∧ y ≤ 1000000) : Ev (fun k => spec_liMeet.l0 k p q [] (p.length : Int) 0) (fromL 0 (minL p q)) := by
  have hz : (minL p q).length = p.length := by unfold minL; rw [List.length_zipWith]; omega
  have h := ev_build (g := fun k acc i => spec_liMeet.l0 k p q acc (p.length : Int) i) (minL p q) (fromL 0 (minL p q))
    (Ev.succ (by
      simp only [spec_liMeet.l0, hz, if_neg (Int.lt_irrefl _)]
      exact Ev.bind (liFrom_ev _ (minL_bd p q hp hq) (by omega)) (Ev.now _)))
    (fun i h r hr => Ev.succ (by
      have hi : i < p.length := by rw [hz] at h; exact h
      have hj : i < q.length := by omega
      have e : (minL p q)[i] = min p[i] q[i] := by simp [minL]
      simp only [spec_liMeet.l0, if_pos (show (i : Int) < (p.length : Int) by omega), if_pos (show (i : Int) < (q.length : Int) by omega), if_pos (show (0 : Int) ≤ (i : Int) by omega), rdn hi, rdn hj, wsucc hi (by omega), l1Least_eq, Option.bind_some, if_pos (show ((minL p q).take i).length < 17592186044416 by rw [List.length_take, hz]; omega)]
      rw [e] at hr
      exact hr)) p.length 0 (by rw [hz]; omega)
  exact h
theorem specliMeet_ev (a b : List Int) (ha : Sm a) (hb : Sm b) (hl : a.length = b.length) : Ev (fun k => spec_liMeet.f k a b) (meetS a b) := by
  unfold spec_liMeet.f meetS
  have h1 := ha.1
  refine Ev.bind (liSums_ev a ha) (Ev.bind (liSums_ev b hb) ?_)
  exact specliMeet_l _ _ (by rw [psums_length, psums_length, hl]) (by rw [psums_length]; omega) (sums_bd ha) (sums_bd hb)
def joinL (a b : List Int) : List Int := conjL (meetS (conjL a 60) (conjL b 60)) (a.length : Int)
def joinR (a b : List Int) : List Int × Bool := if goodL a = true then (if goodL b = true then (if fitB a b = true then (joinL a b, true) else ([], false)) else ([], false)) else ([], false)
theorem meetS_length (a b : List Int) (hl : a.length = b.length) : (meetS a b).length = a.length := by
  unfold meetS minL
  rw [fromL_length, List.length_zipWith, psums_length, psums_length]
  omega
theorem joinL_max (a b : List Int) (m : Int) (h0 : 0 ≤ m) (hm : m ≤ 60) (hla : a.length ≤ 1000) (hlb : b.length ≤ 1000) (ha : ∀ x ∈ a, x ≤ m) (hb : ∀ x ∈ b, x ≤ m) : conjL (meetS (conjL a m) (conjL b m)) (a.length : Int) = joinL a b := by
  unfold joinL
  rw [conjL_more a m 60 h0 hm (by omega) ha, conjL_more b m 60 h0 hm (by omega) hb, meetS_zeros _ _ _ (by rw [conjL_length, conjL_length]), conjL_zeros _ _ _ (by omega)]
theorem specJoinOf_ev (a b : List Int) (ha : a.length ≤ 1048576) (hb : b.length ≤ 1048576) : Ev (fun k => spec_JoinOf.f k a b) (joinR a b) := by
  unfold spec_JoinOf.f joinR
  have J : Ev (fun k => spec_JoinOf.j0 k a b true) (([] : List Int), false) := Ev.succ (by simp only [spec_JoinOf.j0, if_true]; exact Ev.now _)
  refine Ev.bind (liGood_ev a (by omega)) (Ev.ite (fun ga => ?_) (fun _ => J))
  refine Ev.bind (liGood_ev b (by omega)) (Ev.ite (fun gb => ?_) (fun _ => J))
  refine Ev.bind (liFit_ev a b (good_sm ga) (good_sm gb)) ?_
  by_cases hf : fitB a b = true
  · simp only [hf, Bool.not_true, if_true]
    refine Ev.succ ?_
    simp only [spec_JoinOf.j0, Bool.false_eq_true, if_false]
    have hla := (good_sm ga).1
    have hlb := (good_sm gb).1
    refine Ev.bind (liConjugate_ev a 60 ha (by omega) (by omega)) (Ev.bind (liConjugate_ev b 60 hb (by omega) (by omega)) (Ev.bind (specliMeet_ev _ _ (conjL_bd a 60 (by omega) hla (by omega)) (conjL_bd b 60 (by omega) hlb (by omega)) (by rw [conjL_length, conjL_length])) (Ev.bind (liConjugate_ev _ _ ?_ (by omega) (by omega)) (Ev.now _))))
    rw [meetS_length _ _ (by rw [conjL_length, conjL_length]), conjL_length]
    omega
  · have hf' : fitB a b = false := Bool.eq_false_iff.2 hf
    simp only [hf', Bool.not_false, Bool.false_eq_true, if_false]
    exact J
theorem implJoinOf_ev (a b : List Int) (ha : a.length ≤ 1048576) (hb : b.length ≤ 1048576) : Ev (fun k => impl_JoinOf.f k a b) (joinR a b) := by
  unfold impl_JoinOf.f joinR
  have J : Ev (fun k => impl_JoinOf.j0 k a b true) (([] : List Int), false) := Ev.succ (by simp only [impl_JoinOf.j0, if_true]; exact Ev.now _)
  refine Ev.bind (areLists_ev a b ha hb) ?_
  by_cases ga : goodL a = true
  · by_cases gb : goodL b = true
    · simp only [ga, gb, if_true]
      refine Ev.bind (doFit_ev a b (good_sm ga) (good_sm gb)) ?_
      by_cases hf : fitB a b = true
      · simp only [hf, Bool.not_true, if_true]
        refine Ev.succ ?_
        simp only [impl_JoinOf.j0, Bool.false_eq_true, if_false]
        have hla := (good_sm ga).1
        have hlb := (good_sm gb).1
        obtain ⟨r, e1, r0, r1, rx⟩ := slMax_good ga
        obtain ⟨s, e2, s0, s1, sx⟩ := slMax_good gb
        have hm : mx r s = max r s := by unfold mx; omega
        refine Ev.bind e1 (Ev.bind e2 ?_)
        rw [hm]
        have hL := joinL_max a b (max r s) (by omega) (by omega) hla hlb (fun x hx => by have := rx x hx; omega) (fun x hx => by have := sx x hx; omega)
        rw [← meetL_desc (conjL_desc a _ (by omega) (by omega)) (conjL_desc b _ (by omega) (by omega))] at hL
        rw [← hL]
        refine Ev.bind (implConj_ev a _ ha (by omega) (by omega)) (Ev.bind (implConj_ev b _ hb (by omega) (by omega)) (Ev.bind (implmeet_ev _ _ (conjL_bd a _ (by omega) hla (by omega)) (conjL_bd b _ (by omega) hlb (by omega)) (by rw [conjL_length, conjL_length])) (Ev.bind (implConj_ev _ _ ?_ (by omega) (by omega)) (Ev.now _))))
        rw [meetL_length _ _ (by rw [conjL_length, conjL_length]), conjL_length]
        omega
      · have hf' : fitB a b = false := Bool.eq_false_iff.2 hf
        simp only [hf', Bool.not_false, Bool.false_eq_true, if_false]
        exact J
    · simp only [ga, if_true, if_neg gb]
      exact J
  · simp only [if_neg ga, Bool.false_eq_true, if_false]
    exact J
theorem joinR_len (a b : List Int) (ha : a.length ≤ 1048576) (hb : b.length ≤ 1048576) : (joinR a b).1.length ≤ 1048576 := by
  unfold joinR
  split
  · split
    · split
      · simp only [joinL, conjL_length]
        omega
      · simp
    · simp
  · simp
end Go.Proofs.Ytbobgkpmlbihnaa.A

namespace Go.Proofs.Ytbobgkpmlbihnaa.A
open Go.RowKit Go.Proofs.YtbobgkpmlbihnaaW.PrintWords Go.Proofs.YtbobgkpmlbihnaaW.PrintLast Go.Proofs.YtbobgkpmlbihnaaW.PrintMore
set_option linter.unusedVariables false
set_option linter.unusedSimpArgs false
def marks (a : Int) (n : Nat) : List Int := (List.range n).map fun (j : Nat) => a + (j : Int)
theorem marks_length (a : Int) (n : Nat) : (marks a n).length = n := by simp [marks]
theorem marks_get (a : Int) (n i : Nat) (h : i < (marks a n).length) : (marks a n)[i] = a + (i : Int) := by simp [marks]
theorem markIntS_l (a : Int) (m : Nat) (h0 : 0 ≤ a) (hm : a + m ≤ 9223372036854775807) : ∀ (n i : Nat) (xs : List Int), i + n = m → xs.length = m → xs.take i = (marks a m).take i → Ev (fun k => laws_markIntS.l0 k xs (a + (i : Int)) (i : Int)) (a + (m : Int), marks a m)
  | 0, i, xs, h, hl, ht => by
    refine Ev.succ ?_
    simp only [laws_markIntS.l0, if_neg (show ¬ (i : Int) < (xs.length : Int) by omega)]
    rw [List.take_of_length_le (by omega), List.take_of_length_le (by rw [marks_length]; omega)] at ht
    rw [ht, show i = m by omega]
    exact Ev.now _
  | n + 1, i, xs, h, hl, ht => by
    have hi : i < xs.length := by omega
    refine Ev.succ ?_
    simp only [laws_markIntS.l0, if_pos (show (i : Int) < (xs.length : Int) by omega), if_pos (show (0 : Int) ≤ (i : Int) by omega), wsucc hi (by omega), Int.toNat_natCast, show wrap64 (a + (i : Int) + 1) = a + ((i + 1 : Nat) : Int) from by rw [w64 (by omega) (by omega)]; omega]
    refine markIntS_l a m h0 hm n (i + 1) _ (by omega) (by rw [List.length_set]; exact hl) ?_
    rw [List.take_add_one, List.take_add_one, List.take_set_of_le (Nat.le_refl _), ht]
    congr 1
    rw [List.getElem?_set_self (by omega), List.getElem?_eq_getElem (by rw [marks_length]; omega), marks_get]
theorem markIntS_ev (xs : List Int) (a : Int) (h0 : 0 ≤ a) (hm : a + xs.length ≤ 9223372036854775807) : Ev (fun k => laws_markIntS.f k xs a) (a + (xs.length : Int), marks a xs.length) := by
  have h := markIntS_l a xs.length h0 hm xs.length 0 xs (by omega) rfl (by simp)
  simp only [show a + ((0 : Nat) : Int) = a by omega] at h
  exact h
theorem heldIntS_l (a : Int) (m : Nat) (h0 : 0 ≤ a) (hm : a + m ≤ 9223372036854775807) : ∀ (n i : Nat), i + n = m → Ev (fun k => laws_heldIntS.l0 k (marks a m) (a + (i : Int)) (i : Int)) (a + (m : Int))
  | 0, i, h => by
    refine Ev.succ ?_
    simp only [laws_heldIntS.l0, marks_length, if_neg (show ¬ (i : Int) < (m : Int) by omega)]
    rw [show i = m by omega]
    exact Ev.now _
  | n + 1, i, h => by
    have hi : i < (marks a m).length := by rw [marks_length]; omega
    refine Ev.succ ?_
    simp only [laws_heldIntS.l0, rdn hi, marks_get, marks_length, if_pos (show (i : Int) < (m : Int) by omega), if_pos (show (0 : Int) ≤ (i : Int) by omega), wsucc hi (by rw [marks_length]; omega), if_true, show wrap64 (a + (i : Int) + 1) = a + ((i + 1 : Nat) : Int) from by rw [w64 (by omega) (by omega)]; omega]
    exact heldIntS_l a m h0 hm n (i + 1) (by omega)
theorem heldIntS_ev (a : Int) (m : Nat) (h0 : 0 ≤ a) (hm : a + m ≤ 9223372036854775807) : Ev (fun k => laws_heldIntS.f k (marks a m) a) (a + (m : Int)) := by
  have h := heldIntS_l a m h0 hm m 0 (by omega)
  simp only [show a + ((0 : Nat) : Int) = a by omega] at h
  exact h
end Go.Proofs.Ytbobgkpmlbihnaa.A

namespace Go.Proofs.Ytbobgkpmlbihnaa.A
open Go.RowKit Go.Proofs.YtbobgkpmlbihnaaW.PrintWords Go.Proofs.YtbobgkpmlbihnaaW.PrintLast Go.Proofs.YtbobgkpmlbihnaaW.PrintMore
set_option linter.unusedVariables false
set_option linter.unusedSimpArgs false
theorem toIntS_l (xs : List Int) (hx : xs.length ≤ 35184372088832) : ∀ (n i : Nat) (ys : List Int), i + n = xs.length → ys.length = xs.length → ys.take i = xs.take i → Ev (fun k => laws_toIntS.l0 k xs ys (i : Int)) xs
  | 0, i, ys, h, hl, ht => by
    refine Ev.succ ?_
    simp only [laws_toIntS.l0, if_neg (show ¬ (i : Int) < (xs.length : Int) by omega)]
    rw [List.take_of_length_le (by omega), List.take_of_length_le (by omega)] at ht
    rw [ht]
    exact Ev.now _
  | n + 1, i, ys, h, hl, ht => by
    have hi : i < xs.length := by omega
    refine Ev.succ ?_
    simp only [laws_toIntS.l0, if_pos (show (i : Int) < (xs.length : Int) by omega), if_pos (show (i : Int) < (ys.length : Int) by omega), if_pos (show (0 : Int) ≤ (i : Int) by omega), rdn hi, wsucc hi (by omega), Int.toNat_natCast]
    refine toIntS_l xs hx n (i + 1) _ (by omega) (by rw [List.length_set]; exact hl) ?_
    rw [List.take_add_one, List.take_add_one, List.take_set_of_le (Nat.le_refl _), ht]
    congr 1
    rw [List.getElem?_set_self (by omega), List.getElem?_eq_getElem hi]
theorem toIntS_ev (xs : List Int) (hx : xs.length ≤ 35184372088832) : Ev (fun k => laws_toIntS.f k xs) xs := by
  unfold laws_toIntS.f
  simp only [if_pos (show (0 : Int) ≤ (xs.length : Int) by omega), Int.toNat_natCast, if_pos hx]
  exact toIntS_l xs hx xs.length 0 _ (by omega) (by simp) (by simp)
end Go.Proofs.Ytbobgkpmlbihnaa.A

/- The law FnExactJoinOf holds of the printed functions, for every argument: numbers and lists alone. -/
namespace Go.Proofs.Ytbobgkpmlbihnaa.Pure
open Go.RowKit Go.Proofs.Ytbobgkpmlbihnaa.A Go.Proofs.YtbobgkpmlbihnaaW.PrintWords Go.Proofs.YtbobgkpmlbihnaaW.PrintLast
set_option linter.unusedVariables false
set_option linter.unusedSimpArgs false
theorem FnExactJoinOf : laws_FnExactJoinOf.Pure := by
  intro l0 l1 _ _ _ _ _ _
  apply Ev.get
  unfold laws_FnExactJoinOf.f
  by_cases hl0 : (l0.length : Int) > 1048576
  · simp only [if_pos hl0]
    exact Ev.now _
  simp only [if_neg hl0]
  by_cases hl1 : (l1.length : Int) > 1048576
  · simp only [if_pos hl1]
    exact Ev.now _
  simp only [if_neg hl1]
  have hlen := joinR_len l0 l1 (by omega) (by omega) 
  refine Ev.bind (toIntS_ev l0 (by omega)) ?_
  refine Ev.bind (toIntS_ev l1 (by omega)) ?_
  refine Ev.bind (specJoinOf_ev l0 l1 (by omega) (by omega) ) ?_
  refine Ev.bind (toIntS_ev l0 (by omega)) ?_
  refine Ev.bind (toIntS_ev l1 (by omega)) ?_
  refine Ev.bind (implJoinOf_ev l0 l1 (by omega) (by omega) ) ?_
  refine Ev.bind (eqIntS_self _ (by omega)) ?_
  first | simp only [bne_self_eq_false, if_true, Bool.false_eq_true, if_false] | skip
  refine Ev.succ ?_
  simp only [laws_FnExactJoinOf.j0, Bool.false_eq_true, if_false]
  refine Ev.bind (toIntS_ev l0 (by omega)) ?_
  refine Ev.bind (eqIntS_self _ (by omega)) ?_
  first | simp only [bne_self_eq_false, if_true, Bool.false_eq_true, if_false] | skip
  refine Ev.bind (toIntS_ev l1 (by omega)) ?_
  refine Ev.bind (eqIntS_self _ (by omega)) ?_
  first | simp only [bne_self_eq_false, if_true, Bool.false_eq_true, if_false] | skip
  refine Ev.bind (markIntS_ev l0 (1) (by omega) (by omega)) ?_
  refine Ev.bind (markIntS_ev l1 (1 + (l0.length : Int)) (by omega) (by omega)) ?_
  simp only [if_neg (show ¬ (1 + (l0.length : Int) + (l1.length : Int) : Int) < 0 by omega)]
  refine Ev.bind (eqIntS_self _ (by omega)) ?_
  first | simp only [bne_self_eq_false, if_true, Bool.false_eq_true, if_false] | skip
  refine Ev.succ ?_
  simp only [laws_FnExactJoinOf.j1, Bool.false_eq_true, if_false]
  refine Ev.bind (markIntS_ev (joinR l0 l1).1 (1) (by omega) (by omega)) ?_
  refine Ev.bind (heldIntS_ev (1) _ (by omega) (by omega)) ?_
  simp only [if_neg (show ¬ (1 + ((joinR l0 l1).1.length : Int) : Int) < 0 by omega)]
  first | simp only [bne_self_eq_false, if_true, Bool.false_eq_true, if_false] | skip
  first | simp only [bne_self_eq_false, if_true, Bool.false_eq_true, if_false] | skip
  refine Ev.bind (toIntS_ev l0 (by omega)) ?_
  refine Ev.bind (toIntS_ev l1 (by omega)) ?_
  refine Ev.bind (implJoinOf_ev l0 l1 (by omega) (by omega) ) ?_
  refine Ev.bind (eqIntS_self _ (by omega)) ?_
  first | simp only [bne_self_eq_false, if_true, Bool.false_eq_true, if_false] | skip
  refine Ev.succ ?_
  simp only [laws_FnExactJoinOf.j2, Bool.false_eq_true, if_false]
  refine Ev.bind (heldIntS_ev (1) _ (by omega) (by omega)) ?_
  simp only [if_neg (show ¬ (1 + ((joinR l0 l1).1.length : Int) : Int) < 0 by omega)]
  first | simp only [bne_self_eq_false, if_true, Bool.false_eq_true, if_false] | skip
  first | simp only [bne_self_eq_false, if_true, Bool.false_eq_true, if_false] | skip
  exact Ev.now _
end Go.Proofs.Ytbobgkpmlbihnaa.Pure
