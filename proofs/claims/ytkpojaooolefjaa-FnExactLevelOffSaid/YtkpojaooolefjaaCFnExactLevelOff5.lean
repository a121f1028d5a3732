/- What the law FnExactLevelOff reaches, part 5: Lean functions with the same answers as the Go functions, the proofs that the Go code comes to these answers, and lemmas about them; no condition beyond those that each theorem names. -/
import Derived.Test.YtkpojaooolefjaaCFnExactLevelOffw1
import Derived.Test.YtkpojaooolefjaaCFnExactLevelOff1
import Derived.Test.YtkpojaooolefjaaCFnExactLevelOff2
import Derived.Test.YtkpojaooolefjaaCFnExactLevelOff3
import Derived.Test.YtkpojaooolefjaaCFnExactLevelOff4
-- made by a program of this repo (wip/pp.py) through the kit's printer
namespace Go.Proofs.Ytkpojaooolefjaa.A
open Go.RowKit Go.Proofs.YtkpojaooolefjaaW.PrintWords Go.Proofs.YtkpojaooolefjaaW.PrintLast Go.Proofs.YtkpojaooolefjaaW.PrintMore
attribute [local go_sem] max2_int min2_int max_two min_two max_three min_three max_four min_four
set_option linter.unusedVariables false
set_option linter.unusedSimpArgs false

/-! ### spec_giLists: function 35 -/
def spec_giLists.f (k : Nat) (l0 : List Int) (l1 : List Int) : Option (Bool) := (spec_liGood.f k l0).bind fun t176 => (if t176 = true then ((spec_liGood.f k l1).bind fun t177 => (if t177 = true then ((spec_liBelow.f k l0 l1).bind fun t178 => (some t178)) else (some false))) else (some false))
theorem spec_giLists.mono : ∀ a0 a1 k, LeO (spec_giLists.f k a0 a1) (spec_giLists.f (k + 1) a0 a1) := by
 intro a0 a1 k
 unfold spec_giLists.f
 repeat' first
  | (with_reducible exact spec_liBelow.mono _ _ _)
  | (with_reducible exact spec_liGood.mono _ _)
  | (with_reducible exact LeO.refl _)
  | (with_reducible exact LeO.none _)
  | (with_reducible refine LeO.ite ?_ ?_)
  | (with_reducible refine LeO.bind ?_ (fun _ => ?_))
  | exact spec_liBelow.mono _ _ _
  | exact spec_liGood.mono _ _
  | exact LeO.none _
  | refine LeO.ite ?_ ?_
  | refine LeO.bind ?_ (fun _ => ?_)
set_option maxHeartbeats 8000000 in
set_option maxRecDepth 100000 in
theorem spec_giLists.calls (k : Nat) (A0 : Option Addr) (c0 : Nat) (l0 : List Int) (A1 : Option Addr) (c1 : Nat) (l1 : List Int) (r : Bool) (w : World) (hr0 : Kd.C (Kd.int .i64) w A0 l0.length l0) (hc0 : l0.length ≤ c0) (hr1 : Kd.C (Kd.int .i64) w A1 l1.length l1) (hc1 : l1.length ≤ c1) (h : spec_giLists.f k l0 l1 = some r) :
 Calls Try.prog 35 #[.slice A0 l0.length c0, .slice A1 l1.length c1] w fun e w' => e = .returned (.bool r) ∧ Below w.heap.size w w' := by
 have HR0 := Aside0.mk hr0
 have HC0 := Aside0.mk hc0
 clear hr0 hc0
 have HR1 := Aside0.mk hr1
 have HC1 := Aside0.mk hc1
 clear hr1 hc1
 have HB := Aside0.mk (Below.refl w.heap.size w)
 have H : ((spec_liGood.f k l0).bind fun t176 => (if t176 = true then ((spec_liGood.f k l1).bind fun t177 => (if t177 = true then ((spec_liBelow.f k l0 l1).bind fun t178 => (some t178)) else (some false))) else (some false))) = some r := h
 clear h
 replace H := Option.bind_eq_some_iff.mp H
 obtain ⟨t176, A30, H⟩ := H
 replace H : (if t176 = true then ((spec_liGood.f k l1).bind fun t177 => (if t177 = true then ((spec_liBelow.f k l0 l1).bind fun t178 => (some t178)) else (some false))) else (some false)) = some r := H
 have A3 := Aside0.mk A30
 clear A30
 by_cases c4 : t176 = true
 · subst c4
   have H1 : ((spec_liGood.f k l1).bind fun t177 => (if t177 = true then ((spec_liBelow.f k l0 l1).bind fun t178 => (some t178)) else (some false))) = some r := by rw [if_pos rfl] at H; exact H
   clear H
   have H := H1
   clear H1
   replace H := Option.bind_eq_some_iff.mp H
   obtain ⟨t177, A50, H⟩ := H
   replace H : (if t177 = true then ((spec_liBelow.f k l0 l1).bind fun t178 => (some t178)) else (some false)) = some r := H
   have A5 := Aside0.mk A50
   clear A50
   by_cases c6 : t177 = true
   · subst c6
     have H1 : ((spec_liBelow.f k l0 l1).bind fun t178 => (some t178)) = some r := by rw [if_pos rfl] at H; exact H
     clear H
     have H := H1
     clear H1
     replace H := Option.bind_eq_some_iff.mp H
     obtain ⟨t178, A70, H⟩ := H
     replace H : (some t178) = some r := H
     have A7 := Aside0.mk A70
     clear A70
     obtain rfl := Option.some.inj H
     go_enter Try.func35, Try.ntmps35
     go_wp2_with (first | ((with_reducible refine gate_callee (f := 39) rfl ?_); refine goesL_ (some 6) rfl rfl Try.func39 (by kernel_rfl) rfl #[.slice A0 l0.length c0] rfl (by (try simp only [List.map_toArray, List.map_cons, List.map_nil]); first | done | rfl | (simp only [List.length_drop, List.length_take]; rfl)) ?_; (with_reducible refine (spec_liGood.calls k _ _ l0 true _ ?side1 ?side2 A3.out).mono ?_); (case side1 => repeat (first | exact HR0.out | (with_reducible refine Kd.C_alloc ?_ _) | (with_reducible refine Kd.C_drewN ?_ _) | (with_reducible refine Kd.C_drew ?_))); (case side2 => exact HC0.out); rintro e w' ⟨rfl, ⟨nd, rfl⟩⟩; refine ⟨_, rfl, ?_⟩) | (go_at_call 39; (with_reducible refine (spec_liGood.calls k _ _ l1 true _ ?side1 ?side2 A5.out).mono ?_); (case side1 => repeat (first | exact HR1.out | (with_reducible refine Kd.C_alloc ?_ _) | (with_reducible refine Kd.C_drewN ?_ _) | (with_reducible refine Kd.C_drew ?_))); (case side2 => exact HC1.out); rintro e w' ⟨rfl, ⟨nd, rfl⟩⟩) | (go_at_call 43; (with_reducible refine (spec_liBelow.calls k _ _ l0 _ _ l1 t178 _ ?side1 ?side2 ?side3 ?side4 A7.out).mono ?_); (case side1 => repeat (first | exact HR0.out | (with_reducible refine Kd.C_alloc ?_ _) | (with_reducible refine Kd.C_drewN ?_ _) | (with_reducible refine Kd.C_drew ?_))); (case side2 => exact HC0.out); (case side3 => repeat (first | exact HR1.out | (with_reducible refine Kd.C_alloc ?_ _) | (with_reducible refine Kd.C_drewN ?_ _) | (with_reducible refine Kd.C_drew ?_))); (case side4 => exact HC1.out); rintro e w8 ⟨rfl, hb⟩; have n0_ := Aside0.mk (below_step (by repeat (first | (with_reducible first | exact HB.out | apply below_alloc | apply pw_below_drewN | apply below_drew1) | exact HB.out)) hb); clear HB; have HB := n0_; clear n0_; (try clear hb); (try clear hb2); (try clear hk); (try clear hi)))
     go_ret
     exact ⟨by first | rfl | (simp [errW_none, errW_some] <;> rfl) | (simp [*, errW_none, errW_some] <;> rfl), by repeat (first | (with_reducible first | exact HB.out | apply below_alloc | apply pw_below_drewN | apply below_drew1) | exact HB.out)⟩
   · replace c6 := Bool.eq_false_iff.mpr c6
     subst c6
     have H1 : (some false) = some r := by rw [if_neg (show ¬ (false = true) by decide)] at H; exact H
     clear H
     have H := H1
     clear H1
     obtain rfl := Option.some.inj H
     go_enter Try.func35, Try.ntmps35
     go_wp2_with (first | ((with_reducible refine gate_callee (f := 39) rfl ?_); refine goesL_ (some 6) rfl rfl Try.func39 (by kernel_rfl) rfl #[.slice A0 l0.length c0] rfl (by (try simp only [List.map_toArray, List.map_cons, List.map_nil]); first | done | rfl | (simp only [List.length_drop, List.length_take]; rfl)) ?_; (with_reducible refine (spec_liGood.calls k _ _ l0 true _ ?side1 ?side2 A3.out).mono ?_); (case side1 => repeat (first | exact HR0.out | (with_reducible refine Kd.C_alloc ?_ _) | (with_reducible refine Kd.C_drewN ?_ _) | (with_reducible refine Kd.C_drew ?_))); (case side2 => exact HC0.out); rintro e w' ⟨rfl, ⟨nd, rfl⟩⟩; refine ⟨_, rfl, ?_⟩) | (go_at_call 39; (with_reducible refine (spec_liGood.calls k _ _ l1 false _ ?side1 ?side2 A5.out).mono ?_); (case side1 => repeat (first | exact HR1.out | (with_reducible refine Kd.C_alloc ?_ _) | (with_reducible refine Kd.C_drewN ?_ _) | (with_reducible refine Kd.C_drew ?_))); (case side2 => exact HC1.out); rintro e w' ⟨rfl, ⟨nd, rfl⟩⟩))
     go_ret
     exact ⟨by first | rfl | (simp [errW_none, errW_some] <;> rfl) | (simp [*, errW_none, errW_some] <;> rfl), by repeat (first | (with_reducible first | exact HB.out | apply below_alloc | apply pw_below_drewN | apply below_drew1) | exact HB.out)⟩
 · replace c4 := Bool.eq_false_iff.mpr c4
   subst c4
   have H1 : (some false) = some r := by rw [if_neg (show ¬ (false = true) by decide)] at H; exact H
   clear H
   have H := H1
   clear H1
   obtain rfl := Option.some.inj H
   go_enter Try.func35, Try.ntmps35
   go_wp2_with (first | ((with_reducible refine gate_callee (f := 39) rfl ?_); refine goesL_ (some 6) rfl rfl Try.func39 (by kernel_rfl) rfl #[.slice A0 l0.length c0] rfl (by (try simp only [List.map_toArray, List.map_cons, List.map_nil]); first | done | rfl | (simp only [List.length_drop, List.length_take]; rfl)) ?_; (with_reducible refine (spec_liGood.calls k _ _ l0 false _ ?side1 ?side2 A3.out).mono ?_); (case side1 => repeat (first | exact HR0.out | (with_reducible refine Kd.C_alloc ?_ _) | (with_reducible refine Kd.C_drewN ?_ _) | (with_reducible refine Kd.C_drew ?_))); (case side2 => exact HC0.out); rintro e w' ⟨rfl, ⟨nd, rfl⟩⟩; refine ⟨_, rfl, ?_⟩))
   go_ret
   exact ⟨by first | rfl | (simp [errW_none, errW_some] <;> rfl) | (simp [*, errW_none, errW_some] <;> rfl), by repeat (first | (with_reducible first | exact HB.out | apply below_alloc | apply pw_below_drewN | apply below_drew1) | exact HB.out)⟩

end Go.Proofs.Ytkpojaooolefjaa.A

-- made by a program of this repo (wip/pp.py) through the kit's printer
namespace Go.Proofs.Ytkpojaooolefjaa.A
open Go.RowKit Go.Proofs.YtkpojaooolefjaaW.PrintWords Go.Proofs.YtkpojaooolefjaaW.PrintLast Go.Proofs.YtkpojaooolefjaaW.PrintMore
attribute [local go_sem] max2_int min2_int max_two min_two max_three min_three max_four min_four
set_option linter.unusedVariables false
set_option linter.unusedSimpArgs false

/-! ### spec_l1Most: function 66 -/
def spec_l1Most.f (a0 : Int) (a1 : Int) : Option (Int) := if a0 > a1 then (some a0) else (some a1)
set_option maxHeartbeats 8000000 in
set_option maxRecDepth 100000 in
theorem spec_l1Most.calls (a0 : Int) (a1 : Int) (r : Int) (w : World) (h : spec_l1Most.f a0 a1 = some r) :
 Calls Try.prog 66 #[.int .i64 a0, .int .i64 a1] w fun e w' => e = .returned (.int .i64 r) ∧ Drawn0 w w' := by
 have H : (if a0 > a1 then (some a0) else (some a1)) = some r := h
 clear h
 by_cases c3 : a0 > a1
 · rw [if_pos c3] at H
   have c3b0 : decide (a1 < a0) = true := decide_eq_true c3
   clear c3
   obtain rfl := Option.some.inj H
   go_enter Try.func66, Try.ntmps66
   go_wp2
   go_ret
   exact ⟨by first | rfl | (simp; done) | (simp [*]; done), by repeat (first | exact Drawn0.refl _ | apply Drawn0.step)⟩
 · rw [if_neg c3] at H
   have c3b0 : decide (a1 < a0) = false := decide_eq_false c3
   clear c3
   obtain rfl := Option.some.inj H
   go_enter Try.func66, Try.ntmps66
   go_wp2
   go_ret
   exact ⟨by first | rfl | (simp; done) | (simp [*]; done), by repeat (first | exact Drawn0.refl _ | apply Drawn0.step)⟩

end Go.Proofs.Ytkpojaooolefjaa.A

namespace Go.Proofs.Ytkpojaooolefjaa.A
open Go.RowKit Go.Proofs.YtkpojaooolefjaaW.PrintWords Go.Proofs.YtkpojaooolefjaaW.PrintLast Go.Proofs.YtkpojaooolefjaaW.PrintMore
set_option linter.unusedVariables false
set_option linter.unusedSimpArgs false
def unitL (p q : List Int) : Int := (List.zipWith (fun x y => max 0 (x - y)) p q).sum
theorem unitL_drop {p q : List Int} {i : Nat} (hi : i < p.length) (hj : i < q.length) : unitL (p.drop i) (q.drop i) = max 0 (p[i] - q[i]) + unitL (p.drop (i + 1)) (q.drop (i + 1)) := by
 unfold unitL
 rw [List.drop_eq_getElem_cons hi, List.drop_eq_getElem_cons hj, List.zipWith_cons_cons, List.sum_cons]
theorem unitL_end {p q : List Int} {i : Nat} (hi : p.length ≤ i) : unitL (p.drop i) (q.drop i) = 0 := by
 unfold unitL
 rw [List.drop_eq_nil_of_le hi]
 rfl
def betB (a b : List Int) : Bool := if goodL a = true then (if goodL b = true then majB a b else false) else false
theorem isBetween_ev (a b : List Int) (ha : a.length ≤ 1048576) (hb : b.length ≤ 1048576) : Ev (fun k => impl_isBetween.f k a b) (betB a b) := by
 unfold impl_isBetween.f betB
 refine Ev.bind (areLists_ev a b ha hb) ?_
 by_cases ga : goodL a = true
 · by_cases gb : goodL b = true
   · simp only [ga, gb, if_true]
     exact Ev.bind (isMajorized_ev a b (good_sm ga) (good_sm gb)) (Ev.now _)
   · simp only [ga, if_true, if_neg gb]
     exact Ev.now _
 · simp only [if_neg ga, Bool.false_eq_true, if_false]
   exact Ev.now _
theorem giLists_ev (a b : List Int) (ha : a.length ≤ 1048576) (hb : b.length ≤ 1048576) : Ev (fun k => spec_giLists.f k a b) (betB a b) := by
 unfold spec_giLists.f betB
 refine Ev.bind (liGood_ev a (by omega)) (Ev.ite (fun ga => ?_) (fun _ => Ev.now _))
 refine Ev.bind (liGood_ev b (by omega)) (Ev.ite (fun gb => ?_) (fun _ => Ev.now _))
 exact Ev.bind (liBelow_ev a b (good_sm ga) (good_sm gb)) (Ev.now _)
theorem betB_iff (a b : List Int) : betB a b = true ↔ goodL a = true ∧ goodL b = true ∧ majB a b = true := by
 unfold betB
 split
 · split <;> simp_all
 · simp_all
theorem l1Most_eq (a b : Int) : spec_l1Most.f a b = some (max a b) := by
 unfold spec_l1Most.f
 split <;> (congr 1; omega)
theorem mx_eq (a b : Int) : mx a b = max a b := by unfold mx; omega
theorem mn_eq (a b : Int) : mn a b = min a b := by unfold mn; omega
end Go.Proofs.Ytkpojaooolefjaa.A

namespace Go.Proofs.Ytkpojaooolefjaa.A
open Go.RowKit Go.Proofs.YtkpojaooolefjaaW.PrintWords Go.Proofs.YtkpojaooolefjaaW.PrintLast Go.Proofs.YtkpojaooolefjaaW.PrintMore
set_option linter.unusedVariables false
set_option linter.unusedSimpArgs false
theorem evenL_rd (n sum : Int) (k : Nat) (h : k < n.toNat) : rd (evenL n sum) (k : Int) = sum / n + if (k : Int) < sum % n then 1 else 0 := by
 rw [rdn (by rw [evenL_length]; exact h), evenL_get]
theorem evenL_desc (n sum : Int) : Desc (evenL n sum) := by
 refine desc_of_rd fun k hk => ?_
 rw [evenL_length] at hk
 rw [evenL_rd n sum k (by omega), evenL_rd n sum (k + 1) hk]
 split
 · rw [if_pos (by omega)]; omega
 · split <;> omega
theorem evenL_pre (n sum : Int) (hn : 0 < n) : ∀ m : Nat, m ≤ n.toNat → pre (evenL n sum) m = m * (sum / n) + min (m : Int) (sum % n)
 | 0, _ => by
  have := Int.emod_nonneg sum (show n ≠ 0 by omega)
  rw [pre_zero]
  simp
  omega
 | m + 1, h => by
  rw [pre_succ (by rw [evenL_length]; omega), evenL_pre n sum hn m (by omega), evenL_rd n sum m (by omega)]
  have e : ((m + 1 : Nat) : Int) * (sum / n) = m * (sum / n) + sum / n := by
   rw [Int.natCast_add, Int.add_mul]
   simp
  rw [e]
  split <;> omega
theorem evenL_sum (n sum : Int) (hn : 0 < n) : (evenL n sum).sum = sum := by
 have h := evenL_pre n sum hn n.toNat (Nat.le_refl _)
 rw [pre_all (by rw [evenL_length]; exact Nat.le_refl _)] at h
 have h1 := Int.emod_lt_of_pos sum hn
 have h2 := Int.mul_ediv_add_emod sum n
 have h3 : ((n.toNat : Nat) : Int) = n := by omega
 rw [h3] at h
 omega
theorem even_pre {x : List Int} (hx : Desc x) (hn : 0 < x.length) (m : Nat) (hm : m ≤ x.length) : m * (x.sum / x.length) + min (m : Int) (x.sum % x.length) ≤ pre x m := by
 have h1 := Int.emod_lt_of_pos x.sum (show (0 : Int) < x.length by omega)
 have h0 := Int.emod_nonneg x.sum (show (x.length : Int) ≠ 0 by omega)
 have h2 := Int.mul_ediv_add_emod x.sum x.length
 generalize x.sum / x.length = q at *
 generalize x.sum % x.length = r at *
 cases m with
 | zero => rw [pre_zero]; simp; omega
 | succ m =>
  rcases Int.lt_or_le q (rd x (m : Int)) with hq | hq
  · have key : ∀ j : Nat, j ≤ m + 1 → (j : Int) * (q + 1) ≤ pre x j := by
     intro j
     induction j with
     | zero => intro _; rw [pre_zero]; simp
     | succ j ih =>
      intro hj
      have := ih (by omega)
      have hd := desc_rd hx (a := j) (b := m) (by omega) (by omega)
      rw [pre_succ (by omega)]
      have e : ((j + 1 : Nat) : Int) * (q + 1) = j * (q + 1) + (q + 1) := by
       rw [Int.natCast_add, Int.add_mul]
       simp
      rw [e]
      omega
    have := key (m + 1) (Nat.le_refl _)
    rw [Int.mul_add] at this
    omega
  · have key : ∀ d : Nat, m + 1 + d ≤ x.length → pre x (m + 1 + d) ≤ pre x (m + 1) + d * q := by
     intro d
     induction d with
     | zero => intro _; simp
     | succ d ih =>
      intro hd
      have := ih (by omega)
      have hdd := desc_rd hx (a := m) (b := m + 1 + d) (by omega) (by omega)
      rw [show m + 1 + (d + 1) = m + 1 + d + 1 from rfl, pre_succ (by omega)]
      have e : ((d + 1 : Nat) : Int) * q = d * q + q := by
       rw [Int.natCast_add, Int.add_mul]
       simp
      rw [e]
      omega
    have h3 := key (x.length - (m + 1)) (by omega)
    rw [show m + 1 + (x.length - (m + 1)) = x.length by omega, pre_all (Nat.le_refl _)] at h3
    have e : (x.length : Int) * q = ((m + 1 : Nat) : Int) * q + ((x.length - (m + 1) : Nat) : Int) * q := by
     rw [← Int.add_mul]
     congr 1
     omega
    omega
theorem even_bet (a : List Int) (hg : goodL a = true) : betB (evenL a.length a.sum) a = true := by
 obtain ⟨b1, b2, b3⟩ := (goodL_iff a).1 hg
 have hn : (0 : Int) < a.length := by omega
 have hs : 0 ≤ a.sum ∧ a.sum ≤ a.length * 60 := by
  clear b1 b2 hg hn
  induction a with
  | nil => simp
  | cons x a ih =>
   have := ih (fun y hy => b3 y (List.mem_cons_of_mem _ hy))
   have := b3 x List.mem_cons_self
   rw [List.sum_cons, List.length_cons]
   omega
 have hb := div_bd a.length a.sum (by omega) (by omega) hs.1 hs.2
 refine (betB_iff _ _).2 ⟨?_, hg, ?_⟩
 · refine (goodL_iff _).2 ⟨by rw [evenL_length]; omega, by rw [evenL_length]; omega, fun x hx => ?_⟩
   obtain ⟨i, hi, rfl⟩ := List.mem_iff_getElem.1 hx
   rw [evenL_length] at hi
   rw [evenL_get]
   have h2 := Int.mul_ediv_add_emod a.sum a.length
   split
   · next h =>
     rcases Int.lt_or_le (a.sum / a.length) 60 with c | c
     · omega
     · have : a.sum / a.length = 60 := by omega
       rw [this] at h2
       omega
   · omega
 · rw [majB_dom, descL_of_desc (evenL_desc _ _)]
   refine ⟨by rw [descL_length, evenL_length]; omega, by rw [descL_sum, evenL_sum _ _ hn], fun m => ?_⟩
   rcases Nat.lt_or_ge a.length m with hm | hm
   · rw [pre_all (by rw [evenL_length]; omega), pre_all (by rw [descL_length]; omega), descL_sum, evenL_sum _ _ hn]
     exact Int.le_refl _
   · rw [evenL_pre _ _ hn m (by omega)]
     have := even_pre (descL_desc a) (by rw [descL_length]; omega) m (by rw [descL_length]; exact hm)
     rw [descL_length, descL_sum] at this
     exact this
theorem good_sum {a : List Int} (hg : goodL a = true) : 0 ≤ a.sum ∧ a.sum ≤ a.length * 60 := by
 obtain ⟨b1, b2, b3⟩ := (goodL_iff a).1 hg
 clear b1 b2 hg
 induction a with
 | nil => simp
 | cons x a ih =>
  have := ih (fun y hy => b3 y (List.mem_cons_of_mem _ hy))
  have := b3 x List.mem_cons_self
  rw [List.sum_cons, List.length_cons]
  omega
end Go.Proofs.Ytkpojaooolefjaa.A

-- made by a program of this repo (wip/pp.py) through the kit's printer
namespace Go.Proofs.Ytkpojaooolefjaa.A
open Go.RowKit Go.Proofs.YtkpojaooolefjaaW.PrintWords Go.Proofs.YtkpojaooolefjaaW.PrintLast Go.Proofs.YtkpojaooolefjaaW.PrintMore
attribute [local go_sem] max2_int min2_int max_two min_two max_three min_three max_four min_four
set_option linter.unusedVariables false
set_option linter.unusedSimpArgs false

/-! ### spec_GiftPath: function 31 -/
def spec_GiftPath.f (k : Nat) (l0 : List Int) (l1 : List Int) : Option ((List (S49)) × Bool) := (spec_giLists.f k l0 l1).bind fun t586 => (if t586 = true then ((spec_giPath.f k l0 l1 false).bind fun t587 => (some (t587, true))) else (some (([] : List (S49)), false)))
theorem spec_GiftPath.mono : ∀ a0 a1 k, LeO (spec_GiftPath.f k a0 a1) (spec_GiftPath.f (k + 1) a0 a1) := by
 intro a0 a1 k
 unfold spec_GiftPath.f
 repeat' first
  | (with_reducible exact spec_giLists.mono _ _ _)
  | (with_reducible exact spec_giPath.mono _ _ _ _)
  | (with_reducible exact LeO.refl _)
  | (with_reducible exact LeO.none _)
  | (with_reducible refine LeO.ite ?_ ?_)
  | (with_reducible refine LeO.bind ?_ (fun _ => ?_))
  | exact spec_giLists.mono _ _ _
  | exact spec_giPath.mono _ _ _ _
  | exact LeO.none _
  | refine LeO.ite ?_ ?_
  | refine LeO.bind ?_ (fun _ => ?_)
set_option maxHeartbeats 8000000 in
set_option maxRecDepth 100000 in
theorem spec_GiftPath.calls (k : Nat) (A0 : Option Addr) (c0 : Nat) (l0 : List Int) (A1 : Option Addr) (c1 : Nat) (l1 : List Int) (r1 : List (S49)) (r2 : Bool) (w : World) (hr0 : Kd.C (Kd.int .i64) w A0 l0.length l0) (hc0 : l0.length ≤ c0) (hr1 : Kd.C (Kd.int .i64) w A1 l1.length l1) (hc1 : l1.length ≤ c1) (h : spec_GiftPath.f k l0 l1 = some (r1, r2)) :
 Calls Try.prog 31 #[.slice A0 l0.length c0, .slice A1 l1.length c1] w fun e w' => ∃ v0_ : Value, e = .returned (.tuple #[v0_, .bool r2]) ∧ Kd.R k49 49 w' w.heap.size (fun _ => True) v0_ r1 ∧ Below w.heap.size w w' := by
 have HR0 := Aside0.mk hr0
 have HC0 := Aside0.mk hc0
 clear hr0 hc0
 have HR1 := Aside0.mk hr1
 have HC1 := Aside0.mk hc1
 clear hr1 hc1
 have HB := Aside0.mk (Below.refl w.heap.size w)
 have H : ((spec_giLists.f k l0 l1).bind fun t586 => (if t586 = true then ((spec_giPath.f k l0 l1 false).bind fun t587 => (some (t587, true))) else (some (([] : List (S49)), false)))) = some (r1, r2) := h
 clear h
 replace H := Option.bind_eq_some_iff.mp H
 obtain ⟨t586, A30, H⟩ := H
 replace H : (if t586 = true then ((spec_giPath.f k l0 l1 false).bind fun t587 => (some (t587, true))) else (some (([] : List (S49)), false))) = some (r1, r2) := H
 have A3 := Aside0.mk A30
 clear A30
 by_cases c4 : t586 = true
 · subst c4
   have H1 : ((spec_giPath.f k l0 l1 false).bind fun t587 => (some (t587, true))) = some (r1, r2) := by rw [if_pos rfl] at H; exact H
   clear H
   have H := H1
   clear H1
   replace H := Option.bind_eq_some_iff.mp H
   obtain ⟨t587, A50, H⟩ := H
   replace H : (some (t587, true)) = some (r1, r2) := H
   have A5 := Aside0.mk A50
   clear A50
   simp only [Option.some.injEq, Prod.mk.injEq] at H
   obtain ⟨rfl, rfl⟩ := H
   go_enter Try.func31, Try.ntmps31
   go_wp2_with (first | ((with_reducible refine gate_callee (f := 35) rfl ?_); refine goesL_ (some 8) rfl rfl Try.func35 (by kernel_rfl) rfl #[.slice A0 l0.length c0, .slice A1 l1.length c1] rfl (by (try simp only [List.map_toArray, List.map_cons, List.map_nil]); first | done | rfl | (simp only [List.length_drop, List.length_take]; rfl)) ?_; (with_reducible refine (spec_giLists.calls k _ _ l0 _ _ l1 true _ ?side1 ?side2 ?side3 ?side4 A3.out).mono ?_); (case side1 => repeat (first | exact HR0.out | (with_reducible refine Kd.C_alloc ?_ _) | (with_reducible refine Kd.C_drewN ?_ _) | (with_reducible refine Kd.C_drew ?_))); (case side2 => exact HC0.out); (case side3 => repeat (first | exact HR1.out | (with_reducible refine Kd.C_alloc ?_ _) | (with_reducible refine Kd.C_drewN ?_ _) | (with_reducible refine Kd.C_drew ?_))); (case side4 => exact HC1.out); rintro e w6 ⟨rfl, hb⟩; refine ⟨_, rfl, ?_⟩; have n0_ := Aside0.mk (below_step (by repeat (first | (with_reducible first | exact HB.out | apply below_alloc | apply pw_below_drewN | apply below_drew1) | exact HB.out)) hb); clear HB; have HB := n0_; clear n0_; (try clear hb); (try clear hb2); (try clear hk); (try clear hi)) | ((with_reducible refine gate_callee (f := 60) rfl ?_); refine goesL_ (some 12) rfl rfl Try.func60 (by kernel_rfl) rfl #[.slice A0 l0.length c0, .slice A1 l1.length c1, .bool false] rfl (by (try simp only [List.map_toArray, List.map_cons, List.map_nil]); first | done | rfl | (simp only [List.length_drop, List.length_take]; rfl)) ?_; (with_reducible refine (spec_giPath.calls k _ _ l0 _ _ l1 false t587 _ ?side1 ?side2 ?side3 ?side4 A5.out).mono ?_); (case side1 => repeat (first | exact (Kd.C_below HR0.out HB.out) | (with_reducible refine Kd.C_alloc ?_ _) | (with_reducible refine Kd.C_drewN ?_ _) | (with_reducible refine Kd.C_drew ?_))); (case side2 => exact HC0.out); (case side3 => repeat (first | exact (Kd.C_below HR1.out HB.out) | (with_reducible refine Kd.C_alloc ?_ _) | (with_reducible refine Kd.C_drewN ?_ _) | (with_reducible refine Kd.C_drew ?_))); (case side4 => exact HC1.out); rintro e w7 ⟨v588, rfl, ho0, hb⟩; refine ⟨_, rfl, ?_⟩; have n0_ := Aside0.mk (Kd.R_lower ho0 (below_size (by repeat (first | (with_reducible first | exact HB.out | apply below_alloc | apply pw_below_drewN | apply below_drew1) | exact HB.out)))); have n1_ := Aside0.mk (below_step (by repeat (first | (with_reducible first | exact HB.out | apply below_alloc | apply pw_below_drewN | apply below_drew1) | exact HB.out)) hb); clear HB; have HO589 := n0_; have HB := n1_; clear n0_ n1_; (try clear hb); (try clear hb2); (try clear hk); (try clear hi); (try clear ho0)))
   go_ret2
   exact ⟨_, by first | rfl | (simp [errW_none, errW_some] <;> rfl) | (simp [*, errW_none, errW_some] <;> rfl), by (with_reducible repeat (first | apply Kd.R_alloc | apply Kd.R_drewN | apply Kd.R_drew)); exact HO589.out, by repeat (first | (with_reducible first | exact HB.out | apply below_alloc | apply pw_below_drewN | apply below_drew1) | exact HB.out)⟩
 · replace c4 := Bool.eq_false_iff.mpr c4
   subst c4
   have H1 : (some (([] : List (S49)), false)) = some (r1, r2) := by rw [if_neg (show ¬ (false = true) by decide)] at H; exact H
   clear H
   have H := H1
   clear H1
   simp only [Option.some.injEq, Prod.mk.injEq] at H
   obtain ⟨rfl, rfl⟩ := H
   go_enter Try.func31, Try.ntmps31
   go_wp2_with (first | ((with_reducible refine gate_callee (f := 35) rfl ?_); refine goesL_ (some 8) rfl rfl Try.func35 (by kernel_rfl) rfl #[.slice A0 l0.length c0, .slice A1 l1.length c1] rfl (by (try simp only [List.map_toArray, List.map_cons, List.map_nil]); first | done | rfl | (simp only [List.length_drop, List.length_take]; rfl)) ?_; (with_reducible refine (spec_giLists.calls k _ _ l0 _ _ l1 false _ ?side1 ?side2 ?side3 ?side4 A3.out).mono ?_); (case side1 => repeat (first | exact HR0.out | (with_reducible refine Kd.C_alloc ?_ _) | (with_reducible refine Kd.C_drewN ?_ _) | (with_reducible refine Kd.C_drew ?_))); (case side2 => exact HC0.out); (case side3 => repeat (first | exact HR1.out | (with_reducible refine Kd.C_alloc ?_ _) | (with_reducible refine Kd.C_drewN ?_ _) | (with_reducible refine Kd.C_drew ?_))); (case side4 => exact HC1.out); rintro e w8 ⟨rfl, hb⟩; refine ⟨_, rfl, ?_⟩; have n0_ := Aside0.mk (below_step (by repeat (first | (with_reducible first | exact HB.out | apply below_alloc | apply pw_below_drewN | apply below_drew1) | exact HB.out)) hb); clear HB; have HB := n0_; clear n0_; (try clear hb); (try clear hb2); (try clear hk); (try clear hi)))
   go_ret2
   exact ⟨_, by first | rfl | (simp [errW_none, errW_some] <;> rfl) | (simp [*, errW_none, errW_some] <;> rfl), by first | exact Kd.R_nil _ _ _ _ _ | exact Kd.N_nil _ _ _ _ _ | exact Kd.V_nil _ _ _ _ _ | exact Kd.Q_nil _ _ _ _ _ | exact Kd.S_nil _ _ _ _ _, by repeat (first | (with_reducible first | exact HB.out | apply below_alloc | apply pw_below_drewN | apply below_drew1) | exact HB.out)⟩

end Go.Proofs.Ytkpojaooolefjaa.A

namespace Go.Proofs.Ytkpojaooolefjaa.A
open Go.RowKit Go.Proofs.YtkpojaooolefjaaW.PrintWords Go.Proofs.YtkpojaooolefjaaW.PrintLast Go.Proofs.YtkpojaooolefjaaW.PrintMore
set_option linter.unusedVariables false
set_option linter.unusedSimpArgs false
theorem giDo_eq (l : List Int) (f t a : Int) (hx : l.length ≤ 1048576) (h1 : 0 ≤ f ∧ f < l.length) (h2 : 0 ≤ t ∧ t < l.length) (h3 : f ≠ t) : spec_giDo.f l f t a = some ((l.set f.toNat (wrap64 (rd l f - a))).set t.toNat (wrap64 (rd l t + a))) := by
 unfold spec_giDo.f
 simp only [l1Own_eq l hx, Option.bind_some, if_pos h1.1, if_pos h1.2, if_pos h2.1, if_pos h2.2, rd_set_ne _ h1.1 h2.1 h3]
theorem given_eq (l : List Int) (f t a : Int) (hx : l.length ≤ 1048576) (h1 : 0 ≤ f ∧ f < l.length) (h2 : 0 ≤ t ∧ t < l.length) (h3 : f ≠ t) : impl_given.f l f t a = some ((l.set f.toNat (wrap64 (rd l f - a))).set t.toNat (wrap64 (rd l t + a))) := by
 unfold impl_given.f slices_Clone_int_int.f
 simp only [if_pos (show l.length ≤ 17592186044416 by omega), Option.bind_some, if_pos h1.1, if_pos h1.2, if_pos h2.1, if_pos h2.2, rd_set_ne _ h1.1 h2.1 h3]
theorem given_can (l : List Int) (f t a : Int) (hg : goodL l = true) (h : canB l f t a = true) : impl_given.f l f t a = some (giveL l f t a) := by
 have hb := (goodL_iff l).1 hg
 obtain ⟨hG, c1, c2⟩ := (canB_iff l f t a).1 h
 obtain ⟨h1, h2, h3, h4⟩ := (isG_iff l f t a).1 hG
 have b1 := rd_good hg h1.1 h1.2
 have b2 := rd_good hg h2.1 h2.2
 rw [given_eq l f t a (by omega) h1 h2 h3, w64 (x := rd l f - a) (by omega) (by omega), w64 (x := rd l t + a) (by omega) (by omega)]
 rfl
end Go.Proofs.Ytkpojaooolefjaa.A

namespace Go.Proofs.Ytkpojaooolefjaa.A
open Go.RowKit Go.Proofs.YtkpojaooolefjaaW.PrintWords Go.Proofs.YtkpojaooolefjaaW.PrintLast Go.Proofs.YtkpojaooolefjaaW.PrintMore
set_option linter.unusedVariables false
set_option linter.unusedSimpArgs false
theorem unitL_take {p q : List Int} {m : Nat} (h1 : m < p.length) (h2 : m < q.length) : unitL (p.take (m + 1)) (q.take (m + 1)) = unitL (p.take m) (q.take m) + max 0 (rd p (m : Int) - rd q (m : Int)) := by
 unfold unitL
 rw [← List.take_zipWith, ← List.take_zipWith, List.take_succ_eq_append_getElem (by rw [List.length_zipWith]; omega), List.sum_append, List.getElem_zipWith, rdn h1, rdn h2, List.sum_cons, List.sum_nil, Int.add_zero]
theorem sum_nn : ∀ l : List Int, (∀ x ∈ l, 0 ≤ x) → 0 ≤ l.sum
 | [], _ => by simp
 | x :: l, h => by
  rw [List.sum_cons]
  have := sum_nn l (fun y hy => h y (List.mem_cons_of_mem _ hy))
  have := h x List.mem_cons_self
  omega
theorem unitL_nn (p q : List Int) : 0 ≤ unitL p q := by
 unfold unitL
 refine sum_nn _ ?_
 intro x hx
 obtain ⟨i, hi, rfl⟩ := List.mem_iff_getElem.1 hx
 rw [List.getElem_zipWith]
 omega
structure Gv (x t : List Int) (i j : Nat) (a : Int) : Prop extends Nx x t i j where
 pos : 1 ≤ a
 ai : a ≤ rd x (i : Int) - rd t (i : Int)
 aj : a ≤ rd t (j : Int) - rd x (j : Int)
theorem gv_pre {x t : List Int} {i j : Nat} {a : Int} (hl : x.length = t.length) (g : Gv x t i j a) (hp : ∀ m, pre t m ≤ pre x m) : ∀ m : Nat, i < m → m ≤ j → pre t m + a ≤ pre x m
 | 0, h, _ => by omega
 | m + 1, h, h2 => by
  have := g.hj
  rw [pre_succ (by omega), pre_succ (by omega)]
  rcases Nat.lt_or_ge i m with hlt | hge
  · have := gv_pre hl g hp m hlt (by omega)
    have := g.bef m (by omega)
    omega
  · have : m = i := by omega
    subst this
    have := hp m
    have := g.ai
    omega
theorem gv_dom {x t : List Int} {i j : Nat} {a : Int} (hd : Dom x t) (g : Gv x t i j a) : Dom (giveL x (i : Int) (j : Int) a) t := by
 obtain ⟨hl, hs, hp⟩ := hd
 have h1 := g.lt
 have h2 := g.hj
 refine ⟨by rw [giveL_length]; exact hl, by rw [giveL_sum x i j a (by omega) h2 (by omega)]; exact hs, fun m => ?_⟩
 rcases Nat.lt_or_ge x.length m with hm | hm
 · rw [pre_all (by omega), pre_all (by rw [giveL_length]; omega), giveL_sum x i j a (by omega) h2 (by omega)]
   omega
 · rw [giveL_pre x i j a (by omega) h2 (by omega) m hm]
   have := hp m
   by_cases c1 : i < m
   · by_cases c2 : j < m
     · rw [if_pos c1, if_pos c2]; omega
     · rw [if_pos c1, if_neg c2]
       have := gv_pre hl g hp m c1 (by omega)
       omega
   · rw [if_neg c1, if_neg (by omega)]; omega
theorem gv_desc {x t : List Int} {i j : Nat} {a : Int} (hl : x.length = t.length) (hx : Desc x) (ht : Desc t) (g : Gv x t i j a) : Desc (giveL x (i : Int) (j : Int) a) := by
 have h1 := g.lt
 have h2 := g.hj
 have h3 := g.ai
 have h4 := g.aj
 refine desc_of_rd fun k hk => ?_
 rw [giveL_length] at hk
 rw [giveL_rd x i j a (by omega) h2 (by omega), giveL_rd x i j a (by omega) h2 (by omega)]
 have dx := desc_rd hx (a := k) (b := k + 1) (by omega) hk
 have dt := desc_rd ht (a := k) (b := k + 1) (by omega) (by omega)
 have hpos := g.pos
 by_cases c1 : k + 1 = j
 · rw [if_pos c1]
   by_cases c2 : k = i
   · rw [if_neg (by omega), if_pos c2]
     rw [c1, c2] at dt
     omega
   · rw [if_neg (by omega), if_neg c2]
     have := g.bef k (by omega)
     rw [c1] at dt
     omega
 · rw [if_neg c1]
   by_cases c2 : k + 1 = i
   · rw [if_pos c2, if_neg (by omega), if_neg (by omega)]
     rw [c2] at dx
     omega
   · rw [if_neg c2]
     by_cases c3 : k = j
     · rw [if_pos c3]
       rw [c3] at dx
       rw [c3]
       omega
     · rw [if_neg c3]
       by_cases c4 : k = i
       · rw [if_pos c4]
         have hb := g.btw (k + 1) (by omega) (by omega)
         rw [c4] at dt hb
         rw [c4]
         omega
       · rw [if_neg c4]
         exact dx
theorem gv_good {x t : List Int} {i j : Nat} {a : Int} (hl : x.length = t.length) (hx : goodL x = true) (ht : goodL t = true) (g : Gv x t i j a) : goodL (giveL x (i : Int) (j : Int) a) = true := by
 have h1 := g.lt
 have h2 := g.hj
 have h3 := g.ai
 have h4 := g.aj
 have hpos := g.pos
 have b1 := rd_good ht (i := (i : Int)) (by omega) (by omega)
 have b2 := rd_good ht (i := (j : Int)) (by omega) (by omega)
 have b3 := rd_good hx (i := (i : Int)) (by omega) (by omega)
 have b4 := rd_good hx (i := (j : Int)) (by omega) (by omega)
 exact (give_good x (i : Int) (j : Int) _ _ hx (by omega) (by omega) (by omega)).2 (by omega)
theorem gv_unit_m {x t : List Int} {i j : Nat} {a : Int} (hl : x.length = t.length) (g : Gv x t i j a) : ∀ m : Nat, m ≤ x.length → unitL ((giveL x (i : Int) (j : Int) a).take m) (t.take m) = unitL (x.take m) (t.take m) - (if i < m then a else 0)
 | 0, _ => by
  rw [if_neg (by omega)]
  simp [unitL]
 | m + 1, h => by
  have h1 := g.lt
  have h2 := g.hj
  have h3 := g.ai
  have h4 := g.aj
  have hpos := g.pos
  rw [unitL_take (by rw [giveL_length]; omega) (by omega), unitL_take (by omega) (by omega), gv_unit_m hl g m (by omega), giveL_rd x i j a (by omega) h2 (by omega) m]
  by_cases c1 : m = j
  · rw [if_pos c1, if_pos (show i < m by omega), if_pos (show i < m + 1 by omega)]
    rw [c1]
    omega
  · rw [if_neg c1]
    by_cases c2 : m = i
    · rw [if_pos c2, if_neg (show ¬ i < m by omega), if_pos (show i < m + 1 by omega)]
      rw [c2]
      omega
    · rw [if_neg c2]
      have e1 : i < m + 1 ↔ i < m := by omega
      simp only [e1]
      omega
theorem gv_unit {x t : List Int} {i j : Nat} {a : Int} (hl : x.length = t.length) (g : Gv x t i j a) : unitL (giveL x (i : Int) (j : Int) a) t = unitL x t - a := by
 have h := gv_unit_m hl g x.length (Nat.le_refl _)
 have h1 := g.lt
 have h2 := g.hj
 rw [List.take_of_length_le (by rw [giveL_length]; omega), List.take_of_length_le (by omega), List.take_of_length_le (by omega), if_pos (by omega)] at h
 exact h
def gvA (u : Bool) (x t : List Int) (i j : Nat) : Int := if u = true then 1 else min (rd x (i : Int) - rd t (i : Int)) (rd t (j : Int) - rd x (j : Int))
theorem nx_gv {x t : List Int} {i j : Nat} (u : Bool) (h : Nx x t i j) : Gv x t i j (gvA u x t i j) := by
 have h1 := h.igt
 have h2 := h.jlt
 unfold gvA
 refine ⟨h, ?_, ?_, ?_⟩
 all_goals (split <;> omega)
/-- The gifts of a path: units (u) or as big as they can be. -/
inductive GP (u : Bool) (t : List Int) : List Int → List (Nat × Nat × Int) → Prop
 | nil : GP u t t []
 | cons {x : List Int} {i j : Nat} {L : List (Nat × Nat × Int)} (hne : x ≠ t) (hn : Nx x t i j) (h : GP u t (giveL x (i : Int) (j : Int) (gvA u x t i j)) L) : GP u t x ((i, j, gvA u x t i j) :: L)
theorem gp_exists (u : Bool) {t : List Int} (ht : Desc t) (htg : goodL t = true) : ∀ (n : Nat) (x : List Int), Dom x t → Desc x → goodL x = true → unitL x t ≤ n → ∃ L, GP u t x L ∧ (L.length : Int) ≤ unitL x t
 | n, x, hd, hx, hg, hu => by
  by_cases hne : x = t
  · subst hne
    exact ⟨[], .nil, by simpa using unitL_nn x x⟩
  · obtain ⟨i, j, hn⟩ := nx_exists hd hne
    have g := nx_gv u hn
    have h1 := gv_unit hd.1 g
    have h2 := unitL_nn (giveL x (i : Int) (j : Int) (gvA u x t i j)) t
    have h3 := g.pos
    match n, hu with
    | 0, hu => omega
    | n + 1, hu =>
     obtain ⟨L, hL, hl⟩ := gp_exists u ht htg n (giveL x (i : Int) (j : Int) (gvA u x t i j)) (gv_dom hd g) (gv_desc hd.1 hx ht g) (gv_good hd.1 hg htg g) (by omega)
     exact ⟨_, .cons hne hn hL, by rw [List.length_cons]; omega⟩
theorem unitL_bd {x t : List Int} (hx : goodL x = true) (ht : goodL t = true) (hl : x.length = t.length) : unitL x t ≤ 480 := by
 have h := (goodL_iff x).1 hx
 have h' := (goodL_iff t).1 ht
 have key : ∀ m : Nat, m ≤ x.length → unitL (x.take m) (t.take m) ≤ 60 * m := by
  intro m
  induction m with
  | zero => intro _; simp [unitL]
  | succ m ih =>
   intro hm
   rw [unitL_take (by omega) (by omega)]
   have := ih (by omega)
   have b1 := rd_good hx (i := (m : Int)) (by omega) (by omega)
   have b2 := rd_good ht (i := (m : Int)) (by omega) (by omega)
   omega
 have := key x.length (Nat.le_refl _)
 rw [List.take_of_length_le (Nat.le_refl _), List.take_of_length_le (by omega)] at this
 omega
end Go.Proofs.Ytkpojaooolefjaa.A

namespace Go.Proofs.Ytkpojaooolefjaa.A
open Go.RowKit Go.Proofs.YtkpojaooolefjaaW.PrintWords Go.Proofs.YtkpojaooolefjaaW.PrintLast Go.Proofs.YtkpojaooolefjaaW.PrintMore
set_option linter.unusedVariables false
set_option linter.unusedSimpArgs false
def toG (L : List (Nat × Nat × Int)) : List S49 := L.map fun g => ⟨(g.1 : Int), (g.2.1 : Int), g.2.2⟩
theorem slEqual_l (xs ys : List Int) (hx : xs.length ≤ 9223372036854775807) (hl : xs.length = ys.length) : ∀ (n i : Nat), i + n = xs.length → Ev (fun k => slices_Equal_int_int.l0 k xs ys (xs.length : Int) (i : Int)) (decide (xs.drop i = ys.drop i))
 | 0, i, h => by
  refine Ev.succ ?_
  simp only [slices_Equal_int_int.l0, if_neg (show ¬ (i : Int) < (xs.length : Int) by omega)]
  rw [List.drop_eq_nil_of_le (by omega), List.drop_eq_nil_of_le (by omega)]
  exact Ev.now _
 | n + 1, i, h => by
  have hi : i < xs.length := by omega
  have hj : i < ys.length := by omega
  refine Ev.succ ?_
  simp only [slices_Equal_int_int.l0, if_pos (show (i : Int) < (xs.length : Int) by omega), if_pos (show (i : Int) < (ys.length : Int) by omega), if_pos (show (0 : Int) ≤ (i : Int) by omega), rdn hi, rdn hj, wsucc hi hx]
  rw [List.drop_eq_getElem_cons hi, List.drop_eq_getElem_cons hj]
  by_cases c : xs[i] = ys[i]
  · simp only [c, if_true, List.cons.injEq, true_and]
    exact slEqual_l xs ys hx hl n (i + 1) (by omega)
  · simp only [c, if_false, List.cons.injEq, false_and, decide_false]
    exact Ev.now _
theorem slEqual_ev (xs ys : List Int) (hx : xs.length ≤ 9223372036854775807) : Ev (fun k => slices_Equal_int_int.f k xs ys) (decide (xs = ys)) := by
 unfold slices_Equal_int_int.f
 by_cases h : xs.length = ys.length
 · simp only [if_pos (show (xs.length : Int) = (ys.length : Int) by omega)]
   exact slEqual_l xs ys hx h xs.length 0 (by omega)
 · simp only [if_neg (show ¬ (xs.length : Int) = (ys.length : Int) by omega)]
   rw [decide_eq_false (fun e => h (by rw [e]))]
   exact Ev.now _
theorem l1Same_l (xs ys : List Int) (hx : xs.length ≤ 9223372036854775807) (hl : xs.length = ys.length) : ∀ (n i : Nat), i + n = xs.length → Ev (fun k => spec_l1Same.l0 k xs ys (xs.length : Int) (i : Int)) (decide (xs.drop i = ys.drop i))
 | 0, i, h => by
  refine Ev.succ ?_
  simp only [spec_l1Same.l0, if_neg (show ¬ (i : Int) < (xs.length : Int) by omega)]
  rw [List.drop_eq_nil_of_le (by omega), List.drop_eq_nil_of_le (by omega)]
  exact Ev.now _
 | n + 1, i, h => by
  have hi : i < xs.length := by omega
  have hj : i < ys.length := by omega
  refine Ev.succ ?_
  simp only [spec_l1Same.l0, if_pos (show (i : Int) < (xs.length : Int) by omega), if_pos (show (i : Int) < (ys.length : Int) by omega), if_pos (show (0 : Int) ≤ (i : Int) by omega), rdn hi, rdn hj, wsucc hi hx]
  rw [List.drop_eq_getElem_cons hi, List.drop_eq_getElem_cons hj]
  by_cases c : xs[i] = ys[i]
  · simp only [c, if_true, List.cons.injEq, true_and]
    exact l1Same_l xs ys hx hl n (i + 1) (by omega)
  · simp only [c, if_false, List.cons.injEq, false_and, decide_false]
    exact Ev.now _
theorem l1Same_ev (xs ys : List Int) (hx : xs.length ≤ 9223372036854775807) : Ev (fun k => spec_l1Same.f k xs ys) (decide (xs = ys)) := by
 unfold spec_l1Same.f
 by_cases h : xs.length = ys.length
 · simp only [if_pos (show (xs.length : Int) = (ys.length : Int) by omega)]
   exact l1Same_l xs ys hx h xs.length 0 (by omega)
 · simp only [if_neg (show ¬ (xs.length : Int) = (ys.length : Int) by omega)]
   rw [decide_eq_false (fun e => h (by rw [e]))]
   exact Ev.now _
theorem implNext1 {x t : List Int} {i j : Nat} (u : Bool) (acc : List S49) (r : List S49) (hl : x.length = t.length) (hn : x.length ≤ 1000) (h : Nx x t i j) (hr : Ev (fun K => impl_path.l2 K x t u acc (j : Int) (j : Int)) r) : ∀ (d k : Nat), k + d = j → Ev (fun K => impl_path.l1 K x t u acc (k : Int)) r
 | 0, k, e => by
  have hk : k = j := by omega
  have := h.hj
  have := h.jlt
  subst hk
  refine Ev.succ ?_
  simp only [impl_path.l1, if_pos (show (0 : Int) ≤ (k : Int) by omega), if_pos (show (k : Int) < (x.length : Int) by omega), if_pos (show (k : Int) < (t.length : Int) by omega), if_neg (show ¬ rd x (k : Int) ≥ rd t (k : Int) by omega)]
  exact hr
 | d + 1, k, e => by
  have := h.hj
  have := h.bef k (by omega)
  refine Ev.succ ?_
  simp only [impl_path.l1, if_pos (show (0 : Int) ≤ (k : Int) by omega), if_pos (show (k : Int) < (x.length : Int) by omega), if_pos (show (k : Int) < (t.length : Int) by omega), if_pos (show rd x (k : Int) ≥ rd t (k : Int) by omega), wsucc (show k < x.length by omega) (by omega)]
  exact implNext1 u acc r hl hn h hr d (k + 1) (by omega)
theorem implNext2 {x t : List Int} {i j : Nat} (u : Bool) (acc : List S49) (r : List S49) (hl : x.length = t.length) (hn : x.length ≤ 1000) (h : Nx x t i j) (hr : Ev (fun K => impl_path.l2 K x t u acc (j : Int) (i : Int)) r) : ∀ (d k : Nat), i + d = k → k ≤ j → Ev (fun K => impl_path.l2 K x t u acc (j : Int) (k : Int)) r
 | 0, k, e, _ => by
  have hk : k = i := by omega
  subst hk
  exact hr
 | d + 1, k, e, hkj => by
  have := h.hj
  have hle : rd x (k : Int) ≤ rd t (k : Int) := by
   rcases Nat.lt_or_ge k j with c | c
   · exact h.btw k (by omega) c
   · have : k = j := by omega
     subst this
     have := h.jlt
     omega
  refine Ev.succ ?_
  simp only [impl_path.l2, if_pos (show (0 : Int) ≤ (k : Int) by omega), if_pos (show (k : Int) < (x.length : Int) by omega), if_pos (show (k : Int) < (t.length : Int) by omega), if_pos hle, w64 (x := (k : Int) - 1) (by omega) (by omega)]
  have := implNext2 u acc r hl hn h hr d (k - 1) (by omega) (by omega)
  rw [show (((k - 1 : Nat) : Int)) = (k : Int) - 1 by omega] at this
  exact this
theorem specNext1 {x t : List Int} {i j : Nat} (hl : x.length = t.length) (hn : x.length ≤ 1000) (h : Nx x t i j) : ∀ (d k : Nat), k + d = j → Ev (fun K => spec_giNext.l0 K t x (k : Int)) ((i : Int), (j : Int), 1)
 | 0, k, e => by
  have hk : k = j := by omega
  have := h.hj
  have := h.jlt
  have h3 := h.lt
  subst hk
  refine Ev.succ ?_
  simp only [spec_giNext.l0, if_pos (show (0 : Int) ≤ (k : Int) by omega), if_pos (show (k : Int) < (x.length : Int) by omega), if_pos (show (k : Int) < (t.length : Int) by omega), if_neg (show ¬ rd x (k : Int) ≥ rd t (k : Int) by omega), w64 (x := (k : Int) - 1) (by omega) (by omega)]
  have key : ∀ (d m : Nat), i + d = m → m < k → Ev (fun K => spec_giNext.l1 K t x (k : Int) (m : Int)) ((i : Int), (k : Int), 1) := by
   intro d
   induction d with
   | zero =>
    intro m e1 e2
    have hm : m = i := by omega
    subst hm
    have := h.igt
    refine Ev.succ ?_
    simp only [spec_giNext.l1, if_pos (show (0 : Int) ≤ (m : Int) by omega), if_pos (show (m : Int) < (x.length : Int) by omega), if_pos (show (m : Int) < (t.length : Int) by omega), if_neg (show ¬ rd x (m : Int) ≤ rd t (m : Int) by omega)]
    exact Ev.now _
   | succ d ih =>
    intro m e1 e2
    have := h.btw m (by omega) e2
    refine Ev.succ ?_
    simp only [spec_giNext.l1, if_pos (show (0 : Int) ≤ (m : Int) by omega), if_pos (show (m : Int) < (x.length : Int) by omega), if_pos (show (m : Int) < (t.length : Int) by omega), if_pos this, w64 (x := (m : Int) - 1) (by omega) (by omega)]
    have := ih (m - 1) (by omega) (by omega)
    rw [show (((m - 1 : Nat) : Int)) = (m : Int) - 1 by omega] at this
    exact this
  have := key (k - 1 - i) (k - 1) (by omega) (by omega)
  rw [show (((k - 1 : Nat) : Int)) = (k : Int) - 1 by omega] at this
  exact this
 | d + 1, k, e => by
  have := h.hj
  have := h.bef k (by omega)
  refine Ev.succ ?_
  simp only [spec_giNext.l0, if_pos (show (0 : Int) ≤ (k : Int) by omega), if_pos (show (k : Int) < (x.length : Int) by omega), if_pos (show (k : Int) < (t.length : Int) by omega), if_pos (show rd x (k : Int) ≥ rd t (k : Int) by omega), wsucc (show k < x.length by omega) (by omega)]
  exact specNext1 hl hn h d (k + 1) (by omega)
theorem gv_done {x t : List Int} {i j : Nat} {a : Int} (hl : x.length = t.length) (hg : goodL x = true) (htg : goodL t = true) (hx : Desc x) (ht : Desc t) (g : Gv x t i j a) : (x.set (i : Int).toNat (wrap64 (rd x (i : Int) - a))).set (j : Int).toNat (wrap64 (rd x (j : Int) + a)) = giveL x (i : Int) (j : Int) a ∧ descL (giveL x (i : Int) (j : Int) a) = giveL x (i : Int) (j : Int) a := by
 have h1 := g.lt
 have h2 := g.hj
 have h3 := g.ai
 have h4 := g.aj
 have hpos := g.pos
 have b1 := rd_good htg (i := (i : Int)) (by omega) (by omega)
 have b2 := rd_good htg (i := (j : Int)) (by omega) (by omega)
 have b3 := rd_good hg (i := (i : Int)) (by omega) (by omega)
 have b4 := rd_good hg (i := (j : Int)) (by omega) (by omega)
 refine ⟨?_, descL_of_desc (gv_desc hl hx ht g)⟩
 rw [w64 (x := rd x (i : Int) - a) (by omega) (by omega), w64 (x := rd x (j : Int) + a) (by omega) (by omega)]
 rfl
theorem implPath_gp (u : Bool) {t : List Int} (ht : Desc t) (htg : goodL t = true) {x : List Int} {L : List (Nat × Nat × Int)} (h : GP u t x L) : ∀ acc : List S49, Dom x t → Desc x → goodL x = true → acc.length + L.length ≤ 1000000 → Ev (fun k => impl_path.l0 k x t u acc) (acc ++ toG L) := by
 induction h with
 | nil =>
  intro acc hd hx hg hb
  refine Ev.succ ?_
  simp only [impl_path.l0]
  have e := slEqual_ev t t (by have := (goodL_iff t).1 htg; omega)
  rw [decide_eq_true rfl] at e
  refine Ev.bind e ?_
  simp only [if_true, toG, List.map_nil, List.append_nil]
  exact Ev.now _
 | @cons x i j L hne hn h ih =>
  intro acc hd hx hg hb
  have g := nx_gv u hn
  have hlen := (goodL_iff x).1 hg
  have hl := hd.1
  rw [List.length_cons] at hb
  obtain ⟨e1, e2⟩ := gv_done hl hg htg hx ht g
  have h1 := hn.lt
  have h2 := hn.hj
  have ih' := ih (acc ++ [⟨(i : Int), (j : Int), gvA u x t i j⟩]) (gv_dom hd g) (gv_desc hl hx ht g) (gv_good hl hg htg g) (by rw [List.length_append, List.length_singleton]; omega)
  have hgv := given_eq x (i : Int) (j : Int) (gvA u x t i j) (by omega) (by omega) (by omega) (by omega)
  rw [e1] at hgv
  have hrk := ranking_eq (good_sm (gv_good hl hg htg g))
  rw [e2] at hrk
  refine Ev.succ ?_
  simp only [impl_path.l0]
  have e := slEqual_ev x t (by omega)
  rw [decide_eq_false hne] at e
  refine Ev.bind e ?_
  simp only [Bool.false_eq_true, if_false]
  refine implNext1 u acc _ hl (by omega) hn (implNext2 u acc _ hl (by omega) hn (Ev.succ ?_) (j - i) j (by omega) (Nat.le_refl _)) j 0 (by omega)
  have b1 := rd_good htg (i := (i : Int)) (by omega) (by omega)
  have b2 := rd_good htg (i := (j : Int)) (by omega) (by omega)
  have b3 := rd_good hg (i := (i : Int)) (by omega) (by omega)
  have b4 := rd_good hg (i := (j : Int)) (by omega) (by omega)
  have higt := hn.igt
  simp only [impl_path.l2, if_pos (show (0 : Int) ≤ (i : Int) by omega), if_pos (show (0 : Int) ≤ (j : Int) by omega), if_pos (show (i : Int) < (x.length : Int) by omega), if_pos (show (i : Int) < (t.length : Int) by omega), if_pos (show (j : Int) < (x.length : Int) by omega), if_pos (show (j : Int) < (t.length : Int) by omega), if_neg (show ¬ rd x (i : Int) ≤ rd t (i : Int) by omega), if_pos (show acc.length < 5864062014805 by omega)]
  have er : acc ++ toG ((i, j, gvA u x t i j) :: L) = (acc ++ [⟨(i : Int), (j : Int), gvA u x t i j⟩]) ++ toG L := by simp [toG]
  rw [er]
  cases u with
  | true =>
   have ea : gvA true x t i j = 1 := rfl
   rw [ea] at hgv hrk ih' ⊢
   simp only [if_true, hgv, hrk, Option.bind_some]
   exact ih'
  | false =>
   have ea : mn (wrap64 (rd x (i : Int) - rd t (i : Int))) (wrap64 (rd t (j : Int) - rd x (j : Int))) = gvA false x t i j := by
    rw [w64 (x := rd x (i : Int) - rd t (i : Int)) (by omega) (by omega), w64 (x := rd t (j : Int) - rd x (j : Int)) (by omega) (by omega), mn_eq]
    rfl
   simp only [Bool.false_eq_true, if_false, ea, hgv, hrk, Option.bind_some]
   exact ih'
theorem specPath_gp (u : Bool) {t : List Int} (ht : Desc t) (htg : goodL t = true) {x : List Int} {L : List (Nat × Nat × Int)} (h : GP u t x L) : ∀ acc : List S49, Dom x t → Desc x → goodL x = true → acc.length + L.length ≤ 1000000 → Ev (fun k => spec_giPath.l0 k (!u) t x acc) (acc ++ toG L) := by
 induction h with
 | nil =>
  intro acc hd hx hg hb
  refine Ev.succ ?_
  simp only [spec_giPath.l0]
  have e := l1Same_ev t t (by have := (goodL_iff t).1 htg; omega)
  rw [decide_eq_true rfl] at e
  refine Ev.bind e ?_
  simp only [if_true, toG, List.map_nil, List.append_nil]
  exact Ev.now _
 | @cons x i j L hne hn h ih =>
  intro acc hd hx hg hb
  have g := nx_gv u hn
  have hlen := (goodL_iff x).1 hg
  have hl := hd.1
  rw [List.length_cons] at hb
  obtain ⟨e1, e2⟩ := gv_done hl hg htg hx ht g
  have h1 := hn.lt
  have h2 := hn.hj
  have ih' := ih (acc ++ [⟨(i : Int), (j : Int), gvA u x t i j⟩]) (gv_dom hd g) (gv_desc hl hx ht g) (gv_good hl hg htg g) (by rw [List.length_append, List.length_singleton]; omega)
  have hgv := giDo_eq x (i : Int) (j : Int) (gvA u x t i j) (by omega) (by omega) (by omega) (by omega)
  rw [e1] at hgv
  have hrk := liRank_ev (giveL x (i : Int) (j : Int) (gvA u x t i j)) (by rw [giveL_length]; omega)
  rw [e2] at hrk
  refine Ev.succ ?_
  simp only [spec_giPath.l0]
  have e := l1Same_ev t x (by omega)
  rw [decide_eq_false (Ne.symm hne)] at e
  refine Ev.bind e ?_
  simp only [Bool.false_eq_true, if_false]
  have en : Ev (fun K => spec_giNext.f K t x) ((i : Int), (j : Int), 1) := specNext1 hl (by omega) hn j 0 (by omega)
  refine Ev.bind en ?_
  have b1 := rd_good htg (i := (i : Int)) (by omega) (by omega)
  have b2 := rd_good htg (i := (j : Int)) (by omega) (by omega)
  have b3 := rd_good hg (i := (i : Int)) (by omega) (by omega)
  have b4 := rd_good hg (i := (j : Int)) (by omega) (by omega)
  simp only [if_pos (show (0 : Int) ≤ (i : Int) by omega), if_pos (show (0 : Int) ≤ (j : Int) by omega), if_pos (show (i : Int) < (x.length : Int) by omega), if_pos (show (i : Int) < (t.length : Int) by omega), if_pos (show (j : Int) < (x.length : Int) by omega), if_pos (show (j : Int) < (t.length : Int) by omega), if_pos (show acc.length < 5864062014805 by omega)]
  have er : acc ++ toG ((i, j, gvA u x t i j) :: L) = (acc ++ [⟨(i : Int), (j : Int), gvA u x t i j⟩]) ++ toG L := by simp [toG]
  rw [er]
  cases u with
  | true =>
   have ea : gvA true x t i j = 1 := rfl
   rw [ea] at hgv hrk ih' ⊢
   simp only [Bool.not_true, Bool.false_eq_true, if_false, hgv, Option.bind_some]
   exact Ev.bind hrk ih'
  | false =>
   have ea : spec_l1Least.f (wrap64 (rd x (i : Int) - rd t (i : Int))) (wrap64 (rd t (j : Int) - rd x (j : Int))) = some (gvA false x t i j) := by
    rw [w64 (x := rd x (i : Int) - rd t (i : Int)) (by omega) (by omega), w64 (x := rd t (j : Int) - rd x (j : Int)) (by omega) (by omega)]
    unfold spec_l1Least.f gvA
    simp only [Bool.false_eq_true, if_false]
    split <;> (congr 1; omega)
   simp only [Bool.not_false, if_true, ea, hgv, Option.bind_some]
   exact Ev.bind hrk ih'
noncomputable def gpL (u : Bool) (x t : List Int) : List (Nat × Nat × Int) := open Classical in if h : ∃ L, GP u t x L ∧ (L.length : Int) ≤ unitL x t then h.choose else []
theorem gpL_spec (u : Bool) {x t : List Int} (hd : Dom x t) (hx : Desc x) (ht : Desc t) (hg : goodL x = true) (htg : goodL t = true) : GP u t x (gpL u x t) ∧ ((gpL u x t).length : Int) ≤ unitL x t := by
 have hu := unitL_nn x t
 have h := gp_exists u ht htg (unitL x t).toNat x hd hx hg (by omega)
 unfold gpL
 rw [dif_pos h]
 exact h.choose_spec
theorem toG_length (L : List (Nat × Nat × Int)) : (toG L).length = L.length := by simp [toG]
noncomputable def pathL (u : Bool) (a b : List Int) : List S49 := toG (gpL u (descL b) (descL a))
theorem pathL_ev (u : Bool) (a b : List Int) (h : betB a b = true) : Ev (fun k => impl_path.f k (descL b) (descL a) u) (pathL u a b) ∧ Ev (fun k => spec_giPath.f k a b (!u)) (pathL u a b) ∧ (pathL u a b).length ≤ 480 := by
 obtain ⟨ga, gb, hm⟩ := (betB_iff a b).1 h
 have hd := (majB_dom a b).1 hm
 have ga' : goodL (descL a) = true := by rw [good_desc]; exact ga
 have gb' : goodL (descL b) = true := by rw [good_desc]; exact gb
 obtain ⟨hG, hlen⟩ := gpL_spec u hd (descL_desc b) (descL_desc a) gb' ga'
 have hbd := unitL_bd gb' ga' hd.1
 refine ⟨?_, ?_, by unfold pathL; rw [toG_length]; omega⟩
 · have := implPath_gp u (descL_desc a) ga' hG [] hd (descL_desc b) gb' (by rw [List.length_nil]; omega)
   rw [List.nil_append] at this
   exact this
 · have := specPath_gp u (descL_desc a) ga' hG [] hd (descL_desc b) gb' (by rw [List.length_nil]; omega)
   rw [List.nil_append] at this
   unfold spec_giPath.f
   exact Ev.bind (liRank_ev a (by have := (good_sm ga).1; omega)) (Ev.bind (liRank_ev b (by have := (good_sm gb).1; omega)) this)
noncomputable def pathR (a b : List Int) : List S49 × Bool := if betB a b = true then (pathL true a b, true) else ([], false)
noncomputable def bigR (a b : List Int) : List S49 × Bool := if betB a b = true then (pathL false a b, true) else ([], false)
end Go.Proofs.Ytkpojaooolefjaa.A

namespace Go.Proofs.Ytkpojaooolefjaa.A
open Go.RowKit Go.Proofs.YtkpojaooolefjaaW.PrintWords Go.Proofs.YtkpojaooolefjaaW.PrintLast Go.Proofs.YtkpojaooolefjaaW.PrintMore
set_option linter.unusedVariables false
set_option linter.unusedSimpArgs false
theorem specGiftPath_ev (a b : List Int) (ha : a.length ≤ 1048576) (hb : b.length ≤ 1048576) : Ev (fun k => spec_GiftPath.f k a b) (pathR a b) := by
 unfold spec_GiftPath.f pathR
 exact Ev.bind (giLists_ev a b ha hb) (Ev.ite (fun h => Ev.bind (pathL_ev true a b h).2.1 (Ev.now _)) (fun _ => Ev.now _))
theorem implGiftPath_ev (a b : List Int) (ha : a.length ≤ 1048576) (hb : b.length ≤ 1048576) : Ev (fun k => impl_GiftPath.f k a b) (pathR a b) := by
 unfold impl_GiftPath.f pathR
 refine Ev.bind (isBetween_ev a b ha hb) (Ev.ite (fun h => ?_) (fun _ => Ev.now _))
 obtain ⟨ga, gb, hm⟩ := (betB_iff a b).1 h
 simp only [ranking_eq (good_sm ga), ranking_eq (good_sm gb), Option.bind_some]
 exact Ev.bind (pathL_ev true a b h).1 (Ev.now _)
theorem pathR_len (a b : List Int) (ha : a.length ≤ 1048576) (hb : b.length ≤ 1048576) : (pathR a b).1.length ≤ 1048576 := by
 unfold pathR
 split
 · next h =>
   have := (pathL_ev true a b h).2.2
   simp only
   omega
 · simp
end Go.Proofs.Ytkpojaooolefjaa.A

namespace Go.Proofs.Ytkpojaooolefjaa.A
open Go.RowKit Go.Proofs.YtkpojaooolefjaaW.PrintWords Go.Proofs.YtkpojaooolefjaaW.PrintLast Go.Proofs.YtkpojaooolefjaaW.PrintMore
set_option linter.unusedVariables false
set_option linter.unusedSimpArgs false
noncomputable def levelR (a : List Int) : List S49 × Bool := if goodL a = true then (pathL true (evenL a.length a.sum) a, true) else ([], false)
theorem specLevelOff_ev (a : List Int) (ha : a.length ≤ 1048576) : Ev (fun k => spec_LevelOff.f k a) (levelR a) := by
 unfold spec_LevelOff.f levelR
 refine Ev.bind (liGood_ev a (by omega)) (Ev.ite (fun hg => ?_) (fun _ => Ev.now _))
 obtain ⟨b1, b2, b3⟩ := (goodL_iff a).1 hg
 have hs := good_sum hg
 refine Ev.bind (liSum_ev a (good_sm hg)) ?_
 have e := specMostEven_ev a.length a.sum
 unfold evenR at e
 rw [if_pos (by omega), if_pos (by omega)] at e
 exact Ev.bind e (Ev.bind (pathL_ev true _ a (even_bet a hg)).2.1 (Ev.now _))
theorem implLevelOff_ev (a : List Int) (ha : a.length ≤ 1048576) : Ev (fun k => impl_LevelOff.f k a) (levelR a) := by
 unfold impl_LevelOff.f levelR
 refine Ev.bind (implIsList_ev a (by omega)) (Ev.ite (fun hg => ?_) (fun _ => Ev.now _))
 obtain ⟨b1, b2, b3⟩ := (goodL_iff a).1 hg
 have hs := good_sum hg
 refine Ev.bind (total_ev a (good_sm hg)) (Ev.bind (implMostEven_l a.length a.sum (by omega) (by omega) (by omega) (by omega)) ?_)
 have hb := even_bet a hg
 have e := implGiftPath_ev (evenL a.length a.sum) a (by rw [evenL_length]; omega) ha
 unfold pathR at e
 rw [if_pos hb] at e
 exact Ev.bind e (Ev.now _)
theorem levelR_len (a : List Int) (ha : a.length ≤ 1048576) : (levelR a).1.length ≤ 1048576 := by
 unfold levelR
 split
 · next hg =>
   have := (pathL_ev true _ a (even_bet a hg)).2.2
   simp only
   omega
 · simp
end Go.Proofs.Ytkpojaooolefjaa.A

-- made by a program of this repo (wip/pp.py) through the kit's printer
namespace Go.Proofs.Ytkpojaooolefjaa.A
open Go.RowKit Go.Proofs.YtkpojaooolefjaaW.PrintWords Go.Proofs.YtkpojaooolefjaaW.PrintLast Go.Proofs.YtkpojaooolefjaaW.PrintMore
attribute [local go_sem] max2_int min2_int max_two min_two max_three min_three max_four min_four
set_option linter.unusedVariables false
set_option linter.unusedSimpArgs false

/-! ### laws_heldIntS: function 59 -/
def laws_heldIntS.l0 : Nat → List Int → Int → Int → Option (Int)
 | 0, _, _, _ => none
 | k + 1, x0, x1, x5 => if x5 < (x0.length : Int) then (if 0 ≤ x5 then (if (rd x0 x5) = x1 then (laws_heldIntS.l0 k x0 (wrap64 (x1 + 1)) (wrap64 (x5 + 1))) else (some (-1))) else (none)) else (some x1)
def laws_heldIntS.f (k : Nat) (l0 : List Int) (a1 : Int) : Option (Int) := laws_heldIntS.l0 k l0 a1 0
theorem laws_heldIntS.mono_l : ∀ k, (∀ y0 y1 y2, LeO (laws_heldIntS.l0 k y0 y1 y2) (laws_heldIntS.l0 (k + 1) y0 y1 y2))
 | 0 => fun _ _ _ r h => by simp [laws_heldIntS.l0] at h
 | k + 1 => by
  have ih0 := laws_heldIntS.mono_l k
  · intro y0 y1 y2
    unfold laws_heldIntS.l0
    repeat' first
    | (with_reducible exact ih0 _ _ _)
    | (with_reducible exact LeO.refl _)
    | (with_reducible exact LeO.none _)
    | (with_reducible refine LeO.ite ?_ ?_)
    | (with_reducible refine LeO.bind ?_ (fun _ => ?_))
    | exact ih0 _ _ _
    | exact LeO.none _
    | refine LeO.ite ?_ ?_
    | refine LeO.bind ?_ (fun _ => ?_)
theorem laws_heldIntS.mono : ∀ a0 a1 k, LeO (laws_heldIntS.f k a0 a1) (laws_heldIntS.f (k + 1) a0 a1) := by
 intro a0 a1 k
 have ih0 := laws_heldIntS.mono_l k
 unfold laws_heldIntS.f
 repeat' first
  | (with_reducible exact ih0 _ _ _)
  | (with_reducible exact LeO.refl _)
  | (with_reducible exact LeO.none _)
  | (with_reducible refine LeO.ite ?_ ?_)
  | (with_reducible refine LeO.bind ?_ (fun _ => ?_))
  | exact ih0 _ _ _
  | exact LeO.none _
  | refine LeO.ite ?_ ?_
  | refine LeO.bind ?_ (fun _ => ?_)
set_option maxHeartbeats 8000000 in
set_option maxRecDepth 100000 in
theorem laws_heldIntS.calls (k : Nat) (A0 : Option Addr) (c0 : Nat) (l0 : List Int) (a1 : Int) (r : Int) (w : World) (hr0 : Kd.C (Kd.int .i64) w A0 l0.length l0) (hc0 : l0.length ≤ c0) (h : laws_heldIntS.f k l0 a1 = some r) :
 Calls Try.prog 59 #[.slice A0 l0.length c0, .int .i64 a1] w fun e w' => e = .returned (.int .i64 r) ∧ Drawn0 w w' := by
 have HR0 := Aside0.mk hr0
 have HC0 := Aside0.mk hc0
 clear hr0 hc0
 have H : (laws_heldIntS.l0 k l0 a1 0) = some r := h
 clear h
 have H' := Aside0.mk H
 clear H
 go_enter Try.func59, Try.ntmps59
 go_wp2
 go_loopg [1, 5] k (fun kq v1 v5 w' => ∃ (x1_1 : Int) (x5_1 : Int), v1 = .int .i64 x1_1 ∧ v5 = .int .i64 x5_1 ∧ Aside0 (laws_heldIntS.l0 kq l0 x1_1 x5_1 = some r) ∧ Aside0 (kq ≤ k) ∧ Drawn0 w w')
 case atStart => exact ⟨(a1), (0), (by first | rfl | (simp; done) | (simp [*]; done)), (by first | rfl | (simp; done) | (simp [*]; done)), H', ⟨Nat.le_refl _⟩, by repeat (first | exact Drawn0.refl _ | apply Drawn0.step)⟩
 case round =>
  clear H'
  try clear p2
  obtain ⟨x1_1, x5_1, rfl, rfl, HA, HK1, ⟨m1, rfl⟩⟩ := hrel
  cases gk with
  | zero => exact absurd HA.out (by simp [laws_heldIntS.l0])
  | succ k1 =>
   have H := HA.out
   clear HA
   simp only [laws_heldIntS.l0] at H
   by_cases c3 : x5_1 < (l0.length : Int)
   · rw [if_pos c3] at H
     have c3b0 : decide (x5_1 < (l0.length : Int)) = true := decide_eq_true c3
     clear c3
     by_cases c4 : 0 ≤ x5_1
     · rw [if_pos c4] at H
       have c4b0 : decide (0 ≤ x5_1) = true := decide_eq_true c4
       clear c4
       by_cases c5 : (rd l0 x5_1) = x1_1
       · rw [if_pos c5] at H
         have c5b0 : ((rd l0 x5_1) == x1_1) = true := beq_iff_eq.mpr c5
         have c5b1 : ((rd l0 x5_1) != x1_1) = false := bne_eq_false_iff_eq.mpr c5
         clear c5
         have H' := Aside0.mk H
         clear H
         have p440 : 0 ≤ (x5_1 : Int) := of_decide_eq_true (by first | (with_reducible assumption) | assumption)
         have q440 : x5_1 < (l0.length : Int) := of_decide_eq_true (by first | (with_reducible assumption) | assumption)
         obtain ⟨ad440, e440, hx440_0⟩ := Kd.at_int HR0.out x5_1 p440 q440
         cases e440
         replace p440 := eq_true p440
         replace q440 := eq_true q440
         go_wp2
         go_roundg k1
         case measure => have := HK1.out; omega
         case rel => exact ⟨(wrap64 (x1_1 + 1)), (wrap64 (x5_1 + 1)), (by first | rfl | (simp; done) | (simp [*]; done)), (by first | rfl | (simp; done) | (simp [*]; done)), H', ⟨by have := HK1.out; omega⟩, by repeat (first | exact Drawn0.refl _ | apply Drawn0.step)⟩
       · rw [if_neg c5] at H
         have c5b0 : ((rd l0 x5_1) == x1_1) = false := beq_eq_false_iff_ne.mpr c5
         have c5b1 : ((rd l0 x5_1) != x1_1) = true := bne_iff_ne.mpr c5
         obtain rfl := Option.some.inj H
         have p440 : 0 ≤ (x5_1 : Int) := of_decide_eq_true (by first | (with_reducible assumption) | assumption)
         have q440 : x5_1 < (l0.length : Int) := of_decide_eq_true (by first | (with_reducible assumption) | assumption)
         obtain ⟨ad440, e440, hx440_0⟩ := Kd.at_int HR0.out x5_1 p440 q440
         cases e440
         replace p440 := eq_true p440
         replace q440 := eq_true q440
         go_wp2
         go_ret
         exact ⟨by first | rfl | (simp; done) | (simp [*]; done), by repeat (first | exact Drawn0.refl _ | apply Drawn0.step)⟩
     · rw [if_neg c4] at H
       exact absurd H (by simp)
   · rw [if_neg c3] at H
     have c3b0 : decide (x5_1 < (l0.length : Int)) = false := decide_eq_false c3
     clear c3
     obtain rfl := Option.some.inj H
     go_wp2
     go_ret
     exact ⟨by first | rfl | (simp; done) | (simp [*]; done), by repeat (first | exact Drawn0.refl _ | apply Drawn0.step)⟩

end Go.Proofs.Ytkpojaooolefjaa.A

namespace Go.Proofs.Ytkpojaooolefjaa.A
open Go.RowKit Go.Proofs.YtkpojaooolefjaaW.PrintWords Go.Proofs.YtkpojaooolefjaaW.PrintLast Go.Proofs.YtkpojaooolefjaaW.PrintMore
set_option linter.unusedVariables false
set_option linter.unusedSimpArgs false
def marks (a : Int) (n : Nat) : List Int := (List.range n).map fun (j : Nat) => a + (j : Int)
theorem marks_length (a : Int) (n : Nat) : (marks a n).length = n := by simp [marks]
theorem marks_get (a : Int) (n i : Nat) (h : i < (marks a n).length) : (marks a n)[i] = a + (i : Int) := by simp [marks]
theorem markIntS_l (a : Int) (m : Nat) (h0 : 0 ≤ a) (hm : a + m ≤ 9223372036854775807) : ∀ (n i : Nat) (xs : List Int), i + n = m → xs.length = m → xs.take i = (marks a m).take i → Ev (fun k => laws_markIntS.l0 k xs (a + (i : Int)) (i : Int)) (a + (m : Int), marks a m)
 | 0, i, xs, h, hl, ht => by
  refine Ev.succ ?_
  simp only [laws_markIntS.l0, if_neg (show ¬ (i : Int) < (xs.length : Int) by omega)]
  rw [List.take_of_length_le (by omega), List.take_of_length_le (by rw [marks_length]; omega)] at ht
  rw [ht, show i = m by omega]
  exact Ev.now _
 | n + 1, i, xs, h, hl, ht => by
  have hi : i < xs.length := by omega
  refine Ev.succ ?_
  simp only [laws_markIntS.l0, if_pos (show (i : Int) < (xs.length : Int) by omega), if_pos (show (0 : Int) ≤ (i : Int) by omega), wsucc hi (by omega), Int.toNat_natCast, show wrap64 (a + (i : Int) + 1) = a + ((i + 1 : Nat) : Int) from by rw [w64 (by omega) (by omega)]; omega]
  refine markIntS_l a m h0 hm n (i + 1) _ (by omega) (by rw [List.length_set]; exact hl) ?_
  rw [List.take_add_one, List.take_add_one, List.take_set_of_le (Nat.le_refl _), ht]
  congr 1
  rw [List.getElem?_set_self (by omega), List.getElem?_eq_getElem (by rw [marks_length]; omega), marks_get]
theorem markIntS_ev (xs : List Int) (a : Int) (h0 : 0 ≤ a) (hm : a + xs.length ≤ 9223372036854775807) : Ev (fun k => laws_markIntS.f k xs a) (a + (xs.length : Int), marks a xs.length) := by
 have h := markIntS_l a xs.length h0 hm xs.length 0 xs (by omega) rfl (by simp)
 simp only [show a + ((0 : Nat) : Int) = a by omega] at h
 exact h
theorem heldIntS_l (a : Int) (m : Nat) (h0 : 0 ≤ a) (hm : a + m ≤ 9223372036854775807) : ∀ (n i : Nat), i + n = m → Ev (fun k => laws_heldIntS.l0 k (marks a m) (a + (i : Int)) (i : Int)) (a + (m : Int))
 | 0, i, h => by
  refine Ev.succ ?_
  simp only [laws_heldIntS.l0, marks_length, if_neg (show ¬ (i : Int) < (m : Int) by omega)]
  rw [show i = m by omega]
  exact Ev.now _
 | n + 1, i, h => by
  have hi : i < (marks a m).length := by rw [marks_length]; omega
  refine Ev.succ ?_
  simp only [laws_heldIntS.l0, rdn hi, marks_get, marks_length, if_pos (show (i : Int) < (m : Int) by omega), if_pos (show (0 : Int) ≤ (i : Int) by omega), wsucc hi (by rw [marks_length]; omega), if_true, show wrap64 (a + (i : Int) + 1) = a + ((i + 1 : Nat) : Int) from by rw [w64 (by omega) (by omega)]; omega]
  exact heldIntS_l a m h0 hm n (i + 1) (by omega)
theorem heldIntS_ev (a : Int) (m : Nat) (h0 : 0 ≤ a) (hm : a + m ≤ 9223372036854775807) : Ev (fun k => laws_heldIntS.f k (marks a m) a) (a + (m : Int)) := by
 have h := heldIntS_l a m h0 hm m 0 (by omega)
 simp only [show a + ((0 : Nat) : Int) = a by omega] at h
 exact h
end Go.Proofs.Ytkpojaooolefjaa.A

namespace Go.Proofs.Ytkpojaooolefjaa.A
open Go.RowKit Go.Proofs.YtkpojaooolefjaaW.PrintWords Go.Proofs.YtkpojaooolefjaaW.PrintLast Go.Proofs.YtkpojaooolefjaaW.PrintMore
set_option linter.unusedVariables false
set_option linter.unusedSimpArgs false
def gmark (a : Int) : S49 := ⟨a, a + 1, a + 1 + 1⟩
def gmarks (a : Int) (n : Nat) : List S49 := (List.range n).map fun (j : Nat) => gmark (a + 3 * (j : Int))
theorem gmarks_length (a : Int) (n : Nat) : (gmarks a n).length = n := by simp [gmarks]
theorem gmarks_get (a : Int) (n i : Nat) (h : i < (gmarks a n).length) : (gmarks a n)[i] = gmark (a + 3 * (i : Int)) := by simp [gmarks]
theorem rdG {xs : List S49} {i : Nat} (h : i < xs.length) : rd_T49 xs (i : Int) = xs[i] := by
 unfold rd_T49
 rw [Int.toNat_natCast, List.getD_eq_getElem?_getD, List.getElem?_eq_getElem h]
 rfl
theorem rdG_set {xs : List S49} {i : Nat} (h : i < xs.length) (v : S49) : rd_T49 (xs.set i v) (i : Int) = v := by
 rw [rdG (by rw [List.length_set]; exact h), List.getElem_set_self]
theorem markGiftS_l (a : Int) (m : Nat) (h0 : 0 ≤ a) (hm : a + 3 * m ≤ 9223372036854775807) : ∀ (n i : Nat) (xs : List S49), i + n = m → xs.length = m → xs.take i = (gmarks a m).take i → Ev (fun k => laws_markGiftS.l0 k xs (a + 3 * (i : Int)) (i : Int)) (a + 3 * (m : Int), gmarks a m)
 | 0, i, xs, h, hl, ht => by
  refine Ev.succ ?_
  simp only [laws_markGiftS.l0, if_neg (show ¬ (i : Int) < (xs.length : Int) by omega)]
  rw [List.take_of_length_le (by omega), List.take_of_length_le (by rw [gmarks_length]; omega)] at ht
  rw [ht, show i = m by omega]
  exact Ev.now _
 | n + 1, i, xs, h, hl, ht => by
  have hi : i < xs.length := by omega
  refine Ev.succ ?_
  simp only [laws_markGiftS.l0, if_pos (show (i : Int) < (xs.length : Int) by omega), if_pos (show (0 : Int) ≤ (i : Int) by omega), Option.bind_some, Int.toNat_natCast, rdG_set hi, List.set_set, wsucc hi (by omega)]
  rw [w64 (x := a + 3 * (i : Int) + 1) (by omega) (by omega), w64 (x := a + 3 * (i : Int) + 1 + 1) (by omega) (by omega), w64 (x := a + 3 * (i : Int) + 1 + 1 + 1) (by omega) (by omega), show a + 3 * (i : Int) + 1 + 1 + 1 = a + 3 * ((i + 1 : Nat) : Int) by omega]
  refine markGiftS_l a m h0 hm n (i + 1) _ (by omega) (by rw [List.length_set]; exact hl) ?_
  rw [List.take_add_one, List.take_add_one, List.take_set_of_le (Nat.le_refl _), ht]
  congr 1
  rw [List.getElem?_set_self (by omega), List.getElem?_eq_getElem (by rw [gmarks_length]; omega), gmarks_get]
  rfl
theorem markGiftS_ev (xs : List S49) (a : Int) (h0 : 0 ≤ a) (hm : a + 3 * xs.length ≤ 9223372036854775807) : Ev (fun k => laws_markGiftS.f k xs a) (a + 3 * (xs.length : Int), gmarks a xs.length) := by
 have h := markGiftS_l a xs.length h0 hm xs.length 0 xs (by omega) rfl (by simp)
 simp only [show a + 3 * ((0 : Nat) : Int) = a by omega] at h
 exact h
theorem heldGiftS_l (a : Int) (m : Nat) (h0 : 0 ≤ a) (hm : a + 3 * m ≤ 9223372036854775807) : ∀ (n i : Nat), i + n = m → Ev (fun k => laws_heldGiftS.l0 k (gmarks a m) (a + 3 * (i : Int)) (i : Int)) (a + 3 * (m : Int))
 | 0, i, h => by
  refine Ev.succ ?_
  simp only [laws_heldGiftS.l0, gmarks_length, if_neg (show ¬ (i : Int) < (m : Int) by omega)]
  rw [show i = m by omega]
  exact Ev.now _
 | n + 1, i, h => by
  have hi : i < (gmarks a m).length := by rw [gmarks_length]; omega
  refine Ev.succ ?_
  simp only [laws_heldGiftS.l0, rdG hi, gmarks_get, gmark, gmarks_length, if_pos (show (i : Int) < (m : Int) by omega), if_pos (show (0 : Int) ≤ (i : Int) by omega), wsucc hi (by rw [gmarks_length]; omega), if_true]
  rw [w64 (x := a + 3 * (i : Int) + 1) (by omega) (by omega), w64 (x := a + 3 * (i : Int) + 1 + 1) (by omega) (by omega), w64 (x := a + 3 * (i : Int) + 1 + 1 + 1) (by omega) (by omega)]
  simp only [if_true]
  rw [show a + 3 * (i : Int) + 1 + 1 + 1 = a + 3 * ((i + 1 : Nat) : Int) by omega]
  exact heldGiftS_l a m h0 hm n (i + 1) (by omega)
theorem heldGiftS_ev (a : Int) (m : Nat) (h0 : 0 ≤ a) (hm : a + 3 * m ≤ 9223372036854775807) : Ev (fun k => laws_heldGiftS.f k (gmarks a m) a) (a + 3 * (m : Int)) := by
 have h := heldGiftS_l a m h0 hm m 0 (by omega)
 simp only [show a + 3 * ((0 : Nat) : Int) = a by omega] at h
 exact h
theorem eqGiftS_l (xs : List S49) (hx : xs.length ≤ 9223372036854775807) : ∀ (n i : Nat), i + n = xs.length → Ev (fun k => laws_eqGiftS.l0 k xs xs (i : Int)) true
 | 0, i, h => by
  refine Ev.succ ?_
  simp only [laws_eqGiftS.l0, if_neg (show ¬ (i : Int) < (xs.length : Int) by omega)]
  exact Ev.now _
 | n + 1, i, h => by
  have hi : i < xs.length := by omega
  refine Ev.succ ?_
  simp only [laws_eqGiftS.l0, if_pos (show (i : Int) < (xs.length : Int) by omega), if_pos (show (0 : Int) ≤ (i : Int) by omega), wsucc hi hx, laws_eqGift.f, if_true, Option.bind_some]
  exact eqGiftS_l xs hx n (i + 1) (by omega)
theorem eqGiftS_self (xs : List S49) (hx : xs.length ≤ 9223372036854775807) : Ev (fun k => laws_eqGiftS.f k xs xs) true := by
 unfold laws_eqGiftS.f
 simp only [if_true]
 exact eqGiftS_l xs hx xs.length 0 (by omega)
end Go.Proofs.Ytkpojaooolefjaa.A

namespace Go.Proofs.Ytkpojaooolefjaa.A
open Go.RowKit Go.Proofs.YtkpojaooolefjaaW.PrintWords Go.Proofs.YtkpojaooolefjaaW.PrintLast Go.Proofs.YtkpojaooolefjaaW.PrintMore
set_option linter.unusedVariables false
set_option linter.unusedSimpArgs false
theorem toIntS_l (xs : List Int) (hx : xs.length ≤ 35184372088832) : ∀ (n i : Nat) (ys : List Int), i + n = xs.length → ys.length = xs.length → ys.take i = xs.take i → Ev (fun k => laws_toIntS.l0 k xs ys (i : Int)) xs
 | 0, i, ys, h, hl, ht => by
  refine Ev.succ ?_
  simp only [laws_toIntS.l0, if_neg (show ¬ (i : Int) < (xs.length : Int) by omega)]
  rw [List.take_of_length_le (by omega), List.take_of_length_le (by omega)] at ht
  rw [ht]
  exact Ev.now _
 | n + 1, i, ys, h, hl, ht => by
  have hi : i < xs.length := by omega
  refine Ev.succ ?_
  simp only [laws_toIntS.l0, if_pos (show (i : Int) < (xs.length : Int) by omega), if_pos (show (i : Int) < (ys.length : Int) by omega), if_pos (show (0 : Int) ≤ (i : Int) by omega), rdn hi, wsucc hi (by omega), Int.toNat_natCast]
  refine toIntS_l xs hx n (i + 1) _ (by omega) (by rw [List.length_set]; exact hl) ?_
  rw [List.take_add_one, List.take_add_one, List.take_set_of_le (Nat.le_refl _), ht]
  congr 1
  rw [List.getElem?_set_self (by omega), List.getElem?_eq_getElem hi]
theorem toIntS_ev (xs : List Int) (hx : xs.length ≤ 35184372088832) : Ev (fun k => laws_toIntS.f k xs) xs := by
 unfold laws_toIntS.f
 simp only [if_pos (show (0 : Int) ≤ (xs.length : Int) by omega), Int.toNat_natCast, if_pos hx]
 exact toIntS_l xs hx xs.length 0 _ (by omega) (by simp) (by simp)
end Go.Proofs.Ytkpojaooolefjaa.A

/- The law FnExactLevelOff holds of the printed functions, for every argument: numbers and lists alone. -/
namespace Go.Proofs.Ytkpojaooolefjaa.Pure
open Go.RowKit Go.Proofs.Ytkpojaooolefjaa.A Go.Proofs.YtkpojaooolefjaaW.PrintWords Go.Proofs.YtkpojaooolefjaaW.PrintLast
set_option linter.unusedVariables false
set_option linter.unusedSimpArgs false
theorem FnExactLevelOff : laws_FnExactLevelOff.Pure := by
 intro l0 _ _ _
 apply Ev.get
 unfold laws_FnExactLevelOff.f
 by_cases hl0 : (l0.length : Int) > 1048576
 · simp only [if_pos hl0]
   exact Ev.now _
 simp only [if_neg hl0]
 have hlen := levelR_len l0 (by omega) 
 refine Ev.bind (toIntS_ev l0 (by omega)) ?_
 refine Ev.bind (specLevelOff_ev l0 (by omega) ) ?_
 refine Ev.bind (toIntS_ev l0 (by omega)) ?_
 refine Ev.bind (implLevelOff_ev l0 (by omega) ) ?_
 refine Ev.bind (eqGiftS_self _ (by omega)) ?_
 first | simp only [bne_self_eq_false, if_true, Bool.false_eq_true, if_false] | skip
 refine Ev.succ ?_
 simp only [laws_FnExactLevelOff.j0, Bool.false_eq_true, if_false]
 refine Ev.bind (toIntS_ev l0 (by omega)) ?_
 refine Ev.bind (eqIntS_self _ (by omega)) ?_
 first | simp only [bne_self_eq_false, if_true, Bool.false_eq_true, if_false] | skip
 refine Ev.bind (markIntS_ev l0 (1) (by omega) (by omega)) ?_
 simp only [if_neg (show ¬ (1 + (l0.length : Int) : Int) < 0 by omega)]
 refine Ev.bind (eqGiftS_self _ (by omega)) ?_
 first | simp only [bne_self_eq_false, if_true, Bool.false_eq_true, if_false] | skip
 refine Ev.succ ?_
 simp only [laws_FnExactLevelOff.j1, Bool.false_eq_true, if_false]
 refine Ev.bind (markGiftS_ev (levelR l0).1 (1) (by omega) (by omega)) ?_
 refine Ev.bind (heldGiftS_ev (1) _ (by omega) (by omega)) ?_
 simp only [if_neg (show ¬ (1 + 3 * ((levelR l0).1.length : Int) : Int) < 0 by omega)]
 first | simp only [bne_self_eq_false, if_true, Bool.false_eq_true, if_false] | skip
 first | simp only [bne_self_eq_false, if_true, Bool.false_eq_true, if_false] | skip
 refine Ev.bind (toIntS_ev l0 (by omega)) ?_
 refine Ev.bind (implLevelOff_ev l0 (by omega) ) ?_
 refine Ev.bind (eqGiftS_self _ (by omega)) ?_
 first | simp only [bne_self_eq_false, if_true, Bool.false_eq_true, if_false] | skip
 refine Ev.succ ?_
 simp only [laws_FnExactLevelOff.j2, Bool.false_eq_true, if_false]
 refine Ev.bind (heldGiftS_ev (1) _ (by omega) (by omega)) ?_
 simp only [if_neg (show ¬ (1 + 3 * ((levelR l0).1.length : Int) : Int) < 0 by omega)]
 first | simp only [bne_self_eq_false, if_true, Bool.false_eq_true, if_false] | skip
 first | simp only [bne_self_eq_false, if_true, Bool.false_eq_true, if_false] | skip
 exact Ev.now _
end Go.Proofs.Ytkpojaooolefjaa.Pure
