/- What the law FnExactMultiplyTables reaches, part 2: Lean functions with the same answers as the Go functions, the proofs that the Go code comes to these answers, and lemmas about them; no condition beyond those that each theorem names. -/
import Derived.WalkKit
import Derived.ProofKit
import Derived.OpenShut
import Derived.Deep.Matrix
import Derived.Lib.SmallJoins
import Derived.Test.YtogjadakonakcaaCFnExactMultiplyTables1
namespace Go.Proofs.Ytogjadakonakcaa.A
open Go.RowKit Go.Proofs.YtogjadakonakcaaW.PrintWords Go.Proofs.YtogjadakonakcaaW.PrintLast Go.Proofs.YtogjadakonakcaaW.PrintMore
set_option linter.unusedVariables false
set_option linter.unusedSimpArgs false
/-! tables told by a function of row and column -/
def tabG (n : Nat) (G : Nat → Nat → Int) : List (List Int) := (List.range n).map fun i => (List.range n).map fun j => G i j
theorem tabG_length (n : Nat) (G : Nat → Nat → Int) : (tabG n G).length = n := by simp [tabG]
theorem tabG_get {n : Nat} {G : Nat → Nat → Int} {i : Nat} (h : i < (tabG n G).length) : (tabG n G)[i] = (List.range n).map fun j => G i j := by simp [tabG]
theorem tabG_row {n : Nat} (G : Nat → Nat → Int) {i : Nat} (h : i < n) : rd_L1 (tabG n G) (i : Int) = (List.range n).map fun j => G i j := by
  rw [rd_L1n (by rw [tabG_length]; exact h), tabG_get]
theorem tabG_rowlen {n : Nat} (G : Nat → Nat → Int) {i : Nat} (h : i < n) : (rd_L1 (tabG n G) (i : Int)).length = n := by rw [tabG_row G h]; simp
theorem rowG_at {n : Nat} (g : Nat → Int) {j : Nat} (h : j < n) : rd ((List.range n).map g) (j : Int) = g j := by
  rw [rdn (by simpa using h)]
  simp
theorem tabG_at {n : Nat} (G : Nat → Nat → Int) {i j : Nat} (h : i < n) (h' : j < n) : rd (rd_L1 (tabG n G) (i : Int)) (j : Int) = G i j := by rw [tabG_row G h, rowG_at _ h']
theorem tabG_congr {n : Nat} {G G' : Nat → Nat → Int} (h : ∀ i j, i < n → j < n → G i j = G' i j) : tabG n G = tabG n G' := by
  unfold tabG
  refine List.map_congr_left fun i hi => List.map_congr_left fun j hj => h i j (List.mem_range.1 hi) (List.mem_range.1 hj)
def updG (G : Nat → Nat → Int) (i j : Nat) (v : Int) : Nat → Nat → Int := fun a b => if a = i ∧ b = j then v else G a b
theorem rowG_set {n : Nat} (g : Nat → Int) (j : Nat) (v : Int) : ((List.range n).map g).set j v = (List.range n).map fun b => if b = j then v else g b := by
  apply List.ext_getElem
  · simp
  · intro k h1 h2
    simp only [List.length_map, List.length_range, List.length_set] at h1 h2
    rw [List.getElem_set]
    by_cases e : j = k
    · subst e
      simp
    · have e' : ¬ k = j := fun h => e h.symm
      simp [e, e']
theorem tabG_set {n : Nat} (G : Nat → Nat → Int) {i : Nat} (j : Nat) (v : Int) (h : i < n) : (tabG n G).set i ((rd_L1 (tabG n G) (i : Int)).set j v) = tabG n (updG G i j v) := by
  rw [tabG_row G h, rowG_set]
  apply List.ext_getElem
  · simp [tabG]
  · intro k h1 h2
    rw [List.length_set, tabG_length] at h1
    rw [List.getElem_set, tabG_get, tabG_get]
    by_cases e : i = k
    · subst e
      rw [if_pos rfl]
      refine List.map_congr_left fun b _ => ?_
      unfold updG
      by_cases e2 : b = j <;> simp [e2]
    · rw [if_neg e]
      refine List.map_congr_left fun b _ => ?_
      unfold updG
      rw [if_neg (fun h => e h.1.symm)]
theorem tabG_zero (n : Nat) : List.replicate n (List.replicate n (0 : Int)) = tabG n (fun _ _ => 0) := by
  unfold tabG
  apply List.ext_getElem
  · simp
  · intro k h1 h2
    simp only [List.getElem_replicate, List.getElem_map]
    apply List.ext_getElem
    · simp
    · intro k h1 h2
      simp
def atG (l : List (List Int)) (i j : Nat) : Int := rd (rd_L1 l (i : Int)) (j : Int)
theorem tabG_self {l : List (List Int)} (h : ∀ x ∈ l, x.length = l.length) : tabG l.length (atG l) = l := by
  apply List.ext_getElem
  · rw [tabG_length]
  · intro i h1 h2
    rw [tabG_get]
    have hl := h _ (List.getElem_mem h2)
    apply List.ext_getElem
    · simp [hl]
    · intro j h3 h4
      simp only [List.getElem_map, List.getElem_range]
      unfold atG
      rw [rd_L1n h2, rdn h4]
theorem tabG_tot (n : Nat) (G : Nat → Nat → Int) : totSS (tabG n G) = n * n := by
  unfold totSS tabG
  rw [List.map_map]
  have : ∀ m : Nat, ((List.range m).map (List.length ∘ fun i => (List.range n).map fun j => G i j)).sum = m * n := by
    intro m
    induction m with
    | zero => simp
    | succ m ih => rw [List.range_succ, List.map_append, List.sum_append, ih]; simp [Nat.succ_mul]
  exact this n
/-- A table that is filled place by place. -/
theorem fill_ev {ρ : Type} {r : ρ} (n : Nat) (val : Nat → Nat → Int) (g0 : Nat → List (List Int) → Int → Option ρ) (g1 : Nat → List (List Int) → Int → Int → Option ρ)
    (hend : Ev (fun k => g0 k (tabG n val) (n : Int)) r)
    (h0 : ∀ i, i < n → ∀ X : Nat → Nat → Int, Ev (fun k => g1 k (tabG n X) (i : Int) 0) r → Ev (fun k => g0 k (tabG n X) (i : Int)) r)
    (h1 : ∀ i j, i < n → j < n → ∀ H : Nat → Nat → Int, H i j = 0 → Ev (fun k => g1 k (tabG n (updG H i j (val i j))) (i : Int) ((j + 1 : Nat) : Int)) r → Ev (fun k => g1 k (tabG n H) (i : Int) (j : Int)) r)
    (h2 : ∀ i, i < n → ∀ X : Nat → Nat → Int, Ev (fun k => g0 k (tabG n X) ((i + 1 : Nat) : Int)) r → Ev (fun k => g1 k (tabG n X) (i : Int) (n : Int)) r) :
    Ev (fun k => g0 k (tabG n fun _ _ => 0) 0) r := by
  have row : ∀ i, i < n → (Ev (fun k => g0 k (tabG n fun a b => if a < i + 1 then val a b else 0) ((i + 1 : Nat) : Int)) r) → ∀ (m j : Nat), j + m = n → Ev (fun k => g1 k (tabG n fun a b => if a < i ∨ (a = i ∧ b < j) then val a b else 0) (i : Int) (j : Int)) r := by
    intro i hi hr m
    induction m with
    | zero =>
      intro j hj
      have e : j = n := by omega
      subst e
      refine h2 i hi _ ?_
      rw [tabG_congr (G' := fun a b => if a < i + 1 then val a b else 0) (fun a b _ hb => by
        by_cases c : a < i + 1
        · rw [if_pos c, if_pos (by omega)]
        · rw [if_neg c, if_neg (by omega)])]
      exact hr
    | succ m ih =>
      intro j hj
      refine h1 i j hi (by omega) _ (by simp) ?_
      rw [tabG_congr (G' := fun a b => if a < i ∨ (a = i ∧ b < j + 1) then val a b else 0) (fun a b _ hb => by
        unfold updG
        by_cases c : a = i ∧ b = j
        · rw [if_pos c, if_pos (by omega), c.1, c.2]
        · rw [if_neg c]
          show (if a < i ∨ (a = i ∧ b < j) then val a b else 0) = _
          by_cases d : a < i ∨ (a = i ∧ b < j)
          · rw [if_pos d, if_pos (by omega)]
          · rw [if_neg d, if_neg (by omega)])]
      exact ih (j + 1) (by omega)
  have all : ∀ (m i : Nat), i + m = n → Ev (fun k => g0 k (tabG n fun a b => if a < i then val a b else 0) (i : Int)) r := by
    intro m
    induction m with
    | zero =>
      intro i hi
      have e : i = n := by omega
      subst e
      rw [tabG_congr (G' := val) (fun a b ha _ => if_pos ha)]
      exact hend
    | succ m ih =>
      intro i hi
      refine h0 i (by omega) _ ?_
      have := row i (by omega) (ih (i + 1) (by omega)) n 0 (by omega)
      rw [tabG_congr (G' := fun a b => if a < i then val a b else 0) (fun a b _ _ => by
        by_cases c : a < i
        · rw [if_pos c, if_pos (by omega)]
        · rw [if_neg c, if_neg (by omega)])] at this
      exact this
  have := all n 0 (by omega)
  rw [tabG_congr (G' := fun _ _ => 0) (fun a b _ _ => if_neg (by omega))] at this
  exact this
end Go.Proofs.Ytogjadakonakcaa.A

namespace Go.Proofs.Ytogjadakonakcaa.A
open Go.RowKit Go.Proofs.YtogjadakonakcaaW.PrintWords Go.Proofs.YtogjadakonakcaaW.PrintLast Go.Proofs.YtogjadakonakcaaW.PrintMore
set_option linter.unusedVariables false
set_option linter.unusedSimpArgs false
/-! a table that is told if it is a square one -/
def checkR (u : List (List Int)) : List (List Int) × Bool := if squareB u = true then (u, true) else ([], false)
theorem checkR_bd (u : List (List Int)) : totSS (checkR u).1 ≤ 1000 ∧ (checkR u).1.length ≤ 1000 := by
  unfold checkR
  split
  · next h =>
    obtain ⟨hT, _⟩ := square_tab h
    have hl := hT.len
    have e := tabG_tot u.length (atG u)
    rw [tabG_self (fun x hx => (hT.row x hx).1)] at e
    have := Nat.mul_le_mul hl hl
    show totSS u ≤ 1000 ∧ u.length ≤ 1000
    omega
  · simp [totSS]
theorem checked_eq (u : List (List Int)) (hl : u.length ≤ 1048576) (ht : totSS u ≤ 1048576) : impl_checked.f u = some (checkR u) := by
  unfold impl_checked.f checkR
  rw [implIsSquare_eq u hl ht, Option.bind_some]
  split <;> rfl
theorem checkedG_eq (n : Nat) (hn : n ≤ 6) (G : Nat → Nat → Int) : impl_checked.f (tabG n G) = some (checkR (tabG n G)) := by
  have := Nat.mul_le_mul hn hn
  exact checked_eq _ (by rw [tabG_length]; omega) (by rw [tabG_tot]; omega)
theorem doIf_ev (u : List (List Int)) (hl : u.length ≤ 1048576) (ht : totSS u ≤ 1048576) : Ev (fun k => spec_doIf.f k u) (checkR u) := by
  unfold spec_doIf.f checkR
  exact Ev.bind (doGood_ev u hl ht) (Ev.ite (fun _ => Ev.now _) (fun _ => Ev.now _))
theorem doIfG_ev (n : Nat) (hn : n ≤ 6) (G : Nat → Nat → Int) : Ev (fun k => spec_doIf.f k (tabG n G)) (checkR (tabG n G)) := by
  have := Nat.mul_le_mul hn hn
  exact doIf_ev _ (by rw [tabG_length]; omega) (by rw [tabG_tot]; omega)
theorem atG_bd {l : List (List Int)} (h : Tab l) {i j : Nat} (hi : i < l.length) (hj : j < l.length) : 0 ≤ atG l i j ∧ atG l i j ≤ 1000000 := by
  unfold atG
  rw [rd_L1n hi]
  exact tab_rd h (List.getElem_mem hi) hj
theorem tab_rowlen {l : List (List Int)} (h : Tab l) {i : Nat} (hi : i < l.length) : (rd_L1 l (i : Int)).length = l.length := by
  rw [rd_L1n hi]
  exact (h.row _ (List.getElem_mem hi)).1
end Go.Proofs.Ytogjadakonakcaa.A

namespace Go.Proofs.Ytogjadakonakcaa.A
open Go.RowKit Go.Proofs.YtogjadakonakcaaW.PrintWords Go.Proofs.YtogjadakonakcaaW.PrintLast Go.Proofs.YtogjadakonakcaaW.PrintMore
set_option linter.unusedVariables false
set_option linter.unusedSimpArgs false
theorem doEmpty_l (n : Nat) (hn : n ≤ 1000) : ∀ (m i : Nat), i + m = n → Ev (fun k => spec_doEmpty.l0 k (n : Int) (List.replicate i (List.replicate n 0)) (i : Int)) (tabG n fun _ _ => 0)
  | 0, i, e => by
    have ei : i = n := by omega
    subst ei
    refine Ev.succ ?_
    simp only [spec_doEmpty.l0, if_neg (show ¬ (i : Int) < (i : Int) by omega)]
    rw [tabG_zero]
    exact Ev.now _
  | m + 1, i, e => by
    refine Ev.succ ?_
    have hi : i < n := by omega
    simp only [spec_doEmpty.l0, if_pos (show (i : Int) < (n : Int) by omega), if_pos (show (0 : Int) ≤ (n : Int) by omega), Int.toNat_natCast, if_pos (show n ≤ 35184372088832 by omega), List.length_replicate, if_pos (show i < 5864062014805 by omega), wsucc hi (by omega)]
    have := doEmpty_l n hn m (i + 1) (by omega)
    rw [List.replicate_succ'] at this
    exact this
theorem doEmpty_ev (n : Nat) (hn : n ≤ 1000) : Ev (fun k => spec_doEmpty.f k (n : Int)) (tabG n fun _ _ => 0) := by
  unfold spec_doEmpty.f
  exact doEmpty_l n hn n 0 (by omega)
end Go.Proofs.Ytogjadakonakcaa.A

namespace Go.Proofs.Ytogjadakonakcaa.A
open Go.RowKit Go.Proofs.YtogjadakonakcaaW.PrintWords Go.Proofs.YtogjadakonakcaaW.PrintLast Go.Proofs.YtogjadakonakcaaW.PrintMore
set_option linter.unusedVariables false
set_option linter.unusedSimpArgs false
/-! square, doEmpty: what they make -/
theorem square_l1 (F : Int → Int → Option Int) (G : Nat → Nat → Int) (n : Nat) (hn : n ≤ 1000) (hF : ∀ i j, i < n → j < n → F (i : Int) (j : Int) = some (G i j)) (i : Nat) (hi : i < n) (X : List (List Int)) {r : List (List Int)} (hr : Ev (fun k => if X.length < 5864062014805 then impl_square.l0 F k (n : Int) (X ++ [(List.range n).map fun j => G i j]) (n : Int) ((i + 1 : Nat) : Int) else none) r) : ∀ (m j : Nat), j + m = n → Ev (fun k => impl_square.l1 F k (n : Int) X (i : Int) ((List.range j).map fun j => G i j) (n : Int) (i : Int) (n : Int) (j : Int)) r
  | 0, j, e => by
    have ej : j = n := by omega
    subst ej
    refine Ev.succ ?_
    simp only [impl_square.l1, if_neg (show ¬ (j : Int) < (j : Int) by omega), wsucc hi (by omega)]
    exact hr
  | m + 1, j, e => by
    refine Ev.succ ?_
    have hj : j < n := by omega
    simp only [impl_square.l1, if_pos (show (j : Int) < (n : Int) by omega), hF i j hi hj, Option.bind_some, List.length_map, List.length_range, if_pos (show j < 17592186044416 by omega), wsucc hj (by omega)]
    have := square_l1 F G n hn hF i hi X hr m (j + 1) (by omega)
    rw [List.range_succ, List.map_append] at this
    exact this
theorem square_l0 (F : Int → Int → Option Int) (G : Nat → Nat → Int) (n : Nat) (hn : n ≤ 1000) (hF : ∀ i j, i < n → j < n → F (i : Int) (j : Int) = some (G i j)) : ∀ (m i : Nat), i + m = n → Ev (fun k => impl_square.l0 F k (n : Int) ((List.range i).map fun i => (List.range n).map fun j => G i j) (n : Int) (i : Int)) (tabG n G)
  | 0, i, e => by
    have ei : i = n := by omega
    subst ei
    refine Ev.succ ?_
    simp only [impl_square.l0, if_neg (show ¬ (i : Int) < (i : Int) by omega)]
    exact Ev.now _
  | m + 1, i, e => by
    refine Ev.succ ?_
    have hi : i < n := by omega
    simp only [impl_square.l0, if_pos (show (i : Int) < (n : Int) by omega)]
    refine square_l1 F G n hn hF i hi _ ?_ n 0 (by omega)
    simp only [List.length_map, List.length_range, if_pos (show i < 5864062014805 by omega)]
    have := square_l0 F G n hn hF m (i + 1) (by omega)
    rw [List.range_succ, List.map_append] at this
    exact this
theorem square_ev (F : Int → Int → Option Int) (G : Nat → Nat → Int) (n : Nat) (hn : n ≤ 1000) (hF : ∀ i j, i < n → j < n → F (i : Int) (j : Int) = some (G i j)) : Ev (fun k => impl_square.f F k (n : Int)) (tabG n G) := by
  unfold impl_square.f
  exact square_l0 F G n hn hF n 0 (by omega)
end Go.Proofs.Ytogjadakonakcaa.A

namespace Go.Proofs.Ytogjadakonakcaa.A
open Go.RowKit Go.Proofs.YtogjadakonakcaaW.PrintWords Go.Proofs.YtogjadakonakcaaW.PrintLast Go.Proofs.YtogjadakonakcaaW.PrintMore
set_option linter.unusedVariables false
set_option linter.unusedSimpArgs false
theorem areSquares_eq (l0 l1 : List (List Int)) (u0 : l0.length ≤ 1048576) (v0 : totSS l0 ≤ 1048576) (u1 : l1.length ≤ 1048576) (v1 : totSS l1 ≤ 1048576) : impl_areSquares.f l0 l1 = some (if squareB l0 = true then (if squareB l1 = true then ((l0.length : Int) == (l1.length : Int)) else false) else false) := by
  unfold impl_areSquares.f
  rw [implIsSquare_eq l0 u0 v0, implIsSquare_eq l1 u1 v1]
  simp only [Option.bind_some]
  repeat' split
  all_goals rfl
end Go.Proofs.Ytogjadakonakcaa.A

namespace Go.Proofs.Ytogjadakonakcaa.A
open Go.RowKit Go.Proofs.YtogjadakonakcaaW.PrintWords Go.Proofs.YtogjadakonakcaaW.PrintLast Go.Proofs.YtogjadakonakcaaW.PrintMore
set_option linter.unusedVariables false
set_option linter.unusedSimpArgs false
/-! product, MultiplyTables -/
def dotN (l0 l1 : List (List Int)) (i j : Nat) : Nat → Int
  | 0 => 0
  | k + 1 => dotN l0 l1 i j k + atG l0 i k * atG l1 k j
theorem dotN_bd {l0 l1 : List (List Int)} (T0 : Tab l0) (T1 : Tab l1) (e : l1.length = l0.length) {i j : Nat} (hi : i < l0.length) (hj : j < l0.length) : ∀ k, k ≤ l0.length → 0 ≤ dotN l0 l1 i j k ∧ dotN l0 l1 i j k ≤ 1000000000000 * (k : Int)
  | 0, _ => by simp [dotN]
  | k + 1, h => by
    have ih := dotN_bd T0 T1 e hi hj k (by omega)
    have b0 := atG_bd T0 hi (show k < l0.length by omega)
    have b1 := atG_bd T1 (show k < l1.length by omega) (show j < l1.length by omega)
    have p0 := Int.mul_nonneg b0.1 b1.1
    have p1 : atG l0 i k * atG l1 k j ≤ 1000000 * 1000000 := Int.mul_le_mul b0.2 b1.2 b1.1 (by decide)
    unfold dotN
    omega
theorem prodG_bd {l0 l1 : List (List Int)} (T0 : Tab l0) (T1 : Tab l1) (e : l1.length = l0.length) {i j k : Nat} (hi : i < l0.length) (hj : j < l0.length) (hk : k < l0.length) : 0 ≤ atG l0 i k * atG l1 k j ∧ atG l0 i k * atG l1 k j ≤ 1000000000000 := by
  have b0 := atG_bd T0 hi hk
  have b1 := atG_bd T1 (show k < l1.length by omega) (show j < l1.length by omega)
  exact ⟨Int.mul_nonneg b0.1 b1.1, Int.mul_le_mul b0.2 b1.2 b1.1 (by decide)⟩
def timesT (l0 l1 : List (List Int)) : List (List Int) := tabG l0.length fun i j => dotN l0 l1 i j l0.length
def muR (l0 l1 : List (List Int)) : List (List Int) × Bool := if squareB l0 = true then (if squareB l1 = true then (if (l0.length : Int) = (l1.length : Int) then checkR (timesT l0 l1) else ([], false)) else ([], false)) else ([], false)
theorem muR_bd (l0 l1 : List (List Int)) : totSS (muR l0 l1).1 ≤ 1000 ∧ (muR l0 l1).1.length ≤ 1000 := by
  have h0 : totSS ([] : List (List Int)) ≤ 1000 ∧ ([] : List (List Int)).length ≤ 1000 := by simp [totSS]
  unfold muR
  repeat' split
  · exact checkR_bd _
  all_goals exact h0
theorem times_l2 {l0 l1 : List (List Int)} (T0 : Tab l0) (T1 : Tab l1) (e : l1.length = l0.length) {i j : Nat} (hi : i < l0.length) (hj : j < l0.length) (H : Nat → Nat → Int) {r : List (List Int)} (hr : Ev (fun q => spec_doTimes.l1 q l0 l1 (tabG l0.length (updG H i j (dotN l0 l1 i j l0.length))) (i : Int) (l0.length : Int) (i : Int) (l0.length : Int) ((j + 1 : Nat) : Int)) r) : ∀ (m k : Nat), k + m = l0.length → Ev (fun q => spec_doTimes.l2 q l0 l1 (tabG l0.length (updG H i j (dotN l0 l1 i j k))) (i : Int) (j : Int) (l0.length : Int) (i : Int) (l0.length : Int) (j : Int) (l0.length : Int) (k : Int)) r
  | 0, k, ek => by
    have ej : k = l0.length := by omega
    subst ej
    refine Ev.succ ?_
    have := T0.len
    simp only [spec_doTimes.l2, if_neg (Int.lt_irrefl _), wsucc hj (by omega)]
    exact hr
  | m + 1, k, ek => by
    have hk : k < l0.length := by omega
    have b0 := dotN_bd T0 T1 e hi hj k (by omega)
    have b1 := prodG_bd T0 T1 e hi hj hk
    have hl := T0.len
    refine Ev.succ ?_
    simp only [spec_doTimes.l2, if_pos (show (k : Int) < (l0.length : Int) by omega), if_pos (show (0 : Int) ≤ (i : Int) by omega), if_pos (show (0 : Int) ≤ (j : Int) by omega), if_pos (show (0 : Int) ≤ (k : Int) by omega), tabG_length, tabG_rowlen _ hi, tab_rowlen T0 hi, tab_rowlen T1 (show k < l1.length by omega), if_pos (show (i : Int) < (l0.length : Int) by omega), if_pos (show (j : Int) < (l0.length : Int) by omega), if_pos (show (k : Int) < (l1.length : Int) by omega), if_pos (show (j : Int) < (l1.length : Int) by omega), Int.toNat_natCast, tabG_set _ _ _ hi, tabG_at _ hi hj, wsucc hk (by omega)]
    have hv : wrap64 (updG H i j (dotN l0 l1 i j k) i j + wrap64 (rd (rd_L1 l0 (i : Int)) (k : Int) * rd (rd_L1 l1 (k : Int)) (j : Int))) = dotN l0 l1 i j (k + 1) := by
      have h1 : updG H i j (dotN l0 l1 i j k) i j = dotN l0 l1 i j k := if_pos ⟨rfl, rfl⟩
      rw [h1, show rd (rd_L1 l0 (i : Int)) (k : Int) * rd (rd_L1 l1 (k : Int)) (j : Int) = atG l0 i k * atG l1 k j from rfl, w64 (x := atG l0 i k * atG l1 k j) (by omega) (by omega), w64 (by omega) (by omega)]
      rfl
    rw [hv, tabG_congr (G' := updG H i j (dotN l0 l1 i j (k + 1))) (fun a b _ _ => by
      unfold updG
      by_cases c : a = i ∧ b = j
      · rw [if_pos c, if_pos c]
      · rw [if_neg c, if_neg c, if_neg c])]
    exact times_l2 T0 T1 e hi hj H hr m (k + 1) (by omega)
theorem doTimes_ev {l0 l1 : List (List Int)} (T0 : Tab l0) (T1 : Tab l1) (e : l1.length = l0.length) : Ev (fun k => spec_doTimes.f k l0 l1) (timesT l0 l1) := by
  have hl := T0.len
  unfold spec_doTimes.f
  refine Ev.bind (doEmpty_ev l0.length (by omega)) ?_
  refine fill_ev l0.length (fun i j => dotN l0 l1 i j l0.length) (fun k X i => spec_doTimes.l0 k l0 l1 X (l0.length : Int) i) (fun k X i j => spec_doTimes.l1 k l0 l1 X i (l0.length : Int) i (l0.length : Int) j) ?_ ?_ ?_ ?_
  · refine Ev.succ ?_
    simp only [spec_doTimes.l0, if_neg (Int.lt_irrefl _)]
    exact Ev.now _
  · intro i hi X hX
    refine Ev.succ ?_
    simp only [spec_doTimes.l0, if_pos (show (i : Int) < (l0.length : Int) by omega)]
    exact hX
  · intro i j hi hj H hz hX
    refine Ev.succ ?_
    simp only [spec_doTimes.l1, if_pos (show (j : Int) < (l0.length : Int) by omega)]
    have key := times_l2 T0 T1 e hi hj H hX l0.length 0 (by omega)
    rw [tabG_congr (G' := H) (fun a b _ _ => by
      unfold updG
      by_cases c : a = i ∧ b = j
      · rw [if_pos c, c.1, c.2, hz]
        rfl
      · rw [if_neg c])] at key
    exact key
  · intro i hi X hX
    refine Ev.succ ?_
    simp only [spec_doTimes.l1, if_neg (Int.lt_irrefl _), wsucc hi (by omega)]
    exact hX
theorem specMultiplyTables_ev (l0 l1 : List (List Int)) (u0 : l0.length ≤ 1048576) (v0 : totSS l0 ≤ 1048576) (u1 : l1.length ≤ 1048576) (v1 : totSS l1 ≤ 1048576) : Ev (fun k => spec_MultiplyTables.f k l0 l1) (muR l0 l1) := by
  unfold spec_MultiplyTables.f muR
  refine Ev.bind (doGood_ev l0 u0 v0) (Ev.ite (fun h0 => ?_) (fun _ => Ev.succ (by simp only [spec_MultiplyTables.j0, if_true]; exact Ev.now _)))
  refine Ev.bind (doGood_ev l1 u1 v1) (Ev.ite (fun h1 => ?_) (fun _ => Ev.succ (by simp only [spec_MultiplyTables.j0, if_true]; exact Ev.now _)))
  obtain ⟨T0, n0⟩ := square_tab h0
  obtain ⟨T1, n1⟩ := square_tab h1
  refine Ev.succ ?_
  simp only [spec_MultiplyTables.j0]
  by_cases e : (l0.length : Int) = (l1.length : Int)
  · simp only [if_pos e, show ((l0.length : Int) != (l1.length : Int)) = false from bne_eq_false_iff_eq.mpr e, Bool.false_eq_true, if_false]
    exact Ev.bind (doTimes_ev T0 T1 (by omega)) (Ev.bind (doIfG_ev _ T0.len _) (Ev.now _))
  · simp only [if_neg e, show ((l0.length : Int) != (l1.length : Int)) = true from bne_iff_ne.mpr e, if_true]
    exact Ev.now _
theorem timesG_eq {l0 l1 : List (List Int)} (T0 : Tab l0) (T1 : Tab l1) (e : l1.length = l0.length) {i j : Nat} (hi : i < l0.length) (hj : j < l0.length) : ∀ (m k : Nat), k + m = l0.length → timesG l0 l1 (i : Int) (j : Int) m (k : Int) (dotN l0 l1 i j k) = some (dotN l0 l1 i j l0.length)
  | 0, k, ek => by
    have ej : k = l0.length := by omega
    subst ej
    rfl
  | m + 1, k, ek => by
    have hk : k < l0.length := by omega
    have b0 := dotN_bd T0 T1 e hi hj k (by omega)
    have b1 := prodG_bd T0 T1 e hi hj hk
    have hl := T0.len
    rw [timesG, if_pos (by rw [tab_rowlen T0 hi, tab_rowlen T1 (show k < l1.length by omega)]; omega), show rd (rd_L1 l0 (i : Int)) (k : Int) * rd (rd_L1 l1 (k : Int)) (j : Int) = atG l0 i k * atG l1 k j from rfl, w64 (x := atG l0 i k * atG l1 k j) (by omega) (by omega), w64 (by omega) (by omega)]
    exact timesG_eq T0 T1 e hi hj m (k + 1) (by omega)
theorem product_ev {l0 l1 : List (List Int)} (T0 : Tab l0) (T1 : Tab l1) (e : l1.length = l0.length) : Ev (fun k => impl_product.f k l0 l1) (timesT l0 l1) := by
  have hl := T0.len
  unfold impl_product.f
  simp only [if_pos (show l0.length ≤ 4611686018427387903 by omega)]
  refine square_ev _ (fun i j => dotN l0 l1 i j l0.length) l0.length (by omega) (fun i j hi hj => ?_)
  exact timesG_eq T0 T1 e hi hj l0.length 0 (by omega)
theorem implMultiplyTables_ev (l0 l1 : List (List Int)) (u0 : l0.length ≤ 1048576) (v0 : totSS l0 ≤ 1048576) (u1 : l1.length ≤ 1048576) (v1 : totSS l1 ≤ 1048576) : Ev (fun k => impl_MultiplyTables.f k l0 l1) (muR l0 l1) := by
  unfold impl_MultiplyTables.f muR
  simp only [areSquares_eq l0 l1 u0 v0 u1 v1, Option.bind_some]
  by_cases h0 : squareB l0 = true
  · by_cases h1 : squareB l1 = true
    · by_cases e : (l0.length : Int) = (l1.length : Int)
      · obtain ⟨T0, n0⟩ := square_tab h0
        obtain ⟨T1, n1⟩ := square_tab h1
        simp only [if_pos h0, if_pos h1, if_pos e, show ((l0.length : Int) == (l1.length : Int)) = true from beq_iff_eq.mpr e, if_true]
        refine Ev.bind (product_ev T0 T1 (by omega)) ?_
        unfold timesT
        simp only [checkedG_eq _ T0.len]
        exact Ev.now _
      · simp only [if_pos h0, if_pos h1, if_neg e, show ((l0.length : Int) == (l1.length : Int)) = false from beq_eq_false_iff_ne.mpr e, Bool.false_eq_true, if_false]
        exact Ev.now _
    · simp only [if_pos h0, if_neg h1, Bool.false_eq_true, if_false]
      exact Ev.now _
  · simp only [if_neg h0, Bool.false_eq_true, if_false]
    exact Ev.now _
end Go.Proofs.Ytogjadakonakcaa.A

namespace Go.Proofs.Ytogjadakonakcaa.A
open Go.RowKit Go.Proofs.YtogjadakonakcaaW.PrintWords Go.Proofs.YtogjadakonakcaaW.PrintLast Go.Proofs.YtogjadakonakcaaW.PrintMore
set_option linter.unusedVariables false
set_option linter.unusedSimpArgs false
set_option maxHeartbeats 8000000 in
set_option maxRecDepth 100000 in
theorem FnExactMultiplyTables_walk (A0 : Option Addr) (c0 : Nat) (l0 : List (List Int)) (A1 : Option Addr) (c1 : Nat) (l1 : List (List Int)) (W : World) (hr0 : Kd.C (Kd.slice 3 (Kd.int .i64)) W A0 l0.length l0) (hc0 : l0.length ≤ c0) (hr1 : Kd.C (Kd.slice 3 (Kd.int .i64)) W A1 l1.length l1) (hc1 : l1.length ≤ c1) (m0 : l0.length ≤ 9223372036854775807) (w0 : ∀ x ∈ l0, x.length ≤ 9223372036854775807 ∧ ∀ y ∈ x, (Lit.int .i64 y).wf = true) (m1 : l1.length ≤ 9223372036854775807) (w1 : ∀ x ∈ l1, x.length ≤ 9223372036854775807 ∧ ∀ y ∈ x, (Lit.int .i64 y).wf = true) :
    Calls Try.prog 8 #[.slice A0 l0.length c0, .slice A1 l1.length c1] W fun e w' => e = .returned (.bool true) ∧ Below W.heap.size W w' := by
  have HR0 := Aside0.mk hr0
  have HC0 := Aside0.mk hc0
  have HR1 := Aside0.mk hr1
  have HC1 := Aside0.mk hc1
  have HB := Aside0.mk (Below.refl W.heap.size W)
  (try clear hr0); (try clear hc0); (try clear hr1); (try clear hc1)
  obtain ⟨Z0, hz0, hzb0⟩ := szIntSS_gen l0 1048576 (by omega) (by omega) m0 (fun x h => (w0 x h).1)
  obtain ⟨kz0, hy0⟩ := Ev.get hz0
  have AZ0 := Aside0.mk hy0
  (try clear hz0); (try clear hy0)
  by_cases q0 : Z0 < 0
  · have q0b : decide (Z0 < 0) = true := decide_eq_true q0
    (try clear q0); (try clear m0); (try clear m1); (try clear w0); (try clear w1); (try clear hzb0)
    go_enter Try.func8, Try.ntmps8
    go_wp2_with (first | ((with_reducible refine gate_callee (f := 22) rfl ?_); refine goesL_ (some 19) rfl rfl Try.func22 (by kernel_rfl) rfl #[.slice A0 l0.length c0, .int .i64 1048576] rfl (by (try simp only [List.map_toArray, List.map_cons, List.map_nil]); first | done | rfl | (simp only [List.length_drop, List.length_take]; rfl)) ?_; (with_reducible refine (laws_szIntSS.calls kz0 _ _ l0 1048576 Z0 _ ?side1 ?side2 AZ0.out).mono ?_); (case side1 => exact (Kd.C_below HR0.out (by repeat (first | (with_reducible first | exact HB.out | apply below_alloc | apply pw_below_drewN | apply below_drew1) | exact HB.out)))); (case side2 => exact HC0.out); rintro e w' ⟨rfl, ⟨nd, rfl⟩⟩; refine ⟨_, rfl, ?_⟩))
    go_ret
    exact ⟨rfl, (by repeat (first | (with_reducible first | exact HB.out | apply below_alloc | apply pw_below_drewN | apply below_drew1) | exact HB.out))⟩
  have q0b : decide (Z0 < 0) = false := decide_eq_false q0
  obtain ⟨u0, v0, s0⟩ := hzb0 (by omega)
  obtain ⟨Z1, hz1, hzb1⟩ := szIntSS_gen l1 Z0 (by omega) (by omega) m1 (fun x h => (w1 x h).1)
  obtain ⟨kz1, hy1⟩ := Ev.get hz1
  have AZ1 := Aside0.mk hy1
  (try clear hz1); (try clear hy1)
  by_cases q1 : Z1 < 0
  · have q1b : decide (Z1 < 0) = true := decide_eq_true q1
    (try clear q1); (try clear m0); (try clear m1); (try clear w0); (try clear w1); (try clear hzb1); (try clear u0); (try clear v0); (try clear s0); (try clear q0); (try clear hzb0)
    go_enter Try.func8, Try.ntmps8
    go_wp2_with (first | ((with_reducible refine gate_callee (f := 22) rfl ?_); refine goesL_ (some 19) rfl rfl Try.func22 (by kernel_rfl) rfl #[.slice A0 l0.length c0, .int .i64 1048576] rfl (by (try simp only [List.map_toArray, List.map_cons, List.map_nil]); first | done | rfl | (simp only [List.length_drop, List.length_take]; rfl)) ?_; (with_reducible refine (laws_szIntSS.calls kz0 _ _ l0 1048576 Z0 _ ?side1 ?side2 AZ0.out).mono ?_); (case side1 => exact (Kd.C_below HR0.out (by repeat (first | (with_reducible first | exact HB.out | apply below_alloc | apply pw_below_drewN | apply below_drew1) | exact HB.out)))); (case side2 => exact HC0.out); rintro e w' ⟨rfl, ⟨nd, rfl⟩⟩; refine ⟨_, rfl, ?_⟩) | ((with_reducible refine gate_callee (f := 22) rfl ?_); refine goesL_ (some 24) rfl rfl Try.func22 (by kernel_rfl) rfl #[.slice A1 l1.length c1, .int .i64 Z0] rfl (by (try simp only [List.map_toArray, List.map_cons, List.map_nil]); first | done | rfl | (simp only [List.length_drop, List.length_take]; rfl)) ?_; (with_reducible refine (laws_szIntSS.calls kz1 _ _ l1 Z0 Z1 _ ?side1 ?side2 AZ1.out).mono ?_); (case side1 => exact (Kd.C_below HR1.out (by repeat (first | (with_reducible first | exact HB.out | apply below_alloc | apply pw_below_drewN | apply below_drew1) | exact HB.out)))); (case side2 => exact HC1.out); rintro e w' ⟨rfl, ⟨nd, rfl⟩⟩; refine ⟨_, rfl, ?_⟩))
    go_ret
    exact ⟨rfl, (by repeat (first | (with_reducible first | exact HB.out | apply below_alloc | apply pw_below_drewN | apply below_drew1) | exact HB.out))⟩
  have q1b : decide (Z1 < 0) = false := decide_eq_false q1
  obtain ⟨u1, v1, s1⟩ := hzb1 (by omega)
  obtain ⟨kt0, ht0⟩ := Ev.get (toIntSS_ev l0 u0 v0)
  have AT0 := Aside0.mk ht0
  obtain ⟨kt1, ht1⟩ := Ev.get (toIntSS_ev l1 u1 v1)
  have AT1 := Aside0.mk ht1
  obtain ⟨kS, hS⟩ := Ev.get (specMultiplyTables_ev l0 l1 u0 v0 u1 v1)
  obtain ⟨kI, hI⟩ := Ev.get (implMultiplyTables_ev l0 l1 u0 v0 u1 v1)
  have hbd := muR_bd l0 l1
  generalize muR l0 l1 = R at hS hI hbd
  obtain ⟨L0, b⟩ := R
  simp only at hbd
  obtain ⟨hb0, hb1⟩ := hbd
  have AS := Aside0.mk hS
  have AI := Aside0.mk hI
  have hbb : (b != b) = false := by simp
  obtain ⟨kAE0, hAE0⟩ := Ev.get (eqIntSS_self L0 (by omega) (by omega))
  obtain ⟨kAE1, hAE1⟩ := Ev.get (eqIntSS_self l0 (by omega) (by omega))
  obtain ⟨kAE2, hAE2⟩ := Ev.get (eqIntSS_self l1 (by omega) (by omega))
  obtain ⟨T0, hT0⟩ : ∃ T : Int, T = 1 + (totSS l0 : Int) := ⟨_, rfl⟩
  have hAK0 := fun (v : Value) (W W' : World) (P : Nat → Prop) (hB : Below W.heap.size W W') (hS : Kd.S (Kd.slice 3 (Kd.int .i64)) 28 W' W.heap.size P v l0) => markSS_calls mark_any P v l0 1 W W' (by omega) (by omega) (by omega) hB hS
  rw [← hT0] at hAK0
  have qT0 : decide (T0 < 0) = false := decide_eq_false (by omega)
  have qT0n : (T0 != T0) = false := by simp
  obtain ⟨T1, hT1⟩ : ∃ T : Int, T = T0 + (totSS l1 : Int) := ⟨_, rfl⟩
  have hAK1 := fun (v : Value) (W W' : World) (P : Nat → Prop) (hB : Below W.heap.size W W') (hS : Kd.S (Kd.slice 3 (Kd.int .i64)) 28 W' W.heap.size P v l1) => markSS_calls mark_any P v l1 T0 W W' (by omega) (by omega) (by omega) hB hS
  rw [← hT1] at hAK1
  have qT1 : decide (T1 < 0) = false := decide_eq_false (by omega)
  have qT1n : (T1 != T1) = false := by simp
  obtain ⟨T2, hT2⟩ : ∃ T : Int, T = 1 + (totSS L0 : Int) := ⟨_, rfl⟩
  have hAK2 := fun (v : Value) (W W' : World) (P : Nat → Prop) (hB : Below W.heap.size W W') (hS : Kd.S (Kd.slice 3 (Kd.int .i64)) 28 W' W.heap.size P v L0) => markSS_calls mark_any P v L0 1 W W' (by omega) (by omega) (by omega) hB hS
  rw [← hT2] at hAK2
  obtain ⟨M2, hM2⟩ : ∃ M, M = markSS 1 L0 := ⟨_, rfl⟩
  have hM2l : M2.length = L0.length := by rw [hM2, markSS_length]
  rw [← hM2] at hAK2
  have qT2 : decide (T2 < 0) = false := decide_eq_false (by omega)
  have qT2n : (T2 != T2) = false := by simp
  obtain ⟨kAH2, hhAH2⟩ := Ev.get (heldIntSS_ev 1 L0 (by omega) (by omega) (by omega))
  rw [← hM2, ← hT2] at hhAH2
  have hAH2 : ∀ (A : Option Addr) (c : Nat) (w' : World), (∃ P : Nat → Prop, Kd.S (Kd.slice 3 (Kd.int .i64)) 28 w' W.heap.size P (.slice A L0.length c) M2) → Calls Try.prog 16 #[.slice A L0.length c, .int .i64 1] w' fun e w'' => e = .returned (.int .i64 T2) ∧ Drawn0 w' w'' := fun A c w' hS' => by
    obtain ⟨P, hS⟩ := hS'
    have h1 := (Kd.S_reads' hS).2
    rw [← hM2l] at h1 ⊢
    exact laws_heldIntSS.calls kAH2 A c M2 1 T2 w' h1.2 h1.1 hhAH2
  have AE0 := Aside0.mk hAE0
  have AE1 := Aside0.mk hAE1
  have AE2 := Aside0.mk hAE2
  have AK0 := Aside0.mk hAK0
  have AK1 := Aside0.mk hAK1
  have AK2 := Aside0.mk hAK2
  have AH2 := Aside0.mk hAH2
  obtain ⟨n0, hn0⟩ : ∃ n, n = W.heap.size := ⟨_, rfl⟩
  have HN := Aside0.mk (Nat.le_of_eq hn0)
  (try clear hAE0); (try clear hAE1); (try clear hAE2); (try clear hAK0); (try clear hAK1); (try clear hAK2); (try clear hAH2); (try clear hhAH2); (try clear hT0); (try clear hT1); (try clear hT2); (try clear hM2); (try clear hM2l); (try clear hS); (try clear hI); (try clear hn0); (try clear hb0); (try clear hb1); (try clear ht0); (try clear ht1); (try clear m0); (try clear m1); (try clear w0); (try clear w1); (try clear u0); (try clear v0); (try clear s0); (try clear q0); (try clear hzb0); (try clear u1); (try clear v1); (try clear s1); (try clear q1); (try clear hzb1)
  go_enter Try.func8, Try.ntmps8
  go_upto_region 5 with (first | ((with_reducible refine gate_callee (f := 22) rfl ?_); refine goesL_ (some 19) rfl rfl Try.func22 (by kernel_rfl) rfl #[.slice A0 l0.length c0, .int .i64 1048576] rfl (by (try simp only [List.map_toArray, List.map_cons, List.map_nil]); first | done | rfl | (simp only [List.length_drop, List.length_take]; rfl)) ?_; (with_reducible refine (laws_szIntSS.calls kz0 _ _ l0 1048576 Z0 _ ?side1 ?side2 AZ0.out).mono ?_); (case side1 => exact (Kd.C_below HR0.out (by repeat (first | (with_reducible first | exact HB.out | apply below_alloc | apply pw_below_drewN | apply below_drew1) | exact HB.out)))); (case side2 => exact HC0.out); rintro e w' ⟨rfl, ⟨nd, rfl⟩⟩; refine ⟨_, rfl, ?_⟩))
  go_upto_region 8 with (first | ((with_reducible refine gate_callee (f := 22) rfl ?_); refine goesL_ (some 24) rfl rfl Try.func22 (by kernel_rfl) rfl #[.slice A1 l1.length c1, .int .i64 Z0] rfl (by (try simp only [List.map_toArray, List.map_cons, List.map_nil]); first | done | rfl | (simp only [List.length_drop, List.length_take]; rfl)) ?_; (with_reducible refine (laws_szIntSS.calls kz1 _ _ l1 Z0 Z1 _ ?side1 ?side2 AZ1.out).mono ?_); (case side1 => exact (Kd.C_below HR1.out (by repeat (first | (with_reducible first | exact HB.out | apply below_alloc | apply pw_below_drewN | apply below_drew1) | exact HB.out)))); (case side2 => exact HC1.out); rintro e w' ⟨rfl, ⟨nd, rfl⟩⟩; refine ⟨_, rfl, ?_⟩))
  go_upto_region 9 with (first | ((with_reducible refine gate_callee (f := 24) rfl ?_); refine goesL_ (some 29) rfl rfl Try.func24 (by kernel_rfl) rfl #[.slice A0 l0.length c0] rfl (by (try simp only [List.map_toArray, List.map_cons, List.map_nil]); first | done | rfl | (simp only [List.length_drop, List.length_take]; rfl)) ?_; (with_reducible refine (laws_toIntSS.calls kt0 _ _ l0 l0 _ ?side1 ?side2 AT0.out).mono ?_); (case side1 => exact (Kd.C_below HR0.out (by repeat (first | (with_reducible first | exact HB.out | apply below_alloc | apply pw_below_drewN | apply below_drew1) | exact HB.out)))); (case side2 => exact HC0.out); rintro e w1 ⟨vv0, rfl, ho0, hb⟩; refine ⟨_, rfl, ?_⟩; obtain ⟨n1, hn_⟩ : ∃ n, n = w1.heap.size := ⟨_, rfl⟩; have HLn1 := Aside0.mk (show n0 ≤ n1 from Nat.le_trans HN.out (Nat.le_trans hb.size (Nat.le_of_eq hn_.symm))); have HV0 := Aside0.mk (Kd.S_mono (ok' := fun k => n0 ≤ k ∧ k < n1) (Kd.S_lower (Kd.S_bound ho0) (below_size (by repeat (first | (with_reducible first | exact HB.out | apply below_alloc | apply pw_below_drewN | apply below_drew1) | exact HB.out)))) (fun k hk => ⟨Nat.le_trans HN.out hk.2.1, by have := hk.2.2.1; omega⟩)); have HB2 := Aside0.mk (below_step (by repeat (first | (with_reducible first | exact HB.out | apply below_alloc | apply pw_below_drewN | apply below_drew1) | exact HB.out)) hb); have HN2_ := Aside0.mk (Nat.le_of_eq hn_); clear HB HN hb hn_ ho0; have HB := HB2; have HN := HN2_; clear HB2 HN2_ ; obtain ⟨B0, cc0, es_⟩ := Kd.S_slice HV0.out; subst es_) | ((with_reducible refine gate_callee (f := 24) rfl ?_); refine goesL_ (some 31) rfl rfl Try.func24 (by kernel_rfl) rfl #[.slice A1 l1.length c1] rfl (by (try simp only [List.map_toArray, List.map_cons, List.map_nil]); first | done | rfl | (simp only [List.length_drop, List.length_take]; rfl)) ?_; (with_reducible refine (laws_toIntSS.calls kt1 _ _ l1 l1 _ ?side1 ?side2 AT1.out).mono ?_); (case side1 => exact (Kd.C_below HR1.out (by repeat (first | (with_reducible first | exact HB.out | apply below_alloc | apply pw_below_drewN | apply below_drew1) | exact HB.out)))); (case side2 => exact HC1.out); rintro e w2 ⟨vv0, rfl, ho0, hb⟩; refine ⟨_, rfl, ?_⟩; obtain ⟨n2, hn_⟩ : ∃ n, n = w2.heap.size := ⟨_, rfl⟩; have HLn2 := Aside0.mk (show n1 ≤ n2 from Nat.le_trans HN.out (Nat.le_trans hb.size (Nat.le_of_eq hn_.symm))); have HV1 := Aside0.mk (Kd.S_mono (ok' := fun k => n1 ≤ k ∧ k < n2) (Kd.S_lower (Kd.S_bound ho0) (below_size (by repeat (first | (with_reducible first | exact HB.out | apply below_alloc | apply pw_below_drewN | apply below_drew1) | exact HB.out)))) (fun k hk => ⟨Nat.le_trans HN.out hk.2.1, by have := hk.2.2.1; omega⟩)); have HV02 := Aside0.mk (Kd.S_below (by (with_reducible repeat (first | apply Kd.S_alloc | apply Kd.S_drewN | apply Kd.S_drew)); exact HV0.out) hb); have HB2 := Aside0.mk (below_step (by repeat (first | (with_reducible first | exact HB.out | apply below_alloc | apply pw_below_drewN | apply below_drew1) | exact HB.out)) hb); have HN2_ := Aside0.mk (Nat.le_of_eq hn_); clear HB HN hb hn_ ho0 HV0; have HB := HB2; have HN := HN2_; have HV0 := HV02; clear HB2 HN2_ HV02; obtain ⟨B1, cc1, es_⟩ := Kd.S_slice HV1.out; subst es_) | ((with_reducible refine gate_callee (f := 30) rfl ?_); refine goesL_ (some 32) rfl rfl Try.func30 (by kernel_rfl) rfl #[.slice B0 l0.length cc0, .slice B1 l1.length cc1] rfl (by (try simp only [List.map_toArray, List.map_cons, List.map_nil]); first | done | rfl | (simp only [List.length_drop, List.length_take]; rfl)) ?_; (with_reducible refine (spec_MultiplyTables.calls kS _ _ l0 _ _ l1 L0 b _ ?side1 ?side2 ?side3 ?side4 AS.out).mono ?_); (case side1 => exact (Kd.S_reads' (by (with_reducible repeat (first | apply Kd.S_alloc | apply Kd.S_drewN | apply Kd.S_drew)); exact HV0.out)).2.2); (case side2 => exact (Kd.S_reads' HV0.out).2.1); (case side3 => exact (Kd.S_reads' (by (with_reducible repeat (first | apply Kd.S_alloc | apply Kd.S_drewN | apply Kd.S_drew)); exact HV1.out)).2.2); (case side4 => exact (Kd.S_reads' HV1.out).2.1); rintro e w3 ⟨vv0, rfl, ho0, hb⟩; refine ⟨_, rfl, ?_⟩; obtain ⟨n3, hn_⟩ : ∃ n, n = w3.heap.size := ⟨_, rfl⟩; have HLn3 := Aside0.mk (show n2 ≤ n3 from Nat.le_trans HN.out (Nat.le_trans hb.size (Nat.le_of_eq hn_.symm))); have HV2 := Aside0.mk (Kd.V_mono (ok' := fun k => n2 ≤ k ∧ k < n3) (Kd.V_lower (Kd.V_bound ho0) (below_size (by repeat (first | (with_reducible first | exact HB.out | apply below_alloc | apply pw_below_drewN | apply below_drew1) | exact HB.out)))) (fun k hk => ⟨Nat.le_trans HN.out hk.1, by have := hk.2; omega⟩)); have HV02 := Aside0.mk (Kd.S_below (by (with_reducible repeat (first | apply Kd.S_alloc | apply Kd.S_drewN | apply Kd.S_drew)); exact HV0.out) hb); have HV12 := Aside0.mk (Kd.S_below (by (with_reducible repeat (first | apply Kd.S_alloc | apply Kd.S_drewN | apply Kd.S_drew)); exact HV1.out) hb); have HB2 := Aside0.mk (below_step (by repeat (first | (with_reducible first | exact HB.out | apply below_alloc | apply pw_below_drewN | apply below_drew1) | exact HB.out)) hb); have HN2_ := Aside0.mk (Nat.le_of_eq hn_); clear HB HN hb hn_ ho0 HV0 HV1; have HB := HB2; have HN := HN2_; have HV0 := HV02; have HV1 := HV12; clear HB2 HN2_ HV02 HV12; obtain ⟨B2, cc2, es_⟩ := Kd.V_slice HV2.out; subst es_))
  go_upto_region 10 with (first | ((with_reducible refine gate_callee (f := 24) rfl ?_); refine goesL_ (some 36) rfl rfl Try.func24 (by kernel_rfl) rfl #[.slice A0 l0.length c0] rfl (by (try simp only [List.map_toArray, List.map_cons, List.map_nil]); first | done | rfl | (simp only [List.length_drop, List.length_take]; rfl)) ?_; (with_reducible refine (laws_toIntSS.calls kt0 _ _ l0 l0 _ ?side1 ?side2 AT0.out).mono ?_); (case side1 => exact (Kd.C_below HR0.out (by repeat (first | (with_reducible first | exact HB.out | apply below_alloc | apply pw_below_drewN | apply below_drew1) | exact HB.out)))); (case side2 => exact HC0.out); rintro e w4 ⟨vv0, rfl, ho0, hb⟩; refine ⟨_, rfl, ?_⟩; obtain ⟨n4, hn_⟩ : ∃ n, n = w4.heap.size := ⟨_, rfl⟩; have HLn4 := Aside0.mk (show n3 ≤ n4 from Nat.le_trans HN.out (Nat.le_trans hb.size (Nat.le_of_eq hn_.symm))); have HV3 := Aside0.mk (Kd.S_mono (ok' := fun k => n3 ≤ k ∧ k < n4) (Kd.S_lower (Kd.S_bound ho0) (below_size (by repeat (first | (with_reducible first | exact HB.out | apply below_alloc | apply pw_below_drewN | apply below_drew1) | exact HB.out)))) (fun k hk => ⟨Nat.le_trans HN.out hk.2.1, by have := hk.2.2.1; omega⟩)); have HV02 := Aside0.mk (Kd.S_below (by (with_reducible repeat (first | apply Kd.S_alloc | apply Kd.S_drewN | apply Kd.S_drew)); exact HV0.out) hb); have HV12 := Aside0.mk (Kd.S_below (by (with_reducible repeat (first | apply Kd.S_alloc | apply Kd.S_drewN | apply Kd.S_drew)); exact HV1.out) hb); have HV22 := Aside0.mk (Kd.V_below (by (with_reducible repeat (first | apply Kd.V_alloc | apply Kd.V_drewN | apply Kd.V_drew)); exact HV2.out) hb); have HB2 := Aside0.mk (below_step (by repeat (first | (with_reducible first | exact HB.out | apply below_alloc | apply pw_below_drewN | apply below_drew1) | exact HB.out)) hb); have HN2_ := Aside0.mk (Nat.le_of_eq hn_); clear HB HN hb hn_ ho0 HV0 HV1 HV2; have HB := HB2; have HN := HN2_; have HV0 := HV02; have HV1 := HV12; have HV2 := HV22; clear HB2 HN2_ HV02 HV12 HV22; obtain ⟨B3, cc3, es_⟩ := Kd.S_slice HV3.out; subst es_))
  go_upto_region 11 with (first | ((with_reducible refine gate_callee (f := 24) rfl ?_); refine goesL_ (some 38) rfl rfl Try.func24 (by kernel_rfl) rfl #[.slice A1 l1.length c1] rfl (by (try simp only [List.map_toArray, List.map_cons, List.map_nil]); first | done | rfl | (simp only [List.length_drop, List.length_take]; rfl)) ?_; (with_reducible refine (laws_toIntSS.calls kt1 _ _ l1 l1 _ ?side1 ?side2 AT1.out).mono ?_); (case side1 => exact (Kd.C_below HR1.out (by repeat (first | (with_reducible first | exact HB.out | apply below_alloc | apply pw_below_drewN | apply below_drew1) | exact HB.out)))); (case side2 => exact HC1.out); rintro e w5 ⟨vv0, rfl, ho0, hb⟩; refine ⟨_, rfl, ?_⟩; obtain ⟨n5, hn_⟩ : ∃ n, n = w5.heap.size := ⟨_, rfl⟩; have HLn5 := Aside0.mk (show n4 ≤ n5 from Nat.le_trans HN.out (Nat.le_trans hb.size (Nat.le_of_eq hn_.symm))); have HV4 := Aside0.mk (Kd.S_mono (ok' := fun k => n4 ≤ k ∧ k < n5) (Kd.S_lower (Kd.S_bound ho0) (below_size (by repeat (first | (with_reducible first | exact HB.out | apply below_alloc | apply pw_below_drewN | apply below_drew1) | exact HB.out)))) (fun k hk => ⟨Nat.le_trans HN.out hk.2.1, by have := hk.2.2.1; omega⟩)); have HV02 := Aside0.mk (Kd.S_below (by (with_reducible repeat (first | apply Kd.S_alloc | apply Kd.S_drewN | apply Kd.S_drew)); exact HV0.out) hb); have HV12 := Aside0.mk (Kd.S_below (by (with_reducible repeat (first | apply Kd.S_alloc | apply Kd.S_drewN | apply Kd.S_drew)); exact HV1.out) hb); have HV22 := Aside0.mk (Kd.V_below (by (with_reducible repeat (first | apply Kd.V_alloc | apply Kd.V_drewN | apply Kd.V_drew)); exact HV2.out) hb); have HV32 := Aside0.mk (Kd.S_below (by (with_reducible repeat (first | apply Kd.S_alloc | apply Kd.S_drewN | apply Kd.S_drew)); exact HV3.out) hb); have HB2 := Aside0.mk (below_step (by repeat (first | (with_reducible first | exact HB.out | apply below_alloc | apply pw_below_drewN | apply below_drew1) | exact HB.out)) hb); have HN2_ := Aside0.mk (Nat.le_of_eq hn_); clear HB HN hb hn_ ho0 HV0 HV1 HV2 HV3; have HB := HB2; have HN := HN2_; have HV0 := HV02; have HV1 := HV12; have HV2 := HV22; have HV3 := HV32; clear HB2 HN2_ HV02 HV12 HV22 HV32; obtain ⟨B4, cc4, es_⟩ := Kd.S_slice HV4.out; subst es_))
  go_upto_region 12 with (first | ((with_reducible refine gate_callee (f := 31) rfl ?_); refine goesL_ (some 42) rfl rfl Try.func31 (by kernel_rfl) rfl #[.slice B3 l0.length cc3, .slice B4 l1.length cc4] rfl (by (try simp only [List.map_toArray, List.map_cons, List.map_nil]); first | done | rfl | (simp only [List.length_drop, List.length_take]; rfl)) ?_; (with_reducible refine (impl_MultiplyTables.calls kI _ _ l0 _ _ l1 L0 b _ ?side1 ?side2 ?side3 ?side4 AI.out).mono ?_); (case side1 => exact (Kd.S_reads' (by (with_reducible repeat (first | apply Kd.S_alloc | apply Kd.S_drewN | apply Kd.S_drew)); exact HV3.out)).2.2); (case side2 => exact (Kd.S_reads' HV3.out).2.1); (case side3 => exact (Kd.S_reads' (by (with_reducible repeat (first | apply Kd.S_alloc | apply Kd.S_drewN | apply Kd.S_drew)); exact HV4.out)).2.2); (case side4 => exact (Kd.S_reads' HV4.out).2.1); rintro e w6 ⟨vv0, rfl, ho0, hb⟩; refine ⟨_, rfl, ?_⟩; obtain ⟨n6, hn_⟩ : ∃ n, n = w6.heap.size := ⟨_, rfl⟩; have HLn6 := Aside0.mk (show n5 ≤ n6 from Nat.le_trans HN.out (Nat.le_trans hb.size (Nat.le_of_eq hn_.symm))); have HV5 := Aside0.mk (Kd.S_mono (ok' := fun k => n5 ≤ k ∧ k < n6) (Kd.S_lower (Kd.S_bound ho0) (below_size (by repeat (first | (with_reducible first | exact HB.out | apply below_alloc | apply pw_below_drewN | apply below_drew1) | exact HB.out)))) (fun k hk => ⟨Nat.le_trans HN.out hk.2.1, by have := hk.2.2.1; omega⟩)); have HV02 := Aside0.mk (Kd.S_below (by (with_reducible repeat (first | apply Kd.S_alloc | apply Kd.S_drewN | apply Kd.S_drew)); exact HV0.out) hb); have HV12 := Aside0.mk (Kd.S_below (by (with_reducible repeat (first | apply Kd.S_alloc | apply Kd.S_drewN | apply Kd.S_drew)); exact HV1.out) hb); have HV22 := Aside0.mk (Kd.V_below (by (with_reducible repeat (first | apply Kd.V_alloc | apply Kd.V_drewN | apply Kd.V_drew)); exact HV2.out) hb); have HV32 := Aside0.mk (Kd.S_below (by (with_reducible repeat (first | apply Kd.S_alloc | apply Kd.S_drewN | apply Kd.S_drew)); exact HV3.out) hb); have HV42 := Aside0.mk (Kd.S_below (by (with_reducible repeat (first | apply Kd.S_alloc | apply Kd.S_drewN | apply Kd.S_drew)); exact HV4.out) hb); have HB2 := Aside0.mk (below_step (by repeat (first | (with_reducible first | exact HB.out | apply below_alloc | apply pw_below_drewN | apply below_drew1) | exact HB.out)) hb); have HN2_ := Aside0.mk (Nat.le_of_eq hn_); clear HB HN hb hn_ ho0 HV0 HV1 HV2 HV3 HV4; have HB := HB2; have HN := HN2_; have HV0 := HV02; have HV1 := HV12; have HV2 := HV22; have HV3 := HV32; have HV4 := HV42; clear HB2 HN2_ HV02 HV12 HV22 HV32 HV42; obtain ⟨B5, cc5, es_⟩ := Kd.S_slice HV5.out; subst es_))
  go_upto_region 14 with (first | ((with_reducible refine gate_callee (f := 14) rfl ?_); refine goesL_ (some 47) rfl rfl Try.func14 (by kernel_rfl) rfl #[.slice B5 L0.length cc5, .slice B2 L0.length cc2] rfl (by (try simp only [List.map_toArray, List.map_cons, List.map_nil]); first | done | rfl | (simp only [List.length_drop, List.length_take]; rfl)) ?_; (with_reducible refine (laws_eqIntSS.calls kAE0 _ _ L0 _ _ L0 true _ ?side1 ?side2 ?side3 ?side4 AE0.out).mono ?_); (case side1 => exact (Kd.S_reads' (by (with_reducible repeat (first | apply Kd.S_alloc | apply Kd.S_drewN | apply Kd.S_drew)); exact HV5.out)).2.2); (case side2 => exact (Kd.S_reads' HV5.out).2.1); (case side3 => exact (Kd.V_reads' (by (with_reducible repeat (first | apply Kd.V_alloc | apply Kd.V_drewN | apply Kd.V_drew)); exact HV2.out)).2.2); (case side4 => exact (Kd.V_reads' HV2.out).2.1); rintro e w' ⟨rfl, ⟨nd, rfl⟩⟩; refine ⟨_, rfl, ?_⟩))
  go_upto_region 16 with (first | ((with_reducible refine gate_callee (f := 24) rfl ?_); refine goesL_ (some 56) rfl rfl Try.func24 (by kernel_rfl) rfl #[.slice A0 l0.length c0] rfl (by (try simp only [List.map_toArray, List.map_cons, List.map_nil]); first | done | rfl | (simp only [List.length_drop, List.length_take]; rfl)) ?_; (with_reducible refine (laws_toIntSS.calls kt0 _ _ l0 l0 _ ?side1 ?side2 AT0.out).mono ?_); (case side1 => exact (Kd.C_below HR0.out (by repeat (first | (with_reducible first | exact HB.out | apply below_alloc | apply pw_below_drewN | apply below_drew1) | exact HB.out)))); (case side2 => exact HC0.out); rintro e w7 ⟨vv0, rfl, ho0, hb⟩; refine ⟨_, rfl, ?_⟩; obtain ⟨n7, hn_⟩ : ∃ n, n = w7.heap.size := ⟨_, rfl⟩; have HLn7 := Aside0.mk (show n6 ≤ n7 from Nat.le_trans HN.out (Nat.le_trans hb.size (Nat.le_of_eq hn_.symm))); have HV6 := Aside0.mk (Kd.S_mono (ok' := fun k => n6 ≤ k ∧ k < n7) (Kd.S_lower (Kd.S_bound ho0) (below_size (by repeat (first | (with_reducible first | exact HB.out | apply below_alloc | apply pw_below_drewN | apply below_drew1) | exact HB.out)))) (fun k hk => ⟨Nat.le_trans HN.out hk.2.1, by have := hk.2.2.1; omega⟩)); have HV02 := Aside0.mk (Kd.S_below (by (with_reducible repeat (first | apply Kd.S_alloc | apply Kd.S_drewN | apply Kd.S_drew)); exact HV0.out) hb); have HV12 := Aside0.mk (Kd.S_below (by (with_reducible repeat (first | apply Kd.S_alloc | apply Kd.S_drewN | apply Kd.S_drew)); exact HV1.out) hb); have HV22 := Aside0.mk (Kd.V_below (by (with_reducible repeat (first | apply Kd.V_alloc | apply Kd.V_drewN | apply Kd.V_drew)); exact HV2.out) hb); have HV32 := Aside0.mk (Kd.S_below (by (with_reducible repeat (first | apply Kd.S_alloc | apply Kd.S_drewN | apply Kd.S_drew)); exact HV3.out) hb); have HV42 := Aside0.mk (Kd.S_below (by (with_reducible repeat (first | apply Kd.S_alloc | apply Kd.S_drewN | apply Kd.S_drew)); exact HV4.out) hb); have HV52 := Aside0.mk (Kd.S_below (by (with_reducible repeat (first | apply Kd.S_alloc | apply Kd.S_drewN | apply Kd.S_drew)); exact HV5.out) hb); have HB2 := Aside0.mk (below_step (by repeat (first | (with_reducible first | exact HB.out | apply below_alloc | apply pw_below_drewN | apply below_drew1) | exact HB.out)) hb); have HN2_ := Aside0.mk (Nat.le_of_eq hn_); clear HB HN hb hn_ ho0 HV0 HV1 HV2 HV3 HV4 HV5; have HB := HB2; have HN := HN2_; have HV0 := HV02; have HV1 := HV12; have HV2 := HV22; have HV3 := HV32; have HV4 := HV42; have HV5 := HV52; clear HB2 HN2_ HV02 HV12 HV22 HV32 HV42 HV52; obtain ⟨B6, cc6, es_⟩ := Kd.S_slice HV6.out; subst es_) | ((with_reducible refine gate_callee (f := 14) rfl ?_); refine goesL_ (some 57) rfl rfl Try.func14 (by kernel_rfl) rfl #[.slice B3 l0.length cc3, .slice B6 l0.length cc6] rfl (by (try simp only [List.map_toArray, List.map_cons, List.map_nil]); first | done | rfl | (simp only [List.length_drop, List.length_take]; rfl)) ?_; (with_reducible refine (laws_eqIntSS.calls kAE1 _ _ l0 _ _ l0 true _ ?side1 ?side2 ?side3 ?side4 AE1.out).mono ?_); (case side1 => exact (Kd.S_reads' (by (with_reducible repeat (first | apply Kd.S_alloc | apply Kd.S_drewN | apply Kd.S_drew)); exact HV3.out)).2.2); (case side2 => exact (Kd.S_reads' HV3.out).2.1); (case side3 => exact (Kd.S_reads' (by (with_reducible repeat (first | apply Kd.S_alloc | apply Kd.S_drewN | apply Kd.S_drew)); exact HV6.out)).2.2); (case side4 => exact (Kd.S_reads' HV6.out).2.1); rintro e w' ⟨rfl, ⟨nd, rfl⟩⟩; refine ⟨_, rfl, ?_⟩))
  go_upto_region 19 with (first | ((with_reducible refine gate_callee (f := 24) rfl ?_); refine goesL_ (some 61) rfl rfl Try.func24 (by kernel_rfl) rfl #[.slice A1 l1.length c1] rfl (by (try simp only [List.map_toArray, List.map_cons, List.map_nil]); first | done | rfl | (simp only [List.length_drop, List.length_take]; rfl)) ?_; (with_reducible refine (laws_toIntSS.calls kt1 _ _ l1 l1 _ ?side1 ?side2 AT1.out).mono ?_); (case side1 => exact (Kd.C_below HR1.out (by repeat (first | (with_reducible first | exact HB.out | apply below_alloc | apply pw_below_drewN | apply below_drew1) | exact HB.out)))); (case side2 => exact HC1.out); rintro e w8 ⟨vv0, rfl, ho0, hb⟩; refine ⟨_, rfl, ?_⟩; obtain ⟨n8, hn_⟩ : ∃ n, n = w8.heap.size := ⟨_, rfl⟩; have HLn8 := Aside0.mk (show n7 ≤ n8 from Nat.le_trans HN.out (Nat.le_trans hb.size (Nat.le_of_eq hn_.symm))); have HV7 := Aside0.mk (Kd.S_mono (ok' := fun k => n7 ≤ k ∧ k < n8) (Kd.S_lower (Kd.S_bound ho0) (below_size (by repeat (first | (with_reducible first | exact HB.out | apply below_alloc | apply pw_below_drewN | apply below_drew1) | exact HB.out)))) (fun k hk => ⟨Nat.le_trans HN.out hk.2.1, by have := hk.2.2.1; omega⟩)); have HV02 := Aside0.mk (Kd.S_below (by (with_reducible repeat (first | apply Kd.S_alloc | apply Kd.S_drewN | apply Kd.S_drew)); exact HV0.out) hb); have HV12 := Aside0.mk (Kd.S_below (by (with_reducible repeat (first | apply Kd.S_alloc | apply Kd.S_drewN | apply Kd.S_drew)); exact HV1.out) hb); have HV22 := Aside0.mk (Kd.V_below (by (with_reducible repeat (first | apply Kd.V_alloc | apply Kd.V_drewN | apply Kd.V_drew)); exact HV2.out) hb); have HV32 := Aside0.mk (Kd.S_below (by (with_reducible repeat (first | apply Kd.S_alloc | apply Kd.S_drewN | apply Kd.S_drew)); exact HV3.out) hb); have HV42 := Aside0.mk (Kd.S_below (by (with_reducible repeat (first | apply Kd.S_alloc | apply Kd.S_drewN | apply Kd.S_drew)); exact HV4.out) hb); have HV52 := Aside0.mk (Kd.S_below (by (with_reducible repeat (first | apply Kd.S_alloc | apply Kd.S_drewN | apply Kd.S_drew)); exact HV5.out) hb); have HV62 := Aside0.mk (Kd.S_below (by (with_reducible repeat (first | apply Kd.S_alloc | apply Kd.S_drewN | apply Kd.S_drew)); exact HV6.out) hb); have HB2 := Aside0.mk (below_step (by repeat (first | (with_reducible first | exact HB.out | apply below_alloc | apply pw_below_drewN | apply below_drew1) | exact HB.out)) hb); have HN2_ := Aside0.mk (Nat.le_of_eq hn_); clear HB HN hb hn_ ho0 HV0 HV1 HV2 HV3 HV4 HV5 HV6; have HB := HB2; have HN := HN2_; have HV0 := HV02; have HV1 := HV12; have HV2 := HV22; have HV3 := HV32; have HV4 := HV42; have HV5 := HV52; have HV6 := HV62; clear HB2 HN2_ HV02 HV12 HV22 HV32 HV42 HV52 HV62; obtain ⟨B7, cc7, es_⟩ := Kd.S_slice HV7.out; subst es_) | ((with_reducible refine gate_callee (f := 14) rfl ?_); refine goesL_ (some 62) rfl rfl Try.func14 (by kernel_rfl) rfl #[.slice B4 l1.length cc4, .slice B7 l1.length cc7] rfl (by (try simp only [List.map_toArray, List.map_cons, List.map_nil]); first | done | rfl | (simp only [List.length_drop, List.length_take]; rfl)) ?_; (with_reducible refine (laws_eqIntSS.calls kAE2 _ _ l1 _ _ l1 true _ ?side1 ?side2 ?side3 ?side4 AE2.out).mono ?_); (case side1 => exact (Kd.S_reads' (by (with_reducible repeat (first | apply Kd.S_alloc | apply Kd.S_drewN | apply Kd.S_drew)); exact HV4.out)).2.2); (case side2 => exact (Kd.S_reads' HV4.out).2.1); (case side3 => exact (Kd.S_reads' (by (with_reducible repeat (first | apply Kd.S_alloc | apply Kd.S_drewN | apply Kd.S_drew)); exact HV7.out)).2.2); (case side4 => exact (Kd.S_reads' HV7.out).2.1); rintro e w' ⟨rfl, ⟨nd, rfl⟩⟩; refine ⟨_, rfl, ?_⟩))
  go_upto_region 20 with (first | ((with_reducible refine gate_callee (f := 15) rfl ?_); refine goesL_ (some 66) rfl rfl Try.func15 (by kernel_rfl) rfl #[.slice B3 l0.length cc3, .int .i64 1] rfl (by (try simp only [List.map_toArray, List.map_cons, List.map_nil]); first | done | rfl | (simp only [List.length_drop, List.length_take]; rfl)) ?_; (with_reducible refine (AK0.out _ W _ (fun k => n3 ≤ k ∧ k < n4) ?side1 ?side2).mono ?_); (case side1 => exact (by repeat (first | (with_reducible first | exact HB.out | apply below_alloc | apply pw_below_drewN | apply below_drew1) | exact HB.out))); (case side2 => exact (by (with_reducible repeat (first | apply Kd.S_alloc | apply Kd.S_drewN | apply Kd.S_drew)); exact HV3.out)); rintro e w9 ⟨rfl, ho, hb, hk⟩; refine ⟨_, rfl, ?_⟩; have HV02 := Aside0.mk (Kd.S_kept (by (with_reducible repeat (first | apply Kd.S_alloc | apply Kd.S_drewN | apply Kd.S_drew)); exact HV0.out) hk (fun k h1 h2 => by obtain ⟨a1, a2⟩ := h1; obtain ⟨b1, b2⟩ := h2; have zn1 := HLn1.out; have zn2 := HLn2.out; have zn3 := HLn3.out; have zn4 := HLn4.out; have zn5 := HLn5.out; have zn6 := HLn6.out; have zn7 := HLn7.out; have zn8 := HLn8.out; omega)); have HV12 := Aside0.mk (Kd.S_kept (by (with_reducible repeat (first | apply Kd.S_alloc | apply Kd.S_drewN | apply Kd.S_drew)); exact HV1.out) hk (fun k h1 h2 => by obtain ⟨a1, a2⟩ := h1; obtain ⟨b1, b2⟩ := h2; have zn1 := HLn1.out; have zn2 := HLn2.out; have zn3 := HLn3.out; have zn4 := HLn4.out; have zn5 := HLn5.out; have zn6 := HLn6.out; have zn7 := HLn7.out; have zn8 := HLn8.out; omega)); have HV22 := Aside0.mk (Kd.V_kept (by (with_reducible repeat (first | apply Kd.V_alloc | apply Kd.V_drewN | apply Kd.V_drew)); exact HV2.out) hk (fun k h1 h2 => by obtain ⟨a1, a2⟩ := h1; obtain ⟨b1, b2⟩ := h2; have zn1 := HLn1.out; have zn2 := HLn2.out; have zn3 := HLn3.out; have zn4 := HLn4.out; have zn5 := HLn5.out; have zn6 := HLn6.out; have zn7 := HLn7.out; have zn8 := HLn8.out; omega)); have HV42 := Aside0.mk (Kd.S_kept (by (with_reducible repeat (first | apply Kd.S_alloc | apply Kd.S_drewN | apply Kd.S_drew)); exact HV4.out) hk (fun k h1 h2 => by obtain ⟨a1, a2⟩ := h1; obtain ⟨b1, b2⟩ := h2; have zn1 := HLn1.out; have zn2 := HLn2.out; have zn3 := HLn3.out; have zn4 := HLn4.out; have zn5 := HLn5.out; have zn6 := HLn6.out; have zn7 := HLn7.out; have zn8 := HLn8.out; omega)); have HV52 := Aside0.mk (Kd.S_kept (by (with_reducible repeat (first | apply Kd.S_alloc | apply Kd.S_drewN | apply Kd.S_drew)); exact HV5.out) hk (fun k h1 h2 => by obtain ⟨a1, a2⟩ := h1; obtain ⟨b1, b2⟩ := h2; have zn1 := HLn1.out; have zn2 := HLn2.out; have zn3 := HLn3.out; have zn4 := HLn4.out; have zn5 := HLn5.out; have zn6 := HLn6.out; have zn7 := HLn7.out; have zn8 := HLn8.out; omega)); have HV62 := Aside0.mk (Kd.S_kept (by (with_reducible repeat (first | apply Kd.S_alloc | apply Kd.S_drewN | apply Kd.S_drew)); exact HV6.out) hk (fun k h1 h2 => by obtain ⟨a1, a2⟩ := h1; obtain ⟨b1, b2⟩ := h2; have zn1 := HLn1.out; have zn2 := HLn2.out; have zn3 := HLn3.out; have zn4 := HLn4.out; have zn5 := HLn5.out; have zn6 := HLn6.out; have zn7 := HLn7.out; have zn8 := HLn8.out; omega)); have HV72 := Aside0.mk (Kd.S_kept (by (with_reducible repeat (first | apply Kd.S_alloc | apply Kd.S_drewN | apply Kd.S_drew)); exact HV7.out) hk (fun k h1 h2 => by obtain ⟨a1, a2⟩ := h1; obtain ⟨b1, b2⟩ := h2; have zn1 := HLn1.out; have zn2 := HLn2.out; have zn3 := HLn3.out; have zn4 := HLn4.out; have zn5 := HLn5.out; have zn6 := HLn6.out; have zn7 := HLn7.out; have zn8 := HLn8.out; omega)); have HO2_ := Aside0.mk ho; have HB2 := Aside0.mk hb; have HN2_ := Aside0.mk (Nat.le_trans HN.out hk.1); clear ho hb hk HB HN HV0 HV1 HV2 HV3 HV4 HV5 HV6 HV7; have HB := HB2; have HN := HN2_; have HV0 := HV02; have HV1 := HV12; have HV2 := HV22; have HV4 := HV42; have HV5 := HV52; have HV6 := HV62; have HV7 := HV72; clear HB2 HN2_ HO2_ HV02 HV12 HV22 HV42 HV52 HV62 HV72))
  go_upto_region 21 with (first | ((with_reducible refine gate_callee (f := 15) rfl ?_); refine goesL_ (some 69) rfl rfl Try.func15 (by kernel_rfl) rfl #[.slice B4 l1.length cc4, .int .i64 T0] rfl (by (try simp only [List.map_toArray, List.map_cons, List.map_nil]); first | done | rfl | (simp only [List.length_drop, List.length_take]; rfl)) ?_; (with_reducible refine (AK1.out _ W _ (fun k => n4 ≤ k ∧ k < n5) ?side1 ?side2).mono ?_); (case side1 => exact (by repeat (first | (with_reducible first | exact HB.out | apply below_alloc | apply pw_below_drewN | apply below_drew1) | exact HB.out))); (case side2 => exact (by (with_reducible repeat (first | apply Kd.S_alloc | apply Kd.S_drewN | apply Kd.S_drew)); exact HV4.out)); rintro e w10 ⟨rfl, ho, hb, hk⟩; refine ⟨_, rfl, ?_⟩; have HV02 := Aside0.mk (Kd.S_kept (by (with_reducible repeat (first | apply Kd.S_alloc | apply Kd.S_drewN | apply Kd.S_drew)); exact HV0.out) hk (fun k h1 h2 => by obtain ⟨a1, a2⟩ := h1; obtain ⟨b1, b2⟩ := h2; have zn1 := HLn1.out; have zn2 := HLn2.out; have zn3 := HLn3.out; have zn4 := HLn4.out; have zn5 := HLn5.out; have zn6 := HLn6.out; have zn7 := HLn7.out; have zn8 := HLn8.out; omega)); have HV12 := Aside0.mk (Kd.S_kept (by (with_reducible repeat (first | apply Kd.S_alloc | apply Kd.S_drewN | apply Kd.S_drew)); exact HV1.out) hk (fun k h1 h2 => by obtain ⟨a1, a2⟩ := h1; obtain ⟨b1, b2⟩ := h2; have zn1 := HLn1.out; have zn2 := HLn2.out; have zn3 := HLn3.out; have zn4 := HLn4.out; have zn5 := HLn5.out; have zn6 := HLn6.out; have zn7 := HLn7.out; have zn8 := HLn8.out; omega)); have HV22 := Aside0.mk (Kd.V_kept (by (with_reducible repeat (first | apply Kd.V_alloc | apply Kd.V_drewN | apply Kd.V_drew)); exact HV2.out) hk (fun k h1 h2 => by obtain ⟨a1, a2⟩ := h1; obtain ⟨b1, b2⟩ := h2; have zn1 := HLn1.out; have zn2 := HLn2.out; have zn3 := HLn3.out; have zn4 := HLn4.out; have zn5 := HLn5.out; have zn6 := HLn6.out; have zn7 := HLn7.out; have zn8 := HLn8.out; omega)); have HV52 := Aside0.mk (Kd.S_kept (by (with_reducible repeat (first | apply Kd.S_alloc | apply Kd.S_drewN | apply Kd.S_drew)); exact HV5.out) hk (fun k h1 h2 => by obtain ⟨a1, a2⟩ := h1; obtain ⟨b1, b2⟩ := h2; have zn1 := HLn1.out; have zn2 := HLn2.out; have zn3 := HLn3.out; have zn4 := HLn4.out; have zn5 := HLn5.out; have zn6 := HLn6.out; have zn7 := HLn7.out; have zn8 := HLn8.out; omega)); have HV62 := Aside0.mk (Kd.S_kept (by (with_reducible repeat (first | apply Kd.S_alloc | apply Kd.S_drewN | apply Kd.S_drew)); exact HV6.out) hk (fun k h1 h2 => by obtain ⟨a1, a2⟩ := h1; obtain ⟨b1, b2⟩ := h2; have zn1 := HLn1.out; have zn2 := HLn2.out; have zn3 := HLn3.out; have zn4 := HLn4.out; have zn5 := HLn5.out; have zn6 := HLn6.out; have zn7 := HLn7.out; have zn8 := HLn8.out; omega)); have HV72 := Aside0.mk (Kd.S_kept (by (with_reducible repeat (first | apply Kd.S_alloc | apply Kd.S_drewN | apply Kd.S_drew)); exact HV7.out) hk (fun k h1 h2 => by obtain ⟨a1, a2⟩ := h1; obtain ⟨b1, b2⟩ := h2; have zn1 := HLn1.out; have zn2 := HLn2.out; have zn3 := HLn3.out; have zn4 := HLn4.out; have zn5 := HLn5.out; have zn6 := HLn6.out; have zn7 := HLn7.out; have zn8 := HLn8.out; omega)); have HO2_ := Aside0.mk ho; have HB2 := Aside0.mk hb; have HN2_ := Aside0.mk (Nat.le_trans HN.out hk.1); clear ho hb hk HB HN HV0 HV1 HV2 HV4 HV5 HV6 HV7; have HB := HB2; have HN := HN2_; have HV0 := HV02; have HV1 := HV12; have HV2 := HV22; have HV5 := HV52; have HV6 := HV62; have HV7 := HV72; clear HB2 HN2_ HO2_ HV02 HV12 HV22 HV52 HV62 HV72))
  go_upto_region 24 with (first | (go_at_call 14; (with_reducible refine (laws_eqIntSS.calls kAE0 _ _ L0 _ _ L0 true _ ?side1 ?side2 ?side3 ?side4 AE0.out).mono ?_); (case side1 => exact (Kd.S_reads' (by (with_reducible repeat (first | apply Kd.S_alloc | apply Kd.S_drewN | apply Kd.S_drew)); exact HV5.out)).2.2); (case side2 => exact (Kd.S_reads' HV5.out).2.1); (case side3 => exact (Kd.V_reads' (by (with_reducible repeat (first | apply Kd.V_alloc | apply Kd.V_drewN | apply Kd.V_drew)); exact HV2.out)).2.2); (case side4 => exact (Kd.V_reads' HV2.out).2.1); rintro e w' ⟨rfl, ⟨nd, rfl⟩⟩))
  go_upto_region 26 with (first | ((with_reducible refine gate_callee (f := 15) rfl ?_); refine goesL_ (some 85) rfl rfl Try.func15 (by kernel_rfl) rfl #[.slice B5 L0.length cc5, .int .i64 1] rfl (by (try simp only [List.map_toArray, List.map_cons, List.map_nil]); first | done | rfl | (simp only [List.length_drop, List.length_take]; rfl)) ?_; (with_reducible refine (AK2.out _ W _ (fun k => n5 ≤ k ∧ k < n6) ?side1 ?side2).mono ?_); (case side1 => exact (by repeat (first | (with_reducible first | exact HB.out | apply below_alloc | apply pw_below_drewN | apply below_drew1) | exact HB.out))); (case side2 => exact (by (with_reducible repeat (first | apply Kd.S_alloc | apply Kd.S_drewN | apply Kd.S_drew)); exact HV5.out)); rintro e w11 ⟨rfl, ho, hb, hk⟩; refine ⟨_, rfl, ?_⟩; have HV02 := Aside0.mk (Kd.S_kept (by (with_reducible repeat (first | apply Kd.S_alloc | apply Kd.S_drewN | apply Kd.S_drew)); exact HV0.out) hk (fun k h1 h2 => by obtain ⟨a1, a2⟩ := h1; obtain ⟨b1, b2⟩ := h2; have zn1 := HLn1.out; have zn2 := HLn2.out; have zn3 := HLn3.out; have zn4 := HLn4.out; have zn5 := HLn5.out; have zn6 := HLn6.out; have zn7 := HLn7.out; have zn8 := HLn8.out; omega)); have HV12 := Aside0.mk (Kd.S_kept (by (with_reducible repeat (first | apply Kd.S_alloc | apply Kd.S_drewN | apply Kd.S_drew)); exact HV1.out) hk (fun k h1 h2 => by obtain ⟨a1, a2⟩ := h1; obtain ⟨b1, b2⟩ := h2; have zn1 := HLn1.out; have zn2 := HLn2.out; have zn3 := HLn3.out; have zn4 := HLn4.out; have zn5 := HLn5.out; have zn6 := HLn6.out; have zn7 := HLn7.out; have zn8 := HLn8.out; omega)); have HV22 := Aside0.mk (Kd.V_kept (by (with_reducible repeat (first | apply Kd.V_alloc | apply Kd.V_drewN | apply Kd.V_drew)); exact HV2.out) hk (fun k h1 h2 => by obtain ⟨a1, a2⟩ := h1; obtain ⟨b1, b2⟩ := h2; have zn1 := HLn1.out; have zn2 := HLn2.out; have zn3 := HLn3.out; have zn4 := HLn4.out; have zn5 := HLn5.out; have zn6 := HLn6.out; have zn7 := HLn7.out; have zn8 := HLn8.out; omega)); have HV62 := Aside0.mk (Kd.S_kept (by (with_reducible repeat (first | apply Kd.S_alloc | apply Kd.S_drewN | apply Kd.S_drew)); exact HV6.out) hk (fun k h1 h2 => by obtain ⟨a1, a2⟩ := h1; obtain ⟨b1, b2⟩ := h2; have zn1 := HLn1.out; have zn2 := HLn2.out; have zn3 := HLn3.out; have zn4 := HLn4.out; have zn5 := HLn5.out; have zn6 := HLn6.out; have zn7 := HLn7.out; have zn8 := HLn8.out; omega)); have HV72 := Aside0.mk (Kd.S_kept (by (with_reducible repeat (first | apply Kd.S_alloc | apply Kd.S_drewN | apply Kd.S_drew)); exact HV7.out) hk (fun k h1 h2 => by obtain ⟨a1, a2⟩ := h1; obtain ⟨b1, b2⟩ := h2; have zn1 := HLn1.out; have zn2 := HLn2.out; have zn3 := HLn3.out; have zn4 := HLn4.out; have zn5 := HLn5.out; have zn6 := HLn6.out; have zn7 := HLn7.out; have zn8 := HLn8.out; omega)); have HO2_ := Aside0.mk ho; have HB2 := Aside0.mk hb; have HN2_ := Aside0.mk (Nat.le_trans HN.out hk.1); clear ho hb hk HB HN HV0 HV1 HV2 HV5 HV6 HV7; have HB := HB2; have HN := HN2_; have HV0 := HV02; have HV1 := HV12; have HV2 := HV22; have HV6 := HV62; have HV7 := HV72; have HV5 := HO2_; clear HB2 HN2_ HO2_ HV02 HV12 HV22 HV62 HV72))
  go_upto_region 31 with (first | ((with_reducible refine gate_callee (f := 16) rfl ?_); refine goesL_ (some 88) rfl rfl Try.func16 (by kernel_rfl) rfl #[.slice B5 L0.length cc5, .int .i64 1] rfl (by (try simp only [List.map_toArray, List.map_cons, List.map_nil]); first | done | rfl | (simp only [List.length_drop, List.length_take]; rfl)) ?_; (with_reducible refine (AH2.out B5 cc5 _ ?side1).mono ?_); (case side1 => exact ⟨_, (by (with_reducible repeat (first | apply Kd.S_alloc | apply Kd.S_drewN | apply Kd.S_drew)); exact HV5.out)⟩); rintro e w' ⟨rfl, ⟨nd, rfl⟩⟩; refine ⟨_, rfl, ?_⟩))
  go_upto_region 32 with (first | ((with_reducible refine gate_callee (f := 24) rfl ?_); refine goesL_ (some 96) rfl rfl Try.func24 (by kernel_rfl) rfl #[.slice A0 l0.length c0] rfl (by (try simp only [List.map_toArray, List.map_cons, List.map_nil]); first | done | rfl | (simp only [List.length_drop, List.length_take]; rfl)) ?_; (with_reducible refine (laws_toIntSS.calls kt0 _ _ l0 l0 _ ?side1 ?side2 AT0.out).mono ?_); (case side1 => exact (Kd.C_below HR0.out (by repeat (first | (with_reducible first | exact HB.out | apply below_alloc | apply pw_below_drewN | apply below_drew1) | exact HB.out)))); (case side2 => exact HC0.out); rintro e w12 ⟨vv0, rfl, ho0, hb⟩; refine ⟨_, rfl, ?_⟩; obtain ⟨n9, hn_⟩ : ∃ n, n = w12.heap.size := ⟨_, rfl⟩; have HLn9 := Aside0.mk (show n8 ≤ n9 from Nat.le_trans HN.out (Nat.le_trans hb.size (Nat.le_of_eq hn_.symm))); have HV8 := Aside0.mk (Kd.S_mono (ok' := fun k => n8 ≤ k ∧ k < n9) (Kd.S_lower (Kd.S_bound ho0) (below_size (by repeat (first | (with_reducible first | exact HB.out | apply below_alloc | apply pw_below_drewN | apply below_drew1) | exact HB.out)))) (fun k hk => ⟨Nat.le_trans HN.out hk.2.1, by have := hk.2.2.1; omega⟩)); have HV02 := Aside0.mk (Kd.S_below (by (with_reducible repeat (first | apply Kd.S_alloc | apply Kd.S_drewN | apply Kd.S_drew)); exact HV0.out) hb); have HV12 := Aside0.mk (Kd.S_below (by (with_reducible repeat (first | apply Kd.S_alloc | apply Kd.S_drewN | apply Kd.S_drew)); exact HV1.out) hb); have HV22 := Aside0.mk (Kd.V_below (by (with_reducible repeat (first | apply Kd.V_alloc | apply Kd.V_drewN | apply Kd.V_drew)); exact HV2.out) hb); have HV52 := Aside0.mk (Kd.S_below (by (with_reducible repeat (first | apply Kd.S_alloc | apply Kd.S_drewN | apply Kd.S_drew)); exact HV5.out) hb); have HV62 := Aside0.mk (Kd.S_below (by (with_reducible repeat (first | apply Kd.S_alloc | apply Kd.S_drewN | apply Kd.S_drew)); exact HV6.out) hb); have HV72 := Aside0.mk (Kd.S_below (by (with_reducible repeat (first | apply Kd.S_alloc | apply Kd.S_drewN | apply Kd.S_drew)); exact HV7.out) hb); have HB2 := Aside0.mk (below_step (by repeat (first | (with_reducible first | exact HB.out | apply below_alloc | apply pw_below_drewN | apply below_drew1) | exact HB.out)) hb); have HN2_ := Aside0.mk (Nat.le_of_eq hn_); clear HB HN hb hn_ ho0 HV0 HV1 HV2 HV5 HV6 HV7; have HB := HB2; have HN := HN2_; have HV0 := HV02; have HV1 := HV12; have HV2 := HV22; have HV5 := HV52; have HV6 := HV62; have HV7 := HV72; clear HB2 HN2_ HV02 HV12 HV22 HV52 HV62 HV72; obtain ⟨B8, cc8, es_⟩ := Kd.S_slice HV8.out; subst es_) | ((with_reducible refine gate_callee (f := 24) rfl ?_); refine goesL_ (some 98) rfl rfl Try.func24 (by kernel_rfl) rfl #[.slice A1 l1.length c1] rfl (by (try simp only [List.map_toArray, List.map_cons, List.map_nil]); first | done | rfl | (simp only [List.length_drop, List.length_take]; rfl)) ?_; (with_reducible refine (laws_toIntSS.calls kt1 _ _ l1 l1 _ ?side1 ?side2 AT1.out).mono ?_); (case side1 => exact (Kd.C_below HR1.out (by repeat (first | (with_reducible first | exact HB.out | apply below_alloc | apply pw_below_drewN | apply below_drew1) | exact HB.out)))); (case side2 => exact HC1.out); rintro e w13 ⟨vv0, rfl, ho0, hb⟩; refine ⟨_, rfl, ?_⟩; obtain ⟨n10, hn_⟩ : ∃ n, n = w13.heap.size := ⟨_, rfl⟩; have HLn10 := Aside0.mk (show n9 ≤ n10 from Nat.le_trans HN.out (Nat.le_trans hb.size (Nat.le_of_eq hn_.symm))); have HV9 := Aside0.mk (Kd.S_mono (ok' := fun k => n9 ≤ k ∧ k < n10) (Kd.S_lower (Kd.S_bound ho0) (below_size (by repeat (first | (with_reducible first | exact HB.out | apply below_alloc | apply pw_below_drewN | apply below_drew1) | exact HB.out)))) (fun k hk => ⟨Nat.le_trans HN.out hk.2.1, by have := hk.2.2.1; omega⟩)); have HV02 := Aside0.mk (Kd.S_below (by (with_reducible repeat (first | apply Kd.S_alloc | apply Kd.S_drewN | apply Kd.S_drew)); exact HV0.out) hb); have HV12 := Aside0.mk (Kd.S_below (by (with_reducible repeat (first | apply Kd.S_alloc | apply Kd.S_drewN | apply Kd.S_drew)); exact HV1.out) hb); have HV22 := Aside0.mk (Kd.V_below (by (with_reducible repeat (first | apply Kd.V_alloc | apply Kd.V_drewN | apply Kd.V_drew)); exact HV2.out) hb); have HV52 := Aside0.mk (Kd.S_below (by (with_reducible repeat (first | apply Kd.S_alloc | apply Kd.S_drewN | apply Kd.S_drew)); exact HV5.out) hb); have HV62 := Aside0.mk (Kd.S_below (by (with_reducible repeat (first | apply Kd.S_alloc | apply Kd.S_drewN | apply Kd.S_drew)); exact HV6.out) hb); have HV72 := Aside0.mk (Kd.S_below (by (with_reducible repeat (first | apply Kd.S_alloc | apply Kd.S_drewN | apply Kd.S_drew)); exact HV7.out) hb); have HV82 := Aside0.mk (Kd.S_below (by (with_reducible repeat (first | apply Kd.S_alloc | apply Kd.S_drewN | apply Kd.S_drew)); exact HV8.out) hb); have HB2 := Aside0.mk (below_step (by repeat (first | (with_reducible first | exact HB.out | apply below_alloc | apply pw_below_drewN | apply below_drew1) | exact HB.out)) hb); have HN2_ := Aside0.mk (Nat.le_of_eq hn_); clear HB HN hb hn_ ho0 HV0 HV1 HV2 HV5 HV6 HV7 HV8; have HB := HB2; have HN := HN2_; have HV0 := HV02; have HV1 := HV12; have HV2 := HV22; have HV5 := HV52; have HV6 := HV62; have HV7 := HV72; have HV8 := HV82; clear HB2 HN2_ HV02 HV12 HV22 HV52 HV62 HV72 HV82; obtain ⟨B9, cc9, es_⟩ := Kd.S_slice HV9.out; subst es_) | ((with_reducible refine gate_callee (f := 31) rfl ?_); refine goesL_ (some 99) rfl rfl Try.func31 (by kernel_rfl) rfl #[.slice B8 l0.length cc8, .slice B9 l1.length cc9] rfl (by (try simp only [List.map_toArray, List.map_cons, List.map_nil]); first | done | rfl | (simp only [List.length_drop, List.length_take]; rfl)) ?_; (with_reducible refine (impl_MultiplyTables.calls kI _ _ l0 _ _ l1 L0 b _ ?side1 ?side2 ?side3 ?side4 AI.out).mono ?_); (case side1 => exact (Kd.S_reads' (by (with_reducible repeat (first | apply Kd.S_alloc | apply Kd.S_drewN | apply Kd.S_drew)); exact HV8.out)).2.2); (case side2 => exact (Kd.S_reads' HV8.out).2.1); (case side3 => exact (Kd.S_reads' (by (with_reducible repeat (first | apply Kd.S_alloc | apply Kd.S_drewN | apply Kd.S_drew)); exact HV9.out)).2.2); (case side4 => exact (Kd.S_reads' HV9.out).2.1); rintro e w14 ⟨vv0, rfl, ho0, hb⟩; refine ⟨_, rfl, ?_⟩; obtain ⟨n11, hn_⟩ : ∃ n, n = w14.heap.size := ⟨_, rfl⟩; have HLn11 := Aside0.mk (show n10 ≤ n11 from Nat.le_trans HN.out (Nat.le_trans hb.size (Nat.le_of_eq hn_.symm))); have HV10 := Aside0.mk (Kd.S_mono (ok' := fun k => n10 ≤ k ∧ k < n11) (Kd.S_lower (Kd.S_bound ho0) (below_size (by repeat (first | (with_reducible first | exact HB.out | apply below_alloc | apply pw_below_drewN | apply below_drew1) | exact HB.out)))) (fun k hk => ⟨Nat.le_trans HN.out hk.2.1, by have := hk.2.2.1; omega⟩)); have HV02 := Aside0.mk (Kd.S_below (by (with_reducible repeat (first | apply Kd.S_alloc | apply Kd.S_drewN | apply Kd.S_drew)); exact HV0.out) hb); have HV12 := Aside0.mk (Kd.S_below (by (with_reducible repeat (first | apply Kd.S_alloc | apply Kd.S_drewN | apply Kd.S_drew)); exact HV1.out) hb); have HV22 := Aside0.mk (Kd.V_below (by (with_reducible repeat (first | apply Kd.V_alloc | apply Kd.V_drewN | apply Kd.V_drew)); exact HV2.out) hb); have HV52 := Aside0.mk (Kd.S_below (by (with_reducible repeat (first | apply Kd.S_alloc | apply Kd.S_drewN | apply Kd.S_drew)); exact HV5.out) hb); have HV62 := Aside0.mk (Kd.S_below (by (with_reducible repeat (first | apply Kd.S_alloc | apply Kd.S_drewN | apply Kd.S_drew)); exact HV6.out) hb); have HV72 := Aside0.mk (Kd.S_below (by (with_reducible repeat (first | apply Kd.S_alloc | apply Kd.S_drewN | apply Kd.S_drew)); exact HV7.out) hb); have HV82 := Aside0.mk (Kd.S_below (by (with_reducible repeat (first | apply Kd.S_alloc | apply Kd.S_drewN | apply Kd.S_drew)); exact HV8.out) hb); have HV92 := Aside0.mk (Kd.S_below (by (with_reducible repeat (first | apply Kd.S_alloc | apply Kd.S_drewN | apply Kd.S_drew)); exact HV9.out) hb); have HB2 := Aside0.mk (below_step (by repeat (first | (with_reducible first | exact HB.out | apply below_alloc | apply pw_below_drewN | apply below_drew1) | exact HB.out)) hb); have HN2_ := Aside0.mk (Nat.le_of_eq hn_); clear HB HN hb hn_ ho0 HV0 HV1 HV2 HV5 HV6 HV7 HV8 HV9; have HB := HB2; have HN := HN2_; have HV0 := HV02; have HV1 := HV12; have HV2 := HV22; have HV5 := HV52; have HV6 := HV62; have HV7 := HV72; have HV8 := HV82; have HV9 := HV92; clear HB2 HN2_ HV02 HV12 HV22 HV52 HV62 HV72 HV82 HV92; obtain ⟨B10, cc10, es_⟩ := Kd.S_slice HV10.out; subst es_))
  go_upto_region 35 with (first | ((with_reducible refine gate_callee (f := 14) rfl ?_); refine goesL_ (some 104) rfl rfl Try.func14 (by kernel_rfl) rfl #[.slice B10 L0.length cc10, .slice B2 L0.length cc2] rfl (by (try simp only [List.map_toArray, List.map_cons, List.map_nil]); first | done | rfl | (simp only [List.length_drop, List.length_take]; rfl)) ?_; (with_reducible refine (laws_eqIntSS.calls kAE0 _ _ L0 _ _ L0 true _ ?side1 ?side2 ?side3 ?side4 AE0.out).mono ?_); (case side1 => exact (Kd.S_reads' (by (with_reducible repeat (first | apply Kd.S_alloc | apply Kd.S_drewN | apply Kd.S_drew)); exact HV10.out)).2.2); (case side2 => exact (Kd.S_reads' HV10.out).2.1); (case side3 => exact (Kd.V_reads' (by (with_reducible repeat (first | apply Kd.V_alloc | apply Kd.V_drewN | apply Kd.V_drew)); exact HV2.out)).2.2); (case side4 => exact (Kd.V_reads' HV2.out).2.1); rintro e w' ⟨rfl, ⟨nd, rfl⟩⟩; refine ⟨_, rfl, ?_⟩))
  go_wp2_with (first | ((with_reducible refine gate_callee (f := 16) rfl ?_); refine goesL_ (some 113) rfl rfl Try.func16 (by kernel_rfl) rfl #[.slice B5 L0.length cc5, .int .i64 1] rfl (by (try simp only [List.map_toArray, List.map_cons, List.map_nil]); first | done | rfl | (simp only [List.length_drop, List.length_take]; rfl)) ?_; (with_reducible refine (AH2.out B5 cc5 _ ?side1).mono ?_); (case side1 => exact ⟨_, (by (with_reducible repeat (first | apply Kd.S_alloc | apply Kd.S_drewN | apply Kd.S_drew)); exact HV5.out)⟩); rintro e w' ⟨rfl, ⟨nd, rfl⟩⟩; refine ⟨_, rfl, ?_⟩))
  go_ret
  exact ⟨rfl, (by repeat (first | (with_reducible first | exact HB.out | apply below_alloc | apply pw_below_drewN | apply below_drew1) | exact HB.out))⟩
end Go.Proofs.Ytogjadakonakcaa.A

/- What came in as a slice, opened and read in the words of rows. -/
namespace Go.Proofs.Ytogjadakonakcaa.A
open Go.RowKit Go.Proofs.YtogjadakonakcaaW.PrintWords Go.Proofs.YtogjadakonakcaaW.PrintLast Go.Proofs.YtogjadakonakcaaW.PrintMore
attribute [local go_sem] max2_int min2_int max_two min_two max_three min_three max_four min_four
set_option linter.unusedVariables false
set_option linter.unusedSimpArgs false

open Go.ChangeShapes Go.WideShapes Go.ChangeAt Go.Deep
theorem row_rows {H : Type} {enc : TypeId × Value → H} {P : Program} {W : World} {base : Nat} {held : Bool} {t e q : TypeId} {a : Option Addr} {len cap : Nat} {d : DataW H} {ps : List MemPlace}
    (ht : P.underlying t = some (.slice e)) (he : P.underlying e = some (.slice q)) (hq : P.underlying q = some (.int .i64)) (ce : P.cellsOf e = 1) (cq : P.cellsOf q = 1) (h : DataW.Trod enc P W base (fun _ => true) held t (.slice a len cap) d ps) :
    ∃ l : List (List Int), len = l.length ∧ Kd.C (Kd.slice q (Kd.int .i64)) W a l.length l ∧ l.length ≤ 9223372036854775807 ∧ (∀ x ∈ l, x.length ≤ 9223372036854775807 ∧ ∀ y ∈ x, (Lit.int .i64 y).wf = true) ∧ l.length ≤ cap := by
  obtain ⟨fuel, hf⟩ := h
  rcases open_int_rows ht he hq ce cq hf with ⟨hcs, _⟩ | ⟨x, len', cap', A, L, C, Z, hcs, _, hl, hm, _, hrows⟩
  · simp [Value.cells] at hcs
    obtain ⟨rfl, rfl, rfl⟩ := hcs
    exact ⟨[], rfl, Kd.C_nil _ _, by simp, by simp, Nat.zero_le _⟩
  · simp [Value.cells] at hcs
    obtain ⟨rfl, rfl, rfl⟩ := hcs
    have hmax : cap ≤ 9223372036854775807 := by
      unfold maxLen at hm
      omega
    refine ⟨(List.range len).map fun r => (Z r).take (L r), by simp, ⟨rfl, by simp; omega, fun _ => ⟨x, rfl, fun j p hj => ?_⟩⟩, by simp; omega, ?_, by simpa using hl⟩
    · simp only [List.getElem?_map] at hj
      obtain ⟨r, hr, rfl⟩ := Option.map_eq_some_iff.1 hj
      obtain ⟨hjl, hjr⟩ := List.getElem?_eq_some_iff.1 hr
      rw [List.getElem_range] at hjr
      subst hjr
      rw [List.length_range] at hjl
      obtain ⟨h1, h2, h3, h4, h5, h6, h7⟩ := hrows j (by omega)
      have hlen : ((Z j).take (L j)).length = L j := by rw [List.length_take]; omega
      refine ⟨[.slice (A j) (L j) (C j)], rfl, ⟨A j, C j, by rw [hlen], by rw [hlen]; exact h2, ?_⟩, ?_⟩
      · refine Kd.C_of_reads (d := (0 : Int)) (h1 := fun _ => rfl) ⟨rfl, by rw [hlen]; unfold maxLen at h3; omega, fun hp => ?_⟩
        rw [hlen] at hp
        cases ha : A j with
        | none =>
          have := h6 ha
          omega
        | some a' =>
          refine ⟨a', rfl, fun i hi => ?_⟩
          rw [hlen] at hi
          rw [(h7 a' ha).2 i (by omega)]
          simp only [List.getD_eq_getElem?_getD, List.getElem?_take_of_lt hi]
      · intro i u hu
        cases i with
        | zero =>
          simp at hu
          subst hu
          rw [Nat.add_zero]
          have : (Kd.slice q (Kd.int .i64)).sz = 1 := rfl
          rw [this, Nat.mul_one]
          exact h1
        | succ i => simp at hu
    · intro y hy
      obtain ⟨r, hr, rfl⟩ := List.mem_map.1 hy
      rw [List.mem_range] at hr
      obtain ⟨h1, h2, h3, h4, h5, h6, h7⟩ := hrows r (by omega)
      refine ⟨by rw [List.length_take]; unfold maxLen at h3; omega, fun z hz => h5 z (List.mem_of_mem_take hz)⟩
end Go.Proofs.Ytogjadakonakcaa.A
