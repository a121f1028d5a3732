/- What the law FnExactBelowOf reaches, part 2: Lean functions with the same answers as the Go functions, the proofs that the Go code comes to these answers, and lemmas about them; no condition beyond those that each theorem names. -/
import Derived.Shelf.SlGeneric
import Derived.Shelf.SlSortCmp.NoneTotal
import Derived.Ground.SlsfProg
import Derived.Test.YtpejdcomdnpclaaProg
import Derived.Lib.SlKept
import Derived.Shelf.SlicesE.DeleteFunc
import Derived.Shelf.SlicesE.IndexFunc
import Derived.Shelf.SlLaysH
import Derived.Ground.SlgfProg
import Derived.Deep.RegionHeld3
import Derived.WalkKit
import Derived.ProofKit
import Derived.OpenShut
import Derived.Deep.Matrix
import Derived.Lib.SmallJoins
import Derived.Test.YtpejdcomdnpclaaCFnExactBelowOf1
/-
  DERIVED: THE SHELF's CONTRACTS AT THIS DUMP, IN PLAIN WORDS (tools/lay-plain.mjs out of 'YtpejdcomdnpclaaShelf.lean', which tools/lay-shelf.mjs wrote): THE SAME DECLARATIONS UNDER THE SAME NAMES: 'import', 'namespace', 'open', 'def', 'theorem' AND NOTHING ELSE: no command of the shelf's: FOR A HAND-IN. Each laying: the table of numbers ('.._ren') and one theorem, a field a fact of the dump's own or the kernel's comparison; each contract: ONE APPLICATION.
-/
namespace Go.Proofs
open Go.Shelf
def Try.sortL_ren : Go.Shelf.Ren := ⟨fun | 6 => 70 | 15 => 80 | 14 => 79 | 28 => 92 | 29 => 93 | 20 => 84 | 21 => 85 | 22 => 86 | 23 => 87 | 24 => 88 | 25 => 89 | 26 => 90 | 27 => 91 | 46 => 95 | 47 => 96 | 48 => 97 | 49 => 98 | 50 => 99 | 57 => 101 | n => n, fun | 22 => 22 | 24 => 3 | 25 => 42 | 3 => 3 | 39 => 58 | 0 => 0 | 53 => 69 | 55 => 71 | 4 => 4 | 46 => 62 | 45 => 61 | 50 => 66 | 5 => 5 | 9 => 9 | 66 => 72 | 70 => 76 | 76 => 78 | 77 => 79 | n => n, fun | n => n⟩
theorem Try.sortL : Go.Proofs.SlLaysF.n6 Try.prog Try.sortL_ren := {
  mixed := by kernel_rfl
  f6 := ⟨Try.f70.name, by decide, Try.func70.trans (congrArg some (by kernel_rfl))⟩
  f14 := ⟨Try.f79.name, by decide, Try.func79.trans (congrArg some (by kernel_rfl))⟩
  f15 := Try.func80.trans (congrArg some (by kernel_rfl))
  f20 := ⟨Try.f84.name, by decide, Try.func84.trans (congrArg some (by kernel_rfl))⟩
  f21 := ⟨Try.f85.name, by decide, Try.func85.trans (congrArg some (by kernel_rfl))⟩
  f22 := ⟨Try.f86.name, by decide, Try.func86.trans (congrArg some (by kernel_rfl))⟩
  f23 := ⟨Try.f87.name, by decide, Try.func87.trans (congrArg some (by kernel_rfl))⟩
  f24 := ⟨Try.f88.name, by decide, Try.func88.trans (congrArg some (by kernel_rfl))⟩
  f25 := ⟨Try.f89.name, by decide, Try.func89.trans (congrArg some (by kernel_rfl))⟩
  f26 := ⟨Try.f90.name, by decide, Try.func90.trans (congrArg some (by kernel_rfl))⟩
  f27 := ⟨Try.f91.name, by decide, Try.func91.trans (congrArg some (by kernel_rfl))⟩
  f28 := Try.func92.trans (congrArg some (by kernel_rfl))
  f29 := Try.func93.trans (congrArg some (by kernel_rfl))
  f46 := ⟨Try.f95.name, by decide, Try.func95.trans (congrArg some (by kernel_rfl))⟩
  f47 := Try.func96.trans (congrArg some (by kernel_rfl))
  f48 := Try.func97.trans (congrArg some (by kernel_rfl))
  f49 := ⟨Try.f98.name, by decide, Try.func98.trans (congrArg some (by kernel_rfl))⟩
  f50 := ⟨Try.f99.name, by decide, Try.func99.trans (congrArg some (by kernel_rfl))⟩
  f57 := ⟨Try.f101.name, by decide, Try.func101.trans (congrArg some (by kernel_rfl))⟩
  t0 := Try.underlying0
  a0 := Try.isAgg0
  z0 := Try.sizeOf0
  v0 := Try.zeroValue0
  t3 := Try.underlying3
  a3 := Try.isAgg3
  z3 := Try.sizeOf3
  v3 := Try.zeroValue3
  t4 := Try.underlying4
  a4 := Try.isAgg4
  z4 := Try.sizeOf4
  v4 := Try.zeroValue4
  t5 := Try.underlying5
  a5 := Try.isAgg5
  z5 := Try.sizeOf5
  v5 := Try.zeroValue5
  t9 := Try.underlying9
  a9 := Try.isAgg9
  z9 := Try.sizeOf9
  v9 := Try.zeroValue9
  t22 := Try.underlying22
  a22 := Try.isAgg22
  z22 := Try.sizeOf22
  v22 := Try.zeroValue22
  a24 := Try.isAgg3
  z24 := Try.sizeOf3
  t25 := Try.underlying42
  a25 := Try.isAgg42
  z25 := Try.sizeOf42
  v25 := Try.zeroValue42
  t39 := Try.underlying58
  a39 := Try.isAgg58
  z39 := Try.sizeOf58
  v39 := Try.zeroValue58
  t45 := Try.underlying61
  a45 := Try.isAgg61
  z45 := Try.sizeOf61
  v45 := Try.zeroValue61
  t46 := Try.underlying62
  a46 := Try.isAgg62
  z46 := Try.sizeOf62
  v46 := Try.zeroValue62
  t50 := Try.underlying66
  a50 := Try.isAgg66
  z50 := Try.sizeOf66
  v50 := Try.zeroValue66
  t53 := Try.underlying69
  a53 := Try.isAgg69
  z53 := Try.sizeOf69
  v53 := Try.zeroValue69
  t55 := Try.underlying71
  a55 := Try.isAgg71
  z55 := Try.sizeOf71
  v55 := Try.zeroValue71
  t66 := Try.underlying72
  a66 := Try.isAgg72
  z66 := Try.sizeOf72
  v66 := Try.zeroValue72
  t70 := Try.underlying76
  a70 := Try.isAgg76
  z70 := Try.sizeOf76
  v70 := Try.zeroValue76
  t76 := Try.underlying78
  a76 := Try.isAgg78
  z76 := Try.sizeOf78
  v76 := Try.zeroValue78
  t77 := Try.underlying79
  a77 := Try.isAgg79
  z77 := Try.sizeOf79
  v77 := Try.zeroValue79 }
end Go.Proofs

/- ranking: the numbers of a list, the greatest ones first: slices.Clone and slices.SortFunc by their contracts. -/
namespace Go.Proofs.Ytpejdcomdnpclaa.A
open Go.RowKit Go.Proofs.YtpejdcomdnpclaaW.PrintWords Go.Proofs.YtpejdcomdnpclaaW.PrintLast Go.Proofs.YtpejdcomdnpclaaW.PrintMore
attribute [local go_sem] max2_int min2_int max_two min_two max_three min_three max_four min_four
set_option linter.unusedVariables false
set_option linter.unusedSimpArgs false

open Go.Shelf Go.Lib Go.Sort
def descL (l : List Int) : List Int := l.mergeSort fun x y => decide (y ≤ x)
def smallL (l : List Int) : Bool := decide (l.length ≤ 1000000) && l.all fun x => decide (0 ≤ x ∧ x ≤ 1000000)
def impl_ranking.f (l0 : List Int) : Option (List Int) := if smallL l0 = true then some (descL l0) else none
abbrev SmallI : Type := { x : Int // 0 ≤ x ∧ x ≤ 1000000 }
instance : Inhabited SmallI := ⟨⟨0, by omega, by omega⟩⟩
def encI (x : SmallI) : Value := .int .i64 x.1
def cfI (x y : SmallI) : Int := y.1 - x.1
theorem ltI (x y : SmallI) : ltOf cfI x y = decide (y.1 < x.1) := by
  unfold ltOf cfI
  by_cases h : y.1 < x.1
  · simp [h]
    omega
  · simp [h]
    omega
theorem swoI : SWO (ltOf cfI) where
  irrefl x := by rw [ltI]; simp
  trans x y z h1 h2 := by rw [ltI] at *; simp at *; omega
  ntrans x y z h1 h2 := by rw [ltI] at *; simp at *; omega
theorem totI (x y : SmallI) (h1 : ltOf cfI x y = false) (h2 : ltOf cfI y x = false) : x = y := by
  rw [ltI] at *
  simp at *
  exact Subtype.ext (by omega)
theorem geI : (fun x y : SmallI => !ltOf cfI y x) = fun x y => decide (y.1 ≤ x.1) := by
  funext x y
  rw [ltI]
  by_cases h : y.1 ≤ x.1
  · have h' : ¬ x.1 < y.1 := by omega
    simp [h, h']
  · have h' : x.1 < y.1 := by omega
    simp [h, h']
set_option maxHeartbeats 1000000 in
theorem ranking_cmp (x y : SmallI) (W : World) : Calls Try.prog 71 #[encI x, encI y] W fun e w' => e = .returned (.int .i64 (cfI x y)) ∧ ∃ q, w' = W.drewN q := by
  obtain ⟨x, hx0, hx1⟩ := x
  obtain ⟨y, hy0, hy1⟩ := y
  unfold encI cfI
  go_enter Try.func71, Try.ntmps71
  go_wp2
  go_ret
  exact ⟨rfl, 0, rfl⟩
theorem attach_enc (l : List Int) (h : ∀ x ∈ l, 0 ≤ x ∧ x ≤ 1000000) : (l.attachWith (fun x => 0 ≤ x ∧ x ≤ 1000000) h).map encI = encs (Value.int .i64) l := by
  unfold encs
  rw [show encI = (Value.int .i64) ∘ Subtype.val from rfl, ← List.map_map, List.attachWith_map_subtype_val]
theorem descL_attach (l : List Int) (h : ∀ x ∈ l, 0 ≤ x ∧ x ≤ 1000000) : ((l.attachWith (fun x => 0 ≤ x ∧ x ≤ 1000000) h).mergeSort fun x y => decide (y.1 ≤ x.1)).map encI = encs (Value.int .i64) (descL l) := by
  have h1 : ((l.attachWith (fun x => 0 ≤ x ∧ x ≤ 1000000) h).mergeSort fun x y => decide (y.1 ≤ x.1)).map Subtype.val = descL l := by
    unfold descL
    rw [List.map_mergeSort (s := fun x y => decide (y ≤ x)) (fun a _ b _ => rfl), List.attachWith_map_subtype_val]
  unfold encs
  rw [← h1, List.map_map]
  rfl
set_option maxHeartbeats 2000000 in
set_option maxRecDepth 100000 in
theorem impl_ranking.calls (A0 : Option Addr) (c0 : Nat) (l0 : List Int) (r : List Int) (w : World) (hr0 : Kd.C (Kd.int .i64) w A0 l0.length l0) (hc0 : l0.length ≤ c0) (h : impl_ranking.f l0 = some r) :
    Calls Try.prog 41 #[.slice A0 l0.length c0] w fun e w' => ∃ v0_ : Value, e = .returned (v0_) ∧ Kd.R (Kd.int .i64) 3 w' w.heap.size (fun _ => True) v0_ r ∧ Below w.heap.size w w' := by
  have hl : smallL l0 = true ∧ descL l0 = r := by
    unfold impl_ranking.f at h
    by_cases c : smallL l0 = true
    · rw [if_pos c] at h
      exact ⟨c, Option.some.inj h⟩
    · rw [if_neg c] at h
      cases h
  clear h
  obtain ⟨hs, rfl⟩ := hl
  unfold smallL at hs
  simp only [Bool.and_eq_true, decide_eq_true_eq, List.all_eq_true] at hs
  obtain ⟨hl, hall⟩ := hs
  have HCl := Aside0.mk (slices_Clone_int_int.calls A0 c0 l0 l0 w hr0 hc0 (by unfold slices_Clone_int_int.f; rw [if_pos (by omega)]))
  have Hall := Aside0.mk hall
  have Hl := Aside0.mk hl
  clear hall hl hr0 hc0
  have eg : ∀ args w, (callFunc 71 args).run Try.prog w = .ok (.enter 71 args) w := enters_of Try.func71 (by kernel_rfl) rfl
  have Heg := Aside0.mk eg
  clear eg
  go_enter Try.func41, Try.ntmps41
  go_wp2_with fail
  refine HCl.out.mono ?_
  rintro e w1 ⟨v, rfl, hR, hb⟩
  have ho := Kd.own_of_R hR
  clear hR HCl
  have Hb := Aside0.mk hb
  clear hb
  obtain ⟨hlen', hcase⟩ := ho
  rcases hcase with ⟨rfl, h0⟩ | ⟨g, cap, cur, rfl, hg, hh, hnc, hcm, hcs, htake⟩
  · have hnil : l0 = [] := List.length_eq_zero_iff.1 h0
    subst hnil
    clear h0 hlen' Hall Hl
    have hS := AnyF.slices_SortFunc_none (P := Try.prog) (ρ := Try.sortL_ren) { Try.sortL with } none 0 (.func (.func 71) #[] #[]) w1
    change Calls Try.prog 70 _ _ _ at hS
    have HS := Aside0.mk hS
    clear hS
    go_wp2_with fail
    refine HS.out.mono ?_
    rintro e w2 ⟨rfl, rfl⟩
    go_wp2
    go_ret
    exact ⟨_, rfl, by unfold descL; simp only [List.mergeSort]; exact Kd.R_nil _ _ _ _ _, Hb.out⟩
  · have hd : (l0.attachWith (fun x => 0 ≤ x ∧ x ≤ 1000000) Hall.out).toArray.size = l0.length := by simp
    have hH := holds_own encI (l0.attachWith (fun x => 0 ≤ x ∧ x ≤ 1000000) Hall.out).toArray hh hnc hcs hd (by
      rw [htake, List.toList_toArray, attach_enc])
    have hS := Any.slices_SortFunc_total Try.sortL encI (fun _ => rfl) cfI swoI 71 #[] g 0 cap (l0.attachWith (fun x => 0 ≤ x ∧ x ≤ 1000000) Hall.out).toArray w1 Heg.out
      (CmpReads.lays (fun _ _ _ _ x y => ranking_cmp x y _)) hH (Array.getElem?_eq_some_iff.1 hh).1 (by have := Hl.out; rw [hd]; omega) totI
    rw [geI, hd] at hS
    change Calls Try.prog 70 _ _ _ at hS
    have HS := Aside0.mk hS
    have HF : Aside0 (∀ m os, Kd.R (Kd.int .i64) 3 (sortWorld encI w1 g 0 m ((l0.attachWith (fun x => 0 ≤ x ∧ x ≤ 1000000) Hall.out).mergeSort fun x y => decide (y.1 ≤ x.1)).toArray os) w.heap.size (fun _ => True) (.slice (some ⟨g, 0, none⟩) l0.length cap) (descL l0) ∧ Below w.heap.size w (sortWorld encI w1 g 0 m ((l0.attachWith (fun x => 0 ≤ x ∧ x ≤ 1000000) Hall.out).mergeSort fun x y => decide (y.1 ≤ x.1)).toArray os)) := ⟨fun m os => by
      refine ⟨?_, below_sorted encI Hb.out _ os hg⟩
      have hdl : (descL l0).length = l0.length := List.length_mergeSort l0
      have ho := own_sorted encI (m := m) ((l0.attachWith (fun x => 0 ≤ x ∧ x ≤ 1000000) Hall.out).mergeSort fun x y => decide (y.1 ≤ x.1)).toArray os hg hh hnc hcm hcs (by simp [List.length_mergeSort])
      rw [List.toList_toArray, descL_attach] at ho
      exact Kd.R_of_own (by rw [hdl]; exact ho) (fun _ _ => trivial)⟩
    clear hS hH hd hh hnc hcm hcs htake hlen' hg
    go_wp2_with fail
    refine HS.out.mono ?_
    rintro e w2 ⟨rfl, n, os, rfl⟩
    have hF := HF.out n os
    have HF2 := Aside0.mk hF
    clear hF
    generalize sortWorld encI w1 g 0 n ((l0.attachWith (fun x => 0 ≤ x ∧ x ≤ 1000000) Hall.out).mergeSort fun x y => decide (y.1 ≤ x.1)).toArray os = w2 at HF2 ⊢
    go_wp2
    go_ret
    exact ⟨_, rfl, HF2.out.1, HF2.out.2⟩
end Go.Proofs.Ytpejdcomdnpclaa.A

-- made by a program of this repo (wip/pp.py) through the kit's printer
namespace Go.Proofs.Ytpejdcomdnpclaa.A
open Go.RowKit Go.Proofs.YtpejdcomdnpclaaW.PrintWords Go.Proofs.YtpejdcomdnpclaaW.PrintLast Go.Proofs.YtpejdcomdnpclaaW.PrintMore
attribute [local go_sem] max2_int min2_int max_two min_two max_three min_three max_four min_four
set_option linter.unusedVariables false
set_option linter.unusedSimpArgs false

/-! ### impl_partial: function 78 -/
def impl_partial.l0 : Nat → List Int → Int → List Int → Int → Int → Option (List Int)
  | 0, _, _, _, _, _ => none
  | k + 1, x3, x4, x9, x10, x11 => if x11 < x10 then (if 0 ≤ x11 then (if x11 < (x9.length : Int) then (if x3.length < 17592186044416 then (impl_partial.l0 k (x3 ++ [wrap64 (x4 + (rd x9 x11))]) (wrap64 (x4 + (rd x9 x11))) x9 x10 (wrap64 (x11 + 1))) else (none)) else (none)) else (none)) else (some x3)
def impl_partial.f (k : Nat) (l0 : List Int) : Option (List Int) := (impl_ranking.f l0).bind fun t514 => (impl_partial.l0 k (([] : List Int)) 0 t514 (t514.length : Int) 0)
set_option maxHeartbeats 8000000 in
set_option maxRecDepth 100000 in
theorem impl_partial.calls (k : Nat) (A0 : Option Addr) (c0 : Nat) (l0 : List Int) (r : List Int) (w : World) (hr0 : Kd.C (Kd.int .i64) w A0 l0.length l0) (hc0 : l0.length ≤ c0) (h : impl_partial.f k l0 = some r) :
    Calls Try.prog 78 #[.slice A0 l0.length c0] w fun e w' => ∃ v0_ : Value, e = .returned (v0_) ∧ Kd.R (Kd.int .i64) 3 w' w.heap.size (fun _ => True) v0_ r ∧ Below w.heap.size w w' := by
  have HR0 := Aside0.mk hr0
  have HC0 := Aside0.mk hc0
  clear hr0 hc0
  have HB := Aside0.mk (Below.refl w.heap.size w)
  have H : ((impl_ranking.f l0).bind fun t514 => (impl_partial.l0 k (([] : List Int)) 0 t514 (t514.length : Int) 0)) = some r := h
  clear h
  obtain ⟨y511, hy511⟩ : ∃ y_ : List Int, y_ = (([] : List Int)) := ⟨_, rfl⟩
  replace H : ((impl_ranking.f l0).bind fun t514 => (impl_partial.l0 k y511 0 t514 (t514.length : Int) 0)) = some r := by first | (rw [hy511]; with_reducible exact H) | (have H2_ := (Option.bind_some _ _).symm.trans H; rw [hy511]; with_reducible exact H2_) | (have H2_ := (Option.bind_some _ _).symm.trans H; with_reducible exact H2_) | with_reducible exact H | (rw [hy511]; exact H) | exact H
  have Ny511 := Aside0.mk hy511
  clear hy511
  replace H := Option.bind_eq_some_iff.mp H
  obtain ⟨t514, A20, H⟩ := H
  replace H : (impl_partial.l0 k y511 0 t514 (t514.length : Int) 0) = some r := H
  have A2 := Aside0.mk A20
  clear A20
  have H' := Aside0.mk H
  clear H
  go_enter Try.func78, Try.ntmps78
  go_wp2_with (first | ((with_reducible refine gate_dst (N := 7) rfl ?_); refine Kd.R_lit (Kd.int .i64) _ 3 ?hg (N := 7) ?hd (xs := ([] : List Int)) (inner := []) (ok := fun _ => True) (okp := fun _ => True) ?hr ?hp (fun _ hk => hk) trivial (Below.refl _ _) (Nat.le_refl _) (by simp) ?_; (case hd => rfl); (case hg => rfl); (case hr => first | (go_simp; done) | (go_simp; rfl)); (case hp => exact (Reps.none _ _)); intro v512 w3 ho4 hb hg_ hnew_; clear hg_ hnew_; (first | rw [← Ny511.out] at ho4 | (simp only [Int.reduceToNat] at ho4; rw [← Ny511.out] at ho4)); have n0_ := Aside0.mk (Kd.R_lower ho4 (below_size (by repeat (first | (with_reducible first | exact HB.out | apply below_alloc | apply pw_below_drewN | apply below_drew1) | exact HB.out)))); have n1_ := Aside0.mk (below_step (by repeat (first | (with_reducible first | exact HB.out | apply below_alloc | apply pw_below_drewN | apply below_drew1) | exact HB.out)) hb); clear HB; have HO513 := n0_; have HB := n1_; clear n0_ n1_; clear hb ho4) | ((with_reducible refine gate_callee (f := 41) rfl ?_); refine goesL_ (some 9) rfl rfl Try.func41 (by kernel_rfl) rfl #[.slice A0 l0.length c0] rfl (by (try simp only [List.map_toArray, List.map_cons, List.map_nil]); first | done | rfl | (simp only [List.length_drop, List.length_take]; rfl)) ?_; (with_reducible refine (impl_ranking.calls _ _ l0 t514 _ ?side1 ?side2 A2.out).mono ?_); (case side1 => repeat (first | exact (Kd.C_below HR0.out HB.out) | (with_reducible refine Kd.C_alloc ?_ _) | (with_reducible refine Kd.C_drewN ?_ _) | (with_reducible refine Kd.C_drew ?_))); (case side2 => exact HC0.out); rintro e w5 ⟨v515, rfl, ho0, hb⟩; refine ⟨_, rfl, ?_⟩; have n0_ := Aside0.mk (Kd.R_elder' (by (with_reducible repeat (first | apply Kd.R_alloc | apply Kd.R_drewN | apply Kd.R_drew)); exact HO513.out) (Kd.R_base ho0) hb); have n1_ := Aside0.mk (Kd.R_lower (Kd.R_new' ho0 (Kd.R_lt (by (with_reducible repeat (first | apply Kd.R_alloc | apply Kd.R_drewN | apply Kd.R_drew)); exact HO513.out))) (below_size (by repeat (first | (with_reducible first | exact HB.out | apply below_alloc | apply pw_below_drewN | apply below_drew1) | exact HB.out)))); have n2_ := Aside0.mk (below_step (by repeat (first | (with_reducible first | exact HB.out | apply below_alloc | apply pw_below_drewN | apply below_drew1) | exact HB.out)) hb); clear HO513; clear HB; have HO513 := n0_; have HO516 := n1_; have HB := n2_; clear n0_ n1_ n2_; (try clear hb); (try clear hb2); (try clear hk); (try clear hi); (try clear ho0); obtain ⟨Ao6, co6, eo6⟩ := Kd.R_slice HO516.out; subst eo6))
  go_loopg [3, 4, 11] k (fun kq v3 v4 v11 w' => ∃ (x3_1 : List Int) (x4_1 : Int) (x11_1 : Int), v4 = .int .i64 x4_1 ∧ v11 = .int .i64 x11_1 ∧ Aside0 (impl_partial.l0 kq x3_1 x4_1 t514 (t514.length : Int) x11_1 = some r) ∧ Aside0 (kq ≤ k) ∧ Aside0 (Kd.R (Kd.int .i64) 3 w' w.heap.size (fun k_ => some k_ ≠ ((.slice Ao6 t514.length co6) : Value).ownBlock) v3 x3_1) ∧ Aside0 (Kd.R (Kd.int .i64) 3 w' w.heap.size (fun k_ => some k_ ≠ (v3 : Value).ownBlock) (.slice Ao6 t514.length co6) t514) ∧ Aside0 (Below w.heap.size w w'))
  case atStart => exact ⟨(y511), (0), (0), (by first | rfl | (simp; done) | (simp [*]; done)), (by first | rfl | (simp; done) | (simp [*]; done)), H', ⟨Nat.le_refl _⟩, ⟨by (with_reducible repeat (first | apply Kd.R_alloc | apply Kd.R_drewN | apply Kd.R_drew)); exact Kd.R_mono HO513.out (fun _ hk => hk.2)⟩, ⟨by (with_reducible repeat (first | apply Kd.R_alloc | apply Kd.R_drewN | apply Kd.R_drew)); exact Kd.R_mono HO516.out (fun _ hk => hk.2)⟩, ⟨by repeat (first | (with_reducible first | exact HB.out | apply below_alloc | apply pw_below_drewN | apply below_drew1) | exact HB.out)⟩⟩
  case round =>
    clear H'
    try clear p2
    try clear c4
    obtain ⟨x3_1, x4_1, x11_1, rfl, rfl, HA, HK1, HO_3, HO_9, HB⟩ := hrel
    cases gk with
    | zero => exact absurd HA.out (by simp [impl_partial.l0])
    | succ k1 =>
      have H := HA.out
      clear HA
      simp only [impl_partial.l0] at H
      by_cases c7 : x11_1 < (t514.length : Int)
      · rw [if_pos c7] at H
        have c7b0 : decide (x11_1 < (t514.length : Int)) = true := decide_eq_true c7
        clear c7
        by_cases c8 : 0 ≤ x11_1
        · rw [if_pos c8] at H
          have c8b0 : decide (0 ≤ x11_1) = true := decide_eq_true c8
          clear c8
          by_cases c9 : x11_1 < (t514.length : Int)
          · rw [if_pos c9] at H
            have c9b0 : decide (x11_1 < (t514.length : Int)) = true := decide_eq_true c9
            clear c9
            by_cases c10 : x3_1.length < 17592186044416
            · rw [if_pos c10] at H
              have LMc10 := Aside0.mk c10
              clear c10
              obtain ⟨y518, hy518⟩ : ∃ y_ : List Int, y_ = (x3_1 ++ [wrap64 (x4_1 + (rd t514 x11_1))]) := ⟨_, rfl⟩
              replace H : (impl_partial.l0 k1 y518 (wrap64 (x4_1 + (rd t514 x11_1))) t514 (t514.length : Int) (wrap64 (x11_1 + 1))) = some r := by first | (rw [hy518]; with_reducible exact H) | (have H2_ := (Option.bind_some _ _).symm.trans H; rw [hy518]; with_reducible exact H2_) | (have H2_ := (Option.bind_some _ _).symm.trans H; with_reducible exact H2_) | with_reducible exact H | (rw [hy518]; exact H) | exact H
              have Ny518 := Aside0.mk hy518
              clear hy518
              have H' := Aside0.mk H
              clear H
              have p517 : 0 ≤ (x11_1 : Int) := of_decide_eq_true (by first | (with_reducible assumption) | assumption)
              have q517 : x11_1 < (t514.length : Int) := of_decide_eq_true (by first | (with_reducible assumption) | assumption)
              obtain ⟨ad517, e517, hx517_0⟩ := Kd.at_int (Kd.R_reads' HO_9.out).2.2 x11_1 p517 q517
              cases e517
              replace p517 := eq_true p517
              replace q517 := eq_true q517
              go_wp2_with (first | ((with_reducible refine gate_builtin (b := .append) (xs := #[.tmp 18, .tmp 20]) rfl ?_); at_builtin; refine Kd.R_append (Kd.int .i64) (w0 := w) w.heap.size rfl (.tmp 18) (.tmp 20) 22 3 (.int .i64 0) 8 rfl Try.underlying22 info3 rfl (by decide) (by omega) u3 x3_1 (wrap64 (x4_1 + (rd t514 x11_1))) [.int .i64 (wrap64 (x4_1 + (rd t514 x11_1)))] (fun k_ => some k_ ≠ (.slice (some ad517) t514.length co6 : Value).ownBlock) (fun _ => False) rfl rfl ?aP (fun _ hk => hk.elim) ?aF ?aO ?aB ?aS ?aL ?_; (case aP => exact rfl); (case aB => exact (by repeat (first | (with_reducible first | exact HB.out | apply below_alloc | apply pw_below_drewN | apply below_drew1) | exact HB.out))); (case aF => exact (fun k_ hk => Kd.fresh' (Kd.R_lt (by (with_reducible repeat (first | apply Kd.R_alloc | apply Kd.R_drewN | apply Kd.R_drew)); exact HO_9.out)) k_ hk)); (case aO => exact (by (with_reducible repeat (first | apply Kd.R_alloc | apply Kd.R_drewN | apply Kd.R_drew)); exact HO_3.out)); (case aS => exact (below_size (by repeat (first | (with_reducible first | exact HB.out | apply below_alloc | apply pw_below_drewN | apply below_drew1) | exact HB.out)))); (case aL => have := LMc10.out; omega); intro v519 w11 ho hb hg hat; rw [← Ny518.out] at ho; have n0_ := Aside0.mk (Kd.R_after (ok := (fun _ => True)) (by (with_reducible repeat (first | apply Kd.R_alloc | apply Kd.R_drewN | apply Kd.R_drew)); exact Kd.R_mono HO_9.out (fun _ hk => ⟨trivial, hk⟩)) hg hat); have n1_ := Aside0.mk (hb); have n2_ := Aside0.mk (ho); clear HO_9; clear HB; clear HO_3; have HO_9 := n0_; have HB := n1_; have HO520 := n2_; clear n0_ n1_ n2_; clear ho hb hg hat))
              go_roundg k1
              case measure => have := HK1.out; omega
              case rel => exact ⟨(y518), (wrap64 (x4_1 + (rd t514 x11_1))), (wrap64 (x11_1 + 1)), (by first | rfl | (simp; done) | (simp [*]; done)), (by first | rfl | (simp; done) | (simp [*]; done)), H', ⟨by have := HK1.out; omega⟩, ⟨by (with_reducible repeat (first | apply Kd.R_alloc | apply Kd.R_drewN | apply Kd.R_drew)); exact HO520.out⟩, ⟨by (with_reducible repeat (first | apply Kd.R_alloc | apply Kd.R_drewN | apply Kd.R_drew)); exact Kd.R_mono HO_9.out (fun _ hk => hk.2)⟩, ⟨by repeat (first | (with_reducible first | exact HB.out | apply below_alloc | apply pw_below_drewN | apply below_drew1) | exact HB.out)⟩⟩
            · rw [if_neg c10] at H
              exact absurd H (by simp)
          · rw [if_neg c9] at H
            exact absurd H (by simp)
        · rw [if_neg c8] at H
          exact absurd H (by simp)
      · rw [if_neg c7] at H
        have c7b0 : decide (x11_1 < (t514.length : Int)) = false := decide_eq_false c7
        clear c7
        obtain rfl := Option.some.inj H
        go_wp2
        go_ret
        exact ⟨_, by first | rfl | (simp [errW_none, errW_some] <;> rfl) | (simp [*, errW_none, errW_some] <;> rfl), by (with_reducible repeat (first | apply Kd.R_alloc | apply Kd.R_drewN | apply Kd.R_drew)); exact Kd.R_mono HO_3.out (fun _ hk => trivial), by repeat (first | (with_reducible first | exact HB.out | apply below_alloc | apply pw_below_drewN | apply below_drew1) | exact HB.out)⟩

end Go.Proofs.Ytpejdcomdnpclaa.A

-- made by a program of this repo (wip/pp.py) through the kit's printer
namespace Go.Proofs.Ytpejdcomdnpclaa.A
open Go.RowKit Go.Proofs.YtpejdcomdnpclaaW.PrintWords Go.Proofs.YtpejdcomdnpclaaW.PrintLast Go.Proofs.YtpejdcomdnpclaaW.PrintMore
attribute [local go_sem] max2_int min2_int max_two min_two max_three min_three max_four min_four
set_option linter.unusedVariables false
set_option linter.unusedSimpArgs false

/-! ### impl_refused: function 65 -/
def impl_refused.l0 : Nat → List Int → List Int → Int → Int → Option (Int)
  | 0, _, _, _, _ => none
  | k + 1, x5, x11, x12, x13 => if x13 < x12 then (if 0 ≤ x13 then (if x13 < (x11.length : Int) then (if x13 < (x5.length : Int) then (if (rd x11 x13) > (rd x5 x13) then (some (wrap64 (x13 + 1))) else (impl_refused.l0 k x5 x11 x12 (wrap64 (x13 + 1)))) else (none)) else (none)) else (none)) else (some 0)
def impl_refused.f (k : Nat) (l0 : List Int) (l1 : List Int) : Option (Int) := (impl_partial.f k l1).bind fun t521 => ((impl_partial.f k l0).bind fun t524 => (impl_refused.l0 k t521 t524 (t524.length : Int) 0))
set_option maxHeartbeats 8000000 in
set_option maxRecDepth 100000 in
theorem impl_refused.calls (k : Nat) (A0 : Option Addr) (c0 : Nat) (l0 : List Int) (A1 : Option Addr) (c1 : Nat) (l1 : List Int) (r : Int) (w : World) (hr0 : Kd.C (Kd.int .i64) w A0 l0.length l0) (hc0 : l0.length ≤ c0) (hr1 : Kd.C (Kd.int .i64) w A1 l1.length l1) (hc1 : l1.length ≤ c1) (h : impl_refused.f k l0 l1 = some r) :
    Calls Try.prog 65 #[.slice A0 l0.length c0, .slice A1 l1.length c1] w fun e w' => e = .returned (.int .i64 r) ∧ Below w.heap.size w w' := by
  have HR0 := Aside0.mk hr0
  have HC0 := Aside0.mk hc0
  clear hr0 hc0
  have HR1 := Aside0.mk hr1
  have HC1 := Aside0.mk hc1
  clear hr1 hc1
  have HB := Aside0.mk (Below.refl w.heap.size w)
  have H : ((impl_partial.f k l1).bind fun t521 => ((impl_partial.f k l0).bind fun t524 => (impl_refused.l0 k t521 t524 (t524.length : Int) 0))) = some r := h
  clear h
  replace H := Option.bind_eq_some_iff.mp H
  obtain ⟨t521, A30, H⟩ := H
  replace H : ((impl_partial.f k l0).bind fun t524 => (impl_refused.l0 k t521 t524 (t524.length : Int) 0)) = some r := H
  have A3 := Aside0.mk A30
  clear A30
  replace H := Option.bind_eq_some_iff.mp H
  obtain ⟨t524, A40, H⟩ := H
  replace H : (impl_refused.l0 k t521 t524 (t524.length : Int) 0) = some r := H
  have A4 := Aside0.mk A40
  clear A40
  have H' := Aside0.mk H
  clear H
  go_enter Try.func65, Try.ntmps65
  go_wp2_with (first | ((with_reducible refine gate_callee (f := 78) rfl ?_); refine goesL_ (some 9) rfl rfl Try.func78 (by kernel_rfl) rfl #[.slice A1 l1.length c1] rfl (by (try simp only [List.map_toArray, List.map_cons, List.map_nil]); first | done | rfl | (simp only [List.length_drop, List.length_take]; rfl)) ?_; (with_reducible refine (impl_partial.calls k _ _ l1 t521 _ ?side1 ?side2 A3.out).mono ?_); (case side1 => repeat (first | exact HR1.out | (with_reducible refine Kd.C_alloc ?_ _) | (with_reducible refine Kd.C_drewN ?_ _) | (with_reducible refine Kd.C_drew ?_))); (case side2 => exact HC1.out); rintro e w5 ⟨v522, rfl, ho0, hb⟩; refine ⟨_, rfl, ?_⟩; have n0_ := Aside0.mk (Kd.R_lower ho0 (below_size (by repeat (first | (with_reducible first | exact HB.out | apply below_alloc | apply pw_below_drewN | apply below_drew1) | exact HB.out)))); have n1_ := Aside0.mk (below_step (by repeat (first | (with_reducible first | exact HB.out | apply below_alloc | apply pw_below_drewN | apply below_drew1) | exact HB.out)) hb); clear HB; have HO523 := n0_; have HB := n1_; clear n0_ n1_; (try clear hb); (try clear hb2); (try clear hk); (try clear hi); (try clear ho0)) | ((with_reducible refine gate_callee (f := 78) rfl ?_); refine goesL_ (some 11) rfl rfl Try.func78 (by kernel_rfl) rfl #[.slice A0 l0.length c0] rfl (by (try simp only [List.map_toArray, List.map_cons, List.map_nil]); first | done | rfl | (simp only [List.length_drop, List.length_take]; rfl)) ?_; (with_reducible refine (impl_partial.calls k _ _ l0 t524 _ ?side1 ?side2 A4.out).mono ?_); (case side1 => repeat (first | exact (Kd.C_below HR0.out HB.out) | (with_reducible refine Kd.C_alloc ?_ _) | (with_reducible refine Kd.C_drewN ?_ _) | (with_reducible refine Kd.C_drew ?_))); (case side2 => exact HC0.out); rintro e w6 ⟨v525, rfl, ho0, hb⟩; refine ⟨_, rfl, ?_⟩; have n0_ := Aside0.mk (Kd.R_elder' (by (with_reducible repeat (first | apply Kd.R_alloc | apply Kd.R_drewN | apply Kd.R_drew)); exact HO523.out) (Kd.R_base ho0) hb); have n1_ := Aside0.mk (Kd.R_lower (Kd.R_new' ho0 (Kd.R_lt (by (with_reducible repeat (first | apply Kd.R_alloc | apply Kd.R_drewN | apply Kd.R_drew)); exact HO523.out))) (below_size (by repeat (first | (with_reducible first | exact HB.out | apply below_alloc | apply pw_below_drewN | apply below_drew1) | exact HB.out)))); have n2_ := Aside0.mk (below_step (by repeat (first | (with_reducible first | exact HB.out | apply below_alloc | apply pw_below_drewN | apply below_drew1) | exact HB.out)) hb); clear HO523; clear HB; have HO523 := n0_; have HO526 := n1_; have HB := n2_; clear n0_ n1_ n2_; (try clear hb); (try clear hb2); (try clear hk); (try clear hi); (try clear ho0); obtain ⟨Ao7, co7, eo7⟩ := Kd.R_slice HO526.out; subst eo7))
  go_loopg [13] k (fun kq v13 w' => ∃ (x13_1 : Int), v13 = .int .i64 x13_1 ∧ Aside0 (impl_refused.l0 kq t521 t524 (t524.length : Int) x13_1 = some r) ∧ Aside0 (kq ≤ k) ∧ Aside0 (Kd.R (Kd.int .i64) 3 w' w.heap.size (fun k_ => some k_ ≠ ((.slice Ao7 t524.length co7) : Value).ownBlock) v522 t521) ∧ Aside0 (Kd.R (Kd.int .i64) 3 w' w.heap.size (fun k_ => some k_ ≠ (v522 : Value).ownBlock) (.slice Ao7 t524.length co7) t524) ∧ Aside0 (Below w.heap.size w w'))
  case atStart => exact ⟨(0), (by first | rfl | (simp; done) | (simp [*]; done)), H', ⟨Nat.le_refl _⟩, ⟨by (with_reducible repeat (first | apply Kd.R_alloc | apply Kd.R_drewN | apply Kd.R_drew)); exact Kd.R_mono HO523.out (fun _ hk => hk.2)⟩, ⟨by (with_reducible repeat (first | apply Kd.R_alloc | apply Kd.R_drewN | apply Kd.R_drew)); exact Kd.R_mono HO526.out (fun _ hk => hk.2)⟩, ⟨by repeat (first | (with_reducible first | exact HB.out | apply below_alloc | apply pw_below_drewN | apply below_drew1) | exact HB.out)⟩⟩
  case round =>
    clear H'
    try clear c1
    try clear p2
    try clear c6
    try clear c7
    obtain ⟨x13_1, rfl, HA, HK1, HO_5, HO_11, HB⟩ := hrel
    cases gk with
    | zero => exact absurd HA.out (by simp [impl_refused.l0])
    | succ k1 =>
      have H := HA.out
      clear HA
      simp only [impl_refused.l0] at H
      by_cases c8 : x13_1 < (t524.length : Int)
      · rw [if_pos c8] at H
        have c8b0 : decide (x13_1 < (t524.length : Int)) = true := decide_eq_true c8
        clear c8
        by_cases c9 : 0 ≤ x13_1
        · rw [if_pos c9] at H
          have c9b0 : decide (0 ≤ x13_1) = true := decide_eq_true c9
          clear c9
          by_cases c10 : x13_1 < (t524.length : Int)
          · rw [if_pos c10] at H
            have c10b0 : decide (x13_1 < (t524.length : Int)) = true := decide_eq_true c10
            clear c10
            by_cases c11 : x13_1 < (t521.length : Int)
            · rw [if_pos c11] at H
              have c11b0 : decide (x13_1 < (t521.length : Int)) = true := decide_eq_true c11
              clear c11
              by_cases c12 : (rd t524 x13_1) > (rd t521 x13_1)
              · rw [if_pos c12] at H
                have c12b0 : decide ((rd t521 x13_1) < (rd t524 x13_1)) = true := decide_eq_true c12
                clear c12
                obtain rfl := Option.some.inj H
                have p527 : 0 ≤ (x13_1 : Int) := of_decide_eq_true (by first | (with_reducible assumption) | assumption)
                have q527 : x13_1 < (t524.length : Int) := of_decide_eq_true (by first | (with_reducible assumption) | assumption)
                obtain ⟨ad527, e527, hx527_0⟩ := Kd.at_int (Kd.R_reads' HO_11.out).2.2 x13_1 p527 q527
                cases e527
                replace p527 := eq_true p527
                replace q527 := eq_true q527
                obtain ⟨Ao13, co13, eo13⟩ := Kd.R_slice HO_5.out
                subst eo13
                have p528 : 0 ≤ (x13_1 : Int) := of_decide_eq_true (by first | (with_reducible assumption) | assumption)
                have q528 : x13_1 < (t521.length : Int) := of_decide_eq_true (by first | (with_reducible assumption) | assumption)
                obtain ⟨ad528, e528, hx528_0⟩ := Kd.at_int (Kd.R_reads' HO_5.out).2.2 x13_1 p528 q528
                cases e528
                replace p528 := eq_true p528
                replace q528 := eq_true q528
                go_wp2
                go_ret
                exact ⟨by first | rfl | (simp [errW_none, errW_some] <;> rfl) | (simp [*, errW_none, errW_some] <;> rfl), by repeat (first | (with_reducible first | exact HB.out | apply below_alloc | apply pw_below_drewN | apply below_drew1) | exact HB.out)⟩
              · rw [if_neg c12] at H
                have c12b0 : decide ((rd t521 x13_1) < (rd t524 x13_1)) = false := decide_eq_false c12
                clear c12
                have H' := Aside0.mk H
                clear H
                have p527 : 0 ≤ (x13_1 : Int) := of_decide_eq_true (by first | (with_reducible assumption) | assumption)
                have q527 : x13_1 < (t524.length : Int) := of_decide_eq_true (by first | (with_reducible assumption) | assumption)
                obtain ⟨ad527, e527, hx527_0⟩ := Kd.at_int (Kd.R_reads' HO_11.out).2.2 x13_1 p527 q527
                cases e527
                replace p527 := eq_true p527
                replace q527 := eq_true q527
                obtain ⟨Ao14, co14, eo14⟩ := Kd.R_slice HO_5.out
                subst eo14
                have p528 : 0 ≤ (x13_1 : Int) := of_decide_eq_true (by first | (with_reducible assumption) | assumption)
                have q528 : x13_1 < (t521.length : Int) := of_decide_eq_true (by first | (with_reducible assumption) | assumption)
                obtain ⟨ad528, e528, hx528_0⟩ := Kd.at_int (Kd.R_reads' HO_5.out).2.2 x13_1 p528 q528
                cases e528
                replace p528 := eq_true p528
                replace q528 := eq_true q528
                go_wp2
                go_roundg k1
                case measure => have := HK1.out; omega
                case rel => exact ⟨(wrap64 (x13_1 + 1)), (by first | rfl | (simp; done) | (simp [*]; done)), H', ⟨by have := HK1.out; omega⟩, ⟨by (with_reducible repeat (first | apply Kd.R_alloc | apply Kd.R_drewN | apply Kd.R_drew)); exact HO_5.out⟩, ⟨by (with_reducible repeat (first | apply Kd.R_alloc | apply Kd.R_drewN | apply Kd.R_drew)); exact HO_11.out⟩, ⟨by repeat (first | (with_reducible first | exact HB.out | apply below_alloc | apply pw_below_drewN | apply below_drew1) | exact HB.out)⟩⟩
            · rw [if_neg c11] at H
              exact absurd H (by simp)
          · rw [if_neg c10] at H
            exact absurd H (by simp)
        · rw [if_neg c9] at H
          exact absurd H (by simp)
      · rw [if_neg c8] at H
        have c8b0 : decide (x13_1 < (t524.length : Int)) = false := decide_eq_false c8
        clear c8
        obtain rfl := Option.some.inj H
        go_wp2
        go_ret
        exact ⟨by first | rfl | (simp [errW_none, errW_some] <;> rfl) | (simp [*, errW_none, errW_some] <;> rfl), by repeat (first | (with_reducible first | exact HB.out | apply below_alloc | apply pw_below_drewN | apply below_drew1) | exact HB.out)⟩

end Go.Proofs.Ytpejdcomdnpclaa.A

-- made by a program of this repo (wip/pp.py) through the kit's printer
namespace Go.Proofs.Ytpejdcomdnpclaa.A
open Go.RowKit Go.Proofs.YtpejdcomdnpclaaW.PrintWords Go.Proofs.YtpejdcomdnpclaaW.PrintLast Go.Proofs.YtpejdcomdnpclaaW.PrintMore
attribute [local go_sem] max2_int min2_int max_two min_two max_three min_three max_four min_four
set_option linter.unusedVariables false
set_option linter.unusedSimpArgs false

/-! ### impl_isMajorized: function 32 -/
def impl_isMajorized.f (k : Nat) (l0 : List Int) (l1 : List Int) : Option (Bool) := (impl_doFit.f k l0 l1).bind fun t529 => (if t529 = true then ((impl_refused.f k l0 l1).bind fun t530 => (some (t530 == 0))) else (some false))
set_option maxHeartbeats 8000000 in
set_option maxRecDepth 100000 in
theorem impl_isMajorized.calls (k : Nat) (A0 : Option Addr) (c0 : Nat) (l0 : List Int) (A1 : Option Addr) (c1 : Nat) (l1 : List Int) (r : Bool) (w : World) (hr0 : Kd.C (Kd.int .i64) w A0 l0.length l0) (hc0 : l0.length ≤ c0) (hr1 : Kd.C (Kd.int .i64) w A1 l1.length l1) (hc1 : l1.length ≤ c1) (h : impl_isMajorized.f k l0 l1 = some r) :
    Calls Try.prog 32 #[.slice A0 l0.length c0, .slice A1 l1.length c1] w fun e w' => e = .returned (.bool r) ∧ Below w.heap.size w w' := by
  have HR0 := Aside0.mk hr0
  have HC0 := Aside0.mk hc0
  clear hr0 hc0
  have HR1 := Aside0.mk hr1
  have HC1 := Aside0.mk hc1
  clear hr1 hc1
  have HB := Aside0.mk (Below.refl w.heap.size w)
  have H : ((impl_doFit.f k l0 l1).bind fun t529 => (if t529 = true then ((impl_refused.f k l0 l1).bind fun t530 => (some (t530 == 0))) else (some false))) = some r := h
  clear h
  replace H := Option.bind_eq_some_iff.mp H
  obtain ⟨t529, A30, H⟩ := H
  replace H : (if t529 = true then ((impl_refused.f k l0 l1).bind fun t530 => (some (t530 == 0))) else (some false)) = some r := H
  have A3 := Aside0.mk A30
  clear A30
  by_cases c4 : t529 = true
  · subst c4
    have H1 : ((impl_refused.f k l0 l1).bind fun t530 => (some (t530 == 0))) = some r := by rw [if_pos rfl] at H; exact H
    clear H
    have H := H1
    clear H1
    replace H := Option.bind_eq_some_iff.mp H
    obtain ⟨t530, A50, H⟩ := H
    replace H : (some (t530 == 0)) = some r := H
    have A5 := Aside0.mk A50
    clear A50
    obtain rfl := Option.some.inj H
    go_enter Try.func32, Try.ntmps32
    go_wp2_with (first | ((with_reducible refine gate_callee (f := 64) rfl ?_); refine goesL_ (some 7) rfl rfl Try.func64 (by kernel_rfl) rfl #[.slice A0 l0.length c0, .slice A1 l1.length c1] rfl (by (try simp only [List.map_toArray, List.map_cons, List.map_nil]); first | done | rfl | (simp only [List.length_drop, List.length_take]; rfl)) ?_; (with_reducible refine (impl_doFit.calls k _ _ l0 _ _ l1 true _ ?side1 ?side2 ?side3 ?side4 A3.out).mono ?_); (case side1 => repeat (first | exact HR0.out | (with_reducible refine Kd.C_alloc ?_ _) | (with_reducible refine Kd.C_drewN ?_ _) | (with_reducible refine Kd.C_drew ?_))); (case side2 => exact HC0.out); (case side3 => repeat (first | exact HR1.out | (with_reducible refine Kd.C_alloc ?_ _) | (with_reducible refine Kd.C_drewN ?_ _) | (with_reducible refine Kd.C_drew ?_))); (case side4 => exact HC1.out); rintro e w' ⟨rfl, ⟨nd, rfl⟩⟩; refine ⟨_, rfl, ?_⟩) | (go_at_call 65; (with_reducible refine (impl_refused.calls k _ _ l0 _ _ l1 t530 _ ?side1 ?side2 ?side3 ?side4 A5.out).mono ?_); (case side1 => repeat (first | exact HR0.out | (with_reducible refine Kd.C_alloc ?_ _) | (with_reducible refine Kd.C_drewN ?_ _) | (with_reducible refine Kd.C_drew ?_))); (case side2 => exact HC0.out); (case side3 => repeat (first | exact HR1.out | (with_reducible refine Kd.C_alloc ?_ _) | (with_reducible refine Kd.C_drewN ?_ _) | (with_reducible refine Kd.C_drew ?_))); (case side4 => exact HC1.out); rintro e w6 ⟨rfl, hb⟩; have n0_ := Aside0.mk (below_step (by repeat (first | (with_reducible first | exact HB.out | apply below_alloc | apply pw_below_drewN | apply below_drew1) | exact HB.out)) hb); clear HB; have HB := n0_; clear n0_; (try clear hb); (try clear hb2); (try clear hk); (try clear hi)))
    go_ret
    exact ⟨by first | rfl | (simp [errW_none, errW_some] <;> rfl) | (simp [*, errW_none, errW_some] <;> rfl), by repeat (first | (with_reducible first | exact HB.out | apply below_alloc | apply pw_below_drewN | apply below_drew1) | exact HB.out)⟩
  · replace c4 := Bool.eq_false_iff.mpr c4
    subst c4
    have H1 : (some false) = some r := by rw [if_neg (show ¬ (false = true) by decide)] at H; exact H
    clear H
    have H := H1
    clear H1
    obtain rfl := Option.some.inj H
    go_enter Try.func32, Try.ntmps32
    go_wp2_with (first | ((with_reducible refine gate_callee (f := 64) rfl ?_); refine goesL_ (some 7) rfl rfl Try.func64 (by kernel_rfl) rfl #[.slice A0 l0.length c0, .slice A1 l1.length c1] rfl (by (try simp only [List.map_toArray, List.map_cons, List.map_nil]); first | done | rfl | (simp only [List.length_drop, List.length_take]; rfl)) ?_; (with_reducible refine (impl_doFit.calls k _ _ l0 _ _ l1 false _ ?side1 ?side2 ?side3 ?side4 A3.out).mono ?_); (case side1 => repeat (first | exact HR0.out | (with_reducible refine Kd.C_alloc ?_ _) | (with_reducible refine Kd.C_drewN ?_ _) | (with_reducible refine Kd.C_drew ?_))); (case side2 => exact HC0.out); (case side3 => repeat (first | exact HR1.out | (with_reducible refine Kd.C_alloc ?_ _) | (with_reducible refine Kd.C_drewN ?_ _) | (with_reducible refine Kd.C_drew ?_))); (case side4 => exact HC1.out); rintro e w' ⟨rfl, ⟨nd, rfl⟩⟩; refine ⟨_, rfl, ?_⟩))
    go_ret
    exact ⟨by first | rfl | (simp [errW_none, errW_some] <;> rfl) | (simp [*, errW_none, errW_some] <;> rfl), by repeat (first | (with_reducible first | exact HB.out | apply below_alloc | apply pw_below_drewN | apply below_drew1) | exact HB.out)⟩

end Go.Proofs.Ytpejdcomdnpclaa.A

-- made by a program of this repo (wip/pp.py) through the kit's printer
namespace Go.Proofs.Ytpejdcomdnpclaa.A
open Go.RowKit Go.Proofs.YtpejdcomdnpclaaW.PrintWords Go.Proofs.YtpejdcomdnpclaaW.PrintLast Go.Proofs.YtpejdcomdnpclaaW.PrintMore
attribute [local go_sem] max2_int min2_int max_two min_two max_three min_three max_four min_four
set_option linter.unusedVariables false
set_option linter.unusedSimpArgs false

/-! ### impl_rankings: function 57 -/
mutual
def impl_rankings.l0 : Nat → Int → Int → List (List Int) → Int → Option ((List (List Int)))
  | 0, _, _, _, _ => none
  | k + 1, x0, x1, x7, x8 => if x8 ≥ 0 then (impl_rankings.j1 k x0 x1 x7 x8 (decide ((wrap64 (x8 * x0)) ≥ x1))) else (impl_rankings.j1 k x0 x1 x7 x8 false)
def impl_rankings.j1 : Nat → Int → Int → List (List Int) → Int → Bool → Option ((List (List Int)))
  | 0, _, _, _, _, _ => none
  | k + 1, x0, x1, x7, x8, x29 => if x29 = true then ((impl_rankings.f k (wrap64 (x0 - 1)) (wrap64 (x1 - x8)) x8).bind fun t226 => (impl_rankings.l1 k x0 x1 x7 x8 t226 (t226.length : Int) 0)) else (some x7)
def impl_rankings.l1 : Nat → Int → Int → List (List Int) → Int → List (List Int) → Int → Int → Option ((List (List Int)))
  | 0, _, _, _, _, _, _, _ => none
  | k + 1, x0, x1, x7, x8, x38, x39, x40 => if x40 < x39 then (if 0 ≤ x40 then (if x40 < (x38.length : Int) then ((some (([x8] : List Int) : List Int)).bind fun y230 => (if y230.length + (rd_L1 x38 x40).length < 17592186044416 then (if x7.length < 5864062014805 then (impl_rankings.l1 k x0 x1 (x7 ++ [(y230 ++ (rd_L1 x38 x40))]) x8 x38 x39 (wrap64 (x40 + 1))) else (none)) else (none))) else (none)) else (none)) else (impl_rankings.l0 k x0 x1 x7 (wrap64 (x8 - 1)))
def impl_rankings.f : Nat → Int → Int → Int → Option ((List (List Int)))
  | 0, _, _, _ => none
  | k + 1, a0, a1, a2 => if a0 = 0 then (if a1 = 0 then (some (([(([] : List Int))] : List (List Int)))) else (some ([] : List (List Int)))) else (impl_rankings.l0 k a0 a1 (([] : List (List Int))) (mn a1 a2))
end
set_option maxHeartbeats 8000000 in
set_option maxRecDepth 100000 in
theorem impl_rankings.calls (k : Nat) : ∀ (a0 : Int) (a1 : Int) (a2 : Int) (r : List (List Int)) (w : World) (h : impl_rankings.f k a0 a1 a2 = some r),
    Calls Try.prog 57 #[.int .i64 a0, .int .i64 a1, .int .i64 a2] w fun e w' => ∃ v0_ : Value, e = .returned (v0_) ∧ Kd.S (Kd.slice 3 (Kd.int .i64)) 22 w' w.heap.size (fun _ => True) v0_ r ∧ Below w.heap.size w w' := by
  induction k using Nat.strongRecOn with
  | _ k ih =>
  intro a0 a1 a2 r w h
  cases k with
  | zero => exact absurd h (by simp [impl_rankings.f])
  | succ k =>
  simp only [impl_rankings.f] at h
  have HB := Aside0.mk (Below.refl w.heap.size w)
  have H : (if a0 = 0 then (if a1 = 0 then (some (([(([] : List Int))] : List (List Int)))) else (some ([] : List (List Int)))) else (impl_rankings.l0 k a0 a1 (([] : List (List Int))) (mn a1 a2))) = some r := h
  clear h
  by_cases c4 : a0 = 0
  · rw [if_pos c4] at H
    have c4b0 : (a0 == 0) = true := beq_iff_eq.mpr c4
    have c4b1 : (a0 != 0) = false := bne_eq_false_iff_eq.mpr c4
    clear c4
    by_cases c5 : a1 = 0
    · rw [if_pos c5] at H
      have c5b0 : (a1 == 0) = true := beq_iff_eq.mpr c5
      have c5b1 : (a1 != 0) = false := bne_eq_false_iff_eq.mpr c5
      clear c5
      obtain ⟨y217, hy217⟩ : ∃ y_ : List Int, y_ = (([] : List Int)) := ⟨_, rfl⟩
      replace H : (some (([y217] : List (List Int)))) = some r := by first | (rw [hy217]; with_reducible exact H) | (have H2_ := (Option.bind_some _ _).symm.trans H; rw [hy217]; with_reducible exact H2_) | (have H2_ := (Option.bind_some _ _).symm.trans H; with_reducible exact H2_) | with_reducible exact H | (rw [hy217]; exact H) | exact H
      have Ny217 := Aside0.mk hy217
      clear hy217
      obtain ⟨y220, hy220⟩ : ∃ y_ : List (List Int), y_ = (([y217] : List (List Int))) := ⟨_, rfl⟩
      replace H : (some y220) = some r := by first | (rw [hy220]; with_reducible exact H) | (have H2_ := (Option.bind_some _ _).symm.trans H; rw [hy220]; with_reducible exact H2_) | (have H2_ := (Option.bind_some _ _).symm.trans H; with_reducible exact H2_) | with_reducible exact H | (rw [hy220]; exact H) | exact H
      have Ny220 := Aside0.mk hy220
      clear hy220
      obtain rfl := Option.some.inj H
      go_enter Try.func57, Try.ntmps57
      go_wp2_with (first | ((with_reducible refine gate_dst (N := 15) rfl ?_); refine Kd.R_lit (Kd.int .i64) _ 3 ?hg (N := 15) ?hd (xs := ([] : List Int)) (inner := []) (ok := fun _ => True) (okp := fun _ => True) ?hr ?hp (fun _ hk => hk) trivial (Below.refl _ _) (Nat.le_refl _) (by simp) ?_; (case hd => rfl); (case hg => rfl); (case hr => first | (go_simp; done) | (go_simp; rfl)); (case hp => exact (Reps.none _ _)); intro v218 w6 ho7 hb hg_ hnew_; clear hg_ hnew_; (first | rw [← Ny217.out] at ho7 | (simp only [Int.reduceToNat] at ho7; rw [← Ny217.out] at ho7)); have n0_ := Aside0.mk (Kd.R_lower ho7 (below_size (by repeat (first | (with_reducible first | exact HB.out | apply below_alloc | apply pw_below_drewN | apply below_drew1) | exact HB.out)))); have n1_ := Aside0.mk (below_step (by repeat (first | (with_reducible first | exact HB.out | apply below_alloc | apply pw_below_drewN | apply below_drew1) | exact HB.out)) hb); clear HB; have HO219 := n0_; have HB := n1_; clear n0_ n1_; clear hb ho7; obtain ⟨Ao8, co8, eo8⟩ := Kd.R_slice HO219.out; subst eo8) | ((with_reducible refine gate_dst (N := 16) rfl ?_); refine Kd.S_lits (Kd.slice 3 (Kd.int .i64)) _ 22 ?hg (N := 16) ?hd (xs := ([y217] : List (List Int))) (inner := [.slice Ao8 y217.length co8]) (ok := fun _ => True) (fun j_ _ => j_ = 0) ?hr rfl ?hp (fun i_ j_ _ h1 h2 => h1.trans h2.symm) (fun _ _ _ => trivial) trivial (Below.refl _ _) (below_size (by repeat (first | (with_reducible first | exact HB.out | apply below_alloc | apply pw_below_drewN | apply below_drew1) | exact HB.out))) (by simp) ?_; (case hd => rfl); (case hg => rfl); (case hr => first | (go_simp; done) | (go_simp; rfl)); (case hp => intro j_ x_ hx_; cases j_ with | zero => (simp only [List.getElem?_cons_zero, Option.some.injEq] at hx_; subst hx_; exact ⟨_, rfl, Kd.R_mono (by (with_reducible repeat (first | apply Kd.R_alloc | apply Kd.R_drewN | apply Kd.R_drew)); exact HO219.out) (fun _ _ => rfl)⟩) | succ j_ => simp at hx_); intro v221 w9 hoLITho10 hb hg_ hnew_; replace hb := (fun {a b : World} (h : a.grownBy b none) => (⟨h.os, h.tape, h.output, h.size, fun i hi => h.block i hi (by simp)⟩ : Below a.heap.size a b)) hg_; clear hg_ hnew_; (first | rw [← Ny220.out] at hoLITho10 | (simp only [Int.reduceToNat] at hoLITho10; rw [← Ny220.out] at hoLITho10)); have n0_ := Aside0.mk (hoLITho10); have n1_ := Aside0.mk (below_step (by repeat (first | (with_reducible first | exact HB.out | apply below_alloc | apply pw_below_drewN | apply below_drew1) | exact HB.out)) hb); clear HB; clear HO219; have HO222 := n0_; have HB := n1_; clear n0_ n1_; clear hb hoLITho10))
      go_ret
      exact ⟨_, by first | rfl | (simp [errW_none, errW_some] <;> rfl) | (simp [*, errW_none, errW_some] <;> rfl), by (with_reducible repeat (first | apply Kd.S_alloc | apply Kd.S_drewN | apply Kd.S_drew)); exact HO222.out, by repeat (first | (with_reducible first | exact HB.out | apply below_alloc | apply pw_below_drewN | apply below_drew1) | exact HB.out)⟩
    · rw [if_neg c5] at H
      have c5b0 : (a1 == 0) = false := beq_eq_false_iff_ne.mpr c5
      have c5b1 : (a1 != 0) = true := bne_iff_ne.mpr c5
      obtain rfl := Option.some.inj H
      go_enter Try.func57, Try.ntmps57
      go_wp2
      go_ret
      exact ⟨_, by first | rfl | (simp [errW_none, errW_some] <;> rfl) | (simp [*, errW_none, errW_some] <;> rfl), by first | exact Kd.S_nil _ _ _ _ _ | exact Kd.N_nil _ _ _ _ _ | exact Kd.V_nil _ _ _ _ _ | exact Kd.Q_nil _ _ _ _ _ | exact Kd.R_nil _ _ _ _ _, by repeat (first | (with_reducible first | exact HB.out | apply below_alloc | apply pw_below_drewN | apply below_drew1) | exact HB.out)⟩
  · rw [if_neg c4] at H
    have c4b0 : (a0 == 0) = false := beq_eq_false_iff_ne.mpr c4
    have c4b1 : (a0 != 0) = true := bne_iff_ne.mpr c4
    obtain ⟨y223, hy223⟩ : ∃ y_ : List (List Int), y_ = (([] : List (List Int))) := ⟨_, rfl⟩
    replace H : (impl_rankings.l0 k a0 a1 y223 (mn a1 a2)) = some r := by first | (rw [hy223]; with_reducible exact H) | (have H2_ := (Option.bind_some _ _).symm.trans H; rw [hy223]; with_reducible exact H2_) | (have H2_ := (Option.bind_some _ _).symm.trans H; with_reducible exact H2_) | with_reducible exact H | (rw [hy223]; exact H) | exact H
    have Ny223 := Aside0.mk hy223
    clear hy223
    obtain ⟨ji11, hji11⟩ : ∃ j_ : Int, (mn a1 a2) = j_ := ⟨_, rfl⟩
    replace H : (impl_rankings.l0 k a0 a1 y223 ji11) = some r := by first | (rw [hji11] at H; exact H) | (simp only [hji11] at H ⊢; exact H)
    have hji11_ : (if a2 < a1 then a2 else a1) = ji11 := hji11
    have H' := Aside0.mk H
    clear H
    go_enter Try.func57, Try.ntmps57
    go_wp2_with (first | ((with_reducible refine gate_dst (N := 17) rfl ?_); refine Kd.S_lit (Kd.slice 3 (Kd.int .i64)) _ 22 ?hg (N := 17) ?hd (xs := ([] : List (List Int))) (inner := []) (ok := fun _ => True) (okp := fun _ => True) ?hr ?hp (fun _ hk => hk) trivial (Below.refl _ _) (Nat.le_refl _) (by simp) ?_; (case hd => rfl); (case hg => rfl); (case hr => first | (go_simp; done) | (go_simp; rfl)); (case hp => exact (Reps.none _ _)); intro v224 w12 ho13 hb hg_ hnew_; clear hg_ hnew_; (first | rw [← Ny223.out] at ho13 | (simp only [Int.reduceToNat] at ho13; rw [← Ny223.out] at ho13)); have n0_ := Aside0.mk (Kd.S_lower ho13 (below_size (by repeat (first | (with_reducible first | exact HB.out | apply below_alloc | apply pw_below_drewN | apply below_drew1) | exact HB.out)))); have n1_ := Aside0.mk (below_step (by repeat (first | (with_reducible first | exact HB.out | apply below_alloc | apply pw_below_drewN | apply below_drew1) | exact HB.out)) hb); clear HB; have HO225 := n0_; have HB := n1_; clear n0_ n1_; clear hb ho13))
    go_loopg [7, 8] k (fun kq v7 v8 w' => ∃ (x7_1 : List (List Int)) (x8_1 : Int), v8 = .int .i64 x8_1 ∧ Aside0 (impl_rankings.l0 kq a0 a1 x7_1 x8_1 = some r) ∧ Aside0 (kq ≤ k) ∧ Aside0 (Kd.S (Kd.slice 3 (Kd.int .i64)) 22 w' w.heap.size (fun _ => True) v7 x7_1) ∧ Aside0 (Below w.heap.size w w'))
    case atStart => exact ⟨(y223), (ji11), (by first | rfl | (simp; done) | (simp only [← hji11] <;> (first | rfl | simp)) | (simp [*]; done)), H', ⟨Nat.le_refl _⟩, ⟨by (with_reducible repeat (first | apply Kd.S_alloc | apply Kd.S_drewN | apply Kd.S_drew)); exact HO225.out⟩, ⟨by repeat (first | (with_reducible first | exact HB.out | apply below_alloc | apply pw_below_drewN | apply below_drew1) | exact HB.out)⟩⟩
    case round =>
      clear H'
      try clear p2
      try clear c4
      try clear c4b0
      try clear c4b1
      try clear c5
      try clear c5b0
      try clear c5b1
      obtain ⟨x7_1, x8_1, rfl, HA, HK1, HO_7, HB⟩ := hrel
      cases gk with
      | zero => exact absurd HA.out (by simp [impl_rankings.l0])
      | succ k1 =>
        have H := HA.out
        clear HA
        simp only [impl_rankings.l0] at H
        have HC14 := Aside0.mk H
        clear H
        go_upto_region 7 with (fail)
        go_cut [29] (fun v29 wc => ∃ (kq : Nat) (x29_13 : Bool), v29 = .bool x29_13 ∧ Aside0 (impl_rankings.j1 kq a0 a1 x7_1 x8_1 x29_13 = some r) ∧ Aside0 (kq ≤ k1) ∧ Aside0 (Kd.S (Kd.slice 3 (Kd.int .i64)) 22 wc w.heap.size (fun _ => True) u7 x7_1) ∧ Aside0 (Below w.heap.size w wc))
        case first =>
          have H := HC14.out
          clear HC14
          by_cases c15 : x8_1 ≥ 0
          · rw [if_pos c15] at H
            have c15b0 : decide (0 ≤ x8_1) = true := decide_eq_true c15
            clear c15
            (first | rw [c15b0] | (simp only [i64_w, i32_w]; rw [c15b0]) | skip)
            have H' := Aside0.mk H
            clear H
            go_wp2
            go_meet
            case rel => exact ⟨_, (decide ((wrap64 (x8_1 * a0)) ≥ a1)), (by first | rfl | (simp; done) | (simp [*]; done)), H', ⟨by have := HK1.out; first | omega | exact Nat.le_refl _⟩, ⟨by (with_reducible repeat (first | apply Kd.S_alloc | apply Kd.S_drewN | apply Kd.S_drew)); exact HO_7.out⟩, ⟨by repeat (first | (with_reducible first | exact HB.out | apply below_alloc | apply pw_below_drewN | apply below_drew1) | exact HB.out)⟩⟩
          · rw [if_neg c15] at H
            have c15b0 : decide (0 ≤ x8_1) = false := decide_eq_false c15
            clear c15
            (first | rw [c15b0] | (simp only [i64_w, i32_w]; rw [c15b0]) | skip)
            have H' := Aside0.mk H
            clear H
            go_wp2
            go_meet
            case rel => exact ⟨_, (false), (by first | rfl | (simp; done) | (simp [*]; done)), H', ⟨by have := HK1.out; first | omega | exact Nat.le_refl _⟩, ⟨by (with_reducible repeat (first | apply Kd.S_alloc | apply Kd.S_drewN | apply Kd.S_drew)); exact HO_7.out⟩, ⟨by repeat (first | (with_reducible first | exact HB.out | apply below_alloc | apply pw_below_drewN | apply below_drew1) | exact HB.out)⟩⟩
        case rest =>
          clear HC14
          try clear c1
          try clear p2
          try clear c4
          try clear c4b0
          try clear c4b1
          try clear c5
          try clear c5b0
          try clear c5b1
          try clear p6
          try clear c15
          try clear c15b0
          try clear p2
          obtain ⟨kq, x29_13, rfl, HA, HJ13, HO_7, HB⟩ := hcut
          cases kq with
          | zero => exact absurd HA.out (by simp [impl_rankings.j1])
          | succ kj13 =>
            have H := HA.out
            clear HA
            simp only [impl_rankings.j1] at H
            by_cases c16 : x29_13 = true
            · subst c16
              have H1 : ((impl_rankings.f kj13 (wrap64 (a0 - 1)) (wrap64 (a1 - x8_1)) x8_1).bind fun t226 => (impl_rankings.l1 kj13 a0 a1 x7_1 x8_1 t226 (t226.length : Int) 0)) = some r := by rw [if_pos rfl] at H; exact H
              clear H
              have H := H1
              clear H1
              replace H := Option.bind_eq_some_iff.mp H
              obtain ⟨t226, A170, H⟩ := H
              replace H : (impl_rankings.l1 kj13 a0 a1 x7_1 x8_1 t226 (t226.length : Int) 0) = some r := H
              have A17 := Aside0.mk A170
              clear A170
              have H' := Aside0.mk H
              clear H
              go_wp2_with (first | ((with_reducible refine gate_callee (f := 57) rfl ?_); refine goesL_ (some 38) rfl rfl Try.func57 (by kernel_rfl) rfl #[.int .i64 (wrap64 (a0 - 1)), .int .i64 (wrap64 (a1 - x8_1)), .int .i64 x8_1] rfl (by (try simp only [List.map_toArray, List.map_cons, List.map_nil]); first | done | rfl | (simp only [List.length_drop, List.length_take]; rfl)) ?_; (with_reducible refine (ih kj13 (by have := HK1.out; have := HJ13.out; omega) (wrap64 (a0 - 1)) (wrap64 (a1 - x8_1)) x8_1 t226 _ A17.out).mono ?_); rintro e w18 ⟨v227, rfl, ho0, hb⟩; refine ⟨_, rfl, ?_⟩; have n0_ := Aside0.mk (Kd.S_elder' (by (with_reducible repeat (first | apply Kd.S_alloc | apply Kd.S_drewN | apply Kd.S_drew)); exact HO_7.out) (Kd.S_base ho0) hb); have n1_ := Aside0.mk (Kd.S_lower (Kd.S_new' ho0 (Kd.S_lt (by (with_reducible repeat (first | apply Kd.S_alloc | apply Kd.S_drewN | apply Kd.S_drew)); exact HO_7.out))) (below_size (by repeat (first | (with_reducible first | exact HB.out | apply below_alloc | apply pw_below_drewN | apply below_drew1) | exact HB.out)))); have n2_ := Aside0.mk (below_step (by repeat (first | (with_reducible first | exact HB.out | apply below_alloc | apply pw_below_drewN | apply below_drew1) | exact HB.out)) hb); clear HO_7; clear HB; have HO_7 := n0_; have HO228 := n1_; have HB := n2_; clear n0_ n1_ n2_; (try clear hb); (try clear hb2); (try clear hk); (try clear hi); (try clear ho0); obtain ⟨Ao19, co19, eo19⟩ := Kd.S_slice HO228.out; subst eo19))
              go_loopg [7, 40] kj13 (fun kq v7 v40 w' => ∃ (x7_3 : List (List Int)) (x40_3 : Int), v40 = .int .i64 x40_3 ∧ Aside0 (impl_rankings.l1 kq a0 a1 x7_3 x8_1 t226 (t226.length : Int) x40_3 = some r) ∧ Aside0 (kq ≤ kj13) ∧ Aside0 (Kd.S (Kd.slice 3 (Kd.int .i64)) 22 w' w.heap.size (fun k_ => some k_ ≠ ((.slice Ao19 t226.length co19) : Value).ownBlock) v7 x7_3) ∧ Aside0 (Kd.S (Kd.slice 3 (Kd.int .i64)) 22 w' w.heap.size (fun k_ => some k_ ≠ (v7 : Value).ownBlock) (.slice Ao19 t226.length co19) t226) ∧ Aside0 (Below w.heap.size w w'))
              case atStart => exact ⟨(x7_1), (0), (by first | rfl | (simp; done) | (simp [*]; done)), H', ⟨Nat.le_refl _⟩, ⟨by (with_reducible repeat (first | apply Kd.S_alloc | apply Kd.S_drewN | apply Kd.S_drew)); exact Kd.S_mono HO_7.out (fun _ hk => hk.2)⟩, ⟨by (with_reducible repeat (first | apply Kd.S_alloc | apply Kd.S_drewN | apply Kd.S_drew)); exact Kd.S_mono HO228.out (fun _ hk => hk.2)⟩, ⟨by repeat (first | (with_reducible first | exact HB.out | apply below_alloc | apply pw_below_drewN | apply below_drew1) | exact HB.out)⟩⟩
              case round =>
                clear H'
                try clear c1
                try clear p2
                try clear c4
                try clear c4b0
                try clear c4b1
                try clear c5
                try clear c5b0
                try clear c5b1
                try clear p6
                try clear c15
                try clear c15b0
                try clear c16
                try clear p2
                try clear p6
                obtain ⟨x7_3, x40_3, rfl, HA, HK3, HO_7, HO_38, HB⟩ := hrel
                cases gk with
                | zero => exact absurd HA.out (by simp [impl_rankings.l1])
                | succ k3 =>
                  have H := HA.out
                  clear HA
                  simp only [impl_rankings.l1] at H
                  by_cases c20 : x40_3 < (t226.length : Int)
                  · rw [if_pos c20] at H
                    have c20b0 : decide (x40_3 < (t226.length : Int)) = true := decide_eq_true c20
                    clear c20
                    by_cases c21 : 0 ≤ x40_3
                    · rw [if_pos c21] at H
                      have c21b0 : decide (0 ≤ x40_3) = true := decide_eq_true c21
                      clear c21
                      by_cases c22 : x40_3 < (t226.length : Int)
                      · rw [if_pos c22] at H
                        have c22b0 : decide (x40_3 < (t226.length : Int)) = true := decide_eq_true c22
                        clear c22
                        obtain ⟨y230, hy230⟩ : ∃ y_ : List Int, y_ = (([x8_1] : List Int)) := ⟨_, rfl⟩
                        replace H : (if y230.length + (rd_L1 t226 x40_3).length < 17592186044416 then (if x7_3.length < 5864062014805 then (impl_rankings.l1 k3 a0 a1 (x7_3 ++ [(y230 ++ (rd_L1 t226 x40_3))]) x8_1 t226 (t226.length : Int) (wrap64 (x40_3 + 1))) else (none)) else (none)) = some r := by first | (rw [hy230]; with_reducible exact H) | (have H2_ := (Option.bind_some _ _).symm.trans H; rw [hy230]; with_reducible exact H2_) | (have H2_ := (Option.bind_some _ _).symm.trans H; with_reducible exact H2_) | with_reducible exact H | (rw [hy230]; exact H) | exact H
                        have Ny230 := Aside0.mk hy230
                        clear hy230
                        by_cases c23 : y230.length + (rd_L1 t226 x40_3).length < 17592186044416
                        · rw [if_pos c23] at H
                          have LMc23 := Aside0.mk c23
                          clear c23
                          obtain ⟨y233, hy233⟩ : ∃ y_ : List Int, y_ = (y230 ++ (rd_L1 t226 x40_3)) := ⟨_, rfl⟩
                          replace H : (if x7_3.length < 5864062014805 then (impl_rankings.l1 k3 a0 a1 (x7_3 ++ [y233]) x8_1 t226 (t226.length : Int) (wrap64 (x40_3 + 1))) else (none)) = some r := by first | (rw [hy233]; with_reducible exact H) | (have H2_ := (Option.bind_some _ _).symm.trans H; rw [hy233]; with_reducible exact H2_) | (have H2_ := (Option.bind_some _ _).symm.trans H; with_reducible exact H2_) | with_reducible exact H | (rw [hy233]; exact H) | exact H
                          have Ny233 := Aside0.mk hy233
                          clear hy233
                          by_cases c24 : x7_3.length < 5864062014805
                          · rw [if_pos c24] at H
                            have LMc24 := Aside0.mk c24
                            clear c24
                            obtain ⟨y236, hy236⟩ : ∃ y_ : List (List Int), y_ = (x7_3 ++ [y233]) := ⟨_, rfl⟩
                            replace H : (impl_rankings.l1 k3 a0 a1 y236 x8_1 t226 (t226.length : Int) (wrap64 (x40_3 + 1))) = some r := by first | (rw [hy236]; with_reducible exact H) | (have H2_ := (Option.bind_some _ _).symm.trans H; rw [hy236]; with_reducible exact H2_) | (have H2_ := (Option.bind_some _ _).symm.trans H; with_reducible exact H2_) | with_reducible exact H | (rw [hy236]; exact H) | exact H
                            have Ny236 := Aside0.mk hy236
                            clear hy236
                            have H' := Aside0.mk H
                            clear H
                            have p229 : 0 ≤ (x40_3 : Int) := of_decide_eq_true (by first | (with_reducible assumption) | assumption)
                            have q229 : x40_3 < (t226.length : Int) := of_decide_eq_true (by first | (with_reducible assumption) | assumption)
                            obtain ⟨ad229, A229_0, c229_0, e229, hx229_0, hl229_0, hi229_0⟩ := at_L1 (Kd.S_reads' HO_38.out).2.2 x40_3 p229 q229
                            cases e229
                            obtain ⟨ce229, hce229, hMe229, hcc229⟩ := Kd.S_get HO_38.out [] x40_3 p229 (by first | exact q229 | exact of_decide_eq_true (by first | (with_reducible assumption) | assumption) | (have e_ := (Kd.S_reads' HO_38.out).1; omega))
                            obtain ⟨ve229_0, rfl, ge229_0⟩ := hMe229
                            have hv229_0 := hcc229 0 _ rfl
                            rw [Nat.add_zero, show ((Kd.slice 3 (Kd.int .i64))).sz = 1 from rfl, Nat.mul_one] at hv229_0
                            replace hv229_0 := Option.some.inj (hv229_0.symm.trans hx229_0)
                            rw [hv229_0] at ge229_0
                            have HL229_0 := Aside0.mk (show Kd.R (Kd.int .i64) 3 _ _ _ _ (rd_L1 t226 x40_3) from ge229_0)
                            clear hv229_0 ge229_0
                            clear hcc229 hce229
                            have HR229_0 := Aside0.mk hi229_0
                            have HC229_0 := Aside0.mk hl229_0
                            clear hi229_0 hl229_0
                            replace p229 := eq_true p229
                            replace q229 := eq_true q229
                            go_wp2_with (first | ((with_reducible refine gate_dst (N := 46) rfl ?_); refine Kd.R_lit (Kd.int .i64) _ 3 ?hg (N := 46) ?hd (xs := ([x8_1] : List Int)) (inner := [.int .i64 x8_1]) (ok := fun _ => True) (okp := fun _ => True) ?hr ?hp (fun _ hk => hk) trivial (Below.refl _ _) (Nat.le_refl _) (by simp) ?_; (case hd => rfl); (case hg => rfl); (case hr => first | (go_simp; done) | (go_simp; rfl)); (case hp => exact (Reps.one (show Kd.M (Kd.int .i64) _ _ _ x8_1 [.int .i64 x8_1] from rfl) (Reps.none _ _))); intro v231 w25 ho26 hb hg_ hnew_; clear hg_ hnew_; (first | rw [← Ny230.out] at ho26 | (simp only [Int.reduceToNat] at ho26; rw [← Ny230.out] at ho26)); have n0_ := Aside0.mk (Kd.S_elder' (by (with_reducible repeat (first | apply Kd.S_alloc | apply Kd.S_drewN | apply Kd.S_drew)); exact HO_7.out) (Kd.R_base ho26) hb); have n1_ := Aside0.mk (Kd.S_elder' (by (with_reducible repeat (first | apply Kd.S_alloc | apply Kd.S_drewN | apply Kd.S_drew)); exact HO_38.out) (Kd.R_base ho26) hb); have n2_ := Aside0.mk (Kd.R_elder' (by (with_reducible repeat (first | apply Kd.R_alloc | apply Kd.R_drewN | apply Kd.R_drew)); exact HL229_0.out) (Kd.R_base ho26) hb); have n3_ := Aside0.mk (Kd.R_lower (Kd.R_new' ho26 (Kd.R_lt (by (with_reducible repeat (first | apply Kd.R_alloc | apply Kd.R_drewN | apply Kd.R_drew)); exact HL229_0.out))) (below_size (by repeat (first | (with_reducible first | exact HB.out | apply below_alloc | apply pw_below_drewN | apply below_drew1) | exact HB.out)))); have n4_ := Aside0.mk (Kd.C_below (by repeat (first | (with_reducible exact HR229_0.out) | (with_reducible refine Kd.C_alloc ?_ _) | (with_reducible refine Kd.C_drewN ?_ _) | (with_reducible refine Kd.C_drew ?_) | exact HR229_0.out)) hb); have n5_ := Aside0.mk (below_step (by repeat (first | (with_reducible first | exact HB.out | apply below_alloc | apply pw_below_drewN | apply below_drew1) | exact HB.out)) hb); clear HO_7; clear HO_38; clear HL229_0; clear HR229_0; clear HB; have HO_7 := n0_; have HO_38 := n1_; have HL229_0 := n2_; have HO232 := n3_; have HR229_0 := n4_; have HB := n5_; clear n0_ n1_ n2_ n3_ n4_ n5_; clear hb ho26) | ((with_reducible refine gate_builtin (b := .append) (xs := #[.tmp 46, .tmp 47]) rfl ?_); at_builtin; refine Kd.R_append_rows (Kd.int .i64) (w0 := w) w.heap.size rfl (.tmp 46) (.tmp 47) 22 3 (.int .i64 0) 8 rfl Try.underlying22 info3 rfl (by decide) (by omega) v231 y230 (rd_L1 t226 x40_3) _ _ _ (fun k_ => some k_ ≠ (.slice A229_0 (rd_L1 t226 x40_3).length c229_0 : Value).ownBlock) (fun _ => False) rfl rfl ?aO ?aR (fun _ _ h => h) (fun _ h => h.elim) ?aF ?aB ?aS ?aL ?_; (case aR => repeat (first | exact (by repeat (first | (with_reducible exact HR229_0.out) | (with_reducible refine Kd.C_alloc ?_ _) | (with_reducible refine Kd.C_drewN ?_ _) | (with_reducible refine Kd.C_drew ?_) | exact HR229_0.out)) | (with_reducible refine Kd.C_alloc ?_ _) | (with_reducible refine Kd.C_drewN ?_ _) | (with_reducible refine Kd.C_drew ?_))); (case aB => exact (by repeat (first | (with_reducible first | exact HB.out | apply below_alloc | apply pw_below_drewN | apply below_drew1) | exact HB.out))); (case aF => exact (fun k_ hk => Kd.fresh' (Kd.R_lt (by (with_reducible repeat (first | apply Kd.R_alloc | apply Kd.R_drewN | apply Kd.R_drew)); exact HL229_0.out)) k_ hk)); (case aO => exact (by (with_reducible repeat (first | apply Kd.R_alloc | apply Kd.R_drewN | apply Kd.R_drew)); exact Kd.R_mono HO232.out (fun _ hk => hk.2))); (case aS => exact (below_size (by repeat (first | (with_reducible first | exact HB.out | apply below_alloc | apply pw_below_drewN | apply below_drew1) | exact HB.out)))); (case aL => have := LMc23.out; omega); intro v234 w27 ho hb hg hat; rw [← Ny233.out] at ho; have n0_ := Aside0.mk (Kd.S_after (ok := (fun k_ => some k_ ≠ (.slice (some ad229) t226.length co19 : Value).ownBlock)) (by (with_reducible repeat (first | apply Kd.S_alloc | apply Kd.S_drewN | apply Kd.S_drew)); exact HO_7.out) hg hat); have n1_ := Aside0.mk (Kd.S_after (ok := (fun k_ => some k_ ≠ (u7 : Value).ownBlock)) (by (with_reducible repeat (first | apply Kd.S_alloc | apply Kd.S_drewN | apply Kd.S_drew)); exact HO_38.out) hg hat); have n2_ := Aside0.mk (Kd.R_after (ok := (fun k_ => some k_ ≠ (u7 : Value).ownBlock ∧ some k_ ≠ (.slice (some ad229) t226.length co19 : Value).ownBlock)) (by (with_reducible repeat (first | apply Kd.R_alloc | apply Kd.R_drewN | apply Kd.R_drew)); exact HL229_0.out) hg hat); have n3_ := Aside0.mk (hb); have n4_ := Aside0.mk (ho); clear HO_7; clear HO_38; clear HL229_0; clear HB; clear HO232; have HO_7 := n0_; have HO_38 := n1_; have HL229_0 := n2_; have HB := n3_; have HO235 := n4_; clear n0_ n1_ n2_ n3_ n4_; clear ho hb hg hat; obtain ⟨Ao29, co29, eo29⟩ := Kd.R_slice HO235.out; subst eo29) | ((with_reducible refine gate_builtin (b := .append) (xs := #[.tmp 44, .tmp 49]) rfl ?_); at_builtin; refine Kd.S_append (Kd.slice 3 (Kd.int .i64)) (w0 := w) w.heap.size rfl (.tmp 44) (.tmp 49) 23 22 (.slice none 0 0) 24 rfl Try.underlying23 info22 rfl (by decide) (by omega) u7 x7_3 y233 [.slice Ao29 y233.length co29] (fun k_ => some k_ ≠ (.slice (some ad229) t226.length co19 : Value).ownBlock) (fun k_ => some k_ = (.slice Ao29 y233.length co29 : Value).ownBlock) rfl rfl ?aP (fun k_ hk_ => ((Kd.R_mono (ok' := fun k_ => ((fun k_ => some k_ ≠ (.slice (some ad229) t226.length co19 : Value).ownBlock)) k_ ∧ some k_ ≠ (u7 : Value).ownBlock) (Kd.R_apart' (Kd.R_apart' (HO235.out) (Kd.S_typed HO_38.out) (by decide)) (Kd.S_typed HO_7.out) (by decide)) (fun k_ hk => ⟨hk.1.2, hk.2⟩))).1 k_ hk_.symm) ?aF ?aO ?aB ?aS ?aL ?_; (case aP => exact Kd.M_row (Kd.R_mono (Kd.R_tight rfl (Kd.R_mono (ok' := fun k_ => ((fun k_ => some k_ ≠ (.slice (some ad229) t226.length co19 : Value).ownBlock)) k_ ∧ some k_ ≠ (u7 : Value).ownBlock) (Kd.R_apart' (Kd.R_apart' (HO235.out) (Kd.S_typed HO_38.out) (by decide)) (Kd.S_typed HO_7.out) (by decide)) (fun k_ hk => ⟨hk.1.2, hk.2⟩))) (fun _ h_ => h_))); (case aB => exact (by repeat (first | (with_reducible first | exact HB.out | apply below_alloc | apply pw_below_drewN | apply below_drew1) | exact HB.out))); (case aF => exact (fun k_ hk => Kd.fresh' (Kd.S_lt (by (with_reducible repeat (first | apply Kd.S_alloc | apply Kd.S_drewN | apply Kd.S_drew)); exact HO_38.out)) k_ hk)); (case aO => exact (by (with_reducible repeat (first | apply Kd.S_alloc | apply Kd.S_drewN | apply Kd.S_drew)); exact Kd.S_mono HO_7.out (fun k_ hk => ⟨hk.1, fun e_ => hk.2 e_⟩))); (case aS => exact (below_size (by repeat (first | (with_reducible first | exact HB.out | apply below_alloc | apply pw_below_drewN | apply below_drew1) | exact HB.out)))); (case aL => have := LMc24.out; omega); intro v237 w28 ho hb hg hat; rw [← Ny236.out] at ho; have n0_ := Aside0.mk (Kd.S_after (ok := (fun k_ => some k_ ≠ (.slice Ao29 y233.length co29 : Value).ownBlock)) (by (with_reducible repeat (first | apply Kd.S_alloc | apply Kd.S_drewN | apply Kd.S_drew)); exact Kd.S_mono HO_38.out (fun _ hk => ⟨hk.2, hk.1⟩)) hg hat); have n1_ := Aside0.mk (Kd.R_after (ok := (fun k_ => some k_ ≠ (.slice (some ad229) t226.length co19 : Value).ownBlock ∧ some k_ ≠ (.slice Ao29 y233.length co29 : Value).ownBlock)) (by (with_reducible repeat (first | apply Kd.R_alloc | apply Kd.R_drewN | apply Kd.R_drew)); exact Kd.R_mono HL229_0.out (fun _ hk => ⟨⟨hk.1.2, hk.2⟩, hk.1.1⟩)) hg hat); have n2_ := Aside0.mk (hb); have n3_ := Aside0.mk (ho); clear HO_38; clear HL229_0; clear HB; clear HO_7; clear HO235; have HO_38 := n0_; have HL229_0 := n1_; have HB := n2_; have HO238 := n3_; clear n0_ n1_ n2_ n3_; clear ho hb hg hat))
                            go_roundg k3
                            case measure => have := HK1.out; have := HJ13.out; have := HK3.out; omega
                            case rel => exact ⟨(y236), (wrap64 (x40_3 + 1)), (by first | rfl | (simp; done) | (simp [*]; done)), H', ⟨by have := HK1.out; have := HJ13.out; have := HK3.out; omega⟩, ⟨by (with_reducible repeat (first | apply Kd.S_alloc | apply Kd.S_drewN | apply Kd.S_drew)); exact HO238.out⟩, ⟨by (with_reducible repeat (first | apply Kd.S_alloc | apply Kd.S_drewN | apply Kd.S_drew)); exact Kd.S_mono HO_38.out (fun _ hk => hk.2)⟩, ⟨by repeat (first | (with_reducible first | exact HB.out | apply below_alloc | apply pw_below_drewN | apply below_drew1) | exact HB.out)⟩⟩
                          · rw [if_neg c24] at H
                            exact absurd H (by simp)
                        · rw [if_neg c23] at H
                          exact absurd H (by simp)
                      · rw [if_neg c22] at H
                        exact absurd H (by simp)
                    · rw [if_neg c21] at H
                      exact absurd H (by simp)
                  · rw [if_neg c20] at H
                    have c20b0 : decide (x40_3 < (t226.length : Int)) = false := decide_eq_false c20
                    clear c20
                    have H' := Aside0.mk H
                    clear H
                    go_wp2
                    go_roundg k3
                    case measure => have := HK1.out; have := HJ13.out; have := HK3.out; omega
                    case rel => exact ⟨(x7_3), (wrap64 (x8_1 - 1)), (by first | rfl | (simp; done) | (simp [*]; done)), H', ⟨by have := HK1.out; have := HJ13.out; have := HK3.out; omega⟩, ⟨by (with_reducible repeat (first | apply Kd.S_alloc | apply Kd.S_drewN | apply Kd.S_drew)); exact Kd.S_mono HO_7.out (fun _ hk => trivial)⟩, ⟨by repeat (first | (with_reducible first | exact HB.out | apply below_alloc | apply pw_below_drewN | apply below_drew1) | exact HB.out)⟩⟩
            · replace c16 := Bool.eq_false_iff.mpr c16
              subst c16
              have H1 : (some x7_1) = some r := by rw [if_neg (show ¬ (false = true) by decide)] at H; exact H
              clear H
              have H := H1
              clear H1
              obtain rfl := Option.some.inj H
              go_wp2
              go_ret
              exact ⟨_, by first | rfl | (simp [errW_none, errW_some] <;> rfl) | (simp only [← hji11]; first | rfl | (simp [errW_none, errW_some] <;> rfl)) | (simp [*, errW_none, errW_some] <;> rfl), by (with_reducible repeat (first | apply Kd.S_alloc | apply Kd.S_drewN | apply Kd.S_drew)); exact HO_7.out, by repeat (first | (with_reducible first | exact HB.out | apply below_alloc | apply pw_below_drewN | apply below_drew1) | exact HB.out)⟩

end Go.Proofs.Ytpejdcomdnpclaa.A

/- A world in which one elder block alone may have changed. -/
namespace Go.Proofs.Ytpejdcomdnpclaa.A
open Go.RowKit Go.Proofs.YtpejdcomdnpclaaW.PrintWords Go.Proofs.YtpejdcomdnpclaaW.PrintLast Go.Proofs.YtpejdcomdnpclaaW.PrintMore
attribute [local go_sem] max2_int min2_int max_two min_two max_three min_three max_four min_four
set_option linter.unusedVariables false
set_option linter.unusedSimpArgs false

def GB (w W : World) (g : Nat) : Prop := w.grownBy W (some g)
theorem gb_refl (w : World) (g : Nat) : GB w w g := World.grownBy.refl w _
theorem gb_trans {w W W' : World} {g : Nat} (h : GB w W g) (k : GB W W' g) : GB w W' g := ⟨k.os.trans h.os, k.tape.trans h.tape, k.output.trans h.output, Nat.le_trans h.size k.size, fun i hi hne => (k.block i (Nat.lt_of_lt_of_le hi h.size) hne).trans (h.block i hi hne)⟩
theorem gb_below {W W' : World} {g : Nat} (h : Below W.heap.size W W') : GB W W' g := ⟨h.os, h.tape, h.output, h.size, fun i hi _ => h.block i hi⟩
theorem below_gb {w W W' : World} {g : Nat} (h : Below w.heap.size w W) (k : GB W W' g) (hg : w.heap.size ≤ g) : Below w.heap.size w W' := ⟨k.os.trans h.os, k.tape.trans h.tape, k.output.trans h.output, Nat.le_trans h.size k.size, fun i hi => (k.block i (Nat.lt_of_lt_of_le hi h.size) (by intro e; injection e with e; omega)).trans (h.block i hi)⟩
theorem gb_set0 (W : World) (g i : Nat) (u : Value) : GB W (W.setCell ⟨g, i, none⟩ u) g := ⟨rfl, rfl, rfl, by simp, fun k hk hne => Below.heap_setCell W ⟨g, i, none⟩ u k (by intro e; exact hne (congrArg some e))⟩
end Go.Proofs.Ytpejdcomdnpclaa.A

/- Rows of rows from which some have been taken out: what is left lies apart as before. -/
namespace Go.Proofs.Ytpejdcomdnpclaa.A
open Go.RowKit Go.Proofs.YtpejdcomdnpclaaW.PrintWords Go.Proofs.YtpejdcomdnpclaaW.PrintLast Go.Proofs.YtpejdcomdnpclaaW.PrintMore
attribute [local go_sem] max2_int min2_int max_two min_two max_three min_three max_four min_four
set_option linter.unusedVariables false
set_option linter.unusedSimpArgs false

open Go.Lib
def keptL {α : Type} [Inhabited α] (kp : Nat → Bool) (xs : List α) : List α := ((List.range xs.length).filter kp).map fun j => xs[j]!
theorem keptL_length {α : Type} [Inhabited α] (kp : Nat → Bool) (xs : List α) (cur : Array Value) : (keptL kp xs).length = (keptUpTo kp cur xs.length).length := by simp [keptL, keptUpTo]
theorem idx_at {l : List Nat} (h : l.Nodup) {q : Nat} (hq : q < l.length) : l.idxOf l[q] = q := by
  induction l generalizing q with
  | nil => simp at hq
  | cons a l ih =>
    cases q with
    | zero => simp
    | succ q =>
      have hn := List.nodup_cons.1 h
      have hq' : q < l.length := by simpa using hq
      have hne : ¬ a = l[q] := fun e => hn.1 (by rw [e]; exact List.getElem_mem hq')
      have hb : (a == l[q]) = false := beq_eq_false_iff_ne.2 hne
      rw [List.getElem_cons_succ, List.idxOf_cons, hb, cond_false, ih hn.2 hq']
theorem S_kept_rows {α : Type} [Inhabited α] {d : Kd α} (hd1 : d.sz = 1) {e : Nat} {w w' : World} {base : Nat} {ok : Nat → Prop} {blk cap : Nat} {xs : List α} {kp : Nat → Bool} {cur cur' : Array Value}
    (hS : Kd.S d e w base ok (.slice (some ⟨blk, 0, none⟩) xs.length cap) xs) (hheap : w.heap[blk]? = some (.cells cur e (0, 0))) (hG : GB w w' blk) (hheap' : w'.heap[blk]? = some (.cells cur' e (0, 0))) (hsz : cur'.size = cur.size)
    (hlow : ∀ j, j < (keptUpTo kp cur xs.length).length → (keptUpTo kp cur xs.length)[j]? = some cur'[j]!) :
    Kd.S d e w' base ok (.slice (some ⟨blk, 0, none⟩) (keptL kp xs).length cap) (keptL kp xs) := by
  obtain ⟨f, h0, inner, ho, hr⟩ := hS
  have hm : (keptL kp xs).length = (keptUpTo kp cur xs.length).length := keptL_length kp xs cur
  have hidx : ((List.range xs.length).filter kp).Nodup := List.Pairwise.filter _ List.nodup_range
  have hmle : (keptL kp xs).length ≤ xs.length := by
    unfold keptL
    rw [List.length_map]
    exact Nat.le_trans (List.length_filter_le _ _) (by simp)
  rw [List.length_zipIdx] at ho
  obtain ⟨hil, hown⟩ := ho
  have hsz1 : (Kd.tag f d).sz = 1 := hd1
  rw [hsz1, Nat.mul_one] at hil
  rcases hown with ⟨he, _⟩ | ⟨g, cap2, cur2, he, hb, hh, hn, hc, hcs, htk⟩
  · cases he
  injection he with e1 e2 e3
  injection e1 with e1
  injection e1 with e1 _ _
  subst e1
  subst e3
  rw [hheap] at hh
  injection hh with hh
  injection hh with hh1 _ _
  subst hh1
  rw [hsz1, Nat.mul_one] at hcs htk
  refine ⟨fun b => ((List.range xs.length).filter kp).idxOf (f b), h0, keptUpTo kp cur xs.length, ⟨?_, .inr ⟨blk, cap, cur', by rw [List.length_zipIdx], hb, hheap', ?_, hc, ?_, ?_⟩⟩, ?_, ?_⟩
  · rw [List.length_zipIdx, hm]
    show _ = _ * d.sz
    rw [hd1, Nat.mul_one]
  · rw [List.length_zipIdx]
    omega
  · show _ = _ * d.sz
    rw [hd1, Nat.mul_one, hsz, hcs]
  · rw [List.length_zipIdx]
    show List.take ((keptL kp xs).length * d.sz) _ = _
    rw [hd1, Nat.mul_one, hm]
    apply List.ext_getElem?
    intro j
    by_cases hj : j < (keptUpTo kp cur xs.length).length
    · rw [List.getElem?_take, if_pos hj, hlow j hj, getElem!_pos cur' j (by omega), Array.getElem?_toList, Array.getElem?_eq_getElem (by omega)]
    · rw [List.getElem?_take, if_neg hj, List.getElem?_eq_none (by omega)]
  · rw [List.length_zipIdx, hm]
    show _ = _ * d.sz
    rw [hd1, Nat.mul_one]
  · intro q p hq
    rw [List.getElem?_zipIdx, Nat.zero_add] at hq
    obtain ⟨x, hx, rfl⟩ := Option.map_eq_some_iff.1 hq
    obtain ⟨hql, hxe⟩ := List.getElem?_eq_some_iff.1 hx
    have hqi : q < ((List.range xs.length).filter kp).length := by
      unfold keptL at hql
      rwa [List.length_map] at hql
    obtain ⟨j, hje⟩ : ∃ j, j = ((List.range xs.length).filter kp)[q] := ⟨_, rfl⟩
    have hjm : j ∈ (List.range xs.length).filter kp := by rw [hje]; exact List.getElem_mem hqi
    have hjn : j < xs.length := List.mem_range.1 (List.mem_filter.1 hjm).1
    have hxj : x = xs[j] := by
      rw [← hxe]
      simp only [keptL, List.getElem_map]
      rw [← hje, getElem!_pos xs j hjn]
    have hM := hr.2 j (xs[j], j) (Kd.zip_at (List.getElem?_eq_getElem hjn))
    rw [hsz1, Nat.mul_one] at hM
    have hcell : (inner.drop j).take 1 = [cur[j]!] := by
      rw [← htk, List.drop_take, List.take_take, Nat.min_eq_left (by omega)]
      have : j < cur.toList.length := by rw [Array.length_toList]; omega
      rw [List.drop_eq_getElem_cons this, List.take_succ_cons, List.take_zero, getElem!_pos cur j (by simpa using this), Array.getElem_toList]
    have hcell' : ((keptUpTo kp cur xs.length).drop q).take 1 = [cur[j]!] := by
      have hql' : q < (keptUpTo kp cur xs.length).length := by rw [← hm]; exact hql
      rw [List.drop_eq_getElem_cons hql', List.take_succ_cons, List.take_zero]
      congr 1
      simp only [keptUpTo, List.getElem_map]
      rw [← hje]
    rw [hcell] at hM
    show (Kd.tag _ d).M w' base _ (x, q) (((keptUpTo kp cur xs.length).drop (q * (Kd.tag _ d).sz)).take (Kd.tag _ d).sz)
    have hs2 : ∀ f', (Kd.tag f' d).sz = 1 := fun _ => hd1
    rw [hs2, Nat.mul_one, hcell', hxj]
    have hM2 : d.M w base (fun k => (ok k ∧ some k ≠ (Value.slice (some ⟨blk, 0, none⟩) xs.length cap).ownBlock) ∧ f k = j) xs[j] [cur[j]!] := hM
    have hM3 := Kd.M_step (w1 := w') hM2 (fun k hk hlt => hG.block k hlt hk.1.2)
    exact d.M_mono (fun k hk => ⟨hk.1, by show List.idxOf (f k) _ = q; rw [hk.2, hje, idx_at hidx hqi]⟩) hM3
end Go.Proofs.Ytpejdcomdnpclaa.A

/- slices.IndexFunc, ContainsFunc over rows with a function that makes memory; slices.DeleteFunc over rows. -/
namespace Go.Proofs.Ytpejdcomdnpclaa.A
open Go.RowKit Go.Proofs.YtpejdcomdnpclaaW.PrintWords Go.Proofs.YtpejdcomdnpclaaW.PrintLast Go.Proofs.YtpejdcomdnpclaaW.PrintMore
attribute [local go_sem] max2_int min2_int max_two min_two max_three min_three max_four min_four
set_option linter.unusedVariables false
set_option linter.unusedSimpArgs false

open Go.Shelf Go.Lib
set_option maxHeartbeats 2000000 in
theorem anyIdxB {P : Program} {ρ : Ren} (L : SlLaysH.n6 P ρ) (ad : Addr) (n c : Nat) (vs : Nat → Value) (ps : Nat → Bool) (g : Nat) (lb : Array Value) (w : World) (eg : ∀ args w, (callFunc g args).run P w = .ok (.enter g args) w) (hbig : n ≤ 9223372036854775807)
    (hcell : ∀ j, j < n → w.cell? (ad.add j) = some (vs j)) (hcall : ∀ j, j < n → ∀ W, Below w.heap.size w W → Calls P g (#[vs j] ++ lb) W fun e w' => e = .returned (.bool (ps j)) ∧ Below W.heap.size W w') :
    Calls P (ρ.f 6) #[.slice (some ad) n c, .func (.func g) #[] lb] w fun e w' => ∃ i : Int, e = .returned (.int .i64 i) ∧ ((i = -1 ∧ ∀ j, j < n → ps j = false) ∨ ∃ k : Nat, k < n ∧ i = (k : Int) ∧ ps k = true ∧ ∀ j, j < k → ps j = false) ∧ Below w.heap.size w w' := by
  have mixed := L.mixed; have t0 := L.t0; have a0 := L.a0; have z0 := L.z0; have v0 := L.v0; have t3 := L.t3; have a3 := L.a3; have z3 := L.z3; have v3 := L.v3; have t4 := L.t4; have a4 := L.a4; have z4 := L.z4; have v4 := L.v4; have t22 := L.t22; have a22 := L.a22; have z22 := L.z22; have v22 := L.v22; have a23 := L.a23; have z23 := L.z23; have t25 := L.t25; have a25 := L.a25; have z25 := L.z25; have v25 := L.v25
  have HC := Aside0.mk hcell
  have HF := Aside0.mk hcall
  have HB := Aside0.mk (Below.refl w.heap.size w)
  clear hcell hcall
  obtain ⟨_, _, FG⟩ := L.f6
  go_enter FG, SlBodyH.n6_ntmps ρ
  go_wp2
  go_loopg [5, 8] n (fun gg _ s8 wr => ∃ kk : Nat, kk ≤ n ∧ n - kk ≤ gg ∧ s8 = .int .i64 kk ∧ Aside0 (Below w.heap.size w wr) ∧ Aside0 (∀ j, j < kk → ps j = false))
  case atStart => exact ⟨0, Nat.zero_le _, by omega, rfl, ⟨by repeat (first | (with_reducible first | exact HB.out | apply below_alloc | apply pw_below_drewN | apply below_drew1) | exact HB.out)⟩, ⟨fun j hj => absurd hj (Nat.not_lt_zero _)⟩⟩
  case round =>
    clear HB
    obtain ⟨kk, hkk, hg, rfl, HB, HA⟩ := hrel
    by_cases hlt : kk < n
    · have hltz : (kk : Int) < (n : Int) := by omega
      have hc0 := HC.out kk hlt
      have hce := (HB.out.cell (World.block_lt_of_cell? w _ hc0)).trans hc0
      have hca := HF.out kk hlt wr HB.out
      clear hc0
      generalize vs kk = v at hce hca
      cases hq : ps kk with
      | true =>
        rw [hq] at hca
        go_wp2_with (go_at_fn g; refine hca.mono ?_; rintro e w' ⟨rfl, hb⟩; have HB2 := Aside0.mk (below_step HB.out hb); clear hb)
        go_ret
        exact ⟨_, rfl, .inr ⟨kk, hlt, rfl, hq, HA.out⟩, HB2.out⟩
      | false =>
        rw [hq] at hca
        go_wp2_with (go_at_fn g; refine hca.mono ?_; rintro e w' ⟨rfl, hb⟩; have HB2 := Aside0.mk (below_step HB.out hb); clear hb)
        go_roundg (n - (kk + 1))
        case measure => omega
        case rel =>
          refine ⟨kk + 1, by omega, by omega, by go_num, ⟨HB2.out⟩, ⟨fun j hj => ?_⟩⟩
          by_cases e : j = kk
          · subst e
            exact hq
          · exact HA.out j (by omega)
    · have hltz : ¬ (kk : Int) < (n : Int) := by omega
      have : kk = n := by omega
      subst this
      go_wp2
      go_ret
      exact ⟨_, rfl, .inl ⟨rfl, HA.out⟩, HB.out⟩
theorem addr0_add (b j : Nat) : (⟨b, 0, none⟩ : Addr).add j = ⟨b, j, none⟩ := by
  unfold Addr.add
  split
  · next h => rw [h]
  · simp
theorem heap_setCells {g : Nat} {t : TypeId} : ∀ (vs : List Value) (o : Nat) (w : World) (cs : Array Value), w.heap[g]? = some (.cells cs t (0, 0)) → ∃ cs', (w.setCells g o vs).heap[g]? = some (.cells cs' t (0, 0)) ∧ cs'.size = cs.size ∧ (∀ j, j < o → cs'[j]! = cs[j]!) ∧ GB w (w.setCells g o vs) g
  | [], o, w, cs, h => ⟨cs, h, rfl, fun _ _ => rfl, gb_refl _ _⟩
  | v :: vs, o, w, cs, h => by
    obtain ⟨cs', h1, h2, h3, h4⟩ := heap_setCells vs (o + 1) (w.setCell ⟨g, o, none⟩ v) _ (blk_set h o v)
    refine ⟨cs', h1, by rw [h2]; simp, fun j hj => ?_, gb_trans (gb_set0 w g o v) h4⟩
    rw [h3 j (by omega)]
    exact Go.Sort.getElem!_set_other cs o j v (by omega)
theorem first_is {kp : Nat → Bool} {k0 n : Nat} {i : Int} (hd : kp k0 = false) (hall : ∀ j, j < k0 → kp j = true) (hk : k0 < n) (h : (i = -1 ∧ ∀ j, j < n → (!kp j) = false) ∨ ∃ k : Nat, k < n ∧ i = (k : Int) ∧ (!kp k) = true ∧ ∀ j, j < k → (!kp j) = false) : i = (k0 : Int) := by
  rcases h with ⟨_, hn⟩ | ⟨k, hkn, rfl, hp, ha⟩
  · have := hn k0 hk
    rw [hd] at this
    cases this
  · have h1 : ¬ k < k0 := fun h => by rw [hall k h] at hp; cases hp
    have h2 : ¬ k0 < k := fun h => by have := ha k0 h; rw [hd] at this; cases this
    omega
theorem none_is {kp : Nat → Bool} {n : Nat} {i : Int} (hall : ∀ j, j < n → kp j = true) (h : (i = -1 ∧ ∀ j, j < n → (!kp j) = false) ∨ ∃ k : Nat, k < n ∧ i = (k : Int) ∧ (!kp k) = true ∧ ∀ j, j < k → (!kp j) = false) : i = -1 := by
  rcases h with ⟨e, _⟩ | ⟨k, hkn, rfl, hp, _⟩
  · exact e
  · rw [hall k hkn] at hp
    cases hp
theorem gb_heap {W W' : World} {blk : Nat} {o : Obj} (hb : Below W.heap.size W W') (h : W.heap[blk]? = some o) : W'.heap[blk]? = some o := (hb.block blk (blk_lt h)).trans h
set_option maxHeartbeats 4000000 in
set_option maxRecDepth 1000000 in
/-- Some rows are taken out of a row of rows: what is left lies in front. -/
theorem delRows {P : Program} {ρ : Ren} (L : SlLaysH.n10 P ρ) (blk n cap : Nat) (et : TypeId) (cur : Array Value) (kp : Nat → Bool) (g : Nat) (lb : Array Value) (w : World) (eg : ∀ args w, (callFunc g args).run P w = .ok (.enter g args) w) (v23 : ∀ w, (zeroValue (ρ.t 23)).run P w = .ok (.slice none 0 0) w)
    (hheap : w.heap[blk]? = some (.cells cur et (0, 0))) (hsz : cur.size = cap) (hn : n ≤ cap) (hcap : cap ≤ 9223372036854775807) (hsl : ∀ j, j < n → ∃ A k c, cur[j]! = .slice A k c)
    (hcall : ∀ j, j < n → ∀ W, GB w W blk → Calls P g (#[cur[j]!] ++ lb) W fun e w' => e = .returned (.bool (!kp j)) ∧ Below W.heap.size W w') :
    Calls P (ρ.f 10) #[.slice (some ⟨blk, 0, none⟩) n cap, .func (.func g) #[] lb] w fun e w' => e = .returned (.slice (some ⟨blk, 0, none⟩) (keptUpTo kp cur n).length cap) ∧ GB w w' blk ∧ ∃ cur', w'.heap[blk]? = some (.cells cur' et (0, 0)) ∧ cur'.size = cap ∧ ∀ j, j < (keptUpTo kp cur n).length → (keptUpTo kp cur n)[j]? = some cur'[j]! := by
  have mixed := L.mixed; have t0 := L.t0; have a0 := L.a0; have z0 := L.z0; have v0 := L.v0; have t3 := L.t3; have a3 := L.a3; have z3 := L.z3; have v3 := L.v3; have t4 := L.t4; have a4 := L.a4; have z4 := L.z4; have v4 := L.v4; have t22 := L.t22; have a22 := L.a22; have z22 := L.z22; have v22 := L.v22; have a23 := L.a23; have z23 := L.z23; have t25 := L.t25; have a25 := L.a25; have z25 := L.z25; have v25 := L.v25
  have e6 : ∀ args w, (callFunc (ρ.f 6) args).run P w = .ok (.enter (ρ.f 6) args) w := L.f6.enters rfl
  have hcl0 : ∀ (A : Option Addr) (k c : Nat), (Value.slice A k c).cells = #[Value.slice A k c] := fun _ _ _ => rfl
  have cellAt : ∀ (W : World) (dk : Array Value), W.heap[blk]? = some (.cells dk et (0, 0)) → dk.size = cap → ∀ j, j < cap → W.cell? ⟨blk, j, none⟩ = some dk[j]! := fun W dk h hs j hj => by
    rw [blk_cell h j, getElem!_pos dk j (by omega), Array.getElem?_eq_getElem (by omega)]
  have hIF := anyIdxB (P := P) (ρ := ρ) { L with } ⟨blk, 0, none⟩ n cap (fun j => cur[j]!) (fun j => !kp j) g lb w eg (by omega) (fun j hj => by
    rw [addr0_add]
    exact cellAt w cur hheap hsz j (by omega)) (fun j hj W hb => hcall j hj W (gb_below hb))
  have HIF := Aside0.mk hIF
  have HC := Aside0.mk hcall
  have HH := Aside0.mk hheap
  have HCA := Aside0.mk cellAt
  have HSL := Aside0.mk hsl
  clear hIF hcall hheap cellAt hsl
  by_cases hany : ∃ k, k < n ∧ kp k = false
  · obtain ⟨k0, hk0, hd0, hall⟩ : ∃ k0, k0 < n ∧ kp k0 = false ∧ ∀ j, j < k0 → kp j = true := by
      obtain ⟨k, hk, hd⟩ := hany
      induction k using Nat.strongRecOn with
      | _ k ih =>
        by_cases h : ∃ j, j < k ∧ kp j = false
        · obtain ⟨j, hj, hdj⟩ := h
          exact ih j hj (by omega) hdj
        · exact ⟨k, hk, hd, fun j hj => by
            cases e : kp j with
            | true => rfl
            | false => exact (h ⟨j, hj, e⟩).elim⟩
    have HALL := Aside0.mk hall
    have HD0 := Aside0.mk hd0
    have hne1 : ((k0 : Int) == -1) = false := beq_eq_false_iff_ne.2 (by omega)
    clear hall hd0 hany
    obtain ⟨_, _, FG⟩ := L.f10
    go_enter FG, SlBodyH.n10_ntmps ρ
    go_wp2_with (go_at_fn (ρ.f 6); refine HIF.out.mono ?_; rintro e w1 ⟨i1, rfl, hi1, hb1⟩; obtain rfl : i1 = (k0 : Int) := first_is HD0.out HALL.out hk0 hi1; have HB1 := Aside0.mk hb1; have HH1 := Aside0.mk (gb_heap hb1 HH.out); clear hi1 hb1)
    go_loopg [5, 6, 7] n (fun gg s5 s6 _ wr => ∃ (i j : Nat) (dk : Array Value), s5 = .int .i64 i ∧ s6 = .int .i64 j ∧ j ≤ n ∧ n - j ≤ gg ∧ i ≤ j ∧ Aside0 (GB w wr blk) ∧ Aside0 (wr.heap[blk]? = some (.cells dk et (0, 0))) ∧ Aside0 (KeptInv kp cur j i dk))
    case atStart => exact ⟨k0, k0 + 1, cur, rfl, by go_num, by omega, by omega, by omega, ⟨gb_below HB1.out⟩, ⟨HH1.out⟩, ⟨KeptInv.start HALL.out HD0.out⟩⟩
    case round =>
      obtain ⟨i, j, dk, rfl, rfl, hjd, hgg, hij0, HG, HW, I2⟩ := hrel
      have hI := I2.out
      have hij := hI.lt
      have hds := hI.size
      by_cases hlt : j < n
      · have hltz : (j : Int) < (n : Int) := by omega
        have cj := HCA.out wr dk HW.out (by omega) j (by omega)
        have ci := HCA.out wr dk HW.out (by omega) i (by omega)
        have fi := blk_frozen HW.out i
        rw [hI.high j (by omega)] at cj
        have hcall := HC.out j hlt wr HG.out
        obtain ⟨Au, ku, cu, hu⟩ := HSL.out j hlt
        rw [hu] at cj hcall
        have C := Aside0.mk hu
        generalize dk[i]! = old at ci
        clear hI hu
        cases hq : kp j with
        | true =>
          rw [hq] at hcall
          go_wp2_with (go_at_fn g; refine hcall.mono ?_; rintro e w' ⟨rfl, hb⟩; have HB2 := Aside0.mk (gb_trans HG.out (gb_below hb)); have HW2 := Aside0.mk (gb_heap hb HW.out); (have ci2 := (hb.cell (p := ⟨blk, i, none⟩) (World.block_lt_of_cell? wr _ ci)).trans ci); (have fi2 := (hb.frozen (p := ⟨blk, i, none⟩) (World.block_lt_of_cell? wr _ ci)).trans fi); (have cj2 := (hb.cell (p := ⟨blk, j, none⟩) (World.block_lt_of_cell? wr _ cj)).trans cj); clear hb)
          go_roundg (n - (j + 1))
          case measure => omega
          case rel => exact ⟨i + 1, j + 1, dk.setIfInBounds i (.slice Au ku cu), by go_num, by go_num, by omega, Nat.le_refl _, by omega, ⟨gb_trans HB2.out (gb_set0 _ blk i _)⟩, ⟨blk_set HW2.out i _⟩, ⟨by have := I2.out.keep (by omega) hq; rwa [C.out] at this⟩⟩
        | false =>
          rw [hq] at hcall
          go_wp2_with (go_at_fn g; refine hcall.mono ?_; rintro e w' ⟨rfl, hb⟩; have HB2 := Aside0.mk (gb_trans HG.out (gb_below hb)); have HW2 := Aside0.mk (gb_heap hb HW.out); clear hb)
          go_roundg (n - (j + 1))
          case measure => omega
          case rel => exact ⟨i, j + 1, dk, rfl, by go_num, by omega, Nat.le_refl _, by omega, ⟨HB2.out⟩, ⟨HW2.out⟩, ⟨I2.out.skip hq⟩⟩
      · obtain rfl : j = n := by omega
        have hltz : ¬ (j : Int) < (j : Int) := by omega
        have hcl : ∀ ty, (Builtin.clear_ #[ρ.t 22] ty #[.slice (some ⟨blk, i, none⟩) (j - i) (cap - i)]).run P wr = .ok (.tuple #[]) (wr.setCells blk i (List.replicate (j - i) (.slice none 0 0))) :=
          fun ty => Lib.run_clear_slice wr _ _ ty _ t22 v23 rfl rfl blk i _ _ (by omega) (fun t ht => by rw [HCA.out wr dk HW.out (by omega) (i + t) (by omega)]; rfl) (fun t ht => blk_frozen HW.out _)
        have HS := Aside0.mk (heap_setCells (List.replicate (j - i) (.slice none 0 0)) i wr dk HW.out)
        have HDS := Aside0.mk hds
        clear hI hds
        go_wp2
        go_ret
        have hI := I2.out
        obtain ⟨cs', h1, h2, h3, h4⟩ := HS.out
        refine ⟨by rw [hI.len]; rfl, gb_trans HG.out h4, cs', h1, by rw [h2, HDS.out, hsz], fun q hq => ?_⟩
        rw [hI.len] at hq
        rw [h3 q (by omega)]
        exact hI.low q hq
  · have hkeep : ∀ j, j < n → kp j = true := fun j hj => by
      cases e : kp j with
      | true => rfl
      | false => exact (hany ⟨j, hj, e⟩).elim
    have e3 : keptUpTo kp cur n = (List.range n).map (cur[·]!) := keptUpTo_all kp cur n hkeep
    have e4 : (keptUpTo kp cur n).length = n := by rw [e3]; simp
    have HKE := Aside0.mk hkeep
    have E3 := Aside0.mk e3
    rw [e4]
    clear hany hkeep e3 e4
    obtain ⟨_, _, FG⟩ := L.f10
    go_enter FG, SlBodyH.n10_ntmps ρ
    go_wp2_with (go_at_fn (ρ.f 6); refine HIF.out.mono ?_; rintro e w1 ⟨i1, rfl, hi1, hb1⟩; obtain rfl : i1 = -1 := none_is HKE.out hi1; have HB1 := Aside0.mk hb1; have HH1 := Aside0.mk (gb_heap hb1 HH.out); clear hi1 hb1)
    go_ret
    refine ⟨rfl, gb_below HB1.out, cur, HH1.out, hsz, fun j hj => ?_⟩
    rw [E3.out, List.getElem?_map, List.getElem?_range hj]
    rfl
end Go.Proofs.Ytpejdcomdnpclaa.A

namespace Go.Proofs.Ytpejdcomdnpclaa.A
open Go.RowKit Go.Proofs.YtpejdcomdnpclaaW.PrintWords Go.Proofs.YtpejdcomdnpclaaW.PrintLast Go.Proofs.YtpejdcomdnpclaaW.PrintMore
set_option linter.unusedVariables false
set_option linter.unusedSimpArgs false
/-! plain lemmas that all pure texts lean on -/
theorem w64 {x : Int} (h1 : -9223372036854775808 ≤ x) (h2 : x ≤ 9223372036854775807) : wrap64 x = x := by
  unfold wrap64
  omega
theorem wsucc {i : Nat} {n : Nat} (h : i < n) (hn : n ≤ 9223372036854775807) : wrap64 ((i : Int) + 1) = ((i + 1 : Nat) : Int) := by
  rw [w64 (by omega) (by omega)]
  omega
theorem rdn {xs : List Int} {i : Nat} (h : i < xs.length) : rd xs (i : Int) = xs[i] := by
  simp [rd, h]
theorem Ev.succ {α : Type} {g : Nat → Option α} {r : α} (h : Ev (fun k => g (k + 1)) r) : Ev g r := Ev.step (fun _ => rfl) h
theorem Ev.get {α : Type} {g : Nat → Option α} {r : α} (h : Ev g r) : ∃ k, g k = some r := Ev.rounds h
theorem Ev.ite {α : Type} {c : Prop} [Decidable c] {g f : Nat → Option α} {r s : α} (h : c → Ev g r) (h' : ¬ c → Ev f s) : Ev (fun k => if c then g k else f k) (if c then r else s) := by
  by_cases hc : c
  · simp only [hc, if_true]
    exact h hc
  · simp only [hc, if_false]
    exact h' hc
/-- A loop over the elements of a list that is left early. -/
theorem ev_all {xs : List Int} {g : Nat → Int → Option Bool} (p : Int → Bool) (hend : Ev (fun k => g k (xs.length : Int)) true)
    (hyes : ∀ (i : Nat) (h : i < xs.length) r, p xs[i] = true → Ev (fun k => g k ((i + 1 : Nat) : Int)) r → Ev (fun k => g k (i : Int)) r)
    (hno : ∀ (i : Nat) (h : i < xs.length), p xs[i] = false → Ev (fun k => g k (i : Int)) false) :
    ∀ (n i : Nat), i + n = xs.length → Ev (fun k => g k (i : Int)) ((xs.drop i).all p)
  | 0, i, h => by
    rw [List.drop_eq_nil_of_le (by omega), show i = xs.length by omega]
    exact hend
  | n + 1, i, h => by
    have hi : i < xs.length := by omega
    rw [List.drop_eq_getElem_cons hi, List.all_cons]
    cases hp : p xs[i]
    · exact hno i hi hp
    · rw [Bool.true_and]
      exact hyes i hi _ hp (ev_all p hend hyes hno n (i + 1) (by omega))
/-- A loop over the elements of a list that carries a state. -/
theorem ev_fold {σ ρ : Type} {xs : List Int} {g : Nat → σ → Int → Option ρ} (step : σ → Int → σ) (I : σ → Nat → Prop) (fin : σ → ρ)
    (hend : ∀ s, I s xs.length → Ev (fun k => g k s (xs.length : Int)) (fin s))
    (hstep : ∀ (i : Nat) (h : i < xs.length) s r, I s i → I (step s xs[i]) (i + 1) → Ev (fun k => g k (step s xs[i]) ((i + 1 : Nat) : Int)) r → Ev (fun k => g k s (i : Int)) r)
    (hI : ∀ (i : Nat) (h : i < xs.length) s, I s i → I (step s xs[i]) (i + 1)) :
    ∀ (n i : Nat) (s : σ), i + n = xs.length → I s i → Ev (fun k => g k s (i : Int)) (fin ((xs.drop i).foldl step s))
  | 0, i, s, h, hs => by
    have e : i = xs.length := by omega
    subst e
    rw [List.drop_eq_nil_of_le (by omega)]
    exact hend s hs
  | n + 1, i, s, h, hs => by
    have hi : i < xs.length := by omega
    rw [List.drop_eq_getElem_cons hi, List.foldl_cons]
    exact hstep i hi s _ hs (hI i hi s hs) (ev_fold step I fin hend hstep hI n (i + 1) _ (by omega) (hI i hi s hs))
end Go.Proofs.Ytpejdcomdnpclaa.A

namespace Go.Proofs.Ytpejdcomdnpclaa.A
open Go.RowKit Go.Proofs.YtpejdcomdnpclaaW.PrintWords Go.Proofs.YtpejdcomdnpclaaW.PrintLast Go.Proofs.YtpejdcomdnpclaaW.PrintMore
set_option linter.unusedVariables false
set_option linter.unusedSimpArgs false
theorem l1In_eq (a b c : Int) : spec_l1In.f a b c = some (decide (b ≤ a ∧ a ≤ c)) := by
  unfold spec_l1In.f
  by_cases h : b ≤ a <;> simp [h]
theorem within_eq (a b c : Int) : impl_within.f a b c = some (decide (b ≤ a ∧ a ≤ c)) := by
  unfold impl_within.f
  by_cases h : b ≤ a <;> simp [h]
end Go.Proofs.Ytpejdcomdnpclaa.A

namespace Go.Proofs.Ytpejdcomdnpclaa.A
open Go.RowKit Go.Proofs.YtpejdcomdnpclaaW.PrintWords Go.Proofs.YtpejdcomdnpclaaW.PrintLast Go.Proofs.YtpejdcomdnpclaaW.PrintMore
set_option linter.unusedVariables false
set_option linter.unusedSimpArgs false
def inR (lo hi : Int) (xs : List Int) : Bool := xs.all fun x => decide (lo ≤ x ∧ x ≤ hi)
theorem l1All_ev (xs : List Int) (lo hi : Int) (hx : xs.length ≤ 9223372036854775807) : Ev (fun k => spec_l1All.f k xs lo hi) (inR lo hi xs) := by
  have h := ev_all (xs := xs) (g := fun k i => spec_l1All.l0 k lo hi xs (xs.length : Int) i) (fun x => decide (lo ≤ x ∧ x ≤ hi))
    (Ev.succ (by simp only [spec_l1All.l0, if_neg (Int.lt_irrefl _)]; exact Ev.now _))
    (fun i h r hp hr => Ev.succ (by
      simp only [spec_l1All.l0, if_pos (show (i : Int) < (xs.length : Int) by omega), if_pos (show (0 : Int) ≤ (i : Int) by omega), rdn h, l1In_eq, Option.bind_some, hp, if_true, wsucc h hx]
      exact hr))
    (fun i h hp => Ev.succ (by
      simp only [spec_l1All.l0, if_pos (show (i : Int) < (xs.length : Int) by omega), if_pos (show (0 : Int) ≤ (i : Int) by omega), rdn h, l1In_eq, Option.bind_some, hp]
      exact Ev.now _)) xs.length 0 (by omega)
  exact h
theorem allWithin_ev (xs : List Int) (lo hi : Int) (hx : xs.length ≤ 9223372036854775807) : Ev (fun k => impl_allWithin.f k xs lo hi) (inR lo hi xs) := by
  have h := ev_all (xs := xs) (g := fun k i => impl_allWithin.l0 k lo hi xs (xs.length : Int) i) (fun x => decide (lo ≤ x ∧ x ≤ hi))
    (Ev.succ (by simp only [impl_allWithin.l0, if_neg (Int.lt_irrefl _)]; exact Ev.now _))
    (fun i h r hp hr => Ev.succ (by
      simp only [impl_allWithin.l0, if_pos (show (i : Int) < (xs.length : Int) by omega), if_pos (show (0 : Int) ≤ (i : Int) by omega), rdn h, within_eq, Option.bind_some, hp, if_true, wsucc h hx]
      exact hr))
    (fun i h hp => Ev.succ (by
      simp only [impl_allWithin.l0, if_pos (show (i : Int) < (xs.length : Int) by omega), if_pos (show (0 : Int) ≤ (i : Int) by omega), rdn h, within_eq, Option.bind_some, hp]
      exact Ev.now _)) xs.length 0 (by omega)
  exact h
end Go.Proofs.Ytpejdcomdnpclaa.A

/- slices.IndexFunc, slices.ContainsFunc at elements of one cell, told for any program that bears them (the shelf's worked proof, turned to rows that begin anywhere). -/
namespace Go.Proofs.Ytpejdcomdnpclaa.A
open Go.RowKit Go.Proofs.YtpejdcomdnpclaaW.PrintWords Go.Proofs.YtpejdcomdnpclaaW.PrintLast Go.Proofs.YtpejdcomdnpclaaW.PrintMore
attribute [local go_sem] max2_int min2_int max_two min_two max_three min_three max_four min_four
set_option linter.unusedVariables false
set_option linter.unusedSimpArgs false

open Go.Shelf Go.Lib
end Go.Proofs.Ytpejdcomdnpclaa.A

/-
  DERIVED: THE SHELF's CONTRACTS AT THIS DUMP, IN PLAIN WORDS (tools/lay-plain.mjs out of 'YtpejdcomdnpclaaShelfH.lean', which tools/lay-shelf.mjs wrote): THE SAME DECLARATIONS UNDER THE SAME NAMES: 'import', 'namespace', 'open', 'def', 'theorem' AND NOTHING ELSE: no command of the shelf's: FOR A HAND-IN. Each laying: the table of numbers ('.._ren') and one theorem, a field a fact of the dump's own or the kernel's comparison; each contract: ONE APPLICATION.
-/
namespace Go.Proofs
open Go.Shelf
end Go.Proofs

/- IsSquare: slices.ContainsFunc over rows, with a function that has captured the table. -/
namespace Go.Proofs.Ytpejdcomdnpclaa.A
open Go.RowKit Go.Proofs.YtpejdcomdnpclaaW.PrintWords Go.Proofs.YtpejdcomdnpclaaW.PrintLast Go.Proofs.YtpejdcomdnpclaaW.PrintMore
attribute [local go_sem] max2_int min2_int max_two min_two max_three min_three max_four min_four
set_option linter.unusedVariables false
set_option linter.unusedSimpArgs false

open Go.Shelf Go.Lib
end Go.Proofs.Ytpejdcomdnpclaa.A

/- Words on tables: two reads in line, a table that has been checked and is still the call's own. -/
namespace Go.Proofs.Ytpejdcomdnpclaa.A
open Go.RowKit Go.Proofs.YtpejdcomdnpclaaW.PrintWords Go.Proofs.YtpejdcomdnpclaaW.PrintLast Go.Proofs.YtpejdcomdnpclaaW.PrintMore
attribute [local go_sem] max2_int min2_int max_two min_two max_three min_three max_four min_four
set_option linter.unusedVariables false
set_option linter.unusedSimpArgs false

theorem tab_bx {W W' : World} {B : Nat} {v : Value} (hb : Below W.heap.size W W') (h : W.cell? ⟨B, 0, none⟩ = some v) (hB : B < W.heap.size) : W'.cell? ⟨B, 0, none⟩ = some v := (hb.cell (p := ⟨B, 0, none⟩) hB).trans h
end Go.Proofs.Ytpejdcomdnpclaa.A

/-
  DERIVED: THE SHELF's CONTRACTS AT THIS DUMP, IN PLAIN WORDS (tools/lay-plain.mjs out of 'YtpejdcomdnpclaaShelfD.lean', which tools/lay-shelf.mjs wrote): THE SAME DECLARATIONS UNDER THE SAME NAMES: 'import', 'namespace', 'open', 'def', 'theorem' AND NOTHING ELSE: no command of the shelf's: FOR A HAND-IN. Each laying: the table of numbers ('.._ren') and one theorem, a field a fact of the dump's own or the kernel's comparison; each contract: ONE APPLICATION.
-/
namespace Go.Proofs
open Go.Shelf
def Try.delL_ren : Go.Shelf.Ren := ⟨fun | 10 => 56 | 6 => 63 | n => n, fun | 22 => 23 | 23 => 22 | 25 => 31 | 3 => 3 | 4 => 4 | 0 => 0 | n => n, fun | n => n⟩
theorem Try.delL : Go.Proofs.SlLaysH.n10 Try.prog Try.delL_ren := {
  mixed := by kernel_rfl
  f6 := ⟨Try.f63.name, by decide, Try.func63.trans (congrArg some (by kernel_rfl))⟩
  f10 := ⟨Try.f56.name, by decide, Try.func56.trans (congrArg some (by kernel_rfl))⟩
  t0 := Try.underlying0
  a0 := Try.isAgg0
  z0 := Try.sizeOf0
  v0 := Try.zeroValue0
  t3 := Try.underlying3
  a3 := Try.isAgg3
  z3 := Try.sizeOf3
  v3 := Try.zeroValue3
  t4 := Try.underlying4
  a4 := Try.isAgg4
  z4 := Try.sizeOf4
  v4 := Try.zeroValue4
  t22 := Try.underlying23
  a22 := Try.isAgg23
  z22 := Try.sizeOf23
  v22 := Try.zeroValue23
  a23 := Try.isAgg22
  z23 := Try.sizeOf22
  t25 := Try.underlying31
  a25 := Try.isAgg31
  z25 := Try.sizeOf31
  v25 := Try.zeroValue31 }
end Go.Proofs

/- below: the rankings that a list majorizes: slices.DeleteFunc takes the others out in place. -/
namespace Go.Proofs.Ytpejdcomdnpclaa.A
open Go.RowKit Go.Proofs.YtpejdcomdnpclaaW.PrintWords Go.Proofs.YtpejdcomdnpclaaW.PrintLast Go.Proofs.YtpejdcomdnpclaaW.PrintMore
attribute [local go_sem] max2_int min2_int max_two min_two max_three min_three max_four min_four
set_option linter.unusedVariables false
set_option linter.unusedSimpArgs false
def majAll (k : Nat) (l0 : List Int) (xs : List (List Int)) : Bool := xs.all fun x => (impl_isMajorized.f k x l0).isSome
def majKept (k : Nat) (l0 : List Int) (xs : List (List Int)) : List (List Int) := xs.filter fun x => impl_isMajorized.f k x l0 == some true
def impl_below.f (k : Nat) (l0 : List Int) : Option (List (List Int)) := (impl_total.f k l0).bind fun s => (impl_rankings.f k (l0.length : Int) s s).bind fun rs => if 0 < rs.length ∧ majAll k l0 rs = true then some (majKept k l0 rs) else none
theorem S_cells {e i : Nat} {w : World} {base : Nat} {ok : Nat → Prop} {v : Value} {xs : List (List Int)} (hS : Kd.S (Kd.slice i (Kd.int .i64)) e w base ok v xs) (hn : 0 < xs.length) :
    ∃ (blk cap : Nat) (cur : Array Value), v = .slice (some ⟨blk, 0, none⟩) xs.length cap ∧ base ≤ blk ∧ w.heap[blk]? = some (.cells cur e (0, 0)) ∧ cur.size = cap ∧ xs.length ≤ cap ∧ cap ≤ 9223372036854775807 ∧
      ∀ j, j < xs.length → ∃ A c, cur[j]! = .slice A (xs[j]!).length c ∧ (xs[j]!).length ≤ c ∧ ∀ W, GB w W blk → Kd.C (Kd.int .i64) W A (xs[j]!).length (xs[j]!) := by
  obtain ⟨f, h0, inner, ho, hr⟩ := hS
  rw [List.length_zipIdx] at ho
  obtain ⟨hil, hown⟩ := ho
  have hsz1 : (Kd.tag f (Kd.slice i (Kd.int .i64))).sz = 1 := rfl
  rw [hsz1, Nat.mul_one] at hil
  rcases hown with ⟨_, hz⟩ | ⟨blk, cap, cur, rfl, hb, hh, hnc, hc, hcs, htk⟩
  · omega
  rw [hsz1, Nat.mul_one] at hcs htk
  refine ⟨blk, cap, cur, rfl, hb, hh, hcs, hnc, by unfold maxLen at hc; omega, fun j hj => ?_⟩
  have hM := hr.2 j (xs[j], j) (Kd.zip_at (List.getElem?_eq_getElem hj))
  rw [hsz1, Nat.mul_one] at hM
  have hcell : (inner.drop j).take 1 = [cur[j]!] := by
    rw [← htk, List.drop_take, List.take_take, Nat.min_eq_left (by omega)]
    have : j < cur.toList.length := by rw [Array.length_toList]; omega
    rw [List.drop_eq_getElem_cons this, List.take_succ_cons, List.take_zero, getElem!_pos cur j (by simpa using this), Array.getElem_toList]
  rw [hcell] at hM
  have hM2 : (Kd.slice i (Kd.int .i64)).M w base (fun k => (ok k ∧ some k ≠ (Value.slice (some ⟨blk, 0, none⟩) xs.length cap).ownBlock) ∧ f k = j) xs[j] [cur[j]!] := hM
  obtain ⟨v, hv, hR⟩ := hM2
  obtain ⟨A, c, hA, hl, _⟩ := Kd.R_reads hR
  have e : cur[j]! = v := by simpa using hv
  rw [getElem!_pos xs j hj]
  refine ⟨A, c, by rw [e, hA], hl, fun W hG => ?_⟩
  have hR2 := Kd.R_step (w1 := W) hR (fun k hk hlt => hG.block k hlt hk.1.2)
  rw [hA] at hR2
  exact (Kd.R_reads' hR2).2.2
theorem gb_cell {w W : World} {g : Nat} {p : Addr} {v : Value} (h : GB w W g) (hc : w.cell? p = some v) (hne : p.block ≠ g) : W.cell? p = some v := by
  have hlt := World.block_lt_of_cell? w _ hc
  have hb := h.block p.block hlt (by intro e; injection e with e; exact hne e)
  unfold World.cell? at *
  rw [hb]
  exact hc
theorem keptL_filter {α : Type} [Inhabited α] (p : α → Bool) (xs : List α) : keptL (fun j => p xs[j]!) xs = xs.filter p := by
  unfold keptL
  have e : ((List.range xs.length).map fun j => xs[j]!) = xs := by
    apply List.ext_getElem
    · simp
    · intro i h1 h2
      rw [List.getElem_map, List.getElem_range, getElem!_pos xs i h2]
  have := List.filter_map (p := p) (f := fun j => xs[j]!) (l := List.range xs.length)
  rw [e] at this
  rw [this]
  rfl
set_option maxHeartbeats 2000000 in
theorem below_cell (k : Nat) (l0 x : List Int) (t : Bool) (A0 A : Option Addr) (c0 c B : Nat) (W : World) (h0 : W.cell? ⟨B, 0, none⟩ = some (.slice A0 l0.length c0)) (hr0 : Kd.C (Kd.int .i64) W A0 l0.length l0) (hc0 : l0.length ≤ c0) (hr : Kd.C (Kd.int .i64) W A x.length x) (hc : x.length ≤ c) (h : impl_isMajorized.f k x l0 = some t) :
    Calls Try.prog 58 (#[.slice A x.length c] ++ #[.pointer (some ⟨B, 0, none⟩)]) W fun e w' => e = .returned (.bool (!t)) ∧ Below W.heap.size W w' := by
  have HR0 := Aside0.mk hr0
  have HC0 := Aside0.mk hc0
  have HR := Aside0.mk hr
  have HC := Aside0.mk hc
  have HK := Aside0.mk h
  clear hr0 hc0 hr hc h
  show Calls Try.prog 58 #[.slice A x.length c, .pointer (some ⟨B, 0, none⟩)] W _
  go_enter Try.func58, Try.ntmps58
  go_wp2_with (go_at_call 32; (refine (impl_isMajorized.calls k A c x A0 c0 l0 t _ ?side1 ?side2 ?side3 ?side4 HK.out).mono ?_); (case side1 => first | exact HR.out | exact Kd.C_drewN HR.out _); (case side2 => exact HC.out); (case side3 => first | exact HR0.out | exact Kd.C_drewN HR0.out _); (case side4 => exact HC0.out); rintro e w' ⟨rfl, hb⟩; have HB := Aside0.mk hb; clear hb)
  go_ret
  exact ⟨by cases t <;> rfl, HB.out⟩
set_option maxHeartbeats 4000000 in
set_option maxRecDepth 100000 in
theorem below_del (k : Nat) (l0 : List Int) (A0 : Option Addr) (c0 B base : Nat) (rs : List (List Int)) (v : Value) (w : World) (hB : w.cell? ⟨B, 0, none⟩ = some (.slice A0 l0.length c0)) (hlt : B < base) (hr0 : Kd.C (Kd.int .i64) w A0 l0.length l0) (hfoot : ∀ k, base ≤ k → ∀ W, GB w W k → Kd.C (Kd.int .i64) W A0 l0.length l0) (hc0 : l0.length ≤ c0) (hn : 0 < rs.length) (hall : majAll k l0 rs = true)
    (hS : Kd.S (Kd.slice 3 (Kd.int .i64)) 22 w base (fun _ => True) v rs) :
    Calls Try.prog 56 #[v, .func (.func 58) #[] #[.pointer (some ⟨B, 0, none⟩)]] w fun e w' => ∃ v' blk, e = .returned v' ∧ base ≤ blk ∧ Kd.S (Kd.slice 3 (Kd.int .i64)) 22 w' base (fun _ => True) v' (majKept k l0 rs) ∧ GB w w' blk := by
  have hS0 := hS
  obtain ⟨blk, cap, cur, rfl, hbb, hh, hsz, hnc, hcm, hrow⟩ := S_cells hS hn
  have eg : ∀ args w, (callFunc 58 args).run Try.prog w = .ok (.enter 58 args) w := fun args w => enters_ Try.func58 (by kernel_rfl) rfl args w
  have hkp : ∀ j, j < rs.length → impl_isMajorized.f k (rs[j]!) l0 = some (impl_isMajorized.f k (rs[j]!) l0 == some true) := fun j hj => by
    have := List.all_eq_true.1 hall (rs[j]!) (by rw [getElem!_pos rs j hj]; exact List.getElem_mem hj)
    obtain ⟨b, hb⟩ := Option.isSome_iff_exists.1 this
    rw [hb]
    cases b <;> rfl
  refine (delRows Try.delL blk rs.length cap 22 cur (fun j => impl_isMajorized.f k (rs[j]!) l0 == some true) 58 #[.pointer (some ⟨B, 0, none⟩)] w eg (fun w => Try.zeroValue22 w) hh hsz hnc hcm (fun j hj => ?_) (fun j hj W hG => ?_)).mono ?_
  · obtain ⟨A, c, h, _⟩ := hrow j hj
    exact ⟨A, _, c, h⟩
  · obtain ⟨A, c, h, hl, hC⟩ := hrow j hj
    rw [h]
    exact below_cell k l0 (rs[j]!) _ A0 A c0 c B W (gb_cell hG hB (by show B ≠ blk; omega)) (hfoot blk hbb W hG) hc0 (hC W hG) hl (hkp j hj)
  · rintro e w' ⟨rfl, hG, cur', hh', hs', hl'⟩
    have hk := S_kept_rows (d := Kd.slice 3 (Kd.int .i64)) rfl (kp := fun j => impl_isMajorized.f k (rs[j]!) l0 == some true) hS0 hh hG hh' (by rw [hs', hsz]) hl'
    rw [keptL_length _ rs cur] at hk
    rw [keptL_filter (fun x => impl_isMajorized.f k x l0 == some true) rs] at hk
    exact ⟨_, blk, rfl, hbb, hk, hG⟩
set_option maxHeartbeats 4000000 in
set_option maxRecDepth 100000 in
theorem impl_below.calls (k : Nat) (A0 : Option Addr) (c0 : Nat) (l0 : List Int) (r : List (List Int)) (w : World) (hr0 : Kd.C (Kd.int .i64) w A0 l0.length l0) (hc0 : l0.length ≤ c0) (h : impl_below.f k l0 = some r) :
    Calls Try.prog 23 #[.slice A0 l0.length c0] w fun e w' => ∃ v0_ : Value, e = .returned (v0_) ∧ Kd.S (Kd.slice 3 (Kd.int .i64)) 22 w' w.heap.size (fun _ => True) v0_ r ∧ Below w.heap.size w w' := by
  unfold impl_below.f at h
  obtain ⟨s, ht, h⟩ := Option.bind_eq_some_iff.mp h
  obtain ⟨rs, hrk, h⟩ := Option.bind_eq_some_iff.mp h
  split at h
  next hc =>
    obtain ⟨hn, hall⟩ := hc
    obtain rfl := Option.some.inj h
    have HT := Aside0.mk ht
    have HRK := Aside0.mk hrk
    have HN := Aside0.mk hn
    have HALL := Aside0.mk hall
    have HR0 := Aside0.mk hr0
    have HC0 := Aside0.mk hc0
    have HB := Aside0.mk (Below.refl w.heap.size w)
    clear hr0 hc0 ht hrk hn hall h
    go_enter Try.func23, Try.ntmps23
    go_wp2
    go_region_held3 (fun w' => w'.cell? ⟨w.heap.size, 0, none⟩ = some (.slice A0 l0.length c0)) (first | exact x0 | exact x9 | (simp [go_sem]; done))
      (first | (go_at_call 22; (refine (impl_total.calls k A0 c0 l0 s _ ?side1 ?side2 HT.out).mono ?_); (case side1 => exact Kd.C_below HR0.out (by repeat (first | (with_reducible first | exact HB.out | apply below_alloc | apply pw_below_drewN | apply below_drew1) | exact HB.out))); (case side2 => exact HC0.out); rintro e w1 ⟨rfl, ⟨m1, rfl⟩⟩) | (go_at_call 57; (refine (impl_rankings.calls k (l0.length : Int) s s rs _ HRK.out).mono ?_); rintro e w2 ⟨v2, rfl, ho, hb⟩; have HB2 := Aside0.mk (below_step (by repeat (first | (with_reducible first | exact HB.out | apply below_alloc | apply pw_below_drewN | apply below_drew1) | exact HB.out)) hb); have x0 := tab_bx hb (B := w.heap.size) (v := .slice A0 l0.length c0) (by simp [go_sem]) (by first | (simp; done) | (simp; omega)); have HO := Aside0.mk (show Kd.S (Kd.slice 3 (Kd.int .i64)) 22 w2 (w.heap.size + 1) (fun _ => True) v2 rs from Kd.S_lower ho (by first | (simp; done) | (simp; omega))); clear HB hb ho; have HB := HB2; clear HB2; obtain ⟨Au, cu, eu⟩ := Kd.S_slice HO.out; subst eu) | (go_at_call 56; (refine (below_del k l0 A0 c0 w.heap.size (w.heap.size + 1) rs _ _ x0 (by omega) ?side1 ?side2 HC0.out HN.out HALL.out HO.out).mono ?_); (case side1 => exact Kd.C_below HR0.out HB.out); (case side2 => exact fun kk hk W hG => Kd.C_below HR0.out (below_gb HB.out hG (by omega))); rintro e w3 ⟨v3, blk, rfl, hbb, ho, hG⟩; have HO2 := Aside0.mk (Kd.S_lower (base' := w.heap.size) ho (by omega)); have HB2 := Aside0.mk (below_gb HB.out hG (by omega)); have x9 := gb_cell hG x0 (by show w.heap.size ≠ blk; omega); clear HO ho hG HB x0; have HO := HO2; have HB := HB2; clear HO2 HB2))
    all_goals (go_wp2; go_ret; exact ⟨_, rfl, HO.out, HB.out⟩)
  next => cases h
end Go.Proofs.Ytpejdcomdnpclaa.A

-- made by a program of this repo (wip/pp.py) through the kit's printer
namespace Go.Proofs.Ytpejdcomdnpclaa.A
open Go.RowKit Go.Proofs.YtpejdcomdnpclaaW.PrintWords Go.Proofs.YtpejdcomdnpclaaW.PrintLast Go.Proofs.YtpejdcomdnpclaaW.PrintMore
attribute [local go_sem] max2_int min2_int max_two min_two max_three min_three max_four min_four
set_option linter.unusedVariables false
set_option linter.unusedSimpArgs false

/-! ### impl_BelowOf: function 8 -/
def impl_BelowOf.f (k : Nat) (l0 : List Int) : Option ((List (List Int)) × Bool) := (impl_IsList.f k l0).bind fun t239 => (if t239 = true then ((impl_total.f k l0).bind fun t240 => (if t240 > 30 then (some (([] : List (List Int)), false)) else ((impl_below.f k l0).bind fun t241 => (some (t241, true))))) else (some (([] : List (List Int)), false)))
set_option maxHeartbeats 8000000 in
set_option maxRecDepth 100000 in
theorem impl_BelowOf.calls (k : Nat) (A0 : Option Addr) (c0 : Nat) (l0 : List Int) (r1 : List (List Int)) (r2 : Bool) (w : World) (hr0 : Kd.C (Kd.int .i64) w A0 l0.length l0) (hc0 : l0.length ≤ c0) (h : impl_BelowOf.f k l0 = some (r1, r2)) :
    Calls Try.prog 8 #[.slice A0 l0.length c0] w fun e w' => ∃ v0_ : Value, e = .returned (.tuple #[v0_, .bool r2]) ∧ Kd.S (Kd.slice 3 (Kd.int .i64)) 22 w' w.heap.size (fun _ => True) v0_ r1 ∧ Below w.heap.size w w' := by
  have HR0 := Aside0.mk hr0
  have HC0 := Aside0.mk hc0
  clear hr0 hc0
  have HB := Aside0.mk (Below.refl w.heap.size w)
  have H : ((impl_IsList.f k l0).bind fun t239 => (if t239 = true then ((impl_total.f k l0).bind fun t240 => (if t240 > 30 then (some (([] : List (List Int)), false)) else ((impl_below.f k l0).bind fun t241 => (some (t241, true))))) else (some (([] : List (List Int)), false)))) = some (r1, r2) := h
  clear h
  replace H := Option.bind_eq_some_iff.mp H
  obtain ⟨t239, A20, H⟩ := H
  replace H : (if t239 = true then ((impl_total.f k l0).bind fun t240 => (if t240 > 30 then (some (([] : List (List Int)), false)) else ((impl_below.f k l0).bind fun t241 => (some (t241, true))))) else (some (([] : List (List Int)), false))) = some (r1, r2) := H
  have A2 := Aside0.mk A20
  clear A20
  by_cases c3 : t239 = true
  · subst c3
    have H1 : ((impl_total.f k l0).bind fun t240 => (if t240 > 30 then (some (([] : List (List Int)), false)) else ((impl_below.f k l0).bind fun t241 => (some (t241, true))))) = some (r1, r2) := by rw [if_pos rfl] at H; exact H
    clear H
    have H := H1
    clear H1
    replace H := Option.bind_eq_some_iff.mp H
    obtain ⟨t240, A40, H⟩ := H
    replace H : (if t240 > 30 then (some (([] : List (List Int)), false)) else ((impl_below.f k l0).bind fun t241 => (some (t241, true)))) = some (r1, r2) := H
    have A4 := Aside0.mk A40
    clear A40
    by_cases c5 : t240 > 30
    · rw [if_pos c5] at H
      have c5b0 : decide (30 < t240) = true := decide_eq_true c5
      clear c5
      simp only [Option.some.injEq, Prod.mk.injEq] at H
      obtain ⟨rfl, rfl⟩ := H
      go_enter Try.func8, Try.ntmps8
      go_wp2_with (first | ((with_reducible refine gate_callee (f := 21) rfl ?_); refine goesL_ (some 5) rfl rfl Try.func21 (by kernel_rfl) rfl #[.slice A0 l0.length c0] rfl (by (try simp only [List.map_toArray, List.map_cons, List.map_nil]); first | done | rfl | (simp only [List.length_drop, List.length_take]; rfl)) ?_; (with_reducible refine (impl_IsList.calls k _ _ l0 true _ ?side1 ?side2 A2.out).mono ?_); (case side1 => repeat (first | exact HR0.out | (with_reducible refine Kd.C_alloc ?_ _) | (with_reducible refine Kd.C_drewN ?_ _) | (with_reducible refine Kd.C_drew ?_))); (case side2 => exact HC0.out); rintro e w' ⟨rfl, ⟨nd, rfl⟩⟩; refine ⟨_, rfl, ?_⟩) | (go_at_call 22; (with_reducible refine (impl_total.calls k _ _ l0 t240 _ ?side1 ?side2 A4.out).mono ?_); (case side1 => repeat (first | exact HR0.out | (with_reducible refine Kd.C_alloc ?_ _) | (with_reducible refine Kd.C_drewN ?_ _) | (with_reducible refine Kd.C_drew ?_))); (case side2 => exact HC0.out); rintro e w' ⟨rfl, ⟨nd, rfl⟩⟩))
      go_ret2
      exact ⟨_, by first | rfl | (simp [errW_none, errW_some] <;> rfl) | (simp [*, errW_none, errW_some] <;> rfl), by first | exact Kd.S_nil _ _ _ _ _ | exact Kd.N_nil _ _ _ _ _ | exact Kd.V_nil _ _ _ _ _ | exact Kd.Q_nil _ _ _ _ _ | exact Kd.R_nil _ _ _ _ _, by repeat (first | (with_reducible first | exact HB.out | apply below_alloc | apply pw_below_drewN | apply below_drew1) | exact HB.out)⟩
    · rw [if_neg c5] at H
      have c5b0 : decide (30 < t240) = false := decide_eq_false c5
      clear c5
      replace H := Option.bind_eq_some_iff.mp H
      obtain ⟨t241, A60, H⟩ := H
      replace H : (some (t241, true)) = some (r1, r2) := H
      have A6 := Aside0.mk A60
      clear A60
      simp only [Option.some.injEq, Prod.mk.injEq] at H
      obtain ⟨rfl, rfl⟩ := H
      go_enter Try.func8, Try.ntmps8
      go_wp2_with (first | ((with_reducible refine gate_callee (f := 21) rfl ?_); refine goesL_ (some 5) rfl rfl Try.func21 (by kernel_rfl) rfl #[.slice A0 l0.length c0] rfl (by (try simp only [List.map_toArray, List.map_cons, List.map_nil]); first | done | rfl | (simp only [List.length_drop, List.length_take]; rfl)) ?_; (with_reducible refine (impl_IsList.calls k _ _ l0 true _ ?side1 ?side2 A2.out).mono ?_); (case side1 => repeat (first | exact HR0.out | (with_reducible refine Kd.C_alloc ?_ _) | (with_reducible refine Kd.C_drewN ?_ _) | (with_reducible refine Kd.C_drew ?_))); (case side2 => exact HC0.out); rintro e w' ⟨rfl, ⟨nd, rfl⟩⟩; refine ⟨_, rfl, ?_⟩) | (go_at_call 22; (with_reducible refine (impl_total.calls k _ _ l0 t240 _ ?side1 ?side2 A4.out).mono ?_); (case side1 => repeat (first | exact HR0.out | (with_reducible refine Kd.C_alloc ?_ _) | (with_reducible refine Kd.C_drewN ?_ _) | (with_reducible refine Kd.C_drew ?_))); (case side2 => exact HC0.out); rintro e w' ⟨rfl, ⟨nd, rfl⟩⟩) | ((with_reducible refine gate_callee (f := 23) rfl ?_); refine goesL_ (some 13) rfl rfl Try.func23 (by kernel_rfl) rfl #[.slice A0 l0.length c0] rfl (by (try simp only [List.map_toArray, List.map_cons, List.map_nil]); first | done | rfl | (simp only [List.length_drop, List.length_take]; rfl)) ?_; (with_reducible refine (impl_below.calls k _ _ l0 t241 _ ?side1 ?side2 A6.out).mono ?_); (case side1 => repeat (first | exact HR0.out | (with_reducible refine Kd.C_alloc ?_ _) | (with_reducible refine Kd.C_drewN ?_ _) | (with_reducible refine Kd.C_drew ?_))); (case side2 => exact HC0.out); rintro e w7 ⟨v242, rfl, ho0, hb⟩; refine ⟨_, rfl, ?_⟩; have n0_ := Aside0.mk (Kd.S_lower ho0 (below_size (by repeat (first | (with_reducible first | exact HB.out | apply below_alloc | apply pw_below_drewN | apply below_drew1) | exact HB.out)))); have n1_ := Aside0.mk (below_step (by repeat (first | (with_reducible first | exact HB.out | apply below_alloc | apply pw_below_drewN | apply below_drew1) | exact HB.out)) hb); clear HB; have HO243 := n0_; have HB := n1_; clear n0_ n1_; (try clear hb); (try clear hb2); (try clear hk); (try clear hi); (try clear ho0)))
      go_ret2
      exact ⟨_, by first | rfl | (simp [errW_none, errW_some] <;> rfl) | (simp [*, errW_none, errW_some] <;> rfl), by (with_reducible repeat (first | apply Kd.S_alloc | apply Kd.S_drewN | apply Kd.S_drew)); exact HO243.out, by repeat (first | (with_reducible first | exact HB.out | apply below_alloc | apply pw_below_drewN | apply below_drew1) | exact HB.out)⟩
  · replace c3 := Bool.eq_false_iff.mpr c3
    subst c3
    have H1 : (some (([] : List (List Int)), false)) = some (r1, r2) := by rw [if_neg (show ¬ (false = true) by decide)] at H; exact H
    clear H
    have H := H1
    clear H1
    simp only [Option.some.injEq, Prod.mk.injEq] at H
    obtain ⟨rfl, rfl⟩ := H
    go_enter Try.func8, Try.ntmps8
    go_wp2_with (first | ((with_reducible refine gate_callee (f := 21) rfl ?_); refine goesL_ (some 5) rfl rfl Try.func21 (by kernel_rfl) rfl #[.slice A0 l0.length c0] rfl (by (try simp only [List.map_toArray, List.map_cons, List.map_nil]); first | done | rfl | (simp only [List.length_drop, List.length_take]; rfl)) ?_; (with_reducible refine (impl_IsList.calls k _ _ l0 false _ ?side1 ?side2 A2.out).mono ?_); (case side1 => repeat (first | exact HR0.out | (with_reducible refine Kd.C_alloc ?_ _) | (with_reducible refine Kd.C_drewN ?_ _) | (with_reducible refine Kd.C_drew ?_))); (case side2 => exact HC0.out); rintro e w' ⟨rfl, ⟨nd, rfl⟩⟩; refine ⟨_, rfl, ?_⟩))
    go_ret2
    exact ⟨_, by first | rfl | (simp [errW_none, errW_some] <;> rfl) | (simp [*, errW_none, errW_some] <;> rfl), by first | exact Kd.S_nil _ _ _ _ _ | exact Kd.N_nil _ _ _ _ _ | exact Kd.V_nil _ _ _ _ _ | exact Kd.Q_nil _ _ _ _ _ | exact Kd.R_nil _ _ _ _ _, by repeat (first | (with_reducible first | exact HB.out | apply below_alloc | apply pw_below_drewN | apply below_drew1) | exact HB.out)⟩

end Go.Proofs.Ytpejdcomdnpclaa.A

-- made by a program of this repo (wip/pp.py) through the kit's printer
namespace Go.Proofs.Ytpejdcomdnpclaa.A
open Go.RowKit Go.Proofs.YtpejdcomdnpclaaW.PrintWords Go.Proofs.YtpejdcomdnpclaaW.PrintLast Go.Proofs.YtpejdcomdnpclaaW.PrintMore
attribute [local go_sem] max2_int min2_int max_two min_two max_three min_three max_four min_four
set_option linter.unusedVariables false
set_option linter.unusedSimpArgs false

/-! ### laws_eqIntSS: function 9 -/
def laws_eqIntSS.l0 : Nat → List (List Int) → List (List Int) → Int → Option (Bool)
  | 0, _, _, _ => none
  | k + 1, x0, x1, x5 => if x5 < (x0.length : Int) then (if 0 ≤ x5 then (if x5 < (x1.length : Int) then ((laws_eqIntS.f k (rd_L1 x0 x5) (rd_L1 x1 x5)).bind fun t248 => (if t248 = true then (laws_eqIntSS.l0 k x0 x1 (wrap64 (x5 + 1))) else (some false))) else (none)) else (none)) else (some true)
def laws_eqIntSS.f (k : Nat) (l0 : List (List Int)) (l1 : List (List Int)) : Option (Bool) := if (l0.length : Int) = (l1.length : Int) then (laws_eqIntSS.l0 k l0 l1 0) else (some false)
set_option maxHeartbeats 8000000 in
set_option maxRecDepth 100000 in
theorem laws_eqIntSS.calls (k : Nat) (A0 : Option Addr) (c0 : Nat) (l0 : List (List Int)) (A1 : Option Addr) (c1 : Nat) (l1 : List (List Int)) (r : Bool) (w : World) (hr0 : Kd.C (Kd.slice 3 (Kd.int .i64)) w A0 l0.length l0) (hc0 : l0.length ≤ c0) (hr1 : Kd.C (Kd.slice 3 (Kd.int .i64)) w A1 l1.length l1) (hc1 : l1.length ≤ c1) (h : laws_eqIntSS.f k l0 l1 = some r) :
    Calls Try.prog 9 #[.slice A0 l0.length c0, .slice A1 l1.length c1] w fun e w' => e = .returned (.bool r) ∧ Drawn0 w w' := by
  have HR0 := Aside0.mk hr0
  have HC0 := Aside0.mk hc0
  clear hr0 hc0
  have HR1 := Aside0.mk hr1
  have HC1 := Aside0.mk hc1
  clear hr1 hc1
  have H : (if (l0.length : Int) = (l1.length : Int) then (laws_eqIntSS.l0 k l0 l1 0) else (some false)) = some r := h
  clear h
  by_cases c3 : (l0.length : Int) = (l1.length : Int)
  · rw [if_pos c3] at H
    have c3b0 : ((l0.length : Int) == (l1.length : Int)) = true := beq_iff_eq.mpr c3
    have c3b1 : ((l0.length : Int) != (l1.length : Int)) = false := bne_eq_false_iff_eq.mpr c3
    have c3b2 : (l0.length == l1.length) = true := by first | simpa using c3 | (simp at c3 ⊢; omega)
    clear c3
    have H' := Aside0.mk H
    clear H
    go_enter Try.func9, Try.ntmps9
    go_wp2
    repeat (go_quiet (fail); try go_wp2)
    go_loopg [5] k (fun kq v5 w' => ∃ (x5_1 : Int), v5 = .int .i64 x5_1 ∧ Aside0 (laws_eqIntSS.l0 kq l0 l1 x5_1 = some r) ∧ Aside0 (kq ≤ k) ∧ Drawn0 w w')
    case atStart => exact ⟨(0), (by first | rfl | (simp; done) | (simp [*]; done)), H', ⟨Nat.le_refl _⟩, by repeat (first | exact Drawn0.refl _ | apply Drawn0.step)⟩
    case round =>
      clear H'
      try clear c1
      try clear p2
      try clear c3
      try clear c3b0
      try clear c3b1
      try clear c3b2
      obtain ⟨x5_1, rfl, HA, HK1, ⟨m1, rfl⟩⟩ := hrel
      cases gk with
      | zero => exact absurd HA.out (by simp [laws_eqIntSS.l0])
      | succ k1 =>
        have H := HA.out
        clear HA
        simp only [laws_eqIntSS.l0] at H
        by_cases c4 : x5_1 < (l0.length : Int)
        · rw [if_pos c4] at H
          have c4b0 : decide (x5_1 < (l0.length : Int)) = true := decide_eq_true c4
          clear c4
          by_cases c5 : 0 ≤ x5_1
          · rw [if_pos c5] at H
            have c5b0 : decide (0 ≤ x5_1) = true := decide_eq_true c5
            clear c5
            by_cases c6 : x5_1 < (l1.length : Int)
            · rw [if_pos c6] at H
              have c6b0 : decide (x5_1 < (l1.length : Int)) = true := decide_eq_true c6
              clear c6
              replace H := Option.bind_eq_some_iff.mp H
              obtain ⟨t248, A70, H⟩ := H
              replace H : (if t248 = true then (laws_eqIntSS.l0 k1 l0 l1 (wrap64 (x5_1 + 1))) else (some false)) = some r := H
              have A7 := Aside0.mk A70
              clear A70
              by_cases c8 : t248 = true
              · subst c8
                have H1 : (laws_eqIntSS.l0 k1 l0 l1 (wrap64 (x5_1 + 1))) = some r := by rw [if_pos rfl] at H; exact H
                clear H
                have H := H1
                clear H1
                have H' := Aside0.mk H
                clear H
                have p246 : 0 ≤ (x5_1 : Int) := of_decide_eq_true (by first | (with_reducible assumption) | assumption)
                have q246 : x5_1 < (l0.length : Int) := of_decide_eq_true (by first | (with_reducible assumption) | assumption)
                obtain ⟨ad246, A246_0, c246_0, e246, hx246_0, hl246_0, hi246_0⟩ := at_L1 HR0.out x5_1 p246 q246
                cases e246
                have HR246_0 := Aside0.mk hi246_0
                have HC246_0 := Aside0.mk hl246_0
                clear hi246_0 hl246_0
                replace p246 := eq_true p246
                replace q246 := eq_true q246
                have p247 : 0 ≤ (x5_1 : Int) := of_decide_eq_true (by first | (with_reducible assumption) | assumption)
                have q247 : x5_1 < (l1.length : Int) := of_decide_eq_true (by first | (with_reducible assumption) | assumption)
                obtain ⟨ad247, A247_0, c247_0, e247, hx247_0, hl247_0, hi247_0⟩ := at_L1 HR1.out x5_1 p247 q247
                cases e247
                have HR247_0 := Aside0.mk hi247_0
                have HC247_0 := Aside0.mk hl247_0
                clear hi247_0 hl247_0
                replace p247 := eq_true p247
                replace q247 := eq_true q247
                go_wp2_with (first | (go_at_call 10; (with_reducible refine (laws_eqIntS.calls k1 _ _ (rd_L1 l0 x5_1) _ _ (rd_L1 l1 x5_1) true _ ?side1 ?side2 ?side3 ?side4 A7.out).mono ?_); (case side1 => repeat (first | exact HR246_0.out | (with_reducible refine Kd.C_alloc ?_ _) | (with_reducible refine Kd.C_drewN ?_ _) | (with_reducible refine Kd.C_drew ?_))); (case side2 => exact HC246_0.out); (case side3 => repeat (first | exact HR247_0.out | (with_reducible refine Kd.C_alloc ?_ _) | (with_reducible refine Kd.C_drewN ?_ _) | (with_reducible refine Kd.C_drew ?_))); (case side4 => exact HC247_0.out); rintro e w' ⟨rfl, ⟨nd, rfl⟩⟩; (try first | exact ⟨rfl, _, World.drewN_drewN _ _ _⟩ | exact ⟨rfl, _, Eq.trans (World.drewN_drewN _ _ _) (congrArg (World.drewN _) (Nat.add_assoc _ _ _))⟩)))
                repeat (go_quiet (first | (go_at_call 10; (with_reducible refine (laws_eqIntS.calls k1 _ _ (rd_L1 l0 x5_1) _ _ (rd_L1 l1 x5_1) true _ ?side1 ?side2 ?side3 ?side4 A7.out).mono ?_); (case side1 => repeat (first | exact HR246_0.out | (with_reducible refine Kd.C_alloc ?_ _) | (with_reducible refine Kd.C_drewN ?_ _) | (with_reducible refine Kd.C_drew ?_))); (case side2 => exact HC246_0.out); (case side3 => repeat (first | exact HR247_0.out | (with_reducible refine Kd.C_alloc ?_ _) | (with_reducible refine Kd.C_drewN ?_ _) | (with_reducible refine Kd.C_drew ?_))); (case side4 => exact HC247_0.out); rintro e w' ⟨rfl, ⟨nd, rfl⟩⟩; (try first | exact ⟨rfl, _, World.drewN_drewN _ _ _⟩ | exact ⟨rfl, _, Eq.trans (World.drewN_drewN _ _ _) (congrArg (World.drewN _) (Nat.add_assoc _ _ _))⟩))); try go_wp2_with (first | (go_at_call 10; (with_reducible refine (laws_eqIntS.calls k1 _ _ (rd_L1 l0 x5_1) _ _ (rd_L1 l1 x5_1) true _ ?side1 ?side2 ?side3 ?side4 A7.out).mono ?_); (case side1 => repeat (first | exact HR246_0.out | (with_reducible refine Kd.C_alloc ?_ _) | (with_reducible refine Kd.C_drewN ?_ _) | (with_reducible refine Kd.C_drew ?_))); (case side2 => exact HC246_0.out); (case side3 => repeat (first | exact HR247_0.out | (with_reducible refine Kd.C_alloc ?_ _) | (with_reducible refine Kd.C_drewN ?_ _) | (with_reducible refine Kd.C_drew ?_))); (case side4 => exact HC247_0.out); rintro e w' ⟨rfl, ⟨nd, rfl⟩⟩; (try first | exact ⟨rfl, _, World.drewN_drewN _ _ _⟩ | exact ⟨rfl, _, Eq.trans (World.drewN_drewN _ _ _) (congrArg (World.drewN _) (Nat.add_assoc _ _ _))⟩))))
                go_roundg k1
                case measure => have := HK1.out; omega
                case rel => exact ⟨(wrap64 (x5_1 + 1)), (by first | rfl | (simp; done) | (simp [*]; done)), H', ⟨by have := HK1.out; omega⟩, by repeat (first | exact Drawn0.refl _ | apply Drawn0.step)⟩
              · replace c8 := Bool.eq_false_iff.mpr c8
                subst c8
                have H1 : (some false) = some r := by rw [if_neg (show ¬ (false = true) by decide)] at H; exact H
                clear H
                have H := H1
                clear H1
                obtain rfl := Option.some.inj H
                have p246 : 0 ≤ (x5_1 : Int) := of_decide_eq_true (by first | (with_reducible assumption) | assumption)
                have q246 : x5_1 < (l0.length : Int) := of_decide_eq_true (by first | (with_reducible assumption) | assumption)
                obtain ⟨ad246, A246_0, c246_0, e246, hx246_0, hl246_0, hi246_0⟩ := at_L1 HR0.out x5_1 p246 q246
                cases e246
                have HR246_0 := Aside0.mk hi246_0
                have HC246_0 := Aside0.mk hl246_0
                clear hi246_0 hl246_0
                replace p246 := eq_true p246
                replace q246 := eq_true q246
                have p247 : 0 ≤ (x5_1 : Int) := of_decide_eq_true (by first | (with_reducible assumption) | assumption)
                have q247 : x5_1 < (l1.length : Int) := of_decide_eq_true (by first | (with_reducible assumption) | assumption)
                obtain ⟨ad247, A247_0, c247_0, e247, hx247_0, hl247_0, hi247_0⟩ := at_L1 HR1.out x5_1 p247 q247
                cases e247
                have HR247_0 := Aside0.mk hi247_0
                have HC247_0 := Aside0.mk hl247_0
                clear hi247_0 hl247_0
                replace p247 := eq_true p247
                replace q247 := eq_true q247
                go_wp2_with (first | (go_at_call 10; (with_reducible refine (laws_eqIntS.calls k1 _ _ (rd_L1 l0 x5_1) _ _ (rd_L1 l1 x5_1) false _ ?side1 ?side2 ?side3 ?side4 A7.out).mono ?_); (case side1 => repeat (first | exact HR246_0.out | (with_reducible refine Kd.C_alloc ?_ _) | (with_reducible refine Kd.C_drewN ?_ _) | (with_reducible refine Kd.C_drew ?_))); (case side2 => exact HC246_0.out); (case side3 => repeat (first | exact HR247_0.out | (with_reducible refine Kd.C_alloc ?_ _) | (with_reducible refine Kd.C_drewN ?_ _) | (with_reducible refine Kd.C_drew ?_))); (case side4 => exact HC247_0.out); rintro e w' ⟨rfl, ⟨nd, rfl⟩⟩; (try first | exact ⟨rfl, _, World.drewN_drewN _ _ _⟩ | exact ⟨rfl, _, Eq.trans (World.drewN_drewN _ _ _) (congrArg (World.drewN _) (Nat.add_assoc _ _ _))⟩)))
                repeat (go_quiet (first | (go_at_call 10; (with_reducible refine (laws_eqIntS.calls k1 _ _ (rd_L1 l0 x5_1) _ _ (rd_L1 l1 x5_1) false _ ?side1 ?side2 ?side3 ?side4 A7.out).mono ?_); (case side1 => repeat (first | exact HR246_0.out | (with_reducible refine Kd.C_alloc ?_ _) | (with_reducible refine Kd.C_drewN ?_ _) | (with_reducible refine Kd.C_drew ?_))); (case side2 => exact HC246_0.out); (case side3 => repeat (first | exact HR247_0.out | (with_reducible refine Kd.C_alloc ?_ _) | (with_reducible refine Kd.C_drewN ?_ _) | (with_reducible refine Kd.C_drew ?_))); (case side4 => exact HC247_0.out); rintro e w' ⟨rfl, ⟨nd, rfl⟩⟩; (try first | exact ⟨rfl, _, World.drewN_drewN _ _ _⟩ | exact ⟨rfl, _, Eq.trans (World.drewN_drewN _ _ _) (congrArg (World.drewN _) (Nat.add_assoc _ _ _))⟩))); try go_wp2_with (first | (go_at_call 10; (with_reducible refine (laws_eqIntS.calls k1 _ _ (rd_L1 l0 x5_1) _ _ (rd_L1 l1 x5_1) false _ ?side1 ?side2 ?side3 ?side4 A7.out).mono ?_); (case side1 => repeat (first | exact HR246_0.out | (with_reducible refine Kd.C_alloc ?_ _) | (with_reducible refine Kd.C_drewN ?_ _) | (with_reducible refine Kd.C_drew ?_))); (case side2 => exact HC246_0.out); (case side3 => repeat (first | exact HR247_0.out | (with_reducible refine Kd.C_alloc ?_ _) | (with_reducible refine Kd.C_drewN ?_ _) | (with_reducible refine Kd.C_drew ?_))); (case side4 => exact HC247_0.out); rintro e w' ⟨rfl, ⟨nd, rfl⟩⟩; (try first | exact ⟨rfl, _, World.drewN_drewN _ _ _⟩ | exact ⟨rfl, _, Eq.trans (World.drewN_drewN _ _ _) (congrArg (World.drewN _) (Nat.add_assoc _ _ _))⟩))))
                go_ret
                exact ⟨by first | rfl | (simp; done) | (simp [*]; done), by repeat (first | exact Drawn0.refl _ | apply Drawn0.step)⟩
            · rw [if_neg c6] at H
              exact absurd H (by simp)
          · rw [if_neg c5] at H
            exact absurd H (by simp)
        · rw [if_neg c4] at H
          have c4b0 : decide (x5_1 < (l0.length : Int)) = false := decide_eq_false c4
          clear c4
          obtain rfl := Option.some.inj H
          go_wp2
          repeat (go_quiet (fail); try go_wp2)
          go_ret
          exact ⟨by first | rfl | (simp; done) | (simp [*]; done), by repeat (first | exact Drawn0.refl _ | apply Drawn0.step)⟩
  · rw [if_neg c3] at H
    have c3b0 : ((l0.length : Int) == (l1.length : Int)) = false := beq_eq_false_iff_ne.mpr c3
    have c3b1 : ((l0.length : Int) != (l1.length : Int)) = true := bne_iff_ne.mpr c3
    have c3b2 : (l0.length == l1.length) = false := by first | simpa using c3 | (simp at c3 ⊢; omega)
    obtain rfl := Option.some.inj H
    go_enter Try.func9, Try.ntmps9
    go_wp2
    repeat (go_quiet (fail); try go_wp2)
    go_ret
    exact ⟨by first | rfl | (simp; done) | (simp [*]; done), by repeat (first | exact Drawn0.refl _ | apply Drawn0.step)⟩

end Go.Proofs.Ytpejdcomdnpclaa.A

/- markIntSS: what it writes into rows of rows that lie apart. -/
namespace Go.Proofs.Ytpejdcomdnpclaa.A
open Go.RowKit Go.Proofs.YtpejdcomdnpclaaW.PrintWords Go.Proofs.YtpejdcomdnpclaaW.PrintLast Go.Proofs.YtpejdcomdnpclaaW.PrintMore
attribute [local go_sem] max2_int min2_int max_two min_two max_three min_three max_four min_four
set_option linter.unusedVariables false
set_option linter.unusedSimpArgs false

def mks (a : Int) (n : Nat) : List Int := (List.range n).map fun (j : Nat) => a + (j : Int)
def totSS (l : List (List Int)) : Nat := (l.map List.length).sum
def markSS : Int → List (List Int) → List (List Int)
  | _, [] => []
  | a, x :: l => mks a x.length :: markSS (a + (x.length : Int)) l
theorem totSS_append (x y : List (List Int)) : totSS (x ++ y) = totSS x + totSS y := by simp [totSS]
theorem totSS_take {l : List (List Int)} {i : Nat} (h : i < l.length) : totSS (l.take (i + 1)) = totSS (l.take i) + (l[i]).length := by
  rw [List.take_succ_eq_append_getElem h, totSS_append]
  simp [totSS]
theorem totSS_le (l : List (List Int)) (i : Nat) : totSS (l.take i) ≤ totSS l := by
  have h := totSS_append (l.take i) (l.drop i)
  rw [List.take_append_drop] at h
  omega
theorem markSS_length : ∀ (a : Int) (l : List (List Int)), (markSS a l).length = l.length
  | _, [] => rfl
  | a, x :: l => by simp [markSS, markSS_length _ l]
theorem markSS_append : ∀ (a : Int) (x y : List (List Int)), markSS a (x ++ y) = markSS a x ++ markSS (a + (totSS x : Int)) y
  | a, [], y => by simp [markSS, totSS]
  | a, z :: x, y => by
    have e : a + (z.length : Int) + (totSS x : Int) = a + (totSS (z :: x) : Int) := by simp [totSS]; omega
    rw [List.cons_append, markSS, markSS_append, markSS, e, List.cons_append]
theorem markSS_step (a : Int) (l : List (List Int)) (i : Nat) (h : i < l.length) : (markSS a (l.take i) ++ l.drop i).set i (mks (a + (totSS (l.take i) : Int)) (l[i]).length) = markSS a (l.take (i + 1)) ++ l.drop (i + 1) := by
  have hl : (markSS a (l.take i)).length = i := by rw [markSS_length, List.length_take]; omega
  rw [List.set_append_right _ _ (by omega), hl, Nat.sub_self, List.drop_eq_getElem_cons h, List.set_cons_zero, List.take_succ_eq_append_getElem h, markSS_append, List.append_assoc]
  rfl
theorem markSS_at (a : Int) (l : List (List Int)) (i : Nat) (h : i < l.length) : (markSS a (l.take i) ++ l.drop i).getD i [] = l[i] := by
  have hl : (markSS a (l.take i)).length = i := by rw [markSS_length, List.length_take]; omega
  rw [List.getD_eq_getElem?_getD, List.getElem?_append_right (by omega), hl, Nat.sub_self, List.getElem?_drop, Nat.add_zero, List.getElem?_eq_getElem h]
  rfl
set_option maxHeartbeats 4000000 in
set_option maxRecDepth 100000 in
theorem markSS_calls (hm : ∀ (xs : List Int) (a : Int), 0 ≤ a → a + (xs.length : Int) ≤ 9223372036854775807 → ∃ k, laws_markIntS.f k xs a = some (a + (xs.length : Int), mks a xs.length)) (P : Nat → Prop) (v : Value) (xs : List (List Int)) (a : Int) (w W : World) (h0 : 0 ≤ a) (hbig : a + (totSS xs : Int) ≤ 4611686018427387903) (hxl : xs.length ≤ 4611686018427387903) (hB : Below w.heap.size w W) (hS : Kd.S (Kd.slice 3 (Kd.int .i64)) 22 W w.heap.size P v xs) :
    Calls Try.prog 12 #[v, .int .i64 a] W fun e w' => e = .returned (.int .i64 (a + (totSS xs : Int))) ∧ Kd.S (Kd.slice 3 (Kd.int .i64)) 22 w' w.heap.size P v (markSS a xs) ∧ Below w.heap.size w w' ∧ Kept W w' P := by
  obtain ⟨A, c, rfl⟩ := Kd.S_slice hS
  go_enter Try.func12, Try.ntmps12
  go_wp2
  go_loopg [1, 5] xs.length (fun g v1 v5 wr => ∃ i : Nat, i ≤ xs.length ∧ xs.length - i ≤ g ∧ v1 = .int .i64 (a + (totSS (xs.take i) : Int)) ∧ v5 = .int .i64 (i : Int) ∧ Aside0 (Kd.S (Kd.slice 3 (Kd.int .i64)) 22 wr w.heap.size P (.slice A xs.length c) (markSS a (xs.take i) ++ xs.drop i)) ∧ Aside0 (Below w.heap.size w wr) ∧ Aside0 (Kept W wr P))
  case atStart => exact ⟨0, Nat.zero_le _, by omega, by simp [totSS], rfl, ⟨by (with_reducible repeat (first | apply Kd.S_alloc | apply Kd.S_drewN | apply Kd.S_drew)); simpa [markSS] using hS⟩, ⟨by repeat (first | (with_reducible first | exact hB | apply below_alloc | apply pw_below_drewN | apply below_drew1) | exact hB)⟩, ⟨by repeat (first | exact Kept.refl _ _ | apply Kept.drewN | apply Kept.drew)⟩⟩
  case round =>
    obtain ⟨i, hi, hg, rfl, rfl, HS, HB, HK⟩ := hrel
    by_cases hlt : i < xs.length
    · have c0 : decide ((i : Int) < (xs.length : Int)) = true := decide_eq_true (by omega)
      have hlen : (markSS a (xs.take i) ++ xs.drop i).length = xs.length := by rw [List.length_append, markSS_length, List.length_take, List.length_drop]; omega
      obtain ⟨g, cap, he, _⟩ := Kd.S_form HS.out (by omega)
      injection he with he1 he2 he3
      subst he1
      obtain ⟨oki, cc, hcl, ⟨vi, hcc, hR⟩, hcell, hoki, hH⟩ := Kd.S_lend HS.out [] (i : Int) (by omega) (by omega)
      subst hcc
      rw [Int.toNat_natCast, markSS_at a xs i hlt] at hR
      have hce := hcell 0 vi rfl
      rw [Int.toNat_natCast] at hce
      have hsz : (Kd.slice 3 (Kd.int .i64)).sz = 1 := rfl
      rw [hsz, Nat.mul_one, Nat.add_zero] at hce
      have hle := totSS_le xs (i + 1)
      rw [totSS_take hlt] at hle
      obtain ⟨k, hk⟩ := hm xs[i] (a + (totSS (xs.take i) : Int)) (by omega) (by omega)
      obtain ⟨Ai, ci, rfl⟩ := Kd.R_slice hR
      have HR := Aside0.mk hR
      have HH := Aside0.mk hH
      have HO := Aside0.mk hoki
      have HKK := Aside0.mk hk
      have p0 : (0 ≤ (i : Int)) = True := eq_true (by omega)
      have q0 : ((i : Int) < (xs.length : Int)) = True := eq_true (by omega)
      clear hR hH hoki hk hcell hlen hle hcl hsz hS hB he2 he3
      go_wp2_with (first | ((with_reducible refine gate_callee (f := 11) rfl ?_); refine goesL_ (some 17) rfl rfl Try.func11 (by kernel_rfl) rfl #[.slice Ai xs[i].length ci, .int .i64 (a + (totSS (xs.take i) : Int))] rfl (by (try simp only [List.map_toArray, List.map_cons, List.map_nil]); first | done | rfl) ?_; (with_reducible refine (laws_markIntS.calls k oki _ xs[i] _ _ _ w _ ?side1 ?side2 HKK.out).mono ?_); (case side1 => repeat (first | (with_reducible first | exact HB.out | apply below_alloc | apply pw_below_drewN | apply below_drew1) | exact HB.out)); (case side2 => (with_reducible repeat (first | apply Kd.R_alloc | apply Kd.R_drewN | apply Kd.R_drew)); exact HR.out); rintro e w27 ⟨rfl, hR2, hb2, hk2⟩; refine ⟨_, rfl, ?_⟩; have HM := Aside0.mk (Kd.R_mono (Kd.R_tight rfl hR2) (fun k hk => HR.out.1 k hk.symm)); have HH2 := Aside0.mk (Kd.H_step (by (with_reducible repeat (first | apply Kd.H_alloc | apply Kd.H_drewN | apply Kd.H_drew)); exact HH.out) (fun k hok hno hlt => hk2.2 k hlt hno)); have HK2 := Aside0.mk (Kept.then_ (by (with_reducible repeat (first | apply Kept.alloc | apply Kept.drewN | apply Kept.drew)); exact HK.out) hk2 (fun k hk => .inl (HO.out k hk).1)); have HB2 := Aside0.mk hb2; clear hR2 hb2 hk2))


      go_roundg (xs.length - (i + 1))
      case measure => omega
      case rel =>
        have hS2 := Kd.H_back HH2.out (x' := mks (a + (totSS (xs.take i) : Int)) xs[i].length) (okp := oki) ⟨_, rfl, HM.out⟩ (fun _ h => h)
        rw [Int.toNat_natCast, markSS_step a xs i hlt] at hS2
        exact ⟨i + 1, by omega, by omega, by rw [totSS_take hlt]; first | (congr 1; omega) | (congr 2; omega), by first | rfl | (rw [show wrap64 ((i : Int) + 1) = ((i + 1 : Nat) : Int) from by rw [wrap64]; omega]) , ⟨by (with_reducible repeat (first | apply Kd.S_alloc | apply Kd.S_drewN | apply Kd.S_drew)); exact hS2⟩, ⟨by repeat (first | (with_reducible first | exact HB2.out | apply below_alloc | apply pw_below_drewN | apply below_drew1) | exact HB2.out)⟩, ⟨by (with_reducible repeat (first | apply Kept.alloc | apply Kept.drewN | apply Kept.drew)); exact HK2.out⟩⟩
    · have hi' : i = xs.length := by omega
      have c0 : decide ((i : Int) < (xs.length : Int)) = false := decide_eq_false (by omega)
      subst hi'
      have HS' : Kd.S (Kd.slice 3 (Kd.int .i64)) 22 wr w.heap.size P (.slice A xs.length c) (markSS a xs) := by
        have := HS.out
        rw [List.take_of_length_le (Nat.le_refl _), List.drop_eq_nil_of_le (Nat.le_refl _), List.append_nil] at this
        exact this
      go_wp2
      go_ret
      exact ⟨by (try rw [List.take_of_length_le (Nat.le_refl _)]); rfl, HS', HB.out, HK.out⟩
end Go.Proofs.Ytpejdcomdnpclaa.A

namespace Go.Proofs.Ytpejdcomdnpclaa.A
open Go.RowKit Go.Proofs.YtpejdcomdnpclaaW.PrintWords Go.Proofs.YtpejdcomdnpclaaW.PrintLast Go.Proofs.YtpejdcomdnpclaaW.PrintMore
set_option linter.unusedVariables false
set_option linter.unusedSimpArgs false
theorem l1Least_eq (a b : Int) : spec_l1Least.f a b = some (min a b) := by
  unfold spec_l1Least.f
  split <;> (congr 1; omega)
end Go.Proofs.Ytpejdcomdnpclaa.A

namespace Go.Proofs.Ytpejdcomdnpclaa.A
open Go.RowKit Go.Proofs.YtpejdcomdnpclaaW.PrintWords Go.Proofs.YtpejdcomdnpclaaW.PrintLast Go.Proofs.YtpejdcomdnpclaaW.PrintMore
set_option linter.unusedVariables false
set_option linter.unusedSimpArgs false
/-- The lists that begin with t, t - 1, .. as long as these are big enough. -/
def allGo (F : Int → List (List Int)) (n s : Int) : Nat → List (List Int)
  | 0 => if 0 * n ≥ s then F 0 else []
  | t + 1 => if ((t + 1 : Nat) : Int) * n ≥ s then F ((t + 1 : Nat) : Int) ++ allGo F n s t else []
def allL : Nat → Int → Int → List (List Int)
  | 0, s, _ => if s = 0 then [[]] else []
  | n + 1, s, m => allGo (fun f => (allL n (s - f) f).map (f :: ·)) ((n + 1 : Nat) : Int) s (min s m).toNat
theorem allL_len : ∀ (n : Nat) (s m : Int) (x : List Int), x ∈ allL n s m → x.length = n
  | 0, s, m, x, h => by
    unfold allL at h
    split at h
    · simp at h
      subst h
      rfl
    · simp at h
  | n + 1, s, m, x, h => by
    have key : ∀ (t : Nat), x ∈ allGo (fun f => (allL n (s - f) f).map (f :: ·)) ((n + 1 : Nat) : Int) s t → x.length = n + 1 := by
      intro t
      induction t with
      | zero =>
        intro h
        unfold allGo at h
        split at h
        · obtain ⟨y, hy, rfl⟩ := List.mem_map.1 h
          rw [List.length_cons, allL_len n _ _ y hy]
        · simp at h
      | succ t ih =>
        intro h
        unfold allGo at h
        split at h
        · rcases List.mem_append.1 h with h | h
          · obtain ⟨y, hy, rfl⟩ := List.mem_map.1 h
            rw [List.length_cons, allL_len n _ _ y hy]
          · exact ih h
        · simp at h
    unfold allL at h
    exact key _ h
theorem allL_count : ∀ (n : Nat) (s m : Int), s ≤ 30 → 0 ≤ s → (allL n s m).length ≤ 31 ^ n
  | 0, s, m, _, _ => by
    unfold allL
    split <;> simp
  | n + 1, s, m, hs, h0 => by
    have key : ∀ (t : Nat), (t : Int) ≤ s → (allGo (fun f => (allL n (s - f) f).map (f :: ·)) ((n + 1 : Nat) : Int) s t).length ≤ (t + 1) * 31 ^ n := by
      intro t
      induction t with
      | zero =>
        intro ht
        unfold allGo
        split
        · rw [List.length_map]
          have := allL_count n (s - 0) 0 (by omega) (by omega)
          omega
        · simp
      | succ t ih =>
        intro ht
        unfold allGo
        split
        · rw [List.length_append, List.length_map, Nat.succ_mul]
          have := ih (by omega)
          have := allL_count n (s - ((t + 1 : Nat) : Int)) ((t + 1 : Nat) : Int) (by omega) (by omega)
          omega
        · simp
    unfold allL
    have h1 := key (min s m).toNat (by omega)
    have h2 : ((min s m).toNat + 1) * 31 ^ n ≤ 31 * 31 ^ n := Nat.mul_le_mul_right _ (by omega)
    rw [Nat.pow_succ]
    omega
theorem pow31 {n : Nat} (h : n ≤ 8) : 31 ^ n ≤ 31 ^ 8 := Nat.pow_le_pow_right (by decide) h
theorem allL_bd {n : Nat} (hn : n ≤ 8) {s m : Int} (hs : s ≤ 30) (h0 : 0 ≤ s) : (allL n s m).length ≤ 852891037441 := by
  have h1 := allL_count n s m hs h0
  have h2 := pow31 hn
  have h3 : 31 ^ 8 = 852891037441 := by decide
  omega
theorem rdL {xs : List (List Int)} {i : Nat} (h : i < xs.length) : rd_L1 xs (i : Int) = xs[i] := by
  unfold rd_L1
  rw [Int.toNat_natCast, List.getD_eq_getElem?_getD, List.getElem?_eq_getElem h]
  rfl
theorem specAll_l1 (n : Nat) (s f : Int) (rs : List (List Int)) (hr : ∀ x ∈ rs, x.length ≤ 8) (hrl : rs.length ≤ 1000000000000) (r : List (List Int)) : ∀ (d i : Nat) (acc : List (List Int)), i + d = rs.length → acc.length + d ≤ 2000000000000 → Ev (fun k => spec_liAll.l0 k (n : Int) s (acc ++ (rs.drop i).map (f :: ·)) (wrap64 (f - 1))) r → Ev (fun k => spec_liAll.l1 k (n : Int) s acc f rs (rs.length : Int) (i : Int)) r
  | 0, i, acc, h, hb, hR => by
    refine Ev.succ ?_
    simp only [spec_liAll.l1, if_neg (show ¬ (i : Int) < (rs.length : Int) by omega)]
    rw [List.drop_eq_nil_of_le (by omega), List.map_nil, List.append_nil] at hR
    exact hR
  | d + 1, i, acc, h, hb, hR => by
    have hi : i < rs.length := by omega
    have := hr _ (List.getElem_mem hi)
    refine Ev.succ ?_
    simp only [spec_liAll.l1, if_pos (show (i : Int) < (rs.length : Int) by omega), if_pos (show (0 : Int) ≤ (i : Int) by omega), Option.bind_some, rdL hi, if_pos (show ([f] : List Int).length + (rs[i]).length < 17592186044416 by rw [List.length_singleton]; omega), if_pos (show acc.length < 5864062014805 by omega), wsucc hi (by omega)]
    refine specAll_l1 n s f rs hr hrl r d (i + 1) _ (by omega) (by rw [List.length_append, List.length_singleton]; omega) ?_
    rw [List.drop_eq_getElem_cons hi, List.map_cons] at hR
    rw [List.append_assoc]
    exact hR
theorem specAll_ev : ∀ (n : Nat), n ≤ 8 → ∀ (s m : Int), s ≤ 30 → 0 ≤ s → 0 ≤ m → Ev (fun k => spec_liAll.f k (n : Int) s m) (allL n s m)
  | 0, _, s, m, hs, h0, hm => by
    refine Ev.succ ?_
    simp only [spec_liAll.f, if_pos (show ((0 : Nat) : Int) = 0 from rfl), allL]
    exact Ev.ite (fun _ => Ev.now _) (fun _ => Ev.now _)
  | n + 1, hn, s, m, hs, h0, hm => by
    have key : ∀ (t : Nat), (t : Int) ≤ 30 → (t : Int) ≤ s → ∀ acc : List (List Int), acc.length + (t + 1) * 31 ^ n ≤ 900000000000 → Ev (fun k => spec_liAll.l0 k ((n + 1 : Nat) : Int) s acc (t : Int)) (acc ++ allGo (fun f => (allL n (s - f) f).map (f :: ·)) ((n + 1 : Nat) : Int) s t) := by
      have h31 : 31 ^ n ≤ 852891037441 := by
        have h2 := pow31 (show n ≤ 8 by omega)
        have h3 : 31 ^ 8 = 852891037441 := by decide
        omega
      have step : ∀ (t : Nat), (t : Int) ≤ 30 → (t : Int) ≤ s → ∀ acc r, acc.length + (t + 1) * 31 ^ n ≤ 900000000000 → (t : Int) * ((n + 1 : Nat) : Int) ≥ s → Ev (fun k => spec_liAll.l0 k ((n + 1 : Nat) : Int) s (acc ++ (allL n (s - t) t).map ((t : Int) :: ·)) ((t : Int) - 1)) r → Ev (fun k => spec_liAll.l0 k ((n + 1 : Nat) : Int) s acc (t : Int)) r := by
        intro t ht hts acc r hb hc hR
        have hw : wrap64 ((t : Int) * ((n + 1 : Nat) : Int)) = (t : Int) * ((n + 1 : Nat) : Int) := by
          have h1 : (t : Int) * ((n + 1 : Nat) : Int) ≤ 30 * 8 := Int.mul_le_mul ht (by omega) (by omega) (by omega)
          have h2 : 0 ≤ (t : Int) * ((n + 1 : Nat) : Int) := Int.mul_nonneg (by omega) (by omega)
          exact w64 (by omega) (by omega)
        have hcnt := allL_count n (s - t) t (by omega) (by omega)
        rw [Nat.add_mul] at hb
        refine Ev.succ ?_
        simp only [spec_liAll.l0, hw, if_pos hc, decide_eq_true (show (t : Int) ≥ 0 by omega)]
        refine Ev.succ ?_
        simp only [spec_liAll.j1, if_true, w64 (x := ((n + 1 : Nat) : Int) - 1) (by omega) (by omega), w64 (x := s - (t : Int)) (by omega) (by omega)]
        rw [show ((n + 1 : Nat) : Int) - 1 = (n : Int) by omega]
        refine Ev.bind (specAll_ev n (by omega) (s - t) t (by omega) (by omega) (by omega)) ?_
        have := specAll_l1 (n + 1) s t (allL n (s - t) t) (fun x hx => by have := allL_len n _ _ x hx; omega) (by omega) r (allL n (s - t) t).length 0 acc (by omega) (by omega)
        rw [List.drop_zero, w64 (x := (t : Int) - 1) (by omega) (by omega)] at this
        exact this hR
      have stop : ∀ (t : Int) acc, 0 ≤ t → t ≤ 30 → ¬ t * ((n + 1 : Nat) : Int) ≥ s → Ev (fun k => spec_liAll.l0 k ((n + 1 : Nat) : Int) s acc t) acc := by
        intro t acc h1 h2 hc
        have hw : wrap64 (t * ((n + 1 : Nat) : Int)) = t * ((n + 1 : Nat) : Int) := by
          have h3 : t * ((n + 1 : Nat) : Int) ≤ 30 * 8 := Int.mul_le_mul h2 (by omega) (by omega) (by omega)
          have h4 : 0 ≤ t * ((n + 1 : Nat) : Int) := Int.mul_nonneg h1 (by omega)
          exact w64 (by omega) (by omega)
        refine Ev.succ ?_
        simp only [spec_liAll.l0, hw, if_neg hc]
        refine Ev.succ ?_
        simp only [spec_liAll.j1, Bool.false_eq_true, if_false]
        exact Ev.now _
      have low : ∀ acc, Ev (fun k => spec_liAll.l0 k ((n + 1 : Nat) : Int) s acc (-1)) acc := by
        intro acc
        have hw : wrap64 (-1 * ((n + 1 : Nat) : Int)) = -1 * ((n + 1 : Nat) : Int) := w64 (by omega) (by omega)
        refine Ev.succ ?_
        simp only [spec_liAll.l0, hw, if_neg (show ¬ -1 * ((n + 1 : Nat) : Int) ≥ s by omega)]
        refine Ev.succ ?_
        simp only [spec_liAll.j1, Bool.false_eq_true, if_false]
        exact Ev.now _
      intro t
      induction t with
      | zero =>
        intro h1 h2 acc hb
        unfold allGo
        by_cases hc : 0 * ((n + 1 : Nat) : Int) ≥ s
        · rw [if_pos hc]
          exact step 0 h1 h2 acc _ hb hc (low _)
        · rw [if_neg hc, List.append_nil]
          exact stop 0 acc (by omega) (by omega) hc
      | succ t ih =>
        intro h1 h2 acc hb
        unfold allGo
        by_cases hc : ((t + 1 : Nat) : Int) * ((n + 1 : Nat) : Int) ≥ s
        · rw [if_pos hc, ← List.append_assoc]
          refine step (t + 1) h1 h2 acc _ hb hc ?_
          rw [show ((t + 1 : Nat) : Int) - 1 = (t : Int) by omega]
          have hcnt := allL_count n (s - ((t + 1 : Nat) : Int)) ((t + 1 : Nat) : Int) (by omega) (by omega)
          refine ih (by omega) (by omega) _ ?_
          rw [List.length_append, List.length_map]
          have e : (t + 1 + 1) * 31 ^ n = (t + 1) * 31 ^ n + 31 ^ n := by rw [Nat.add_mul, Nat.one_mul]
          omega
        · rw [if_neg hc, List.append_nil]
          exact stop _ acc (by omega) h1 hc
    refine Ev.succ ?_
    simp only [spec_liAll.f, if_neg (show ¬ ((n + 1 : Nat) : Int) = 0 by omega), l1Least_eq, Option.bind_some, allL]
    have hb : ((min s m).toNat + 1) * 31 ^ n ≤ 31 * 31 ^ n := Nat.mul_le_mul_right _ (by omega)
    have h2 := pow31 (show n + 1 ≤ 8 from hn)
    rw [Nat.pow_succ] at h2
    have h3 : 31 ^ 8 = 852891037441 := by decide
    have := key (min s m).toNat (by omega) (by omega) [] (by rw [List.length_nil]; omega)
    rw [List.nil_append, show (((min s m).toNat : Nat) : Int) = min s m by omega] at this
    exact this
end Go.Proofs.Ytpejdcomdnpclaa.A

namespace Go.Proofs.Ytpejdcomdnpclaa.A
open Go.RowKit Go.Proofs.YtpejdcomdnpclaaW.PrintWords Go.Proofs.YtpejdcomdnpclaaW.PrintLast Go.Proofs.YtpejdcomdnpclaaW.PrintMore
set_option linter.unusedVariables false
set_option linter.unusedSimpArgs false
theorem mn_eq (a b : Int) : mn a b = min a b := by unfold mn; omega
end Go.Proofs.Ytpejdcomdnpclaa.A

namespace Go.Proofs.Ytpejdcomdnpclaa.A
open Go.RowKit Go.Proofs.YtpejdcomdnpclaaW.PrintWords Go.Proofs.YtpejdcomdnpclaaW.PrintLast Go.Proofs.YtpejdcomdnpclaaW.PrintMore
set_option linter.unusedVariables false
set_option linter.unusedSimpArgs false
theorem implAll_l1 (n : Nat) (s f : Int) (rs : List (List Int)) (hr : ∀ x ∈ rs, x.length ≤ 8) (hrl : rs.length ≤ 1000000000000) (r : List (List Int)) : ∀ (d i : Nat) (acc : List (List Int)), i + d = rs.length → acc.length + d ≤ 2000000000000 → Ev (fun k => impl_rankings.l0 k (n : Int) s (acc ++ (rs.drop i).map (f :: ·)) (wrap64 (f - 1))) r → Ev (fun k => impl_rankings.l1 k (n : Int) s acc f rs (rs.length : Int) (i : Int)) r
  | 0, i, acc, h, hb, hR => by
    refine Ev.succ ?_
    simp only [impl_rankings.l1, if_neg (show ¬ (i : Int) < (rs.length : Int) by omega)]
    rw [List.drop_eq_nil_of_le (by omega), List.map_nil, List.append_nil] at hR
    exact hR
  | d + 1, i, acc, h, hb, hR => by
    have hi : i < rs.length := by omega
    have := hr _ (List.getElem_mem hi)
    refine Ev.succ ?_
    simp only [impl_rankings.l1, if_pos (show (i : Int) < (rs.length : Int) by omega), if_pos (show (0 : Int) ≤ (i : Int) by omega), Option.bind_some, rdL hi, if_pos (show ([f] : List Int).length + (rs[i]).length < 17592186044416 by rw [List.length_singleton]; omega), if_pos (show acc.length < 5864062014805 by omega), wsucc hi (by omega)]
    refine implAll_l1 n s f rs hr hrl r d (i + 1) _ (by omega) (by rw [List.length_append, List.length_singleton]; omega) ?_
    rw [List.drop_eq_getElem_cons hi, List.map_cons] at hR
    rw [List.append_assoc]
    exact hR
theorem implAll_ev : ∀ (n : Nat), n ≤ 8 → ∀ (s m : Int), s ≤ 30 → 0 ≤ s → 0 ≤ m → Ev (fun k => impl_rankings.f k (n : Int) s m) (allL n s m)
  | 0, _, s, m, hs, h0, hm => by
    refine Ev.succ ?_
    simp only [impl_rankings.f, if_pos (show ((0 : Nat) : Int) = 0 from rfl), allL]
    exact Ev.ite (fun _ => Ev.now _) (fun _ => Ev.now _)
  | n + 1, hn, s, m, hs, h0, hm => by
    have key : ∀ (t : Nat), (t : Int) ≤ 30 → (t : Int) ≤ s → ∀ acc : List (List Int), acc.length + (t + 1) * 31 ^ n ≤ 900000000000 → Ev (fun k => impl_rankings.l0 k ((n + 1 : Nat) : Int) s acc (t : Int)) (acc ++ allGo (fun f => (allL n (s - f) f).map (f :: ·)) ((n + 1 : Nat) : Int) s t) := by
      have h31 : 31 ^ n ≤ 852891037441 := by
        have h2 := pow31 (show n ≤ 8 by omega)
        have h3 : 31 ^ 8 = 852891037441 := by decide
        omega
      have step : ∀ (t : Nat), (t : Int) ≤ 30 → (t : Int) ≤ s → ∀ acc r, acc.length + (t + 1) * 31 ^ n ≤ 900000000000 → (t : Int) * ((n + 1 : Nat) : Int) ≥ s → Ev (fun k => impl_rankings.l0 k ((n + 1 : Nat) : Int) s (acc ++ (allL n (s - t) t).map ((t : Int) :: ·)) ((t : Int) - 1)) r → Ev (fun k => impl_rankings.l0 k ((n + 1 : Nat) : Int) s acc (t : Int)) r := by
        intro t ht hts acc r hb hc hR
        have hw : wrap64 ((t : Int) * ((n + 1 : Nat) : Int)) = (t : Int) * ((n + 1 : Nat) : Int) := by
          have h1 : (t : Int) * ((n + 1 : Nat) : Int) ≤ 30 * 8 := Int.mul_le_mul ht (by omega) (by omega) (by omega)
          have h2 : 0 ≤ (t : Int) * ((n + 1 : Nat) : Int) := Int.mul_nonneg (by omega) (by omega)
          exact w64 (by omega) (by omega)
        have hcnt := allL_count n (s - t) t (by omega) (by omega)
        rw [Nat.add_mul] at hb
        refine Ev.succ ?_
        simp only [impl_rankings.l0, hw, if_pos (show (t : Int) ≥ 0 by omega), decide_eq_true hc]
        refine Ev.succ ?_
        simp only [impl_rankings.j1, if_true, w64 (x := ((n + 1 : Nat) : Int) - 1) (by omega) (by omega), w64 (x := s - (t : Int)) (by omega) (by omega)]
        rw [show ((n + 1 : Nat) : Int) - 1 = (n : Int) by omega]
        refine Ev.bind (implAll_ev n (by omega) (s - t) t (by omega) (by omega) (by omega)) ?_
        have := implAll_l1 (n + 1) s t (allL n (s - t) t) (fun x hx => by have := allL_len n _ _ x hx; omega) (by omega) r (allL n (s - t) t).length 0 acc (by omega) (by omega)
        rw [List.drop_zero, w64 (x := (t : Int) - 1) (by omega) (by omega)] at this
        exact this hR
      have stop : ∀ (t : Int) acc, 0 ≤ t → t ≤ 30 → ¬ t * ((n + 1 : Nat) : Int) ≥ s → Ev (fun k => impl_rankings.l0 k ((n + 1 : Nat) : Int) s acc t) acc := by
        intro t acc h1 h2 hc
        have hw : wrap64 (t * ((n + 1 : Nat) : Int)) = t * ((n + 1 : Nat) : Int) := by
          have h3 : t * ((n + 1 : Nat) : Int) ≤ 30 * 8 := Int.mul_le_mul h2 (by omega) (by omega) (by omega)
          have h4 : 0 ≤ t * ((n + 1 : Nat) : Int) := Int.mul_nonneg h1 (by omega)
          exact w64 (by omega) (by omega)
        refine Ev.succ ?_
        simp only [impl_rankings.l0, hw, if_pos (show t ≥ 0 from h1), decide_eq_false hc]
        refine Ev.succ ?_
        simp only [impl_rankings.j1, Bool.false_eq_true, if_false]
        exact Ev.now _
      have low : ∀ acc, Ev (fun k => impl_rankings.l0 k ((n + 1 : Nat) : Int) s acc (-1)) acc := by
        intro acc
        refine Ev.succ ?_
        simp only [impl_rankings.l0, if_neg (show ¬ (-1 : Int) ≥ 0 by omega)]
        refine Ev.succ ?_
        simp only [impl_rankings.j1, Bool.false_eq_true, if_false]
        exact Ev.now _
      intro t
      induction t with
      | zero =>
        intro h1 h2 acc hb
        unfold allGo
        by_cases hc : 0 * ((n + 1 : Nat) : Int) ≥ s
        · rw [if_pos hc]
          exact step 0 h1 h2 acc _ hb hc (low _)
        · rw [if_neg hc, List.append_nil]
          exact stop 0 acc (by omega) (by omega) hc
      | succ t ih =>
        intro h1 h2 acc hb
        unfold allGo
        by_cases hc : ((t + 1 : Nat) : Int) * ((n + 1 : Nat) : Int) ≥ s
        · rw [if_pos hc, ← List.append_assoc]
          refine step (t + 1) h1 h2 acc _ hb hc ?_
          rw [show ((t + 1 : Nat) : Int) - 1 = (t : Int) by omega]
          have hcnt := allL_count n (s - ((t + 1 : Nat) : Int)) ((t + 1 : Nat) : Int) (by omega) (by omega)
          refine ih (by omega) (by omega) _ ?_
          rw [List.length_append, List.length_map]
          have e : (t + 1 + 1) * 31 ^ n = (t + 1) * 31 ^ n + 31 ^ n := by rw [Nat.add_mul, Nat.one_mul]
          omega
        · rw [if_neg hc, List.append_nil]
          exact stop _ acc (by omega) h1 hc
    refine Ev.succ ?_
    simp only [impl_rankings.f, if_neg (show ¬ ((n + 1 : Nat) : Int) = 0 by omega), mn_eq, allL]
    have hb : ((min s m).toNat + 1) * 31 ^ n ≤ 31 * 31 ^ n := Nat.mul_le_mul_right _ (by omega)
    have h2 := pow31 (show n + 1 ≤ 8 from hn)
    rw [Nat.pow_succ] at h2
    have h3 : 31 ^ 8 = 852891037441 := by decide
    have := key (min s m).toNat (by omega) (by omega) [] (by rw [List.length_nil]; omega)
    rw [List.nil_append, show (((min s m).toNat : Nat) : Int) = min s m by omega] at this
    exact this
end Go.Proofs.Ytpejdcomdnpclaa.A

namespace Go.Proofs.Ytpejdcomdnpclaa.A
open Go.RowKit Go.Proofs.YtpejdcomdnpclaaW.PrintWords Go.Proofs.YtpejdcomdnpclaaW.PrintLast Go.Proofs.YtpejdcomdnpclaaW.PrintMore
set_option linter.unusedVariables false
set_option linter.unusedSimpArgs false
def goodL (xs : List Int) : Bool := if (1 : Int) ≤ xs.length ∧ (xs.length : Int) ≤ 8 then inR 0 60 xs else false
theorem goodL_iff (xs : List Int) : goodL xs = true ↔ 1 ≤ xs.length ∧ xs.length ≤ 8 ∧ ∀ x ∈ xs, 0 ≤ x ∧ x ≤ 60 := by
  unfold goodL inR
  by_cases h : (1 : Int) ≤ xs.length ∧ (xs.length : Int) ≤ 8
  · rw [if_pos h]
    simp only [List.all_eq_true, decide_eq_true_eq]
    exact ⟨fun h' => ⟨by omega, by omega, h'⟩, fun h' => h'.2.2⟩
  · rw [if_neg h]
    constructor
    · intro h'
      cases h'
    · intro h'
      omega
theorem liGood_ev (xs : List Int) (hx : xs.length ≤ 9223372036854775807) : Ev (fun k => spec_liGood.f k xs) (goodL xs) := by
  unfold spec_liGood.f goodL
  simp only [l1In_eq, Option.bind_some, decide_eq_true_eq]
  exact Ev.ite (fun _ => Ev.bind (l1All_ev xs 0 60 hx) (Ev.now _)) (fun _ => Ev.now _)
theorem implIsList_ev (xs : List Int) (hx : xs.length ≤ 9223372036854775807) : Ev (fun k => impl_IsList.f k xs) (goodL xs) := by
  unfold impl_IsList.f goodL
  simp only [within_eq, Option.bind_some, decide_eq_true_eq]
  exact Ev.ite (fun _ => Ev.bind (allWithin_ev xs 0 60 hx) (Ev.now _)) (fun _ => Ev.now _)
end Go.Proofs.Ytpejdcomdnpclaa.A

namespace Go.Proofs.Ytpejdcomdnpclaa.A
open Go.RowKit Go.Proofs.YtpejdcomdnpclaaW.PrintWords Go.Proofs.YtpejdcomdnpclaaW.PrintLast Go.Proofs.YtpejdcomdnpclaaW.PrintMore
set_option linter.unusedVariables false
set_option linter.unusedSimpArgs false
/-! Hall's theorem over the numbers below n: sets are functions to Bool -/
def cardB (n : Nat) (S : Nat → Bool) : Nat := (List.range n).countP S
theorem countP_sub {α : Type} (A B D : α → Bool) : ∀ l : List α, (∀ x ∈ l, A x = true → B x = true ∨ D x = true) → l.countP A ≤ l.countP B + l.countP D
  | [], _ => by simp
  | x :: l, h => by
    have ih := countP_sub A B D l (fun y hy => h y (List.mem_cons_of_mem _ hy))
    have hx := h x List.mem_cons_self
    rw [List.countP_cons, List.countP_cons, List.countP_cons]
    cases hA : A x with
    | false => simp only [Bool.false_eq_true, if_false]; omega
    | true =>
      rcases hx hA with hB | hD
      · rw [hB]; simp only [if_true]; omega
      · rw [hD]; simp only [if_true]; omega
theorem countP_two {α : Type} (A B D : α → Bool) : ∀ l : List α, (∀ x ∈ l, B x = true → A x = true ∧ D x = false) → (∀ x ∈ l, D x = true → A x = true) → l.countP B + l.countP D ≤ l.countP A
  | [], _, _ => by simp
  | x :: l, h, k => by
    have ih := countP_two A B D l (fun y hy => h y (List.mem_cons_of_mem _ hy)) (fun y hy => k y (List.mem_cons_of_mem _ hy))
    have hx := h x List.mem_cons_self
    have kx := k x List.mem_cons_self
    rw [List.countP_cons, List.countP_cons, List.countP_cons]
    cases hB : B x with
    | true =>
      obtain ⟨h1, h2⟩ := hx hB
      rw [h1, h2]
      simp only [if_true, Bool.false_eq_true, if_false]
      omega
    | false =>
      cases hD : D x with
      | true =>
        rw [kx hD]
        simp only [if_true, Bool.false_eq_true, if_false]
        omega
      | false =>
        simp only [Bool.false_eq_true, if_false]
        omega
theorem cardB_pos {n : Nat} {S : Nat → Bool} {i : Nat} (hi : i < n) (h : S i = true) : 0 < cardB n S := by
  unfold cardB
  rw [List.countP_pos_iff]
  exact ⟨i, List.mem_range.2 hi, h⟩
theorem cardB_ex {n : Nat} {S : Nat → Bool} (h : 0 < cardB n S) : ∃ i, i < n ∧ S i = true := by
  unfold cardB at h
  rw [List.countP_pos_iff] at h
  obtain ⟨i, hi, hs⟩ := h
  exact ⟨i, List.mem_range.1 hi, hs⟩
theorem cardB_one (n c : Nat) : cardB n (fun j => j == c) ≤ 1 := by
  have h := List.nodup_iff_count.1 (List.nodup_range (n := n)) c
  exact h
theorem cardB_le {n : Nat} {A B : Nat → Bool} (h : ∀ i, i < n → A i = true → B i = true) : cardB n A ≤ cardB n B := List.countP_mono_left fun i hi ha => h i (List.mem_range.1 hi) ha
def nbr (n : Nat) (P : Nat → Nat → Bool) (C S : Nat → Bool) (j : Nat) : Bool := C j && (List.range n).any fun i => S i && P i j
theorem nbr_iff {n : Nat} {P : Nat → Nat → Bool} {C S : Nat → Bool} {j : Nat} : nbr n P C S j = true ↔ C j = true ∧ ∃ i, i < n ∧ S i = true ∧ P i j = true := by
  unfold nbr
  simp only [Bool.and_eq_true, List.any_eq_true, List.mem_range]
theorem hall (n : Nat) (P : Nat → Nat → Bool) : ∀ (m : Nat) (R C : Nat → Bool), cardB n R ≤ m → (∀ S : Nat → Bool, (∀ i, i < n → S i = true → R i = true) → cardB n S ≤ cardB n (nbr n P C S)) → ∃ f : Nat → Nat, (∀ i, i < n → R i = true → f i < n ∧ C (f i) = true ∧ P i (f i) = true) ∧ ∀ i j, i < n → j < n → R i = true → R j = true → f i = f j → i = j
  | 0, R, C, hR, _ => by
    have hno : ∀ i, i < n → R i = true → False := fun i hi h => by have := cardB_pos hi h; omega
    exact ⟨id, fun i hi h => (hno i hi h).elim, fun i j hi _ h _ _ => (hno i hi h).elim⟩
  | m + 1, R, C, hR, hH => by
    by_cases hex : 0 < cardB n R
    · obtain ⟨r, hr, hRr⟩ := cardB_ex hex
      by_cases hB : ∃ S : Nat → Bool, (∀ i, i < n → S i = true → R i = true) ∧ 0 < cardB n S ∧ cardB n S < cardB n R ∧ cardB n (nbr n P C S) ≤ cardB n S
      · obtain ⟨S, hS, h0, h1, h2⟩ := hB
        obtain ⟨f1, a1, b1⟩ := hall n P m S C (by omega) (fun T hT => hH T (fun i hi h => hS i hi (hT i hi h)))
        have hsplit : cardB n (fun i => R i && !S i) + cardB n S ≤ cardB n R := countP_two R (fun i => R i && !S i) S (List.range n) (fun i _ h => by simp only [Bool.and_eq_true, Bool.not_eq_true'] at h; exact h) (fun i hi h => hS i (List.mem_range.1 hi) h)
        obtain ⟨f2, a2, b2⟩ := hall n P m (fun i => R i && !S i) (fun j => C j && !nbr n P C S j) (by omega) (fun T hT => by
          have hT' : ∀ i, i < n → T i = true → R i = true ∧ S i = false := fun i hi h => by have := hT i hi h; simp only [Bool.and_eq_true, Bool.not_eq_true'] at this; exact this
          have e1 : cardB n T + cardB n S ≤ cardB n (fun i => T i || S i) := countP_two (fun i => T i || S i) T S (List.range n) (fun i hi h => ⟨by simp [h], (hT' i (List.mem_range.1 hi) h).2⟩) (fun i _ h => by simp [h])
          have e2 := hH (fun i => T i || S i) (fun i hi h => by
            simp only [Bool.or_eq_true] at h
            rcases h with h | h
            · exact (hT' i hi h).1
            · exact hS i hi h)
          have e3 : cardB n (nbr n P C (fun i => T i || S i)) ≤ cardB n (nbr n P (fun j => C j && !nbr n P C S j) T) + cardB n (nbr n P C S) := countP_sub _ _ _ (List.range n) (fun j _ h => by
            obtain ⟨hc, i, hi, hs, hp⟩ := nbr_iff.1 h
            by_cases hn : nbr n P C S j = true
            · exact .inr hn
            · refine .inl (nbr_iff.2 ⟨by simp only [Bool.and_eq_true, Bool.not_eq_true']; exact ⟨hc, by simpa using hn⟩, i, hi, ?_, hp⟩)
              simp only [Bool.or_eq_true] at hs
              rcases hs with hs | hs
              · exact hs
              · exact (hn (nbr_iff.2 ⟨hc, i, hi, hs, hp⟩)).elim)
          omega)
        have q1 : ∀ i, i < n → S i = true → nbr n P C S (f1 i) = true := fun i hi h => by
          obtain ⟨_, hc, hp⟩ := a1 i hi h
          exact nbr_iff.2 ⟨hc, i, hi, h, hp⟩
        have q2 : ∀ i, i < n → R i = true → ¬ S i = true → f2 i < n ∧ C (f2 i) = true ∧ nbr n P C S (f2 i) = false ∧ P i (f2 i) = true := fun i hi h hs => by
          obtain ⟨u, v, w⟩ := a2 i hi (by simp only [Bool.and_eq_true, Bool.not_eq_true']; exact ⟨h, by simpa using hs⟩)
          simp only [Bool.and_eq_true, Bool.not_eq_true'] at v
          exact ⟨u, v.1, v.2, w⟩
        refine ⟨fun i => if S i = true then f1 i else f2 i, fun i hi h => ?_, fun i j hi hj h k e => ?_⟩
        · show (if S i = true then f1 i else f2 i) < n ∧ C (if S i = true then f1 i else f2 i) = true ∧ P i (if S i = true then f1 i else f2 i) = true
          by_cases hs : S i = true
          · rw [if_pos hs]
            exact a1 i hi hs
          · rw [if_neg hs]
            obtain ⟨u, v, _, w⟩ := q2 i hi h hs
            exact ⟨u, v, w⟩
        · simp only at e
          by_cases hs : S i = true
          · by_cases ht : S j = true
            · rw [if_pos hs, if_pos ht] at e
              exact b1 i j hi hj hs ht e
            · rw [if_pos hs, if_neg ht] at e
              have x1 := q1 i hi hs
              have x2 := (q2 j hj k ht).2.2.1
              rw [e, x2] at x1
              cases x1
          · by_cases ht : S j = true
            · rw [if_neg hs, if_pos ht] at e
              have x1 := q1 j hj ht
              have x2 := (q2 i hi h hs).2.2.1
              rw [← e, x2] at x1
              cases x1
            · rw [if_neg hs, if_neg ht] at e
              exact b2 i j hi hj (by simp only [Bool.and_eq_true, Bool.not_eq_true']; exact ⟨h, by simpa using hs⟩) (by simp only [Bool.and_eq_true, Bool.not_eq_true']; exact ⟨k, by simpa using ht⟩) e
      · have hA : ∀ T : Nat → Bool, (∀ i, i < n → T i = true → R i = true) → 0 < cardB n T → cardB n T < cardB n R → cardB n T + 1 ≤ cardB n (nbr n P C T) := fun T h1 h2 h3 => by
          have : ¬ cardB n (nbr n P C T) ≤ cardB n T := fun h4 => hB ⟨T, h1, h2, h3, h4⟩
          omega
        have hs1 : 0 < cardB n (fun i => i == r) := cardB_pos hr (by simp)
        have hN := hH (fun i => i == r) (fun i _ h => by
          have e : i = r := by simpa using h
          rw [e]
          exact hRr)
        obtain ⟨c, hc, hnc⟩ := cardB_ex (show 0 < cardB n (nbr n P C (fun i => i == r)) by omega)
        obtain ⟨hCc, i0, _, hi0, hP⟩ := nbr_iff.1 hnc
        have ei0 : i0 = r := by simpa using hi0
        subst ei0
        have hsplit : cardB n (fun i => R i && !(i == i0)) + cardB n (fun i => i == i0) ≤ cardB n R := countP_two R (fun i => R i && !(i == i0)) (fun i => i == i0) (List.range n) (fun i _ h => by simp only [Bool.and_eq_true, Bool.not_eq_true'] at h; exact h) (fun i _ h => by
          have e : i = i0 := by simpa using h
          rw [e]
          exact hRr)
        obtain ⟨f1, a1, b1⟩ := hall n P m (fun i => R i && !(i == i0)) (fun j => C j && !(j == c)) (by omega) (fun T hT => by
          by_cases ht0 : 0 < cardB n T
          · have hTR : ∀ i, i < n → T i = true → R i = true := fun i hi h => by have := hT i hi h; simp only [Bool.and_eq_true] at this; exact this.1
            have hle : cardB n T ≤ cardB n (fun i => R i && !(i == i0)) := cardB_le hT
            have g := hA T hTR ht0 (by omega)
            have e3 : cardB n (nbr n P C T) ≤ cardB n (nbr n P (fun j => C j && !(j == c)) T) + cardB n (fun j => j == c) := countP_sub _ _ _ (List.range n) (fun j _ h => by
              obtain ⟨hcj, i, hi, hs, hp⟩ := nbr_iff.1 h
              by_cases e : j = c
              · exact .inr (by simpa using e)
              · exact .inl (nbr_iff.2 ⟨by simp only [Bool.and_eq_true, Bool.not_eq_true']; exact ⟨hcj, by simpa using e⟩, i, hi, hs, hp⟩))
            have := cardB_one n c
            omega
          · omega)
        have q : ∀ i, i < n → R i = true → i ≠ i0 → f1 i < n ∧ C (f1 i) = true ∧ f1 i ≠ c ∧ P i (f1 i) = true := fun i hi h hne => by
          obtain ⟨u, v, w⟩ := a1 i hi (by simp only [Bool.and_eq_true, Bool.not_eq_true']; exact ⟨h, by simpa using hne⟩)
          simp only [Bool.and_eq_true, Bool.not_eq_true'] at v
          exact ⟨u, v.1, by simpa using v.2, w⟩
        refine ⟨fun i => if i = i0 then c else f1 i, fun i hi h => ?_, fun i j hi hj h k e => ?_⟩
        · show (if i = i0 then c else f1 i) < n ∧ C (if i = i0 then c else f1 i) = true ∧ P i (if i = i0 then c else f1 i) = true
          by_cases hs : i = i0
          · rw [if_pos hs, hs]
            exact ⟨hc, hCc, hP⟩
          · rw [if_neg hs]
            obtain ⟨u, v, _, w⟩ := q i hi h hs
            exact ⟨u, v, w⟩
        · simp only at e
          by_cases hs : i = i0
          · by_cases ht : j = i0
            · rw [hs, ht]
            · rw [if_pos hs, if_neg ht] at e
              exact ((q j hj k ht).2.2.1 e.symm).elim
          · by_cases ht : j = i0
            · rw [if_neg hs, if_pos ht] at e
              exact ((q i hi h hs).2.2.1 e).elim
            · rw [if_neg hs, if_neg ht] at e
              exact b1 i j hi hj (by simp only [Bool.and_eq_true, Bool.not_eq_true']; exact ⟨h, by simpa using hs⟩) (by simp only [Bool.and_eq_true, Bool.not_eq_true']; exact ⟨k, by simpa using ht⟩) e
    · have hno : ∀ i, i < n → R i = true → False := fun i hi h => hex (cardB_pos hi h)
      exact ⟨id, fun i hi h => (hno i hi h).elim, fun i j hi _ h _ _ => (hno i hi h).elim⟩
end Go.Proofs.Ytpejdcomdnpclaa.A

namespace Go.Proofs.Ytpejdcomdnpclaa.A
open Go.RowKit Go.Proofs.YtpejdcomdnpclaaW.PrintWords Go.Proofs.YtpejdcomdnpclaaW.PrintLast Go.Proofs.YtpejdcomdnpclaaW.PrintMore
set_option linter.unusedVariables false
set_option linter.unusedSimpArgs false
theorem l1Own_eq (l : List Int) (hx : l.length ≤ 1048576) : spec_l1Own.f l = some l := by
  unfold spec_l1Own.f
  simp only [Option.bind_some, List.nil_append, List.length_nil, Nat.zero_add, if_pos (show l.length < 17592186044416 by omega)]
end Go.Proofs.Ytpejdcomdnpclaa.A

namespace Go.Proofs.Ytpejdcomdnpclaa.A
open Go.RowKit Go.Proofs.YtpejdcomdnpclaaW.PrintWords Go.Proofs.YtpejdcomdnpclaaW.PrintLast Go.Proofs.YtpejdcomdnpclaaW.PrintMore
set_option linter.unusedVariables false
set_option linter.unusedSimpArgs false
def insD : List Int → Int → List Int
  | [], x => [x]
  | y :: ys, x => if x ≤ y then y :: insD ys x else x :: y :: ys
def Desc (l : List Int) : Prop := l.Pairwise fun x y => y ≤ x
theorem insD_at (x : Int) : ∀ (out : List Int) (j : Nat), j ≤ out.length → (∀ i, i < j → ∀ h : i < out.length, x ≤ out[i]) → (∀ h : j < out.length, ¬ x ≤ out[j]) → insD out x = out.take j ++ [x] ++ out.drop j
  | [], j, hj, _, _ => by simp [insD]
  | y :: ys, 0, _, _, h => by
    have := h (by simp)
    simp only [List.getElem_cons_zero] at this
    simp [insD, this]
  | y :: ys, j + 1, hj, h1, h2 => by
    have h0 := h1 0 (by omega) (by simp)
    simp only [List.getElem_cons_zero] at h0
    have ih := insD_at x ys j (by simpa using hj) (fun i hi h => by have := h1 (i + 1) (by omega) (by simpa using h); simpa using this) (fun h => by have := h2 (by simpa using h); simpa using this)
    simp only [insD, if_pos h0, ih, List.take_succ_cons, List.drop_succ_cons, List.cons_append]
theorem insD_perm (x : Int) : ∀ out : List Int, (insD out x).Perm (x :: out)
  | [] => List.Perm.refl _
  | y :: ys => by
    unfold insD
    split
    · exact ((insD_perm x ys).cons y).trans (List.Perm.swap x y ys)
    · exact List.Perm.refl _
theorem insD_length (x : Int) (out : List Int) : (insD out x).length = out.length + 1 := by
  rw [(insD_perm x out).length_eq, List.length_cons]
theorem insD_desc (x : Int) : ∀ out : List Int, Desc out → Desc (insD out x)
  | [], _ => by simp [insD, Desc]
  | y :: ys, h => by
    unfold insD
    unfold Desc at h
    rw [List.pairwise_cons] at h
    split
    · next hc =>
      unfold Desc
      rw [List.pairwise_cons]
      refine ⟨fun z hz => ?_, insD_desc x ys h.2⟩
      rcases List.mem_cons.1 ((insD_perm x ys).mem_iff.1 hz) with rfl | hz
      · exact hc
      · exact h.1 z hz
    · next hc =>
      unfold Desc
      rw [List.pairwise_cons, List.pairwise_cons]
      refine ⟨fun z hz => ?_, h⟩
      rcases List.mem_cons.1 hz with rfl | hz
      · omega
      · have := h.1 z hz
        omega
theorem descL_perm (l : List Int) : (descL l).Perm l := List.mergeSort_perm l _
theorem descL_desc (l : List Int) : Desc (descL l) := by
  unfold descL Desc
  have h := List.pairwise_mergeSort (le := fun x y : Int => decide (y ≤ x)) (fun a b c h1 h2 => by simp only [decide_eq_true_eq] at *; omega) (fun a b => by simp only [Bool.or_eq_true, decide_eq_true_eq]; omega) l
  exact h.imp (fun h => by simpa using h)
theorem desc_unique {a b : List Int} (h : a.Perm b) (ha : Desc a) (hb : Desc b) : a = b :=
  List.Perm.eq_of_pairwise (le := fun x y : Int => y ≤ x) (fun x y _ _ h1 h2 => by omega) ha hb h
theorem descL_length (l : List Int) : (descL l).length = l.length := (descL_perm l).length_eq
theorem descL_mem {l : List Int} {x : Int} : x ∈ descL l ↔ x ∈ l := (descL_perm l).mem_iff
theorem descL_of_desc {l : List Int} (h : Desc l) : descL l = l := desc_unique (descL_perm l) (descL_desc l) h
theorem descL_descL (l : List Int) : descL (descL l) = descL l := descL_of_desc (descL_desc l)
theorem perm_sum {a b : List Int} (h : a.Perm b) : a.sum = b.sum := by
  induction h with
  | nil => rfl
  | cons x _ ih => simp only [List.sum_cons, ih]
  | swap x y l => simp only [List.sum_cons]; omega
  | trans _ _ ih1 ih2 => exact ih1.trans ih2
theorem descL_sum (l : List Int) : (descL l).sum = l.sum := perm_sum (descL_perm l)
theorem foldl_ins_perm : ∀ (l out : List Int), (l.foldl insD out).Perm (out ++ l)
  | [], out => by simp
  | x :: l, out => by
    rw [List.foldl_cons]
    refine (foldl_ins_perm l (insD out x)).trans ?_
    refine ((insD_perm x out).append_right l).trans ?_
    exact (List.perm_middle (a := x) (l₁ := out) (l₂ := l)).symm
theorem foldl_ins_desc : ∀ (l out : List Int), Desc out → Desc (l.foldl insD out)
  | [], out, h => h
  | x :: l, out, h => by
    rw [List.foldl_cons]
    exact foldl_ins_desc l _ (insD_desc x out h)
theorem foldl_ins (l : List Int) : l.foldl insD [] = descL l :=
  desc_unique ((by simpa using foldl_ins_perm l [] : (l.foldl insD []).Perm l).trans (descL_perm l).symm) (foldl_ins_desc l [] (by simp [Desc])) (descL_desc l)
def Sm (l : List Int) : Prop := l.length ≤ 1000 ∧ ∀ x ∈ l, 0 ≤ x ∧ x ≤ 1000
theorem good_sm {l : List Int} (h : goodL l = true) : Sm l := by
  have := (goodL_iff l).1 h
  exact ⟨by omega, fun x hx => by have := this.2.2 x hx; omega⟩
theorem sm_desc {l : List Int} (h : Sm l) : Sm (descL l) := ⟨by rw [descL_length]; exact h.1, fun x hx => h.2 x (descL_mem.1 hx)⟩
theorem ranking_eq {l : List Int} (h : Sm l) : impl_ranking.f l = some (descL l) := by
  unfold impl_ranking.f smallL
  rw [if_pos]
  simp only [Bool.and_eq_true, decide_eq_true_eq, List.all_eq_true]
  exact ⟨by have := h.1; omega, fun x hx => by have := h.2 x hx; omega⟩
theorem liRank_in (l : List Int) (x : Int) (i9 : Int) (out : List Int) (hout : out.length ≤ 1000000) (r : List Int) (hr : Ev (fun k => spec_liRank.l0 k (insD out x) l (l.length : Int) (wrap64 (i9 + 1))) r) :
    ∀ (n j : Nat), j + n = out.length → (∀ i, i < j → ∀ h : i < out.length, x ≤ out[i]) → Ev (fun k => spec_liRank.l1 k out x (j : Int) l (l.length : Int) i9) r
  | 0, j, h, hall => by
    refine Ev.succ ?_
    have e := insD_at x out j (by omega) hall (fun h' => by omega)
    simp only [spec_liRank.l1, if_neg (show ¬ (j : Int) < (out.length : Int) by omega), if_pos (show (0 : Int) ≤ (j : Int) by omega), if_pos (show (j : Int) ≤ (out.length : Int) by omega), Int.toNat_natCast, l1Own_eq (out.take j) (by rw [List.length_take]; omega), Option.bind_some, List.length_append, List.length_take, List.length_drop, List.length_cons, List.length_nil]
    simp only [if_pos (show min j out.length + (0 + 1) < 17592186044416 by omega), if_pos (show min j out.length + (0 + 1) + (out.length - j) < 17592186044416 by omega)]
    rw [e] at hr
    exact hr
  | n + 1, j, h, hall => by
    have hj : j < out.length := by omega
    refine Ev.succ ?_
    by_cases c : x ≤ out[j]
    · simp only [spec_liRank.l1, if_pos (show (j : Int) < (out.length : Int) by omega), if_pos (show (0 : Int) ≤ (j : Int) by omega), rdn hj, if_pos (show out[j] ≥ x from c), wsucc hj (by omega)]
      refine liRank_in l x i9 out hout r hr n (j + 1) (by omega) (fun i hi h' => ?_)
      by_cases e : i = j
      · subst e
        exact c
      · exact hall i (by omega) h'
    · have e := insD_at x out j (by omega) hall (fun h' => c)
      simp only [spec_liRank.l1, if_pos (show (j : Int) < (out.length : Int) by omega), if_pos (show (0 : Int) ≤ (j : Int) by omega), rdn hj, if_neg (show ¬ out[j] ≥ x from c), if_pos (show (j : Int) ≤ (out.length : Int) by omega), Int.toNat_natCast, l1Own_eq (out.take j) (by rw [List.length_take]; omega), Option.bind_some, List.length_append, List.length_take, List.length_drop, List.length_cons, List.length_nil]
      simp only [if_pos (show min j out.length + (0 + 1) < 17592186044416 by omega), if_pos (show min j out.length + (0 + 1) + (out.length - j) < 17592186044416 by omega)]
      rw [e] at hr
      exact hr
theorem liRank_ev (l : List Int) (hx : l.length ≤ 1000000) : Ev (fun k => spec_liRank.f k l) (descL l) := by
  unfold spec_liRank.f
  have h := ev_fold (xs := l) (g := fun k out i => spec_liRank.l0 k out l (l.length : Int) i) insD (fun out i => out.length = i) id
    (fun s _ => Ev.succ (by simp only [spec_liRank.l0, if_neg (Int.lt_irrefl _)]; exact Ev.now _))
    (fun i h s r hs _ hr => Ev.succ (by
      simp only [spec_liRank.l0, if_pos (show (i : Int) < (l.length : Int) by omega), if_pos (show (0 : Int) ≤ (i : Int) by omega), rdn h]
      exact liRank_in l l[i] (i : Int) s (by omega) r (by rw [wsucc h (by omega)]; exact hr) s.length 0 (by omega) (fun j hj => by omega)))
    (fun i h s hs => by rw [insD_length, hs]) l.length 0 [] (by omega) rfl
  rw [List.drop_zero, foldl_ins] at h
  exact h
end Go.Proofs.Ytpejdcomdnpclaa.A

namespace Go.Proofs.Ytpejdcomdnpclaa.A
open Go.RowKit Go.Proofs.YtpejdcomdnpclaaW.PrintWords Go.Proofs.YtpejdcomdnpclaaW.PrintLast Go.Proofs.YtpejdcomdnpclaaW.PrintMore
set_option linter.unusedVariables false
set_option linter.unusedSimpArgs false
def psums : Int → List Int → List Int
  | _, [] => []
  | s, x :: l => (s + x) :: psums (s + x) l
def psStep (s : List Int × Int) (x : Int) : List Int × Int := (s.1 ++ [s.2 + x], s.2 + x)
theorem foldl_ps : ∀ (l : List Int) (s : List Int × Int), (l.foldl psStep s).1 = s.1 ++ psums s.2 l
  | [], s => by simp [psums]
  | x :: l, s => by
    rw [List.foldl_cons, foldl_ps l]
    simp [psStep, psums]
theorem psums_length : ∀ (l : List Int) (s : Int), (psums s l).length = l.length
  | [], _ => rfl
  | x :: l, s => by simp [psums, psums_length l]
theorem liSums_ev (l : List Int) (h : Sm l) : Ev (fun k => spec_liSums.f k l) (psums 0 l) := by
  unfold spec_liSums.f
  have hl := h.1
  have h := ev_fold (xs := l) (g := fun k s i => spec_liSums.l0 k s.1 s.2 l (l.length : Int) i) psStep (fun s i => s.1.length = i ∧ 0 ≤ s.2 ∧ s.2 ≤ 1000 * (i : Int)) (fun s => s.1)
    (fun s _ => Ev.succ (by simp only [spec_liSums.l0, if_neg (Int.lt_irrefl _)]; exact Ev.now _))
    (fun i hi s r hs _ hr => Ev.succ (by
      have hb := h.2 _ (List.getElem_mem hi)
      simp only [spec_liSums.l0, if_pos (show (i : Int) < (l.length : Int) by omega), if_pos (show (0 : Int) ≤ (i : Int) by omega), rdn hi, if_pos (show s.1.length < 17592186044416 by omega), wsucc hi (by omega), w64 (x := s.2 + l[i]) (by omega) (by omega)]
      exact hr))
    (fun i hi s hs => by
      have hb := h.2 _ (List.getElem_mem hi)
      simp only [psStep, List.length_append, List.length_cons, List.length_nil]
      omega) l.length 0 ([], 0) (by omega) (by simp)
  rw [List.drop_zero, foldl_ps] at h
  exact h
theorem partial_l (l : List Int) (h : Sm l) : Ev (fun k => impl_partial.l0 k [] 0 l (l.length : Int) 0) (psums 0 l) := by
  have hl := h.1
  have h := ev_fold (xs := l) (g := fun k s i => impl_partial.l0 k s.1 s.2 l (l.length : Int) i) psStep (fun s i => s.1.length = i ∧ 0 ≤ s.2 ∧ s.2 ≤ 1000 * (i : Int)) (fun s => s.1)
    (fun s _ => Ev.succ (by simp only [impl_partial.l0, if_neg (Int.lt_irrefl _)]; exact Ev.now _))
    (fun i hi s r hs _ hr => Ev.succ (by
      have hb := h.2 _ (List.getElem_mem hi)
      simp only [impl_partial.l0, if_pos (show (i : Int) < (l.length : Int) by omega), if_pos (show (0 : Int) ≤ (i : Int) by omega), rdn hi, if_pos (show s.1.length < 17592186044416 by omega), wsucc hi (by omega), w64 (x := s.2 + l[i]) (by omega) (by omega)]
      exact hr))
    (fun i hi s hs => by
      have hb := h.2 _ (List.getElem_mem hi)
      simp only [psStep, List.length_append, List.length_cons, List.length_nil]
      omega) l.length 0 ([], 0) (by omega) (by simp)
  rw [List.drop_zero, foldl_ps] at h
  exact h
def partL (l : List Int) : List Int := psums 0 (descL l)
theorem liPartial_ev (l : List Int) (h : Sm l) : Ev (fun k => spec_liPartial.f k l) (partL l) := by
  unfold spec_liPartial.f
  exact Ev.bind (liRank_ev l (by have := h.1; omega)) (Ev.bind (liSums_ev _ (sm_desc h)) (Ev.now _))
theorem partial_ev (l : List Int) (h : Sm l) : Ev (fun k => impl_partial.f k l) (partL l) := by
  unfold impl_partial.f
  simp only [ranking_eq h, Option.bind_some]
  exact partial_l _ (sm_desc h)
theorem partL_length (l : List Int) : (partL l).length = l.length := by
  unfold partL
  rw [psums_length, descL_length]
end Go.Proofs.Ytpejdcomdnpclaa.A

-- made by a program of this repo (wip/pp.py) through the kit's printer
namespace Go.Proofs.Ytpejdcomdnpclaa.A
open Go.RowKit Go.Proofs.YtpejdcomdnpclaaW.PrintWords Go.Proofs.YtpejdcomdnpclaaW.PrintLast Go.Proofs.YtpejdcomdnpclaaW.PrintMore
attribute [local go_sem] max2_int min2_int max_two min_two max_three min_three max_four min_four
set_option linter.unusedVariables false
set_option linter.unusedSimpArgs false

end Go.Proofs.Ytpejdcomdnpclaa.A

namespace Go.Proofs.Ytpejdcomdnpclaa.A
open Go.RowKit Go.Proofs.YtpejdcomdnpclaaW.PrintWords Go.Proofs.YtpejdcomdnpclaaW.PrintLast Go.Proofs.YtpejdcomdnpclaaW.PrintMore
set_option linter.unusedVariables false
set_option linter.unusedSimpArgs false
theorem foldl_add : ∀ (l : List Int) (s : Int), l.foldl (fun s x => s + x) s = s + l.sum
  | [], s => by simp
  | x :: l, s => by
    rw [List.foldl_cons, foldl_add l, List.sum_cons]
    omega
end Go.Proofs.Ytpejdcomdnpclaa.A

namespace Go.Proofs.Ytpejdcomdnpclaa.A
open Go.RowKit Go.Proofs.YtpejdcomdnpclaaW.PrintWords Go.Proofs.YtpejdcomdnpclaaW.PrintLast Go.Proofs.YtpejdcomdnpclaaW.PrintMore
set_option linter.unusedVariables false
set_option linter.unusedSimpArgs false
theorem liSum_ev (l : List Int) (h : Sm l) : Ev (fun k => spec_liSum.f k l) l.sum := by
  unfold spec_liSum.f
  have hl := h.1
  have h := ev_fold (xs := l) (g := fun k s i => spec_liSum.l0 k s l (l.length : Int) i) (fun s x => s + x) (fun s i => 0 ≤ s ∧ s ≤ 1000 * (i : Int)) id
    (fun s _ => Ev.succ (by simp only [spec_liSum.l0, if_neg (Int.lt_irrefl _)]; exact Ev.now _))
    (fun i hi s r hs _ hr => Ev.succ (by
      have hb := h.2 _ (List.getElem_mem hi)
      simp only [spec_liSum.l0, if_pos (show (i : Int) < (l.length : Int) by omega), if_pos (show (0 : Int) ≤ (i : Int) by omega), rdn hi, wsucc hi (by omega), w64 (x := s + l[i]) (by omega) (by omega)]
      exact hr))
    (fun i hi s hs => by
      have hb := h.2 _ (List.getElem_mem hi)
      omega) l.length 0 0 (by omega) (by omega)
  rw [List.drop_zero, foldl_add, Int.zero_add] at h
  exact h
theorem total_ev (l : List Int) (h : Sm l) : Ev (fun k => impl_total.f k l) l.sum := by
  unfold impl_total.f
  have hl := h.1
  have h := ev_fold (xs := l) (g := fun k s i => impl_total.l0 k s l (l.length : Int) i) (fun s x => s + x) (fun s i => 0 ≤ s ∧ s ≤ 1000 * (i : Int)) id
    (fun s _ => Ev.succ (by simp only [impl_total.l0, if_neg (Int.lt_irrefl _)]; exact Ev.now _))
    (fun i hi s r hs _ hr => Ev.succ (by
      have hb := h.2 _ (List.getElem_mem hi)
      simp only [impl_total.l0, if_pos (show (i : Int) < (l.length : Int) by omega), if_pos (show (0 : Int) ≤ (i : Int) by omega), rdn hi, wsucc hi (by omega), w64 (x := s + l[i]) (by omega) (by omega)]
      exact hr))
    (fun i hi s hs => by
      have hb := h.2 _ (List.getElem_mem hi)
      omega) l.length 0 0 (by omega) (by omega)
  rw [List.drop_zero, foldl_add, Int.zero_add] at h
  exact h
def fitB (a b : List Int) : Bool := if (a.length : Int) = (b.length : Int) then (a.sum == b.sum) else false
theorem fitB_iff (a b : List Int) : fitB a b = true ↔ a.length = b.length ∧ a.sum = b.sum := by
  unfold fitB
  by_cases h : (a.length : Int) = (b.length : Int)
  · rw [if_pos h, beq_iff_eq]
    exact ⟨fun h' => ⟨by omega, h'⟩, fun h' => h'.2⟩
  · rw [if_neg h]
    exact ⟨fun h' => absurd h' (by decide), fun h' => absurd h'.1 (by omega)⟩
theorem liFit_ev (a b : List Int) (ha : Sm a) (hb : Sm b) : Ev (fun k => spec_liFit.f k a b) (fitB a b) := by
  unfold spec_liFit.f fitB
  exact Ev.ite (fun _ => Ev.bind (liSum_ev a ha) (Ev.bind (liSum_ev b hb) (Ev.now _))) (fun _ => Ev.now _)
theorem doFit_ev (a b : List Int) (ha : Sm a) (hb : Sm b) : Ev (fun k => impl_doFit.f k a b) (fitB a b) := by
  unfold impl_doFit.f fitB
  exact Ev.ite (fun _ => Ev.bind (total_ev a ha) (Ev.bind (total_ev b hb) (Ev.now _))) (fun _ => Ev.now _)
end Go.Proofs.Ytpejdcomdnpclaa.A

namespace Go.Proofs.Ytpejdcomdnpclaa.A
open Go.RowKit Go.Proofs.YtpejdcomdnpclaaW.PrintWords Go.Proofs.YtpejdcomdnpclaaW.PrintLast Go.Proofs.YtpejdcomdnpclaaW.PrintMore
set_option linter.unusedVariables false
set_option linter.unusedSimpArgs false
def overL : Int → List Int → List Int → Int
  | i, x :: xs, y :: ys => if x > y then i + 1 else overL (i + 1) xs ys
  | _, _, _ => 0
theorem liOver_l (p q : List Int) (h : p.length ≤ q.length) (hp : p.length ≤ 1000000) : ∀ (n i : Nat), i + n = p.length → Ev (fun k => spec_liOver.l0 k p q (p.length : Int) (i : Int)) (overL (i : Int) (p.drop i) (q.drop i))
  | 0, i, hi => by
    refine Ev.succ ?_
    simp only [spec_liOver.l0, if_neg (show ¬ (i : Int) < (p.length : Int) by omega)]
    rw [List.drop_eq_nil_of_le (by omega), overL]
    exact Ev.now _
    simp
  | n + 1, i, hi => by
    have h1 : i < p.length := by omega
    have h2 : i < q.length := by omega
    refine Ev.succ ?_
    simp only [spec_liOver.l0, if_pos (show (i : Int) < (p.length : Int) by omega), if_pos (show (i : Int) < (q.length : Int) by omega), if_pos (show (0 : Int) ≤ (i : Int) by omega), rdn h1, rdn h2, wsucc h1 (by omega)]
    rw [List.drop_eq_getElem_cons h1, List.drop_eq_getElem_cons h2, overL]
    refine Ev.ite (fun _ => ?_) (fun _ => ?_)
    · rw [show ((i : Int) + 1) = ((i + 1 : Nat) : Int) by omega]
      exact Ev.now _
    · rw [show ((i : Int) + 1) = ((i + 1 : Nat) : Int) by omega]
      exact liOver_l p q h hp n (i + 1) (by omega)
theorem refused_l (p q : List Int) (h : p.length ≤ q.length) (hp : p.length ≤ 1000000) : ∀ (n i : Nat), i + n = p.length → Ev (fun k => impl_refused.l0 k q p (p.length : Int) (i : Int)) (overL (i : Int) (p.drop i) (q.drop i))
  | 0, i, hi => by
    refine Ev.succ ?_
    simp only [impl_refused.l0, if_neg (show ¬ (i : Int) < (p.length : Int) by omega)]
    rw [List.drop_eq_nil_of_le (by omega), overL]
    exact Ev.now _
    simp
  | n + 1, i, hi => by
    have h1 : i < p.length := by omega
    have h2 : i < q.length := by omega
    refine Ev.succ ?_
    simp only [impl_refused.l0, if_pos (show (i : Int) < (p.length : Int) by omega), if_pos (show (i : Int) < (q.length : Int) by omega), if_pos (show (0 : Int) ≤ (i : Int) by omega), rdn h1, rdn h2, wsucc h1 (by omega)]
    rw [List.drop_eq_getElem_cons h1, List.drop_eq_getElem_cons h2, overL]
    refine Ev.ite (fun _ => ?_) (fun _ => ?_)
    · rw [show ((i : Int) + 1) = ((i + 1 : Nat) : Int) by omega]
      exact Ev.now _
    · rw [show ((i : Int) + 1) = ((i + 1 : Nat) : Int) by omega]
      exact refused_l p q h hp n (i + 1) (by omega)
def overR (a b : List Int) : Int := overL 0 (partL a) (partL b)
theorem liOver_ev (a b : List Int) (ha : Sm a) (hb : Sm b) (h : a.length ≤ b.length) : Ev (fun k => spec_liOver.f k a b) (overR a b) := by
  unfold spec_liOver.f
  exact Ev.bind (liPartial_ev a ha) (Ev.bind (liPartial_ev b hb) (liOver_l _ _ (by rw [partL_length, partL_length]; exact h) (by rw [partL_length]; have := ha.1; omega) (partL a).length 0 (by omega)))
theorem refused_ev (a b : List Int) (ha : Sm a) (hb : Sm b) (h : a.length ≤ b.length) : Ev (fun k => impl_refused.f k a b) (overR a b) := by
  unfold impl_refused.f
  exact Ev.bind (partial_ev b hb) (Ev.bind (partial_ev a ha) (refused_l _ _ (by rw [partL_length, partL_length]; exact h) (by rw [partL_length]; have := ha.1; omega) (partL a).length 0 (by omega)))
theorem overL_zero : ∀ (p q : List Int) (i : Int), 0 ≤ i → (overL i p q = 0 ↔ ∀ (j : Nat) (h1 : j < p.length) (h2 : j < q.length), p[j] ≤ q[j])
  | [], q, i, _ => by simp [overL]
  | x :: p, [], i, _ => by simp [overL]
  | x :: p, y :: q, i, h => by
    unfold overL
    by_cases c : x > y
    · rw [if_pos c]
      refine ⟨fun h' => by omega, fun h' => ?_⟩
      have := h' 0 (by simp) (by simp)
      simp only [List.getElem_cons_zero] at this
      omega
    · rw [if_neg c, overL_zero p q (i + 1) (by omega)]
      constructor
      · intro h' j h1 h2
        cases j with
        | zero => simp only [List.getElem_cons_zero]; omega
        | succ j =>
          rw [List.getElem_cons_succ, List.getElem_cons_succ]
          exact h' j (by rw [List.length_cons] at h1; omega) (by rw [List.length_cons] at h2; omega)
      · intro h' j h1 h2
        have h3 := h' (j + 1) (by rw [List.length_cons]; omega) (by rw [List.length_cons]; omega)
        rw [List.getElem_cons_succ, List.getElem_cons_succ] at h3
        exact h3
def majB (a b : List Int) : Bool := if fitB a b = true then (overR a b == 0) else false
theorem liBelow_ev (a b : List Int) (ha : Sm a) (hb : Sm b) : Ev (fun k => spec_liBelow.f k a b) (majB a b) := by
  unfold spec_liBelow.f majB
  exact Ev.bind (liFit_ev a b ha hb) (Ev.ite (fun h => Ev.bind (liOver_ev a b ha hb (by have := (fitB_iff a b).1 h; omega)) (Ev.now _)) (fun _ => Ev.now _))
theorem isMajorized_ev (a b : List Int) (ha : Sm a) (hb : Sm b) : Ev (fun k => impl_isMajorized.f k a b) (majB a b) := by
  unfold impl_isMajorized.f majB
  exact Ev.bind (doFit_ev a b ha hb) (Ev.ite (fun h => Ev.bind (refused_ev a b ha hb (by have := (fitB_iff a b).1 h; omega)) (Ev.now _)) (fun _ => Ev.now _))
theorem majB_iff (a b : List Int) : majB a b = true ↔ a.length = b.length ∧ a.sum = b.sum ∧ ∀ (j : Nat) (h1 : j < (partL a).length) (h2 : j < (partL b).length), (partL a)[j] ≤ (partL b)[j] := by
  unfold majB overR
  by_cases h : fitB a b = true
  · rw [if_pos h, beq_iff_eq, overL_zero _ _ _ (Int.le_refl _)]
    have := (fitB_iff a b).1 h
    simp only [this, true_and]
  · rw [if_neg h]
    rw [fitB_iff] at h
    constructor
    · intro h'
      exact absurd h' (by decide)
    · intro h'
      exact absurd ⟨h'.1, h'.2.1⟩ h
end Go.Proofs.Ytpejdcomdnpclaa.A

namespace Go.Proofs.Ytpejdcomdnpclaa.A
open Go.RowKit Go.Proofs.YtpejdcomdnpclaaW.PrintWords Go.Proofs.YtpejdcomdnpclaaW.PrintLast Go.Proofs.YtpejdcomdnpclaaW.PrintMore
set_option linter.unusedVariables false
set_option linter.unusedSimpArgs false
end Go.Proofs.Ytpejdcomdnpclaa.A

namespace Go.Proofs.Ytpejdcomdnpclaa.A
open Go.RowKit Go.Proofs.YtpejdcomdnpclaaW.PrintWords Go.Proofs.YtpejdcomdnpclaaW.PrintLast Go.Proofs.YtpejdcomdnpclaaW.PrintMore
set_option linter.unusedVariables false
set_option linter.unusedSimpArgs false
def pre (x : List Int) (m : Nat) : Int := (x.take m).sum
theorem pre_zero (x : List Int) : pre x 0 = 0 := rfl
theorem pre_all {x : List Int} {m : Nat} (h : x.length ≤ m) : pre x m = x.sum := by
  unfold pre
  rw [List.take_of_length_le h]
theorem psums_get : ∀ (l : List Int) (s : Int) (j : Nat) (h : j < (psums s l).length), (psums s l)[j] = s + pre l (j + 1)
  | [], s, j, h => by simp [psums] at h
  | x :: l, s, 0, h => by simp [psums, pre]
  | x :: l, s, j + 1, h => by
    have h' : j < (psums (s + x) l).length := by
      rw [psums, List.length_cons] at h
      omega
    have := psums_get l (s + x) j h'
    simp only [psums, List.getElem_cons_succ]
    rw [this]
    simp only [pre, List.take_succ_cons, List.sum_cons]
    omega
/-- Every partial sum of t is at most that of x; the sums are one. -/
def Dom (x t : List Int) : Prop := x.length = t.length ∧ x.sum = t.sum ∧ ∀ m, pre t m ≤ pre x m
theorem majB_dom (a b : List Int) : majB a b = true ↔ Dom (descL b) (descL a) := by
  rw [majB_iff]
  unfold Dom
  rw [descL_length, descL_length, descL_sum, descL_sum]
  constructor
  · rintro ⟨h1, h2, h3⟩
    refine ⟨h1.symm, h2.symm, fun m => ?_⟩
    cases m with
    | zero => rw [pre_zero, pre_zero]; exact Int.le_refl _
    | succ m =>
      by_cases hm : m < a.length
      · have h := h3 m (by rw [partL_length]; exact hm) (by rw [partL_length]; omega)
        unfold partL at h
        rw [psums_get, psums_get] at h
        omega
      · rw [pre_all (by rw [descL_length]; omega), pre_all (by rw [descL_length]; omega), descL_sum, descL_sum]
        omega
  · rintro ⟨h1, h2, h3⟩
    refine ⟨h1.symm, h2.symm, fun j q1 q2 => ?_⟩
    have e1 : (partL a)[j] = 0 + pre (descL a) (j + 1) := psums_get _ _ _ q1
    have e2 : (partL b)[j] = 0 + pre (descL b) (j + 1) := psums_get _ _ _ q2
    have := h3 (j + 1)
    omega
end Go.Proofs.Ytpejdcomdnpclaa.A

namespace Go.Proofs.Ytpejdcomdnpclaa.A
open Go.RowKit Go.Proofs.YtpejdcomdnpclaaW.PrintWords Go.Proofs.YtpejdcomdnpclaaW.PrintLast Go.Proofs.YtpejdcomdnpclaaW.PrintMore
set_option linter.unusedVariables false
set_option linter.unusedSimpArgs false
/-! which lists allL holds, and in which order -/
theorem allGo_mem {F : Int → List (List Int)} {n s : Int} {x : List Int} (hn : 0 ≤ n) : ∀ t : Nat, x ∈ allGo F n s t ↔ ∃ f : Nat, f ≤ t ∧ (f : Int) * n ≥ s ∧ x ∈ F (f : Int)
  | 0 => by
    unfold allGo
    constructor
    · intro h
      split at h
      · next hc => exact ⟨0, Nat.le_refl _, by simpa using hc, by simpa using h⟩
      · simp at h
    · rintro ⟨f, hf, hc, hx⟩
      obtain rfl : f = 0 := by omega
      rw [if_pos (by simpa using hc)]
      simpa using hx
  | t + 1 => by
    have ih := allGo_mem (F := F) (s := s) (x := x) hn t
    unfold allGo
    constructor
    · intro h
      split at h
      · next hc =>
        rcases List.mem_append.1 h with h | h
        · exact ⟨t + 1, Nat.le_refl _, hc, h⟩
        · obtain ⟨f, h1, h2, h3⟩ := ih.1 h
          exact ⟨f, by omega, h2, h3⟩
      · simp at h
    · rintro ⟨f, hf, hc, hx⟩
      have hm : (f : Int) * n ≤ ((t + 1 : Nat) : Int) * n := Int.mul_le_mul_of_nonneg_right (by omega) hn
      rw [if_pos (by omega)]
      by_cases e : f = t + 1
      · subst e
        exact List.mem_append.2 (.inl hx)
      · exact List.mem_append.2 (.inr (ih.2 ⟨f, by omega, hc, hx⟩))
theorem sum_le_of {f : Int} : ∀ y : List Int, (∀ z ∈ y, 0 ≤ z ∧ z ≤ f) → 0 ≤ y.sum ∧ y.sum ≤ f * (y.length : Int)
  | [], _ => by simp
  | z :: y, h => by
    have ih := sum_le_of y (fun w hw => h w (List.mem_cons_of_mem _ hw))
    have := h z List.mem_cons_self
    rw [List.sum_cons, List.length_cons, Int.natCast_succ, Int.mul_add]
    omega
theorem allL_mem : ∀ (n : Nat) (s m : Int) (x : List Int), 0 ≤ s → 0 ≤ m → (x ∈ allL n s m ↔ x.length = n ∧ Desc x ∧ (∀ y ∈ x, 0 ≤ y ∧ y ≤ m) ∧ x.sum = s)
  | 0, s, m, x, hs, hm => by
    unfold allL
    constructor
    · intro h
      split at h
      · next hc =>
        have : x = [] := by simpa using h
        subst this
        exact ⟨rfl, List.Pairwise.nil, by simp, by simp [hc]⟩
      · simp at h
    · rintro ⟨h1, _, _, h4⟩
      have : x = [] := List.length_eq_zero_iff.1 h1
      subst this
      rw [if_pos (by simpa using h4.symm)]
      simp
  | n + 1, s, m, x, hs, hm => by
    unfold allL
    rw [allGo_mem (by omega)]
    constructor
    · rintro ⟨f, hf, hc, hx⟩
      obtain ⟨y, hy, rfl⟩ := List.mem_map.1 hx
      obtain ⟨h1, h2, h3, h4⟩ := (allL_mem n (s - f) f y (by omega) (by omega)).1 hy
      refine ⟨by simp [h1], List.pairwise_cons.2 ⟨fun z hz => (h3 z hz).2, h2⟩, fun z hz => ?_, by rw [List.sum_cons, h4]; omega⟩
      rcases List.mem_cons.1 hz with rfl | hz
      · omega
      · have := h3 z hz
        omega
    · rintro ⟨h1, h2, h3, h4⟩
      cases x with
      | nil => simp at h1
      | cons f y =>
        have hf := h3 f List.mem_cons_self
        have hd := List.pairwise_cons.1 h2
        have hy : ∀ z ∈ y, 0 ≤ z ∧ z ≤ f := fun z hz => ⟨(h3 z (List.mem_cons_of_mem _ hz)).1, hd.1 z hz⟩
        have hl : y.length = n := by simpa using h1
        have hb := sum_le_of y hy
        rw [hl] at hb
        rw [List.sum_cons] at h4
        have e : ((f.toNat : Nat) : Int) = f := by omega
        refine ⟨f.toNat, by omega, ?_, List.mem_map.2 ⟨y, ?_, by rw [e]⟩⟩
        · rw [e, Int.natCast_succ, Int.mul_add]
          omega
        · rw [e]
          exact (allL_mem n (s - f) f y (by omega) hf.1).2 ⟨hl, hd.2, hy, by omega⟩
/-! the lists that are majorized by one -/
def undL (a : List Int) : List (List Int) := (allL a.length a.sum a.sum).filter fun x => majB x a
def belR (a : List Int) : List (List Int) × Bool := if goodL a = true then (if a.sum ≤ 30 then (undL a, true) else ([], false)) else ([], false)
theorem gsum0 {a : List Int} (h : goodL a = true) : 0 ≤ a.sum := by
  have hs := good_sm h
  exact (sum_le_of (f := 1000) a hs.2).1
theorem und_mem {a : List Int} (hg : goodL a = true) (x : List Int) : x ∈ undL a ↔ Desc x ∧ (∀ y ∈ x, 0 ≤ y ∧ y ≤ a.sum) ∧ majB x a = true := by
  unfold undL
  rw [List.mem_filter, allL_mem _ _ _ _ (gsum0 hg) (gsum0 hg)]
  constructor
  · rintro ⟨⟨_, h2, h3, _⟩, h5⟩
    exact ⟨h2, h3, h5⟩
  · rintro ⟨h2, h3, h5⟩
    have := (majB_iff x a).1 h5
    exact ⟨⟨this.1, h2, h3, this.2.1⟩, h5⟩
theorem mem_le_sum {f : Int} : ∀ y : List Int, (∀ z ∈ y, 0 ≤ z) → f ∈ y → f ≤ y.sum
  | [], _, h => by simp at h
  | z :: y, h, hf => by
    have hy : 0 ≤ y.sum := by
      clear hf
      have := fun w hw => h w (List.mem_cons_of_mem z hw)
      clear h
      induction y with
      | nil => simp
      | cons w y ih =>
        have h1 := this w List.mem_cons_self
        have h2 := ih (fun v hv => this v (List.mem_cons_of_mem _ hv))
        rw [List.sum_cons]
        omega
    rw [List.sum_cons]
    rcases List.mem_cons.1 hf with rfl | hf
    · omega
    · have := mem_le_sum y (fun w hw => h w (List.mem_cons_of_mem _ hw)) hf
      have := h z List.mem_cons_self
      omega
theorem maj_rank (a : List Int) : majB (descL a) a = true := (majB_dom _ _).2 (by rw [descL_descL]; exact ⟨rfl, rfl, fun _ => Int.le_refl _⟩)
theorem und_rank {a : List Int} (hg : goodL a = true) : descL a ∈ undL a := by
  have hs := good_sm hg
  refine (und_mem hg _).2 ⟨descL_desc a, fun y hy => ?_, maj_rank a⟩
  have hy := descL_mem.1 hy
  exact ⟨(hs.2 y hy).1, mem_le_sum a (fun z hz => (hs.2 z hz).1) hy⟩
theorem und_pos {a : List Int} (hg : goodL a = true) : 0 < (undL a).length := List.length_pos_of_mem (und_rank hg)
theorem good_len {a : List Int} (h : goodL a = true) : 1 ≤ a.length ∧ a.length ≤ 8 := by
  unfold goodL at h
  split at h
  · omega
  · cases h
theorem all_sm {a : List Int} (hg : goodL a = true) (h30 : a.sum ≤ 30) {x : List Int} (hx : x ∈ allL a.length a.sum a.sum) : Sm x := by
  obtain ⟨h1, _, h3, _⟩ := (allL_mem _ _ _ _ (gsum0 hg) (gsum0 hg)).1 hx
  have := good_len hg
  exact ⟨by omega, fun y hy => by have := h3 y hy; omega⟩
theorem und_bd (a : List Int) (hg : goodL a = true) (h30 : a.sum ≤ 30) : (undL a).length ≤ 852891037441 := by
  have h1 := allL_bd (good_len hg).2 (m := a.sum) h30 (gsum0 hg)
  have h2 := List.length_filter_le (fun x => majB x a) (allL a.length a.sum a.sum)
  unfold undL
  omega
theorem und_good {a : List Int} (hg : goodL a = true) (h30 : a.sum ≤ 30) {x : List Int} (hx : x ∈ undL a) : goodL x = true ∧ Sm x ∧ Desc x ∧ x.length = a.length ∧ x.sum = a.sum := by
  obtain ⟨h1, h2, h3⟩ := (und_mem hg x).1 hx
  obtain ⟨e1, e2, _⟩ := (majB_iff x a).1 h3
  have hl := good_len hg
  have hs : Sm x := ⟨by omega, fun y hy => by have := h2 y hy; omega⟩
  refine ⟨?_, hs, h1, e1, e2⟩
  unfold goodL inR
  rw [if_pos (by omega), List.all_eq_true]
  intro y hy
  have := h2 y hy
  simp
  omega
theorem implBelow_ev (a : List Int) (hg : goodL a = true) (h30 : a.sum ≤ 30) : Ev (fun k => impl_below.f k a) (undL a) := by
  have hs := good_sm hg
  have hl := good_len hg
  have h0 := gsum0 hg
  unfold impl_below.f
  refine Ev.bind (total_ev a hs) (Ev.bind (implAll_ev a.length hl.2 a.sum a.sum h30 h0 h0) ?_)
  have hpos : 0 < (allL a.length a.sum a.sum).length := by
    have := und_pos hg
    have := List.length_filter_le (fun x => majB x a) (allL a.length a.sum a.sum)
    unfold undL at *
    omega
  obtain ⟨K, hK⟩ : ∃ K, ∀ k, K ≤ k → ∀ x ∈ allL a.length a.sum a.sum, impl_isMajorized.f k x a = some (majB x a) := by
    have : ∀ l : List (List Int), (∀ x ∈ l, Sm x) → ∃ K, ∀ k, K ≤ k → ∀ x ∈ l, impl_isMajorized.f k x a = some (majB x a) := by
      intro l
      induction l with
      | nil => exact fun _ => ⟨0, fun _ _ x hx => by simp at hx⟩
      | cons y l ih =>
        intro hl
        obtain ⟨K1, h1⟩ := ih (fun x hx => hl x (List.mem_cons_of_mem _ hx))
        obtain ⟨K2, h2⟩ := isMajorized_ev y a (hl y List.mem_cons_self) hs
        refine ⟨max K1 K2, fun k hk x hx => ?_⟩
        rcases List.mem_cons.1 hx with rfl | hx
        · exact h2 k (by omega)
        · exact h1 k (by omega) x hx
    exact this _ (fun x hx => all_sm hg h30 hx)
  refine ⟨K, fun k hk => ?_⟩
  have e1 : majAll k a (allL a.length a.sum a.sum) = true := List.all_eq_true.2 fun x hx => by rw [hK k hk x hx]; rfl
  have e2 : majKept k a (allL a.length a.sum a.sum) = undL a := List.filter_congr fun x hx => by rw [hK k hk x hx]; cases majB x a <;> rfl
  show (if 0 < (allL a.length a.sum a.sum).length ∧ majAll k a (allL a.length a.sum a.sum) = true then some (majKept k a (allL a.length a.sum a.sum)) else none) = some (undL a)
  rw [if_pos ⟨hpos, e1⟩, e2]
end Go.Proofs.Ytpejdcomdnpclaa.A

namespace Go.Proofs.Ytpejdcomdnpclaa.A
open Go.RowKit Go.Proofs.YtpejdcomdnpclaaW.PrintWords Go.Proofs.YtpejdcomdnpclaaW.PrintLast Go.Proofs.YtpejdcomdnpclaaW.PrintMore
set_option linter.unusedVariables false
set_option linter.unusedSimpArgs false
theorem allL_most (n : Nat) (s m m' : Int) (h1 : s ≤ m) (h2 : s ≤ m') : allL n s m = allL n s m' := by
  cases n with
  | zero => rfl
  | succ n =>
    unfold allL
    rw [show min s m = s by omega, show min s m' = s by omega]
theorem tot_le {l : List (List Int)} {B : Nat} (h : ∀ x ∈ l, x.length ≤ B) : totSS l ≤ B * l.length := by
  induction l with
  | nil => simp [totSS]
  | cons x l ih =>
    have := ih (fun y hy => h y (List.mem_cons_of_mem _ hy))
    have := h x List.mem_cons_self
    simp only [totSS, List.map_cons, List.sum_cons, List.length_cons, Nat.mul_succ] at *
    omega
end Go.Proofs.Ytpejdcomdnpclaa.A

namespace Go.Proofs.Ytpejdcomdnpclaa.A
open Go.RowKit Go.Proofs.YtpejdcomdnpclaaW.PrintWords Go.Proofs.YtpejdcomdnpclaaW.PrintLast Go.Proofs.YtpejdcomdnpclaaW.PrintMore
set_option linter.unusedVariables false
set_option linter.unusedSimpArgs false
theorem eqIntS_l (xs ys : List Int) (hx : xs.length ≤ 9223372036854775807) (hl : xs.length = ys.length) : ∀ (n i : Nat), i + n = xs.length → Ev (fun k => laws_eqIntS.l0 k xs ys (i : Int)) (decide (xs.drop i = ys.drop i))
  | 0, i, h => by
    refine Ev.succ ?_
    simp only [laws_eqIntS.l0, if_neg (show ¬ (i : Int) < (xs.length : Int) by omega)]
    rw [List.drop_eq_nil_of_le (by omega), List.drop_eq_nil_of_le (by omega)]
    exact Ev.now _
  | n + 1, i, h => by
    have hi : i < xs.length := by omega
    have hj : i < ys.length := by omega
    refine Ev.succ ?_
    simp only [laws_eqIntS.l0, if_pos (show (i : Int) < (xs.length : Int) by omega), if_pos (show (i : Int) < (ys.length : Int) by omega), if_pos (show (0 : Int) ≤ (i : Int) by omega), rdn hi, rdn hj, wsucc hi hx]
    rw [List.drop_eq_getElem_cons hi, List.drop_eq_getElem_cons hj]
    by_cases c : xs[i] = ys[i]
    · simp only [c, if_true, List.cons.injEq, true_and]
      exact eqIntS_l xs ys hx hl n (i + 1) (by omega)
    · simp only [c, if_false, List.cons.injEq, false_and, decide_false]
      exact Ev.now _
theorem eqIntS_ev (xs ys : List Int) (hx : xs.length ≤ 9223372036854775807) : Ev (fun k => laws_eqIntS.f k xs ys) (decide (xs = ys)) := by
  unfold laws_eqIntS.f
  by_cases h : xs.length = ys.length
  · simp only [if_pos (show (xs.length : Int) = (ys.length : Int) by omega)]
    exact eqIntS_l xs ys hx h xs.length 0 (by omega)
  · simp only [if_neg (show ¬ (xs.length : Int) = (ys.length : Int) by omega)]
    rw [decide_eq_false (fun e => h (by rw [e]))]
    exact Ev.now _
theorem eqIntS_self (xs : List Int) (hx : xs.length ≤ 9223372036854775807) : Ev (fun k => laws_eqIntS.f k xs xs) true := by
  have h := eqIntS_ev xs xs hx
  rw [decide_eq_true rfl] at h
  exact h
end Go.Proofs.Ytpejdcomdnpclaa.A

namespace Go.Proofs.Ytpejdcomdnpclaa.A
open Go.RowKit Go.Proofs.YtpejdcomdnpclaaW.PrintWords Go.Proofs.YtpejdcomdnpclaaW.PrintLast Go.Proofs.YtpejdcomdnpclaaW.PrintMore
set_option linter.unusedVariables false
set_option linter.unusedSimpArgs false
def marks (a : Int) (n : Nat) : List Int := (List.range n).map fun (j : Nat) => a + (j : Int)
theorem marks_length (a : Int) (n : Nat) : (marks a n).length = n := by simp [marks]
theorem marks_get (a : Int) (n i : Nat) (h : i < (marks a n).length) : (marks a n)[i] = a + (i : Int) := by simp [marks]
theorem markIntS_l (a : Int) (m : Nat) (h0 : 0 ≤ a) (hm : a + m ≤ 9223372036854775807) : ∀ (n i : Nat) (xs : List Int), i + n = m → xs.length = m → xs.take i = (marks a m).take i → Ev (fun k => laws_markIntS.l0 k xs (a + (i : Int)) (i : Int)) (a + (m : Int), marks a m)
  | 0, i, xs, h, hl, ht => by
    refine Ev.succ ?_
    simp only [laws_markIntS.l0, if_neg (show ¬ (i : Int) < (xs.length : Int) by omega)]
    rw [List.take_of_length_le (by omega), List.take_of_length_le (by rw [marks_length]; omega)] at ht
    rw [ht, show i = m by omega]
    exact Ev.now _
  | n + 1, i, xs, h, hl, ht => by
    have hi : i < xs.length := by omega
    refine Ev.succ ?_
    simp only [laws_markIntS.l0, if_pos (show (i : Int) < (xs.length : Int) by omega), if_pos (show (0 : Int) ≤ (i : Int) by omega), wsucc hi (by omega), Int.toNat_natCast, show wrap64 (a + (i : Int) + 1) = a + ((i + 1 : Nat) : Int) from by rw [w64 (by omega) (by omega)]; omega]
    refine markIntS_l a m h0 hm n (i + 1) _ (by omega) (by rw [List.length_set]; exact hl) ?_
    rw [List.take_add_one, List.take_add_one, List.take_set_of_le (Nat.le_refl _), ht]
    congr 1
    rw [List.getElem?_set_self (by omega), List.getElem?_eq_getElem (by rw [marks_length]; omega), marks_get]
theorem markIntS_ev (xs : List Int) (a : Int) (h0 : 0 ≤ a) (hm : a + xs.length ≤ 9223372036854775807) : Ev (fun k => laws_markIntS.f k xs a) (a + (xs.length : Int), marks a xs.length) := by
  have h := markIntS_l a xs.length h0 hm xs.length 0 xs (by omega) rfl (by simp)
  simp only [show a + ((0 : Nat) : Int) = a by omega] at h
  exact h
theorem heldIntS_l (a : Int) (m : Nat) (h0 : 0 ≤ a) (hm : a + m ≤ 9223372036854775807) : ∀ (n i : Nat), i + n = m → Ev (fun k => laws_heldIntS.l0 k (marks a m) (a + (i : Int)) (i : Int)) (a + (m : Int))
  | 0, i, h => by
    refine Ev.succ ?_
    simp only [laws_heldIntS.l0, marks_length, if_neg (show ¬ (i : Int) < (m : Int) by omega)]
    rw [show i = m by omega]
    exact Ev.now _
  | n + 1, i, h => by
    have hi : i < (marks a m).length := by rw [marks_length]; omega
    refine Ev.succ ?_
    simp only [laws_heldIntS.l0, rdn hi, marks_get, marks_length, if_pos (show (i : Int) < (m : Int) by omega), if_pos (show (0 : Int) ≤ (i : Int) by omega), wsucc hi (by rw [marks_length]; omega), if_true, show wrap64 (a + (i : Int) + 1) = a + ((i + 1 : Nat) : Int) from by rw [w64 (by omega) (by omega)]; omega]
    exact heldIntS_l a m h0 hm n (i + 1) (by omega)
theorem heldIntS_ev (a : Int) (m : Nat) (h0 : 0 ≤ a) (hm : a + m ≤ 9223372036854775807) : Ev (fun k => laws_heldIntS.f k (marks a m) a) (a + (m : Int)) := by
  have h := heldIntS_l a m h0 hm m 0 (by omega)
  simp only [show a + ((0 : Nat) : Int) = a by omega] at h
  exact h
end Go.Proofs.Ytpejdcomdnpclaa.A

namespace Go.Proofs.Ytpejdcomdnpclaa.A
open Go.RowKit Go.Proofs.YtpejdcomdnpclaaW.PrintWords Go.Proofs.YtpejdcomdnpclaaW.PrintLast Go.Proofs.YtpejdcomdnpclaaW.PrintMore
set_option linter.unusedVariables false
set_option linter.unusedSimpArgs false
theorem mks_marks (a : Int) (n : Nat) : mks a n = marks a n := rfl
theorem mark_any (xs : List Int) (a : Int) (h0 : 0 ≤ a) (h1 : a + (xs.length : Int) ≤ 9223372036854775807) : ∃ k, laws_markIntS.f k xs a = some (a + (xs.length : Int), mks a xs.length) := Ev.get (markIntS_ev xs a h0 h1)
theorem markSS_get : ∀ (a : Int) (l : List (List Int)) (i : Nat) (h : i < l.length), (markSS a l)[i]'(by rw [markSS_length]; exact h) = mks (a + (totSS (l.take i) : Int)) (l[i]).length
  | a, [], i, h => by simp at h
  | a, x :: l, 0, h => by simp [markSS, totSS]
  | a, x :: l, i + 1, h => by
    have hi : i < l.length := by simpa using h
    have := markSS_get (a + (x.length : Int)) l i hi
    simp only [markSS, List.getElem_cons_succ, List.take_succ_cons]
    rw [this]
    have e : a + (x.length : Int) + (totSS (l.take i) : Int) = a + (totSS (x :: l.take i) : Int) := by simp [totSS]; omega
    rw [e]
theorem rd_L1n {xs : List (List Int)} {i : Nat} (h : i < xs.length) : rd_L1 xs (i : Int) = xs[i] := by
  unfold rd_L1
  rw [Int.toNat_natCast, List.getD_eq_getElem?_getD, List.getElem?_eq_getElem h]
  rfl
theorem heldIntSS_l (a : Int) (L : List (List Int)) (h0 : 0 ≤ a) (hm : a + (totSS L : Int) ≤ 4611686018427387903) (hl : L.length ≤ 4611686018427387903) : ∀ (n i : Nat), i + n = L.length → Ev (fun k => laws_heldIntSS.l0 k (markSS a L) (a + (totSS (L.take i) : Int)) (i : Int)) (a + (totSS L : Int))
  | 0, i, h => by
    refine Ev.succ ?_
    simp only [laws_heldIntSS.l0, markSS_length, if_neg (show ¬ (i : Int) < (L.length : Int) by omega)]
    rw [List.take_of_length_le (by omega)]
    exact Ev.now _
  | n + 1, i, h => by
    have hi : i < L.length := by omega
    have hi' : i < (markSS a L).length := by rw [markSS_length]; exact hi
    have hle := totSS_le L (i + 1)
    rw [totSS_take hi] at hle
    refine Ev.succ ?_
    simp only [laws_heldIntSS.l0, markSS_length, if_pos (show (i : Int) < (L.length : Int) by omega), if_pos (show (0 : Int) ≤ (i : Int) by omega), rd_L1n hi', markSS_get a L i hi, mks_marks, wsucc hi (by omega)]
    refine Ev.bind (heldIntS_ev (a + (totSS (L.take i) : Int)) (L[i]).length (by omega) (by omega)) ?_
    simp only [if_neg (show ¬ a + (totSS (L.take i) : Int) + ((L[i]).length : Int) < 0 by omega)]
    have := heldIntSS_l a L h0 hm hl n (i + 1) (by omega)
    rw [totSS_take hi] at this
    rw [show a + (totSS (L.take i) : Int) + ((L[i]).length : Int) = a + ((totSS (L.take i) + (L[i]).length : Nat) : Int) by omega]
    exact this
theorem heldIntSS_ev (a : Int) (L : List (List Int)) (h0 : 0 ≤ a) (hm : a + (totSS L : Int) ≤ 4611686018427387903) (hl : L.length ≤ 4611686018427387903) : Ev (fun k => laws_heldIntSS.f k (markSS a L) a) (a + (totSS L : Int)) := by
  have h := heldIntSS_l a L h0 hm hl L.length 0 (by omega)
  simp only [List.take_zero] at h
  rw [show a + (totSS ([] : List (List Int)) : Int) = a by simp [totSS]] at h
  exact h
theorem len_tot {l : List (List Int)} {x : List Int} (h : x ∈ l) : x.length ≤ totSS l := by
  induction l with
  | nil => simp at h
  | cons y l ih =>
    simp only [totSS, List.map_cons, List.sum_cons] at *
    rcases List.mem_cons.1 h with rfl | h
    · omega
    · have := ih h
      omega
theorem eqIntSS_l (L : List (List Int)) (hb : totSS L ≤ 4611686018427387903) (hl : L.length ≤ 4611686018427387903) : ∀ (n i : Nat), i + n = L.length → Ev (fun k => laws_eqIntSS.l0 k L L (i : Int)) true
  | 0, i, h => by
    refine Ev.succ ?_
    simp only [laws_eqIntSS.l0, if_neg (show ¬ (i : Int) < (L.length : Int) by omega)]
    exact Ev.now _
  | n + 1, i, h => by
    have hi : i < L.length := by omega
    have hx := len_tot (List.getElem_mem hi)
    refine Ev.succ ?_
    simp only [laws_eqIntSS.l0, if_pos (show (i : Int) < (L.length : Int) by omega), if_pos (show (0 : Int) ≤ (i : Int) by omega), rd_L1n hi, wsucc hi (by omega)]
    refine Ev.bind (eqIntS_self L[i] (by omega)) ?_
    simp only [if_true]
    exact eqIntSS_l L hb hl n (i + 1) (by omega)
theorem eqIntSS_self (L : List (List Int)) (hb : totSS L ≤ 4611686018427387903) (hl : L.length ≤ 4611686018427387903) : Ev (fun k => laws_eqIntSS.f k L L) true := by
  unfold laws_eqIntSS.f
  simp only [if_true]
  exact eqIntSS_l L hb hl L.length 0 (by omega)
end Go.Proofs.Ytpejdcomdnpclaa.A

namespace Go.Proofs.Ytpejdcomdnpclaa.A
open Go.RowKit Go.Proofs.YtpejdcomdnpclaaW.PrintWords Go.Proofs.YtpejdcomdnpclaaW.PrintLast Go.Proofs.YtpejdcomdnpclaaW.PrintMore
set_option linter.unusedVariables false
set_option linter.unusedSimpArgs false
/-! BelowOf -/
theorem specUnder_l (a : List Int) (ha : Sm a) (L : List (List Int)) (hL : ∀ x ∈ L, Sm x) (hl : L.length ≤ 1000000000000) : ∀ (d i : Nat) (acc : List (List Int)), i + d = L.length → acc.length + d ≤ 1000000000000 → Ev (fun k => spec_liUnder.l0 k a acc L (L.length : Int) (i : Int)) (acc ++ (L.drop i).filter fun x => majB x a)
  | 0, i, acc, e, hb => by
    refine Ev.succ ?_
    simp only [spec_liUnder.l0, if_neg (show ¬ (i : Int) < (L.length : Int) by omega)]
    rw [List.drop_eq_nil_of_le (by omega), List.filter_nil, List.append_nil]
    exact Ev.now _
  | d + 1, i, acc, e, hb => by
    have hi : i < L.length := by omega
    refine Ev.succ ?_
    simp only [spec_liUnder.l0, if_pos (show (i : Int) < (L.length : Int) by omega), if_pos (show (0 : Int) ≤ (i : Int) by omega), rd_L1n hi, wsucc hi (by omega)]
    rw [List.drop_eq_getElem_cons hi, List.filter_cons]
    refine Ev.bind (liBelow_ev L[i] a (hL _ (List.getElem_mem hi)) ha) ?_
    cases c : majB L[i] a with
    | true =>
      simp only [if_true, if_pos (show acc.length < 5864062014805 by omega)]
      have := specUnder_l a ha L hL hl d (i + 1) (acc ++ [L[i]]) (by omega) (by rw [List.length_append, List.length_singleton]; omega)
      rw [List.append_assoc] at this
      exact this
    | false =>
      simp only [Bool.false_eq_true, if_false]
      exact specUnder_l a ha L hL hl d (i + 1) acc (by omega) (by omega)
theorem specUnder_ev (a : List Int) (hg : goodL a = true) (h30 : a.sum ≤ 30) : Ev (fun k => spec_liUnder.f k a) (undL a) := by
  have hs := good_sm hg
  have hl := good_len hg
  have h0 := gsum0 hg
  unfold spec_liUnder.f
  have hm := allL_most a.length a.sum 60 a.sum (by omega) (Int.le_refl _)
  have hb := allL_bd hl.2 (m := a.sum) h30 h0
  refine Ev.bind (liSum_ev a hs) (Ev.bind (specAll_ev a.length hl.2 a.sum 60 h30 h0 (by omega)) ?_)
  rw [hm]
  have := specUnder_l a hs (allL a.length a.sum a.sum) (fun x hx => all_sm hg h30 hx) (by omega) (allL a.length a.sum a.sum).length 0 [] (by omega) (by simp; omega)
  rw [List.drop_zero, List.nil_append] at this
  exact this
theorem specBelowOf_ev (a : List Int) (ha : a.length ≤ 1048576) : Ev (fun k => spec_BelowOf.f k a) (belR a) := by
  unfold spec_BelowOf.f belR
  refine Ev.bind (liGood_ev a (by omega)) (Ev.ite (fun hg => ?_) (fun _ => Ev.now _))
  refine Ev.bind (liSum_ev a (good_sm hg)) ?_
  by_cases h : a.sum ≤ 30
  · simp only [if_pos h, if_neg (show ¬ a.sum > 30 by omega)]
    exact Ev.bind (specUnder_ev a hg h) (Ev.now _)
  · simp only [if_neg h, if_pos (show a.sum > 30 by omega)]
    exact Ev.now _
theorem implBelowOf_ev (a : List Int) (ha : a.length ≤ 1048576) : Ev (fun k => impl_BelowOf.f k a) (belR a) := by
  unfold impl_BelowOf.f belR
  refine Ev.bind (implIsList_ev a (by omega)) (Ev.ite (fun hg => ?_) (fun _ => Ev.now _))
  refine Ev.bind (total_ev a (good_sm hg)) ?_
  by_cases h : a.sum ≤ 30
  · simp only [if_pos h, if_neg (show ¬ a.sum > 30 by omega)]
    exact Ev.bind (implBelow_ev a hg h) (Ev.now _)
  · simp only [if_neg h, if_pos (show a.sum > 30 by omega)]
    exact Ev.now _
theorem belR_bd (a : List Int) : totSS (belR a).1 ≤ 8 * 852891037441 ∧ (belR a).1.length ≤ 852891037441 := by
  have h0 : totSS ([] : List (List Int)) ≤ 8 * 852891037441 ∧ ([] : List (List Int)).length ≤ 852891037441 := by simp [totSS]
  unfold belR
  split
  · next hg =>
    split
    · next h =>
      have hb := und_bd a hg h
      have ht := tot_le (l := undL a) (B := 8) (fun x hx => by have := und_good hg h hx; have := good_len hg; omega)
      exact ⟨by show totSS (undL a) ≤ _; omega, hb⟩
    · exact h0
  · exact h0
end Go.Proofs.Ytpejdcomdnpclaa.A

namespace Go.Proofs.Ytpejdcomdnpclaa.A
open Go.RowKit Go.Proofs.YtpejdcomdnpclaaW.PrintWords Go.Proofs.YtpejdcomdnpclaaW.PrintLast Go.Proofs.YtpejdcomdnpclaaW.PrintMore
set_option linter.unusedVariables false
set_option linter.unusedSimpArgs false
theorem toIntS_l (xs : List Int) (hx : xs.length ≤ 35184372088832) : ∀ (n i : Nat) (ys : List Int), i + n = xs.length → ys.length = xs.length → ys.take i = xs.take i → Ev (fun k => laws_toIntS.l0 k xs ys (i : Int)) xs
  | 0, i, ys, h, hl, ht => by
    refine Ev.succ ?_
    simp only [laws_toIntS.l0, if_neg (show ¬ (i : Int) < (xs.length : Int) by omega)]
    rw [List.take_of_length_le (by omega), List.take_of_length_le (by omega)] at ht
    rw [ht]
    exact Ev.now _
  | n + 1, i, ys, h, hl, ht => by
    have hi : i < xs.length := by omega
    refine Ev.succ ?_
    simp only [laws_toIntS.l0, if_pos (show (i : Int) < (xs.length : Int) by omega), if_pos (show (i : Int) < (ys.length : Int) by omega), if_pos (show (0 : Int) ≤ (i : Int) by omega), rdn hi, wsucc hi (by omega), Int.toNat_natCast]
    refine toIntS_l xs hx n (i + 1) _ (by omega) (by rw [List.length_set]; exact hl) ?_
    rw [List.take_add_one, List.take_add_one, List.take_set_of_le (Nat.le_refl _), ht]
    congr 1
    rw [List.getElem?_set_self (by omega), List.getElem?_eq_getElem hi]
theorem toIntS_ev (xs : List Int) (hx : xs.length ≤ 35184372088832) : Ev (fun k => laws_toIntS.f k xs) xs := by
  unfold laws_toIntS.f
  simp only [if_pos (show (0 : Int) ≤ (xs.length : Int) by omega), Int.toNat_natCast, if_pos hx]
  exact toIntS_l xs hx xs.length 0 _ (by omega) (by simp) (by simp)
end Go.Proofs.Ytpejdcomdnpclaa.A

namespace Go.Proofs.Ytpejdcomdnpclaa.A
open Go.RowKit Go.Proofs.YtpejdcomdnpclaaW.PrintWords Go.Proofs.YtpejdcomdnpclaaW.PrintLast Go.Proofs.YtpejdcomdnpclaaW.PrintMore
set_option linter.unusedVariables false
set_option linter.unusedSimpArgs false
set_option maxHeartbeats 8000000 in
set_option maxRecDepth 100000 in
theorem FnExactBelowOf_walk (A0 : Option Addr) (c0 : Nat) (l0 : List Int) (W : World) (hr0 : Kd.C (Kd.int .i64) W A0 l0.length l0) (hc0 : l0.length ≤ c0) (m0 : l0.length ≤ maxLen) :
    Calls Try.prog 3 #[.slice A0 l0.length c0] W fun e w' => e = .returned (.bool true) ∧ Below W.heap.size W w' := by
  have HR0 := Aside0.mk hr0
  have HC0 := Aside0.mk hc0
  have HB := Aside0.mk (Below.refl W.heap.size W)
  (try clear hr0); (try clear hc0)
  by_cases q0 : (l0.length : Int) > 1048576
  · have q0b : decide ((l0.length : Int) > 1048576) = true := decide_eq_true q0
    (try clear q0); (try clear m0)
    go_enter Try.func3, Try.ntmps3
    go_wp2
    go_ret
    exact ⟨rfl, (by repeat (first | (with_reducible first | exact HB.out | apply below_alloc | apply pw_below_drewN | apply below_drew1) | exact HB.out))⟩
  have q0b : decide ((l0.length : Int) > 1048576) = false := decide_eq_false q0
  obtain ⟨kt0, ht0⟩ := Ev.get (toIntS_ev l0 (by omega))
  have AT0 := Aside0.mk ht0
  obtain ⟨kS, hS⟩ := Ev.get (specBelowOf_ev l0 (by omega))
  obtain ⟨kI, hI⟩ := Ev.get (implBelowOf_ev l0 (by omega))
  have hbd := belR_bd l0
  generalize belR l0 = R at hS hI hbd
  obtain ⟨L0, b⟩ := R
  simp only at hbd
  obtain ⟨hb0, hb1⟩ := hbd
  have AS := Aside0.mk hS
  have AI := Aside0.mk hI
  have hbb : (b != b) = false := by simp
  obtain ⟨kAE0, hAE0⟩ := Ev.get (eqIntSS_self L0 (by omega) (by omega))
  obtain ⟨kAE1, hAE1⟩ := Ev.get (eqIntS_self l0 (by omega))
  obtain ⟨T0, hT0⟩ : ∃ T : Int, T = 1 + (l0.length : Int) := ⟨_, rfl⟩
  obtain ⟨kAK0, hAK0⟩ := Ev.get (markIntS_ev l0 1 (by omega) (by omega))
  rw [← hT0] at hAK0
  obtain ⟨M0, hM0⟩ : ∃ M, M = marks 1 l0.length := ⟨_, rfl⟩
  have hM0l : M0.length = l0.length := by rw [hM0, marks_length]
  rw [← hM0] at hAK0
  have qT0 : decide (T0 < 0) = false := decide_eq_false (by omega)
  have qT0n : (T0 != T0) = false := by simp
  obtain ⟨T1, hT1⟩ : ∃ T : Int, T = 1 + (totSS L0 : Int) := ⟨_, rfl⟩
  have hAK1 := fun (v : Value) (W W' : World) (P : Nat → Prop) (hB : Below W.heap.size W W') (hS : Kd.S (Kd.slice 3 (Kd.int .i64)) 22 W' W.heap.size P v L0) => markSS_calls mark_any P v L0 1 W W' (by omega) (by omega) (by omega) hB hS
  rw [← hT1] at hAK1
  obtain ⟨M1, hM1⟩ : ∃ M, M = markSS 1 L0 := ⟨_, rfl⟩
  have hM1l : M1.length = L0.length := by rw [hM1, markSS_length]
  rw [← hM1] at hAK1
  have qT1 : decide (T1 < 0) = false := decide_eq_false (by omega)
  have qT1n : (T1 != T1) = false := by simp
  obtain ⟨kAH1, hhAH1⟩ := Ev.get (heldIntSS_ev 1 L0 (by omega) (by omega) (by omega))
  rw [← hM1, ← hT1] at hhAH1
  have hAH1 : ∀ (A : Option Addr) (c : Nat) (w' : World), (∃ P : Nat → Prop, Kd.S (Kd.slice 3 (Kd.int .i64)) 22 w' W.heap.size P (.slice A L0.length c) M1) → Calls Try.prog 13 #[.slice A L0.length c, .int .i64 1] w' fun e w'' => e = .returned (.int .i64 T1) ∧ Drawn0 w' w'' := fun A c w' hS' => by
    obtain ⟨P, hS⟩ := hS'
    have h1 := (Kd.S_reads' hS).2
    rw [← hM1l] at h1 ⊢
    exact laws_heldIntSS.calls kAH1 A c M1 1 T1 w' h1.2 h1.1 hhAH1
  have AE0 := Aside0.mk hAE0
  have AE1 := Aside0.mk hAE1
  have AK0 := Aside0.mk hAK0
  have AK1 := Aside0.mk hAK1
  have AH1 := Aside0.mk hAH1
  obtain ⟨n0, hn0⟩ : ∃ n, n = W.heap.size := ⟨_, rfl⟩
  have HN := Aside0.mk (Nat.le_of_eq hn0)
  (try clear hAE0); (try clear hAE1); (try clear hAK0); (try clear hAK1); (try clear hAH1); (try clear hhAH1); (try clear hT0); (try clear hM0); (try clear hT1); (try clear hM1); (try clear hM0l); (try clear hM1l); (try clear hS); (try clear hI); (try clear hn0); (try clear hb0); (try clear hb1); (try clear ht0); (try clear m0); (try clear q0)
  go_enter Try.func3, Try.ntmps3
  go_upto_region 4 with (first | ((with_reducible refine gate_callee (f := 7) rfl ?_); refine goesL_ (some 18) rfl rfl Try.func7 (by kernel_rfl) rfl #[.slice A0 l0.length c0] rfl (by (try simp only [List.map_toArray, List.map_cons, List.map_nil]); first | done | rfl | (simp only [List.length_drop, List.length_take]; rfl)) ?_; (with_reducible refine (laws_toIntS.calls kt0 _ _ l0 l0 _ ?side1 ?side2 AT0.out).mono ?_); (case side1 => exact (Kd.C_below HR0.out (by repeat (first | (with_reducible first | exact HB.out | apply below_alloc | apply pw_below_drewN | apply below_drew1) | exact HB.out)))); (case side2 => exact HC0.out); rintro e w1 ⟨vv0, rfl, ho0, hb⟩; refine ⟨_, rfl, ?_⟩; obtain ⟨n1, hn_⟩ : ∃ n, n = w1.heap.size := ⟨_, rfl⟩; have HLn1 := Aside0.mk (show n0 ≤ n1 from Nat.le_trans HN.out (Nat.le_trans hb.size (Nat.le_of_eq hn_.symm))); have HV0 := Aside0.mk (Kd.R_mono (ok' := fun k => n0 ≤ k ∧ k < n1) (Kd.R_lower (Kd.R_bound ho0) (below_size (by repeat (first | (with_reducible first | exact HB.out | apply below_alloc | apply pw_below_drewN | apply below_drew1) | exact HB.out)))) (fun k hk => ⟨Nat.le_trans HN.out hk.2.1, by have := hk.2.2.1; omega⟩)); have HB2 := Aside0.mk (below_step (by repeat (first | (with_reducible first | exact HB.out | apply below_alloc | apply pw_below_drewN | apply below_drew1) | exact HB.out)) hb); have HN2_ := Aside0.mk (Nat.le_of_eq hn_); clear HB HN hb hn_ ho0; have HB := HB2; have HN := HN2_; clear HB2 HN2_ ; obtain ⟨B0, cc0, es_⟩ := Kd.R_slice HV0.out; subst es_) | ((with_reducible refine gate_callee (f := 6) rfl ?_); refine goesL_ (some 19) rfl rfl Try.func6 (by kernel_rfl) rfl #[.slice B0 l0.length cc0] rfl (by (try simp only [List.map_toArray, List.map_cons, List.map_nil]); first | done | rfl | (simp only [List.length_drop, List.length_take]; rfl)) ?_; (with_reducible refine (spec_BelowOf.calls kS _ _ l0 L0 b _ ?side1 ?side2 AS.out).mono ?_); (case side1 => exact (Kd.R_reads' (by (with_reducible repeat (first | apply Kd.R_alloc | apply Kd.R_drewN | apply Kd.R_drew)); exact HV0.out)).2.2); (case side2 => exact (Kd.R_reads' HV0.out).2.1); rintro e w2 ⟨vv0, rfl, ho0, hb⟩; refine ⟨_, rfl, ?_⟩; obtain ⟨n2, hn_⟩ : ∃ n, n = w2.heap.size := ⟨_, rfl⟩; have HLn2 := Aside0.mk (show n1 ≤ n2 from Nat.le_trans HN.out (Nat.le_trans hb.size (Nat.le_of_eq hn_.symm))); have HV1 := Aside0.mk (Kd.N_mono (ok' := fun k => n1 ≤ k ∧ k < n2) (Kd.N_lower (Kd.N_bound ho0) (below_size (by repeat (first | (with_reducible first | exact HB.out | apply below_alloc | apply pw_below_drewN | apply below_drew1) | exact HB.out)))) (fun k hk => ⟨Nat.le_trans HN.out hk.1, by have := hk.2; omega⟩)); have HV02 := Aside0.mk (Kd.R_below (by (with_reducible repeat (first | apply Kd.R_alloc | apply Kd.R_drewN | apply Kd.R_drew)); exact HV0.out) hb); have HB2 := Aside0.mk (below_step (by repeat (first | (with_reducible first | exact HB.out | apply below_alloc | apply pw_below_drewN | apply below_drew1) | exact HB.out)) hb); have HN2_ := Aside0.mk (Nat.le_of_eq hn_); clear HB HN hb hn_ ho0 HV0; have HB := HB2; have HN := HN2_; have HV0 := HV02; clear HB2 HN2_ HV02; obtain ⟨B1, cc1, es_⟩ := Kd.N_slice HV1.out; subst es_))
  go_upto_region 5 with (first | ((with_reducible refine gate_callee (f := 7) rfl ?_); refine goesL_ (some 23) rfl rfl Try.func7 (by kernel_rfl) rfl #[.slice A0 l0.length c0] rfl (by (try simp only [List.map_toArray, List.map_cons, List.map_nil]); first | done | rfl | (simp only [List.length_drop, List.length_take]; rfl)) ?_; (with_reducible refine (laws_toIntS.calls kt0 _ _ l0 l0 _ ?side1 ?side2 AT0.out).mono ?_); (case side1 => exact (Kd.C_below HR0.out (by repeat (first | (with_reducible first | exact HB.out | apply below_alloc | apply pw_below_drewN | apply below_drew1) | exact HB.out)))); (case side2 => exact HC0.out); rintro e w3 ⟨vv0, rfl, ho0, hb⟩; refine ⟨_, rfl, ?_⟩; obtain ⟨n3, hn_⟩ : ∃ n, n = w3.heap.size := ⟨_, rfl⟩; have HLn3 := Aside0.mk (show n2 ≤ n3 from Nat.le_trans HN.out (Nat.le_trans hb.size (Nat.le_of_eq hn_.symm))); have HV2 := Aside0.mk (Kd.R_mono (ok' := fun k => n2 ≤ k ∧ k < n3) (Kd.R_lower (Kd.R_bound ho0) (below_size (by repeat (first | (with_reducible first | exact HB.out | apply below_alloc | apply pw_below_drewN | apply below_drew1) | exact HB.out)))) (fun k hk => ⟨Nat.le_trans HN.out hk.2.1, by have := hk.2.2.1; omega⟩)); have HV02 := Aside0.mk (Kd.R_below (by (with_reducible repeat (first | apply Kd.R_alloc | apply Kd.R_drewN | apply Kd.R_drew)); exact HV0.out) hb); have HV12 := Aside0.mk (Kd.N_below (by (with_reducible repeat (first | apply Kd.N_alloc | apply Kd.N_drewN | apply Kd.N_drew)); exact HV1.out) hb); have HB2 := Aside0.mk (below_step (by repeat (first | (with_reducible first | exact HB.out | apply below_alloc | apply pw_below_drewN | apply below_drew1) | exact HB.out)) hb); have HN2_ := Aside0.mk (Nat.le_of_eq hn_); clear HB HN hb hn_ ho0 HV0 HV1; have HB := HB2; have HN := HN2_; have HV0 := HV02; have HV1 := HV12; clear HB2 HN2_ HV02 HV12; obtain ⟨B2, cc2, es_⟩ := Kd.R_slice HV2.out; subst es_))
  go_upto_region 6 with (first | ((with_reducible refine gate_callee (f := 8) rfl ?_); refine goesL_ (some 26) rfl rfl Try.func8 (by kernel_rfl) rfl #[.slice B2 l0.length cc2] rfl (by (try simp only [List.map_toArray, List.map_cons, List.map_nil]); first | done | rfl | (simp only [List.length_drop, List.length_take]; rfl)) ?_; (with_reducible refine (impl_BelowOf.calls kI _ _ l0 L0 b _ ?side1 ?side2 AI.out).mono ?_); (case side1 => exact (Kd.R_reads' (by (with_reducible repeat (first | apply Kd.R_alloc | apply Kd.R_drewN | apply Kd.R_drew)); exact HV2.out)).2.2); (case side2 => exact (Kd.R_reads' HV2.out).2.1); rintro e w4 ⟨vv0, rfl, ho0, hb⟩; refine ⟨_, rfl, ?_⟩; obtain ⟨n4, hn_⟩ : ∃ n, n = w4.heap.size := ⟨_, rfl⟩; have HLn4 := Aside0.mk (show n3 ≤ n4 from Nat.le_trans HN.out (Nat.le_trans hb.size (Nat.le_of_eq hn_.symm))); have HV3 := Aside0.mk (Kd.S_mono (ok' := fun k => n3 ≤ k ∧ k < n4) (Kd.S_lower (Kd.S_bound ho0) (below_size (by repeat (first | (with_reducible first | exact HB.out | apply below_alloc | apply pw_below_drewN | apply below_drew1) | exact HB.out)))) (fun k hk => ⟨Nat.le_trans HN.out hk.2.1, by have := hk.2.2.1; omega⟩)); have HV02 := Aside0.mk (Kd.R_below (by (with_reducible repeat (first | apply Kd.R_alloc | apply Kd.R_drewN | apply Kd.R_drew)); exact HV0.out) hb); have HV12 := Aside0.mk (Kd.N_below (by (with_reducible repeat (first | apply Kd.N_alloc | apply Kd.N_drewN | apply Kd.N_drew)); exact HV1.out) hb); have HV22 := Aside0.mk (Kd.R_below (by (with_reducible repeat (first | apply Kd.R_alloc | apply Kd.R_drewN | apply Kd.R_drew)); exact HV2.out) hb); have HB2 := Aside0.mk (below_step (by repeat (first | (with_reducible first | exact HB.out | apply below_alloc | apply pw_below_drewN | apply below_drew1) | exact HB.out)) hb); have HN2_ := Aside0.mk (Nat.le_of_eq hn_); clear HB HN hb hn_ ho0 HV0 HV1 HV2; have HB := HB2; have HN := HN2_; have HV0 := HV02; have HV1 := HV12; have HV2 := HV22; clear HB2 HN2_ HV02 HV12 HV22; obtain ⟨B3, cc3, es_⟩ := Kd.S_slice HV3.out; subst es_))
  go_upto_region 8 with (first | ((with_reducible refine gate_callee (f := 9) rfl ?_); refine goesL_ (some 31) rfl rfl Try.func9 (by kernel_rfl) rfl #[.slice B3 L0.length cc3, .slice B1 L0.length cc1] rfl (by (try simp only [List.map_toArray, List.map_cons, List.map_nil]); first | done | rfl | (simp only [List.length_drop, List.length_take]; rfl)) ?_; (with_reducible refine (laws_eqIntSS.calls kAE0 _ _ L0 _ _ L0 true _ ?side1 ?side2 ?side3 ?side4 AE0.out).mono ?_); (case side1 => exact (Kd.S_reads' (by (with_reducible repeat (first | apply Kd.S_alloc | apply Kd.S_drewN | apply Kd.S_drew)); exact HV3.out)).2.2); (case side2 => exact (Kd.S_reads' HV3.out).2.1); (case side3 => exact (Kd.N_reads' (by (with_reducible repeat (first | apply Kd.N_alloc | apply Kd.N_drewN | apply Kd.N_drew)); exact HV1.out)).2.2); (case side4 => exact (Kd.N_reads' HV1.out).2.1); rintro e w' ⟨rfl, ⟨nd, rfl⟩⟩; refine ⟨_, rfl, ?_⟩))
  go_upto_region 11 with (first | ((with_reducible refine gate_callee (f := 7) rfl ?_); refine goesL_ (some 40) rfl rfl Try.func7 (by kernel_rfl) rfl #[.slice A0 l0.length c0] rfl (by (try simp only [List.map_toArray, List.map_cons, List.map_nil]); first | done | rfl | (simp only [List.length_drop, List.length_take]; rfl)) ?_; (with_reducible refine (laws_toIntS.calls kt0 _ _ l0 l0 _ ?side1 ?side2 AT0.out).mono ?_); (case side1 => exact (Kd.C_below HR0.out (by repeat (first | (with_reducible first | exact HB.out | apply below_alloc | apply pw_below_drewN | apply below_drew1) | exact HB.out)))); (case side2 => exact HC0.out); rintro e w5 ⟨vv0, rfl, ho0, hb⟩; refine ⟨_, rfl, ?_⟩; obtain ⟨n5, hn_⟩ : ∃ n, n = w5.heap.size := ⟨_, rfl⟩; have HLn5 := Aside0.mk (show n4 ≤ n5 from Nat.le_trans HN.out (Nat.le_trans hb.size (Nat.le_of_eq hn_.symm))); have HV4 := Aside0.mk (Kd.R_mono (ok' := fun k => n4 ≤ k ∧ k < n5) (Kd.R_lower (Kd.R_bound ho0) (below_size (by repeat (first | (with_reducible first | exact HB.out | apply below_alloc | apply pw_below_drewN | apply below_drew1) | exact HB.out)))) (fun k hk => ⟨Nat.le_trans HN.out hk.2.1, by have := hk.2.2.1; omega⟩)); have HV02 := Aside0.mk (Kd.R_below (by (with_reducible repeat (first | apply Kd.R_alloc | apply Kd.R_drewN | apply Kd.R_drew)); exact HV0.out) hb); have HV12 := Aside0.mk (Kd.N_below (by (with_reducible repeat (first | apply Kd.N_alloc | apply Kd.N_drewN | apply Kd.N_drew)); exact HV1.out) hb); have HV22 := Aside0.mk (Kd.R_below (by (with_reducible repeat (first | apply Kd.R_alloc | apply Kd.R_drewN | apply Kd.R_drew)); exact HV2.out) hb); have HV32 := Aside0.mk (Kd.S_below (by (with_reducible repeat (first | apply Kd.S_alloc | apply Kd.S_drewN | apply Kd.S_drew)); exact HV3.out) hb); have HB2 := Aside0.mk (below_step (by repeat (first | (with_reducible first | exact HB.out | apply below_alloc | apply pw_below_drewN | apply below_drew1) | exact HB.out)) hb); have HN2_ := Aside0.mk (Nat.le_of_eq hn_); clear HB HN hb hn_ ho0 HV0 HV1 HV2 HV3; have HB := HB2; have HN := HN2_; have HV0 := HV02; have HV1 := HV12; have HV2 := HV22; have HV3 := HV32; clear HB2 HN2_ HV02 HV12 HV22 HV32; obtain ⟨B4, cc4, es_⟩ := Kd.R_slice HV4.out; subst es_) | ((with_reducible refine gate_callee (f := 10) rfl ?_); refine goesL_ (some 41) rfl rfl Try.func10 (by kernel_rfl) rfl #[.slice B2 l0.length cc2, .slice B4 l0.length cc4] rfl (by (try simp only [List.map_toArray, List.map_cons, List.map_nil]); first | done | rfl | (simp only [List.length_drop, List.length_take]; rfl)) ?_; (with_reducible refine (laws_eqIntS.calls kAE1 _ _ l0 _ _ l0 true _ ?side1 ?side2 ?side3 ?side4 AE1.out).mono ?_); (case side1 => exact (Kd.R_reads' (by (with_reducible repeat (first | apply Kd.R_alloc | apply Kd.R_drewN | apply Kd.R_drew)); exact HV2.out)).2.2); (case side2 => exact (Kd.R_reads' HV2.out).2.1); (case side3 => exact (Kd.R_reads' (by (with_reducible repeat (first | apply Kd.R_alloc | apply Kd.R_drewN | apply Kd.R_drew)); exact HV4.out)).2.2); (case side4 => exact (Kd.R_reads' HV4.out).2.1); rintro e w' ⟨rfl, ⟨nd, rfl⟩⟩; refine ⟨_, rfl, ?_⟩))
  go_upto_region 12 with (first | ((with_reducible refine gate_callee (f := 11) rfl ?_); refine goesL_ (some 45) rfl rfl Try.func11 (by kernel_rfl) rfl #[.slice B2 l0.length cc2, .int .i64 1] rfl (by (try simp only [List.map_toArray, List.map_cons, List.map_nil]); first | done | rfl | (simp only [List.length_drop, List.length_take]; rfl)) ?_; (with_reducible refine (laws_markIntS.calls kAK0 (fun k => n2 ≤ k ∧ k < n3) _ l0 1 T0 M0 W _ ?side1 ?side2 AK0.out).mono ?_); (case side1 => exact (by repeat (first | (with_reducible first | exact HB.out | apply below_alloc | apply pw_below_drewN | apply below_drew1) | exact HB.out))); (case side2 => exact (by (with_reducible repeat (first | apply Kd.R_alloc | apply Kd.R_drewN | apply Kd.R_drew)); exact HV2.out)); rintro e w6 ⟨rfl, ho, hb, hk⟩; refine ⟨_, rfl, ?_⟩; have HV02 := Aside0.mk (Kd.R_kept (by (with_reducible repeat (first | apply Kd.R_alloc | apply Kd.R_drewN | apply Kd.R_drew)); exact HV0.out) hk (fun k h1 h2 => by obtain ⟨a1, a2⟩ := h1; obtain ⟨b1, b2⟩ := h2; have zn1 := HLn1.out; have zn2 := HLn2.out; have zn3 := HLn3.out; have zn4 := HLn4.out; have zn5 := HLn5.out; omega)); have HV12 := Aside0.mk (Kd.N_kept (by (with_reducible repeat (first | apply Kd.N_alloc | apply Kd.N_drewN | apply Kd.N_drew)); exact HV1.out) hk (fun k h1 h2 => by obtain ⟨a1, a2⟩ := h1; obtain ⟨b1, b2⟩ := h2; have zn1 := HLn1.out; have zn2 := HLn2.out; have zn3 := HLn3.out; have zn4 := HLn4.out; have zn5 := HLn5.out; omega)); have HV32 := Aside0.mk (Kd.S_kept (by (with_reducible repeat (first | apply Kd.S_alloc | apply Kd.S_drewN | apply Kd.S_drew)); exact HV3.out) hk (fun k h1 h2 => by obtain ⟨a1, a2⟩ := h1; obtain ⟨b1, b2⟩ := h2; have zn1 := HLn1.out; have zn2 := HLn2.out; have zn3 := HLn3.out; have zn4 := HLn4.out; have zn5 := HLn5.out; omega)); have HV42 := Aside0.mk (Kd.R_kept (by (with_reducible repeat (first | apply Kd.R_alloc | apply Kd.R_drewN | apply Kd.R_drew)); exact HV4.out) hk (fun k h1 h2 => by obtain ⟨a1, a2⟩ := h1; obtain ⟨b1, b2⟩ := h2; have zn1 := HLn1.out; have zn2 := HLn2.out; have zn3 := HLn3.out; have zn4 := HLn4.out; have zn5 := HLn5.out; omega)); have HO2_ := Aside0.mk ho; have HB2 := Aside0.mk hb; have HN2_ := Aside0.mk (Nat.le_trans HN.out hk.1); clear ho hb hk HB HN HV0 HV1 HV2 HV3 HV4; have HB := HB2; have HN := HN2_; have HV0 := HV02; have HV1 := HV12; have HV3 := HV32; have HV4 := HV42; clear HB2 HN2_ HO2_ HV02 HV12 HV32 HV42))
  go_upto_region 15 with (first | (go_at_call 9; (with_reducible refine (laws_eqIntSS.calls kAE0 _ _ L0 _ _ L0 true _ ?side1 ?side2 ?side3 ?side4 AE0.out).mono ?_); (case side1 => exact (Kd.S_reads' (by (with_reducible repeat (first | apply Kd.S_alloc | apply Kd.S_drewN | apply Kd.S_drew)); exact HV3.out)).2.2); (case side2 => exact (Kd.S_reads' HV3.out).2.1); (case side3 => exact (Kd.N_reads' (by (with_reducible repeat (first | apply Kd.N_alloc | apply Kd.N_drewN | apply Kd.N_drew)); exact HV1.out)).2.2); (case side4 => exact (Kd.N_reads' HV1.out).2.1); rintro e w' ⟨rfl, ⟨nd, rfl⟩⟩))
  go_upto_region 17 with (first | ((with_reducible refine gate_callee (f := 12) rfl ?_); refine goesL_ (some 61) rfl rfl Try.func12 (by kernel_rfl) rfl #[.slice B3 L0.length cc3, .int .i64 1] rfl (by (try simp only [List.map_toArray, List.map_cons, List.map_nil]); first | done | rfl | (simp only [List.length_drop, List.length_take]; rfl)) ?_; (with_reducible refine (AK1.out _ W _ (fun k => n3 ≤ k ∧ k < n4) ?side1 ?side2).mono ?_); (case side1 => exact (by repeat (first | (with_reducible first | exact HB.out | apply below_alloc | apply pw_below_drewN | apply below_drew1) | exact HB.out))); (case side2 => exact (by (with_reducible repeat (first | apply Kd.S_alloc | apply Kd.S_drewN | apply Kd.S_drew)); exact HV3.out)); rintro e w7 ⟨rfl, ho, hb, hk⟩; refine ⟨_, rfl, ?_⟩; have HV02 := Aside0.mk (Kd.R_kept (by (with_reducible repeat (first | apply Kd.R_alloc | apply Kd.R_drewN | apply Kd.R_drew)); exact HV0.out) hk (fun k h1 h2 => by obtain ⟨a1, a2⟩ := h1; obtain ⟨b1, b2⟩ := h2; have zn1 := HLn1.out; have zn2 := HLn2.out; have zn3 := HLn3.out; have zn4 := HLn4.out; have zn5 := HLn5.out; omega)); have HV12 := Aside0.mk (Kd.N_kept (by (with_reducible repeat (first | apply Kd.N_alloc | apply Kd.N_drewN | apply Kd.N_drew)); exact HV1.out) hk (fun k h1 h2 => by obtain ⟨a1, a2⟩ := h1; obtain ⟨b1, b2⟩ := h2; have zn1 := HLn1.out; have zn2 := HLn2.out; have zn3 := HLn3.out; have zn4 := HLn4.out; have zn5 := HLn5.out; omega)); have HV42 := Aside0.mk (Kd.R_kept (by (with_reducible repeat (first | apply Kd.R_alloc | apply Kd.R_drewN | apply Kd.R_drew)); exact HV4.out) hk (fun k h1 h2 => by obtain ⟨a1, a2⟩ := h1; obtain ⟨b1, b2⟩ := h2; have zn1 := HLn1.out; have zn2 := HLn2.out; have zn3 := HLn3.out; have zn4 := HLn4.out; have zn5 := HLn5.out; omega)); have HO2_ := Aside0.mk ho; have HB2 := Aside0.mk hb; have HN2_ := Aside0.mk (Nat.le_trans HN.out hk.1); clear ho hb hk HB HN HV0 HV1 HV3 HV4; have HB := HB2; have HN := HN2_; have HV0 := HV02; have HV1 := HV12; have HV4 := HV42; have HV3 := HO2_; clear HB2 HN2_ HO2_ HV02 HV12 HV42))
  go_upto_region 22 with (first | ((with_reducible refine gate_callee (f := 13) rfl ?_); refine goesL_ (some 64) rfl rfl Try.func13 (by kernel_rfl) rfl #[.slice B3 L0.length cc3, .int .i64 1] rfl (by (try simp only [List.map_toArray, List.map_cons, List.map_nil]); first | done | rfl | (simp only [List.length_drop, List.length_take]; rfl)) ?_; (with_reducible refine (AH1.out B3 cc3 _ ?side1).mono ?_); (case side1 => exact ⟨_, (by (with_reducible repeat (first | apply Kd.S_alloc | apply Kd.S_drewN | apply Kd.S_drew)); exact HV3.out)⟩); rintro e w' ⟨rfl, ⟨nd, rfl⟩⟩; refine ⟨_, rfl, ?_⟩))
  go_upto_region 23 with (first | ((with_reducible refine gate_callee (f := 7) rfl ?_); refine goesL_ (some 72) rfl rfl Try.func7 (by kernel_rfl) rfl #[.slice A0 l0.length c0] rfl (by (try simp only [List.map_toArray, List.map_cons, List.map_nil]); first | done | rfl | (simp only [List.length_drop, List.length_take]; rfl)) ?_; (with_reducible refine (laws_toIntS.calls kt0 _ _ l0 l0 _ ?side1 ?side2 AT0.out).mono ?_); (case side1 => exact (Kd.C_below HR0.out (by repeat (first | (with_reducible first | exact HB.out | apply below_alloc | apply pw_below_drewN | apply below_drew1) | exact HB.out)))); (case side2 => exact HC0.out); rintro e w8 ⟨vv0, rfl, ho0, hb⟩; refine ⟨_, rfl, ?_⟩; obtain ⟨n6, hn_⟩ : ∃ n, n = w8.heap.size := ⟨_, rfl⟩; have HLn6 := Aside0.mk (show n5 ≤ n6 from Nat.le_trans HN.out (Nat.le_trans hb.size (Nat.le_of_eq hn_.symm))); have HV5 := Aside0.mk (Kd.R_mono (ok' := fun k => n5 ≤ k ∧ k < n6) (Kd.R_lower (Kd.R_bound ho0) (below_size (by repeat (first | (with_reducible first | exact HB.out | apply below_alloc | apply pw_below_drewN | apply below_drew1) | exact HB.out)))) (fun k hk => ⟨Nat.le_trans HN.out hk.2.1, by have := hk.2.2.1; omega⟩)); have HV02 := Aside0.mk (Kd.R_below (by (with_reducible repeat (first | apply Kd.R_alloc | apply Kd.R_drewN | apply Kd.R_drew)); exact HV0.out) hb); have HV12 := Aside0.mk (Kd.N_below (by (with_reducible repeat (first | apply Kd.N_alloc | apply Kd.N_drewN | apply Kd.N_drew)); exact HV1.out) hb); have HV32 := Aside0.mk (Kd.S_below (by (with_reducible repeat (first | apply Kd.S_alloc | apply Kd.S_drewN | apply Kd.S_drew)); exact HV3.out) hb); have HV42 := Aside0.mk (Kd.R_below (by (with_reducible repeat (first | apply Kd.R_alloc | apply Kd.R_drewN | apply Kd.R_drew)); exact HV4.out) hb); have HB2 := Aside0.mk (below_step (by repeat (first | (with_reducible first | exact HB.out | apply below_alloc | apply pw_below_drewN | apply below_drew1) | exact HB.out)) hb); have HN2_ := Aside0.mk (Nat.le_of_eq hn_); clear HB HN hb hn_ ho0 HV0 HV1 HV3 HV4; have HB := HB2; have HN := HN2_; have HV0 := HV02; have HV1 := HV12; have HV3 := HV32; have HV4 := HV42; clear HB2 HN2_ HV02 HV12 HV32 HV42; obtain ⟨B5, cc5, es_⟩ := Kd.R_slice HV5.out; subst es_) | ((with_reducible refine gate_callee (f := 8) rfl ?_); refine goesL_ (some 73) rfl rfl Try.func8 (by kernel_rfl) rfl #[.slice B5 l0.length cc5] rfl (by (try simp only [List.map_toArray, List.map_cons, List.map_nil]); first | done | rfl | (simp only [List.length_drop, List.length_take]; rfl)) ?_; (with_reducible refine (impl_BelowOf.calls kI _ _ l0 L0 b _ ?side1 ?side2 AI.out).mono ?_); (case side1 => exact (Kd.R_reads' (by (with_reducible repeat (first | apply Kd.R_alloc | apply Kd.R_drewN | apply Kd.R_drew)); exact HV5.out)).2.2); (case side2 => exact (Kd.R_reads' HV5.out).2.1); rintro e w9 ⟨vv0, rfl, ho0, hb⟩; refine ⟨_, rfl, ?_⟩; obtain ⟨n7, hn_⟩ : ∃ n, n = w9.heap.size := ⟨_, rfl⟩; have HLn7 := Aside0.mk (show n6 ≤ n7 from Nat.le_trans HN.out (Nat.le_trans hb.size (Nat.le_of_eq hn_.symm))); have HV6 := Aside0.mk (Kd.S_mono (ok' := fun k => n6 ≤ k ∧ k < n7) (Kd.S_lower (Kd.S_bound ho0) (below_size (by repeat (first | (with_reducible first | exact HB.out | apply below_alloc | apply pw_below_drewN | apply below_drew1) | exact HB.out)))) (fun k hk => ⟨Nat.le_trans HN.out hk.2.1, by have := hk.2.2.1; omega⟩)); have HV02 := Aside0.mk (Kd.R_below (by (with_reducible repeat (first | apply Kd.R_alloc | apply Kd.R_drewN | apply Kd.R_drew)); exact HV0.out) hb); have HV12 := Aside0.mk (Kd.N_below (by (with_reducible repeat (first | apply Kd.N_alloc | apply Kd.N_drewN | apply Kd.N_drew)); exact HV1.out) hb); have HV32 := Aside0.mk (Kd.S_below (by (with_reducible repeat (first | apply Kd.S_alloc | apply Kd.S_drewN | apply Kd.S_drew)); exact HV3.out) hb); have HV42 := Aside0.mk (Kd.R_below (by (with_reducible repeat (first | apply Kd.R_alloc | apply Kd.R_drewN | apply Kd.R_drew)); exact HV4.out) hb); have HV52 := Aside0.mk (Kd.R_below (by (with_reducible repeat (first | apply Kd.R_alloc | apply Kd.R_drewN | apply Kd.R_drew)); exact HV5.out) hb); have HB2 := Aside0.mk (below_step (by repeat (first | (with_reducible first | exact HB.out | apply below_alloc | apply pw_below_drewN | apply below_drew1) | exact HB.out)) hb); have HN2_ := Aside0.mk (Nat.le_of_eq hn_); clear HB HN hb hn_ ho0 HV0 HV1 HV3 HV4 HV5; have HB := HB2; have HN := HN2_; have HV0 := HV02; have HV1 := HV12; have HV3 := HV32; have HV4 := HV42; have HV5 := HV52; clear HB2 HN2_ HV02 HV12 HV32 HV42 HV52; obtain ⟨B6, cc6, es_⟩ := Kd.S_slice HV6.out; subst es_))
  go_upto_region 26 with (first | ((with_reducible refine gate_callee (f := 9) rfl ?_); refine goesL_ (some 78) rfl rfl Try.func9 (by kernel_rfl) rfl #[.slice B6 L0.length cc6, .slice B1 L0.length cc1] rfl (by (try simp only [List.map_toArray, List.map_cons, List.map_nil]); first | done | rfl | (simp only [List.length_drop, List.length_take]; rfl)) ?_; (with_reducible refine (laws_eqIntSS.calls kAE0 _ _ L0 _ _ L0 true _ ?side1 ?side2 ?side3 ?side4 AE0.out).mono ?_); (case side1 => exact (Kd.S_reads' (by (with_reducible repeat (first | apply Kd.S_alloc | apply Kd.S_drewN | apply Kd.S_drew)); exact HV6.out)).2.2); (case side2 => exact (Kd.S_reads' HV6.out).2.1); (case side3 => exact (Kd.N_reads' (by (with_reducible repeat (first | apply Kd.N_alloc | apply Kd.N_drewN | apply Kd.N_drew)); exact HV1.out)).2.2); (case side4 => exact (Kd.N_reads' HV1.out).2.1); rintro e w' ⟨rfl, ⟨nd, rfl⟩⟩; refine ⟨_, rfl, ?_⟩))
  go_wp2_with (first | ((with_reducible refine gate_callee (f := 13) rfl ?_); refine goesL_ (some 87) rfl rfl Try.func13 (by kernel_rfl) rfl #[.slice B3 L0.length cc3, .int .i64 1] rfl (by (try simp only [List.map_toArray, List.map_cons, List.map_nil]); first | done | rfl | (simp only [List.length_drop, List.length_take]; rfl)) ?_; (with_reducible refine (AH1.out B3 cc3 _ ?side1).mono ?_); (case side1 => exact ⟨_, (by (with_reducible repeat (first | apply Kd.S_alloc | apply Kd.S_drewN | apply Kd.S_drew)); exact HV3.out)⟩); rintro e w' ⟨rfl, ⟨nd, rfl⟩⟩; refine ⟨_, rfl, ?_⟩))
  go_ret
  exact ⟨rfl, (by repeat (first | (with_reducible first | exact HB.out | apply below_alloc | apply pw_below_drewN | apply below_drew1) | exact HB.out))⟩
end Go.Proofs.Ytpejdcomdnpclaa.A

/- What came in as a slice, opened and read in the words of rows. -/
namespace Go.Proofs.Ytpejdcomdnpclaa.A
open Go.RowKit Go.Proofs.YtpejdcomdnpclaaW.PrintWords Go.Proofs.YtpejdcomdnpclaaW.PrintLast Go.Proofs.YtpejdcomdnpclaaW.PrintMore
attribute [local go_sem] max2_int min2_int max_two min_two max_three min_three max_four min_four
set_option linter.unusedVariables false
set_option linter.unusedSimpArgs false

open Go.ChangeShapes Go.WideShapes Go.ChangeAt Go.Deep
theorem row_ints {H : Type} {enc : TypeId × Value → H} {P : Program} {W : World} {base : Nat} {held : Bool} {t e : TypeId} {a : Option Addr} {len cap : Nat} {d : DataW H} {ps : List MemPlace}
    (ht : P.underlying t = some (.slice e)) (he : P.underlying e = some (.int .i64)) (hC : P.cellsOf e = 1) (h : DataW.Trod enc P W base (fun _ => true) held t (.slice a len cap) d ps) :
    ∃ l : List Int, len = l.length ∧ Kd.C (Kd.int .i64) W a l.length l ∧ l.length ≤ maxLen ∧ (∀ x ∈ l, (Lit.int .i64 x).wf = true) ∧ l.length ≤ cap := by
  have w0 : (a = none ∧ len = 0 ∧ cap = 0 ∧ ∃ z : List Int, z = []) ∨ ∃ z : List Int, ∃ x, a = some x ∧ len ≤ cap ∧ cap ≤ maxLen ∧ z.length = cap ∧ (∀ i, i < z.length → W.cell? (x.add i) = some (.int .i64 (z.getD i 0))) ∧ ∀ n ∈ z, (Lit.int .i64 n).wf = true := by
    obtain ⟨fuel, hf⟩ := h
    rcases open_ints ht he hC hf with ⟨hcs, _⟩ | ⟨x, l, c, zs, hcs, _, hl, hm, hz, _, hcell, hwz⟩
    · simp [Value.cells] at hcs
      obtain ⟨rfl, rfl, rfl⟩ := hcs
      exact .inl ⟨rfl, rfl, rfl, [], rfl⟩
    · simp [Value.cells] at hcs
      obtain ⟨rfl, rfl, rfl⟩ := hcs
      exact .inr ⟨zs, _, rfl, hl, hm, by simpa using hz, hcell, hwz⟩
  rcases w0 with ⟨rfl, rfl, rfl, _⟩ | ⟨z, x, rfl, hl, hm, hz, hcell, hw⟩
  · obtain ⟨l, hlen, hr, hm, hw, hc⟩ := ReadsInt.ofRowC (k := .i64) (w := W) (a := none) (len := 0) (cap := 0) (zs := []) (.inl ⟨rfl, rfl, rfl, rfl⟩)
    exact ⟨l, hlen, Kd.C_of_reads (d := (0 : Int)) (h1 := fun _ => rfl) hr, hm, hw, hc⟩
  · obtain ⟨l, hlen, hr, hm, hw, hc⟩ := ReadsInt.ofRowC (k := .i64) (w := W) (a := some x) (len := len) (cap := cap) (zs := z) (.inr ⟨x, rfl, hl, hm, hz, hcell, hw⟩)
    exact ⟨l, hlen, Kd.C_of_reads (d := (0 : Int)) (h1 := fun _ => rfl) hr, hm, hw, hc⟩
end Go.Proofs.Ytpejdcomdnpclaa.A
