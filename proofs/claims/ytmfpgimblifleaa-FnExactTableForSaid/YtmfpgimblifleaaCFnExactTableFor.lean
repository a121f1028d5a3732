/- Proved: the statement FnExactTableForSaid: for every argument that the row lets in, the law FnExactTableFor of the given program returns true, without a panic, and leaves its arguments as they were; there is no further condition. -/
import Derived.Test.YtmfpgimblifleaaRows
import Derived.WalkKit
import Derived.ProofKit
import Derived.OpenShut
import Derived.ShutString
import Derived.ChangeOld
import Derived.Below
import Derived.SizedLaws
import Derived.Lib.SmallJoins
import Derived.Deep.Matrix
import Derived.Carry
import Derived.Test.YtmfpgimblifleaaCFnExactTableFor1
import Derived.Test.YtmfpgimblifleaaCFnExactTableFor2
import Derived.Test.YtmfpgimblifleaaCFnExactTableFor3
import Derived.Test.YtmfpgimblifleaaCFnExactTableFor4
import Derived.Test.YtmfpgimblifleaaCFnExactTableFor5
import Derived.Test.YtmfpgimblifleaaCFnExactTableForw1
namespace Go.Proofs.Ytmfpgimblifleaa.fnExactTableFor
open Go.ChangeShapes Go.WideShapes Go.ChangeAt Go.RowKit Go.Proofs.YtmfpgimblifleaaW.PrintWords Go.Proofs.Ytmfpgimblifleaa.A
open Go.ChangeMaps (open_string shut_string)
set_option linter.unusedVariables false
theorem own : ownKnob Try.prog.godebug = none := by kernel_rfl
theorem laidOut : laidOutB Try.prog = true := by kernel_rfl
theorem walk (A0 : Option Addr) (c0 : Nat) (l0 : List Int) (A1 : Option Addr) (c1 : Nat) (l1 : List Int) (W : World) (hr0 : Kd.C (Kd.int .i64) W A0 l0.length l0) (hc0 : l0.length ≤ c0) (hr1 : Kd.C (Kd.int .i64) W A1 l1.length l1) (hc1 : l1.length ≤ c1) (m0 : l0.length ≤ maxLen) (y0 : l0.length * 8 ≤ 140737488351232) (w0 : (∀ x ∈ l0, (Lit.int .i64 x).wf = true)) (m1 : l1.length ≤ maxLen) (y1 : l1.length * 8 ≤ 140737488351232) (w1 : (∀ x ∈ l1, (Lit.int .i64 x).wf = true)) :
 Calls Try.prog 3 #[.slice A0 l0.length c0, .slice A1 l1.length c1] W fun e w' => e = .returned (.bool true) ∧ Below W.heap.size W w' := by
 exact FnExactTableFor_walk A0 c0 l0 A1 c1 l1 W hr0 hc0 hr1 hc1 m0 m1
set_option maxRecDepth 100000 in
theorem lifted (os : Os) (started : os.Started) (H : Type) (enc : TypeId × Value → H) :
 ReturnsInHanded {} Try.checked os 3 .any (Rows.fnExactTableForSpec.pre6 enc Try.prog Try.f3 Rows.fnExactTableForRow.domain false) (Rows.fnExactTableForSpec.post enc Try.prog Try.f3 false true false false) := by
 refine returnsInHanded_of_change_sized (C := Try.checked) own started (by kernel_rfl) Try.func3
  (ChangeSpec.witness6 (enc := enc) (C := Try.checked) false ⟨#[], #[.slice none 0 0, .slice none 0 0], []⟩ 8 (by kernel_rfl) (by kernel_rfl) (by kernel_rfl) (by kernel_rfl)) ?_
 intro W base args ds gs before hval0 hW hcnd hsz0 _
 have hsz : (DataW.weightsEach Try.prog (Try.f3.params.toList ++ Rows.fnExactTableForSpec.plain.varTypes Try.prog) (ds ++ gs)).all (· ≤ reachBytes) = true := hsz0
 have hval : ∀ (j : Nat) t v, Try.f3.params[j]? = some t → args[j]? = some v → Value.okWide Try.prog W .any base t v := hval0
 have hW' := hW
 obtain ⟨p, q, hA0, hV, rfl, hfz, hnd⟩ := hW
 have hA : DataW.TrodAll enc Try.prog W 0 (fun _ => true) true Try.f3.params.toList args.toList ds p := hA0
 rw [Try.params3] at hA hval hsz
 obtain ⟨v0, vs0, d0, ds0, p0, q0, hargs, rfl, rfl, h0, r0⟩ := trodAll_cons hA
 obtain ⟨v1, vs1, d1, ds1, p1, q1, rfl, rfl, rfl, h1, r1⟩ := trodAll_cons r0
 obtain ⟨rfl, rfl, rfl⟩ := trodAll_nil r1
 obtain rfl : args = #[v0, v1] := by cases args; simp_all
 obtain ⟨rfl, rfl⟩ := trodVars_none hV
 have k0 := h0
 have lt0 : ∀ x ∈ p0, x.block < W.heap.size := by obtain ⟨m, hm⟩ := k0; exact DataW.trod_lt m _ _ _ hm
 obtain ⟨A0, len0, c0, rfl⟩ := okWide_slice Try.underlying22 (hval 0 22 v0 rfl rfl)
 have y0 : len0 * 8 ≤ 140737488351232 := Go.Proofs.YtmfpgimblifleaaW.PrintWords.sized_ints hsz (j := 0) (t := 22) rfl rfl Try.underlying22 Try.underlying3 (by kernel_rfl) (by kernel_rfl) h0
 obtain ⟨l0, rfl, hr0, m0, w0, hc0⟩ := row_ints Try.underlying22 Try.underlying3 (by kernel_rfl) h0
 have k1 := h1
 have lt1 : ∀ x ∈ p1, x.block < W.heap.size := by obtain ⟨m, hm⟩ := k1; exact DataW.trod_lt m _ _ _ hm
 obtain ⟨A1, len1, c1, rfl⟩ := okWide_slice Try.underlying22 (hval 1 22 v1 rfl rfl)
 have y1 : len1 * 8 ≤ 140737488351232 := Go.Proofs.YtmfpgimblifleaaW.PrintWords.sized_ints hsz (j := 1) (t := 22) rfl rfl Try.underlying22 Try.underlying3 (by kernel_rfl) (by kernel_rfl) h1
 obtain ⟨l1, rfl, hr1, m1, w1, hc1⟩ := row_ints Try.underlying22 Try.underlying3 (by kernel_rfl) h1
 clear hA0 hval0 hsz0 hsz
 refine (walk A0 c0 l0 A1 c1 l1 W hr0 hc0 hr1 hc1 m0 y0 w0 m1 y1 w1).mono fun e W' ⟨he, bel⟩ => ?_
 subst he
 exact ⟨_, rfl, _, _, _, [], _, [], hW', trodAll_mk1 (shut_bool Try.underlying4 _), (trodAll_cons_mk (Below.trod laidOut (by kernel_rfl) (of_decide_eq_true (by kernel_rfl)) k0 bel lt0) (trodAll_cons_mk (Below.trod laidOut (by kernel_rfl) (of_decide_eq_true (by kernel_rfl)) k1 bel lt1) trodAll_mk0)), rfl, bel.frame _, fun h => by cases h⟩
theorem over : Rows.fnExactTableForRow.holds Try.pinned (OpenSpec.ofChange Rows.fnExactTableForSpec) :=
 OpenClaim.holds_of_wide 3 Try.f3 rfl rfl rfl rfl rfl rfl rfl ⟨rfl, rfl, rfl, rfl, rfl⟩ rfl rfl rfl rfl rfl (by kernel_rfl) Try.func3 (by kernel_rfl)
  (of_decide_eq_true (by kernel_rfl)) (by unfold Func.isWrapper; first | (rw [if_pos (by decide +kernel)]; kernel_rfl) | (rw [if_neg (by decide +kernel)]; exact ⟨rfl, rfl⟩))
  (fun os started H enc _ => lifted os started H enc)
theorem proved : Rows.FnExactTableForSaid := over
#print axioms proved
end Go.Proofs.Ytmfpgimblifleaa.fnExactTableFor
namespace Go.Proofs.Ytmfpgimblifleaa
/-- The row, under a short name, for the claim. -/
theorem fnExactTableFor_holds : Rows.FnExactTableForSaid := fnExactTableFor.proved
end Go.Proofs.Ytmfpgimblifleaa
