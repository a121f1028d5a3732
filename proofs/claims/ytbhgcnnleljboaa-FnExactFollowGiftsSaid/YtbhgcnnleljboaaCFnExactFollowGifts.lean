/- Proved: the statement FnExactFollowGiftsSaid: for every argument that the row lets in, the law FnExactFollowGifts of the given program returns true, without a panic, and leaves its arguments as they were; there is no further condition. -/
import Derived.Test.YtbhgcnnleljboaaRows
import Derived.WalkKit
import Derived.ProofKit
import Derived.OpenShut
import Derived.ShutString
import Derived.ChangeOld
import Derived.Below
import Derived.SizedLaws
import Derived.Lib.SmallJoins
import Derived.Deep.Matrix
import Derived.Carry
import Derived.Test.YtbhgcnnleljboaaCFnExactFollowGifts1
import Derived.Test.YtbhgcnnleljboaaCFnExactFollowGifts2
import Derived.Test.YtbhgcnnleljboaaCFnExactFollowGifts3
import Derived.Test.YtbhgcnnleljboaaCFnExactFollowGiftsw1
namespace Go.Proofs.Ytbhgcnnleljboaa.fnExactFollowGifts
open Go.ChangeShapes Go.WideShapes Go.ChangeAt Go.RowKit Go.Proofs.YtbhgcnnleljboaaW.PrintWords Go.Proofs.Ytbhgcnnleljboaa.A
open Go.ChangeMaps (open_string shut_string)
set_option linter.unusedVariables false
theorem own : ownKnob Try.prog.godebug = none := by kernel_rfl
theorem laidOut : laidOutB Try.prog = true := by kernel_rfl
theorem row_gifts50 {H : Type} {enc : TypeId × Value → H} {W : World} {base : Nat} {held : Bool} {a : Option Addr} {len cap : Nat} {d : DataW H} {ps : List MemPlace} (h : DataW.Trod enc Try.prog W base (fun _ => true) held 28 (.slice a len cap) d ps) :
 ∃ l : List S50, len = l.length ∧ Kd.C k50 W a l.length l ∧ l.length ≤ 9223372036854775807 ∧ l.length ≤ cap := by
 obtain ⟨fuel, hf⟩ := h
 rcases Go.Deep.open_slice Try.underlying28 hf with ⟨hcs, _⟩ | ⟨x, len', cap', m, n, D, Pl, hcs, _, hl, hm, hmm, _, hx⟩
 · simp [Value.cells] at hcs
   obtain ⟨rfl, rfl, rfl⟩ := hcs
   exact ⟨[], rfl, Kd.C_nil _ _, by simp, Nat.zero_le _⟩
 · simp [Value.cells] at hcs
   obtain ⟨rfl, rfl, rfl⟩ := hcs
   simp only [if_true] at hmm
   subst hmm
   have ce : Try.prog.cellsOf 50 = 3 := by kernel_rfl
   have c3 : Try.prog.cellsOf 3 = 1 := by kernel_rfl
   have each : ∀ i, i < m → ∃ q : Int × Int × Int, W.cell? (x.add (i * 3)) = some (.int .i64 q.1) ∧ W.cell? (x.add (i * 3 + 1)) = some (.int .i64 q.2.1) ∧ W.cell? (x.add (i * 3 + 2)) = some (.int .i64 q.2.2) := by
    intro i hi
    obtain ⟨cs', h1, h2⟩ := hx i hi
    rw [ce] at h1
    obtain ⟨_, hlen, hcell⟩ := World.cells?_some h1
    obtain ⟨xs, k, hk, hxy, _, hxl, hf⟩ := DataW.trod_struct Try.underlying50 h2
    match xs, hxl, cs', hlen with
    | [y0, y1, y2], _, [v0, v1, v2], _ =>
     have g0 := hf 0 _ rfl
     have g1 := hf 1 _ rfl
     have g2 := hf 2 _ rfl
     simp [c3] at g0 g1 g2
     have e0 := hcell 0 (by omega)
     have e1 := hcell 1 (by omega)
     have e2 := hcell 2 (by omega)
     rw [Go.Deep.add_add] at e0 e1 e2
     obtain ⟨z0, q0, _, _⟩ := DataW.trod_int Try.underlying3 g0
     obtain ⟨z1, q1, _, _⟩ := DataW.trod_int Try.underlying3 g1
     obtain ⟨z2, q2, _, _⟩ := DataW.trod_int Try.underlying3 g2
     simp at q0 q1 q2
     subst q0 q1 q2
     exact ⟨(z0, z1, z2), by simpa using e0, by simpa using e1, by simpa using e2⟩
   obtain ⟨q, hq⟩ := Go.Deep.choose_lt each
   unfold maxLen at hm
   refine ⟨(List.range len).map fun i => (⟨(q i).1, (q i).2.1, (q i).2.2⟩ : S50), by simp, ⟨rfl, by simp; omega, fun _ => ⟨x, rfl, fun j p hj => ?_⟩⟩, by simp; omega, by simpa using hl⟩
   simp only [List.getElem?_map] at hj
   obtain ⟨r, hr, rfl⟩ := Option.map_eq_some_iff.1 hj
   obtain ⟨hjl, hjr⟩ := List.getElem?_eq_some_iff.1 hr
   rw [List.getElem_range] at hjr
   subst hjr
   rw [List.length_range] at hjl
   obtain ⟨u0, u1, u2⟩ := hq j (by omega)
   refine ⟨[.int .i64 (q j).1, .int .i64 (q j).2.1, .int .i64 (q j).2.2], rfl, k50_mk W ⟨(q j).1, (q j).2.1, (q j).2.2⟩, fun i u hu => ?_⟩
   have hs : k50.sz = 3 := rfl
   rw [hs]
   match i with
   | 0 =>
    simp at hu
    subst hu
    exact u0
   | 1 =>
    simp at hu
    subst hu
    exact u1
   | 2 =>
    simp at hu
    subst hu
    exact u2
   | i + 3 => simp at hu
theorem walk (A0 : Option Addr) (c0 : Nat) (l0 : List Int) (A1 : Option Addr) (c1 : Nat) (l1 : List S50) (W : World) (hr0 : Kd.C (Kd.int .i64) W A0 l0.length l0) (hc0 : l0.length ≤ c0) (hr1 : Kd.C k50 W A1 l1.length l1) (hc1 : l1.length ≤ c1) (m0 : l0.length ≤ maxLen) (y0 : l0.length * 8 ≤ 140737488351232) (w0 : (∀ x ∈ l0, (Lit.int .i64 x).wf = true)) (m1 : l1.length ≤ 9223372036854775807) :
 Calls Try.prog 5 #[.slice A0 l0.length c0, .slice A1 l1.length c1] W fun e w' => e = .returned (.bool true) ∧ Below W.heap.size W w' := by
 exact FnExactFollowGifts_walk A0 c0 l0 A1 c1 l1 W hr0 hc0 hr1 hc1 m1
set_option maxRecDepth 100000 in
theorem lifted (os : Os) (started : os.Started) (H : Type) (enc : TypeId × Value → H) :
 ReturnsInHanded {} Try.checked os 5 .any (Rows.fnExactFollowGiftsSpec.pre6 enc Try.prog Try.f5 Rows.fnExactFollowGiftsRow.domain false) (Rows.fnExactFollowGiftsSpec.post enc Try.prog Try.f5 false true false false) := by
 refine returnsInHanded_of_change_sized (C := Try.checked) own started (by kernel_rfl) Try.func5
  (ChangeSpec.witness6 (enc := enc) (C := Try.checked) false ⟨#[], #[.slice none 0 0, .slice none 0 0], []⟩ 8 (by kernel_rfl) (by kernel_rfl) (by kernel_rfl) (by kernel_rfl)) ?_
 intro W base args ds gs before hval0 hW hcnd hsz0 _
 have hsz : (DataW.weightsEach Try.prog (Try.f5.params.toList ++ Rows.fnExactFollowGiftsSpec.plain.varTypes Try.prog) (ds ++ gs)).all (· ≤ reachBytes) = true := hsz0
 have hval : ∀ (j : Nat) t v, Try.f5.params[j]? = some t → args[j]? = some v → Value.okWide Try.prog W .any base t v := hval0
 have hW' := hW
 obtain ⟨p, q, hA0, hV, rfl, hfz, hnd⟩ := hW
 have hA : DataW.TrodAll enc Try.prog W 0 (fun _ => true) true Try.f5.params.toList args.toList ds p := hA0
 rw [Try.params5] at hA hval hsz
 obtain ⟨v0, vs0, d0, ds0, p0, q0, hargs, rfl, rfl, h0, r0⟩ := trodAll_cons hA
 obtain ⟨v1, vs1, d1, ds1, p1, q1, rfl, rfl, rfl, h1, r1⟩ := trodAll_cons r0
 obtain ⟨rfl, rfl, rfl⟩ := trodAll_nil r1
 obtain rfl : args = #[v0, v1] := by cases args; simp_all
 obtain ⟨rfl, rfl⟩ := trodVars_none hV
 have k0 := h0
 have lt0 : ∀ x ∈ p0, x.block < W.heap.size := by obtain ⟨m, hm⟩ := k0; exact DataW.trod_lt m _ _ _ hm
 obtain ⟨A0, len0, c0, rfl⟩ := okWide_slice Try.underlying22 (hval 0 22 v0 rfl rfl)
 have y0 : len0 * 8 ≤ 140737488351232 := Go.Proofs.YtbhgcnnleljboaaW.PrintWords.sized_ints hsz (j := 0) (t := 22) rfl rfl Try.underlying22 Try.underlying3 (by kernel_rfl) (by kernel_rfl) h0
 obtain ⟨l0, rfl, hr0, m0, w0, hc0⟩ := row_ints Try.underlying22 Try.underlying3 (by kernel_rfl) h0
 have k1 := h1
 have lt1 : ∀ x ∈ p1, x.block < W.heap.size := by obtain ⟨m, hm⟩ := k1; exact DataW.trod_lt m _ _ _ hm
 obtain ⟨A1, len1, c1, rfl⟩ := okWide_slice Try.underlying28 (hval 1 28 v1 rfl rfl)
 obtain ⟨l1, rfl, hr1, m1, hc1⟩ := row_gifts50 h1
 clear hA0 hval0 hsz0 hsz
 refine (walk A0 c0 l0 A1 c1 l1 W hr0 hc0 hr1 hc1 m0 y0 w0 m1).mono fun e W' ⟨he, bel⟩ => ?_
 subst he
 exact ⟨_, rfl, _, _, _, [], _, [], hW', trodAll_mk1 (shut_bool Try.underlying4 _), (trodAll_cons_mk (Below.trod laidOut (by kernel_rfl) (of_decide_eq_true (by kernel_rfl)) k0 bel lt0) (trodAll_cons_mk (Below.trod laidOut (by kernel_rfl) (of_decide_eq_true (by kernel_rfl)) k1 bel lt1) trodAll_mk0)), rfl, bel.frame _, fun h => by cases h⟩
theorem over : Rows.fnExactFollowGiftsRow.holds Try.pinned (OpenSpec.ofChange Rows.fnExactFollowGiftsSpec) :=
 OpenClaim.holds_of_wide 5 Try.f5 rfl rfl rfl rfl rfl rfl rfl ⟨rfl, rfl, rfl, rfl, rfl⟩ rfl rfl rfl rfl rfl (by kernel_rfl) Try.func5 (by kernel_rfl)
  (of_decide_eq_true (by kernel_rfl)) (by unfold Func.isWrapper; first | (rw [if_pos (by decide +kernel)]; kernel_rfl) | (rw [if_neg (by decide +kernel)]; exact ⟨rfl, rfl⟩))
  (fun os started H enc _ => lifted os started H enc)
theorem proved : Rows.FnExactFollowGiftsSaid := over
#print axioms proved
end Go.Proofs.Ytbhgcnnleljboaa.fnExactFollowGifts
namespace Go.Proofs.Ytbhgcnnleljboaa
/-- The row, under a short name, for the claim. -/
theorem fnExactFollowGifts_holds : Rows.FnExactFollowGiftsSaid := fnExactFollowGifts.proved
end Go.Proofs.Ytbhgcnnleljboaa
