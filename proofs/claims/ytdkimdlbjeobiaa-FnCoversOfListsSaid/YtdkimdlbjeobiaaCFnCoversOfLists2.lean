/- What the law FnCoversOfLists reaches, part 2: Lean functions with the same answers as the Go functions, the proofs that the Go code comes to these answers, and lemmas about them; no condition beyond those that each theorem names. -/
import Derived.Test.YtdkimdlbjeobiaaCFnCoversOfListsw1
import Derived.Shelf.SlicesE.IndexFunc
import Derived.Shelf.SlGeneric
import Derived.Shelf.SlLaysH
import Derived.Ground.SlgfProg
import Derived.Test.YtdkimdlbjeobiaaProg
import Derived.Test.YtdkimdlbjeobiaaCFnCoversOfLists1
set_option linter.unusedVariables false
set_option linter.unusedSimpArgs false
set_option maxHeartbeats 8000000
set_option maxRecDepth 100000
namespace Go.Proofs.Ytdkimdlbjeobiaa.A
open Go.RowKit Go.Proofs.YtdkimdlbjeobiaaW.PrintWords Go.Proofs.YtdkimdlbjeobiaaW.PrintLast Go.Proofs.YtdkimdlbjeobiaaW.PrintMore
attribute [local go_sem] max2_int min2_int max_two min_two max_three min_three max_four min_four
def spec_AllRankings.f (k : Nat) (a0 : Int) (a1 : Int) : Option ((List (List Int)) × Bool) := (spec_l1In.f a0 1 8).bind fun t690 => (if t690 = true then ((spec_l1In.f a1 0 30).bind fun t691 => (if t691 = true then ((spec_liAll.f k a0 a1 60).bind fun t692 => (some (t692, true))) else (some (([] : List (List Int)), false)))) else (some (([] : List (List Int)), false)))
theorem spec_AllRankings.calls (k : Nat) (a0 : Int) (a1 : Int) (r1 : List (List Int)) (r2 : Bool) (w : World) (h : spec_AllRankings.f k a0 a1 = some (r1, r2)) :
 Calls Try.prog 29 #[.int .i64 a0, .int .i64 a1] w fun e w' => ∃ v0_ : Value, e = .returned (.tuple #[v0_, .bool r2]) ∧ Kd.S (Kd.slice 3 (Kd.int .i64)) 22 w' w.heap.size (fun _ => True) v0_ r1 ∧ Below w.heap.size w w' := by
 have HB := zad (Below.refl w.heap.size w)
 have H : ((spec_l1In.f a0 1 8).bind fun t690 => (if t690 = true then ((spec_l1In.f a1 0 30).bind fun t691 => (if t691 = true then ((spec_liAll.f k a0 a1 60).bind fun t692 => (some (t692, true))) else (some (([] : List (List Int)), false)))) else (some (([] : List (List Int)), false)))) = some (r1, r2) := h
 clear h; replace H := zay.mp H; obtain ⟨t690, A30, H⟩ := H
 replace H : (if t690 = true then ((spec_l1In.f a1 0 30).bind fun t691 => (if t691 = true then ((spec_liAll.f k a0 a1 60).bind fun t692 => (some (t692, true))) else (some (([] : List (List Int)), false)))) else (some (([] : List (List Int)), false))) = some (r1, r2) := H
 have A3 := zad A30; clear A30; by_cases c4 : t690 = true
 · subst c4
   have H1 : ((spec_l1In.f a1 0 30).bind fun t691 => (if t691 = true then ((spec_liAll.f k a0 a1 60).bind fun t692 => (some (t692, true))) else (some (([] : List (List Int)), false)))) = some (r1, r2) := by rw [if_pos rfl] at H; exact H
   clear H; have H := H1; clear H1; replace H := zay.mp H; obtain ⟨t691, A50, H⟩ := H
   replace H : (if t691 = true then ((spec_liAll.f k a0 a1 60).bind fun t692 => (some (t692, true))) else (some (([] : List (List Int)), false))) = some (r1, r2) := H
   have A5 := zad A50; clear A50; by_cases c6 : t691 = true
   · subst c6
     have H1 : ((spec_liAll.f k a0 a1 60).bind fun t692 => (some (t692, true))) = some (r1, r2) := by rw [if_pos rfl] at H; exact H
     clear H; have H := H1; clear H1; replace H := zay.mp H; obtain ⟨t692, A70, H⟩ := H
     replace H : (some (t692, true)) = some (r1, r2) := H
     have A7 := zad A70; clear A70; simp only [zbm, zbq] at H
     obtain ⟨rfl, rfl⟩ := H
     go_enter Try.func29, Try.ntmps29
     go_wp2_with (first | ((with_reducible refine zbi (f := 66) rfl ?_); refine zbo (some 7) rfl rfl Try.func66 (by kernel_rfl) rfl #[.int .i64 a0, .int .i64 1, .int .i64 8] rfl (taae) ?_; (with_reducible refine (spec_l1In.calls a0 1 8 true _ A3.out).mono ?_); rintro e w' ⟨rfl, ⟨nd, rfl⟩⟩; refine ⟨_, rfl, ?_⟩) | (go_at_call 66; (with_reducible refine (spec_l1In.calls a1 0 30 true _ A5.out).mono ?_); rintro e w' ⟨rfl, ⟨nd, rfl⟩⟩) | ((with_reducible refine zbi (f := 67) rfl ?_); refine zbo (some 16) rfl rfl Try.func67 (by kernel_rfl) rfl #[.int .i64 a0, .int .i64 a1, .int .i64 60] rfl (taae) ?_; (with_reducible refine (spec_liAll.calls k a0 a1 60 t692 _ A7.out).mono ?_); rintro e w8 ⟨v693, rfl, ho0, hb⟩; refine ⟨_, rfl, ?_⟩; have n0_ := zad (Kd.S_lower ho0 (zbl (taaa))); have n1_ := zad (zbh (taaa) hb); clear HB; have HO694 := n0_; have HB := n1_; clear n0_ n1_; (try clear hb); (try clear hb2); (try clear hk); (try clear hi); (try clear ho0)))
     go_ret2
     exact ⟨_, taaf, by (with_reducible repeat (first | apply Kd.S_alloc | apply Kd.S_drewN | apply Kd.S_drew)); exact HO694.out, taaa⟩
   · replace c6 := zbj.mpr c6
     subst c6; have H1 : (some (([] : List (List Int)), false)) = some (r1, r2) := by rw [if_neg (show ¬ (false = true) by decide)] at H; exact H
     clear H; have H := H1; clear H1; simp only [zbm, zbq] at H
     obtain ⟨rfl, rfl⟩ := H
     go_enter Try.func29, Try.ntmps29
     go_wp2_with (first | ((with_reducible refine zbi (f := 66) rfl ?_); refine zbo (some 7) rfl rfl Try.func66 (by kernel_rfl) rfl #[.int .i64 a0, .int .i64 1, .int .i64 8] rfl (taae) ?_; (with_reducible refine (spec_l1In.calls a0 1 8 true _ A3.out).mono ?_); rintro e w' ⟨rfl, ⟨nd, rfl⟩⟩; refine ⟨_, rfl, ?_⟩) | (go_at_call 66; (with_reducible refine (spec_l1In.calls a1 0 30 false _ A5.out).mono ?_); rintro e w' ⟨rfl, ⟨nd, rfl⟩⟩))
     go_ret2
     exact ⟨_, taaf, taba, taaa⟩
 · replace c4 := zbj.mpr c4
   subst c4; have H1 : (some (([] : List (List Int)), false)) = some (r1, r2) := by rw [if_neg (show ¬ (false = true) by decide)] at H; exact H
   clear H; have H := H1; clear H1; simp only [zbm, zbq] at H
   obtain ⟨rfl, rfl⟩ := H
   go_enter Try.func29, Try.ntmps29
   go_wp2_with (first | ((with_reducible refine zbi (f := 66) rfl ?_); refine zbo (some 7) rfl rfl Try.func66 (by kernel_rfl) rfl #[.int .i64 a0, .int .i64 1, .int .i64 8] rfl (taae) ?_; (with_reducible refine (spec_l1In.calls a0 1 8 false _ A3.out).mono ?_); rintro e w' ⟨rfl, ⟨nd, rfl⟩⟩; refine ⟨_, rfl, ?_⟩))
   go_ret2
   exact ⟨_, taaf, taba, taaa⟩
def laws_pHasRow.l0 : Nat → List Int → List (List Int) → Int → Int → Option (Bool)
 | 0, _, _, _, _ => none
 | k + 1, x1, x7, x8, x9 => if x9 < x8 then (if 0 ≤ x9 then (if x9 < (x7.length : Int) then ((laws_pSame.f k x1 (rd_L1 x7 x9)).bind fun t696 => (if t696 = true then (some true) else (laws_pHasRow.l0 k x1 x7 x8 (wrap64 (x9 + 1))))) else (none)) else (none)) else (some false)
def laws_pHasRow.f (k : Nat) (l0 : List (List Int)) (l1 : List Int) : Option (Bool) := laws_pHasRow.l0 k l1 l0 (l0.length : Int) 0
theorem laws_pHasRow.calls (k : Nat) (A0 : Option Addr) (c0 : Nat) (l0 : List (List Int)) (A1 : Option Addr) (c1 : Nat) (l1 : List Int) (r : Bool) (w : World) (hr0 : Kd.C (Kd.slice 3 (Kd.int .i64)) w A0 l0.length l0) (hc0 : l0.length ≤ c0) (hr1 : Kd.C (Kd.int .i64) w A1 l1.length l1) (hc1 : l1.length ≤ c1) (h : laws_pHasRow.f k l0 l1 = some r) :
 Calls Try.prog 30 #[.slice A0 l0.length c0, .slice A1 l1.length c1] w fun e w' => e = .returned (.bool r) ∧ Drawn0 w w' := by
 have HR0 := zad hr0; have HC0 := zad hc0; clear hr0 hc0; have HR1 := zad hr1; have HC1 := zad hc1; clear hr1 hc1; have H : (laws_pHasRow.l0 k l1 l0 (l0.length : Int) 0) = some r := h
 clear h; have H' := zad H
 clear H; go_enter Try.func30, Try.ntmps30
 go_wp2
 go_loopg [9] k (fun kq v9 w' => ∃ (x9_1 : Int), v9 = .int .i64 x9_1 ∧ Aside0 (laws_pHasRow.l0 kq l1 l0 (l0.length : Int) x9_1 = some r) ∧ Aside0 (kq ≤ k) ∧ Drawn0 w w')
 case atStart => exact ⟨(0), (taad), H', ⟨zcb _⟩, taag⟩
 case round =>
  clear H'
  try clear c1
  try clear p2
  obtain ⟨x9_1, rfl, HA, HK1, ⟨m1, rfl⟩⟩ := hrel
  cases gk with
  | zero => exact absurd HA.out (by simp [laws_pHasRow.l0])
  | succ k1 =>
   have H := HA.out
   clear HA; simp only [laws_pHasRow.l0] at H
   by_cases c3 : x9_1 < (l0.length : Int)
   · rw [if_pos c3] at H
     have c3b0 : decide (x9_1 < (l0.length : Int)) = true := zba c3
     clear c3; by_cases c4 : 0 ≤ x9_1
     · rw [if_pos c4] at H
       have c4b0 : decide (0 ≤ x9_1) = true := zba c4
       clear c4; by_cases c5 : x9_1 < (l0.length : Int)
       · rw [if_pos c5] at H
         have c5b0 : decide (x9_1 < (l0.length : Int)) = true := zba c5
         clear c5; replace H := zay.mp H; obtain ⟨t696, A60, H⟩ := H
         replace H : (if t696 = true then (some true) else (laws_pHasRow.l0 k1 l1 l0 (l0.length : Int) (wrap64 (x9_1 + 1)))) = some r := H
         have A6 := zad A60; clear A60; by_cases c7 : t696 = true
         · subst c7
           have H1 : (some true) = some r := by rw [if_pos rfl] at H; exact H
           clear H; have H := H1; clear H1; obtain rfl := zbf H
           have p695 : 0 ≤ (x9_1 : Int) := zas (taab)
           have q695 : x9_1 < (l0.length : Int) := zas (taab)
           obtain ⟨ad695, A695_0, c695_0, e695, hx695_0, hl695_0, hi695_0⟩ := at_L1 HR0.out x9_1 p695 q695
           cases e695
           have HR695_0 := zad hi695_0; have HC695_0 := zad hl695_0; clear hi695_0 hl695_0; replace p695 := eq_true p695
           replace q695 := eq_true q695
           go_wp2_with (first | ((with_reducible refine zbi (f := 20) rfl ?_); refine zbo (some 15) rfl rfl Try.func20 (by kernel_rfl) rfl #[.slice A1 l1.length c1, .slice A695_0 (rd_L1 l0 x9_1).length c695_0] rfl (taae) ?_; (with_reducible refine (laws_pSame.calls k1 _ _ l1 _ _ (rd_L1 l0 x9_1) true _ ?side1 ?side2 ?side3 ?side4 A6.out).mono ?_); (case side1 => exact tafo); (case side2 => exact HC1.out); (case side3 => exact tafw); (case side4 => exact HC695_0.out); rintro e w' ⟨rfl, ⟨nd, rfl⟩⟩; refine ⟨_, rfl, ?_⟩))
           go_ret
           exact ⟨taad, taag⟩
         · replace c7 := zbj.mpr c7
           subst c7; have H1 : (laws_pHasRow.l0 k1 l1 l0 (l0.length : Int) (wrap64 (x9_1 + 1))) = some r := by rw [if_neg (show ¬ (false = true) by decide)] at H; exact H
           clear H; have H := H1; clear H1; have H' := zad H
           clear H; have p695 : 0 ≤ (x9_1 : Int) := zas (taab)
           have q695 : x9_1 < (l0.length : Int) := zas (taab)
           obtain ⟨ad695, A695_0, c695_0, e695, hx695_0, hl695_0, hi695_0⟩ := at_L1 HR0.out x9_1 p695 q695
           cases e695
           have HR695_0 := zad hi695_0; have HC695_0 := zad hl695_0; clear hi695_0 hl695_0; replace p695 := eq_true p695
           replace q695 := eq_true q695
           go_wp2_with (first | ((with_reducible refine zbi (f := 20) rfl ?_); refine zbo (some 15) rfl rfl Try.func20 (by kernel_rfl) rfl #[.slice A1 l1.length c1, .slice A695_0 (rd_L1 l0 x9_1).length c695_0] rfl (taae) ?_; (with_reducible refine (laws_pSame.calls k1 _ _ l1 _ _ (rd_L1 l0 x9_1) false _ ?side1 ?side2 ?side3 ?side4 A6.out).mono ?_); (case side1 => exact tafo); (case side2 => exact HC1.out); (case side3 => exact tafw); (case side4 => exact HC695_0.out); rintro e w' ⟨rfl, ⟨nd, rfl⟩⟩; refine ⟨_, rfl, ?_⟩))
           go_roundg k1
           case measure => have := HK1.out; omega
           case rel => exact ⟨(wrap64 (x9_1 + 1)), (taad), H', ⟨taat⟩, taag⟩
       · rw [if_neg c5] at H
         exact absurd H (taac)
     · rw [if_neg c4] at H
       exact absurd H (taac)
   · rw [if_neg c3] at H
     have c3b0 : decide (x9_1 < (l0.length : Int)) = false := zbk c3
     clear c3; obtain rfl := zbf H
     go_wp2
     go_ret
     exact ⟨taad, taag⟩
section
open Go.Shelf Go.Lib
def Kp (w W : World) (a b : Nat) : Prop := ∀ k, a ≤ k → k < b → W.heap[k]? = w.heap[k]?
theorem kp_step {w W W' : World} {a b : Nat} (h : Kp w W a b) (hb : Below W.heap.size W W') (hle : b ≤ W.heap.size) : Kp w W' a b := fun k h1 h2 => (hb.block k (by omega)).trans (h k h1 h2)
theorem S_cells2 {e i : Nat} {w : World} {base n1 : Nat} {v : Value} {xs : List (List Int)} (hS : Kd.S (Kd.slice i (Kd.int .i64)) e w base (fun k => base ≤ k ∧ k < n1) v xs) (hn : 0 < xs.length) :
 ∃ (blk cap : Nat) (cur : Array Value), v = .slice (some ⟨blk, 0, none⟩) xs.length cap ∧ base ≤ blk ∧ blk < n1 ∧ w.heap[blk]? = some (.cells cur e (0, 0)) ∧ cur.size = cap ∧ xs.length ≤ cap ∧ cap ≤ 9223372036854775807 ∧
  ∀ j, j < xs.length → ∃ A c, cur[j]! = .slice A (xs[j]!).length c ∧ (xs[j]!).length ≤ c ∧ ∀ W, Kp w W base n1 → Kd.C (Kd.int .i64) W A (xs[j]!).length (xs[j]!) := by
 obtain ⟨f, h0, inner, ho, hr⟩ := hS
 rw [List.length_zipIdx] at ho
 obtain ⟨hil, hown⟩ := ho
 have hsz1 : (Kd.tag f (Kd.slice i (Kd.int .i64))).sz = 1 := rfl
 rw [hsz1, Nat.mul_one] at hil
 rcases hown with ⟨_, hz⟩ | ⟨blk, cap, cur, rfl, hb, hh, hnc, hc, hcs, htk⟩
 · omega
 rw [hsz1, Nat.mul_one] at hcs htk
 refine ⟨blk, cap, cur, rfl, hb, (h0 blk rfl).2, hh, hcs, hnc, by unfold maxLen at hc; omega, fun j hj => ?_⟩
 have hM := hr.2 j (xs[j], j) (Kd.zip_at (List.getElem?_eq_getElem hj))
 rw [hsz1, Nat.mul_one] at hM
 have hcell : (inner.drop j).take 1 = [cur[j]!] := by
  rw [← htk, List.drop_take, List.take_take, Nat.min_eq_left (by omega)]
  have : j < cur.toList.length := by rw [Array.length_toList]; omega
  rw [List.drop_eq_getElem_cons this, List.take_succ_cons, List.take_zero, getElem!_pos cur j (by simpa using this), Array.getElem_toList]
 rw [hcell] at hM
 have hM2 : (Kd.slice i (Kd.int .i64)).M w base (fun k => ((base ≤ k ∧ k < n1) ∧ some k ≠ (Value.slice (some ⟨blk, 0, none⟩) xs.length cap).ownBlock) ∧ f k = j) xs[j] [cur[j]!] := hM
 obtain ⟨v, hv, hR⟩ := hM2
 obtain ⟨A, c, hA, hl, _⟩ := Kd.R_reads hR
 have e : cur[j]! = v := by simpa using hv
 rw [getElem!_pos xs j hj]
 refine ⟨A, c, by rw [e, hA], hl, fun W hG => ?_⟩
 have hR2 := Kd.R_step (w1 := W) hR (fun k hk hlt => hG k hk.1.1.1 hk.1.1.2)
 rw [hA] at hR2
 exact (zbg hR2).2.2
theorem S_pick {α : Type} [Inhabited α] {d : Kd α} (hd1 : d.sz = 1) {e : Nat} {W : World} {base nA n1 blk cap : Nat} {bs : List α} {cur : Array Value} {ps : List Nat} {v : Value}
 (hS : Kd.S d e W nA (fun k => nA ≤ k ∧ k < n1) (.slice (some ⟨blk, 0, none⟩) bs.length cap) bs) (hheap : W.heap[blk]? = some (.cells cur e (0, 0))) (hps : ps.Nodup) (hlt : ∀ p ∈ ps, p < bs.length)
 (hR : (Kd.raw 1).R e W base (fun k => k < nA ∨ n1 ≤ k) v (ps.map fun p => [cur[p]!])) (hb : base ≤ nA) : Kd.S d e W base (fun _ => True) v (ps.map fun p => bs[p]!) := by
 obtain ⟨f, h0, inner, ho, hr⟩ := hS
 rw [List.length_zipIdx] at ho
 obtain ⟨hil, hown⟩ := ho
 have hsz1 : (Kd.tag f d).sz = 1 := hd1
 rw [hsz1, Nat.mul_one] at hil
 rcases hown with ⟨he, _⟩ | ⟨g, cap2, cur2, he, hbb, hh, hn, hc, hcs, htk⟩
 · cases he
 injection he with e1 e2 e3
 injection e1 with e1
 injection e1 with e1 _ _
 subst e1; subst e3; rw [hheap] at hh
 injection hh with hh
 injection hh with hh1 _ _
 subst hh1; rw [hsz1, Nat.mul_one] at hcs htk
 obtain ⟨g0, inner', ho', hr'⟩ := hR
 have hlen : ((ps.map fun p => bs[p]!).zipIdx).length = (ps.map fun p => [cur[p]!]).length := by simp
 refine ⟨fun b => ps.idxOf (f b), fun _ _ => trivial, inner', ?_, ?_, ?_⟩
 · rw [hlen]
   show World.ownsRow W base e d.sz v _ inner'
   rw [hd1]
   exact ho'
 · rw [hlen]
   show _ = _ * d.sz
   rw [hd1]
   exact hr'.1
 · intro q p hq
   rw [List.getElem?_zipIdx, Nat.zero_add] at hq
   obtain ⟨x, hx, rfl⟩ := Option.map_eq_some_iff.1 hq
   rw [List.getElem?_map] at hx
   obtain ⟨j, hj, rfl⟩ := Option.map_eq_some_iff.1 hx
   obtain ⟨hql, hjq⟩ := List.getElem?_eq_some_iff.1 hj
   have hjm : j ∈ ps := by rw [← hjq]; exact List.getElem_mem hql
   have hjn := hlt j hjm
   have hM := hr.2 j (bs[j], j) (Kd.zip_at (List.getElem?_eq_getElem hjn))
   rw [hsz1, Nat.mul_one] at hM
   have hcell : (inner.drop j).take 1 = [cur[j]!] := by
    rw [← htk, List.drop_take, List.take_take, Nat.min_eq_left (by omega)]
    have : j < cur.toList.length := by rw [Array.length_toList]; omega
    rw [List.drop_eq_getElem_cons this, List.take_succ_cons, List.take_zero, getElem!_pos cur j (by simpa using this), Array.getElem_toList]
   rw [hcell] at hM
   have hC := hr'.2 q [cur[j]!] (by rw [List.getElem?_map, hj]; rfl)
   have hC2 : (inner'.drop (q * (Kd.raw 1).sz)).take (Kd.raw 1).sz = [cur[j]!] := hC.1
   show (Kd.tag _ d).M W base _ (bs[j]!, q) ((inner'.drop (q * d.sz)).take d.sz)
   rw [hd1, show (1 : Nat) = (Kd.raw 1).sz from rfl, hC2, getElem!_pos bs j hjn]
   have hM2 : d.M W nA (fun k => ((nA ≤ k ∧ k < n1) ∧ some k ≠ (Value.slice (some ⟨blk, 0, none⟩) bs.length cap).ownBlock) ∧ f k = j) bs[j] [cur[j]!] := hM
   refine d.M_lower hb (d.M_mono (fun k hk => ⟨⟨trivial, fun he => ?_⟩, ?_⟩) hM2)
   · have := g0 k he.symm
     omega
   · show List.idxOf (f k) ps = q
     rw [hk.2, ← hjq, idx_at hps hql]
theorem raw_C {e : Nat} {i : Nat} {W : World} {base : Nat} {ok : Nat → Prop} {v : Value} {rows : List (List Value)} {xs : List (List Int)} (hR : (Kd.raw 1).R e W base ok v rows) (hl : rows.length = xs.length)
 (hx : ∀ (j : Nat) (x : List Int) (r : List Value), xs[j]? = some x → rows[j]? = some r → (Kd.slice i (Kd.int .i64)).K W x r) : ∃ A c, v = .slice A xs.length c ∧ xs.length ≤ c ∧ Kd.C (Kd.slice i (Kd.int .i64)) W A xs.length xs := by
 obtain ⟨A, c, rfl, hle, hC⟩ := Kd.R_reads hR
 rw [hl] at hle
 refine ⟨A, c, by rw [hl], hle, ?_⟩
 obtain ⟨h1, h2, h3⟩ := hC
 refine ⟨rfl, by rw [← hl]; exact h2, fun hp => ?_⟩
 obtain ⟨ad, rfl, h4⟩ := h3 (by rw [hl]; exact hp)
 refine ⟨ad, rfl, fun j x hj => ?_⟩
 have hjl : j < xs.length := (List.getElem?_eq_some_iff.1 hj).1
 obtain ⟨cs, hcs, hK, hcc⟩ := h4 j rows[j] (List.getElem?_eq_getElem (by omega))
 refine ⟨cs, hcs, ?_, hcc⟩
 rw [hK.1]
 exact hx j x _ hj (List.getElem?_eq_getElem (by omega))
theorem anyIdx0 {P : Program} {ρ : Ren} (L : SlLaysH.n6 P ρ) (A : Option Addr) (c : Nat) (g : Nat) (lb : Array Value) (w : World) :
 Calls P (ρ.f 6) #[.slice A 0 c, .func (.func g) #[] lb] w fun e w' => ∃ i : Int, e = .returned (.int .i64 i) ∧ i = -1 ∧ Below w.heap.size w w' := by
 have mixed := L.mixed; have t0 := L.t0; have a0 := L.a0; have z0 := L.z0; have v0 := L.v0; have t3 := L.t3; have a3 := L.a3; have z3 := L.z3; have v3 := L.v3; have t4 := L.t4; have a4 := L.a4; have z4 := L.z4; have v4 := L.v4; have t22 := L.t22; have a22 := L.a22; have z22 := L.z22; have v22 := L.v22; have a23 := L.a23; have z23 := L.z23; have t25 := L.t25; have a25 := L.a25; have z25 := L.z25; have v25 := L.v25
 have HB := zad (Below.refl w.heap.size w)
 obtain ⟨_, _, FG⟩ := L.f6
 go_enter FG, SlBodyH.n6_ntmps ρ
 go_wp2
 go_loopg [5, 8] 0 (fun gg _ s8 wr => s8 = .int .i64 0 ∧ Aside0 (Below w.heap.size w wr))
 case atStart => exact ⟨rfl, ⟨taaa⟩⟩
 case round =>
  clear HB; obtain ⟨rfl, HB⟩ := hrel
  go_wp2
  go_ret
  exact ⟨_, rfl, rfl, HB.out⟩
theorem anyHas0 {P : Program} {ρ : Ren} (L : SlLaysH.n8 P ρ) (A : Option Addr) (c : Nat) (g : Nat) (lb : Array Value) (w : World) :
 Calls P (ρ.f 8) #[.slice A 0 c, .func (.func g) #[] lb] w fun e w' => e = .returned (.bool false) ∧ Below w.heap.size w w' := by
 have mixed := L.mixed; have t0 := L.t0; have a0 := L.a0; have z0 := L.z0; have v0 := L.v0; have t3 := L.t3; have a3 := L.a3; have z3 := L.z3; have v3 := L.v3; have t4 := L.t4; have a4 := L.a4; have z4 := L.z4; have v4 := L.v4; have t22 := L.t22; have a22 := L.a22; have z22 := L.z22; have v22 := L.v22; have a23 := L.a23; have z23 := L.z23; have t25 := L.t25; have a25 := L.a25; have z25 := L.z25; have v25 := L.v25
 have e6 : ∀ args w, (callFunc (ρ.f 6) args).run P w = .ok (.enter (ρ.f 6) args) w := L.f6.enters rfl
 obtain ⟨_, _, FG⟩ := L.f8
 go_enter FG, SlBodyH.n8_ntmps ρ
 go_wp2_with (go_at_fn (ρ.f 6); refine (anyIdx0 { L with } A c g lb _).mono ?_; rintro e w' ⟨i, rfl, hi, hb⟩; have HI := zad hi; have HB := zad hb; clear hi hb)
 go_ret
 refine ⟨?_, HB.out⟩
 rw [HI.out]
 rfl
end
def spec_l1All.l0 : Nat → Int → Int → List Int → Int → Int → Option (Bool)
 | 0, _, _, _, _, _ => none
 | k + 1, x1, x2, x9, x10, x11 => if x11 < x10 then (if 0 ≤ x11 then (if x11 < (x9.length : Int) then ((spec_l1In.f (rd x9 x11) x1 x2).bind fun t102 => (if t102 = true then (spec_l1All.l0 k x1 x2 x9 x10 (wrap64 (x11 + 1))) else (some false))) else (none)) else (none)) else (some true)
def spec_l1All.f (k : Nat) (l0 : List Int) (a1 : Int) (a2 : Int) : Option (Bool) := spec_l1All.l0 k a1 a2 l0 (l0.length : Int) 0
theorem spec_l1All.calls (k : Nat) (A0 : Option Addr) (c0 : Nat) (l0 : List Int) (a1 : Int) (a2 : Int) (r : Bool) (w : World) (hr0 : Kd.C (Kd.int .i64) w A0 l0.length l0) (hc0 : l0.length ≤ c0) (h : spec_l1All.f k l0 a1 a2 = some r) :
 Calls Try.prog 68 #[.slice A0 l0.length c0, .int .i64 a1, .int .i64 a2] w fun e w' => e = .returned (.bool r) ∧ Drawn0 w w' := by
 have HR0 := zad hr0; have HC0 := zad hc0; clear hr0 hc0; have H : (spec_l1All.l0 k a1 a2 l0 (l0.length : Int) 0) = some r := h
 clear h; have H' := zad H
 clear H; go_enter Try.func68, Try.ntmps68
 go_wp2
 go_loopg [11] k (fun kq v11 w' => ∃ (x11_1 : Int), v11 = .int .i64 x11_1 ∧ Aside0 (spec_l1All.l0 kq a1 a2 l0 (l0.length : Int) x11_1 = some r) ∧ Aside0 (kq ≤ k) ∧ Drawn0 w w')
 case atStart => exact ⟨(0), (taad), H', ⟨zcb _⟩, taag⟩
 case round =>
  clear H'
  try clear p2
  obtain ⟨x11_1, rfl, HA, HK1, ⟨m1, rfl⟩⟩ := hrel
  cases gk with
  | zero => exact absurd HA.out (by simp [spec_l1All.l0])
  | succ k1 =>
   have H := HA.out
   clear HA; simp only [spec_l1All.l0] at H
   by_cases c4 : x11_1 < (l0.length : Int)
   · rw [if_pos c4] at H
     have c4b0 : decide (x11_1 < (l0.length : Int)) = true := zba c4
     clear c4; by_cases c5 : 0 ≤ x11_1
     · rw [if_pos c5] at H
       have c5b0 : decide (0 ≤ x11_1) = true := zba c5
       clear c5; by_cases c6 : x11_1 < (l0.length : Int)
       · rw [if_pos c6] at H
         have c6b0 : decide (x11_1 < (l0.length : Int)) = true := zba c6
         clear c6; replace H := zay.mp H; obtain ⟨t102, A70, H⟩ := H
         replace H : (if t102 = true then (spec_l1All.l0 k1 a1 a2 l0 (l0.length : Int) (wrap64 (x11_1 + 1))) else (some false)) = some r := H
         have A7 := zad A70; clear A70; by_cases c8 : t102 = true
         · subst c8
           have H1 : (spec_l1All.l0 k1 a1 a2 l0 (l0.length : Int) (wrap64 (x11_1 + 1))) = some r := by rw [if_pos rfl] at H; exact H
           clear H; have H := H1; clear H1; have H' := zad H
           clear H; have p101 : 0 ≤ (x11_1 : Int) := zas (taab)
           have q101 : x11_1 < (l0.length : Int) := zas (taab)
           obtain ⟨ad101, e101, hx101_0⟩ := zbw HR0.out x11_1 p101 q101
           cases e101
           replace p101 := eq_true p101
           replace q101 := eq_true q101
           go_wp2_with (first | ((with_reducible refine zbi (f := 66) rfl ?_); refine zbo (some 18) rfl rfl Try.func66 (by kernel_rfl) rfl #[.int .i64 (rd l0 x11_1), .int .i64 a1, .int .i64 a2] rfl (taae) ?_; (with_reducible refine (spec_l1In.calls (rd l0 x11_1) a1 a2 true _ A7.out).mono ?_); rintro e w' ⟨rfl, ⟨nd, rfl⟩⟩; refine ⟨_, rfl, ?_⟩))
           go_roundg k1
           case measure => have := HK1.out; omega
           case rel => exact ⟨(wrap64 (x11_1 + 1)), (taad), H', ⟨taat⟩, taag⟩
         · replace c8 := zbj.mpr c8
           subst c8; have H1 : (some false) = some r := by rw [if_neg (show ¬ (false = true) by decide)] at H; exact H
           clear H; have H := H1; clear H1; obtain rfl := zbf H
           have p101 : 0 ≤ (x11_1 : Int) := zas (taab)
           have q101 : x11_1 < (l0.length : Int) := zas (taab)
           obtain ⟨ad101, e101, hx101_0⟩ := zbw HR0.out x11_1 p101 q101
           cases e101
           replace p101 := eq_true p101
           replace q101 := eq_true q101
           go_wp2_with (first | ((with_reducible refine zbi (f := 66) rfl ?_); refine zbo (some 18) rfl rfl Try.func66 (by kernel_rfl) rfl #[.int .i64 (rd l0 x11_1), .int .i64 a1, .int .i64 a2] rfl (taae) ?_; (with_reducible refine (spec_l1In.calls (rd l0 x11_1) a1 a2 false _ A7.out).mono ?_); rintro e w' ⟨rfl, ⟨nd, rfl⟩⟩; refine ⟨_, rfl, ?_⟩))
           go_ret
           exact ⟨taad, taag⟩
       · rw [if_neg c6] at H
         exact absurd H (taac)
     · rw [if_neg c5] at H
       exact absurd H (taac)
   · rw [if_neg c4] at H
     have c4b0 : decide (x11_1 < (l0.length : Int)) = false := zbk c4
     clear c4; obtain rfl := zbf H
     go_wp2
     go_ret
     exact ⟨taad, taag⟩
theorem w64 {x : Int} (h1 : -9223372036854775808 ≤ x) (h2 : x ≤ 9223372036854775807) : wrap64 x = x := by
 unfold wrap64
 omega
theorem wsucc {i : Nat} {n : Nat} (h : i < n) (hn : n ≤ 9223372036854775807) : wrap64 ((i : Int) + 1) = ((i + 1 : Nat) : Int) := by
 rw [w64 (by omega) (by omega)]
 omega
theorem rdn {xs : List Int} {i : Nat} (h : i < xs.length) : rd xs (i : Int) = xs[i] := by
 simp [rd, h]
theorem Ev.succ {α : Type} {g : Nat → Option α} {r : α} (h : Ev (fun k => g (k + 1)) r) : Ev g r := Ev.step (fun _ => rfl) h
theorem Ev.get {α : Type} {g : Nat → Option α} {r : α} (h : Ev g r) : ∃ k, g k = some r := Ev.rounds h
theorem Ev.ite {α : Type} {c : Prop} [Decidable c] {g f : Nat → Option α} {r s : α} (h : c → Ev g r) (h' : ¬ c → Ev f s) : Ev (fun k => if c then g k else f k) (if c then r else s) := by
 by_cases hc : c
 · simp only [hc, if_true]
   exact h hc
 · simp only [hc, if_false]
   exact h' hc
theorem ev_all {xs : List Int} {g : Nat → Int → Option Bool} (p : Int → Bool) (hend : Ev (fun k => g k (xs.length : Int)) true)
 (hyes : ∀ (i : Nat) (h : i < xs.length) r, p xs[i] = true → Ev (fun k => g k ((i + 1 : Nat) : Int)) r → Ev (fun k => g k (i : Int)) r)
 (hno : ∀ (i : Nat) (h : i < xs.length), p xs[i] = false → Ev (fun k => g k (i : Int)) false) :
 ∀ (n i : Nat), i + n = xs.length → Ev (fun k => g k (i : Int)) ((xs.drop i).all p)
 | 0, i, h => by
  rw [List.drop_eq_nil_of_le (by omega), show i = xs.length by omega]
  exact hend
 | n + 1, i, h => by
  have hi : i < xs.length := by omega
  rw [List.drop_eq_getElem_cons hi, List.all_cons]
  cases hp : p xs[i]
  · exact hno i hi hp
  · rw [Bool.true_and]
    exact hyes i hi _ hp (ev_all p hend hyes hno n (i + 1) (by omega))
theorem ev_fold {σ ρ : Type} {xs : List Int} {g : Nat → σ → Int → Option ρ} (step : σ → Int → σ) (I : σ → Nat → Prop) (fin : σ → ρ)
 (hend : ∀ s, I s xs.length → Ev (fun k => g k s (xs.length : Int)) (fin s))
 (hstep : ∀ (i : Nat) (h : i < xs.length) s r, I s i → I (step s xs[i]) (i + 1) → Ev (fun k => g k (step s xs[i]) ((i + 1 : Nat) : Int)) r → Ev (fun k => g k s (i : Int)) r)
 (hI : ∀ (i : Nat) (h : i < xs.length) s, I s i → I (step s xs[i]) (i + 1)) :
 ∀ (n i : Nat) (s : σ), i + n = xs.length → I s i → Ev (fun k => g k s (i : Int)) (fin ((xs.drop i).foldl step s))
 | 0, i, s, h, hs => by
  have e : i = xs.length := by omega
  subst e; rw [List.drop_eq_nil_of_le (by omega)]
  exact hend s hs
 | n + 1, i, s, h, hs => by
  have hi : i < xs.length := by omega
  rw [List.drop_eq_getElem_cons hi, List.foldl_cons]
  exact hstep i hi s _ hs (hI i hi s hs) (ev_fold step I fin hend hstep hI n (i + 1) _ (by omega) (hI i hi s hs))
theorem rdi {xs : List Int} {i : Int} (h0 : 0 ≤ i) (h1 : i < xs.length) : rd xs i = xs[i.toNat]'(by omega) := by
 unfold rd
 rw [List.getD_eq_getElem?_getD, List.getElem?_eq_getElem (by omega)]
 rfl
theorem l1In_eq (a b c : Int) : spec_l1In.f a b c = some (decide (b ≤ a ∧ a ≤ c)) := by
 unfold spec_l1In.f
 by_cases h : b ≤ a <;> simp [h]
theorem within_eq (a b c : Int) : impl_within.f a b c = some (decide (b ≤ a ∧ a ≤ c)) := by
 unfold impl_within.f
 by_cases h : b ≤ a <;> simp [h]
def inR (lo hi : Int) (xs : List Int) : Bool := xs.all fun x => decide (lo ≤ x ∧ x ≤ hi)
theorem l1All_ev (xs : List Int) (lo hi : Int) (hx : xs.length ≤ 9223372036854775807) : Ev (fun k => spec_l1All.f k xs lo hi) (inR lo hi xs) := by
 have h := ev_all (xs := xs) (g := fun k i => spec_l1All.l0 k lo hi xs (xs.length : Int) i) (fun x => decide (lo ≤ x ∧ x ≤ hi))
  (Ev.succ (by simp only [spec_l1All.l0, if_neg (Int.lt_irrefl _)]; exact Ev.now _))
  (fun i h r hp hr => Ev.succ (by
   simp only [spec_l1All.l0, if_pos (show (i : Int) < (xs.length : Int) by omega), if_pos (show (0 : Int) ≤ (i : Int) by omega), rdn h, l1In_eq, zbe, hp, if_true, wsucc h hx]
   exact hr))
  (fun i h hp => Ev.succ (by
   simp only [spec_l1All.l0, if_pos (show (i : Int) < (xs.length : Int) by omega), if_pos (show (0 : Int) ≤ (i : Int) by omega), rdn h, l1In_eq, zbe, hp]
   exact Ev.now _)) xs.length 0 (by omega)
 exact h
theorem allWithin_ev (xs : List Int) (lo hi : Int) (hx : xs.length ≤ 9223372036854775807) : Ev (fun k => impl_allWithin.f k xs lo hi) (inR lo hi xs) := by
 have h := ev_all (xs := xs) (g := fun k i => impl_allWithin.l0 k lo hi xs (xs.length : Int) i) (fun x => decide (lo ≤ x ∧ x ≤ hi))
  (Ev.succ (by simp only [impl_allWithin.l0, if_neg (Int.lt_irrefl _)]; exact Ev.now _))
  (fun i h r hp hr => Ev.succ (by
   simp only [impl_allWithin.l0, if_pos (show (i : Int) < (xs.length : Int) by omega), if_pos (show (0 : Int) ≤ (i : Int) by omega), rdn h, within_eq, zbe, hp, if_true, wsucc h hx]
   exact hr))
  (fun i h hp => Ev.succ (by
   simp only [impl_allWithin.l0, if_pos (show (i : Int) < (xs.length : Int) by omega), if_pos (show (0 : Int) ≤ (i : Int) by omega), rdn h, within_eq, zbe, hp]
   exact Ev.now _)) xs.length 0 (by omega)
 exact h
section
open Go.Shelf Go.Lib
end
end Go.Proofs.Ytdkimdlbjeobiaa.A
/-
  DERIVED: THE SHELF's CONTRACTS AT THIS DUMP, IN PLAIN WORDS (tools/lay-plain.mjs out of 'YtdkimdlbjeobiaaShelfH.lean', which tools/lay-shelf.mjs wrote): THE SAME DECLARATIONS UNDER THE SAME NAMES: 'import', 'namespace', 'open', 'def', 'theorem' AND NOTHING ELSE: no command of the shelf's: FOR A HAND-IN. Each laying: the table of numbers ('.._ren') and one theorem, a field a fact of the dump's own or the kernel's comparison; each contract: ONE APPLICATION.
-/
namespace Go.Proofs
open Go.Shelf
def Try.hasL_ren : Go.Shelf.Ren := ⟨fun | 8 => 41 | 6 => 75 | n => n, fun | 22 => 23 | 23 => 22 | 25 => 31 | 4 => 4 | 3 => 3 | 0 => 0 | n => n, fun | n => n⟩
theorem Try.hasL : Go.Proofs.SlLaysH.n8 Try.prog Try.hasL_ren := {
 mixed := by kernel_rfl
 f6 := ⟨Try.f75.name, by decide, Try.func75.trans (congrArg some (by kernel_rfl))⟩
 f8 := ⟨Try.f41.name, by decide, Try.func41.trans (congrArg some (by kernel_rfl))⟩
 t0 := Try.underlying0
 a0 := Try.isAgg0
 z0 := Try.sizeOf0
 v0 := Try.zeroValue0
 t3 := Try.underlying3
 a3 := Try.isAgg3
 z3 := Try.sizeOf3
 v3 := Try.zeroValue3
 t4 := Try.underlying4
 a4 := Try.isAgg4
 z4 := Try.sizeOf4
 v4 := Try.zeroValue4
 t22 := Try.underlying23
 a22 := Try.isAgg23
 z22 := Try.sizeOf23
 v22 := Try.zeroValue23
 a23 := Try.isAgg22
 z23 := Try.sizeOf22
 t25 := Try.underlying31
 a25 := Try.isAgg31
 z25 := Try.sizeOf31
 v25 := Try.zeroValue31 }
end Go.Proofs

namespace Go.Proofs.Ytdkimdlbjeobiaa.A
open Go.RowKit Go.Proofs.YtdkimdlbjeobiaaW.PrintWords Go.Proofs.YtdkimdlbjeobiaaW.PrintLast Go.Proofs.YtdkimdlbjeobiaaW.PrintMore
attribute [local go_sem] max2_int min2_int max_two min_two max_three min_three max_four min_four
section
open Go.Shelf Go.Lib
theorem rowsAt {w : World} {ad : Addr} {l0 : List (List Int)} (hr0 : Kd.C (Kd.slice 3 (Kd.int .i64)) w (some ad) l0.length l0) : ∃ vs : Nat → Value, ∀ j, j < l0.length → w.cell? (ad.add j) = some (vs j) ∧ ∃ A c, vs j = .slice A (l0.getD j []).length c ∧ (l0.getD j []).length ≤ c ∧ Kd.C (Kd.int .i64) w A (l0.getD j []).length (l0.getD j []) := by
 have hrows : ∀ j, j < l0.length → ∃ v : Value, w.cell? (ad.add j) = some v ∧ ∃ A c, v = .slice A (l0.getD j []).length c ∧ (l0.getD j []).length ≤ c ∧ Kd.C (Kd.int .i64) w A (l0.getD j []).length (l0.getD j []) := fun j hj => by
  obtain ⟨ad', A, c, he, hcell, hle, hC⟩ := at_L1 hr0 (j : Int) (by omega) (by omega)
  cases he
  exact ⟨_, hcell, A, c, rfl, hle, hC⟩
 exact ⟨fun j => if h : j < l0.length then Classical.choose (hrows j h) else .bool false, fun j h => by
  simp only [dif_pos h]
  exact Classical.choose_spec (hrows j h)⟩
end
section
open Go.Shelf Go.Lib
def covHas (k : Nat) (out : List (List Int)) (b : List Int) : Option Bool := if out.all (fun c => (impl_isMajorized.f k b c).isSome) = true then some (out.any fun c => impl_isMajorized.f k b c == some true) else none
theorem cov_cell (k : Nat) (b x : List Int) (t : Bool) (Ab A : Option Addr) (cb c B : Nat) (W : World) (h0 : W.cell? ⟨B, 0, none⟩ = some (.slice Ab b.length cb)) (hr0 : Kd.C (Kd.int .i64) W Ab b.length b) (hc0 : b.length ≤ cb) (hr : Kd.C (Kd.int .i64) W A x.length x) (hc : x.length ≤ c) (h : impl_isMajorized.f k b x = some t) :
 Calls Try.prog 42 (#[.slice A x.length c] ++ #[.pointer (some ⟨B, 0, none⟩)]) W fun e w' => e = .returned (.bool t) ∧ Below W.heap.size W w' := by
 have HR0 := zad hr0; have HC0 := zad hc0; have HR := zad hr; have HC := zad hc; have HK := zad h; clear hr0 hc0 hr hc h; show Calls Try.prog 42 #[.slice A x.length c, .pointer (some ⟨B, 0, none⟩)] W _
 go_enter Try.func42, Try.ntmps42
 go_wp2_with (go_at_call 43; (refine (impl_isMajorized.calls k Ab cb b A c x t _ ?side1 ?side2 ?side3 ?side4 HK.out).mono ?_); (case side1 => first | exact HR0.out | exact zam HR0.out _); (case side2 => exact HC0.out); (case side3 => first | exact HR.out | exact zam HR.out _); (case side4 => exact HC.out); rintro e w' ⟨rfl, hb⟩; have HB := zad hb; clear hb)
 go_ret
 exact ⟨rfl, HB.out⟩
theorem covHas_calls (k B : Nat) (Ab : Option Addr) (cb : Nat) (b : List Int) (A0 : Option Addr) (c0 : Nat) (out : List (List Int)) (r : Bool) (w : World) (hB : w.cell? ⟨B, 0, none⟩ = some (.slice Ab b.length cb)) (hrb : Kd.C (Kd.int .i64) w Ab b.length b) (hcb : b.length ≤ cb) (hr0 : Kd.C (Kd.slice 3 (Kd.int .i64)) w A0 out.length out) (hc0 : out.length ≤ c0) (h : covHas k out b = some r) :
 Calls Try.prog 41 #[.slice A0 out.length c0, .func (.func 42) #[] #[.pointer (some ⟨B, 0, none⟩)]] w fun e w' => e = .returned (.bool r) ∧ Below w.heap.size w w' := by
 unfold covHas at h
 split at h
 next hc =>
  rw [List.all_eq_true] at hc
  have hr := zbf h; by_cases hn : out.length = 0
  · have hout : out = [] := List.length_eq_zero_iff.1 hn
    subst hout; have hf : r = false := by rw [← hr]; rfl
    subst hf; exact (anyHas0 Try.hasL A0 c0 42 #[.pointer (some ⟨B, 0, none⟩)] w).mono fun _ _ hx => hx
  · obtain ⟨ad, _, _, hA, _⟩ := at_L1 hr0 0 (by omega) (by omega)
    subst hA; obtain ⟨vs, hvs⟩ := rowsAt hr0
    have hbig : out.length ≤ 9223372036854775807 := by have := hr0.2.1; omega
    have eg : ∀ args w, (callFunc 42 args).run Try.prog w = .ok (.enter 42 args) w := fun args w => enters_ Try.func42 (by kernel_rfl) rfl args w
    refine (anyHasB Try.hasL ad out.length c0 vs (fun j => impl_isMajorized.f k b (out.getD j []) == some true) 42 #[.pointer (some ⟨B, 0, none⟩)] w eg hbig (fun j hj => (hvs j hj).1) (fun j hj W hb => ?_)).mono ?_
    · obtain ⟨A, c, hv, hle, hC⟩ := (hvs j hj).2
      rw [hv]
      have hm : out.getD j [] ∈ out := by
       rw [List.getD_eq_getElem?_getD, List.getElem?_eq_getElem hj]
       exact List.getElem_mem hj
      obtain ⟨t, ht⟩ := Option.isSome_iff_exists.1 (hc _ hm)
      have hlt := zaz w _ hB
      have := cov_cell k b (out.getD j []) t Ab A cb c B W ((hb.cell (p := ⟨B, 0, none⟩) hlt).trans hB) (Kd.C_below hrb hb) hcb (Kd.C_below hC hb) hle ht
      rw [ht]
      cases t <;> exact this
    · rintro e w' ⟨rb, rfl, hi, hb⟩
      refine ⟨?_, hb⟩
      have e : rb = r := by
       rw [← hr, Bool.eq_iff_iff, List.any_eq_true, hi]
       constructor
       · rintro ⟨j, hj, hp⟩
         rw [List.getD_eq_getElem?_getD, List.getElem?_eq_getElem hj] at hp
         exact ⟨_, List.getElem_mem hj, hp⟩
       · rintro ⟨x, hx, hp⟩
         obtain ⟨j, hj, rfl⟩ := List.mem_iff_getElem.1 hx
         exact ⟨j, hj, by rw [List.getD_eq_getElem?_getD, List.getElem?_eq_getElem hj]; exact hp⟩
      rw [e]
 next => cases h
theorem tail_addr {A12 : Option Addr} {blk co j : Nat} (h : A12 = (if co = (1 : Int).toNat then (some ⟨blk, 0, none⟩ : Option Addr) else (some ⟨blk, 0, none⟩ : Option Addr).map (·.add ((1 : Int).toNat * 1)))) (hco : 2 ≤ co) : ∃ ad : Addr, A12 = some ad ∧ ad.add j = ⟨blk, j + 1, none⟩ := by
 have hne : ¬ co = (1 : Int).toNat := by
  show ¬ co = 1
  omega
 rw [h, if_neg hne]
 refine ⟨(⟨blk, 0, none⟩ : Addr).add 1, rfl, ?_⟩
 rw [addr0_add]
 unfold Addr.add
 split
 · next hj => rw [hj]
 · show (⟨blk, 1 + j, none⟩ : Addr) = _
   rw [Nat.add_comm]
theorem tail_get {bs y : List (List Int)} (h : y = bs.drop 1) {i : Nat} (hi : i < y.length) : bs[i + 1]! = rd_L1 y (i : Int) := by
 subst h; rw [zaw] at hi
 have e : (bs.drop 1)[i]? = bs[i + 1]? := by rw [List.getElem?_drop, Nat.add_comm]
 unfold rd_L1
 rw [Int.toNat_natCast, List.getD_eq_getElem?_getD, e, getElem!_pos bs (i + 1) (by omega), List.getElem?_eq_getElem (show i + 1 < bs.length by omega)]
 rfl
theorem pick_K {cur : Array Value} {bs : List (List Int)} {t : Nat} {W : World} {ps : List Nat} (hrow : ∀ p ∈ ps, ∃ A c, cur[p]! = .slice A (bs[p]!).length c ∧ (bs[p]!).length ≤ c ∧ Kd.C (Kd.int .i64) W A (bs[p]!).length (bs[p]!)) (j : Nat) (x : List Int) (r : List Value) (hj : (ps.map fun p => bs[p]!)[j]? = some x) (hr : (ps.map fun p => [cur[p]!])[j]? = some r) : (Kd.slice t (Kd.int .i64)).K W x r := by
 rw [List.getElem?_map] at hj hr
 obtain ⟨p, hp, rfl⟩ := Option.map_eq_some_iff.1 hj
 rw [hp] at hr
 have e : r = [cur[p]!] := by simpa using hr.symm
 subst e; obtain ⟨hl, he⟩ := List.getElem?_eq_some_iff.1 hp
 obtain ⟨A, c, h1, h2, h3⟩ := hrow p (by rw [← he]; exact List.getElem_mem hl)
 exact ⟨A, c, by rw [h1], h2, h3⟩
theorem succ_w {i n : Nat} (h : i < n) (hn : n ≤ 9223372036854775807) : wrap64 ((i : Int) + 1) = ((i + 1 : Nat) : Int) := by
 unfold wrap64
 omega
mutual
def impl_LowerCovers.j0 : Nat → List Int → Bool → Option ((List (List Int)) × Bool)
 | 0, _, _ => none
 | k + 1, x0, x14 => if x14 = true then (some (([] : List (List Int)), false)) else ((impl_below.f k x0).bind fun t528 => (if 1 ≤ (t528.length : Int) then ((some (t528.drop 1 : List (List Int))).bind fun y531 => (impl_LowerCovers.l0 k (([] : List (List Int))) y531 (y531.length : Int) 0)) else (none)))
def impl_LowerCovers.l0 : Nat → List (List Int) → List (List Int) → Int → Int → Option ((List (List Int)) × Bool)
 | 0, _, _, _, _ => none
 | k + 1, x4, x18, x19, x20 => if x20 < x19 then (if 0 ≤ x20 then (if x20 < (x18.length : Int) then ((covHas k x4 (rd_L1 x18 x20)).bind fun t537 => (if t537 = true then (impl_LowerCovers.l0 k x4 x18 x19 (wrap64 (x20 + 1))) else (if x4.length < 5864062014805 then (impl_LowerCovers.l0 k (x4 ++ [rd_L1 x18 x20]) x18 x19 (wrap64 (x20 + 1))) else (none)))) else (none)) else (none)) else (some (x4, true))
end
def impl_LowerCovers.f (k : Nat) (l0 : List Int) : Option ((List (List Int)) × Bool) := (impl_IsList.f k l0).bind fun t523 => (if t523 = true then ((impl_total.f k l0).bind fun t524 => (impl_LowerCovers.j0 k l0 (decide (t524 > 30)))) else (impl_LowerCovers.j0 k l0 true))
theorem impl_LowerCovers.calls (k : Nat) (A0 : Option Addr) (c0 : Nat) (l0 : List Int) (r1 : List (List Int)) (r2 : Bool) (w : World) (hr0 : Kd.C (Kd.int .i64) w A0 l0.length l0) (hc0 : l0.length ≤ c0) (h : impl_LowerCovers.f k l0 = some (r1, r2)) :
 Calls Try.prog 8 #[.slice A0 l0.length c0] w fun e w' => ∃ v0_ : Value, e = .returned (.tuple #[v0_, .bool r2]) ∧ Kd.S (Kd.slice 3 (Kd.int .i64)) 22 w' w.heap.size (fun _ => True) v0_ r1 ∧ Below w.heap.size w w' := by
 have HR0 := zad hr0; have HC0 := zad hc0; clear hr0 hc0; have HB := zad (Below.refl w.heap.size w)
 have H : ((impl_IsList.f k l0).bind fun t523 => (if t523 = true then ((impl_total.f k l0).bind fun t524 => (impl_LowerCovers.j0 k l0 (decide (t524 > 30)))) else (impl_LowerCovers.j0 k l0 true))) = some (r1, r2) := h
 clear h; have HC2 := zad H; clear H; go_enter Try.func8, Try.ntmps8
 go_upto_region 1 with (fail)
 go_cut [14] (fun v14 wc => ∃ (kq : Nat) (x14_1 : Bool), v14 = .bool x14_1 ∧ Aside0 (impl_LowerCovers.j0 kq l0 x14_1 = some (r1, r2)) ∧ Aside0 (kq ≤ k) ∧ Aside0 (Below w.heap.size w wc))
 case first =>
  have H := HC2.out
  clear HC2; replace H := zay.mp H; obtain ⟨t523, A30, H⟩ := H
  replace H : (if t523 = true then ((impl_total.f k l0).bind fun t524 => (impl_LowerCovers.j0 k l0 (decide (t524 > 30)))) else (impl_LowerCovers.j0 k l0 true)) = some (r1, r2) := H
  have A3 := zad A30; clear A30; by_cases c4 : t523 = true
  · subst c4
    have H1 : ((impl_total.f k l0).bind fun t524 => (impl_LowerCovers.j0 k l0 (decide (t524 > 30)))) = some (r1, r2) := by rw [if_pos rfl] at H; exact H
    clear H; have H := H1; clear H1; replace H := zay.mp H; obtain ⟨t524, A50, H⟩ := H
    replace H : (impl_LowerCovers.j0 k l0 (decide (t524 > 30))) = some (r1, r2) := H
    have A5 := zad A50; clear A50; have H' := zad H
    clear H; go_wp2_with (first | ((with_reducible refine zbi (f := 38) rfl ?_); refine zbo (some 8) rfl rfl Try.func38 (by kernel_rfl) rfl #[.slice A0 l0.length c0] rfl (taae) ?_; (with_reducible refine (impl_IsList.calls k _ _ l0 true _ ?side1 ?side2 A3.out).mono ?_); (case side1 => repeat (first | exact (Kd.C_below HR0.out HB.out) | (with_reducible refine zal ?_ _) | (with_reducible refine zam ?_ _) | (with_reducible refine zan ?_))); (case side2 => exact HC0.out); rintro e w' ⟨rfl, ⟨nd, rfl⟩⟩; refine ⟨_, rfl, ?_⟩) | (go_at_call 39; (with_reducible refine (impl_total.calls k _ _ l0 t524 _ ?side1 ?side2 A5.out).mono ?_); (case side1 => repeat (first | exact (Kd.C_below HR0.out (taaa)) | (with_reducible refine zal ?_ _) | (with_reducible refine zam ?_ _) | (with_reducible refine zan ?_))); (case side2 => exact HC0.out); rintro e w' ⟨rfl, ⟨nd, rfl⟩⟩))
    go_meet
    case rel => exact ⟨_, (decide (t524 > 30)), (taad), H', ⟨tabn⟩, ⟨taaa⟩⟩
  · replace c4 := zbj.mpr c4
    subst c4; have H1 : (impl_LowerCovers.j0 k l0 true) = some (r1, r2) := by rw [if_neg (show ¬ (false = true) by decide)] at H; exact H
    clear H; have H := H1; clear H1; have H' := zad H
    clear H; go_wp2_with (first | ((with_reducible refine zbi (f := 38) rfl ?_); refine zbo (some 8) rfl rfl Try.func38 (by kernel_rfl) rfl #[.slice A0 l0.length c0] rfl (taae) ?_; (with_reducible refine (impl_IsList.calls k _ _ l0 false _ ?side1 ?side2 A3.out).mono ?_); (case side1 => exact tafr); (case side2 => exact HC0.out); rintro e w' ⟨rfl, ⟨nd, rfl⟩⟩; refine ⟨_, rfl, ?_⟩))
    go_meet
    case rel => exact ⟨_, (true), (taad), H', ⟨tabn⟩, ⟨taaa⟩⟩
 case rest =>
  clear HC2; try clear c1
  try clear p2
  try clear c4
  obtain ⟨kq, x14_1, rfl, HA, HJ1, HB⟩ := hcut
  cases kq with
  | zero => exact absurd HA.out (by simp [impl_LowerCovers.j0])
  | succ kj1 =>
   have H := HA.out
   clear HA; simp only [impl_LowerCovers.j0] at H
   by_cases c6 : x14_1 = true
   · subst c6
     have H1 : (some (([] : List (List Int)), false)) = some (r1, r2) := by rw [if_pos rfl] at H; exact H
     clear H; have H := H1; clear H1; simp only [zbm, zbq] at H
     obtain ⟨rfl, rfl⟩ := H
     go_wp2
     go_ret2
     exact ⟨_, taaf, taba, taaa⟩
   · replace c6 := zbj.mpr c6
     subst c6; have H1 : ((impl_below.f kj1 l0).bind fun t528 => (if 1 ≤ (t528.length : Int) then ((some (t528.drop 1 : List (List Int))).bind fun y531 => (impl_LowerCovers.l0 kj1 (([] : List (List Int))) y531 (y531.length : Int) 0)) else (none))) = some (r1, r2) := by rw [if_neg (show ¬ (false = true) by decide)] at H; exact H
     clear H; have H := H1; clear H1; obtain ⟨y525, hy525⟩ : ∃ y_ : List (List Int), y_ = (([] : List (List Int))) := ⟨_, rfl⟩
     replace H : ((impl_below.f kj1 l0).bind fun t528 => (if 1 ≤ (t528.length : Int) then ((some (t528.drop 1 : List (List Int))).bind fun y531 => (impl_LowerCovers.l0 kj1 y525 y531 (y531.length : Int) 0)) else (none))) = some (r1, r2) := by first | (rw [hy525]; with_reducible exact H) | (have H2_ := (zbe _ _).symm.trans H; rw [hy525]; with_reducible exact H2_) | (have H2_ := (zbe _ _).symm.trans H; with_reducible exact H2_) | with_reducible exact H | (rw [hy525]; exact H) | exact H
     have Ny525 := zad hy525; clear hy525; replace H := zay.mp H; obtain ⟨t528, A70, H⟩ := H
     replace H : (if 1 ≤ (t528.length : Int) then ((some (t528.drop 1 : List (List Int))).bind fun y531 => (impl_LowerCovers.l0 kj1 y525 y531 (y531.length : Int) 0)) else (none)) = some (r1, r2) := H
     have A7 := zad A70; clear A70; by_cases c8 : 1 ≤ (t528.length : Int)
     · rw [if_pos c8] at H
       have c8b0 := eq_true c8; have c8b1 : decide (1 ≤ (t528.length : Int)) = true := zba c8
       clear c8; obtain ⟨y531, hy531⟩ : ∃ y_ : List (List Int), y_ = (t528.drop 1) := ⟨_, rfl⟩
       replace H : (impl_LowerCovers.l0 kj1 y525 y531 (y531.length : Int) 0) = some (r1, r2) := by first | (rw [hy531]; with_reducible exact H) | (have H2_ := (zbe _ _).symm.trans H; rw [hy531]; with_reducible exact H2_) | (have H2_ := (zbe _ _).symm.trans H; with_reducible exact H2_) | with_reducible exact H | (rw [hy531]; exact H) | exact H
       have Ny531 := zad hy531; clear hy531; have H' := zad H
       clear H; go_wp2_with (first | ((with_reducible refine gate_dst (N := 15) rfl ?_); refine Kd.R_lit (Kd.raw 1) _ 22 ?hg (N := 15) ?hd (xs := ([] : List (List Value))) (inner := []) (ok := (fun k_ => (w.heap.size ≤ k_))) (okp := (fun k_ => (w.heap.size ≤ k_))) ?hr ?hp (fun _ hk => hk) ((show ∀ k_, wc.heap.size ≤ k_ → (fun k_ => (w.heap.size ≤ k_)) k_ from fun k_ hk => (Nat.le_trans (zbl (taaa)) hk)) _ (zcb _)) (Below.refl _ _) (zcb _) (taac) ?_; (case hd => rfl); (case hg => rfl); (case hr => first | (go_simp; done) | (go_simp; rfl)); (case hp => exact (Reps.none _ _)); intro v526 w9 ho10 hb hg_ hnew_; clear hg_ hnew_; have n0_ := zad (zbu ho10 (zbl (taaa))); have n1_ := zad (zbh (taaa) hb); clear HB; have HO527 := n0_; have HB := n1_; clear n0_ n1_ hb ho10) | ((with_reducible refine zbi (f := 40) rfl ?_); refine zbo (some 17) rfl rfl Try.func40 (by kernel_rfl) rfl #[.slice A0 l0.length c0] rfl (taae) ?_; (with_reducible refine (impl_below.calls kj1 _ _ l0 t528 _ ?side1 ?side2 A7.out).mono ?_); (case side1 => exact tafr); (case side2 => exact HC0.out); rintro e w11 ⟨v529, rfl, ho0, hb⟩; refine ⟨_, rfl, ?_⟩; obtain ⟨nA, hnA⟩ : ∃ n, n = w9.heap.size := ⟨_, rfl⟩; obtain ⟨n1, hn1⟩ : ∃ n, n = w11.heap.size := ⟨_, rfl⟩; rw [← hnA] at ho0; have hbA : w.heap.size ≤ nA := (by rw [hnA]; exact HB.out.size); have hA1 : nA ≤ n1 := (by rw [hnA, hn1]; exact hb.size); have HRW := zad (show (Kd.raw 1).R 22 w11 w.heap.size (fun k => k < nA ∨ n1 ≤ k) v526 [] from zbr (zbt (Kd.R_bound HO527.out) hb) (fun k hk => .inl (by have := hk.2.2.1; omega))); have HS := zad (show Kd.S (Kd.slice 3 (Kd.int .i64)) 22 w11 nA (fun k => nA ≤ k ∧ k < n1) v529 t528 from Kd.S_mono (Kd.S_bound ho0) (fun k hk => ⟨hk.2.1, by have := hk.2.2.1; omega⟩)); have HB2 := zad (zbh (taaa) hb); clear HO527 HB hb ho0; have HB := HB2; clear HB2; obtain ⟨blk, co13, cur, rfl, hblo, hbhi, hheap, hcsz, hroom12, hcmx, hrow⟩ := S_cells2 HS.out (by have := zas c8b1; omega); have HCM := zad hcmx; have HCS := zad hcsz; have HRM := zad hroom12; have HH := zad hheap; have HROW := zad hrow; have HKP := zad (show Kp w11 w11 nA n1 from fun _ _ _ => rfl); have HN1 := zad hn1; clear hheap hrow hnA hn1 hcmx hcsz; have q12 : (1 : Int) ≤ ((t528.length : Int) : Int) := zas (taab); obtain ⟨i012, hi012, _, hsz12, _⟩ := info_parts info22; have hcut12 := cut_from (P := Try.prog) 23 22 .i64 Try.underlying23 hi012 1 hsz12 (some ⟨blk, 0, none⟩) t528.length co13 1 (by omega) q12; obtain ⟨A12, hA12⟩ : ∃ A1, A1 = (if co13 = (1 : Int).toNat then (some ⟨blk, 0, none⟩ : Option Addr) else (some ⟨blk, 0, none⟩ : Option Addr).map (·.add ((1 : Int).toNat * 1))) := ⟨_, rfl⟩; obtain ⟨c12, hc12⟩ : ∃ c1, c1 = co13 - (1 : Int).toNat := ⟨_, rfl⟩; have hy12 : y531.length = t528.length - (1 : Int).toNat := (by rw [Ny531.out, zaw] <;> omega); rw [← hy12, ← hA12, ← hc12] at hcut12; have H12 := zad (show ∀ j, j < y531.length → ∃ ad, A12 = some ad ∧ ad.add j = ⟨blk, j + 1, none⟩ from fun j hj => tail_addr hA12 (by omega)); clear hi012 hsz12 hc12; have KY12 := zad hy12; clear hy12 hA12 hroom12; replace q12 := eq_true q12))
       go_loopg [4, 20] kj1 (fun kq v4 v20 w' => ∃ (ps : List Nat) (i : Nat), v20 = .int .i64 (i : Int) ∧ Aside0 (impl_LowerCovers.l0 kq (ps.map fun p => t528[p]!) y531 (y531.length : Int) (i : Int) = some (r1, r2)) ∧ Aside0 (kq ≤ kj1) ∧ Aside0 ((Kd.raw 1).R 22 w' w.heap.size (fun k => k < nA ∨ n1 ≤ k) v4 (ps.map fun p => [cur[p]!])) ∧ Aside0 (Kp w11 w' nA n1) ∧ Aside0 (ps.Pairwise (· < ·) ∧ (∀ p ∈ ps, p ≤ i ∧ p < t528.length) ∧ i ≤ y531.length) ∧ Aside0 (Below w.heap.size w w') ∧ Aside0 (n1 ≤ w'.heap.size))
       case atStart => exact ⟨[], 0, rfl, ⟨by have h := H'.out; rw [Ny525.out] at h; exact h⟩, ⟨zcb _⟩, ⟨HRW.out⟩, ⟨HKP.out⟩, ⟨List.Pairwise.nil, taac, Nat.zero_le _⟩, ⟨HB.out⟩, ⟨Nat.le_of_eq HN1.out⟩⟩
       case round =>
        clear H' HRW HKP HB
        try clear c4
        try clear c6
        try clear c8b0
        try clear c8b1
        obtain ⟨ps, i, rfl, HA, HK2, HRW, HKP, HPS, HB, HNW⟩ := hrel
        have hy := KY12.out
        have hroom12 := HRM.out
        have hcsz := HCS.out
        simp only [Int.reduceToNat] at hy
        cases gk with
        | zero => exact absurd HA.out (by simp [impl_LowerCovers.l0])
        | succ k2 =>
         have H := HA.out
         clear HA; simp only [impl_LowerCovers.l0] at H
         by_cases c14 : (i : Int) < (y531.length : Int)
         · rw [if_pos c14, if_pos (Int.natCast_nonneg i), if_pos c14] at H
           obtain ⟨t537, A170, H⟩ := zay.mp H
           have hin : i + 1 < t528.length := by omega
           have HIL := zad (show i + 1 ≤ y531.length by omega)
           obtain ⟨ad12, hA12, had⟩ := H12.out i (by omega)
           obtain ⟨Ab, cb, hcur, hbl, hbC⟩ := HROW.out (i + 1) hin
           have heq : t528[i + 1]! = rd_L1 y531 (i : Int) := tail_get Ny531.out (by omega)
           rw [heq] at hcur hbl hbC
           have hx : wr.cell? (ad12.add i) = some (.slice Ab (rd_L1 y531 (i : Int)).length cb) := by
            rw [had, ← hcur]
            have hb2 : wr.heap[blk]? = some (.cells cur 22 (0, 0)) := (HKP.out blk hblo hbhi).trans HH.out
            rw [blk_cell hb2 (i + 1), getElem!_pos cur (i + 1) (by omega), Array.getElem?_eq_getElem (by omega)]
           subst hA12; have HBC := zad (hbC wr HKP.out)
           have HBL := zad hbl; have HEQ := zad heq; have HCUR := zad hcur; have hw := succ_w (show i < y531.length by omega) (Nat.le_trans (Nat.le_trans (show y531.length ≤ t528.length by omega) HRM.out) HCM.out)
           obtain ⟨A4, c4, hu4, hle4, hC4⟩ := raw_C (i := 3) HRW.out (xs := ps.map fun p => t528[p]!) (taac) (pick_K fun p hp => by
            obtain ⟨A, c, h1, h2, h3⟩ := HROW.out p (HPS.out.2.1 p hp).2
            exact ⟨A, c, h1, h2, h3 wr HKP.out⟩)
           rw [hw] at H
           generalize hout : (ps.map fun p => t528[p]!) = out at A170 H hu4 hle4 hC4
           subst hu4; have A17 := zad A170; have HC4 := zad hC4; have HL4 := zad hle4; have HOUT := zad hout.symm; have c14b0 : decide ((i : Int) < (y531.length : Int)) = true := zba c14
           have p536 := eq_true (Int.natCast_nonneg i)
           have q536 := eq_true c14; have HIN := zad hin; have HW := zad hw; clear hy hroom12 hcsz A170 hC4 hle4 hout hcur hbl hbC heq had hw hin c14; cases t537 with
           | true =>
            simp only [if_true] at H
            have H' := zad H
            clear H; go_wp2_with (go_at_call 41; (refine (covHas_calls k2 wr.heap.size Ab cb (rd_L1 y531 (i : Int)) A4 c4 out true _ ?s1 ?s2 ?s3 ?s4 ?s5 A17.out).mono ?_); (case s1 => simp [go_sem]); (case s2 => exact Kd.C_below HBC.out (tabo)); (case s3 => exact HBL.out); (case s4 => exact Kd.C_below HC4.out (tabo)); (case s5 => exact HL4.out); rintro e w3 ⟨rfl, hb⟩; have hbw : Below wr.heap.size wr w3 := zbh (tabo) hb; have HB2 := zad (zbh HB.out hbw); have HRW2 := zad (zbt HRW.out hbw); have HKP2 := zad (kp_step HKP.out hbw HNW.out); have HNW2 := zad (Nat.le_trans HNW.out hbw.size); clear hb hbw HB HRW HKP HNW HC4 HBC)
            go_roundg k2
            case measure => have := HK2.out; omega
            case rel => exact ⟨ps, i + 1, by first | rfl | rw [HW.out], ⟨by rw [← HOUT.out]; exact H'.out⟩, ⟨by have := HK2.out; omega⟩, ⟨HRW2.out⟩, ⟨HKP2.out⟩, ⟨HPS.out.1, fun p hp => ⟨by have := (HPS.out.2.1 p hp).1; omega, (HPS.out.2.1 p hp).2⟩, HIL.out⟩, ⟨HB2.out⟩, ⟨HNW2.out⟩⟩
           | false =>
            simp only [zbn, if_false] at H
            by_cases c20 : out.length < 5864062014805
            · rw [if_pos c20] at H
              have LMc20 := zad c20; have H' := zad H
              clear H c20; obtain ⟨RW, hRW⟩ : ∃ R, R = (ps.map fun p => [cur[p]!]) := ⟨_, rfl⟩
              have HRL := zad (show RW.length = out.length by rw [hRW, HOUT.out]; simp)
              have HRWE := zad hRW; rw [← hRW] at HRW
              clear hRW; go_wp2_with (first | (go_at_call 41; (refine (covHas_calls k2 wr.heap.size Ab cb (rd_L1 y531 (i : Int)) A4 c4 out false _ ?s1 ?s2 ?s3 ?s4 ?s5 A17.out).mono ?_); (case s1 => simp [go_sem]); (case s2 => exact Kd.C_below HBC.out (tabo)); (case s3 => exact HBL.out); (case s4 => exact Kd.C_below HC4.out (tabo)); (case s5 => exact HL4.out); rintro e w3 ⟨rfl, hb⟩; have x0 := tab_bx hb (B := wr.heap.size) (v := .slice Ab (rd_L1 y531 (i : Int)).length cb) (by simp [go_sem]) (tacv); have hbw : Below wr.heap.size wr w3 := zbh (tabo) hb; have HB2 := zad (zbh HB.out hbw); have HRW2 := zad (zbt HRW.out hbw); have HKP2 := zad (kp_step HKP.out hbw HNW.out); have HNW2 := zad (Nat.le_trans HNW.out hbw.size); clear hb hbw HB HRW HKP HNW HC4 HBC) | ((with_reducible refine gate_builtin (b := .append) (xs := #[.tmp 28, .tmp 30]) rfl ?_); at_builtin; refine Kd.R_append (Kd.raw 1) (w0 := w) w.heap.size rfl (.tmp 28) (.tmp 30) 23 22 (.slice none 0 0) 24 rfl Try.underlying23 info22 rfl (by decide) (by omega) (.slice A4 out.length c4) RW [.slice Ab (rd_L1 y531 (i : Int)).length cb] [.slice Ab (rd_L1 y531 (i : Int)).length cb] (fun k => k < nA ∨ n1 ≤ k) (fun _ => False) rfl rfl ?aP (fun _ hk => hk.elim) ?aF ?aO ?aB ?aS ?aL ?_; (case aP => exact ⟨rfl, rfl, by intro u hu; rw [List.mem_singleton.1 hu]; rfl⟩); (case aF => exact fun k hk => .inr (Nat.le_trans HNW2.out hk)); (case aO => exact HRW2.out); (case aB => exact HB2.out); (case aS => exact HB2.out.size); (case aL => have := LMc20.out; have := HRL.out; omega); intro v539 w22 ho hb hg hat; have HKP3 := zad (show Kp w11 w22 nA n1 from fun k h1 h2 => (hg.block k (by have := HNW2.out; omega) (fun he => by have := HRW2.out.1 k he.symm; omega)).trans (HKP2.out k h1 h2)); have HRW3 := zad ho; have HB3 := zad hb; have HNW3 := zad (Nat.le_trans HNW2.out hg.size); clear ho hb hg hat HRW2 HB2 HKP2 HNW2))
              go_roundg k2
              case measure => have := HK2.out; omega
              case rel => exact ⟨ps ++ [i + 1], i + 1, by first | rfl | rw [HW.out], ⟨by rw [List.map_append, ← HOUT.out, List.map_singleton, HEQ.out]; exact H'.out⟩, ⟨by have := HK2.out; omega⟩, ⟨by rw [List.map_append, ← HRWE.out, List.map_singleton, HCUR.out]; exact HRW3.out⟩, ⟨HKP3.out⟩, ⟨List.pairwise_append.2 ⟨HPS.out.1, List.pairwise_singleton _ _, fun a ha b hb => by rw [List.mem_singleton.1 hb]; have := (HPS.out.2.1 a ha).1; omega⟩, fun p hp => by
               rcases List.mem_append.1 hp with hp | hp
               · exact ⟨by have := (HPS.out.2.1 p hp).1; omega, (HPS.out.2.1 p hp).2⟩
               · rw [List.mem_singleton.1 hp]; exact ⟨zcb _, HIN.out⟩, HIL.out⟩, ⟨HB3.out⟩, ⟨HNW3.out⟩⟩
            · rw [if_neg c20] at H
              exact absurd H (taac)
         · rw [if_neg c14] at H
           have c14b0 : decide ((i : Int) < (y531.length : Int)) = false := zbk c14
           have c14n : ¬ i < y531.length := by omega
           have c14b1 : decide (i < y531.length) = false := zbk c14n
           simp only [zbm, zbq] at H
           obtain ⟨hr1, rfl⟩ := H
           have HR1 := zad hr1; clear hr1; go_wp2
           go_ret2
           refine ⟨_, rfl, ?_, HB.out⟩
           rw [← HR1.out]
           exact S_pick rfl (Kd.S_step HS.out (fun k hk _ => HKP.out k hk.1 hk.2)) ((HKP.out blk hblo hbhi).trans HH.out) (HPS.out.1.imp fun h => Nat.ne_of_lt h) (fun p hp => (HPS.out.2.1 p hp).2) HRW.out hbA
     · rw [if_neg c8] at H
       exact absurd H (taac)
end
def spec_liGood.f (k : Nat) (l0 : List Int) : Option (Bool) := (spec_l1In.f (l0.length : Int) 1 8).bind fun t103 => (if t103 = true then ((spec_l1All.f k l0 0 60).bind fun t104 => (some t104)) else (some false))
theorem spec_liGood.calls (k : Nat) (A0 : Option Addr) (c0 : Nat) (l0 : List Int) (r : Bool) (w : World) (hr0 : Kd.C (Kd.int .i64) w A0 l0.length l0) (hc0 : l0.length ≤ c0) (h : spec_liGood.f k l0 = some r) :
 Calls Try.prog 31 #[.slice A0 l0.length c0] w fun e w' => e = .returned (.bool r) ∧ Drawn0 w w' := by
 have HR0 := zad hr0; have HC0 := zad hc0; clear hr0 hc0; have H : ((spec_l1In.f (l0.length : Int) 1 8).bind fun t103 => (if t103 = true then ((spec_l1All.f k l0 0 60).bind fun t104 => (some t104)) else (some false))) = some r := h
 clear h; replace H := zay.mp H; obtain ⟨t103, A20, H⟩ := H
 replace H : (if t103 = true then ((spec_l1All.f k l0 0 60).bind fun t104 => (some t104)) else (some false)) = some r := H
 have A2 := zad A20; clear A20; by_cases c3 : t103 = true
 · subst c3
   have H1 : ((spec_l1All.f k l0 0 60).bind fun t104 => (some t104)) = some r := by rw [if_pos rfl] at H; exact H
   clear H; have H := H1; clear H1; replace H := zay.mp H; obtain ⟨t104, A40, H⟩ := H
   replace H : (some t104) = some r := H
   have A4 := zad A40; clear A40; obtain rfl := zbf H
   go_enter Try.func31, Try.ntmps31
   go_wp2_with (first | ((with_reducible refine zbi (f := 66) rfl ?_); refine zbo (some 5) rfl rfl Try.func66 (by kernel_rfl) rfl #[.int .i64 (l0.length : Int), .int .i64 1, .int .i64 8] rfl (taae) ?_; (with_reducible refine (spec_l1In.calls (l0.length : Int) 1 8 true _ A2.out).mono ?_); rintro e w' ⟨rfl, ⟨nd, rfl⟩⟩; refine ⟨_, rfl, ?_⟩) | (go_at_call 68; (with_reducible refine (spec_l1All.calls k _ _ l0 0 60 t104 _ ?side1 ?side2 A4.out).mono ?_); (case side1 => repeat (first | exact HR0.out | (with_reducible refine zal ?_ _) | (with_reducible refine zam ?_ _) | (with_reducible refine zan ?_))); (case side2 => exact HC0.out); rintro e w' ⟨rfl, ⟨nd, rfl⟩⟩))
   go_ret
   exact ⟨taad, taag⟩
 · replace c3 := zbj.mpr c3
   subst c3; have H1 : (some false) = some r := by rw [if_neg (show ¬ (false = true) by decide)] at H; exact H
   clear H; have H := H1; clear H1; obtain rfl := zbf H
   go_enter Try.func31, Try.ntmps31
   go_wp2_with (first | ((with_reducible refine zbi (f := 66) rfl ?_); refine zbo (some 5) rfl rfl Try.func66 (by kernel_rfl) rfl #[.int .i64 (l0.length : Int), .int .i64 1, .int .i64 8] rfl (taae) ?_; (with_reducible refine (spec_l1In.calls (l0.length : Int) 1 8 false _ A2.out).mono ?_); rintro e w' ⟨rfl, ⟨nd, rfl⟩⟩; refine ⟨_, rfl, ?_⟩))
   go_ret
   exact ⟨taad, taag⟩
def spec_liSum.l0 : Nat → Int → List Int → Int → Int → Option (Int)
 | 0, _, _, _, _ => none
 | k + 1, x3, x6, x7, x8 => if x8 < x7 then (if 0 ≤ x8 then (if x8 < (x6.length : Int) then (spec_liSum.l0 k (wrap64 (x3 + (rd x6 x8))) x6 x7 (wrap64 (x8 + 1))) else (none)) else (none)) else (some x3)
def spec_liSum.f (k : Nat) (l0 : List Int) : Option (Int) := spec_liSum.l0 k 0 l0 (l0.length : Int) 0
theorem spec_liSum.calls (k : Nat) (A0 : Option Addr) (c0 : Nat) (l0 : List Int) (r : Int) (w : World) (hr0 : Kd.C (Kd.int .i64) w A0 l0.length l0) (hc0 : l0.length ≤ c0) (h : spec_liSum.f k l0 = some r) :
 Calls Try.prog 32 #[.slice A0 l0.length c0] w fun e w' => e = .returned (.int .i64 r) ∧ Drawn0 w w' := by
 have HR0 := zad hr0; have HC0 := zad hc0; clear hr0 hc0; have H : (spec_liSum.l0 k 0 l0 (l0.length : Int) 0) = some r := h
 clear h; have H' := zad H
 clear H; go_enter Try.func32, Try.ntmps32
 go_wp2
 go_loopg [3, 8] k (fun kq v3 v8 w' => ∃ (x3_1 : Int) (x8_1 : Int), v3 = .int .i64 x3_1 ∧ v8 = .int .i64 x8_1 ∧ Aside0 (spec_liSum.l0 kq x3_1 l0 (l0.length : Int) x8_1 = some r) ∧ Aside0 (kq ≤ k) ∧ Drawn0 w w')
 case atStart => exact ⟨(0), (0), (taad), (taad), H', ⟨zcb _⟩, taag⟩
 case round =>
  clear H'
  obtain ⟨x3_1, x8_1, rfl, rfl, HA, HK1, ⟨m1, rfl⟩⟩ := hrel
  cases gk with
  | zero => exact absurd HA.out (by simp [spec_liSum.l0])
  | succ k1 =>
   have H := HA.out
   clear HA; simp only [spec_liSum.l0] at H
   by_cases c2 : x8_1 < (l0.length : Int)
   · rw [if_pos c2] at H
     have c2b0 : decide (x8_1 < (l0.length : Int)) = true := zba c2
     clear c2; by_cases c3 : 0 ≤ x8_1
     · rw [if_pos c3] at H
       have c3b0 : decide (0 ≤ x8_1) = true := zba c3
       clear c3; by_cases c4 : x8_1 < (l0.length : Int)
       · rw [if_pos c4] at H
         have c4b0 : decide (x8_1 < (l0.length : Int)) = true := zba c4
         clear c4; have H' := zad H
         clear H; have p105 : 0 ≤ (x8_1 : Int) := zas (taab)
         have q105 : x8_1 < (l0.length : Int) := zas (taab)
         obtain ⟨ad105, e105, hx105_0⟩ := zbw HR0.out x8_1 p105 q105
         cases e105
         replace p105 := eq_true p105
         replace q105 := eq_true q105
         go_wp2
         go_roundg k1
         case measure => have := HK1.out; omega
         case rel => exact ⟨(wrap64 (x3_1 + (rd l0 x8_1))), (wrap64 (x8_1 + 1)), (taad), (taad), H', ⟨taat⟩, taag⟩
       · rw [if_neg c4] at H
         exact absurd H (taac)
     · rw [if_neg c3] at H
       exact absurd H (taac)
   · rw [if_neg c2] at H
     have c2b0 : decide (x8_1 < (l0.length : Int)) = false := zbk c2
     clear c2; obtain rfl := zbf H
     go_wp2
     go_ret
     exact ⟨taad, taag⟩
def spec_l1Own.f (l0 : List Int) : Option (List Int) := (some (([] : List Int) : List Int)).bind fun y106 => (if y106.length + l0.length < 17592186044416 then (some (y106 ++ l0)) else (none))
theorem spec_l1Own.calls (A0 : Option Addr) (c0 : Nat) (l0 : List Int) (r : List Int) (w : World) (hr0 : Kd.C (Kd.int .i64) w A0 l0.length l0) (hc0 : l0.length ≤ c0) (h : spec_l1Own.f l0 = some r) :
 Calls Try.prog 69 #[.slice A0 l0.length c0] w fun e w' => ∃ v0_ : Value, e = .returned (v0_) ∧ Kd.R (Kd.int .i64) 3 w' w.heap.size (fun _ => True) v0_ r ∧ Below w.heap.size w w' := by
 have HR0 := zad hr0; have HC0 := zad hc0; clear hr0 hc0; have HB := zad (Below.refl w.heap.size w)
 have H : ((some (([] : List Int) : List Int)).bind fun y106 => (if y106.length + l0.length < 17592186044416 then (some (y106 ++ l0)) else (none))) = some r := h
 clear h; obtain ⟨y106, hy106⟩ : ∃ y_ : List Int, y_ = (([] : List Int)) := ⟨_, rfl⟩
 replace H : (if y106.length + l0.length < 17592186044416 then (some (y106 ++ l0)) else (none)) = some r := by first | (rw [hy106]; with_reducible exact H) | (have H2_ := (zbe _ _).symm.trans H; rw [hy106]; with_reducible exact H2_) | (have H2_ := (zbe _ _).symm.trans H; with_reducible exact H2_) | with_reducible exact H | (rw [hy106]; exact H) | exact H
 have Ny106 := zad hy106; clear hy106; by_cases c2 : y106.length + l0.length < 17592186044416
 · rw [if_pos c2] at H
   have LMc2 := zad c2; clear c2; obtain ⟨y109, hy109⟩ : ∃ y_ : List Int, y_ = (y106 ++ l0) := ⟨_, rfl⟩
   replace H : (some y109) = some r := by first | (rw [hy109]; with_reducible exact H) | (have H2_ := (zbe _ _).symm.trans H; rw [hy109]; with_reducible exact H2_) | (have H2_ := (zbe _ _).symm.trans H; with_reducible exact H2_) | with_reducible exact H | (rw [hy109]; exact H) | exact H
   have Ny109 := zad hy109; clear hy109; obtain rfl := zbf H
   go_enter Try.func69, Try.ntmps69
   go_wp2_with (first | ((with_reducible refine gate_dst (N := 3) rfl ?_); refine Kd.R_lit (Kd.int .i64) _ 3 ?hg (N := 3) ?hd (xs := ([] : List Int)) (inner := []) (ok := fun _ => True) (okp := fun _ => True) ?hr ?hp (fun _ hk => hk) trivial (Below.refl _ _) (zcb _) (taac) ?_; (case hd => rfl); (case hg => rfl); (case hr => first | (go_simp; done) | (go_simp; rfl)); (case hp => exact (Reps.none _ _)); intro v107 w3 ho4 hb hg_ hnew_; clear hg_ hnew_; (first | rw [← Ny106.out] at ho4 | (simp only [Int.reduceToNat] at ho4; rw [← Ny106.out] at ho4)); have n0_ := zad (zbu ho4 (zbl (taaa))); have n1_ := zad (zbh (taaa) hb); clear HB; have HO108 := n0_; have HB := n1_; clear n0_ n1_ hb ho4) | ((with_reducible refine gate_builtin (b := .append) (xs := #[.tmp 3, .tmp 4]) rfl ?_); at_builtin; refine Kd.R_append_rows (Kd.int .i64) (w0 := w) w.heap.size rfl (.tmp 3) (.tmp 4) 22 3 (.int .i64 0) 8 rfl Try.underlying22 info3 rfl (by decide) (by omega) v107 y106 l0 _ _ _ (fun _ => True) (fun _ => False) rfl rfl ?aO ?aR (fun _ _ h => h) (fun _ h => h.elim) ?aF ?aB ?aS ?aL ?_; (case aR => repeat (first | exact (Kd.C_below HR0.out HB.out) | (with_reducible refine zal ?_ _) | (with_reducible refine zam ?_ _) | (with_reducible refine zan ?_))); (case aB => exact (taaa)); (case aF => exact (fun _ _ => trivial)); (case aO => exact (by (with_reducible repeat (first | apply zai | apply zaj | apply zak)); exact HO108.out)); (case aS => exact (zbl (taaa))); (case aL => have := LMc2.out; omega); intro v110 w5 ho hb hg hat; rw [← Ny109.out] at ho; have n0_ := zad (hb); have n1_ := zad (ho); clear HB HO108; have HB := n0_; have HO111 := n1_; clear n0_ n1_ ho hb hg hat))
   go_ret
   exact ⟨_, taaf, by (with_reducible repeat (first | apply zai | apply zaj | apply zak)); exact HO111.out, taaa⟩
 · rw [if_neg c2] at H
   exact absurd H (taac)
mutual
def spec_liRank.l0 : Nat → List Int → List Int → Int → Int → Option (List Int)
 | 0, _, _, _, _ => none
 | k + 1, x3, x7, x8, x9 => if x9 < x8 then (if 0 ≤ x9 then (if x9 < (x7.length : Int) then (spec_liRank.l1 k x3 (rd x7 x9) 0 x7 x8 x9) else (none)) else (none)) else (some x3)
def spec_liRank.l1 : Nat → List Int → Int → Int → List Int → Int → Int → Option (List Int)
 | 0, _, _, _, _, _, _ => none
 | k + 1, x3, x5, x6, x7, x8, x9 => if x6 < (x3.length : Int) then (if 0 ≤ x6 then (if (rd x3 x6) ≥ x5 then (spec_liRank.l1 k x3 x5 (wrap64 (x6 + 1)) x7 x8 x9) else (if x6 ≤ (x3.length : Int) then ((spec_l1Own.f (x3.take (x6 : Int).toNat)).bind fun t118 => ((some (([x5] : List Int) : List Int)).bind fun y121 => (if t118.length + y121.length < 17592186044416 then ((some (t118 ++ y121 : List Int)).bind fun y124 => ((some (x3.drop (x6 : Int).toNat : List Int)).bind fun y127 => (if y124.length + y127.length < 17592186044416 then (spec_liRank.l0 k (y124 ++ y127) x7 x8 (wrap64 (x9 + 1))) else (none)))) else (none)))) else (none))) else (none)) else (if 0 ≤ x6 then (if x6 ≤ (x3.length : Int) then ((spec_l1Own.f (x3.take (x6 : Int).toNat)).bind fun t138 => ((some (([x5] : List Int) : List Int)).bind fun y141 => (if t138.length + y141.length < 17592186044416 then ((some (t138 ++ y141 : List Int)).bind fun y144 => ((some (x3.drop (x6 : Int).toNat : List Int)).bind fun y147 => (if y144.length + y147.length < 17592186044416 then (spec_liRank.l0 k (y144 ++ y147) x7 x8 (wrap64 (x9 + 1))) else (none)))) else (none)))) else (none)) else (none))
end
def spec_liRank.f (k : Nat) (l0 : List Int) : Option (List Int) := spec_liRank.l0 k ([] : List Int) l0 (l0.length : Int) 0
def spec_liRank.T8 : Bool × List (List Nat × List Nat) := (true, [([], []), ([], []), ([0, 1], [0, 1]), ([2], [2]), ([], []), ([4], [4]), ([3, 5, 3], [3, 5]), ([], []), ([], []), ([7, 8], [7, 8]), ([6, 9, 6], [6, 9]), ([10, 10, 0, 1, 2, 3, 4, 5, 6, 7, 8, 9, 10], [0, 7, 10])])
def spec_liRank.B8 : List Nat := [0, 0, 3, 7, 0, 16, 63, 0, 0, 384, 1023, 2047]
theorem spec_liRank.tab8 : rtab .any (opsOf Try.f34 8) = spec_liRank.T8 := by kernel_rfl
theorem spec_liRank.bits8 : waitsOk spec_liRank.T8.2 spec_liRank.B8 = true := by kernel_rfl
theorem spec_liRank.calls (k : Nat) (A0 : Option Addr) (c0 : Nat) (l0 : List Int) (r : List Int) (w : World) (hr0 : Kd.C (Kd.int .i64) w A0 l0.length l0) (hc0 : l0.length ≤ c0) (h : spec_liRank.f k l0 = some r) :
 Calls Try.prog 34 #[.slice A0 l0.length c0] w fun e w' => ∃ v0_ : Value, e = .returned (v0_) ∧ Kd.R (Kd.int .i64) 3 w' w.heap.size (fun _ => True) v0_ r ∧ Below w.heap.size w w' := by
 have HR0 := zad hr0; have HC0 := zad hc0; clear hr0 hc0; have HB := zad (Below.refl w.heap.size w)
 have H : (spec_liRank.l0 k ([] : List Int) l0 (l0.length : Int) 0) = some r := h
 clear h; have H' := zad H
 clear H; go_enter Try.func34, Try.ntmps34
 go_wp2
 go_loopg [3, 9] k (fun kq v3 v9 w' => ∃ (x3_1 : List Int) (x9_1 : Int), v9 = .int .i64 x9_1 ∧ Aside0 (spec_liRank.l0 kq x3_1 l0 (l0.length : Int) x9_1 = some r) ∧ Aside0 (kq ≤ k) ∧ Aside0 (Kd.R (Kd.int .i64) 3 w' w.heap.size (fun _ => True) v3 x3_1) ∧ Aside0 (Below w.heap.size w w'))
 case atStart => exact ⟨(([] : List Int)), (0), (taad), H', ⟨zcb _⟩, ⟨tabu⟩, ⟨taaa⟩⟩
 case round =>
  clear H'
  obtain ⟨x3_1, x9_1, rfl, HA, HK1, HO_3, HB⟩ := hrel
  cases gk with
  | zero => exact absurd HA.out (by simp [spec_liRank.l0])
  | succ k1 =>
   have H := HA.out
   clear HA; simp only [spec_liRank.l0] at H
   by_cases c2 : x9_1 < (l0.length : Int)
   · rw [if_pos c2] at H
     have c2b0 : decide (x9_1 < (l0.length : Int)) = true := zba c2
     clear c2; by_cases c3 : 0 ≤ x9_1
     · rw [if_pos c3] at H
       have c3b0 : decide (0 ≤ x9_1) = true := zba c3
       clear c3; by_cases c4 : x9_1 < (l0.length : Int)
       · rw [if_pos c4] at H
         have c4b0 : decide (x9_1 < (l0.length : Int)) = true := zba c4
         clear c4; have H' := zad H
         clear H; have p112 : 0 ≤ (x9_1 : Int) := zas (taab)
         have q112 : x9_1 < (l0.length : Int) := zas (taab)
         obtain ⟨ad112, e112, hx112_0⟩ := zbw HR0.out x9_1 p112 q112
         cases e112
         replace hx112_0 := (HB.out.cell (zaz w _ hx112_0)).trans hx112_0
         replace p112 := eq_true p112
         replace q112 := eq_true q112
         go_wp2
         go_loopg [6] k1 (fun kq v6 w' => ∃ (x6_2 : Int), v6 = .int .i64 x6_2 ∧ Aside0 (spec_liRank.l1 kq x3_1 (rd l0 x9_1) x6_2 l0 (l0.length : Int) x9_1 = some r) ∧ Aside0 (kq ≤ k1) ∧ Aside0 (Kd.R (Kd.int .i64) 3 w' w.heap.size (fun _ => True) u3 x3_1) ∧ Aside0 (Below w.heap.size w w'))
         case atStart => exact ⟨(0), (taad), H', ⟨zcb _⟩, ⟨taak⟩, ⟨taaa⟩⟩
         case round =>
          clear H'
          try clear p1
          try clear q1
          try clear hx1
          try clear c2
          try clear c2b0
          try clear p2
          try clear c3
          try clear c3b0
          try clear c4
          try clear c4b0
          try clear hx112_0
          try clear p112
          try clear q112
          obtain ⟨x6_2, rfl, HA, HK2, HO_3, HB⟩ := hrel
          cases gk with
          | zero => exact absurd HA.out (by simp [spec_liRank.l1])
          | succ k2 =>
           have H := HA.out
           clear HA; simp only [spec_liRank.l1] at H
           by_cases c5 : x6_2 < (x3_1.length : Int)
           · rw [if_pos c5] at H
             have c5b0 : decide (x6_2 < (x3_1.length : Int)) = true := zba c5
             clear c5; by_cases c6 : 0 ≤ x6_2
             · rw [if_pos c6] at H
               have c6b0 : decide (0 ≤ x6_2) = true := zba c6
               clear c6; by_cases c7 : (rd x3_1 x6_2) ≥ (rd l0 x9_1)
               · rw [if_pos c7] at H
                 have c7b0 : decide ((rd l0 x9_1) ≤ (rd x3_1 x6_2)) = true := zba c7
                 clear c7; have H' := zad H
                 clear H; obtain ⟨Ao8, co8, eo8⟩ := zbv HO_3.out
                 subst eo8; have p113 : 0 ≤ (x6_2 : Int) := zas (taab)
                 have q113 : x6_2 < (x3_1.length : Int) := zas (taab)
                 obtain ⟨ad113, e113, hx113_0⟩ := zbw (zbg HO_3.out).2.2 x6_2 p113 q113
                 cases e113
                 replace p113 := eq_true p113
                 replace q113 := eq_true q113
                 go_wp2
                 go_roundg k2
                 case measure => have := HK1.out; have := HK2.out; omega
                 case rel => exact ⟨(wrap64 (x6_2 + 1)), (taad), H', ⟨tabp⟩, ⟨taak⟩, ⟨taaa⟩⟩
               · rw [if_neg c7] at H
                 have c7b0 : decide ((rd l0 x9_1) ≤ (rd x3_1 x6_2)) = false := zbk c7
                 clear c7; have c9b0 := eq_true (zas (taab) : 0 ≤ x6_2)
                 by_cases c10 : x6_2 ≤ (x3_1.length : Int)
                 · rw [if_pos c10] at H
                   have c10b0 := eq_true c10; have c10b1 : decide (x6_2 ≤ (x3_1.length : Int)) = true := zba c10
                   clear c10; obtain ⟨y114, hy114⟩ : ∃ y_ : List Int, y_ = (x3_1.take (x6_2 : Int).toNat) := ⟨_, rfl⟩
                   replace H : ((spec_l1Own.f y114).bind fun t118 => ((some (([(rd l0 x9_1)] : List Int) : List Int)).bind fun y121 => (if t118.length + y121.length < 17592186044416 then ((some (t118 ++ y121 : List Int)).bind fun y124 => ((some (x3_1.drop (x6_2 : Int).toNat : List Int)).bind fun y127 => (if y124.length + y127.length < 17592186044416 then (spec_liRank.l0 k2 (y124 ++ y127) l0 (l0.length : Int) (wrap64 (x9_1 + 1))) else (none)))) else (none)))) = some r := by first | (rw [hy114]; with_reducible exact H) | (have H2_ := (zbe _ _).symm.trans H; rw [hy114]; with_reducible exact H2_) | (have H2_ := (zbe _ _).symm.trans H; with_reducible exact H2_) | with_reducible exact H | (rw [hy114]; exact H) | exact H
                   have Ny114 := zad hy114; clear hy114; replace H := zay.mp H; obtain ⟨t118, A110, H⟩ := H
                   replace H : ((some (([(rd l0 x9_1)] : List Int) : List Int)).bind fun y121 => (if t118.length + y121.length < 17592186044416 then ((some (t118 ++ y121 : List Int)).bind fun y124 => ((some (x3_1.drop (x6_2 : Int).toNat : List Int)).bind fun y127 => (if y124.length + y127.length < 17592186044416 then (spec_liRank.l0 k2 (y124 ++ y127) l0 (l0.length : Int) (wrap64 (x9_1 + 1))) else (none)))) else (none))) = some r := H
                   have A11 := zad A110; clear A110; obtain ⟨y121, hy121⟩ : ∃ y_ : List Int, y_ = (([(rd l0 x9_1)] : List Int)) := ⟨_, rfl⟩
                   replace H : (if t118.length + y121.length < 17592186044416 then ((some (t118 ++ y121 : List Int)).bind fun y124 => ((some (x3_1.drop (x6_2 : Int).toNat : List Int)).bind fun y127 => (if y124.length + y127.length < 17592186044416 then (spec_liRank.l0 k2 (y124 ++ y127) l0 (l0.length : Int) (wrap64 (x9_1 + 1))) else (none)))) else (none)) = some r := by first | (rw [hy121]; with_reducible exact H) | (have H2_ := (zbe _ _).symm.trans H; rw [hy121]; with_reducible exact H2_) | (have H2_ := (zbe _ _).symm.trans H; with_reducible exact H2_) | with_reducible exact H | (rw [hy121]; exact H) | exact H
                   have Ny121 := zad hy121; clear hy121; by_cases c12 : t118.length + y121.length < 17592186044416
                   · rw [if_pos c12] at H
                     have LMc12 := zad c12; clear c12; obtain ⟨y124, hy124⟩ : ∃ y_ : List Int, y_ = (t118 ++ y121) := ⟨_, rfl⟩
                     replace H : ((some (x3_1.drop (x6_2 : Int).toNat : List Int)).bind fun y127 => (if y124.length + y127.length < 17592186044416 then (spec_liRank.l0 k2 (y124 ++ y127) l0 (l0.length : Int) (wrap64 (x9_1 + 1))) else (none))) = some r := by first | (rw [hy124]; with_reducible exact H) | (have H2_ := (zbe _ _).symm.trans H; rw [hy124]; with_reducible exact H2_) | (have H2_ := (zbe _ _).symm.trans H; with_reducible exact H2_) | with_reducible exact H | (rw [hy124]; exact H) | exact H
                     have Ny124 := zad hy124; clear hy124; have c13b0 := eq_true (zas (taab) : 0 ≤ x6_2)
                     have c14b0 := eq_true (zas (taab) : x6_2 ≤ (x3_1.length : Int))
                     obtain ⟨y127, hy127⟩ : ∃ y_ : List Int, y_ = (x3_1.drop (x6_2 : Int).toNat) := ⟨_, rfl⟩
                     replace H : (if y124.length + y127.length < 17592186044416 then (spec_liRank.l0 k2 (y124 ++ y127) l0 (l0.length : Int) (wrap64 (x9_1 + 1))) else (none)) = some r := by first | (rw [hy127]; with_reducible exact H) | (have H2_ := (zbe _ _).symm.trans H; rw [hy127]; with_reducible exact H2_) | (have H2_ := (zbe _ _).symm.trans H; with_reducible exact H2_) | with_reducible exact H | (rw [hy127]; exact H) | exact H
                     have Ny127 := zad hy127; clear hy127; by_cases c15 : y124.length + y127.length < 17592186044416
                     · rw [if_pos c15] at H
                       have LMc15 := zad c15; clear c15; obtain ⟨y131, hy131⟩ : ∃ y_ : List Int, y_ = (y124 ++ y127) := ⟨_, rfl⟩
                       replace H : (spec_liRank.l0 k2 y131 l0 (l0.length : Int) (wrap64 (x9_1 + 1))) = some r := by first | (rw [hy131]; with_reducible exact H) | (have H2_ := (zbe _ _).symm.trans H; rw [hy131]; with_reducible exact H2_) | (have H2_ := (zbe _ _).symm.trans H; with_reducible exact H2_) | with_reducible exact H | (rw [hy131]; exact H) | exact H
                       have Ny131 := zad hy131; clear hy131; have H' := zad H
                       clear H; obtain ⟨Ao16, co16, eo16⟩ := zbv HO_3.out
                       subst eo16; have p113 : 0 ≤ (x6_2 : Int) := zas (taab)
                       have q113 : x6_2 < (x3_1.length : Int) := zas (taab)
                       obtain ⟨ad113, e113, hx113_0⟩ := zbw (zbg HO_3.out).2.2 x6_2 p113 q113
                       cases e113
                       replace p113 := eq_true p113
                       replace q113 := eq_true q113
                       try go_wp2
                       have n0_ := zad (zak HO_3.out)
                       have n1_ := zad (zaf HB.out)
                       clear HO_3 HB; have HO_3 := n0_; have HB := n1_; clear n0_ n1_; have q18 : (x6_2 : Int) ≤ ((x3_1.length : Int) : Int) := zas (taab)
                       obtain ⟨i018, hi018, _, hsz18, _⟩ := info_parts info3
                       have hroom18 : x3_1.length ≤ co16 := (zbg HO_3.out).2.1
                       have hC18 : Kd.C (Kd.int .i64) _ (some ad113) x3_1.length x3_1 := (zbg HO_3.out).2.2
                       have hcut18 := cut_to (P := Try.prog) 22 3 .i64 Try.underlying22 hi018 (some ad113) x3_1.length co16 x6_2 (zas (taab)) q18 hroom18
                       have hr18 := Kd.C_take (m := (x6_2 : Int).toNat) hC18 (by omega)
                       have hy18 : y114.length = (x6_2 : Int).toNat := (by rw [Ny114.out, zax]; omega)
                       rw [← Ny114.out] at hr18
                       rw [← hy18] at hcut18
                       have HR117 := zad hr18; have HC117 := zad (show y114.length ≤ co16 from by omega)
                       clear hr18 hC18 hroom18 hi018 hsz18; have KY18 := zad hy18; clear hy18; have KL18 := zad (show (x6_2 : Int).toNat ≤ x3_1.length from by omega)
                       replace q18 := eq_true q18
                       have q19 : (x6_2 : Int) ≤ ((x3_1.length : Int) : Int) := zas (taab)
                       obtain ⟨i019, hi019, _, hsz19, _⟩ := info_parts info3
                       have hroom19 : x3_1.length ≤ co16 := (zbg HO_3.out).2.1
                       have hC19 : Kd.C (Kd.int .i64) _ (some ad113) x3_1.length x3_1 := (zbg HO_3.out).2.2
                       have q019 : (0 : Int) ≤ (x6_2 : Int) := zas (taab)
                       have hcut19 := cut_from (P := Try.prog) 22 3 .i64 Try.underlying22 hi019 1 hsz19 (some ad113) x3_1.length co16 x6_2 q019 q19
                       have hr19 := Kd.C_drop (m := (x6_2 : Int).toNat) (c := co16) hC19 (by omega) hroom19
                       obtain ⟨A19, hA19⟩ : ∃ A1, A1 = (if co16 = (x6_2 : Int).toNat then (some ad113) else ((some ad113) : Option Addr).map (·.add ((x6_2 : Int).toNat * 1))) := ⟨_, rfl⟩
                       obtain ⟨c19, hc19⟩ : ∃ c1, c1 = co16 - (x6_2 : Int).toNat := ⟨_, rfl⟩
                       have hy19 : y127.length = x3_1.length - (x6_2 : Int).toNat := (by rw [Ny127.out, zaw] <;> omega)
                       rw [show (x3_1).drop (x6_2 : Int).toNat = y127 from Ny127.out.symm] at hr19
                       replace hr19 : Kd.C (Kd.int .i64) _ A19 y127.length y127 := (by rw [hA19]; exact hr19)
                       rw [← hy19, ← hA19, ← hc19] at hcut19
                       have HR130 := zad hr19; have HC130 := zad (show y127.length ≤ c19 from by rw [hy19, hc19]; exact Nat.sub_le_sub_right hroom19 _)
                       clear hr19 hC19 hroom19 hi019 hsz19 hc19; have KY19 := zad hy19; have KA19 := zad hA19; clear hy19 hA19; have KL19 := zad (show (x6_2 : Int).toNat ≤ x3_1.length from by omega)
                       replace q19 := eq_true q19
                       refine start_ (n := 12) (S := fun w' => True) (ds := []) #[false, false, false, false, false, false, false, false, false, false, false, false] (by kernel_rfl) rfl rfl trivial (fun hHeld => ?_); refine with_tabW spec_liRank.tab8 spec_liRank.bits8 (fun HT_ HW_ => ?_)
                       generalize wr.drew = w17 at HO_3 HB HR117 HR130 hHeld ⊢
                       refine pure_ (i := 0) (N := some 27) (v := ?_) (a' := ?_) #[true, false, false, false, false, false, false, false, false, false, false, false] rfl rfl (any_of HT_.out (by kernel_rfl)) (fun _ _ _ h => h) (Or.inl ⟨by rfl, ?_⟩) ?_ ?_
                       rotate_left
                       · intro w'
                         go_simp; with_reducible rfl
                       rotate_left
                       · simp only [Act.put, zaa, zab, zac, i64_w, i32_w]
                         rfl
                       refine pure_ (i := 1) (N := some 28) (v := ?_) (a' := ?_) #[true, true, false, false, false, false, false, false, false, false, false, false] rfl rfl (any_of HT_.out (by kernel_rfl)) (fun _ _ _ h => h) (Or.inl ⟨by rfl, ?_⟩) ?_ ?_
                       rotate_left
                       · intro w'
                         go_simp; with_reducible rfl
                       rotate_left
                       · simp only [Act.put, zaa, zab, zac, i64_w, i32_w]
                         rfl
                       refine pure_ (i := 2) (N := some 29) (v := ?_) (a' := ?_) #[true, true, true, false, false, false, false, false, false, false, false, false] rfl rfl (any_of HT_.out (by kernel_rfl)) (fun _ _ _ h => h) (Or.inl ⟨by rfl, ?_⟩) ?_ ?_
                       rotate_left
                       · intro w'
                         go_simp; with_reducible rfl
                       rotate_left
                       · simp only [Act.put, zaa, zab, zac, i64_w, i32_w]
                         rfl
                       refine pure_ (i := 4) (N := some 31) (v := ?_) (a' := ?_) #[true, true, true, false, true, false, false, false, false, false, false, false] rfl rfl (any_of HT_.out (by kernel_rfl)) (fun _ _ _ h => h) (Or.inl ⟨by rfl, ?_⟩) ?_ ?_
                       rotate_left
                       · intro w'
                         go_simp; with_reducible rfl
                       rotate_left
                       · simp only [Act.put, zaa, zab, zac, i64_w, i32_w]
                         rfl
                       refine pure_ (i := 7) (N := some 34) (v := ?_) (a' := ?_) #[true, true, true, false, true, false, false, true, false, false, false, false] rfl rfl (any_of HT_.out (by kernel_rfl)) (fun _ _ _ h => h) (Or.inl ⟨by rfl, ?_⟩) ?_ ?_
                       rotate_left
                       · intro w'
                         go_simp; with_reducible rfl
                       rotate_left
                       · simp only [Act.put, zaa, zab, zac, i64_w, i32_w]
                         rfl
                       refine pure_ (i := 8) (N := some 35) (v := ?_) (a' := ?_) #[true, true, true, false, true, false, false, true, true, false, false, false] rfl rfl (any_of HT_.out (by kernel_rfl)) (fun _ _ _ h => h) (Or.inl ⟨by rfl, ?_⟩) ?_ ?_
                       rotate_left
                       · intro w'
                         go_simp; with_reducible rfl
                       rotate_left
                       · simp only [Act.put, zaa, zab, zac, i64_w, i32_w]
                         rfl
                       refine pure_ (i := 9) (N := some 36) (v := ?_) (a' := ?_) #[true, true, true, false, true, false, false, true, true, true, false, false] rfl rfl (any_of HT_.out (by kernel_rfl)) (fun _ _ _ h => h) (Or.inl ⟨by rfl, ?_⟩) ?_ ?_
                       rotate_left
                       · intro w'
                         go_simp; with_reducible rfl
                       rotate_left
                       · simp only [Act.put, zaa, zab, zac, i64_w, i32_w]
                         rfl
                       refine join_ (σ := Value × Value) 3 #[true, true, true, true, true, true, false, true, true, true, false, false] (fun s_ => [(30, s_.1), (32, s_.2)]) (fun s_ w' => (Kd.R (Kd.int .i64) 3 w' w.heap.size (fun k_ => some k_ ≠ (s_.2 : Value).ownBlock ∧ some k_ ≠ (.slice (some ad113) x3_1.length co16 : Value).ownBlock) s_.1 t118) ∧ (Kd.R (Kd.int .i64) 3 w' w.heap.size (fun k_ => some k_ ≠ (s_.1 : Value).ownBlock ∧ some k_ ≠ (.slice (some ad113) x3_1.length co16 : Value).ownBlock) s_.2 y121) ∧ (Kd.R (Kd.int .i64) 3 w' w.heap.size (fun k_ => some k_ ≠ (s_.1 : Value).ownBlock ∧ some k_ ≠ (s_.2 : Value).ownBlock) (.slice (some ad113) x3_1.length co16) x3_1) ∧ (Below w.heap.size w w')) ?_ ?_
                       rotate_left
                       · intro hCont
                         refine two_ (i := 3) (j := 5) (Ni := some 30) (Nj := some 32) #[true, true, true, true, true, false, false, true, true, true, false, false] #[true, true, true, false, true, true, false, true, true, true, false, false] rfl rfl rfl rfl (two_of HT_.out (by kernel_rfl)) (by decide) (by decide) (fun K hK => ?_) (fun K hK => ?_)
                         · skip
                           refine goes_ Try.func69 (by kernel_rfl) rfl #[.slice (some ad113) y114.length co16] (by rfl) rfl rfl (taae) ?_
                           with_reducible refine (spec_l1Own.calls _ _ y114 t118 _ ?side1 ?side2 A11.out).mono ?_
                           (case side1 => exact tafx)
                           (case side2 => exact HC117.out)
                           rintro e w20 ⟨v119, rfl, ho0, hb⟩
                           refine ⟨_, rfl, ?_⟩
                           have n0_ := zad (zbx (taak) (zbz ho0) hb)
                           have n1_ := zad (zbu (zby ho0 (zca (taak))) (zbl (taaa)))
                           have n2_ := zad (Kd.C_below (tabq) hb)
                           have n3_ := zad (Kd.C_below (tace) hb)
                           have n4_ := zad (zbh (taaa) hb)
                           clear HO_3 HR117 HR130 HB; have HO_3 := n0_; have HO120 := n1_; have HR117 := n2_; have HR130 := n3_; have HB := n4_; clear n0_ n1_ n2_ n3_ n4_; (try clear hb); (try clear hb2); (try clear hk); (try clear hi); (try clear ho0); refine hK.out _ _ trivial (fun hHeld => ?_)
                           clear hK K; refine norm_ (a' := ?_) ?_ ?_
                           rotate_left
                           · show Act.put _ (some 30) _ = _
                             simp only [Act.put, zaa, zab, zac, i64_w, i32_w]
                             rfl
                           refine one_ (i := 5) (N := some 32) #[true, true, true, true, true, true, false, true, true, true, false, false] rfl rfl (one_of HT_.out (by kernel_rfl)) (by decide) (fun K hK => ?_)
                           refine Kd.R_lit_step (Kd.int .i64) _ 3 ?hg (N := 32) ?hd (xs := ([(rd l0 x9_1)] : List Int)) (inner := [.int .i64 (rd l0 x9_1)]) (ok := fun _ => True) (okp := fun _ => True) ?hr ?hp (fun _ hk => hk) trivial (Below.refl _ _) (zcb _) (taac) ?_; (case hd => rfl); (case hg => rfl); (case hr => first | (go_simp; done) | (go_simp; rfl)); (case hp => exact (Reps.one (show Kd.M (Kd.int .i64) _ _ _ (rd l0 x9_1) [.int .i64 (rd l0 x9_1)] from rfl) (Reps.none _ _)))
                           intro v122 w21 ho22 hb hg_ hnew_
                           clear hg_ hnew_; (first | rw [← Ny121.out] at ho22 | (simp only [Int.reduceToNat] at ho22; rw [← Ny121.out] at ho22))
                           have n0_ := zad (zbx (taak) (zbz ho22) hb)
                           have n1_ := zad (zbx (tadv) (zbz ho22) hb)
                           have n2_ := zad (zbu (zby (zby ho22 (zca (taak))) (zca (tadv))) (zbl (taaa)))
                           have n3_ := zad (Kd.C_below (tabq) hb)
                           have n4_ := zad (Kd.C_below (tace) hb)
                           have n5_ := zad (zbh (taaa) hb)
                           clear HO_3 HO120 HR117 HR130 HB; have HO_3 := n0_; have HO120 := n1_; have HO123 := n2_; have HR117 := n3_; have HR130 := n4_; have HB := n5_; clear n0_ n1_ n2_ n3_ n4_ n5_ hb ho22; refine hK.out _ _ trivial (fun hHeld => ?_)
                           clear hK K; refine norm_ (a' := ?_) ?_ ?_
                           rotate_left
                           · show Act.put _ (some 32) _ = _
                             simp only [Act.put, zaa, zab, zac, i64_w, i32_w]
                             rfl
                           exact norm_ (tacf) (hCont (v119, v122) _ ⟨(tadw), (tadx), (tady), (taaa)⟩)
                         · skip
                           refine Kd.R_lit_step (Kd.int .i64) _ 3 ?hg (N := 32) ?hd (xs := ([(rd l0 x9_1)] : List Int)) (inner := [.int .i64 (rd l0 x9_1)]) (ok := fun _ => True) (okp := fun _ => True) ?hr ?hp (fun _ hk => hk) trivial (Below.refl _ _) (zcb _) (taac) ?_; (case hd => rfl); (case hg => rfl); (case hr => first | (go_simp; done) | (go_simp; rfl)); (case hp => exact (Reps.one (show Kd.M (Kd.int .i64) _ _ _ (rd l0 x9_1) [.int .i64 (rd l0 x9_1)] from rfl) (Reps.none _ _)))
                           intro v122 w20 ho21 hb hg_ hnew_
                           clear hg_ hnew_; (first | rw [← Ny121.out] at ho21 | (simp only [Int.reduceToNat] at ho21; rw [← Ny121.out] at ho21))
                           have n0_ := zad (zbx (taak) (zbz ho21) hb)
                           have n1_ := zad (zbu (zby ho21 (zca (taak))) (zbl (taaa)))
                           have n2_ := zad (Kd.C_below (tabq) hb)
                           have n3_ := zad (Kd.C_below (tace) hb)
                           have n4_ := zad (zbh (taaa) hb)
                           clear HO_3 HR117 HR130 HB; have HO_3 := n0_; have HO123 := n1_; have HR117 := n2_; have HR130 := n3_; have HB := n4_; clear n0_ n1_ n2_ n3_ n4_ hb ho21; refine hK.out _ _ trivial (fun hHeld => ?_)
                           clear hK K; refine norm_ (a' := ?_) ?_ ?_
                           rotate_left
                           · show Act.put _ (some 32) _ = _
                             simp only [Act.put, zaa, zab, zac, i64_w, i32_w]
                             rfl
                           refine one_ (i := 3) (N := some 30) #[true, true, true, true, true, true, false, true, true, true, false, false] rfl rfl (one_of HT_.out (by kernel_rfl)) (by decide) (fun K hK => ?_)
                           refine goes_ Try.func69 (by kernel_rfl) rfl #[.slice (some ad113) y114.length co16] (by rfl) rfl rfl (taae) ?_
                           with_reducible refine (spec_l1Own.calls _ _ y114 t118 _ ?side1 ?side2 A11.out).mono ?_
                           (case side1 => exact tafx)
                           (case side2 => exact HC117.out)
                           rintro e w22 ⟨v119, rfl, ho0, hb⟩
                           refine ⟨_, rfl, ?_⟩
                           have n0_ := zad (zbx (taak) (zbz ho0) hb)
                           have n1_ := zad (zbx (tabw) (zbz ho0) hb)
                           have n2_ := zad (zbu (zby (zby ho0 (zca (taak))) (zca (tabw))) (zbl (taaa)))
                           have n3_ := zad (Kd.C_below (tabq) hb)
                           have n4_ := zad (Kd.C_below (tace) hb)
                           have n5_ := zad (zbh (taaa) hb)
                           clear HO_3 HO123 HR117 HR130 HB; have HO_3 := n0_; have HO123 := n1_; have HO120 := n2_; have HR117 := n3_; have HR130 := n4_; have HB := n5_; clear n0_ n1_ n2_ n3_ n4_ n5_; (try clear hb); (try clear hb2); (try clear hk); (try clear hi); (try clear ho0); refine hK.out _ _ trivial (fun hHeld => ?_)
                           clear hK K; refine norm_ (a' := ?_) ?_ ?_
                           rotate_left
                           · show Act.put _ (some 30) _ = _
                             simp only [Act.put, zaa, zab, zac, i64_w, i32_w]
                             rfl
                           exact norm_ (tacf) (hCont (v119, v122) _ ⟨(tadw), (tadx), (tadz), (taaa)⟩)
                       rintro ⟨v119, v122⟩ w23 ⟨h0_, h1_, h2_, h3_⟩
                       have n0_ : Aside0 (Kd.R (Kd.int .i64) 3 w23 w.heap.size (fun k_ => some k_ ≠ (v122 : Value).ownBlock ∧ some k_ ≠ (.slice (some ad113) x3_1.length co16 : Value).ownBlock) v119 t118) := ⟨h0_⟩
                       have n1_ : Aside0 (Kd.R (Kd.int .i64) 3 w23 w.heap.size (fun k_ => some k_ ≠ (v119 : Value).ownBlock ∧ some k_ ≠ (.slice (some ad113) x3_1.length co16 : Value).ownBlock) v122 y121) := ⟨h1_⟩
                       have n2_ : Aside0 (Kd.R (Kd.int .i64) 3 w23 w.heap.size (fun k_ => some k_ ≠ (v119 : Value).ownBlock ∧ some k_ ≠ (v122 : Value).ownBlock) (.slice (some ad113) x3_1.length co16) x3_1) := ⟨h2_⟩
                       have n3_ : Aside0 (Below w.heap.size w w23) := ⟨h3_⟩
                       clear HO_3 HB h0_ h1_ h2_ h3_; have HO120 := n0_; have HO123 := n1_; have HO_3 := n2_; have HB := n3_; clear n0_ n1_ n2_ n3_; have hHeld := trivial
                       obtain ⟨Ao25, co25, eo25⟩ := zbv HO123.out
                       (first | subst eo25 | (injection eo25 with f1_ f2_ f3_; have f4_ := f1_.symm; have f5_ := f3_.symm; clear f1_ f2_ f3_; subst f4_; subst f5_))
                       refine norm_ (a' := ?_) ?_ ?_
                       rotate_left
                       · simp only [putAll, Act.put, zaa, zab, zac]
                         rfl
                       refine one_ (i := 6) (N := some 33) #[true, true, true, true, true, true, true, true, true, true, false, false] rfl rfl (one_of HT_.out (by kernel_rfl)) (by decide) (fun K hK => ?_)
                       refine Kd.R_append_rows_step (Kd.int .i64) (w0 := w) w.heap.size (by rfl) (.tmp 30) (.tmp 32) 22 3 (.int .i64 0) 8 rfl Try.underlying22 info3 rfl (by decide) (by omega) v119 t118 y121 _ _ _ (fun k_ => some k_ ≠ (.slice (some ad113) x3_1.length co16 : Value).ownBlock ∧ some k_ ≠ (.slice Ao25 y121.length co25 : Value).ownBlock) (fun _ => False) rfl rfl ?aO ?aR (fun _ _ h => h) (fun _ h => h.elim) ?aF ?aB ?aS ?aL ?_
                       (case aR => repeat (first | exact (zbg HO123.out).2.2 | (with_reducible refine zal ?_ _) | (with_reducible refine zam ?_ _) | (with_reducible refine zan ?_)))
                       (case aB => exact (taaa))
                       (case aF => exact (fun k_ hk => ⟨Kd.fresh' (zca (taak)) k_ hk, Kd.fresh' (zca (tabw)) k_ hk⟩))
                       (case aO => exact (by (with_reducible repeat (first | apply zai | apply zaj | apply zak)); exact zbr HO120.out (fun _ hk => ⟨hk.2, hk.1⟩)))
                       (case aS => exact (zbl (taaa)))
                       (case aL => have := LMc12.out; omega)
                       intro v125 w24 ho hb hg hat
                       rw [← Ny124.out] at ho
                       have n0_ := zad (Kd.R_after (ok := (fun k_ => some k_ ≠ (.slice Ao25 y121.length co25 : Value).ownBlock)) (taea) hg hat)
                       have n1_ := zad (Kd.R_after (ok := (fun k_ => some k_ ≠ (.slice (some ad113) x3_1.length co16 : Value).ownBlock)) (by (with_reducible repeat (first | apply zai | apply zaj | apply zak)); exact zbr HO123.out (fun _ hk => ⟨hk.2, hk.1⟩)) hg hat)
                       have n2_ := zad (hb)
                       have n3_ := zad (ho)
                       clear HO_3 HO123 HB HO120; have HO_3 := n0_; have HO123 := n1_; have HB := n2_; have HO126 := n3_; clear n0_ n1_ n2_ n3_ ho hb hg hat; refine hK.out _ _ trivial (fun hHeld => ?_)
                       clear hK K; refine norm_ (a' := ?_) ?_ ?_
                       rotate_left
                       · show Act.put _ (some 33) _ = _
                         simp only [Act.put, zaa, zab, zac, i64_w, i32_w]
                         rfl
                       refine one_ (i := 10) (N := some 37) #[true, true, true, true, true, true, true, true, true, true, true, false] rfl rfl (one_of HT_.out (by kernel_rfl)) (by decide) (fun K hK => ?_)
                       refine Kd.R_append_rows_step (Kd.int .i64) (w0 := w) w.heap.size (by rfl) (.tmp 33) (.tmp 36) 22 3 (.int .i64 0) 8 rfl Try.underlying22 info3 rfl (by decide) (by omega) v125 y124 y127 _ _ _ (fun k_ => some k_ ≠ (.slice (some ad113) x3_1.length co16 : Value).ownBlock ∧ some k_ ≠ (.slice Ao25 y121.length co25 : Value).ownBlock) (fun _ => False) rfl rfl ?aO ?aR (fun _ _ h => h) (fun _ h => h.elim) ?aF ?aB ?aS ?aL ?_
                       (case aR => repeat (first | exact (show Kd.C (Kd.int .i64) _ A19 y127.length y127 from by rw [Ny127.out, KA19.out]; exact Kd.C_drop (m := (x6_2 : Int).toNat) (c := co16) ((zbg HO_3.out).2.2) KL19.out ((zbg HO_3.out).2.1)) | (with_reducible refine zal ?_ _) | (with_reducible refine zam ?_ _) | (with_reducible refine zan ?_)))
                       (case aB => exact (taaa))
                       (case aF => exact (fun k_ hk => ⟨Kd.fresh' (zca (taak)) k_ hk, Kd.fresh' (zca (tabw)) k_ hk⟩))
                       (case aO => exact (by (with_reducible repeat (first | apply zai | apply zaj | apply zak)); exact HO126.out))
                       (case aS => exact (zbl (taaa)))
                       (case aL => have := LMc15.out; omega)
                       intro v132 w26 ho hb hg hat
                       rw [← Ny131.out] at ho
                       have n0_ := zad (Kd.R_after (ok := (fun k_ => some k_ ≠ (.slice Ao25 y121.length co25 : Value).ownBlock)) (taak) hg hat)
                       have n1_ := zad (Kd.R_after (ok := (fun k_ => some k_ ≠ (.slice (some ad113) x3_1.length co16 : Value).ownBlock)) (tabw) hg hat)
                       have n2_ := zad (hb)
                       have n3_ := zad (ho)
                       clear HO_3 HO123 HB HO126; have HO_3 := n0_; have HO123 := n1_; have HB := n2_; have HO133 := n3_; clear n0_ n1_ n2_ n3_ ho hb hg hat; refine hK.out _ _ trivial (fun hHeld => ?_)
                       clear hK K; refine norm_ (a' := ?_) ?_ ?_
                       rotate_left
                       · show Act.put _ (some 37) _ = _
                         simp only [Act.put, zaa, zab, zac, i64_w, i32_w]
                         rfl
                       refine pure_ (i := 11) (N := some 3) (v := ?_) (a' := ?_) #[true, true, true, true, true, true, true, true, true, true, true, true] rfl rfl (any_of HT_.out (by kernel_rfl)) (fun _ _ _ h => h) (Or.inl ⟨by rfl, ?_⟩) ?_ ?_
                       rotate_left
                       · intro w'
                         go_simp; with_reducible rfl
                       rotate_left
                       · simp only [Act.put, zaa, zab, zac, i64_w, i32_w]
                         rfl
                       refine done_ (done_of HT_.out (by kernel_rfl)) ?_
                       try go_wp2
                       go_roundg k2
                       case measure => have := HK1.out; have := HK2.out; omega
                       case rel => exact ⟨(y131), (wrap64 (x9_1 + 1)), (taad), H', ⟨tabp⟩, ⟨by (with_reducible repeat (first | apply zai | apply zaj | apply zak)); exact zbr HO133.out (fun _ hk => trivial)⟩, ⟨taaa⟩⟩
                     · rw [if_neg c15] at H
                       exact absurd H (taac)
                   · rw [if_neg c12] at H
                     exact absurd H (taac)
                 · rw [if_neg c10] at H
                   exact absurd H (taac)
             · rw [if_neg c6] at H
               exact absurd H (taac)
           · rw [if_neg c5] at H
             have c5b0 : decide (x6_2 < (x3_1.length : Int)) = false := zbk c5
             clear c5; by_cases c27 : 0 ≤ x6_2
             · rw [if_pos c27] at H
               have c27b0 := eq_true c27; have c27b1 : decide (0 ≤ x6_2) = true := zba c27
               clear c27; by_cases c28 : x6_2 ≤ (x3_1.length : Int)
               · rw [if_pos c28] at H
                 have c28b0 := eq_true c28; have c28b1 : decide (x6_2 ≤ (x3_1.length : Int)) = true := zba c28
                 clear c28; obtain ⟨y134, hy134⟩ : ∃ y_ : List Int, y_ = (x3_1.take (x6_2 : Int).toNat) := ⟨_, rfl⟩
                 replace H : ((spec_l1Own.f y134).bind fun t138 => ((some (([(rd l0 x9_1)] : List Int) : List Int)).bind fun y141 => (if t138.length + y141.length < 17592186044416 then ((some (t138 ++ y141 : List Int)).bind fun y144 => ((some (x3_1.drop (x6_2 : Int).toNat : List Int)).bind fun y147 => (if y144.length + y147.length < 17592186044416 then (spec_liRank.l0 k2 (y144 ++ y147) l0 (l0.length : Int) (wrap64 (x9_1 + 1))) else (none)))) else (none)))) = some r := by first | (rw [hy134]; with_reducible exact H) | (have H2_ := (zbe _ _).symm.trans H; rw [hy134]; with_reducible exact H2_) | (have H2_ := (zbe _ _).symm.trans H; with_reducible exact H2_) | with_reducible exact H | (rw [hy134]; exact H) | exact H
                 have Ny134 := zad hy134; clear hy134; replace H := zay.mp H; obtain ⟨t138, A290, H⟩ := H
                 replace H : ((some (([(rd l0 x9_1)] : List Int) : List Int)).bind fun y141 => (if t138.length + y141.length < 17592186044416 then ((some (t138 ++ y141 : List Int)).bind fun y144 => ((some (x3_1.drop (x6_2 : Int).toNat : List Int)).bind fun y147 => (if y144.length + y147.length < 17592186044416 then (spec_liRank.l0 k2 (y144 ++ y147) l0 (l0.length : Int) (wrap64 (x9_1 + 1))) else (none)))) else (none))) = some r := H
                 have A29 := zad A290; clear A290; obtain ⟨y141, hy141⟩ : ∃ y_ : List Int, y_ = (([(rd l0 x9_1)] : List Int)) := ⟨_, rfl⟩
                 replace H : (if t138.length + y141.length < 17592186044416 then ((some (t138 ++ y141 : List Int)).bind fun y144 => ((some (x3_1.drop (x6_2 : Int).toNat : List Int)).bind fun y147 => (if y144.length + y147.length < 17592186044416 then (spec_liRank.l0 k2 (y144 ++ y147) l0 (l0.length : Int) (wrap64 (x9_1 + 1))) else (none)))) else (none)) = some r := by first | (rw [hy141]; with_reducible exact H) | (have H2_ := (zbe _ _).symm.trans H; rw [hy141]; with_reducible exact H2_) | (have H2_ := (zbe _ _).symm.trans H; with_reducible exact H2_) | with_reducible exact H | (rw [hy141]; exact H) | exact H
                 have Ny141 := zad hy141; clear hy141; by_cases c30 : t138.length + y141.length < 17592186044416
                 · rw [if_pos c30] at H
                   have LMc30 := zad c30; clear c30; obtain ⟨y144, hy144⟩ : ∃ y_ : List Int, y_ = (t138 ++ y141) := ⟨_, rfl⟩
                   replace H : ((some (x3_1.drop (x6_2 : Int).toNat : List Int)).bind fun y147 => (if y144.length + y147.length < 17592186044416 then (spec_liRank.l0 k2 (y144 ++ y147) l0 (l0.length : Int) (wrap64 (x9_1 + 1))) else (none))) = some r := by first | (rw [hy144]; with_reducible exact H) | (have H2_ := (zbe _ _).symm.trans H; rw [hy144]; with_reducible exact H2_) | (have H2_ := (zbe _ _).symm.trans H; with_reducible exact H2_) | with_reducible exact H | (rw [hy144]; exact H) | exact H
                   have Ny144 := zad hy144; clear hy144; have c31b0 := eq_true (zas (taab) : 0 ≤ x6_2)
                   have c32b0 := eq_true (zas (taab) : x6_2 ≤ (x3_1.length : Int))
                   obtain ⟨y147, hy147⟩ : ∃ y_ : List Int, y_ = (x3_1.drop (x6_2 : Int).toNat) := ⟨_, rfl⟩
                   replace H : (if y144.length + y147.length < 17592186044416 then (spec_liRank.l0 k2 (y144 ++ y147) l0 (l0.length : Int) (wrap64 (x9_1 + 1))) else (none)) = some r := by first | (rw [hy147]; with_reducible exact H) | (have H2_ := (zbe _ _).symm.trans H; rw [hy147]; with_reducible exact H2_) | (have H2_ := (zbe _ _).symm.trans H; with_reducible exact H2_) | with_reducible exact H | (rw [hy147]; exact H) | exact H
                   have Ny147 := zad hy147; clear hy147; by_cases c33 : y144.length + y147.length < 17592186044416
                   · rw [if_pos c33] at H
                     have LMc33 := zad c33; clear c33; obtain ⟨y151, hy151⟩ : ∃ y_ : List Int, y_ = (y144 ++ y147) := ⟨_, rfl⟩
                     replace H : (spec_liRank.l0 k2 y151 l0 (l0.length : Int) (wrap64 (x9_1 + 1))) = some r := by first | (rw [hy151]; with_reducible exact H) | (have H2_ := (zbe _ _).symm.trans H; rw [hy151]; with_reducible exact H2_) | (have H2_ := (zbe _ _).symm.trans H; with_reducible exact H2_) | with_reducible exact H | (rw [hy151]; exact H) | exact H
                     have Ny151 := zad hy151; clear hy151; have H' := zad H
                     clear H; obtain ⟨Ao34, co34, eo34⟩ := zbv HO_3.out
                     subst eo34; try go_wp2
                     have n0_ := zad (zak HO_3.out)
                     have n1_ := zad (zaf HB.out)
                     clear HO_3 HB; have HO_3 := n0_; have HB := n1_; clear n0_ n1_; have q36 : (x6_2 : Int) ≤ ((x3_1.length : Int) : Int) := zas (taab)
                     obtain ⟨i036, hi036, _, hsz36, _⟩ := info_parts info3
                     have hroom36 : x3_1.length ≤ co34 := (zbg HO_3.out).2.1
                     have hC36 : Kd.C (Kd.int .i64) _ Ao34 x3_1.length x3_1 := (zbg HO_3.out).2.2
                     have hcut36 := cut_to (P := Try.prog) 22 3 .i64 Try.underlying22 hi036 Ao34 x3_1.length co34 x6_2 (zas (taab)) q36 hroom36
                     have hr36 := Kd.C_take (m := (x6_2 : Int).toNat) hC36 (by omega)
                     have hy36 : y134.length = (x6_2 : Int).toNat := (by rw [Ny134.out, zax]; omega)
                     rw [← Ny134.out] at hr36
                     rw [← hy36] at hcut36
                     have HR137 := zad hr36; have HC137 := zad (show y134.length ≤ co34 from by omega)
                     clear hr36 hC36 hroom36 hi036 hsz36; have KY36 := zad hy36; clear hy36; have KL36 := zad (show (x6_2 : Int).toNat ≤ x3_1.length from by omega)
                     replace q36 := eq_true q36
                     have q37 : (x6_2 : Int) ≤ ((x3_1.length : Int) : Int) := zas (taab)
                     obtain ⟨i037, hi037, _, hsz37, _⟩ := info_parts info3
                     have hroom37 : x3_1.length ≤ co34 := (zbg HO_3.out).2.1
                     have hC37 : Kd.C (Kd.int .i64) _ Ao34 x3_1.length x3_1 := (zbg HO_3.out).2.2
                     have q037 : (0 : Int) ≤ (x6_2 : Int) := zas (taab)
                     have hcut37 := cut_from (P := Try.prog) 22 3 .i64 Try.underlying22 hi037 1 hsz37 Ao34 x3_1.length co34 x6_2 q037 q37
                     have hr37 := Kd.C_drop (m := (x6_2 : Int).toNat) (c := co34) hC37 (by omega) hroom37
                     obtain ⟨A37, hA37⟩ : ∃ A1, A1 = (if co34 = (x6_2 : Int).toNat then Ao34 else (Ao34 : Option Addr).map (·.add ((x6_2 : Int).toNat * 1))) := ⟨_, rfl⟩
                     obtain ⟨c37, hc37⟩ : ∃ c1, c1 = co34 - (x6_2 : Int).toNat := ⟨_, rfl⟩
                     have hy37 : y147.length = x3_1.length - (x6_2 : Int).toNat := (by rw [Ny147.out, zaw] <;> omega)
                     rw [show (x3_1).drop (x6_2 : Int).toNat = y147 from Ny147.out.symm] at hr37
                     replace hr37 : Kd.C (Kd.int .i64) _ A37 y147.length y147 := (by rw [hA37]; exact hr37)
                     rw [← hy37, ← hA37, ← hc37] at hcut37
                     have HR150 := zad hr37; have HC150 := zad (show y147.length ≤ c37 from by rw [hy37, hc37]; exact Nat.sub_le_sub_right hroom37 _)
                     clear hr37 hC37 hroom37 hi037 hsz37 hc37; have KY37 := zad hy37; have KA37 := zad hA37; clear hy37 hA37; have KL37 := zad (show (x6_2 : Int).toNat ≤ x3_1.length from by omega)
                     replace q37 := eq_true q37
                     refine start_ (n := 12) (S := fun w' => True) (ds := []) #[false, false, false, false, false, false, false, false, false, false, false, false] (by kernel_rfl) rfl rfl trivial (fun hHeld => ?_); refine with_tabW spec_liRank.tab8 spec_liRank.bits8 (fun HT_ HW_ => ?_)
                     generalize wr.drew = w35 at HO_3 HB HR137 HR150 hHeld ⊢
                     refine pure_ (i := 0) (N := some 27) (v := ?_) (a' := ?_) #[true, false, false, false, false, false, false, false, false, false, false, false] rfl rfl (any_of HT_.out (by kernel_rfl)) (fun _ _ _ h => h) (Or.inl ⟨by rfl, ?_⟩) ?_ ?_
                     rotate_left
                     · intro w'
                       go_simp; with_reducible rfl
                     rotate_left
                     · simp only [Act.put, zaa, zab, zac, i64_w, i32_w]
                       rfl
                     refine pure_ (i := 1) (N := some 28) (v := ?_) (a' := ?_) #[true, true, false, false, false, false, false, false, false, false, false, false] rfl rfl (any_of HT_.out (by kernel_rfl)) (fun _ _ _ h => h) (Or.inl ⟨by rfl, ?_⟩) ?_ ?_
                     rotate_left
                     · intro w'
                       go_simp; with_reducible rfl
                     rotate_left
                     · simp only [Act.put, zaa, zab, zac, i64_w, i32_w]
                       rfl
                     refine pure_ (i := 2) (N := some 29) (v := ?_) (a' := ?_) #[true, true, true, false, false, false, false, false, false, false, false, false] rfl rfl (any_of HT_.out (by kernel_rfl)) (fun _ _ _ h => h) (Or.inl ⟨by rfl, ?_⟩) ?_ ?_
                     rotate_left
                     · intro w'
                       go_simp; with_reducible rfl
                     rotate_left
                     · simp only [Act.put, zaa, zab, zac, i64_w, i32_w]
                       rfl
                     refine pure_ (i := 4) (N := some 31) (v := ?_) (a' := ?_) #[true, true, true, false, true, false, false, false, false, false, false, false] rfl rfl (any_of HT_.out (by kernel_rfl)) (fun _ _ _ h => h) (Or.inl ⟨by rfl, ?_⟩) ?_ ?_
                     rotate_left
                     · intro w'
                       go_simp; with_reducible rfl
                     rotate_left
                     · simp only [Act.put, zaa, zab, zac, i64_w, i32_w]
                       rfl
                     refine pure_ (i := 7) (N := some 34) (v := ?_) (a' := ?_) #[true, true, true, false, true, false, false, true, false, false, false, false] rfl rfl (any_of HT_.out (by kernel_rfl)) (fun _ _ _ h => h) (Or.inl ⟨by rfl, ?_⟩) ?_ ?_
                     rotate_left
                     · intro w'
                       go_simp; with_reducible rfl
                     rotate_left
                     · simp only [Act.put, zaa, zab, zac, i64_w, i32_w]
                       rfl
                     refine pure_ (i := 8) (N := some 35) (v := ?_) (a' := ?_) #[true, true, true, false, true, false, false, true, true, false, false, false] rfl rfl (any_of HT_.out (by kernel_rfl)) (fun _ _ _ h => h) (Or.inl ⟨by rfl, ?_⟩) ?_ ?_
                     rotate_left
                     · intro w'
                       go_simp; with_reducible rfl
                     rotate_left
                     · simp only [Act.put, zaa, zab, zac, i64_w, i32_w]
                       rfl
                     refine pure_ (i := 9) (N := some 36) (v := ?_) (a' := ?_) #[true, true, true, false, true, false, false, true, true, true, false, false] rfl rfl (any_of HT_.out (by kernel_rfl)) (fun _ _ _ h => h) (Or.inl ⟨by rfl, ?_⟩) ?_ ?_
                     rotate_left
                     · intro w'
                       go_simp; with_reducible rfl
                     rotate_left
                     · simp only [Act.put, zaa, zab, zac, i64_w, i32_w]
                       rfl
                     refine join_ (σ := Value × Value) 3 #[true, true, true, true, true, true, false, true, true, true, false, false] (fun s_ => [(30, s_.1), (32, s_.2)]) (fun s_ w' => (Kd.R (Kd.int .i64) 3 w' w.heap.size (fun k_ => some k_ ≠ (s_.2 : Value).ownBlock ∧ some k_ ≠ (.slice Ao34 x3_1.length co34 : Value).ownBlock) s_.1 t138) ∧ (Kd.R (Kd.int .i64) 3 w' w.heap.size (fun k_ => some k_ ≠ (s_.1 : Value).ownBlock ∧ some k_ ≠ (.slice Ao34 x3_1.length co34 : Value).ownBlock) s_.2 y141) ∧ (Kd.R (Kd.int .i64) 3 w' w.heap.size (fun k_ => some k_ ≠ (s_.1 : Value).ownBlock ∧ some k_ ≠ (s_.2 : Value).ownBlock) (.slice Ao34 x3_1.length co34) x3_1) ∧ (Below w.heap.size w w')) ?_ ?_
                     rotate_left
                     · intro hCont
                       refine two_ (i := 3) (j := 5) (Ni := some 30) (Nj := some 32) #[true, true, true, true, true, false, false, true, true, true, false, false] #[true, true, true, false, true, true, false, true, true, true, false, false] rfl rfl rfl rfl (two_of HT_.out (by kernel_rfl)) (by decide) (by decide) (fun K hK => ?_) (fun K hK => ?_)
                       · skip
                         refine goes_ Try.func69 (by kernel_rfl) rfl #[.slice Ao34 y134.length co34] (by rfl) rfl rfl (taae) ?_
                         with_reducible refine (spec_l1Own.calls _ _ y134 t138 _ ?side1 ?side2 A29.out).mono ?_
                         (case side1 => exact tafy)
                         (case side2 => exact HC137.out)
                         rintro e w38 ⟨v139, rfl, ho0, hb⟩
                         refine ⟨_, rfl, ?_⟩
                         have n0_ := zad (zbx (taak) (zbz ho0) hb)
                         have n1_ := zad (zbu (zby ho0 (zca (taak))) (zbl (taaa)))
                         have n2_ := zad (Kd.C_below (tabr) hb)
                         have n3_ := zad (Kd.C_below (tacg) hb)
                         have n4_ := zad (zbh (taaa) hb)
                         clear HO_3 HR137 HR150 HB; have HO_3 := n0_; have HO140 := n1_; have HR137 := n2_; have HR150 := n3_; have HB := n4_; clear n0_ n1_ n2_ n3_ n4_; (try clear hb); (try clear hb2); (try clear hk); (try clear hi); (try clear ho0); refine hK.out _ _ trivial (fun hHeld => ?_)
                         clear hK K; refine norm_ (a' := ?_) ?_ ?_
                         rotate_left
                         · show Act.put _ (some 30) _ = _
                           simp only [Act.put, zaa, zab, zac, i64_w, i32_w]
                           rfl
                         refine one_ (i := 5) (N := some 32) #[true, true, true, true, true, true, false, true, true, true, false, false] rfl rfl (one_of HT_.out (by kernel_rfl)) (by decide) (fun K hK => ?_)
                         refine Kd.R_lit_step (Kd.int .i64) _ 3 ?hg (N := 32) ?hd (xs := ([(rd l0 x9_1)] : List Int)) (inner := [.int .i64 (rd l0 x9_1)]) (ok := fun _ => True) (okp := fun _ => True) ?hr ?hp (fun _ hk => hk) trivial (Below.refl _ _) (zcb _) (taac) ?_; (case hd => rfl); (case hg => rfl); (case hr => first | (go_simp; done) | (go_simp; rfl)); (case hp => exact (Reps.one (show Kd.M (Kd.int .i64) _ _ _ (rd l0 x9_1) [.int .i64 (rd l0 x9_1)] from rfl) (Reps.none _ _)))
                         intro v142 w39 ho40 hb hg_ hnew_
                         clear hg_ hnew_; (first | rw [← Ny141.out] at ho40 | (simp only [Int.reduceToNat] at ho40; rw [← Ny141.out] at ho40))
                         have n0_ := zad (zbx (taak) (zbz ho40) hb)
                         have n1_ := zad (zbx (taeb) (zbz ho40) hb)
                         have n2_ := zad (zbu (zby (zby ho40 (zca (taak))) (zca (taeb))) (zbl (taaa)))
                         have n3_ := zad (Kd.C_below (tabr) hb)
                         have n4_ := zad (Kd.C_below (tacg) hb)
                         have n5_ := zad (zbh (taaa) hb)
                         clear HO_3 HO140 HR137 HR150 HB; have HO_3 := n0_; have HO140 := n1_; have HO143 := n2_; have HR137 := n3_; have HR150 := n4_; have HB := n5_; clear n0_ n1_ n2_ n3_ n4_ n5_ hb ho40; refine hK.out _ _ trivial (fun hHeld => ?_)
                         clear hK K; refine norm_ (a' := ?_) ?_ ?_
                         rotate_left
                         · show Act.put _ (some 32) _ = _
                           simp only [Act.put, zaa, zab, zac, i64_w, i32_w]
                           rfl
                         exact norm_ (tacf) (hCont (v139, v142) _ ⟨(taec), (taed), (tady), (taaa)⟩)
                       · skip
                         refine Kd.R_lit_step (Kd.int .i64) _ 3 ?hg (N := 32) ?hd (xs := ([(rd l0 x9_1)] : List Int)) (inner := [.int .i64 (rd l0 x9_1)]) (ok := fun _ => True) (okp := fun _ => True) ?hr ?hp (fun _ hk => hk) trivial (Below.refl _ _) (zcb _) (taac) ?_; (case hd => rfl); (case hg => rfl); (case hr => first | (go_simp; done) | (go_simp; rfl)); (case hp => exact (Reps.one (show Kd.M (Kd.int .i64) _ _ _ (rd l0 x9_1) [.int .i64 (rd l0 x9_1)] from rfl) (Reps.none _ _)))
                         intro v142 w38 ho39 hb hg_ hnew_
                         clear hg_ hnew_; (first | rw [← Ny141.out] at ho39 | (simp only [Int.reduceToNat] at ho39; rw [← Ny141.out] at ho39))
                         have n0_ := zad (zbx (taak) (zbz ho39) hb)
                         have n1_ := zad (zbu (zby ho39 (zca (taak))) (zbl (taaa)))
                         have n2_ := zad (Kd.C_below (tabr) hb)
                         have n3_ := zad (Kd.C_below (tacg) hb)
                         have n4_ := zad (zbh (taaa) hb)
                         clear HO_3 HR137 HR150 HB; have HO_3 := n0_; have HO143 := n1_; have HR137 := n2_; have HR150 := n3_; have HB := n4_; clear n0_ n1_ n2_ n3_ n4_ hb ho39; refine hK.out _ _ trivial (fun hHeld => ?_)
                         clear hK K; refine norm_ (a' := ?_) ?_ ?_
                         rotate_left
                         · show Act.put _ (some 32) _ = _
                           simp only [Act.put, zaa, zab, zac, i64_w, i32_w]
                           rfl
                         refine one_ (i := 3) (N := some 30) #[true, true, true, true, true, true, false, true, true, true, false, false] rfl rfl (one_of HT_.out (by kernel_rfl)) (by decide) (fun K hK => ?_)
                         refine goes_ Try.func69 (by kernel_rfl) rfl #[.slice Ao34 y134.length co34] (by rfl) rfl rfl (taae) ?_
                         with_reducible refine (spec_l1Own.calls _ _ y134 t138 _ ?side1 ?side2 A29.out).mono ?_
                         (case side1 => exact tafy)
                         (case side2 => exact HC137.out)
                         rintro e w40 ⟨v139, rfl, ho0, hb⟩
                         refine ⟨_, rfl, ?_⟩
                         have n0_ := zad (zbx (taak) (zbz ho0) hb)
                         have n1_ := zad (zbx (tabx) (zbz ho0) hb)
                         have n2_ := zad (zbu (zby (zby ho0 (zca (taak))) (zca (tabx))) (zbl (taaa)))
                         have n3_ := zad (Kd.C_below (tabr) hb)
                         have n4_ := zad (Kd.C_below (tacg) hb)
                         have n5_ := zad (zbh (taaa) hb)
                         clear HO_3 HO143 HR137 HR150 HB; have HO_3 := n0_; have HO143 := n1_; have HO140 := n2_; have HR137 := n3_; have HR150 := n4_; have HB := n5_; clear n0_ n1_ n2_ n3_ n4_ n5_; (try clear hb); (try clear hb2); (try clear hk); (try clear hi); (try clear ho0); refine hK.out _ _ trivial (fun hHeld => ?_)
                         clear hK K; refine norm_ (a' := ?_) ?_ ?_
                         rotate_left
                         · show Act.put _ (some 30) _ = _
                           simp only [Act.put, zaa, zab, zac, i64_w, i32_w]
                           rfl
                         exact norm_ (tacf) (hCont (v139, v142) _ ⟨(taec), (taed), (tadz), (taaa)⟩)
                     rintro ⟨v139, v142⟩ w41 ⟨h0_, h1_, h2_, h3_⟩
                     have n0_ : Aside0 (Kd.R (Kd.int .i64) 3 w41 w.heap.size (fun k_ => some k_ ≠ (v142 : Value).ownBlock ∧ some k_ ≠ (.slice Ao34 x3_1.length co34 : Value).ownBlock) v139 t138) := ⟨h0_⟩
                     have n1_ : Aside0 (Kd.R (Kd.int .i64) 3 w41 w.heap.size (fun k_ => some k_ ≠ (v139 : Value).ownBlock ∧ some k_ ≠ (.slice Ao34 x3_1.length co34 : Value).ownBlock) v142 y141) := ⟨h1_⟩
                     have n2_ : Aside0 (Kd.R (Kd.int .i64) 3 w41 w.heap.size (fun k_ => some k_ ≠ (v139 : Value).ownBlock ∧ some k_ ≠ (v142 : Value).ownBlock) (.slice Ao34 x3_1.length co34) x3_1) := ⟨h2_⟩
                     have n3_ : Aside0 (Below w.heap.size w w41) := ⟨h3_⟩
                     clear HO_3 HB h0_ h1_ h2_ h3_; have HO140 := n0_; have HO143 := n1_; have HO_3 := n2_; have HB := n3_; clear n0_ n1_ n2_ n3_; have hHeld := trivial
                     obtain ⟨Ao43, co43, eo43⟩ := zbv HO143.out
                     (first | subst eo43 | (injection eo43 with f1_ f2_ f3_; have f4_ := f1_.symm; have f5_ := f3_.symm; clear f1_ f2_ f3_; subst f4_; subst f5_))
                     refine norm_ (a' := ?_) ?_ ?_
                     rotate_left
                     · simp only [putAll, Act.put, zaa, zab, zac]
                       rfl
                     refine one_ (i := 6) (N := some 33) #[true, true, true, true, true, true, true, true, true, true, false, false] rfl rfl (one_of HT_.out (by kernel_rfl)) (by decide) (fun K hK => ?_)
                     refine Kd.R_append_rows_step (Kd.int .i64) (w0 := w) w.heap.size (by rfl) (.tmp 30) (.tmp 32) 22 3 (.int .i64 0) 8 rfl Try.underlying22 info3 rfl (by decide) (by omega) v139 t138 y141 _ _ _ (fun k_ => some k_ ≠ (.slice Ao34 x3_1.length co34 : Value).ownBlock ∧ some k_ ≠ (.slice Ao43 y141.length co43 : Value).ownBlock) (fun _ => False) rfl rfl ?aO ?aR (fun _ _ h => h) (fun _ h => h.elim) ?aF ?aB ?aS ?aL ?_
                     (case aR => repeat (first | exact (zbg HO143.out).2.2 | (with_reducible refine zal ?_ _) | (with_reducible refine zam ?_ _) | (with_reducible refine zan ?_)))
                     (case aB => exact (taaa))
                     (case aF => exact (fun k_ hk => ⟨Kd.fresh' (zca (taak)) k_ hk, Kd.fresh' (zca (tabx)) k_ hk⟩))
                     (case aO => exact (by (with_reducible repeat (first | apply zai | apply zaj | apply zak)); exact zbr HO140.out (fun _ hk => ⟨hk.2, hk.1⟩)))
                     (case aS => exact (zbl (taaa)))
                     (case aL => have := LMc30.out; omega)
                     intro v145 w42 ho hb hg hat
                     rw [← Ny144.out] at ho
                     have n0_ := zad (Kd.R_after (ok := (fun k_ => some k_ ≠ (.slice Ao43 y141.length co43 : Value).ownBlock)) (taea) hg hat)
                     have n1_ := zad (Kd.R_after (ok := (fun k_ => some k_ ≠ (.slice Ao34 x3_1.length co34 : Value).ownBlock)) (by (with_reducible repeat (first | apply zai | apply zaj | apply zak)); exact zbr HO143.out (fun _ hk => ⟨hk.2, hk.1⟩)) hg hat)
                     have n2_ := zad (hb)
                     have n3_ := zad (ho)
                     clear HO_3 HO143 HB HO140; have HO_3 := n0_; have HO143 := n1_; have HB := n2_; have HO146 := n3_; clear n0_ n1_ n2_ n3_ ho hb hg hat; refine hK.out _ _ trivial (fun hHeld => ?_)
                     clear hK K; refine norm_ (a' := ?_) ?_ ?_
                     rotate_left
                     · show Act.put _ (some 33) _ = _
                       simp only [Act.put, zaa, zab, zac, i64_w, i32_w]
                       rfl
                     refine one_ (i := 10) (N := some 37) #[true, true, true, true, true, true, true, true, true, true, true, false] rfl rfl (one_of HT_.out (by kernel_rfl)) (by decide) (fun K hK => ?_)
                     refine Kd.R_append_rows_step (Kd.int .i64) (w0 := w) w.heap.size (by rfl) (.tmp 33) (.tmp 36) 22 3 (.int .i64 0) 8 rfl Try.underlying22 info3 rfl (by decide) (by omega) v145 y144 y147 _ _ _ (fun k_ => some k_ ≠ (.slice Ao34 x3_1.length co34 : Value).ownBlock ∧ some k_ ≠ (.slice Ao43 y141.length co43 : Value).ownBlock) (fun _ => False) rfl rfl ?aO ?aR (fun _ _ h => h) (fun _ h => h.elim) ?aF ?aB ?aS ?aL ?_
                     (case aR => repeat (first | exact (show Kd.C (Kd.int .i64) _ A37 y147.length y147 from by rw [Ny147.out, KA37.out]; exact Kd.C_drop (m := (x6_2 : Int).toNat) (c := co34) ((zbg HO_3.out).2.2) KL37.out ((zbg HO_3.out).2.1)) | (with_reducible refine zal ?_ _) | (with_reducible refine zam ?_ _) | (with_reducible refine zan ?_)))
                     (case aB => exact (taaa))
                     (case aF => exact (fun k_ hk => ⟨Kd.fresh' (zca (taak)) k_ hk, Kd.fresh' (zca (tabx)) k_ hk⟩))
                     (case aO => exact (by (with_reducible repeat (first | apply zai | apply zaj | apply zak)); exact HO146.out))
                     (case aS => exact (zbl (taaa)))
                     (case aL => have := LMc33.out; omega)
                     intro v152 w44 ho hb hg hat
                     rw [← Ny151.out] at ho
                     have n0_ := zad (Kd.R_after (ok := (fun k_ => some k_ ≠ (.slice Ao43 y141.length co43 : Value).ownBlock)) (taak) hg hat)
                     have n1_ := zad (Kd.R_after (ok := (fun k_ => some k_ ≠ (.slice Ao34 x3_1.length co34 : Value).ownBlock)) (tabx) hg hat)
                     have n2_ := zad (hb)
                     have n3_ := zad (ho)
                     clear HO_3 HO143 HB HO146; have HO_3 := n0_; have HO143 := n1_; have HB := n2_; have HO153 := n3_; clear n0_ n1_ n2_ n3_ ho hb hg hat; refine hK.out _ _ trivial (fun hHeld => ?_)
                     clear hK K; refine norm_ (a' := ?_) ?_ ?_
                     rotate_left
                     · show Act.put _ (some 37) _ = _
                       simp only [Act.put, zaa, zab, zac, i64_w, i32_w]
                       rfl
                     refine pure_ (i := 11) (N := some 3) (v := ?_) (a' := ?_) #[true, true, true, true, true, true, true, true, true, true, true, true] rfl rfl (any_of HT_.out (by kernel_rfl)) (fun _ _ _ h => h) (Or.inl ⟨by rfl, ?_⟩) ?_ ?_
                     rotate_left
                     · intro w'
                       go_simp; with_reducible rfl
                     rotate_left
                     · simp only [Act.put, zaa, zab, zac, i64_w, i32_w]
                       rfl
                     refine done_ (done_of HT_.out (by kernel_rfl)) ?_
                     try go_wp2
                     go_roundg k2
                     case measure => have := HK1.out; have := HK2.out; omega
                     case rel => exact ⟨(y151), (wrap64 (x9_1 + 1)), (taad), H', ⟨tabp⟩, ⟨by (with_reducible repeat (first | apply zai | apply zaj | apply zak)); exact zbr HO153.out (fun _ hk => trivial)⟩, ⟨taaa⟩⟩
                   · rw [if_neg c33] at H
                     exact absurd H (taac)
                 · rw [if_neg c30] at H
                   exact absurd H (taac)
               · rw [if_neg c28] at H
                 exact absurd H (taac)
             · rw [if_neg c27] at H
               exact absurd H (taac)
       · rw [if_neg c4] at H
         exact absurd H (taac)
     · rw [if_neg c3] at H
       exact absurd H (taac)
   · rw [if_neg c2] at H
     have c2b0 : decide (x9_1 < (l0.length : Int)) = false := zbk c2
     clear c2; obtain rfl := zbf H
     go_wp2
     go_ret
     exact ⟨_, taaf, taak, taaa⟩
mutual
def spec_liGifts.l0 : Nat → List Int → List (List Int) → Int → Int → Option ((List (List Int)))
 | 0, _, _, _, _ => none
 | k + 1, x0, x3, x8, x9 => if x9 < x8 then (spec_liGifts.l1 k x0 x3 x9 x8 x9 (x0.length : Int) 0) else (some x3)
def spec_liGifts.l1 : Nat → List Int → List (List Int) → Int → Int → Int → Int → Int → Option ((List (List Int)))
 | 0, _, _, _, _, _, _, _ => none
 | k + 1, x0, x3, x4, x8, x9, x13, x14 => if x14 < x13 then (if 0 ≤ x4 then (if x4 < (x0.length : Int) then (if 0 ≤ x14 then (if x14 < (x0.length : Int) then (if (rd x0 x4) ≥ (wrap64 ((rd x0 x14) + 2)) then ((spec_l1Own.f x0).bind fun t156 => (if x4 < (t156.length : Int) then ((some (t156.set (x4 : Int).toNat (wrap64 ((rd t156 x4) - 1)) : List Int)).bind fun y160 => (if x14 < (t156.length : Int) then ((spec_liRank.f k (y160.set (x14 : Int).toNat (wrap64 ((rd y160 x14) + 1)))).bind fun t163 => (if x3.length < 5864062014805 then (spec_liGifts.l1 k x0 (x3 ++ [t163]) x4 x8 x9 x13 (wrap64 (x14 + 1))) else (none))) else (none))) else (none))) else (spec_liGifts.l1 k x0 x3 x4 x8 x9 x13 (wrap64 (x14 + 1)))) else (none)) else (none)) else (none)) else (none)) else (spec_liGifts.l0 k x0 x3 x8 (wrap64 (x9 + 1)))
end
def spec_liGifts.f (k : Nat) (l0 : List Int) : Option ((List (List Int))) := spec_liGifts.l0 k l0 ([] : List (List Int)) (l0.length : Int) 0
theorem spec_liGifts.calls (k : Nat) (A0 : Option Addr) (c0 : Nat) (l0 : List Int) (r : List (List Int)) (w : World) (hr0 : Kd.C (Kd.int .i64) w A0 l0.length l0) (hc0 : l0.length ≤ c0) (h : spec_liGifts.f k l0 = some r) :
 Calls Try.prog 33 #[.slice A0 l0.length c0] w fun e w' => ∃ v0_ : Value, e = .returned (v0_) ∧ Kd.S (Kd.slice 3 (Kd.int .i64)) 22 w' w.heap.size (fun _ => True) v0_ r ∧ Below w.heap.size w w' := by
 have HR0 := zad hr0; have HC0 := zad hc0; clear hr0 hc0; have HB := zad (Below.refl w.heap.size w)
 have H : (spec_liGifts.l0 k l0 ([] : List (List Int)) (l0.length : Int) 0) = some r := h
 clear h; have H' := zad H
 clear H; go_enter Try.func33, Try.ntmps33
 go_wp2
 repeat (go_quiet (fail); try go_wp2)
 go_loopg [3, 9] k (fun kq v3 v9 w' => ∃ (x3_1 : List (List Int)) (x9_1 : Int), v9 = .int .i64 x9_1 ∧ Aside0 (spec_liGifts.l0 kq l0 x3_1 (l0.length : Int) x9_1 = some r) ∧ Aside0 (kq ≤ k) ∧ Aside0 (Kd.S (Kd.slice 3 (Kd.int .i64)) 22 w' w.heap.size (fun _ => True) v3 x3_1) ∧ Aside0 (Below w.heap.size w w'))
 case atStart => exact ⟨(([] : List (List Int))), (0), (taad), H', ⟨zcb _⟩, ⟨taba⟩, ⟨taaa⟩⟩
 case round =>
  clear H'
  obtain ⟨x3_1, x9_1, rfl, HA, HK1, HO_3, HB⟩ := hrel
  cases gk with
  | zero => exact absurd HA.out (by simp [spec_liGifts.l0])
  | succ k1 =>
   have H := HA.out
   clear HA; simp only [spec_liGifts.l0] at H
   by_cases c2 : x9_1 < (l0.length : Int)
   · rw [if_pos c2] at H
     have c2b0 : decide (x9_1 < (l0.length : Int)) = true := zba c2
     clear c2; have H' := zad H
     clear H; go_wp2
     repeat (go_quiet (fail); try go_wp2)
     go_loopg [3, 14] k1 (fun kq v3 v14 w' => ∃ (x3_2 : List (List Int)) (x14_2 : Int), v14 = .int .i64 x14_2 ∧ Aside0 (spec_liGifts.l1 kq l0 x3_2 x9_1 (l0.length : Int) x9_1 (l0.length : Int) x14_2 = some r) ∧ Aside0 (kq ≤ k1) ∧ Aside0 (Kd.S (Kd.slice 3 (Kd.int .i64)) 22 w' w.heap.size (fun _ => True) v3 x3_2) ∧ Aside0 (Below w.heap.size w w'))
     case atStart => exact ⟨(x3_1), (0), (taad), H', ⟨zcb _⟩, ⟨taap⟩, ⟨taaa⟩⟩
     case round =>
      clear H'
      try clear c2
      try clear c2b0
      try clear p2
      obtain ⟨x3_2, x14_2, rfl, HA, HK2, HO_3, HB⟩ := hrel
      cases gk with
      | zero => exact absurd HA.out (by simp [spec_liGifts.l1])
      | succ k2 =>
       have H := HA.out
       clear HA; simp only [spec_liGifts.l1] at H
       by_cases c3 : x14_2 < (l0.length : Int)
       · rw [if_pos c3] at H
         have c3b0 : decide (x14_2 < (l0.length : Int)) = true := zba c3
         clear c3; by_cases c4 : 0 ≤ x9_1
         · rw [if_pos c4] at H
           have c4b0 : decide (0 ≤ x9_1) = true := zba c4
           clear c4; by_cases c5 : x9_1 < (l0.length : Int)
           · rw [if_pos c5] at H
             have c5b0 : decide (x9_1 < (l0.length : Int)) = true := zba c5
             clear c5; by_cases c6 : 0 ≤ x14_2
             · rw [if_pos c6] at H
               have c6b0 : decide (0 ≤ x14_2) = true := zba c6
               clear c6; by_cases c7 : x14_2 < (l0.length : Int)
               · rw [if_pos c7] at H
                 have c7b0 : decide (x14_2 < (l0.length : Int)) = true := zba c7
                 clear c7; by_cases c8 : (rd l0 x9_1) ≥ (wrap64 ((rd l0 x14_2) + 2))
                 · rw [if_pos c8] at H
                   have c8b0 : decide ((wrap64 ((rd l0 x14_2) + 2)) ≤ (rd l0 x9_1)) = true := zba c8
                   clear c8; replace H := zay.mp H; obtain ⟨t156, A90, H⟩ := H
                   replace H : (if x9_1 < (t156.length : Int) then ((some (t156.set (x9_1 : Int).toNat (wrap64 ((rd t156 x9_1) - 1)) : List Int)).bind fun y160 => (if x14_2 < (t156.length : Int) then ((spec_liRank.f k2 (y160.set (x14_2 : Int).toNat (wrap64 ((rd y160 x14_2) + 1)))).bind fun t163 => (if x3_2.length < 5864062014805 then (spec_liGifts.l1 k2 l0 (x3_2 ++ [t163]) x9_1 (l0.length : Int) x9_1 (l0.length : Int) (wrap64 (x14_2 + 1))) else (none))) else (none))) else (none)) = some r := H
                   have A9 := zad A90; clear A90; by_cases c10 : x9_1 < (t156.length : Int)
                   · rw [if_pos c10] at H
                     have c10b0 : decide (x9_1 < (t156.length : Int)) = true := zba c10
                     clear c10; obtain ⟨y160, hy160⟩ : ∃ y_ : List Int, y_ = (t156.set (x9_1 : Int).toNat (wrap64 ((rd t156 x9_1) - 1))) := ⟨_, rfl⟩
                     replace H : (if x14_2 < (t156.length : Int) then ((spec_liRank.f k2 (y160.set (x14_2 : Int).toNat (wrap64 ((rd y160 x14_2) + 1)))).bind fun t163 => (if x3_2.length < 5864062014805 then (spec_liGifts.l1 k2 l0 (x3_2 ++ [t163]) x9_1 (l0.length : Int) x9_1 (l0.length : Int) (wrap64 (x14_2 + 1))) else (none))) else (none)) = some r := by first | (rw [hy160]; with_reducible exact H) | (have H2_ := (zbe _ _).symm.trans H; rw [hy160]; with_reducible exact H2_) | (have H2_ := (zbe _ _).symm.trans H; with_reducible exact H2_) | with_reducible exact H | (rw [hy160]; exact H) | exact H
                     have Ny160 := zad hy160; clear hy160; by_cases c12 : x14_2 < (t156.length : Int)
                     · rw [if_pos c12] at H
                       have c12b0 : decide (x14_2 < (t156.length : Int)) = true := zba c12
                       clear c12; obtain ⟨y162, hy162⟩ : ∃ y_ : List Int, y_ = (y160.set (x14_2 : Int).toNat (wrap64 ((rd y160 x14_2) + 1))) := ⟨_, rfl⟩
                       replace H : ((spec_liRank.f k2 y162).bind fun t163 => (if x3_2.length < 5864062014805 then (spec_liGifts.l1 k2 l0 (x3_2 ++ [t163]) x9_1 (l0.length : Int) x9_1 (l0.length : Int) (wrap64 (x14_2 + 1))) else (none))) = some r := by first | (rw [hy162]; with_reducible exact H) | (have H2_ := (zbe _ _).symm.trans H; rw [hy162]; with_reducible exact H2_) | (have H2_ := (zbe _ _).symm.trans H; with_reducible exact H2_) | with_reducible exact H | (rw [hy162]; exact H) | exact H
                       have Ny162 := zad hy162; clear hy162; replace H := zay.mp H; obtain ⟨t163, A140, H⟩ := H
                       replace H : (if x3_2.length < 5864062014805 then (spec_liGifts.l1 k2 l0 (x3_2 ++ [t163]) x9_1 (l0.length : Int) x9_1 (l0.length : Int) (wrap64 (x14_2 + 1))) else (none)) = some r := H
                       have A14 := zad A140; clear A140; by_cases c15 : x3_2.length < 5864062014805
                       · rw [if_pos c15] at H
                         have LMc15 := zad c15; clear c15; obtain ⟨y166, hy166⟩ : ∃ y_ : List (List Int), y_ = (x3_2 ++ [t163]) := ⟨_, rfl⟩
                         replace H : (spec_liGifts.l1 k2 l0 y166 x9_1 (l0.length : Int) x9_1 (l0.length : Int) (wrap64 (x14_2 + 1))) = some r := by first | (rw [hy166]; with_reducible exact H) | (have H2_ := (zbe _ _).symm.trans H; rw [hy166]; with_reducible exact H2_) | (have H2_ := (zbe _ _).symm.trans H; with_reducible exact H2_) | with_reducible exact H | (rw [hy166]; exact H) | exact H
                         have Ny166 := zad hy166; clear hy166; have H' := zad H
                         clear H; have p154 : 0 ≤ (x9_1 : Int) := zas (taab)
                         have q154 : x9_1 < (l0.length : Int) := zas (taab)
                         obtain ⟨ad154, e154, hx154_0⟩ := zbw HR0.out x9_1 p154 q154
                         cases e154
                         replace hx154_0 := (HB.out.cell (zaz w _ hx154_0)).trans hx154_0
                         replace p154 := eq_true p154
                         replace q154 := eq_true q154
                         have p155 : 0 ≤ (x14_2 : Int) := zas (taab)
                         have q155 : x14_2 < (l0.length : Int) := zas (taab)
                         obtain ⟨ad155, e155, hx155_0⟩ := zbw HR0.out x14_2 p155 q155
                         obtain rfl : ad154 = ad155 := (by injection e155)
                         replace hx155_0 := (HB.out.cell (zaz w _ hx155_0)).trans hx155_0
                         replace p155 := eq_true p155
                         replace q155 := eq_true q155
                         go_wp2_with (first | (go_at_call 69; (with_reducible refine (spec_l1Own.calls _ _ l0 t156 _ ?side1 ?side2 A9.out).mono ?_); (case side1 => repeat (first | exact (Kd.C_below HR0.out HB.out) | (with_reducible refine zal ?_ _) | (with_reducible refine zam ?_ _) | (with_reducible refine zan ?_))); (case side2 => exact HC0.out); rintro e w16 ⟨v157, rfl, ho0, hb⟩; have n0_ := zad (Kd.S_elder' (taap) (zbz ho0) hb); have n1_ := zad (zbu ho0 (zbl (taaa))); have n2_ := zad (zbh (taaa) hb); clear HO_3 HB; have HO_3 := n0_; have HO158 := n1_; have HB := n2_; clear n0_ n1_ n2_; (try clear hb); (try clear hb2); (try clear hk); (try clear hi); (try clear ho0); obtain ⟨Ao17, co17, eo17⟩ := zbv HO158.out; subst eo17; have p159 : 0 ≤ (x9_1 : Int) := zas (taab); have q159 : x9_1 < (t156.length : Int) := zas (taab); obtain ⟨ad159, e159, hx159_0⟩ := zbw (zbg HO158.out).2.2 x9_1 p159 q159; cases e159; replace p159 := eq_true p159; replace q159 := eq_true q159; have p11 : 0 ≤ (x9_1 : Int) := zas (taab); have q11 : (x9_1 : Int) < ((t156.length : Int) : Int) := zas (taab); obtain ⟨go11, co11, eo11, gb11, gl11, cl11, HG11⟩ := Kd.R_form HO158.out (by omega); (first | cases eo11 | (injection eo11 with ea_ en_ ec_; (first | subst ea_ | (injection ea_ with ea_; subst ea_)); subst ec_; clear en_)); have GB11 := zad gb11; have GG11 := zad HG11; clear gb11 gl11 HG11; (first | simp only [add_plain] at hx159_0 | skip); obtain ⟨hx11_0, hf11_0⟩ := Kd.R_celln 0 HO158.out (x9_1 : Int) p11 q11; replace p11 := eq_true p11; replace q11 := eq_true q11; obtain ⟨hy18_, hz18_⟩ := Kd.R_celln 0 HO158.out (x9_1 : Int) (zas (taab)) (zas (taab)); have HP18 := Kd.R_putg HO158.out (x9_1 : Int) (wrap64 ((rd t156 x9_1) - 1))) | ((with_reducible refine gate_store (t := 3) (p := 34) rfl ?_); (try (rw [drewN_self w16]; generalize hq_ : World.drewN w16 _ = w16; have n0_ := zad (Kd.S_at hq_ HO_3.out); have n1_ := zad (Kd.R_at hq_ HO158.out); have n2_ := zad (below_at hq_ HB.out); clear hq_ HO_3 HO158 HB; have HO_3 := n0_; have HO158 := n1_; have HB := n2_; clear n0_ n1_ n2_; (try (obtain ⟨hy18_, hz18_⟩ := Kd.R_celln 0 HO158.out (x9_1 : Int) (zas (taab)) (zas (taab)))); (try (have HP18 := Kd.R_putg HO158.out (x9_1 : Int) (wrap64 ((rd t156 x9_1) - 1)))))); refine store_event (t := 3) (p := 34) (v := ?vo_w19) (w1 := (w16.setCell ⟨go11, (x9_1 : Int).toNat, none⟩ (.int .i64 (wrap64 ((rd t156 x9_1) - 1))))) ?hg ?ho ?hn ?hr ?_; (case ho => rfl); (case hg => rfl); (case hn => rfl); (case hr => first | (go_simp; done) | (go_simp; rfl)); intro w19 hw; have hg : w16.grownBy w19 (some go11) := (by rw [hw]; exact HP18.2); have hp_ : Kd.R (Kd.int .i64) 3 w19 w.heap.size (fun _ => True) (.slice (some ⟨go11, 0, none⟩) t156.length co17) y160 := (tacy); clear HP18; have n0_ := zad (Kd.S_after (v := (.slice (some ⟨go11, 0, none⟩) t156.length co17)) (v1 := (.slice (some ⟨go11, 0, none⟩) t156.length co17)) (ok := (fun _ => True)) (taap) hg (.inl rfl)); have n1_ := zad (hp_); have n2_ := zad ((by rw [hw]; exact zah (HB.out) GB11.out : Below w.heap.size w w19)); clear HO_3 HO158 HB; have HO_3 := n0_; have HO158 := n1_; have HB := n2_; clear n0_ n1_ n2_ hg hw hp_; have p161 : 0 ≤ (x14_2 : Int) := zas (taab); have q161 : x14_2 < (y160.length : Int) := (by have h_ : (x14_2 : Int) < ((t156.length : Int) : Int) := zas (taab); first | (have e_ := (zbg HO158.out).1; omega) | simpa only [Ny160.out, List.length_set] using h_); have ql161 : ((x14_2 : Int) < ((t156.length : Int) : Int)) = True := eq_true (zas (taab)); obtain ⟨ad161, e161, hx161_0⟩ := zbw (zbg HO158.out).2.2 x14_2 p161 q161; obtain rfl : (⟨go11, 0, none⟩ : Addr) = ad161 := (by injection e161); (first | simp only [add_plain] at hx161_0 | simp only [add_at] at hx161_0 | simp only [Addr.add, Nat.zero_add] at hx161_0 | skip); replace p161 := eq_true p161; replace q161 := eq_true q161; have p13 : 0 ≤ (x14_2 : Int) := zas (taab); have q13 : (x14_2 : Int) < ((t156.length : Int) : Int) := zas (taab); obtain ⟨hx13_0, hf13_0⟩ := Kd.R_celln 0 HO158.out (x14_2 : Int) p13 q13; replace p13 := eq_true p13; replace q13 := eq_true q13; obtain ⟨hy20_, hz20_⟩ := Kd.R_celln 0 HO158.out (x14_2 : Int) (zas (taab)) (zas (taab)); have HP20 := Kd.R_putg HO158.out (x14_2 : Int) (wrap64 ((rd y160 x14_2) + 1))) | ((with_reducible refine gate_store (t := 3) (p := 40) rfl ?_); (try (rw [drewN_self w19]; generalize hq_ : World.drewN w19 _ = w19; have n0_ := zad (Kd.S_at hq_ HO_3.out); have n1_ := zad (Kd.R_at hq_ HO158.out); have n2_ := zad (below_at hq_ HB.out); clear hq_ HO_3 HO158 HB; have HO_3 := n0_; have HO158 := n1_; have HB := n2_; clear n0_ n1_ n2_; (try (obtain ⟨hy20_, hz20_⟩ := Kd.R_celln 0 HO158.out (x14_2 : Int) (zas (taab)) (zas (taab)))); (try (have HP20 := Kd.R_putg HO158.out (x14_2 : Int) (wrap64 ((rd y160 x14_2) + 1)))))); refine store_event (t := 3) (p := 40) (v := ?vo_w21) (w1 := (w19.setCell ⟨go11, (x14_2 : Int).toNat, none⟩ (.int .i64 (wrap64 ((rd y160 x14_2) + 1))))) ?hg ?ho ?hn ?hr ?_; (case ho => rfl); (case hg => rfl); (case hn => rfl); (case hr => first | (go_simp; done) | (go_simp; rfl)); intro w21 hw; have hg : w19.grownBy w21 (some go11) := (by rw [hw]; exact HP20.2); have hp_ : Kd.R (Kd.int .i64) 3 w21 w.heap.size (fun _ => True) (.slice (some ⟨go11, 0, none⟩) t156.length co17) y162 := (tacz); clear HP20; have n0_ := zad (Kd.S_after (v := (.slice (some ⟨go11, 0, none⟩) t156.length co17)) (v1 := (.slice (some ⟨go11, 0, none⟩) t156.length co17)) (ok := (fun _ => True)) (taap) hg (.inl rfl)); have n1_ := zad (hp_); have n2_ := zad ((by rw [hw]; exact zah (HB.out) GB11.out : Below w.heap.size w w21)); clear HO_3 HO158 HB; have HO_3 := n0_; have HO158 := n1_; have HB := n2_; clear n0_ n1_ n2_ hg hw hp_) | (go_at_call 34; refine calls_of_args (args' := #[.slice (some ⟨go11, 0, none⟩) y162.length co17]) (tada) ?_; (with_reducible refine (spec_liRank.calls k2 _ _ y162 t163 _ ?side1 ?side2 A14.out).mono ?_); (case side1 => repeat (first | exact (zbg HO158.out).2.2 | (with_reducible refine zal ?_ _) | (with_reducible refine zam ?_ _) | (with_reducible refine zan ?_))); (case side2 => rw [show y162.length = t156.length from (zbg HO158.out).1.symm]; exact (zbg HO158.out).2.1); rintro e w22 ⟨v164, rfl, ho0, hb⟩; have n0_ := zad (Kd.S_elder' (taap) (zbz ho0) hb); have n1_ := zad (zbx (taay) (zbz ho0) hb); have n2_ := zad (zbu (zby ho0 (zca (taay))) (zbl (taaa))); have n3_ := zad (zbh (taaa) hb); clear HO_3 HO158 HB; have HO_3 := n0_; have HO158 := n1_; have HO165 := n2_; have HB := n3_; clear n0_ n1_ n2_ n3_; (try clear hb); (try clear hb2); (try clear hk); (try clear hi); (try clear ho0); obtain ⟨Ao24, co24, eo24⟩ := zbv HO165.out; subst eo24) | ((with_reducible refine gate_builtin (b := .append) (xs := #[.tmp 41, .tmp 44]) rfl ?_); at_builtin; refine Kd.S_append (Kd.slice 3 (Kd.int .i64)) (w0 := w) w.heap.size rfl (.tmp 41) (.tmp 44) 23 22 (.slice none 0 0) 24 rfl Try.underlying23 info22 rfl (by decide) (by omega) u3 x3_2 t163 [.slice Ao24 t163.length co24] (fun k_ => some k_ ≠ (.slice (some ⟨go11, 0, none⟩) t156.length co17 : Value).ownBlock) (fun k_ => some k_ = (.slice Ao24 t163.length co24 : Value).ownBlock) rfl rfl ?aP (fun k_ hk_ => ((zbr (ok' := fun k_ => ((fun k_ => some k_ ≠ (.slice (some ⟨go11, 0, none⟩) t156.length co17 : Value).ownBlock)) k_ ∧ some k_ ≠ (u3 : Value).ownBlock) (Kd.R_apart' (HO165.out) (Kd.S_typed HO_3.out) (by decide)) (fun k_ hk => ⟨hk.1.2, hk.2⟩))).1 k_ hk_.symm) ?aF ?aO ?aB ?aS ?aL ?_; (case aP => exact Kd.M_row (zbr (Kd.R_tight rfl (zbr (ok' := fun k_ => ((fun k_ => some k_ ≠ (.slice (some ⟨go11, 0, none⟩) t156.length co17 : Value).ownBlock)) k_ ∧ some k_ ≠ (u3 : Value).ownBlock) (Kd.R_apart' (HO165.out) (Kd.S_typed HO_3.out) (by decide)) (fun k_ hk => ⟨hk.1.2, hk.2⟩))) (fun _ h_ => h_))); (case aB => exact (taaa)); (case aF => exact (fun k_ hk => Kd.fresh' (zca (taay)) k_ hk)); (case aO => exact (tadb)); (case aS => exact (zbl (taaa))); (case aL => have := LMc15.out; omega); intro v167 w23 ho hb hg hat; rw [← Ny166.out] at ho; have n0_ := zad (Kd.R_over' (taay) (Kd.S_typed (taap)) (by decide) hg); have n1_ := zad (hb); have n2_ := zad (ho); clear HO158 HB HO_3 HO165; have HO158 := n0_; have HB := n1_; have HO168 := n2_; clear n0_ n1_ n2_ ho hb hg hat))
                         repeat (go_quiet (first | (go_at_call 69; (with_reducible refine (spec_l1Own.calls _ _ l0 t156 _ ?side1 ?side2 A9.out).mono ?_); (case side1 => repeat (first | exact (Kd.C_below HR0.out HB.out) | (with_reducible refine zal ?_ _) | (with_reducible refine zam ?_ _) | (with_reducible refine zan ?_))); (case side2 => exact HC0.out); rintro e w16 ⟨v157, rfl, ho0, hb⟩; have n0_ := zad (Kd.S_elder' (taap) (zbz ho0) hb); have n1_ := zad (zbu ho0 (zbl (taaa))); have n2_ := zad (zbh (taaa) hb); clear HO_3 HB; have HO_3 := n0_; have HO158 := n1_; have HB := n2_; clear n0_ n1_ n2_; (try clear hb); (try clear hb2); (try clear hk); (try clear hi); (try clear ho0); obtain ⟨Ao17, co17, eo17⟩ := zbv HO158.out; subst eo17; have p159 : 0 ≤ (x9_1 : Int) := zas (taab); have q159 : x9_1 < (t156.length : Int) := zas (taab); obtain ⟨ad159, e159, hx159_0⟩ := zbw (zbg HO158.out).2.2 x9_1 p159 q159; cases e159; replace p159 := eq_true p159; replace q159 := eq_true q159; have p11 : 0 ≤ (x9_1 : Int) := zas (taab); have q11 : (x9_1 : Int) < ((t156.length : Int) : Int) := zas (taab); obtain ⟨go11, co11, eo11, gb11, gl11, cl11, HG11⟩ := Kd.R_form HO158.out (by omega); (first | cases eo11 | (injection eo11 with ea_ en_ ec_; (first | subst ea_ | (injection ea_ with ea_; subst ea_)); subst ec_; clear en_)); have GB11 := zad gb11; have GG11 := zad HG11; clear gb11 gl11 HG11; (first | simp only [add_plain] at hx159_0 | skip); obtain ⟨hx11_0, hf11_0⟩ := Kd.R_celln 0 HO158.out (x9_1 : Int) p11 q11; replace p11 := eq_true p11; replace q11 := eq_true q11; obtain ⟨hy18_, hz18_⟩ := Kd.R_celln 0 HO158.out (x9_1 : Int) (zas (taab)) (zas (taab)); have HP18 := Kd.R_putg HO158.out (x9_1 : Int) (wrap64 ((rd t156 x9_1) - 1))) | ((with_reducible refine gate_store (t := 3) (p := 34) rfl ?_); (try (rw [drewN_self w16]; generalize hq_ : World.drewN w16 _ = w16; have n0_ := zad (Kd.S_at hq_ HO_3.out); have n1_ := zad (Kd.R_at hq_ HO158.out); have n2_ := zad (below_at hq_ HB.out); clear hq_ HO_3 HO158 HB; have HO_3 := n0_; have HO158 := n1_; have HB := n2_; clear n0_ n1_ n2_; (try (obtain ⟨hy18_, hz18_⟩ := Kd.R_celln 0 HO158.out (x9_1 : Int) (zas (taab)) (zas (taab)))); (try (have HP18 := Kd.R_putg HO158.out (x9_1 : Int) (wrap64 ((rd t156 x9_1) - 1)))))); refine store_event (t := 3) (p := 34) (v := ?vo_w19) (w1 := (w16.setCell ⟨go11, (x9_1 : Int).toNat, none⟩ (.int .i64 (wrap64 ((rd t156 x9_1) - 1))))) ?hg ?ho ?hn ?hr ?_; (case ho => rfl); (case hg => rfl); (case hn => rfl); (case hr => first | (go_simp; done) | (go_simp; rfl)); intro w19 hw; have hg : w16.grownBy w19 (some go11) := (by rw [hw]; exact HP18.2); have hp_ : Kd.R (Kd.int .i64) 3 w19 w.heap.size (fun _ => True) (.slice (some ⟨go11, 0, none⟩) t156.length co17) y160 := (tacy); clear HP18; have n0_ := zad (Kd.S_after (v := (.slice (some ⟨go11, 0, none⟩) t156.length co17)) (v1 := (.slice (some ⟨go11, 0, none⟩) t156.length co17)) (ok := (fun _ => True)) (taap) hg (.inl rfl)); have n1_ := zad (hp_); have n2_ := zad ((by rw [hw]; exact zah (HB.out) GB11.out : Below w.heap.size w w19)); clear HO_3 HO158 HB; have HO_3 := n0_; have HO158 := n1_; have HB := n2_; clear n0_ n1_ n2_ hg hw hp_; have p161 : 0 ≤ (x14_2 : Int) := zas (taab); have q161 : x14_2 < (y160.length : Int) := (by have h_ : (x14_2 : Int) < ((t156.length : Int) : Int) := zas (taab); first | (have e_ := (zbg HO158.out).1; omega) | simpa only [Ny160.out, List.length_set] using h_); have ql161 : ((x14_2 : Int) < ((t156.length : Int) : Int)) = True := eq_true (zas (taab)); obtain ⟨ad161, e161, hx161_0⟩ := zbw (zbg HO158.out).2.2 x14_2 p161 q161; obtain rfl : (⟨go11, 0, none⟩ : Addr) = ad161 := (by injection e161); (first | simp only [add_plain] at hx161_0 | simp only [add_at] at hx161_0 | simp only [Addr.add, Nat.zero_add] at hx161_0 | skip); replace p161 := eq_true p161; replace q161 := eq_true q161; have p13 : 0 ≤ (x14_2 : Int) := zas (taab); have q13 : (x14_2 : Int) < ((t156.length : Int) : Int) := zas (taab); obtain ⟨hx13_0, hf13_0⟩ := Kd.R_celln 0 HO158.out (x14_2 : Int) p13 q13; replace p13 := eq_true p13; replace q13 := eq_true q13; obtain ⟨hy20_, hz20_⟩ := Kd.R_celln 0 HO158.out (x14_2 : Int) (zas (taab)) (zas (taab)); have HP20 := Kd.R_putg HO158.out (x14_2 : Int) (wrap64 ((rd y160 x14_2) + 1))) | ((with_reducible refine gate_store (t := 3) (p := 40) rfl ?_); (try (rw [drewN_self w19]; generalize hq_ : World.drewN w19 _ = w19; have n0_ := zad (Kd.S_at hq_ HO_3.out); have n1_ := zad (Kd.R_at hq_ HO158.out); have n2_ := zad (below_at hq_ HB.out); clear hq_ HO_3 HO158 HB; have HO_3 := n0_; have HO158 := n1_; have HB := n2_; clear n0_ n1_ n2_; (try (obtain ⟨hy20_, hz20_⟩ := Kd.R_celln 0 HO158.out (x14_2 : Int) (zas (taab)) (zas (taab)))); (try (have HP20 := Kd.R_putg HO158.out (x14_2 : Int) (wrap64 ((rd y160 x14_2) + 1)))))); refine store_event (t := 3) (p := 40) (v := ?vo_w21) (w1 := (w19.setCell ⟨go11, (x14_2 : Int).toNat, none⟩ (.int .i64 (wrap64 ((rd y160 x14_2) + 1))))) ?hg ?ho ?hn ?hr ?_; (case ho => rfl); (case hg => rfl); (case hn => rfl); (case hr => first | (go_simp; done) | (go_simp; rfl)); intro w21 hw; have hg : w19.grownBy w21 (some go11) := (by rw [hw]; exact HP20.2); have hp_ : Kd.R (Kd.int .i64) 3 w21 w.heap.size (fun _ => True) (.slice (some ⟨go11, 0, none⟩) t156.length co17) y162 := (tacz); clear HP20; have n0_ := zad (Kd.S_after (v := (.slice (some ⟨go11, 0, none⟩) t156.length co17)) (v1 := (.slice (some ⟨go11, 0, none⟩) t156.length co17)) (ok := (fun _ => True)) (taap) hg (.inl rfl)); have n1_ := zad (hp_); have n2_ := zad ((by rw [hw]; exact zah (HB.out) GB11.out : Below w.heap.size w w21)); clear HO_3 HO158 HB; have HO_3 := n0_; have HO158 := n1_; have HB := n2_; clear n0_ n1_ n2_ hg hw hp_) | (go_at_call 34; refine calls_of_args (args' := #[.slice (some ⟨go11, 0, none⟩) y162.length co17]) (tada) ?_; (with_reducible refine (spec_liRank.calls k2 _ _ y162 t163 _ ?side1 ?side2 A14.out).mono ?_); (case side1 => repeat (first | exact (zbg HO158.out).2.2 | (with_reducible refine zal ?_ _) | (with_reducible refine zam ?_ _) | (with_reducible refine zan ?_))); (case side2 => rw [show y162.length = t156.length from (zbg HO158.out).1.symm]; exact (zbg HO158.out).2.1); rintro e w22 ⟨v164, rfl, ho0, hb⟩; have n0_ := zad (Kd.S_elder' (taap) (zbz ho0) hb); have n1_ := zad (zbx (taay) (zbz ho0) hb); have n2_ := zad (zbu (zby ho0 (zca (taay))) (zbl (taaa))); have n3_ := zad (zbh (taaa) hb); clear HO_3 HO158 HB; have HO_3 := n0_; have HO158 := n1_; have HO165 := n2_; have HB := n3_; clear n0_ n1_ n2_ n3_; (try clear hb); (try clear hb2); (try clear hk); (try clear hi); (try clear ho0); obtain ⟨Ao24, co24, eo24⟩ := zbv HO165.out; subst eo24) | ((with_reducible refine gate_builtin (b := .append) (xs := #[.tmp 41, .tmp 44]) rfl ?_); at_builtin; refine Kd.S_append (Kd.slice 3 (Kd.int .i64)) (w0 := w) w.heap.size rfl (.tmp 41) (.tmp 44) 23 22 (.slice none 0 0) 24 rfl Try.underlying23 info22 rfl (by decide) (by omega) u3 x3_2 t163 [.slice Ao24 t163.length co24] (fun k_ => some k_ ≠ (.slice (some ⟨go11, 0, none⟩) t156.length co17 : Value).ownBlock) (fun k_ => some k_ = (.slice Ao24 t163.length co24 : Value).ownBlock) rfl rfl ?aP (fun k_ hk_ => ((zbr (ok' := fun k_ => ((fun k_ => some k_ ≠ (.slice (some ⟨go11, 0, none⟩) t156.length co17 : Value).ownBlock)) k_ ∧ some k_ ≠ (u3 : Value).ownBlock) (Kd.R_apart' (HO165.out) (Kd.S_typed HO_3.out) (by decide)) (fun k_ hk => ⟨hk.1.2, hk.2⟩))).1 k_ hk_.symm) ?aF ?aO ?aB ?aS ?aL ?_; (case aP => exact Kd.M_row (zbr (Kd.R_tight rfl (zbr (ok' := fun k_ => ((fun k_ => some k_ ≠ (.slice (some ⟨go11, 0, none⟩) t156.length co17 : Value).ownBlock)) k_ ∧ some k_ ≠ (u3 : Value).ownBlock) (Kd.R_apart' (HO165.out) (Kd.S_typed HO_3.out) (by decide)) (fun k_ hk => ⟨hk.1.2, hk.2⟩))) (fun _ h_ => h_))); (case aB => exact (taaa)); (case aF => exact (fun k_ hk => Kd.fresh' (zca (taay)) k_ hk)); (case aO => exact (tadb)); (case aS => exact (zbl (taaa))); (case aL => have := LMc15.out; omega); intro v167 w23 ho hb hg hat; rw [← Ny166.out] at ho; have n0_ := zad (Kd.R_over' (taay) (Kd.S_typed (taap)) (by decide) hg); have n1_ := zad (hb); have n2_ := zad (ho); clear HO158 HB HO_3 HO165; have HO158 := n0_; have HB := n1_; have HO168 := n2_; clear n0_ n1_ n2_ ho hb hg hat)); try go_wp2_with (first | (go_at_call 69; (with_reducible refine (spec_l1Own.calls _ _ l0 t156 _ ?side1 ?side2 A9.out).mono ?_); (case side1 => repeat (first | exact (Kd.C_below HR0.out HB.out) | (with_reducible refine zal ?_ _) | (with_reducible refine zam ?_ _) | (with_reducible refine zan ?_))); (case side2 => exact HC0.out); rintro e w16 ⟨v157, rfl, ho0, hb⟩; have n0_ := zad (Kd.S_elder' (taap) (zbz ho0) hb); have n1_ := zad (zbu ho0 (zbl (taaa))); have n2_ := zad (zbh (taaa) hb); clear HO_3 HB; have HO_3 := n0_; have HO158 := n1_; have HB := n2_; clear n0_ n1_ n2_; (try clear hb); (try clear hb2); (try clear hk); (try clear hi); (try clear ho0); obtain ⟨Ao17, co17, eo17⟩ := zbv HO158.out; subst eo17; have p159 : 0 ≤ (x9_1 : Int) := zas (taab); have q159 : x9_1 < (t156.length : Int) := zas (taab); obtain ⟨ad159, e159, hx159_0⟩ := zbw (zbg HO158.out).2.2 x9_1 p159 q159; cases e159; replace p159 := eq_true p159; replace q159 := eq_true q159; have p11 : 0 ≤ (x9_1 : Int) := zas (taab); have q11 : (x9_1 : Int) < ((t156.length : Int) : Int) := zas (taab); obtain ⟨go11, co11, eo11, gb11, gl11, cl11, HG11⟩ := Kd.R_form HO158.out (by omega); (first | cases eo11 | (injection eo11 with ea_ en_ ec_; (first | subst ea_ | (injection ea_ with ea_; subst ea_)); subst ec_; clear en_)); have GB11 := zad gb11; have GG11 := zad HG11; clear gb11 gl11 HG11; (first | simp only [add_plain] at hx159_0 | skip); obtain ⟨hx11_0, hf11_0⟩ := Kd.R_celln 0 HO158.out (x9_1 : Int) p11 q11; replace p11 := eq_true p11; replace q11 := eq_true q11; obtain ⟨hy18_, hz18_⟩ := Kd.R_celln 0 HO158.out (x9_1 : Int) (zas (taab)) (zas (taab)); have HP18 := Kd.R_putg HO158.out (x9_1 : Int) (wrap64 ((rd t156 x9_1) - 1))) | ((with_reducible refine gate_store (t := 3) (p := 34) rfl ?_); (try (rw [drewN_self w16]; generalize hq_ : World.drewN w16 _ = w16; have n0_ := zad (Kd.S_at hq_ HO_3.out); have n1_ := zad (Kd.R_at hq_ HO158.out); have n2_ := zad (below_at hq_ HB.out); clear hq_ HO_3 HO158 HB; have HO_3 := n0_; have HO158 := n1_; have HB := n2_; clear n0_ n1_ n2_; (try (obtain ⟨hy18_, hz18_⟩ := Kd.R_celln 0 HO158.out (x9_1 : Int) (zas (taab)) (zas (taab)))); (try (have HP18 := Kd.R_putg HO158.out (x9_1 : Int) (wrap64 ((rd t156 x9_1) - 1)))))); refine store_event (t := 3) (p := 34) (v := ?vo_w19) (w1 := (w16.setCell ⟨go11, (x9_1 : Int).toNat, none⟩ (.int .i64 (wrap64 ((rd t156 x9_1) - 1))))) ?hg ?ho ?hn ?hr ?_; (case ho => rfl); (case hg => rfl); (case hn => rfl); (case hr => first | (go_simp; done) | (go_simp; rfl)); intro w19 hw; have hg : w16.grownBy w19 (some go11) := (by rw [hw]; exact HP18.2); have hp_ : Kd.R (Kd.int .i64) 3 w19 w.heap.size (fun _ => True) (.slice (some ⟨go11, 0, none⟩) t156.length co17) y160 := (tacy); clear HP18; have n0_ := zad (Kd.S_after (v := (.slice (some ⟨go11, 0, none⟩) t156.length co17)) (v1 := (.slice (some ⟨go11, 0, none⟩) t156.length co17)) (ok := (fun _ => True)) (taap) hg (.inl rfl)); have n1_ := zad (hp_); have n2_ := zad ((by rw [hw]; exact zah (HB.out) GB11.out : Below w.heap.size w w19)); clear HO_3 HO158 HB; have HO_3 := n0_; have HO158 := n1_; have HB := n2_; clear n0_ n1_ n2_ hg hw hp_; have p161 : 0 ≤ (x14_2 : Int) := zas (taab); have q161 : x14_2 < (y160.length : Int) := (by have h_ : (x14_2 : Int) < ((t156.length : Int) : Int) := zas (taab); first | (have e_ := (zbg HO158.out).1; omega) | simpa only [Ny160.out, List.length_set] using h_); have ql161 : ((x14_2 : Int) < ((t156.length : Int) : Int)) = True := eq_true (zas (taab)); obtain ⟨ad161, e161, hx161_0⟩ := zbw (zbg HO158.out).2.2 x14_2 p161 q161; obtain rfl : (⟨go11, 0, none⟩ : Addr) = ad161 := (by injection e161); (first | simp only [add_plain] at hx161_0 | simp only [add_at] at hx161_0 | simp only [Addr.add, Nat.zero_add] at hx161_0 | skip); replace p161 := eq_true p161; replace q161 := eq_true q161; have p13 : 0 ≤ (x14_2 : Int) := zas (taab); have q13 : (x14_2 : Int) < ((t156.length : Int) : Int) := zas (taab); obtain ⟨hx13_0, hf13_0⟩ := Kd.R_celln 0 HO158.out (x14_2 : Int) p13 q13; replace p13 := eq_true p13; replace q13 := eq_true q13; obtain ⟨hy20_, hz20_⟩ := Kd.R_celln 0 HO158.out (x14_2 : Int) (zas (taab)) (zas (taab)); have HP20 := Kd.R_putg HO158.out (x14_2 : Int) (wrap64 ((rd y160 x14_2) + 1))) | ((with_reducible refine gate_store (t := 3) (p := 40) rfl ?_); (try (rw [drewN_self w19]; generalize hq_ : World.drewN w19 _ = w19; have n0_ := zad (Kd.S_at hq_ HO_3.out); have n1_ := zad (Kd.R_at hq_ HO158.out); have n2_ := zad (below_at hq_ HB.out); clear hq_ HO_3 HO158 HB; have HO_3 := n0_; have HO158 := n1_; have HB := n2_; clear n0_ n1_ n2_; (try (obtain ⟨hy20_, hz20_⟩ := Kd.R_celln 0 HO158.out (x14_2 : Int) (zas (taab)) (zas (taab)))); (try (have HP20 := Kd.R_putg HO158.out (x14_2 : Int) (wrap64 ((rd y160 x14_2) + 1)))))); refine store_event (t := 3) (p := 40) (v := ?vo_w21) (w1 := (w19.setCell ⟨go11, (x14_2 : Int).toNat, none⟩ (.int .i64 (wrap64 ((rd y160 x14_2) + 1))))) ?hg ?ho ?hn ?hr ?_; (case ho => rfl); (case hg => rfl); (case hn => rfl); (case hr => first | (go_simp; done) | (go_simp; rfl)); intro w21 hw; have hg : w19.grownBy w21 (some go11) := (by rw [hw]; exact HP20.2); have hp_ : Kd.R (Kd.int .i64) 3 w21 w.heap.size (fun _ => True) (.slice (some ⟨go11, 0, none⟩) t156.length co17) y162 := (tacz); clear HP20; have n0_ := zad (Kd.S_after (v := (.slice (some ⟨go11, 0, none⟩) t156.length co17)) (v1 := (.slice (some ⟨go11, 0, none⟩) t156.length co17)) (ok := (fun _ => True)) (taap) hg (.inl rfl)); have n1_ := zad (hp_); have n2_ := zad ((by rw [hw]; exact zah (HB.out) GB11.out : Below w.heap.size w w21)); clear HO_3 HO158 HB; have HO_3 := n0_; have HO158 := n1_; have HB := n2_; clear n0_ n1_ n2_ hg hw hp_) | (go_at_call 34; refine calls_of_args (args' := #[.slice (some ⟨go11, 0, none⟩) y162.length co17]) (tada) ?_; (with_reducible refine (spec_liRank.calls k2 _ _ y162 t163 _ ?side1 ?side2 A14.out).mono ?_); (case side1 => repeat (first | exact (zbg HO158.out).2.2 | (with_reducible refine zal ?_ _) | (with_reducible refine zam ?_ _) | (with_reducible refine zan ?_))); (case side2 => rw [show y162.length = t156.length from (zbg HO158.out).1.symm]; exact (zbg HO158.out).2.1); rintro e w22 ⟨v164, rfl, ho0, hb⟩; have n0_ := zad (Kd.S_elder' (taap) (zbz ho0) hb); have n1_ := zad (zbx (taay) (zbz ho0) hb); have n2_ := zad (zbu (zby ho0 (zca (taay))) (zbl (taaa))); have n3_ := zad (zbh (taaa) hb); clear HO_3 HO158 HB; have HO_3 := n0_; have HO158 := n1_; have HO165 := n2_; have HB := n3_; clear n0_ n1_ n2_ n3_; (try clear hb); (try clear hb2); (try clear hk); (try clear hi); (try clear ho0); obtain ⟨Ao24, co24, eo24⟩ := zbv HO165.out; subst eo24) | ((with_reducible refine gate_builtin (b := .append) (xs := #[.tmp 41, .tmp 44]) rfl ?_); at_builtin; refine Kd.S_append (Kd.slice 3 (Kd.int .i64)) (w0 := w) w.heap.size rfl (.tmp 41) (.tmp 44) 23 22 (.slice none 0 0) 24 rfl Try.underlying23 info22 rfl (by decide) (by omega) u3 x3_2 t163 [.slice Ao24 t163.length co24] (fun k_ => some k_ ≠ (.slice (some ⟨go11, 0, none⟩) t156.length co17 : Value).ownBlock) (fun k_ => some k_ = (.slice Ao24 t163.length co24 : Value).ownBlock) rfl rfl ?aP (fun k_ hk_ => ((zbr (ok' := fun k_ => ((fun k_ => some k_ ≠ (.slice (some ⟨go11, 0, none⟩) t156.length co17 : Value).ownBlock)) k_ ∧ some k_ ≠ (u3 : Value).ownBlock) (Kd.R_apart' (HO165.out) (Kd.S_typed HO_3.out) (by decide)) (fun k_ hk => ⟨hk.1.2, hk.2⟩))).1 k_ hk_.symm) ?aF ?aO ?aB ?aS ?aL ?_; (case aP => exact Kd.M_row (zbr (Kd.R_tight rfl (zbr (ok' := fun k_ => ((fun k_ => some k_ ≠ (.slice (some ⟨go11, 0, none⟩) t156.length co17 : Value).ownBlock)) k_ ∧ some k_ ≠ (u3 : Value).ownBlock) (Kd.R_apart' (HO165.out) (Kd.S_typed HO_3.out) (by decide)) (fun k_ hk => ⟨hk.1.2, hk.2⟩))) (fun _ h_ => h_))); (case aB => exact (taaa)); (case aF => exact (fun k_ hk => Kd.fresh' (zca (taay)) k_ hk)); (case aO => exact (tadb)); (case aS => exact (zbl (taaa))); (case aL => have := LMc15.out; omega); intro v167 w23 ho hb hg hat; rw [← Ny166.out] at ho; have n0_ := zad (Kd.R_over' (taay) (Kd.S_typed (taap)) (by decide) hg); have n1_ := zad (hb); have n2_ := zad (ho); clear HO158 HB HO_3 HO165; have HO158 := n0_; have HB := n1_; have HO168 := n2_; clear n0_ n1_ n2_ ho hb hg hat)))
                         go_roundg k2
                         case measure => have := HK1.out; have := HK2.out; omega
                         case rel => exact ⟨(y166), (wrap64 (x14_2 + 1)), (taad), H', ⟨tabp⟩, ⟨by (with_reducible repeat (first | apply Kd.S_alloc | apply Kd.S_drewN | apply Kd.S_drew)); exact Kd.S_mono HO168.out (fun _ hk => trivial)⟩, ⟨taaa⟩⟩
                       · rw [if_neg c15] at H
                         exact absurd H (taac)
                     · rw [if_neg c12] at H
                       exact absurd H (taac)
                   · rw [if_neg c10] at H
                     exact absurd H (taac)
                 · rw [if_neg c8] at H
                   have c8b0 : decide ((wrap64 ((rd l0 x14_2) + 2)) ≤ (rd l0 x9_1)) = false := zbk c8
                   clear c8; have H' := zad H
                   clear H; have p154 : 0 ≤ (x9_1 : Int) := zas (taab)
                   have q154 : x9_1 < (l0.length : Int) := zas (taab)
                   obtain ⟨ad154, e154, hx154_0⟩ := zbw HR0.out x9_1 p154 q154
                   cases e154
                   replace hx154_0 := (HB.out.cell (zaz w _ hx154_0)).trans hx154_0
                   replace p154 := eq_true p154
                   replace q154 := eq_true q154
                   have p155 : 0 ≤ (x14_2 : Int) := zas (taab)
                   have q155 : x14_2 < (l0.length : Int) := zas (taab)
                   obtain ⟨ad155, e155, hx155_0⟩ := zbw HR0.out x14_2 p155 q155
                   obtain rfl : ad154 = ad155 := (by injection e155)
                   replace hx155_0 := (HB.out.cell (zaz w _ hx155_0)).trans hx155_0
                   replace p155 := eq_true p155
                   replace q155 := eq_true q155
                   go_wp2
                   repeat (go_quiet (fail); try go_wp2)
                   go_roundg k2
                   case measure => have := HK1.out; have := HK2.out; omega
                   case rel => exact ⟨(x3_2), (wrap64 (x14_2 + 1)), (taad), H', ⟨tabp⟩, ⟨taap⟩, ⟨taaa⟩⟩
               · rw [if_neg c7] at H
                 exact absurd H (taac)
             · rw [if_neg c6] at H
               exact absurd H (taac)
           · rw [if_neg c5] at H
             exact absurd H (taac)
         · rw [if_neg c4] at H
           exact absurd H (taac)
       · rw [if_neg c3] at H
         have c3b0 : decide (x14_2 < (l0.length : Int)) = false := zbk c3
         clear c3; have H' := zad H
         clear H; go_wp2
         repeat (go_quiet (fail); try go_wp2)
         go_roundg k2
         case measure => have := HK1.out; have := HK2.out; omega
         case rel => exact ⟨(x3_2), (wrap64 (x9_1 + 1)), (taad), H', ⟨tabp⟩, ⟨taap⟩, ⟨taaa⟩⟩
   · rw [if_neg c2] at H
     have c2b0 : decide (x9_1 < (l0.length : Int)) = false := zbk c2
     clear c2; obtain rfl := zbf H
     go_wp2
     repeat (go_quiet (fail); try go_wp2)
     go_ret
     exact ⟨_, taaf, taap, taaa⟩
def spec_l1Same.l0 : Nat → List Int → List Int → Int → Int → Option (Bool)
 | 0, _, _, _, _ => none
 | k + 1, x0, x1, x12, x13 => if x13 < x12 then (if 0 ≤ x13 then (if x13 < (x0.length : Int) then (if x13 < (x1.length : Int) then (if (rd x0 x13) = (rd x1 x13) then (spec_l1Same.l0 k x0 x1 x12 (wrap64 (x13 + 1))) else (some false)) else (none)) else (none)) else (none)) else (some true)
def spec_l1Same.f (k : Nat) (l0 : List Int) (l1 : List Int) : Option (Bool) := if (l0.length : Int) = (l1.length : Int) then (spec_l1Same.l0 k l0 l1 (l0.length : Int) 0) else (some false)
theorem spec_l1Same.calls (k : Nat) (A0 : Option Addr) (c0 : Nat) (l0 : List Int) (A1 : Option Addr) (c1 : Nat) (l1 : List Int) (r : Bool) (w : World) (hr0 : Kd.C (Kd.int .i64) w A0 l0.length l0) (hc0 : l0.length ≤ c0) (hr1 : Kd.C (Kd.int .i64) w A1 l1.length l1) (hc1 : l1.length ≤ c1) (h : spec_l1Same.f k l0 l1 = some r) :
 Calls Try.prog 35 #[.slice A0 l0.length c0, .slice A1 l1.length c1] w fun e w' => e = .returned (.bool r) ∧ Drawn0 w w' := by
 have HR0 := zad hr0; have HC0 := zad hc0; clear hr0 hc0; have HR1 := zad hr1; have HC1 := zad hc1; clear hr1 hc1; have H : (if (l0.length : Int) = (l1.length : Int) then (spec_l1Same.l0 k l0 l1 (l0.length : Int) 0) else (some false)) = some r := h
 clear h; by_cases c3 : (l0.length : Int) = (l1.length : Int)
 · rw [if_pos c3] at H
   have c3b0 : ((l0.length : Int) == (l1.length : Int)) = true := beq_iff_eq.mpr c3
   have c3b1 : ((l0.length : Int) != (l1.length : Int)) = false := bne_eq_false_iff_eq.mpr c3
   have c3b2 : (l0.length == l1.length) = true := by first | simpa using c3 | (simp at c3 ⊢; omega)
   clear c3; have H' := zad H
   clear H; go_enter Try.func35, Try.ntmps35
   go_wp2
   repeat (go_quiet (fail); try go_wp2)
   go_loopg [13] k (fun kq v13 w' => ∃ (x13_1 : Int), v13 = .int .i64 x13_1 ∧ Aside0 (spec_l1Same.l0 kq l0 l1 (l0.length : Int) x13_1 = some r) ∧ Aside0 (kq ≤ k) ∧ Drawn0 w w')
   case atStart => exact ⟨(0), (taad), H', ⟨zcb _⟩, taag⟩
   case round =>
    clear H'
    try clear c1
    try clear p2
    try clear c3
    try clear c3b0
    try clear c3b1
    try clear c3b2
    obtain ⟨x13_1, rfl, HA, HK1, ⟨m1, rfl⟩⟩ := hrel
    cases gk with
    | zero => exact absurd HA.out (by simp [spec_l1Same.l0])
    | succ k1 =>
     have H := HA.out
     clear HA; simp only [spec_l1Same.l0] at H
     by_cases c4 : x13_1 < (l0.length : Int)
     · rw [if_pos c4] at H
       have c4b0 : decide (x13_1 < (l0.length : Int)) = true := zba c4
       clear c4; by_cases c5 : 0 ≤ x13_1
       · rw [if_pos c5] at H
         have c5b0 : decide (0 ≤ x13_1) = true := zba c5
         clear c5; by_cases c6 : x13_1 < (l0.length : Int)
         · rw [if_pos c6] at H
           have c6b0 : decide (x13_1 < (l0.length : Int)) = true := zba c6
           clear c6; by_cases c7 : x13_1 < (l1.length : Int)
           · rw [if_pos c7] at H
             have c7b0 : decide (x13_1 < (l1.length : Int)) = true := zba c7
             clear c7; by_cases c8 : (rd l0 x13_1) = (rd l1 x13_1)
             · rw [if_pos c8] at H
               have c8b0 : ((rd l0 x13_1) == (rd l1 x13_1)) = true := beq_iff_eq.mpr c8
               have c8b1 : ((rd l0 x13_1) != (rd l1 x13_1)) = false := bne_eq_false_iff_eq.mpr c8
               clear c8; have H' := zad H
               clear H; have p169 : 0 ≤ (x13_1 : Int) := zas (taab)
               have q169 : x13_1 < (l0.length : Int) := zas (taab)
               obtain ⟨ad169, e169, hx169_0⟩ := zbw HR0.out x13_1 p169 q169
               cases e169
               replace p169 := eq_true p169
               replace q169 := eq_true q169
               have p170 : 0 ≤ (x13_1 : Int) := zas (taab)
               have q170 : x13_1 < (l1.length : Int) := zas (taab)
               obtain ⟨ad170, e170, hx170_0⟩ := zbw HR1.out x13_1 p170 q170
               cases e170
               replace p170 := eq_true p170
               replace q170 := eq_true q170
               go_wp2
               repeat (go_quiet (fail); try go_wp2)
               go_roundg k1
               case measure => have := HK1.out; omega
               case rel => exact ⟨(wrap64 (x13_1 + 1)), (taad), H', ⟨taat⟩, taag⟩
             · rw [if_neg c8] at H
               have c8b0 : ((rd l0 x13_1) == (rd l1 x13_1)) = false := zbp.mpr c8
               have c8b1 : ((rd l0 x13_1) != (rd l1 x13_1)) = true := bne_iff_ne.mpr c8
               obtain rfl := zbf H
               have p169 : 0 ≤ (x13_1 : Int) := zas (taab)
               have q169 : x13_1 < (l0.length : Int) := zas (taab)
               obtain ⟨ad169, e169, hx169_0⟩ := zbw HR0.out x13_1 p169 q169
               cases e169
               replace p169 := eq_true p169
               replace q169 := eq_true q169
               have p170 : 0 ≤ (x13_1 : Int) := zas (taab)
               have q170 : x13_1 < (l1.length : Int) := zas (taab)
               obtain ⟨ad170, e170, hx170_0⟩ := zbw HR1.out x13_1 p170 q170
               cases e170
               replace p170 := eq_true p170
               replace q170 := eq_true q170
               go_wp2
               repeat (go_quiet (fail); try go_wp2)
               go_ret
               exact ⟨taad, taag⟩
           · rw [if_neg c7] at H
             exact absurd H (taac)
         · rw [if_neg c6] at H
           exact absurd H (taac)
       · rw [if_neg c5] at H
         exact absurd H (taac)
     · rw [if_neg c4] at H
       have c4b0 : decide (x13_1 < (l0.length : Int)) = false := zbk c4
       clear c4; obtain rfl := zbf H
       go_wp2
       repeat (go_quiet (fail); try go_wp2)
       go_ret
       exact ⟨taad, taag⟩
 · rw [if_neg c3] at H
   have c3b0 : ((l0.length : Int) == (l1.length : Int)) = false := zbp.mpr c3
   have c3b1 : ((l0.length : Int) != (l1.length : Int)) = true := bne_iff_ne.mpr c3
   have c3b2 : (l0.length == l1.length) = false := by first | simpa using c3 | (simp at c3 ⊢; omega)
   obtain rfl := zbf H
   go_enter Try.func35, Try.ntmps35
   go_wp2
   repeat (go_quiet (fail); try go_wp2)
   go_ret
   exact ⟨taad, taag⟩
def spec_liFit.f (k : Nat) (l0 : List Int) (l1 : List Int) : Option (Bool) := if (l0.length : Int) = (l1.length : Int) then ((spec_liSum.f k l0).bind fun t171 => ((spec_liSum.f k l1).bind fun t172 => (some (t171 == t172)))) else (some false)
theorem spec_liFit.calls (k : Nat) (A0 : Option Addr) (c0 : Nat) (l0 : List Int) (A1 : Option Addr) (c1 : Nat) (l1 : List Int) (r : Bool) (w : World) (hr0 : Kd.C (Kd.int .i64) w A0 l0.length l0) (hc0 : l0.length ≤ c0) (hr1 : Kd.C (Kd.int .i64) w A1 l1.length l1) (hc1 : l1.length ≤ c1) (h : spec_liFit.f k l0 l1 = some r) :
 Calls Try.prog 54 #[.slice A0 l0.length c0, .slice A1 l1.length c1] w fun e w' => e = .returned (.bool r) ∧ Drawn0 w w' := by
 have HR0 := zad hr0; have HC0 := zad hc0; clear hr0 hc0; have HR1 := zad hr1; have HC1 := zad hc1; clear hr1 hc1; have H : (if (l0.length : Int) = (l1.length : Int) then ((spec_liSum.f k l0).bind fun t171 => ((spec_liSum.f k l1).bind fun t172 => (some (t171 == t172)))) else (some false)) = some r := h
 clear h; by_cases c3 : (l0.length : Int) = (l1.length : Int)
 · rw [if_pos c3] at H
   have c3b0 : ((l0.length : Int) == (l1.length : Int)) = true := beq_iff_eq.mpr c3
   have c3b1 : ((l0.length : Int) != (l1.length : Int)) = false := bne_eq_false_iff_eq.mpr c3
   have c3b2 : (l0.length == l1.length) = true := by first | simpa using c3 | (simp at c3 ⊢; omega)
   clear c3; replace H := zay.mp H; obtain ⟨t171, A40, H⟩ := H
   replace H : ((spec_liSum.f k l1).bind fun t172 => (some (t171 == t172))) = some r := H
   have A4 := zad A40; clear A40; replace H := zay.mp H; obtain ⟨t172, A50, H⟩ := H
   replace H : (some (t171 == t172)) = some r := H
   have A5 := zad A50; clear A50; obtain rfl := zbf H
   go_enter Try.func54, Try.ntmps54
   go_wp2_with (first | (go_at_call 32; (with_reducible refine (spec_liSum.calls k _ _ l0 t171 _ ?side1 ?side2 A4.out).mono ?_); (case side1 => repeat (first | exact HR0.out | (with_reducible refine zal ?_ _) | (with_reducible refine zam ?_ _) | (with_reducible refine zan ?_))); (case side2 => exact HC0.out); rintro e w' ⟨rfl, ⟨nd, rfl⟩⟩) | (go_at_call 32; (with_reducible refine (spec_liSum.calls k _ _ l1 t172 _ ?side1 ?side2 A5.out).mono ?_); (case side1 => repeat (first | exact HR1.out | (with_reducible refine zal ?_ _) | (with_reducible refine zam ?_ _) | (with_reducible refine zan ?_))); (case side2 => exact HC1.out); rintro e w' ⟨rfl, ⟨nd, rfl⟩⟩))
   go_ret
   exact ⟨taad, taag⟩
 · rw [if_neg c3] at H
   have c3b0 : ((l0.length : Int) == (l1.length : Int)) = false := zbp.mpr c3
   have c3b1 : ((l0.length : Int) != (l1.length : Int)) = true := bne_iff_ne.mpr c3
   have c3b2 : (l0.length == l1.length) = false := by first | simpa using c3 | (simp at c3 ⊢; omega)
   obtain rfl := zbf H
   go_enter Try.func54, Try.ntmps54
   go_wp2
   go_ret
   exact ⟨taad, taag⟩
def spec_liSums.l0 : Nat → List Int → Int → List Int → Int → Int → Option (List Int)
 | 0, _, _, _, _, _ => none
 | k + 1, x3, x4, x7, x8, x9 => if x9 < x8 then (if 0 ≤ x9 then (if x9 < (x7.length : Int) then (if x3.length < 17592186044416 then (spec_liSums.l0 k (x3 ++ [wrap64 (x4 + (rd x7 x9))]) (wrap64 (x4 + (rd x7 x9))) x7 x8 (wrap64 (x9 + 1))) else (none)) else (none)) else (none)) else (some x3)
def spec_liSums.f (k : Nat) (l0 : List Int) : Option (List Int) := spec_liSums.l0 k ([] : List Int) 0 l0 (l0.length : Int) 0
theorem spec_liSums.calls (k : Nat) (A0 : Option Addr) (c0 : Nat) (l0 : List Int) (r : List Int) (w : World) (hr0 : Kd.C (Kd.int .i64) w A0 l0.length l0) (hc0 : l0.length ≤ c0) (h : spec_liSums.f k l0 = some r) :
 Calls Try.prog 79 #[.slice A0 l0.length c0] w fun e w' => ∃ v0_ : Value, e = .returned (v0_) ∧ Kd.R (Kd.int .i64) 3 w' w.heap.size (fun _ => True) v0_ r ∧ Below w.heap.size w w' := by
 have HR0 := zad hr0; have HC0 := zad hc0; clear hr0 hc0; have HB := zad (Below.refl w.heap.size w)
 have H : (spec_liSums.l0 k ([] : List Int) 0 l0 (l0.length : Int) 0) = some r := h
 clear h; have H' := zad H
 clear H; go_enter Try.func79, Try.ntmps79
 go_wp2
 go_loopg [3, 4, 9] k (fun kq v3 v4 v9 w' => ∃ (x3_1 : List Int) (x4_1 : Int) (x9_1 : Int), v4 = .int .i64 x4_1 ∧ v9 = .int .i64 x9_1 ∧ Aside0 (spec_liSums.l0 kq x3_1 x4_1 l0 (l0.length : Int) x9_1 = some r) ∧ Aside0 (kq ≤ k) ∧ Aside0 (Kd.R (Kd.int .i64) 3 w' w.heap.size (fun _ => True) v3 x3_1) ∧ Aside0 (Below w.heap.size w w'))
 case atStart => exact ⟨(([] : List Int)), (0), (0), (taad), (taad), H', ⟨zcb _⟩, ⟨tabu⟩, ⟨taaa⟩⟩
 case round =>
  clear H'
  obtain ⟨x3_1, x4_1, x9_1, rfl, rfl, HA, HK1, HO_3, HB⟩ := hrel
  cases gk with
  | zero => exact absurd HA.out (by simp [spec_liSums.l0])
  | succ k1 =>
   have H := HA.out
   clear HA; simp only [spec_liSums.l0] at H
   by_cases c2 : x9_1 < (l0.length : Int)
   · rw [if_pos c2] at H
     have c2b0 : decide (x9_1 < (l0.length : Int)) = true := zba c2
     clear c2; by_cases c3 : 0 ≤ x9_1
     · rw [if_pos c3] at H
       have c3b0 : decide (0 ≤ x9_1) = true := zba c3
       clear c3; by_cases c4 : x9_1 < (l0.length : Int)
       · rw [if_pos c4] at H
         have c4b0 : decide (x9_1 < (l0.length : Int)) = true := zba c4
         clear c4; by_cases c5 : x3_1.length < 17592186044416
         · rw [if_pos c5] at H
           have LMc5 := zad c5; clear c5; obtain ⟨y174, hy174⟩ : ∃ y_ : List Int, y_ = (x3_1 ++ [wrap64 (x4_1 + (rd l0 x9_1))]) := ⟨_, rfl⟩
           replace H : (spec_liSums.l0 k1 y174 (wrap64 (x4_1 + (rd l0 x9_1))) l0 (l0.length : Int) (wrap64 (x9_1 + 1))) = some r := by first | (rw [hy174]; with_reducible exact H) | (have H2_ := (zbe _ _).symm.trans H; rw [hy174]; with_reducible exact H2_) | (have H2_ := (zbe _ _).symm.trans H; with_reducible exact H2_) | with_reducible exact H | (rw [hy174]; exact H) | exact H
           have Ny174 := zad hy174; clear hy174; have H' := zad H
           clear H; have p173 : 0 ≤ (x9_1 : Int) := zas (taab)
           have q173 : x9_1 < (l0.length : Int) := zas (taab)
           obtain ⟨ad173, e173, hx173_0⟩ := zbw HR0.out x9_1 p173 q173
           cases e173
           replace hx173_0 := (HB.out.cell (zaz w _ hx173_0)).trans hx173_0
           replace p173 := eq_true p173
           replace q173 := eq_true q173
           go_wp2_with (first | ((with_reducible refine gate_builtin (b := .append) (xs := #[.tmp 16, .tmp 18]) rfl ?_); at_builtin; refine Kd.R_append (Kd.int .i64) (w0 := w) w.heap.size rfl (.tmp 16) (.tmp 18) 22 3 (.int .i64 0) 8 rfl Try.underlying22 info3 rfl (by decide) (by omega) u3 x3_1 (wrap64 (x4_1 + (rd l0 x9_1))) [.int .i64 (wrap64 (x4_1 + (rd l0 x9_1)))] (fun _ => True) (fun _ => False) rfl rfl ?aP (fun _ hk => hk.elim) ?aF ?aO ?aB ?aS ?aL ?_; (case aP => exact rfl); (case aB => exact (taaa)); (case aF => exact (fun _ _ => trivial)); (case aO => exact (taak)); (case aS => exact (zbl (taaa))); (case aL => have := LMc5.out; omega); intro v175 w6 ho hb hg hat; rw [← Ny174.out] at ho; have n0_ := zad (hb); have n1_ := zad (ho); clear HB HO_3; have HB := n0_; have HO176 := n1_; clear n0_ n1_ ho hb hg hat))
           go_roundg k1
           case measure => have := HK1.out; omega
           case rel => exact ⟨(y174), (wrap64 (x4_1 + (rd l0 x9_1))), (wrap64 (x9_1 + 1)), (taad), (taad), H', ⟨taat⟩, ⟨by (with_reducible repeat (first | apply zai | apply zaj | apply zak)); exact HO176.out⟩, ⟨taaa⟩⟩
         · rw [if_neg c5] at H
           exact absurd H (taac)
       · rw [if_neg c4] at H
         exact absurd H (taac)
     · rw [if_neg c3] at H
       exact absurd H (taac)
   · rw [if_neg c2] at H
     have c2b0 : decide (x9_1 < (l0.length : Int)) = false := zbk c2
     clear c2; obtain rfl := zbf H
     go_wp2
     go_ret
     exact ⟨_, taaf, taak, taaa⟩
def spec_liPartial.f (k : Nat) (l0 : List Int) : Option (List Int) := (spec_liRank.f k l0).bind fun t177 => ((spec_liSums.f k t177).bind fun t180 => (some t180))
theorem spec_liPartial.calls (k : Nat) (A0 : Option Addr) (c0 : Nat) (l0 : List Int) (r : List Int) (w : World) (hr0 : Kd.C (Kd.int .i64) w A0 l0.length l0) (hc0 : l0.length ≤ c0) (h : spec_liPartial.f k l0 = some r) :
 Calls Try.prog 57 #[.slice A0 l0.length c0] w fun e w' => ∃ v0_ : Value, e = .returned (v0_) ∧ Kd.R (Kd.int .i64) 3 w' w.heap.size (fun _ => True) v0_ r ∧ Below w.heap.size w w' := by
 have HR0 := zad hr0; have HC0 := zad hc0; clear hr0 hc0; have HB := zad (Below.refl w.heap.size w)
 have H : ((spec_liRank.f k l0).bind fun t177 => ((spec_liSums.f k t177).bind fun t180 => (some t180))) = some r := h
 clear h; replace H := zay.mp H; obtain ⟨t177, A20, H⟩ := H
 replace H : ((spec_liSums.f k t177).bind fun t180 => (some t180)) = some r := H
 have A2 := zad A20; clear A20; replace H := zay.mp H; obtain ⟨t180, A30, H⟩ := H
 replace H : (some t180) = some r := H
 have A3 := zad A30; clear A30; obtain rfl := zbf H
 go_enter Try.func57, Try.ntmps57
 go_wp2_with (first | ((with_reducible refine zbi (f := 34) rfl ?_); refine zbo (some 4) rfl rfl Try.func34 (by kernel_rfl) rfl #[.slice A0 l0.length c0] rfl (taae) ?_; (with_reducible refine (spec_liRank.calls k _ _ l0 t177 _ ?side1 ?side2 A2.out).mono ?_); (case side1 => repeat (first | exact HR0.out | (with_reducible refine zal ?_ _) | (with_reducible refine zam ?_ _) | (with_reducible refine zan ?_))); (case side2 => exact HC0.out); rintro e w4 ⟨v178, rfl, ho0, hb⟩; refine ⟨_, rfl, ?_⟩; have n0_ := zad (zbu ho0 (zbl (taaa))); have n1_ := zad (zbh (taaa) hb); clear HB; have HO179 := n0_; have HB := n1_; clear n0_ n1_; (try clear hb); (try clear hb2); (try clear hk); (try clear hi); (try clear ho0); obtain ⟨Ao5, co5, eo5⟩ := zbv HO179.out; subst eo5) | ((with_reducible refine zbi (f := 79) rfl ?_); refine zbo (some 5) rfl rfl Try.func79 (by kernel_rfl) rfl #[.slice Ao5 t177.length co5] rfl (taae) ?_; (with_reducible refine (spec_liSums.calls k _ _ t177 t180 _ ?side1 ?side2 A3.out).mono ?_); (case side1 => repeat (first | exact (zbg HO179.out).2.2 | (with_reducible refine zal ?_ _) | (with_reducible refine zam ?_ _) | (with_reducible refine zan ?_))); (case side2 => exact (zbg HO179.out).2.1); rintro e w6 ⟨v181, rfl, ho0, hb⟩; refine ⟨_, rfl, ?_⟩; have n0_ := zad (zbx (taee) (zbz ho0) hb); have n1_ := zad (zbu (zby ho0 (zca (taee))) (zbl (taaa))); have n2_ := zad (zbh (taaa) hb); clear HO179 HB; have HO179 := n0_; have HO182 := n1_; have HB := n2_; clear n0_ n1_ n2_; (try clear hb); (try clear hb2); (try clear hk); (try clear hi); (try clear ho0)))
 go_ret
 exact ⟨_, taaf, by (with_reducible repeat (first | apply zai | apply zaj | apply zak)); exact zbr HO182.out (fun _ hk => trivial), taaa⟩
def spec_liOver.l0 : Nat → List Int → List Int → Int → Int → Option (Int)
 | 0, _, _, _, _ => none
 | k + 1, x5, x6, x13, x14 => if x14 < x13 then (if 0 ≤ x14 then (if x14 < (x5.length : Int) then (if x14 < (x6.length : Int) then (if (rd x5 x14) > (rd x6 x14) then (some (wrap64 (x14 + 1))) else (spec_liOver.l0 k x5 x6 x13 (wrap64 (x14 + 1)))) else (none)) else (none)) else (none)) else (some 0)
def spec_liOver.f (k : Nat) (l0 : List Int) (l1 : List Int) : Option (Int) := (spec_liPartial.f k l0).bind fun t183 => ((spec_liPartial.f k l1).bind fun t186 => (spec_liOver.l0 k t183 t186 (t183.length : Int) 0))
theorem spec_liOver.calls (k : Nat) (A0 : Option Addr) (c0 : Nat) (l0 : List Int) (A1 : Option Addr) (c1 : Nat) (l1 : List Int) (r : Int) (w : World) (hr0 : Kd.C (Kd.int .i64) w A0 l0.length l0) (hc0 : l0.length ≤ c0) (hr1 : Kd.C (Kd.int .i64) w A1 l1.length l1) (hc1 : l1.length ≤ c1) (h : spec_liOver.f k l0 l1 = some r) :
 Calls Try.prog 70 #[.slice A0 l0.length c0, .slice A1 l1.length c1] w fun e w' => e = .returned (.int .i64 r) ∧ Below w.heap.size w w' := by
 have HR0 := zad hr0; have HC0 := zad hc0; clear hr0 hc0; have HR1 := zad hr1; have HC1 := zad hc1; clear hr1 hc1; have HB := zad (Below.refl w.heap.size w)
 have H : ((spec_liPartial.f k l0).bind fun t183 => ((spec_liPartial.f k l1).bind fun t186 => (spec_liOver.l0 k t183 t186 (t183.length : Int) 0))) = some r := h
 clear h; replace H := zay.mp H; obtain ⟨t183, A30, H⟩ := H
 replace H : ((spec_liPartial.f k l1).bind fun t186 => (spec_liOver.l0 k t183 t186 (t183.length : Int) 0)) = some r := H
 have A3 := zad A30; clear A30; replace H := zay.mp H; obtain ⟨t186, A40, H⟩ := H
 replace H : (spec_liOver.l0 k t183 t186 (t183.length : Int) 0) = some r := H
 have A4 := zad A40; clear A40; have H' := zad H
 clear H; go_enter Try.func70, Try.ntmps70
 go_wp2_with (first | (go_at_call 57; (with_reducible refine (spec_liPartial.calls k _ _ l0 t183 _ ?side1 ?side2 A3.out).mono ?_); (case side1 => repeat (first | exact HR0.out | (with_reducible refine zal ?_ _) | (with_reducible refine zam ?_ _) | (with_reducible refine zan ?_))); (case side2 => exact HC0.out); rintro e w5 ⟨v184, rfl, ho0, hb⟩; have n0_ := zad (zbu ho0 (zbl (taaa))); have n1_ := zad (zbh (taaa) hb); clear HB; have HO185 := n0_; have HB := n1_; clear n0_ n1_; (try clear hb); (try clear hb2); (try clear hk); (try clear hi); (try clear ho0)) | (go_at_call 57; (with_reducible refine (spec_liPartial.calls k _ _ l1 t186 _ ?side1 ?side2 A4.out).mono ?_); (case side1 => repeat (first | exact (Kd.C_below HR1.out HB.out) | (with_reducible refine zal ?_ _) | (with_reducible refine zam ?_ _) | (with_reducible refine zan ?_))); (case side2 => exact HC1.out); rintro e w6 ⟨v187, rfl, ho0, hb⟩; have n0_ := zad (zbx (tabs) (zbz ho0) hb); have n1_ := zad (zbu (zby ho0 (zca (tabs))) (zbl (taaa))); have n2_ := zad (zbh (taaa) hb); clear HO185 HB; have HO185 := n0_; have HO188 := n1_; have HB := n2_; clear n0_ n1_ n2_; (try clear hb); (try clear hb2); (try clear hk); (try clear hi); (try clear ho0); obtain ⟨Ao7, co7, eo7⟩ := zbv HO185.out; subst eo7))
 repeat (go_quiet (first | (go_at_call 57; (with_reducible refine (spec_liPartial.calls k _ _ l0 t183 _ ?side1 ?side2 A3.out).mono ?_); (case side1 => repeat (first | exact HR0.out | (with_reducible refine zal ?_ _) | (with_reducible refine zam ?_ _) | (with_reducible refine zan ?_))); (case side2 => exact HC0.out); rintro e w5 ⟨v184, rfl, ho0, hb⟩; have n0_ := zad (zbu ho0 (zbl (taaa))); have n1_ := zad (zbh (taaa) hb); clear HB; have HO185 := n0_; have HB := n1_; clear n0_ n1_; (try clear hb); (try clear hb2); (try clear hk); (try clear hi); (try clear ho0)) | (go_at_call 57; (with_reducible refine (spec_liPartial.calls k _ _ l1 t186 _ ?side1 ?side2 A4.out).mono ?_); (case side1 => repeat (first | exact (Kd.C_below HR1.out HB.out) | (with_reducible refine zal ?_ _) | (with_reducible refine zam ?_ _) | (with_reducible refine zan ?_))); (case side2 => exact HC1.out); rintro e w6 ⟨v187, rfl, ho0, hb⟩; have n0_ := zad (zbx (tabs) (zbz ho0) hb); have n1_ := zad (zbu (zby ho0 (zca (tabs))) (zbl (taaa))); have n2_ := zad (zbh (taaa) hb); clear HO185 HB; have HO185 := n0_; have HO188 := n1_; have HB := n2_; clear n0_ n1_ n2_; (try clear hb); (try clear hb2); (try clear hk); (try clear hi); (try clear ho0); obtain ⟨Ao7, co7, eo7⟩ := zbv HO185.out; subst eo7)); try go_wp2_with (first | (go_at_call 57; (with_reducible refine (spec_liPartial.calls k _ _ l0 t183 _ ?side1 ?side2 A3.out).mono ?_); (case side1 => repeat (first | exact HR0.out | (with_reducible refine zal ?_ _) | (with_reducible refine zam ?_ _) | (with_reducible refine zan ?_))); (case side2 => exact HC0.out); rintro e w5 ⟨v184, rfl, ho0, hb⟩; have n0_ := zad (zbu ho0 (zbl (taaa))); have n1_ := zad (zbh (taaa) hb); clear HB; have HO185 := n0_; have HB := n1_; clear n0_ n1_; (try clear hb); (try clear hb2); (try clear hk); (try clear hi); (try clear ho0)) | (go_at_call 57; (with_reducible refine (spec_liPartial.calls k _ _ l1 t186 _ ?side1 ?side2 A4.out).mono ?_); (case side1 => repeat (first | exact (Kd.C_below HR1.out HB.out) | (with_reducible refine zal ?_ _) | (with_reducible refine zam ?_ _) | (with_reducible refine zan ?_))); (case side2 => exact HC1.out); rintro e w6 ⟨v187, rfl, ho0, hb⟩; have n0_ := zad (zbx (tabs) (zbz ho0) hb); have n1_ := zad (zbu (zby ho0 (zca (tabs))) (zbl (taaa))); have n2_ := zad (zbh (taaa) hb); clear HO185 HB; have HO185 := n0_; have HO188 := n1_; have HB := n2_; clear n0_ n1_ n2_; (try clear hb); (try clear hb2); (try clear hk); (try clear hi); (try clear ho0); obtain ⟨Ao7, co7, eo7⟩ := zbv HO185.out; subst eo7)))
 go_loopg [14] k (fun kq v14 w' => ∃ (x14_1 : Int), v14 = .int .i64 x14_1 ∧ Aside0 (spec_liOver.l0 kq t183 t186 (t183.length : Int) x14_1 = some r) ∧ Aside0 (kq ≤ k) ∧ Aside0 (Kd.R (Kd.int .i64) 3 w' w.heap.size (fun k_ => some k_ ≠ (v187 : Value).ownBlock) (.slice Ao7 t183.length co7) t183) ∧ Aside0 (Kd.R (Kd.int .i64) 3 w' w.heap.size (fun k_ => some k_ ≠ ((.slice Ao7 t183.length co7) : Value).ownBlock) v187 t186) ∧ Aside0 (Below w.heap.size w w'))
 case atStart => exact ⟨(0), (taad), H', ⟨zcb _⟩, ⟨by (with_reducible repeat (first | apply zai | apply zaj | apply zak)); exact zbr HO185.out (fun _ hk => hk.2)⟩, ⟨by (with_reducible repeat (first | apply zai | apply zaj | apply zak)); exact zbr HO188.out (fun _ hk => hk.2)⟩, ⟨taaa⟩⟩
 case round =>
  clear H'
  try clear c1
  try clear p2
  try clear c7
  obtain ⟨x14_1, rfl, HA, HK1, HO_5, HO_6, HB⟩ := hrel
  cases gk with
  | zero => exact absurd HA.out (by simp [spec_liOver.l0])
  | succ k1 =>
   have H := HA.out
   clear HA; simp only [spec_liOver.l0] at H
   by_cases c8 : x14_1 < (t183.length : Int)
   · rw [if_pos c8] at H
     have c8b0 : decide (x14_1 < (t183.length : Int)) = true := zba c8
     clear c8; by_cases c9 : 0 ≤ x14_1
     · rw [if_pos c9] at H
       have c9b0 : decide (0 ≤ x14_1) = true := zba c9
       clear c9; by_cases c10 : x14_1 < (t183.length : Int)
       · rw [if_pos c10] at H
         have c10b0 : decide (x14_1 < (t183.length : Int)) = true := zba c10
         clear c10; by_cases c11 : x14_1 < (t186.length : Int)
         · rw [if_pos c11] at H
           have c11b0 : decide (x14_1 < (t186.length : Int)) = true := zba c11
           clear c11; by_cases c12 : (rd t183 x14_1) > (rd t186 x14_1)
           · rw [if_pos c12] at H
             have c12b0 : decide ((rd t186 x14_1) < (rd t183 x14_1)) = true := zba c12
             clear c12; obtain rfl := zbf H
             have p189 : 0 ≤ (x14_1 : Int) := zas (taab)
             have q189 : x14_1 < (t183.length : Int) := zas (taab)
             obtain ⟨ad189, e189, hx189_0⟩ := zbw (zbg HO_5.out).2.2 x14_1 p189 q189
             cases e189
             replace p189 := eq_true p189
             replace q189 := eq_true q189
             obtain ⟨Ao13, co13, eo13⟩ := zbv HO_6.out
             subst eo13; have p190 : 0 ≤ (x14_1 : Int) := zas (taab)
             have q190 : x14_1 < (t186.length : Int) := zas (taab)
             obtain ⟨ad190, e190, hx190_0⟩ := zbw (zbg HO_6.out).2.2 x14_1 p190 q190
             cases e190
             replace p190 := eq_true p190
             replace q190 := eq_true q190
             go_wp2
             repeat (go_quiet (fail); try go_wp2)
             go_ret
             exact ⟨taaf, taaa⟩
           · rw [if_neg c12] at H
             have c12b0 : decide ((rd t186 x14_1) < (rd t183 x14_1)) = false := zbk c12
             clear c12; have H' := zad H
             clear H; have p189 : 0 ≤ (x14_1 : Int) := zas (taab)
             have q189 : x14_1 < (t183.length : Int) := zas (taab)
             obtain ⟨ad189, e189, hx189_0⟩ := zbw (zbg HO_5.out).2.2 x14_1 p189 q189
             cases e189
             replace p189 := eq_true p189
             replace q189 := eq_true q189
             obtain ⟨Ao14, co14, eo14⟩ := zbv HO_6.out
             subst eo14; have p190 : 0 ≤ (x14_1 : Int) := zas (taab)
             have q190 : x14_1 < (t186.length : Int) := zas (taab)
             obtain ⟨ad190, e190, hx190_0⟩ := zbw (zbg HO_6.out).2.2 x14_1 p190 q190
             cases e190
             replace p190 := eq_true p190
             replace q190 := eq_true q190
             go_wp2
             repeat (go_quiet (fail); try go_wp2)
             go_roundg k1
             case measure => have := HK1.out; omega
             case rel => exact ⟨(wrap64 (x14_1 + 1)), (taad), H', ⟨taat⟩, ⟨taah⟩, ⟨by (with_reducible repeat (first | apply zai | apply zaj | apply zak)); exact HO_6.out⟩, ⟨taaa⟩⟩
         · rw [if_neg c11] at H
           exact absurd H (taac)
       · rw [if_neg c10] at H
         exact absurd H (taac)
     · rw [if_neg c9] at H
       exact absurd H (taac)
   · rw [if_neg c8] at H
     have c8b0 : decide (x14_1 < (t183.length : Int)) = false := zbk c8
     clear c8; obtain rfl := zbf H
     go_wp2
     repeat (go_quiet (fail); try go_wp2)
     go_ret
     exact ⟨taaf, taaa⟩
def spec_liBelow.f (k : Nat) (l0 : List Int) (l1 : List Int) : Option (Bool) := (spec_liFit.f k l0 l1).bind fun t191 => (if t191 = true then ((spec_liOver.f k l0 l1).bind fun t192 => (some (t192 == 0))) else (some false))
theorem spec_liBelow.calls (k : Nat) (A0 : Option Addr) (c0 : Nat) (l0 : List Int) (A1 : Option Addr) (c1 : Nat) (l1 : List Int) (r : Bool) (w : World) (hr0 : Kd.C (Kd.int .i64) w A0 l0.length l0) (hc0 : l0.length ≤ c0) (hr1 : Kd.C (Kd.int .i64) w A1 l1.length l1) (hc1 : l1.length ≤ c1) (h : spec_liBelow.f k l0 l1 = some r) :
 Calls Try.prog 36 #[.slice A0 l0.length c0, .slice A1 l1.length c1] w fun e w' => e = .returned (.bool r) ∧ Below w.heap.size w w' := by
 have HR0 := zad hr0; have HC0 := zad hc0; clear hr0 hc0; have HR1 := zad hr1; have HC1 := zad hc1; clear hr1 hc1; have HB := zad (Below.refl w.heap.size w)
 have H : ((spec_liFit.f k l0 l1).bind fun t191 => (if t191 = true then ((spec_liOver.f k l0 l1).bind fun t192 => (some (t192 == 0))) else (some false))) = some r := h
 clear h; replace H := zay.mp H; obtain ⟨t191, A30, H⟩ := H
 replace H : (if t191 = true then ((spec_liOver.f k l0 l1).bind fun t192 => (some (t192 == 0))) else (some false)) = some r := H
 have A3 := zad A30; clear A30; by_cases c4 : t191 = true
 · subst c4
   have H1 : ((spec_liOver.f k l0 l1).bind fun t192 => (some (t192 == 0))) = some r := by rw [if_pos rfl] at H; exact H
   clear H; have H := H1; clear H1; replace H := zay.mp H; obtain ⟨t192, A50, H⟩ := H
   replace H : (some (t192 == 0)) = some r := H
   have A5 := zad A50; clear A50; obtain rfl := zbf H
   go_enter Try.func36, Try.ntmps36
   go_wp2_with (first | ((with_reducible refine zbi (f := 54) rfl ?_); refine zbo (some 7) rfl rfl Try.func54 (by kernel_rfl) rfl #[.slice A0 l0.length c0, .slice A1 l1.length c1] rfl (taae) ?_; (with_reducible refine (spec_liFit.calls k _ _ l0 _ _ l1 true _ ?side1 ?side2 ?side3 ?side4 A3.out).mono ?_); (case side1 => repeat (first | exact HR0.out | (with_reducible refine zal ?_ _) | (with_reducible refine zam ?_ _) | (with_reducible refine zan ?_))); (case side2 => exact HC0.out); (case side3 => repeat (first | exact HR1.out | (with_reducible refine zal ?_ _) | (with_reducible refine zam ?_ _) | (with_reducible refine zan ?_))); (case side4 => exact HC1.out); rintro e w' ⟨rfl, ⟨nd, rfl⟩⟩; refine ⟨_, rfl, ?_⟩) | (go_at_call 70; (with_reducible refine (spec_liOver.calls k _ _ l0 _ _ l1 t192 _ ?side1 ?side2 ?side3 ?side4 A5.out).mono ?_); (case side1 => repeat (first | exact HR0.out | (with_reducible refine zal ?_ _) | (with_reducible refine zam ?_ _) | (with_reducible refine zan ?_))); (case side2 => exact HC0.out); (case side3 => repeat (first | exact HR1.out | (with_reducible refine zal ?_ _) | (with_reducible refine zam ?_ _) | (with_reducible refine zan ?_))); (case side4 => exact HC1.out); rintro e w6 ⟨rfl, hb⟩; have n0_ := zad (zbh (taaa) hb); clear HB; have HB := n0_; clear n0_; (try clear hb); (try clear hb2); (try clear hk); (try clear hi)))
   go_ret
   exact ⟨taaf, taaa⟩
 · replace c4 := zbj.mpr c4
   subst c4; have H1 : (some false) = some r := by rw [if_neg (show ¬ (false = true) by decide)] at H; exact H
   clear H; have H := H1; clear H1; obtain rfl := zbf H
   go_enter Try.func36, Try.ntmps36
   go_wp2_with (first | ((with_reducible refine zbi (f := 54) rfl ?_); refine zbo (some 7) rfl rfl Try.func54 (by kernel_rfl) rfl #[.slice A0 l0.length c0, .slice A1 l1.length c1] rfl (taae) ?_; (with_reducible refine (spec_liFit.calls k _ _ l0 _ _ l1 false _ ?side1 ?side2 ?side3 ?side4 A3.out).mono ?_); (case side1 => exact tafn); (case side2 => exact HC0.out); (case side3 => exact tafo); (case side4 => exact HC1.out); rintro e w' ⟨rfl, ⟨nd, rfl⟩⟩; refine ⟨_, rfl, ?_⟩))
   go_ret
   exact ⟨taaf, taaa⟩
def spec_liLess.l0 : Nat → List Int → List Int → Int → Int → Option (Bool)
 | 0, _, _, _, _ => none
 | k + 1, x0, x1, x7, x8 => if x8 < x7 then (if 0 ≤ x8 then (if x8 < (x0.length : Int) then (if x8 < (x1.length : Int) then (if (rd x0 x8) = (rd x1 x8) then (spec_liLess.l0 k x0 x1 x7 (wrap64 (x8 + 1))) else (some (decide ((rd x0 x8) > (rd x1 x8))))) else (none)) else (none)) else (none)) else (some false)
def spec_liLess.f (k : Nat) (l0 : List Int) (l1 : List Int) : Option (Bool) := spec_liLess.l0 k l0 l1 (l0.length : Int) 0
theorem spec_liLess.calls (k : Nat) (A0 : Option Addr) (c0 : Nat) (l0 : List Int) (A1 : Option Addr) (c1 : Nat) (l1 : List Int) (r : Bool) (w : World) (hr0 : Kd.C (Kd.int .i64) w A0 l0.length l0) (hc0 : l0.length ≤ c0) (hr1 : Kd.C (Kd.int .i64) w A1 l1.length l1) (hc1 : l1.length ≤ c1) (h : spec_liLess.f k l0 l1 = some r) :
 Calls Try.prog 71 #[.slice A0 l0.length c0, .slice A1 l1.length c1] w fun e w' => e = .returned (.bool r) ∧ Drawn0 w w' := by
 have HR0 := zad hr0; have HC0 := zad hc0; clear hr0 hc0; have HR1 := zad hr1; have HC1 := zad hc1; clear hr1 hc1; have H : (spec_liLess.l0 k l0 l1 (l0.length : Int) 0) = some r := h
 clear h; have H' := zad H
 clear H; go_enter Try.func71, Try.ntmps71
 go_wp2
 repeat (go_quiet (fail); try go_wp2)
 go_loopg [8] k (fun kq v8 w' => ∃ (x8_1 : Int), v8 = .int .i64 x8_1 ∧ Aside0 (spec_liLess.l0 kq l0 l1 (l0.length : Int) x8_1 = some r) ∧ Aside0 (kq ≤ k) ∧ Drawn0 w w')
 case atStart => exact ⟨(0), (taad), H', ⟨zcb _⟩, taag⟩
 case round =>
  clear H'
  try clear c1
  try clear p2
  obtain ⟨x8_1, rfl, HA, HK1, ⟨m1, rfl⟩⟩ := hrel
  cases gk with
  | zero => exact absurd HA.out (by simp [spec_liLess.l0])
  | succ k1 =>
   have H := HA.out
   clear HA; simp only [spec_liLess.l0] at H
   by_cases c3 : x8_1 < (l0.length : Int)
   · rw [if_pos c3] at H
     have c3b0 : decide (x8_1 < (l0.length : Int)) = true := zba c3
     clear c3; by_cases c4 : 0 ≤ x8_1
     · rw [if_pos c4] at H
       have c4b0 : decide (0 ≤ x8_1) = true := zba c4
       clear c4; by_cases c5 : x8_1 < (l0.length : Int)
       · rw [if_pos c5] at H
         have c5b0 : decide (x8_1 < (l0.length : Int)) = true := zba c5
         clear c5; by_cases c6 : x8_1 < (l1.length : Int)
         · rw [if_pos c6] at H
           have c6b0 : decide (x8_1 < (l1.length : Int)) = true := zba c6
           clear c6; by_cases c7 : (rd l0 x8_1) = (rd l1 x8_1)
           · rw [if_pos c7] at H
             have c7b0 : ((rd l0 x8_1) == (rd l1 x8_1)) = true := beq_iff_eq.mpr c7
             have c7b1 : ((rd l0 x8_1) != (rd l1 x8_1)) = false := bne_eq_false_iff_eq.mpr c7
             clear c7; have H' := zad H
             clear H; have p193 : 0 ≤ (x8_1 : Int) := zas (taab)
             have q193 : x8_1 < (l0.length : Int) := zas (taab)
             obtain ⟨ad193, e193, hx193_0⟩ := zbw HR0.out x8_1 p193 q193
             cases e193
             replace p193 := eq_true p193
             replace q193 := eq_true q193
             have p194 : 0 ≤ (x8_1 : Int) := zas (taab)
             have q194 : x8_1 < (l1.length : Int) := zas (taab)
             obtain ⟨ad194, e194, hx194_0⟩ := zbw HR1.out x8_1 p194 q194
             cases e194
             replace p194 := eq_true p194
             replace q194 := eq_true q194
             go_wp2
             repeat (go_quiet (fail); try go_wp2)
             go_roundg k1
             case measure => have := HK1.out; omega
             case rel => exact ⟨(wrap64 (x8_1 + 1)), (taad), H', ⟨taat⟩, taag⟩
           · rw [if_neg c7] at H
             have c7b0 : ((rd l0 x8_1) == (rd l1 x8_1)) = false := zbp.mpr c7
             have c7b1 : ((rd l0 x8_1) != (rd l1 x8_1)) = true := bne_iff_ne.mpr c7
             obtain rfl := zbf H
             have p193 : 0 ≤ (x8_1 : Int) := zas (taab)
             have q193 : x8_1 < (l0.length : Int) := zas (taab)
             obtain ⟨ad193, e193, hx193_0⟩ := zbw HR0.out x8_1 p193 q193
             cases e193
             replace p193 := eq_true p193
             replace q193 := eq_true q193
             have p194 : 0 ≤ (x8_1 : Int) := zas (taab)
             have q194 : x8_1 < (l1.length : Int) := zas (taab)
             obtain ⟨ad194, e194, hx194_0⟩ := zbw HR1.out x8_1 p194 q194
             cases e194
             replace p194 := eq_true p194
             replace q194 := eq_true q194
             have p195 : 0 ≤ (x8_1 : Int) := zas (taab)
             have q195 : x8_1 < (l0.length : Int) := zas (taab)
             obtain ⟨ad195, e195, hx195_0⟩ := zbw HR0.out x8_1 p195 q195
             obtain rfl : ad193 = ad195 := (by injection e195)
             replace p195 := eq_true p195
             replace q195 := eq_true q195
             have p196 : 0 ≤ (x8_1 : Int) := zas (taab)
             have q196 : x8_1 < (l1.length : Int) := zas (taab)
             obtain ⟨ad196, e196, hx196_0⟩ := zbw HR1.out x8_1 p196 q196
             obtain rfl : ad194 = ad196 := (by injection e196)
             replace p196 := eq_true p196
             replace q196 := eq_true q196
             go_wp2
             repeat (go_quiet (fail); try go_wp2)
             go_ret
             exact ⟨taad, taag⟩
         · rw [if_neg c6] at H
           exact absurd H (taac)
       · rw [if_neg c5] at H
         exact absurd H (taac)
     · rw [if_neg c4] at H
       exact absurd H (taac)
   · rw [if_neg c3] at H
     have c3b0 : decide (x8_1 < (l0.length : Int)) = false := zbk c3
     clear c3; obtain rfl := zbf H
     go_wp2
     repeat (go_quiet (fail); try go_wp2)
     go_ret
     exact ⟨taad, taag⟩
def spec_liPut.l0 : Nat → List (List Int) → List Int → Int → Option ((List (List Int)))
 | 0, _, _, _ => none
 | k + 1, x0, x1, x5 => if x5 < (x0.length : Int) then (if 0 ≤ x5 then ((spec_liLess.f k (rd_L1 x0 x5) x1).bind fun t198 => (if t198 = true then (spec_liPut.l0 k x0 x1 (wrap64 (x5 + 1))) else ((spec_l1Same.f k (rd_L1 x0 x5) x1).bind fun t200 => (if t200 = true then (some x0) else ((some (([] : List (List Int)) : List (List Int))).bind fun y201 => (if x5 ≤ (x0.length : Int) then ((some (x0.take (x5 : Int).toNat : List (List Int))).bind fun y204 => (if y201.length + y204.length < 5864062014805 then ((some (y201 ++ y204 : List (List Int))).bind fun y209 => (if y209.length < 5864062014805 then ((some (y209 ++ [x1] : List (List Int))).bind fun y212 => ((some (x0.drop (x5 : Int).toNat : List (List Int))).bind fun y215 => (if y212.length + y215.length < 5864062014805 then (some (y212 ++ y215)) else (none)))) else (none))) else (none))) else (none))))))) else (none)) else ((some (([] : List (List Int)) : List (List Int))).bind fun y223 => (if 0 ≤ x5 then (if x5 ≤ (x0.length : Int) then ((some (x0.take (x5 : Int).toNat : List (List Int))).bind fun y226 => (if y223.length + y226.length < 5864062014805 then ((some (y223 ++ y226 : List (List Int))).bind fun y231 => (if y231.length < 5864062014805 then ((some (y231 ++ [x1] : List (List Int))).bind fun y234 => ((some (x0.drop (x5 : Int).toNat : List (List Int))).bind fun y237 => (if y234.length + y237.length < 5864062014805 then (some (y234 ++ y237)) else (none)))) else (none))) else (none))) else (none)) else (none)))
def spec_liPut.f (k : Nat) (l0 : List (List Int)) (l1 : List Int) : Option ((List (List Int))) := spec_liPut.l0 k l0 l1 0
def spec_liPut.T7 : Bool × List (List Nat × List Nat) := (true, [([], []), ([], []), ([1], [1]), ([0, 2], [0, 2]), ([], []), ([], []), ([4, 5], [4, 5]), ([3, 6, 3], [3, 6]), ([7, 7, 0, 1, 2, 3, 4, 5, 6, 7], [7])])
def spec_liPut.B7 : List Nat := [0, 0, 2, 7, 0, 0, 48, 127, 255]
theorem spec_liPut.tab7 : rtab .any (opsOf Try.f37 7) = spec_liPut.T7 := by kernel_rfl
theorem spec_liPut.bits7 : waitsOk spec_liPut.T7.2 spec_liPut.B7 = true := by kernel_rfl
theorem spec_liPut.calls (k : Nat) (P0_ : Nat → Prop) (A0 : Option Addr) (c0 : Nat) (l0 : List (List Int)) (P1_ : Nat → Prop) (A1 : Option Addr) (c1 : Nat) (l1 : List Int) (r : List (List Int)) (w : World) (hs0 : Kd.V (Kd.slice 3 (Kd.int .i64)) 22 w w.heap.size (fun k_ => P0_ k_) (.slice A0 l0.length c0) l0) (hs1 : Kd.V (Kd.int .i64) 3 w w.heap.size (fun k_ => P1_ k_) (.slice A1 l1.length c1) l1) (h : spec_liPut.f k l0 l1 = some r) :
 Calls Try.prog 37 #[.slice A0 l0.length c0, .slice A1 l1.length c1] w fun e w' => ∃ v0_ : Value, e = .returned (v0_) ∧ Kd.V (Kd.slice 3 (Kd.int .i64)) 22 w' w.heap.size (fun k_ => ((P0_ k_ ∨ P1_ k_) ∨ w.heap.size ≤ k_)) v0_ r ∧ Below w.heap.size w w' := by
 have HO0 := zad (show Kd.V (Kd.slice 3 (Kd.int .i64)) 22 w w.heap.size (fun k_ => ((P0_ k_ ∨ P1_ k_) ∨ w.heap.size ≤ k_)) (.slice A0 l0.length c0) l0 from Kd.V_mono hs0 (fun k_ hk => .inl (.inl hk)))
 have HO1 := zad (show Kd.V (Kd.int .i64) 3 w w.heap.size (fun k_ => ((P0_ k_ ∨ P1_ k_) ∨ w.heap.size ≤ k_)) (.slice A1 l1.length c1) l1 from Kd.V_mono hs1 (fun k_ hk => .inl (.inr hk)))
 have HB := zad (Below.refl w.heap.size w)
 have H : (spec_liPut.l0 k l0 l1 0) = some r := h
 clear h; have H' := zad H
 clear H; go_enter Try.func37, Try.ntmps37
 go_wp2
 go_loopg [5] k (fun kq v5 w' => ∃ (x5_1 : Int), v5 = .int .i64 x5_1 ∧ Aside0 (spec_liPut.l0 kq l0 l1 x5_1 = some r) ∧ Aside0 (kq ≤ k) ∧ Aside0 (Kd.V (Kd.slice 3 (Kd.int .i64)) 22 w' w.heap.size (fun k_ => ((P0_ k_ ∨ P1_ k_) ∨ w.heap.size ≤ k_)) (.slice A0 l0.length c0) l0) ∧ Aside0 (Kd.V (Kd.int .i64) 3 w' w.heap.size (fun k_ => ((P0_ k_ ∨ P1_ k_) ∨ w.heap.size ≤ k_)) (.slice A1 l1.length c1) l1) ∧ Aside0 (Below w.heap.size w w'))
 case atStart => exact ⟨(0), (taad), H', ⟨zcb _⟩, ⟨by (with_reducible repeat (first | apply zbb | apply zbc | apply zbd)); exact HO0.out⟩, ⟨by (with_reducible repeat (first | apply zbb | apply zbc | apply zbd)); exact HO1.out⟩, ⟨taaa⟩⟩
 case round =>
  clear H'
  try clear c1
  try clear p2
  obtain ⟨x5_1, rfl, HA, HK1, HO_0, HO_1, HB⟩ := hrel
  cases gk with
  | zero => exact absurd HA.out (by simp [spec_liPut.l0])
  | succ k1 =>
   have H := HA.out
   clear HA; simp only [spec_liPut.l0] at H
   by_cases c3 : x5_1 < (l0.length : Int)
   · rw [if_pos c3] at H
     have c3b0 : decide (x5_1 < (l0.length : Int)) = true := zba c3
     clear c3; by_cases c4 : 0 ≤ x5_1
     · rw [if_pos c4] at H
       have c4b0 : decide (0 ≤ x5_1) = true := zba c4
       clear c4; replace H := zay.mp H; obtain ⟨t198, A50, H⟩ := H
       replace H : (if t198 = true then (spec_liPut.l0 k1 l0 l1 (wrap64 (x5_1 + 1))) else ((spec_l1Same.f k1 (rd_L1 l0 x5_1) l1).bind fun t200 => (if t200 = true then (some l0) else ((some (([] : List (List Int)) : List (List Int))).bind fun y201 => (if x5_1 ≤ (l0.length : Int) then ((some (l0.take (x5_1 : Int).toNat : List (List Int))).bind fun y204 => (if y201.length + y204.length < 5864062014805 then ((some (y201 ++ y204 : List (List Int))).bind fun y209 => (if y209.length < 5864062014805 then ((some (y209 ++ [l1] : List (List Int))).bind fun y212 => ((some (l0.drop (x5_1 : Int).toNat : List (List Int))).bind fun y215 => (if y212.length + y215.length < 5864062014805 then (some (y212 ++ y215)) else (none)))) else (none))) else (none))) else (none)))))) = some r := H
       have A5 := zad A50; clear A50; by_cases c6 : t198 = true
       · subst c6
         have H1 : (spec_liPut.l0 k1 l0 l1 (wrap64 (x5_1 + 1))) = some r := by rw [if_pos rfl] at H; exact H
         clear H; have H := H1; clear H1; have H' := zad H
         clear H; have p197 : 0 ≤ (x5_1 : Int) := zas (taab)
         have q197 : x5_1 < (l0.length : Int) := zas (taab)
         obtain ⟨ad197, A197_0, c197_0, e197, hx197_0, hl197_0, hi197_0⟩ := at_L1 (Kd.V_reads' HO_0.out).2.2 x5_1 p197 q197
         cases e197
         obtain ⟨ce197, hce197, hMe197, hcc197⟩ := Kd.V_get HO_0.out [] x5_1 p197 (tafd)
         obtain ⟨ua197_0, uc197_0, rfl, ul197_0, ge197_0⟩ := Kd.FK_slice_open hMe197
         have hv197_0 := hcc197 0 _ rfl
         rw [Nat.add_zero, show ((Kd.slice 3 (Kd.int .i64))).sz = 1 from rfl, Nat.mul_one] at hv197_0
         replace hv197_0 := zbf (hv197_0.symm.trans hx197_0)
         injection hv197_0 with hva_ hvn_ hvc_
         rw [hva_] at ge197_0
         rw [hvc_] at ul197_0
         have HL197_0 := zad (show Kd.V (Kd.int .i64) 3 _ w.heap.size _ _ (rd_L1 l0 x5_1) from Kd.V_mk ul197_0 ge197_0)
         clear hva_ hvn_ hvc_ ge197_0 ul197_0 hcc197 hce197; have HR197_0 := zad hi197_0; have HC197_0 := zad hl197_0; clear hi197_0 hl197_0; replace p197 := eq_true p197
         replace q197 := eq_true q197
         go_wp2_with (first | (go_at_call 71; (with_reducible refine (spec_liLess.calls k1 _ _ (rd_L1 l0 x5_1) _ _ l1 true _ ?side1 ?side2 ?side3 ?side4 A5.out).mono ?_); (case side1 => repeat (first | exact (tach) | (with_reducible refine zal ?_ _) | (with_reducible refine zam ?_ _) | (with_reducible refine zan ?_))); (case side2 => exact HC197_0.out); (case side3 => repeat (first | exact (Kd.V_reads' HO_1.out).2.2 | (with_reducible refine zal ?_ _) | (with_reducible refine zam ?_ _) | (with_reducible refine zan ?_))); (case side4 => exact (Kd.V_reads' HO_1.out).2.1); rintro e w' ⟨rfl, ⟨nd, rfl⟩⟩))
         go_roundg k1
         case measure => have := HK1.out; omega
         case rel => exact ⟨(wrap64 (x5_1 + 1)), (taad), H', ⟨taat⟩, ⟨tabd⟩, ⟨tabf⟩, ⟨taaa⟩⟩
       · replace c6 := zbj.mpr c6
         subst c6; have H1 : ((spec_l1Same.f k1 (rd_L1 l0 x5_1) l1).bind fun t200 => (if t200 = true then (some l0) else ((some (([] : List (List Int)) : List (List Int))).bind fun y201 => (if x5_1 ≤ (l0.length : Int) then ((some (l0.take (x5_1 : Int).toNat : List (List Int))).bind fun y204 => (if y201.length + y204.length < 5864062014805 then ((some (y201 ++ y204 : List (List Int))).bind fun y209 => (if y209.length < 5864062014805 then ((some (y209 ++ [l1] : List (List Int))).bind fun y212 => ((some (l0.drop (x5_1 : Int).toNat : List (List Int))).bind fun y215 => (if y212.length + y215.length < 5864062014805 then (some (y212 ++ y215)) else (none)))) else (none))) else (none))) else (none))))) = some r := by rw [if_neg (show ¬ (false = true) by decide)] at H; exact H
         clear H; have H := H1; clear H1; replace H := zay.mp H; obtain ⟨t200, A70, H⟩ := H
         replace H : (if t200 = true then (some l0) else ((some (([] : List (List Int)) : List (List Int))).bind fun y201 => (if x5_1 ≤ (l0.length : Int) then ((some (l0.take (x5_1 : Int).toNat : List (List Int))).bind fun y204 => (if y201.length + y204.length < 5864062014805 then ((some (y201 ++ y204 : List (List Int))).bind fun y209 => (if y209.length < 5864062014805 then ((some (y209 ++ [l1] : List (List Int))).bind fun y212 => ((some (l0.drop (x5_1 : Int).toNat : List (List Int))).bind fun y215 => (if y212.length + y215.length < 5864062014805 then (some (y212 ++ y215)) else (none)))) else (none))) else (none))) else (none)))) = some r := H
         have A7 := zad A70; clear A70; by_cases c8 : t200 = true
         · subst c8
           have H1 : (some l0) = some r := by rw [if_pos rfl] at H; exact H
           clear H; have H := H1; clear H1; obtain rfl := zbf H
           have p197 : 0 ≤ (x5_1 : Int) := zas (taab)
           have q197 : x5_1 < (l0.length : Int) := zas (taab)
           obtain ⟨ad197, A197_0, c197_0, e197, hx197_0, hl197_0, hi197_0⟩ := at_L1 (Kd.V_reads' HO_0.out).2.2 x5_1 p197 q197
           cases e197
           obtain ⟨ce197, hce197, hMe197, hcc197⟩ := Kd.V_get HO_0.out [] x5_1 p197 (tafd)
           obtain ⟨ua197_0, uc197_0, rfl, ul197_0, ge197_0⟩ := Kd.FK_slice_open hMe197
           have hv197_0 := hcc197 0 _ rfl
           rw [Nat.add_zero, show ((Kd.slice 3 (Kd.int .i64))).sz = 1 from rfl, Nat.mul_one] at hv197_0
           replace hv197_0 := zbf (hv197_0.symm.trans hx197_0)
           injection hv197_0 with hva_ hvn_ hvc_
           rw [hva_] at ge197_0
           rw [hvc_] at ul197_0
           have HL197_0 := zad (show Kd.V (Kd.int .i64) 3 _ w.heap.size _ _ (rd_L1 l0 x5_1) from Kd.V_mk ul197_0 ge197_0)
           clear hva_ hvn_ hvc_ ge197_0 ul197_0 hcc197 hce197; have HR197_0 := zad hi197_0; have HC197_0 := zad hl197_0; clear hi197_0 hl197_0; replace p197 := eq_true p197
           replace q197 := eq_true q197
           go_wp2_with (first | (go_at_call 71; (with_reducible refine (spec_liLess.calls k1 _ _ (rd_L1 l0 x5_1) _ _ l1 false _ ?side1 ?side2 ?side3 ?side4 A5.out).mono ?_); (case side1 => repeat (first | exact (tach) | (with_reducible refine zal ?_ _) | (with_reducible refine zam ?_ _) | (with_reducible refine zan ?_))); (case side2 => exact HC197_0.out); (case side3 => repeat (first | exact (Kd.V_reads' HO_1.out).2.2 | (with_reducible refine zal ?_ _) | (with_reducible refine zam ?_ _) | (with_reducible refine zan ?_))); (case side4 => exact (Kd.V_reads' HO_1.out).2.1); rintro e w' ⟨rfl, ⟨nd, rfl⟩⟩; have p199 : 0 ≤ (x5_1 : Int) := zas (taab); have q199 : x5_1 < (l0.length : Int) := zas (taab); obtain ⟨ad199, A199_0, c199_0, e199, hx199_0, hl199_0, hi199_0⟩ := at_L1 (Kd.V_reads' HO_0.out).2.2 x5_1 p199 q199; obtain rfl : ad197 = ad199 := (by injection e199); obtain ⟨ce199, hce199, hMe199, hcc199⟩ := Kd.V_get HO_0.out [] x5_1 p199 (tafh); obtain ⟨ua199_0, uc199_0, rfl, ul199_0, ge199_0⟩ := Kd.FK_slice_open hMe199; have hv199_0 := hcc199 0 _ rfl; rw [Nat.add_zero, show ((Kd.slice 3 (Kd.int .i64))).sz = 1 from rfl, Nat.mul_one] at hv199_0; replace hv199_0 := zbf (hv199_0.symm.trans hx199_0); injection hv199_0 with hva_ hvn_ hvc_; rw [hva_] at ge199_0; rw [hvc_] at ul199_0; have HL199_0 := zad (show Kd.V (Kd.int .i64) 3 _ w.heap.size _ _ (rd_L1 l0 x5_1) from Kd.V_mk ul199_0 ge199_0); clear hva_ hvn_ hvc_ ge199_0 ul199_0 hcc199 hce199; have HR199_0 := zad hi199_0; have HC199_0 := zad hl199_0; clear hi199_0 hl199_0; replace p199 := eq_true p199; replace q199 := eq_true q199; have ea_ := zbf (hx197_0.symm.trans hx199_0); injection ea_ with ea_ en_ ec_; subst ea_; subst ec_; clear en_) | (go_at_call 35; (with_reducible refine (spec_l1Same.calls k1 _ _ (rd_L1 l0 x5_1) _ _ l1 true _ ?side1 ?side2 ?side3 ?side4 A7.out).mono ?_); (case side1 => repeat (first | exact (tadc) | (with_reducible refine zal ?_ _) | (with_reducible refine zam ?_ _) | (with_reducible refine zan ?_))); (case side2 => exact HC199_0.out); (case side3 => repeat (first | exact (Kd.V_reads' HO_1.out).2.2 | (with_reducible refine zal ?_ _) | (with_reducible refine zam ?_ _) | (with_reducible refine zan ?_))); (case side4 => exact (Kd.V_reads' HO_1.out).2.1); rintro e w' ⟨rfl, ⟨nd, rfl⟩⟩))
           go_ret
           exact ⟨_, taaf, tabd, taaa⟩
         · replace c8 := zbj.mpr c8
           subst c8; have H1 : ((some (([] : List (List Int)) : List (List Int))).bind fun y201 => (if x5_1 ≤ (l0.length : Int) then ((some (l0.take (x5_1 : Int).toNat : List (List Int))).bind fun y204 => (if y201.length + y204.length < 5864062014805 then ((some (y201 ++ y204 : List (List Int))).bind fun y209 => (if y209.length < 5864062014805 then ((some (y209 ++ [l1] : List (List Int))).bind fun y212 => ((some (l0.drop (x5_1 : Int).toNat : List (List Int))).bind fun y215 => (if y212.length + y215.length < 5864062014805 then (some (y212 ++ y215)) else (none)))) else (none))) else (none))) else (none))) = some r := by rw [if_neg (show ¬ (false = true) by decide)] at H; exact H
           clear H; have H := H1; clear H1; obtain ⟨y201, hy201⟩ : ∃ y_ : List (List Int), y_ = (([] : List (List Int))) := ⟨_, rfl⟩
           replace H : (if x5_1 ≤ (l0.length : Int) then ((some (l0.take (x5_1 : Int).toNat : List (List Int))).bind fun y204 => (if y201.length + y204.length < 5864062014805 then ((some (y201 ++ y204 : List (List Int))).bind fun y209 => (if y209.length < 5864062014805 then ((some (y209 ++ [l1] : List (List Int))).bind fun y212 => ((some (l0.drop (x5_1 : Int).toNat : List (List Int))).bind fun y215 => (if y212.length + y215.length < 5864062014805 then (some (y212 ++ y215)) else (none)))) else (none))) else (none))) else (none)) = some r := by first | (rw [hy201]; with_reducible exact H) | (have H2_ := (zbe _ _).symm.trans H; rw [hy201]; with_reducible exact H2_) | (have H2_ := (zbe _ _).symm.trans H; with_reducible exact H2_) | with_reducible exact H | (rw [hy201]; exact H) | exact H
           have Ny201 := zad hy201; clear hy201; have c9b0 := eq_true (zas (taab) : 0 ≤ x5_1)
           by_cases c10 : x5_1 ≤ (l0.length : Int)
           · rw [if_pos c10] at H
             have c10b0 := eq_true c10; have c10b1 : decide (x5_1 ≤ (l0.length : Int)) = true := zba c10
             clear c10; obtain ⟨y204, hy204⟩ : ∃ y_ : List (List Int), y_ = (l0.take (x5_1 : Int).toNat) := ⟨_, rfl⟩
             replace H : (if y201.length + y204.length < 5864062014805 then ((some (y201 ++ y204 : List (List Int))).bind fun y209 => (if y209.length < 5864062014805 then ((some (y209 ++ [l1] : List (List Int))).bind fun y212 => ((some (l0.drop (x5_1 : Int).toNat : List (List Int))).bind fun y215 => (if y212.length + y215.length < 5864062014805 then (some (y212 ++ y215)) else (none)))) else (none))) else (none)) = some r := by first | (rw [hy204]; with_reducible exact H) | (have H2_ := (zbe _ _).symm.trans H; rw [hy204]; with_reducible exact H2_) | (have H2_ := (zbe _ _).symm.trans H; with_reducible exact H2_) | with_reducible exact H | (rw [hy204]; exact H) | exact H
             have Ny204 := zad hy204; clear hy204; by_cases c11 : y201.length + y204.length < 5864062014805
             · rw [if_pos c11] at H
               have LMc11 := zad c11; clear c11; obtain ⟨y209, hy209⟩ : ∃ y_ : List (List Int), y_ = (y201 ++ y204) := ⟨_, rfl⟩
               replace H : (if y209.length < 5864062014805 then ((some (y209 ++ [l1] : List (List Int))).bind fun y212 => ((some (l0.drop (x5_1 : Int).toNat : List (List Int))).bind fun y215 => (if y212.length + y215.length < 5864062014805 then (some (y212 ++ y215)) else (none)))) else (none)) = some r := by first | (rw [hy209]; with_reducible exact H) | (have H2_ := (zbe _ _).symm.trans H; rw [hy209]; with_reducible exact H2_) | (have H2_ := (zbe _ _).symm.trans H; with_reducible exact H2_) | with_reducible exact H | (rw [hy209]; exact H) | exact H
               have Ny209 := zad hy209; clear hy209; by_cases c12 : y209.length < 5864062014805
               · rw [if_pos c12] at H
                 have LMc12 := zad c12; clear c12; obtain ⟨y212, hy212⟩ : ∃ y_ : List (List Int), y_ = (y209 ++ [l1]) := ⟨_, rfl⟩
                 replace H : ((some (l0.drop (x5_1 : Int).toNat : List (List Int))).bind fun y215 => (if y212.length + y215.length < 5864062014805 then (some (y212 ++ y215)) else (none))) = some r := by first | (rw [hy212]; with_reducible exact H) | (have H2_ := (zbe _ _).symm.trans H; rw [hy212]; with_reducible exact H2_) | (have H2_ := (zbe _ _).symm.trans H; with_reducible exact H2_) | with_reducible exact H | (rw [hy212]; exact H) | exact H
                 have Ny212 := zad hy212; clear hy212; have c13b0 := eq_true (zas (taab) : 0 ≤ x5_1)
                 have c14b0 := eq_true (zas (taab) : x5_1 ≤ (l0.length : Int))
                 obtain ⟨y215, hy215⟩ : ∃ y_ : List (List Int), y_ = (l0.drop (x5_1 : Int).toNat) := ⟨_, rfl⟩
                 replace H : (if y212.length + y215.length < 5864062014805 then (some (y212 ++ y215)) else (none)) = some r := by first | (rw [hy215]; with_reducible exact H) | (have H2_ := (zbe _ _).symm.trans H; rw [hy215]; with_reducible exact H2_) | (have H2_ := (zbe _ _).symm.trans H; with_reducible exact H2_) | with_reducible exact H | (rw [hy215]; exact H) | exact H
                 have Ny215 := zad hy215; clear hy215; by_cases c15 : y212.length + y215.length < 5864062014805
                 · rw [if_pos c15] at H
                   have LMc15 := zad c15; clear c15; obtain ⟨y220, hy220⟩ : ∃ y_ : List (List Int), y_ = (y212 ++ y215) := ⟨_, rfl⟩
                   replace H : (some y220) = some r := by first | (rw [hy220]; with_reducible exact H) | (have H2_ := (zbe _ _).symm.trans H; rw [hy220]; with_reducible exact H2_) | (have H2_ := (zbe _ _).symm.trans H; with_reducible exact H2_) | with_reducible exact H | (rw [hy220]; exact H) | exact H
                   have Ny220 := zad hy220; clear hy220; obtain rfl := zbf H
                   have p197 : 0 ≤ (x5_1 : Int) := zas (taab)
                   have q197 : x5_1 < (l0.length : Int) := zas (taab)
                   obtain ⟨ad197, A197_0, c197_0, e197, hx197_0, hl197_0, hi197_0⟩ := at_L1 (Kd.V_reads' HO_0.out).2.2 x5_1 p197 q197
                   cases e197
                   obtain ⟨ce197, hce197, hMe197, hcc197⟩ := Kd.V_get HO_0.out [] x5_1 p197 (tafd)
                   obtain ⟨ua197_0, uc197_0, rfl, ul197_0, ge197_0⟩ := Kd.FK_slice_open hMe197
                   have hv197_0 := hcc197 0 _ rfl
                   rw [Nat.add_zero, show ((Kd.slice 3 (Kd.int .i64))).sz = 1 from rfl, Nat.mul_one] at hv197_0
                   replace hv197_0 := zbf (hv197_0.symm.trans hx197_0)
                   injection hv197_0 with hva_ hvn_ hvc_
                   rw [hva_] at ge197_0
                   rw [hvc_] at ul197_0
                   have HL197_0 := zad (show Kd.V (Kd.int .i64) 3 _ w.heap.size _ _ (rd_L1 l0 x5_1) from Kd.V_mk ul197_0 ge197_0)
                   clear hva_ hvn_ hvc_ ge197_0 ul197_0 hcc197 hce197; have HR197_0 := zad hi197_0; have HC197_0 := zad hl197_0; clear hi197_0 hl197_0; replace p197 := eq_true p197
                   replace q197 := eq_true q197
                   try go_wp2_with (first | (go_at_call 71; (with_reducible refine (spec_liLess.calls k1 _ _ (rd_L1 l0 x5_1) _ _ l1 false _ ?side1 ?side2 ?side3 ?side4 A5.out).mono ?_); (case side1 => repeat (first | exact (tach) | (with_reducible refine zal ?_ _) | (with_reducible refine zam ?_ _) | (with_reducible refine zan ?_))); (case side2 => exact HC197_0.out); (case side3 => repeat (first | exact (Kd.V_reads' HO_1.out).2.2 | (with_reducible refine zal ?_ _) | (with_reducible refine zam ?_ _) | (with_reducible refine zan ?_))); (case side4 => exact (Kd.V_reads' HO_1.out).2.1); rintro e w' ⟨rfl, ⟨nd, rfl⟩⟩; have p199 : 0 ≤ (x5_1 : Int) := zas (taab); have q199 : x5_1 < (l0.length : Int) := zas (taab); obtain ⟨ad199, A199_0, c199_0, e199, hx199_0, hl199_0, hi199_0⟩ := at_L1 (Kd.V_reads' HO_0.out).2.2 x5_1 p199 q199; obtain rfl : ad197 = ad199 := (by injection e199); obtain ⟨ce199, hce199, hMe199, hcc199⟩ := Kd.V_get HO_0.out [] x5_1 p199 (tafh); obtain ⟨ua199_0, uc199_0, rfl, ul199_0, ge199_0⟩ := Kd.FK_slice_open hMe199; have hv199_0 := hcc199 0 _ rfl; rw [Nat.add_zero, show ((Kd.slice 3 (Kd.int .i64))).sz = 1 from rfl, Nat.mul_one] at hv199_0; replace hv199_0 := zbf (hv199_0.symm.trans hx199_0); injection hv199_0 with hva_ hvn_ hvc_; rw [hva_] at ge199_0; rw [hvc_] at ul199_0; have HL199_0 := zad (show Kd.V (Kd.int .i64) 3 _ w.heap.size _ _ (rd_L1 l0 x5_1) from Kd.V_mk ul199_0 ge199_0); clear hva_ hvn_ hvc_ ge199_0 ul199_0 hcc199 hce199; have HR199_0 := zad hi199_0; have HC199_0 := zad hl199_0; clear hi199_0 hl199_0; replace p199 := eq_true p199; replace q199 := eq_true q199; have ea_ := zbf (hx197_0.symm.trans hx199_0); injection ea_ with ea_ en_ ec_; subst ea_; subst ec_; clear en_) | (go_at_call 35; (with_reducible refine (spec_l1Same.calls k1 _ _ (rd_L1 l0 x5_1) _ _ l1 false _ ?side1 ?side2 ?side3 ?side4 A7.out).mono ?_); (case side1 => repeat (first | exact (tadc) | (with_reducible refine zal ?_ _) | (with_reducible refine zam ?_ _) | (with_reducible refine zan ?_))); (case side2 => exact HC199_0.out); (case side3 => repeat (first | exact (Kd.V_reads' HO_1.out).2.2 | (with_reducible refine zal ?_ _) | (with_reducible refine zam ?_ _) | (with_reducible refine zan ?_))); (case side4 => exact (Kd.V_reads' HO_1.out).2.1); rintro e w' ⟨rfl, ⟨nd, rfl⟩⟩) | ((with_reducible refine gate_dst (N := 34) rfl ?_); refine Kd.N_lit (Kd.slice 3 (Kd.int .i64)) _ 22 ?hg (N' := 34) ?hd (xs := ([] : List (List Int))) (inner := []) (ok := (fun k_ => ((P0_ k_ ∨ P1_ k_) ∨ w.heap.size ≤ k_))) (okp := (fun k_ => ((P0_ k_ ∨ P1_ k_) ∨ w.heap.size ≤ k_))) ?hr ?hp (fun _ hk => hk) ((show ∀ k_, wr.heap.size ≤ k_ → (fun k_ => ((P0_ k_ ∨ P1_ k_) ∨ w.heap.size ≤ k_)) k_ from fun k_ hk => (.inr (Nat.le_trans (zbl (taaa)) hk))) _ (zcb _)) (Below.refl _ _) (zcb _) (taac) ?_; (case hd => rfl); (case hg => rfl); (case hr => first | (go_simp; done) | (go_simp; rfl)); (case hp => exact (Reps.none _ _)); intro v202 w16 ho17 hb hg_ hnew_; clear hg_ hnew_; (first | rw [← Ny201.out] at ho17 | (simp only [Int.reduceToNat] at ho17; rw [← Ny201.out] at ho17)); have n0_ := zad (Kd.V_elder' (tabd) (Kd.N_base ho17) hb); have n1_ := zad (Kd.V_elder' (tabf) (Kd.N_base ho17) hb); have n2_ := zad (Kd.V_elder' (taci) (Kd.N_base ho17) hb); have n3_ := zad (Kd.V_elder' (tacj) (Kd.N_base ho17) hb); have n4_ := zad (Kd.N_lower ho17 (zbl (taaa))); have n5_ := zad (Kd.C_below (tach) hb); have n6_ := zad (Kd.C_below (tadc) hb); have n7_ := zad (zbh (taaa) hb); clear HO_0 HO_1 HL197_0 HL199_0 HR197_0 HR199_0 HB; have HO_0 := n0_; have HO_1 := n1_; have HL197_0 := n2_; have HL199_0 := n3_; have HO203 := n4_; have HR197_0 := n5_; have HR199_0 := n6_; have HB := n7_; clear n0_ n1_ n2_ n3_ n4_ n5_ n6_ n7_ hb ho17; have q18 : (x5_1 : Int) ≤ ((l0.length : Int) : Int) := zas (taab); obtain ⟨i018, hi018, _, hsz18, _⟩ := info_parts info22; have hroom18 : l0.length ≤ c0 := (Kd.V_reads' HO_0.out).2.1; have hC18 : Kd.F (Kd.slice 3 (Kd.int .i64)) _ _ (some ad197) l0.length l0 := (Kd.V_at (base := w.heap.size) HO_0.out).2.2; have hcut18 := cut_to (P := Try.prog) 23 22 .i64 Try.underlying23 hi018 (some ad197) l0.length c0 x5_1 (zas (taab)) q18 hroom18; have hr18 := Kd.F_take (m := (x5_1 : Int).toNat) hC18 (by omega); have hy18 : y204.length = (x5_1 : Int).toNat := (by rw [Ny204.out, zax]; omega); rw [← Ny204.out] at hr18; rw [← hy18] at hcut18; have HO208 := zad (show Kd.V (Kd.slice 3 (Kd.int .i64)) 22 _ w.heap.size _ (.slice (some ad197) y204.length c0) y204 from Kd.V_mk (by omega) hr18); have HC208 := zad (show y204.length ≤ c0 from by omega); clear hr18 hC18 hroom18 hi018 hsz18; have KY18 := zad hy18; clear hy18; replace q18 := eq_true q18) | ((with_reducible refine gate_builtin (b := .append) (xs := #[.tmp 34, .tmp 37]) rfl ?_); at_builtin; refine Kd.N_append_rows (Kd.slice 3 (Kd.int .i64)) (w0 := w) w.heap.size rfl (.tmp 34) (.tmp 37) 23 22 (.slice none 0 0) 24 rfl Try.underlying23 info22 rfl (by decide) (by omega) v202 y201 y204 _ _ _ (fun k_ => ((P0_ k_ ∨ P1_ k_) ∨ w.heap.size ≤ k_)) (fun k_ => ((fun k_ => ((P0_ k_ ∨ P1_ k_) ∨ w.heap.size ≤ k_))) k_ ∧ some k_ ≠ (v202 : Value).ownBlock) rfl rfl ?aO ?aR (fun _ hk => hk) ?aF ?aB ?aS ?aL ?_; (case aR => exact (by skip; exact Kd.V_F (Kd.V_mono (ok' := (fun k_ => ((fun k_ => ((P0_ k_ ∨ P1_ k_) ∨ w.heap.size ≤ k_))) k_ ∧ some k_ ≠ (v202 : Value).ownBlock)) (HO208.out) (fun k_ hk => ⟨hk.1, hk.2⟩)))); (case aB => exact (taaa)); (case aF => exact (fun k_ hk => (.inr (Nat.le_trans (zbl (taaa)) hk)))); (case aO => exact (by (with_reducible repeat (first | apply Kd.N_alloc | apply Kd.N_drewN | apply Kd.N_drew)); exact HO203.out)); (case aS => exact (zbl (taaa))); (case aL => have := LMc11.out; omega); intro v210 w19 ho hb hg hat; rw [← Ny209.out] at ho; have n0_ := zad (Kd.V_afterv (ok := (fun k_ => ((P0_ k_ ∨ P1_ k_) ∨ w.heap.size ≤ k_))) (tabd) hg hat); have n1_ := zad (Kd.V_afterv (ok := (fun k_ => ((P0_ k_ ∨ P1_ k_) ∨ w.heap.size ≤ k_))) (tabf) hg hat); have n2_ := zad (Kd.V_afterv (ok := (fun k_ => ((P0_ k_ ∨ P1_ k_) ∨ w.heap.size ≤ k_))) (taci) hg hat); have n3_ := zad (Kd.V_afterv (ok := (fun k_ => ((P0_ k_ ∨ P1_ k_) ∨ w.heap.size ≤ k_))) (tacj) hg hat); have n4_ := zad (Kd.V_afterv (ok := (fun k_ => ((P0_ k_ ∨ P1_ k_) ∨ w.heap.size ≤ k_))) (tadd) hg hat); have n5_ := zad (hb); have n6_ := zad (ho); clear HO_0 HO_1 HL197_0 HL199_0 HO208 HB HO203; have HO_0 := n0_; have HO_1 := n1_; have HL197_0 := n2_; have HL199_0 := n3_; have HO208 := n4_; have HB := n5_; have HO211 := n6_; clear n0_ n1_ n2_ n3_ n4_ n5_ n6_ ho hb hg hat))
                   have n0_ := zad (zbd HO_0.out)
                   have n1_ := zad (zbd HO_1.out)
                   have n2_ := zad (zbd HL197_0.out)
                   have n3_ := zad (zbd HL199_0.out)
                   have n4_ := zad (zbd HO208.out)
                   have n5_ := zad (Kd.N_drew HO211.out)
                   have n6_ := zad (zaf HB.out)
                   clear HO_0 HO_1 HL197_0 HL199_0 HO208 HO211 HB; have HO_0 := n0_; have HO_1 := n1_; have HL197_0 := n2_; have HL199_0 := n3_; have HO208 := n4_; have HO211 := n5_; have HB := n6_; clear n0_ n1_ n2_ n3_ n4_ n5_ n6_; have q21 : (x5_1 : Int) ≤ ((l0.length : Int) : Int) := zas (taab)
                   obtain ⟨i021, hi021, _, hsz21, _⟩ := info_parts info22
                   have hroom21 : l0.length ≤ c0 := (Kd.V_reads' HO_0.out).2.1
                   have hC21 : Kd.F (Kd.slice 3 (Kd.int .i64)) _ _ (some ad197) l0.length l0 := (Kd.V_at (base := w.heap.size) HO_0.out).2.2
                   have q021 : (0 : Int) ≤ (x5_1 : Int) := zas (taab)
                   have hcut21 := cut_from (P := Try.prog) 23 22 .i64 Try.underlying23 hi021 1 hsz21 (some ad197) l0.length c0 x5_1 q021 q21
                   have hr21 := Kd.F_cut (m := (x5_1 : Int).toNat) (c := c0) hC21 (by omega) hroom21
                   obtain ⟨A21, hA21⟩ : ∃ A1, A1 = (if c0 = (x5_1 : Int).toNat then (some ad197) else ((some ad197) : Option Addr).map (·.add ((x5_1 : Int).toNat * 1))) := ⟨_, rfl⟩
                   obtain ⟨c21, hc21⟩ : ∃ c1, c1 = c0 - (x5_1 : Int).toNat := ⟨_, rfl⟩
                   have hy21 : y215.length = l0.length - (x5_1 : Int).toNat := (by rw [Ny215.out, zaw] <;> omega)
                   rw [show (l0).drop (x5_1 : Int).toNat = y215 from Ny215.out.symm] at hr21
                   replace hr21 : Kd.F (Kd.slice 3 (Kd.int .i64)) _ _ A21 y215.length y215 := (by rw [hA21]; exact hr21)
                   rw [← hy21, ← hA21, ← hc21] at hcut21
                   have HO219 := zad (show Kd.V (Kd.slice 3 (Kd.int .i64)) 22 _ w.heap.size _ (.slice A21 y215.length c21) y215 from Kd.V_mk (by rw [hy21, hc21]; exact Nat.sub_le_sub_right hroom21 _) hr21)
                   have HC219 := zad (show y215.length ≤ c21 from by rw [hy21, hc21]; exact Nat.sub_le_sub_right hroom21 _)
                   clear hr21 hC21 hroom21 hi021 hsz21 hc21; have KY21 := zad hy21; have KA21 := zad hA21; clear hy21 hA21; replace q21 := eq_true q21
                   refine start_ (n := 9) (S := fun w' => True) (ds := []) #[false, false, false, false, false, false, false, false, false] (by kernel_rfl) rfl rfl trivial (fun hHeld => ?_); refine with_tabW spec_liPut.tab7 spec_liPut.bits7 (fun HT_ HW_ => ?_)
                   generalize w19.drew = w20 at HO_0 HO_1 HL197_0 HL199_0 HO208 HO211 HB HO219 hHeld ⊢
                   refine pure_ (i := 0) (N := some 39) (v := ?_) (a' := ?_) #[true, false, false, false, false, false, false, false, false] rfl rfl (any_of HT_.out (by kernel_rfl)) (fun _ _ _ h => h) (Or.inl ⟨by rfl, ?_⟩) ?_ ?_
                   rotate_left
                   · intro w'
                     go_simp; with_reducible rfl
                   rotate_left
                   · simp only [Act.put, zaa, zab, zac, i64_w, i32_w]
                     rfl
                   refine pure_ (i := 1) (N := some 40) (v := ?_) (a' := ?_) #[true, true, false, false, false, false, false, false, false] rfl rfl (any_of HT_.out (by kernel_rfl)) (fun _ _ _ h => h) (Or.inl ⟨by rfl, ?_⟩) ?_ ?_
                   rotate_left
                   · intro w'
                     go_simp; with_reducible rfl
                   rotate_left
                   · simp only [Act.put, zaa, zab, zac, i64_w, i32_w]
                     rfl
                   refine pure_ (i := 4) (N := some 43) (v := ?_) (a' := ?_) #[true, true, false, false, true, false, false, false, false] rfl rfl (any_of HT_.out (by kernel_rfl)) (fun _ _ _ h => h) (Or.inl ⟨by rfl, ?_⟩) ?_ ?_
                   rotate_left
                   · intro w'
                     go_simp; with_reducible rfl
                   rotate_left
                   · simp only [Act.put, zaa, zab, zac, i64_w, i32_w]
                     rfl
                   refine pure_ (i := 5) (N := some 44) (v := ?_) (a' := ?_) #[true, true, false, false, true, true, false, false, false] rfl rfl (any_of HT_.out (by kernel_rfl)) (fun _ _ _ h => h) (Or.inl ⟨by rfl, ?_⟩) ?_ ?_
                   rotate_left
                   · intro w'
                     go_simp; with_reducible rfl
                   rotate_left
                   · simp only [Act.put, zaa, zab, zac, i64_w, i32_w]
                     rfl
                   refine pure_ (i := 6) (N := some 45) (v := ?_) (a' := ?_) #[true, true, false, false, true, true, true, false, false] rfl rfl (any_of HT_.out (by kernel_rfl)) (fun _ _ _ h => h) (Or.inl ⟨by rfl, ?_⟩) ?_ ?_
                   rotate_left
                   · intro w'
                     go_simp; with_reducible rfl
                   rotate_left
                   · simp only [Act.put, zaa, zab, zac, i64_w, i32_w]
                     rfl
                   refine one_ (i := 2) (N := some 41) #[true, true, true, false, true, true, true, false, false] rfl rfl (one_of HT_.out (by kernel_rfl)) (by decide) (fun K hK => ?_)
                   refine value_ (w1 := ?_) (v := ?_) (by rfl) rfl ?_ ?_
                   rotate_left 2
                   · go_simp
                     constructor
                     · rfl
                     · rfl
                   refine hK.out _ _ trivial (fun hHeld => ?_)
                   clear hK K; refine norm_ (a' := ?_) ?_ ?_
                   rotate_left
                   · show Act.put _ (some 41) _ = _
                     simp only [Act.put, zaa, zab, zac, i64_w, i32_w]
                     rfl
                   refine one_ (i := 3) (N := some 42) #[true, true, true, true, true, true, true, false, false] rfl rfl (one_of HT_.out (by kernel_rfl)) (by decide) (fun K hK => ?_)
                   refine Kd.N_append_step (Kd.slice 3 (Kd.int .i64)) (w0 := w) w.heap.size (by rfl) (.tmp 39) (.tmp 41) 23 22 (.slice none 0 0) 24 rfl Try.underlying23 info22 rfl (by decide) (by omega) v210 y209 l1 [.slice A1 l1.length c1] (fun k_ => ((P0_ k_ ∨ P1_ k_) ∨ w.heap.size ≤ k_)) (fun k_ => ((fun k_ => ((P0_ k_ ∨ P1_ k_) ∨ w.heap.size ≤ k_))) k_ ∧ some k_ ≠ (v210 : Value).ownBlock) rfl rfl ?aP (fun _ hk => hk) ?aF ?aO ?aB ?aS ?aL ?_
                   (case aP => exact (Kd.FK_slice_mk (Kd.V_reads' (Kd.V_mono (ok' := (fun k_ => ((fun k_ => ((P0_ k_ ∨ P1_ k_) ∨ w.heap.size ≤ k_))) k_ ∧ some k_ ≠ (v210 : Value).ownBlock)) (HO_1.out) (fun k_ hk => ⟨hk.1, hk.2⟩))).2.1 (Kd.V_F (Kd.V_mono (ok' := (fun k_ => ((fun k_ => ((P0_ k_ ∨ P1_ k_) ∨ w.heap.size ≤ k_))) k_ ∧ some k_ ≠ (v210 : Value).ownBlock)) (HO_1.out) (fun k_ hk => ⟨hk.1, hk.2⟩)))))
                   (case aB => exact (taaa))
                   (case aF => exact (fun k_ hk => (.inr (Nat.le_trans (zbl (taaa)) hk))))
                   (case aO => exact (by (with_reducible repeat (first | apply Kd.N_alloc | apply Kd.N_drewN | apply Kd.N_drew)); exact HO211.out))
                   (case aS => exact (zbl (taaa)))
                   (case aL => have := LMc12.out; omega)
                   intro v213 w22 ho hb hg hat
                   rw [← Ny212.out] at ho
                   have n0_ := zad (Kd.V_afterv (ok := (fun k_ => ((P0_ k_ ∨ P1_ k_) ∨ w.heap.size ≤ k_))) (tabd) hg hat)
                   have n1_ := zad (Kd.V_afterv (ok := (fun k_ => ((P0_ k_ ∨ P1_ k_) ∨ w.heap.size ≤ k_))) (tabf) hg hat)
                   have n2_ := zad (Kd.V_afterv (ok := (fun k_ => ((P0_ k_ ∨ P1_ k_) ∨ w.heap.size ≤ k_))) (taci) hg hat)
                   have n3_ := zad (Kd.V_afterv (ok := (fun k_ => ((P0_ k_ ∨ P1_ k_) ∨ w.heap.size ≤ k_))) (tacj) hg hat)
                   have n4_ := zad (Kd.V_afterv (ok := (fun k_ => ((P0_ k_ ∨ P1_ k_) ∨ w.heap.size ≤ k_))) (tadd) hg hat)
                   have n5_ := zad (Kd.V_afterv (ok := (fun k_ => ((P0_ k_ ∨ P1_ k_) ∨ w.heap.size ≤ k_))) (taef) hg hat)
                   have n6_ := zad (hb)
                   have n7_ := zad (ho)
                   clear HO_0 HO_1 HL197_0 HL199_0 HO208 HO219 HB HO211; have HO_0 := n0_; have HO_1 := n1_; have HL197_0 := n2_; have HL199_0 := n3_; have HO208 := n4_; have HO219 := n5_; have HB := n6_; have HO214 := n7_; clear n0_ n1_ n2_ n3_ n4_ n5_ n6_ n7_ ho hb hg hat; refine hK.out _ _ trivial (fun hHeld => ?_)
                   clear hK K; refine norm_ (a' := ?_) ?_ ?_
                   rotate_left
                   · show Act.put _ (some 42) _ = _
                     simp only [Act.put, zaa, zab, zac, i64_w, i32_w]
                     rfl
                   refine one_ (i := 7) (N := some 46) #[true, true, true, true, true, true, true, true, false] rfl rfl (one_of HT_.out (by kernel_rfl)) (by decide) (fun K hK => ?_)
                   refine Kd.N_append_rows_step (Kd.slice 3 (Kd.int .i64)) (w0 := w) w.heap.size (by rfl) (.tmp 42) (.tmp 45) 23 22 (.slice none 0 0) 24 rfl Try.underlying23 info22 rfl (by decide) (by omega) v213 y212 y215 _ _ _ (fun k_ => ((P0_ k_ ∨ P1_ k_) ∨ w.heap.size ≤ k_)) (fun k_ => ((fun k_ => ((P0_ k_ ∨ P1_ k_) ∨ w.heap.size ≤ k_))) k_ ∧ some k_ ≠ (v213 : Value).ownBlock) rfl rfl ?aO ?aR (fun _ hk => hk) ?aF ?aB ?aS ?aL ?_
                   (case aR => exact (by skip; exact Kd.V_F (Kd.V_mono (ok' := (fun k_ => ((fun k_ => ((P0_ k_ ∨ P1_ k_) ∨ w.heap.size ≤ k_))) k_ ∧ some k_ ≠ (v213 : Value).ownBlock)) (HO219.out) (fun k_ hk => ⟨hk.1, hk.2⟩))))
                   (case aB => exact (taaa))
                   (case aF => exact (fun k_ hk => (.inr (Nat.le_trans (zbl (taaa)) hk))))
                   (case aO => exact (by (with_reducible repeat (first | apply Kd.N_alloc | apply Kd.N_drewN | apply Kd.N_drew)); exact HO214.out))
                   (case aS => exact (zbl (taaa)))
                   (case aL => have := LMc15.out; omega)
                   intro v221 w23 ho hb hg hat
                   rw [← Ny220.out] at ho
                   have n0_ := zad (Kd.V_afterv (ok := (fun k_ => ((P0_ k_ ∨ P1_ k_) ∨ w.heap.size ≤ k_))) (tabd) hg hat)
                   have n1_ := zad (Kd.V_afterv (ok := (fun k_ => ((P0_ k_ ∨ P1_ k_) ∨ w.heap.size ≤ k_))) (tabf) hg hat)
                   have n2_ := zad (Kd.V_afterv (ok := (fun k_ => ((P0_ k_ ∨ P1_ k_) ∨ w.heap.size ≤ k_))) (taci) hg hat)
                   have n3_ := zad (Kd.V_afterv (ok := (fun k_ => ((P0_ k_ ∨ P1_ k_) ∨ w.heap.size ≤ k_))) (tacj) hg hat)
                   have n4_ := zad (Kd.V_afterv (ok := (fun k_ => ((P0_ k_ ∨ P1_ k_) ∨ w.heap.size ≤ k_))) (tadd) hg hat)
                   have n5_ := zad (Kd.V_afterv (ok := (fun k_ => ((P0_ k_ ∨ P1_ k_) ∨ w.heap.size ≤ k_))) (taef) hg hat)
                   have n6_ := zad (hb)
                   have n7_ := zad (ho)
                   clear HO_0 HO_1 HL197_0 HL199_0 HO208 HO219 HB HO214; have HO_0 := n0_; have HO_1 := n1_; have HL197_0 := n2_; have HL199_0 := n3_; have HO208 := n4_; have HO219 := n5_; have HB := n6_; have HO222 := n7_; clear n0_ n1_ n2_ n3_ n4_ n5_ n6_ n7_ ho hb hg hat; refine hK.out _ _ trivial (fun hHeld => ?_)
                   clear hK K; refine norm_ (a' := ?_) ?_ ?_
                   rotate_left
                   · show Act.put _ (some 46) _ = _
                     simp only [Act.put, zaa, zab, zac, i64_w, i32_w]
                     rfl
                   refine pure_ (i := 8) (N := some 4) (v := ?_) (a' := ?_) #[true, true, true, true, true, true, true, true, true] rfl rfl (any_of HT_.out (by kernel_rfl)) (fun _ _ _ h => h) (Or.inl ⟨by rfl, ?_⟩) ?_ ?_
                   rotate_left
                   · intro w'
                     go_simp; with_reducible rfl
                   rotate_left
                   · simp only [Act.put, zaa, zab, zac, i64_w, i32_w]
                     rfl
                   refine done_ (done_of HT_.out (by kernel_rfl)) ?_
                   try go_wp2
                   go_ret
                   exact ⟨_, taaf, Kd.N_V (by (with_reducible repeat (first | apply Kd.N_alloc | apply Kd.N_drewN | apply Kd.N_drew)); exact HO222.out), taaa⟩
                 · rw [if_neg c15] at H
                   exact absurd H (taac)
               · rw [if_neg c12] at H
                 exact absurd H (taac)
             · rw [if_neg c11] at H
               exact absurd H (taac)
           · rw [if_neg c10] at H
             exact absurd H (taac)
     · rw [if_neg c4] at H
       exact absurd H (taac)
   · rw [if_neg c3] at H
     have c3b0 : decide (x5_1 < (l0.length : Int)) = false := zbk c3
     clear c3; obtain ⟨y223, hy223⟩ : ∃ y_ : List (List Int), y_ = (([] : List (List Int))) := ⟨_, rfl⟩
     replace H : (if 0 ≤ x5_1 then (if x5_1 ≤ (l0.length : Int) then ((some (l0.take (x5_1 : Int).toNat : List (List Int))).bind fun y226 => (if y223.length + y226.length < 5864062014805 then ((some (y223 ++ y226 : List (List Int))).bind fun y231 => (if y231.length < 5864062014805 then ((some (y231 ++ [l1] : List (List Int))).bind fun y234 => ((some (l0.drop (x5_1 : Int).toNat : List (List Int))).bind fun y237 => (if y234.length + y237.length < 5864062014805 then (some (y234 ++ y237)) else (none)))) else (none))) else (none))) else (none)) else (none)) = some r := by first | (rw [hy223]; with_reducible exact H) | (have H2_ := (zbe _ _).symm.trans H; rw [hy223]; with_reducible exact H2_) | (have H2_ := (zbe _ _).symm.trans H; with_reducible exact H2_) | with_reducible exact H | (rw [hy223]; exact H) | exact H
     have Ny223 := zad hy223; clear hy223; by_cases c24 : 0 ≤ x5_1
     · rw [if_pos c24] at H
       have c24b0 := eq_true c24; have c24b1 : decide (0 ≤ x5_1) = true := zba c24
       clear c24; by_cases c25 : x5_1 ≤ (l0.length : Int)
       · rw [if_pos c25] at H
         have c25b0 := eq_true c25; have c25b1 : decide (x5_1 ≤ (l0.length : Int)) = true := zba c25
         clear c25; obtain ⟨y226, hy226⟩ : ∃ y_ : List (List Int), y_ = (l0.take (x5_1 : Int).toNat) := ⟨_, rfl⟩
         replace H : (if y223.length + y226.length < 5864062014805 then ((some (y223 ++ y226 : List (List Int))).bind fun y231 => (if y231.length < 5864062014805 then ((some (y231 ++ [l1] : List (List Int))).bind fun y234 => ((some (l0.drop (x5_1 : Int).toNat : List (List Int))).bind fun y237 => (if y234.length + y237.length < 5864062014805 then (some (y234 ++ y237)) else (none)))) else (none))) else (none)) = some r := by first | (rw [hy226]; with_reducible exact H) | (have H2_ := (zbe _ _).symm.trans H; rw [hy226]; with_reducible exact H2_) | (have H2_ := (zbe _ _).symm.trans H; with_reducible exact H2_) | with_reducible exact H | (rw [hy226]; exact H) | exact H
         have Ny226 := zad hy226; clear hy226; by_cases c26 : y223.length + y226.length < 5864062014805
         · rw [if_pos c26] at H
           have LMc26 := zad c26; clear c26; obtain ⟨y231, hy231⟩ : ∃ y_ : List (List Int), y_ = (y223 ++ y226) := ⟨_, rfl⟩
           replace H : (if y231.length < 5864062014805 then ((some (y231 ++ [l1] : List (List Int))).bind fun y234 => ((some (l0.drop (x5_1 : Int).toNat : List (List Int))).bind fun y237 => (if y234.length + y237.length < 5864062014805 then (some (y234 ++ y237)) else (none)))) else (none)) = some r := by first | (rw [hy231]; with_reducible exact H) | (have H2_ := (zbe _ _).symm.trans H; rw [hy231]; with_reducible exact H2_) | (have H2_ := (zbe _ _).symm.trans H; with_reducible exact H2_) | with_reducible exact H | (rw [hy231]; exact H) | exact H
           have Ny231 := zad hy231; clear hy231; by_cases c27 : y231.length < 5864062014805
           · rw [if_pos c27] at H
             have LMc27 := zad c27; clear c27; obtain ⟨y234, hy234⟩ : ∃ y_ : List (List Int), y_ = (y231 ++ [l1]) := ⟨_, rfl⟩
             replace H : ((some (l0.drop (x5_1 : Int).toNat : List (List Int))).bind fun y237 => (if y234.length + y237.length < 5864062014805 then (some (y234 ++ y237)) else (none))) = some r := by first | (rw [hy234]; with_reducible exact H) | (have H2_ := (zbe _ _).symm.trans H; rw [hy234]; with_reducible exact H2_) | (have H2_ := (zbe _ _).symm.trans H; with_reducible exact H2_) | with_reducible exact H | (rw [hy234]; exact H) | exact H
             have Ny234 := zad hy234; clear hy234; have c28b0 := eq_true (zas (taab) : 0 ≤ x5_1)
             have c29b0 := eq_true (zas (taab) : x5_1 ≤ (l0.length : Int))
             obtain ⟨y237, hy237⟩ : ∃ y_ : List (List Int), y_ = (l0.drop (x5_1 : Int).toNat) := ⟨_, rfl⟩
             replace H : (if y234.length + y237.length < 5864062014805 then (some (y234 ++ y237)) else (none)) = some r := by first | (rw [hy237]; with_reducible exact H) | (have H2_ := (zbe _ _).symm.trans H; rw [hy237]; with_reducible exact H2_) | (have H2_ := (zbe _ _).symm.trans H; with_reducible exact H2_) | with_reducible exact H | (rw [hy237]; exact H) | exact H
             have Ny237 := zad hy237; clear hy237; by_cases c30 : y234.length + y237.length < 5864062014805
             · rw [if_pos c30] at H
               have LMc30 := zad c30; clear c30; obtain ⟨y242, hy242⟩ : ∃ y_ : List (List Int), y_ = (y234 ++ y237) := ⟨_, rfl⟩
               replace H : (some y242) = some r := by first | (rw [hy242]; with_reducible exact H) | (have H2_ := (zbe _ _).symm.trans H; rw [hy242]; with_reducible exact H2_) | (have H2_ := (zbe _ _).symm.trans H; with_reducible exact H2_) | with_reducible exact H | (rw [hy242]; exact H) | exact H
               have Ny242 := zad hy242; clear hy242; obtain rfl := zbf H
               try go_wp2_with (first | ((with_reducible refine gate_dst (N := 34) rfl ?_); refine Kd.N_lit (Kd.slice 3 (Kd.int .i64)) _ 22 ?hg (N' := 34) ?hd (xs := ([] : List (List Int))) (inner := []) (ok := (fun k_ => ((P0_ k_ ∨ P1_ k_) ∨ w.heap.size ≤ k_))) (okp := (fun k_ => ((P0_ k_ ∨ P1_ k_) ∨ w.heap.size ≤ k_))) ?hr ?hp (fun _ hk => hk) ((show ∀ k_, wr.heap.size ≤ k_ → (fun k_ => ((P0_ k_ ∨ P1_ k_) ∨ w.heap.size ≤ k_)) k_ from fun k_ hk => (.inr (Nat.le_trans (zbl (taaa)) hk))) _ (zcb _)) (Below.refl _ _) (zcb _) (taac) ?_; (case hd => rfl); (case hg => rfl); (case hr => first | (go_simp; done) | (go_simp; rfl)); (case hp => exact (Reps.none _ _)); intro v224 w31 ho32 hb hg_ hnew_; clear hg_ hnew_; (first | rw [← Ny223.out] at ho32 | (simp only [Int.reduceToNat] at ho32; rw [← Ny223.out] at ho32)); have n0_ := zad (Kd.V_elder' (tabd) (Kd.N_base ho32) hb); have n1_ := zad (Kd.V_elder' (tabf) (Kd.N_base ho32) hb); have n2_ := zad (Kd.N_lower ho32 (zbl (taaa))); have n3_ := zad (zbh (taaa) hb); clear HO_0 HO_1 HB; have HO_0 := n0_; have HO_1 := n1_; have HO225 := n2_; have HB := n3_; clear n0_ n1_ n2_ n3_ hb ho32; have q33 : (x5_1 : Int) ≤ ((l0.length : Int) : Int) := zas (taab); obtain ⟨i033, hi033, _, hsz33, _⟩ := info_parts info22; have hroom33 : l0.length ≤ c0 := (Kd.V_reads' HO_0.out).2.1; have hC33 : Kd.F (Kd.slice 3 (Kd.int .i64)) _ _ A0 l0.length l0 := (Kd.V_at (base := w.heap.size) HO_0.out).2.2; have hcut33 := cut_to (P := Try.prog) 23 22 .i64 Try.underlying23 hi033 A0 l0.length c0 x5_1 (zas (taab)) q33 hroom33; have hr33 := Kd.F_take (m := (x5_1 : Int).toNat) hC33 (by omega); have hy33 : y226.length = (x5_1 : Int).toNat := (by rw [Ny226.out, zax]; omega); rw [← Ny226.out] at hr33; rw [← hy33] at hcut33; have HO230 := zad (show Kd.V (Kd.slice 3 (Kd.int .i64)) 22 _ w.heap.size _ (.slice A0 y226.length c0) y226 from Kd.V_mk (by omega) hr33); have HC230 := zad (show y226.length ≤ c0 from by omega); clear hr33 hC33 hroom33 hi033 hsz33; have KY33 := zad hy33; clear hy33; replace q33 := eq_true q33) | ((with_reducible refine gate_builtin (b := .append) (xs := #[.tmp 34, .tmp 37]) rfl ?_); at_builtin; refine Kd.N_append_rows (Kd.slice 3 (Kd.int .i64)) (w0 := w) w.heap.size rfl (.tmp 34) (.tmp 37) 23 22 (.slice none 0 0) 24 rfl Try.underlying23 info22 rfl (by decide) (by omega) v224 y223 y226 _ _ _ (fun k_ => ((P0_ k_ ∨ P1_ k_) ∨ w.heap.size ≤ k_)) (fun k_ => ((fun k_ => ((P0_ k_ ∨ P1_ k_) ∨ w.heap.size ≤ k_))) k_ ∧ some k_ ≠ (v224 : Value).ownBlock) rfl rfl ?aO ?aR (fun _ hk => hk) ?aF ?aB ?aS ?aL ?_; (case aR => exact (by skip; exact Kd.V_F (Kd.V_mono (ok' := (fun k_ => ((fun k_ => ((P0_ k_ ∨ P1_ k_) ∨ w.heap.size ≤ k_))) k_ ∧ some k_ ≠ (v224 : Value).ownBlock)) (HO230.out) (fun k_ hk => ⟨hk.1, hk.2⟩)))); (case aB => exact (taaa)); (case aF => exact (fun k_ hk => (.inr (Nat.le_trans (zbl (taaa)) hk)))); (case aO => exact (by (with_reducible repeat (first | apply Kd.N_alloc | apply Kd.N_drewN | apply Kd.N_drew)); exact HO225.out)); (case aS => exact (zbl (taaa))); (case aL => have := LMc26.out; omega); intro v232 w34 ho hb hg hat; rw [← Ny231.out] at ho; have n0_ := zad (Kd.V_afterv (ok := (fun k_ => ((P0_ k_ ∨ P1_ k_) ∨ w.heap.size ≤ k_))) (tabd) hg hat); have n1_ := zad (Kd.V_afterv (ok := (fun k_ => ((P0_ k_ ∨ P1_ k_) ∨ w.heap.size ≤ k_))) (tabf) hg hat); have n2_ := zad (Kd.V_afterv (ok := (fun k_ => ((P0_ k_ ∨ P1_ k_) ∨ w.heap.size ≤ k_))) (tade) hg hat); have n3_ := zad (hb); have n4_ := zad (ho); clear HO_0 HO_1 HO230 HB HO225; have HO_0 := n0_; have HO_1 := n1_; have HO230 := n2_; have HB := n3_; have HO233 := n4_; clear n0_ n1_ n2_ n3_ n4_ ho hb hg hat))
               have n0_ := zad (zbd HO_0.out)
               have n1_ := zad (zbd HO_1.out)
               have n2_ := zad (zbd HO230.out)
               have n3_ := zad (Kd.N_drew HO233.out)
               have n4_ := zad (zaf HB.out)
               clear HO_0 HO_1 HO230 HO233 HB; have HO_0 := n0_; have HO_1 := n1_; have HO230 := n2_; have HO233 := n3_; have HB := n4_; clear n0_ n1_ n2_ n3_ n4_; have q36 : (x5_1 : Int) ≤ ((l0.length : Int) : Int) := zas (taab)
               obtain ⟨i036, hi036, _, hsz36, _⟩ := info_parts info22
               have hroom36 : l0.length ≤ c0 := (Kd.V_reads' HO_0.out).2.1
               have hC36 : Kd.F (Kd.slice 3 (Kd.int .i64)) _ _ A0 l0.length l0 := (Kd.V_at (base := w.heap.size) HO_0.out).2.2
               have q036 : (0 : Int) ≤ (x5_1 : Int) := zas (taab)
               have hcut36 := cut_from (P := Try.prog) 23 22 .i64 Try.underlying23 hi036 1 hsz36 A0 l0.length c0 x5_1 q036 q36
               have hr36 := Kd.F_cut (m := (x5_1 : Int).toNat) (c := c0) hC36 (by omega) hroom36
               obtain ⟨A36, hA36⟩ : ∃ A1, A1 = (if c0 = (x5_1 : Int).toNat then A0 else (A0 : Option Addr).map (·.add ((x5_1 : Int).toNat * 1))) := ⟨_, rfl⟩
               obtain ⟨c36, hc36⟩ : ∃ c1, c1 = c0 - (x5_1 : Int).toNat := ⟨_, rfl⟩
               have hy36 : y237.length = l0.length - (x5_1 : Int).toNat := (by rw [Ny237.out, zaw] <;> omega)
               rw [show (l0).drop (x5_1 : Int).toNat = y237 from Ny237.out.symm] at hr36
               replace hr36 : Kd.F (Kd.slice 3 (Kd.int .i64)) _ _ A36 y237.length y237 := (by rw [hA36]; exact hr36)
               rw [← hy36, ← hA36, ← hc36] at hcut36
               have HO241 := zad (show Kd.V (Kd.slice 3 (Kd.int .i64)) 22 _ w.heap.size _ (.slice A36 y237.length c36) y237 from Kd.V_mk (by rw [hy36, hc36]; exact Nat.sub_le_sub_right hroom36 _) hr36)
               have HC241 := zad (show y237.length ≤ c36 from by rw [hy36, hc36]; exact Nat.sub_le_sub_right hroom36 _)
               clear hr36 hC36 hroom36 hi036 hsz36 hc36; have KY36 := zad hy36; have KA36 := zad hA36; clear hy36 hA36; replace q36 := eq_true q36
               refine start_ (n := 9) (S := fun w' => True) (ds := []) #[false, false, false, false, false, false, false, false, false] (by kernel_rfl) rfl rfl trivial (fun hHeld => ?_); refine with_tabW spec_liPut.tab7 spec_liPut.bits7 (fun HT_ HW_ => ?_)
               generalize w34.drew = w35 at HO_0 HO_1 HO230 HO233 HB HO241 hHeld ⊢
               refine pure_ (i := 0) (N := some 39) (v := ?_) (a' := ?_) #[true, false, false, false, false, false, false, false, false] rfl rfl (any_of HT_.out (by kernel_rfl)) (fun _ _ _ h => h) (Or.inl ⟨by rfl, ?_⟩) ?_ ?_
               rotate_left
               · intro w'
                 go_simp; with_reducible rfl
               rotate_left
               · simp only [Act.put, zaa, zab, zac, i64_w, i32_w]
                 rfl
               refine pure_ (i := 1) (N := some 40) (v := ?_) (a' := ?_) #[true, true, false, false, false, false, false, false, false] rfl rfl (any_of HT_.out (by kernel_rfl)) (fun _ _ _ h => h) (Or.inl ⟨by rfl, ?_⟩) ?_ ?_
               rotate_left
               · intro w'
                 go_simp; with_reducible rfl
               rotate_left
               · simp only [Act.put, zaa, zab, zac, i64_w, i32_w]
                 rfl
               refine pure_ (i := 4) (N := some 43) (v := ?_) (a' := ?_) #[true, true, false, false, true, false, false, false, false] rfl rfl (any_of HT_.out (by kernel_rfl)) (fun _ _ _ h => h) (Or.inl ⟨by rfl, ?_⟩) ?_ ?_
               rotate_left
               · intro w'
                 go_simp; with_reducible rfl
               rotate_left
               · simp only [Act.put, zaa, zab, zac, i64_w, i32_w]
                 rfl
               refine pure_ (i := 5) (N := some 44) (v := ?_) (a' := ?_) #[true, true, false, false, true, true, false, false, false] rfl rfl (any_of HT_.out (by kernel_rfl)) (fun _ _ _ h => h) (Or.inl ⟨by rfl, ?_⟩) ?_ ?_
               rotate_left
               · intro w'
                 go_simp; with_reducible rfl
               rotate_left
               · simp only [Act.put, zaa, zab, zac, i64_w, i32_w]
                 rfl
               refine pure_ (i := 6) (N := some 45) (v := ?_) (a' := ?_) #[true, true, false, false, true, true, true, false, false] rfl rfl (any_of HT_.out (by kernel_rfl)) (fun _ _ _ h => h) (Or.inl ⟨by rfl, ?_⟩) ?_ ?_
               rotate_left
               · intro w'
                 go_simp; with_reducible rfl
               rotate_left
               · simp only [Act.put, zaa, zab, zac, i64_w, i32_w]
                 rfl
               refine one_ (i := 2) (N := some 41) #[true, true, true, false, true, true, true, false, false] rfl rfl (one_of HT_.out (by kernel_rfl)) (by decide) (fun K hK => ?_)
               refine value_ (w1 := ?_) (v := ?_) (by rfl) rfl ?_ ?_
               rotate_left 2
               · go_simp
                 constructor
                 · rfl
                 · rfl
               refine hK.out _ _ trivial (fun hHeld => ?_)
               clear hK K; refine norm_ (a' := ?_) ?_ ?_
               rotate_left
               · show Act.put _ (some 41) _ = _
                 simp only [Act.put, zaa, zab, zac, i64_w, i32_w]
                 rfl
               refine one_ (i := 3) (N := some 42) #[true, true, true, true, true, true, true, false, false] rfl rfl (one_of HT_.out (by kernel_rfl)) (by decide) (fun K hK => ?_)
               refine Kd.N_append_step (Kd.slice 3 (Kd.int .i64)) (w0 := w) w.heap.size (by rfl) (.tmp 39) (.tmp 41) 23 22 (.slice none 0 0) 24 rfl Try.underlying23 info22 rfl (by decide) (by omega) v232 y231 l1 [.slice A1 l1.length c1] (fun k_ => ((P0_ k_ ∨ P1_ k_) ∨ w.heap.size ≤ k_)) (fun k_ => ((fun k_ => ((P0_ k_ ∨ P1_ k_) ∨ w.heap.size ≤ k_))) k_ ∧ some k_ ≠ (v232 : Value).ownBlock) rfl rfl ?aP (fun _ hk => hk) ?aF ?aO ?aB ?aS ?aL ?_
               (case aP => exact (Kd.FK_slice_mk (Kd.V_reads' (Kd.V_mono (ok' := (fun k_ => ((fun k_ => ((P0_ k_ ∨ P1_ k_) ∨ w.heap.size ≤ k_))) k_ ∧ some k_ ≠ (v232 : Value).ownBlock)) (HO_1.out) (fun k_ hk => ⟨hk.1, hk.2⟩))).2.1 (Kd.V_F (Kd.V_mono (ok' := (fun k_ => ((fun k_ => ((P0_ k_ ∨ P1_ k_) ∨ w.heap.size ≤ k_))) k_ ∧ some k_ ≠ (v232 : Value).ownBlock)) (HO_1.out) (fun k_ hk => ⟨hk.1, hk.2⟩)))))
               (case aB => exact (taaa))
               (case aF => exact (fun k_ hk => (.inr (Nat.le_trans (zbl (taaa)) hk))))
               (case aO => exact (by (with_reducible repeat (first | apply Kd.N_alloc | apply Kd.N_drewN | apply Kd.N_drew)); exact HO233.out))
               (case aS => exact (zbl (taaa)))
               (case aL => have := LMc27.out; omega)
               intro v235 w37 ho hb hg hat
               rw [← Ny234.out] at ho
               have n0_ := zad (Kd.V_afterv (ok := (fun k_ => ((P0_ k_ ∨ P1_ k_) ∨ w.heap.size ≤ k_))) (tabd) hg hat)
               have n1_ := zad (Kd.V_afterv (ok := (fun k_ => ((P0_ k_ ∨ P1_ k_) ∨ w.heap.size ≤ k_))) (tabf) hg hat)
               have n2_ := zad (Kd.V_afterv (ok := (fun k_ => ((P0_ k_ ∨ P1_ k_) ∨ w.heap.size ≤ k_))) (tade) hg hat)
               have n3_ := zad (Kd.V_afterv (ok := (fun k_ => ((P0_ k_ ∨ P1_ k_) ∨ w.heap.size ≤ k_))) (taeg) hg hat)
               have n4_ := zad (hb)
               have n5_ := zad (ho)
               clear HO_0 HO_1 HO230 HO241 HB HO233; have HO_0 := n0_; have HO_1 := n1_; have HO230 := n2_; have HO241 := n3_; have HB := n4_; have HO236 := n5_; clear n0_ n1_ n2_ n3_ n4_ n5_ ho hb hg hat; refine hK.out _ _ trivial (fun hHeld => ?_)
               clear hK K; refine norm_ (a' := ?_) ?_ ?_
               rotate_left
               · show Act.put _ (some 42) _ = _
                 simp only [Act.put, zaa, zab, zac, i64_w, i32_w]
                 rfl
               refine one_ (i := 7) (N := some 46) #[true, true, true, true, true, true, true, true, false] rfl rfl (one_of HT_.out (by kernel_rfl)) (by decide) (fun K hK => ?_)
               refine Kd.N_append_rows_step (Kd.slice 3 (Kd.int .i64)) (w0 := w) w.heap.size (by rfl) (.tmp 42) (.tmp 45) 23 22 (.slice none 0 0) 24 rfl Try.underlying23 info22 rfl (by decide) (by omega) v235 y234 y237 _ _ _ (fun k_ => ((P0_ k_ ∨ P1_ k_) ∨ w.heap.size ≤ k_)) (fun k_ => ((fun k_ => ((P0_ k_ ∨ P1_ k_) ∨ w.heap.size ≤ k_))) k_ ∧ some k_ ≠ (v235 : Value).ownBlock) rfl rfl ?aO ?aR (fun _ hk => hk) ?aF ?aB ?aS ?aL ?_
               (case aR => exact (by skip; exact Kd.V_F (Kd.V_mono (ok' := (fun k_ => ((fun k_ => ((P0_ k_ ∨ P1_ k_) ∨ w.heap.size ≤ k_))) k_ ∧ some k_ ≠ (v235 : Value).ownBlock)) (HO241.out) (fun k_ hk => ⟨hk.1, hk.2⟩))))
               (case aB => exact (taaa))
               (case aF => exact (fun k_ hk => (.inr (Nat.le_trans (zbl (taaa)) hk))))
               (case aO => exact (by (with_reducible repeat (first | apply Kd.N_alloc | apply Kd.N_drewN | apply Kd.N_drew)); exact HO236.out))
               (case aS => exact (zbl (taaa)))
               (case aL => have := LMc30.out; omega)
               intro v243 w38 ho hb hg hat
               rw [← Ny242.out] at ho
               have n0_ := zad (Kd.V_afterv (ok := (fun k_ => ((P0_ k_ ∨ P1_ k_) ∨ w.heap.size ≤ k_))) (tabd) hg hat)
               have n1_ := zad (Kd.V_afterv (ok := (fun k_ => ((P0_ k_ ∨ P1_ k_) ∨ w.heap.size ≤ k_))) (tabf) hg hat)
               have n2_ := zad (Kd.V_afterv (ok := (fun k_ => ((P0_ k_ ∨ P1_ k_) ∨ w.heap.size ≤ k_))) (tade) hg hat)
               have n3_ := zad (Kd.V_afterv (ok := (fun k_ => ((P0_ k_ ∨ P1_ k_) ∨ w.heap.size ≤ k_))) (taeg) hg hat)
               have n4_ := zad (hb)
               have n5_ := zad (ho)
               clear HO_0 HO_1 HO230 HO241 HB HO236; have HO_0 := n0_; have HO_1 := n1_; have HO230 := n2_; have HO241 := n3_; have HB := n4_; have HO244 := n5_; clear n0_ n1_ n2_ n3_ n4_ n5_ ho hb hg hat; refine hK.out _ _ trivial (fun hHeld => ?_)
               clear hK K; refine norm_ (a' := ?_) ?_ ?_
               rotate_left
               · show Act.put _ (some 46) _ = _
                 simp only [Act.put, zaa, zab, zac, i64_w, i32_w]
                 rfl
               refine pure_ (i := 8) (N := some 4) (v := ?_) (a' := ?_) #[true, true, true, true, true, true, true, true, true] rfl rfl (any_of HT_.out (by kernel_rfl)) (fun _ _ _ h => h) (Or.inl ⟨by rfl, ?_⟩) ?_ ?_
               rotate_left
               · intro w'
                 go_simp; with_reducible rfl
               rotate_left
               · simp only [Act.put, zaa, zab, zac, i64_w, i32_w]
                 rfl
               refine done_ (done_of HT_.out (by kernel_rfl)) ?_
               try go_wp2
               go_ret
               exact ⟨_, taaf, Kd.N_V (by (with_reducible repeat (first | apply Kd.N_alloc | apply Kd.N_drewN | apply Kd.N_drew)); exact HO244.out), taaa⟩
             · rw [if_neg c30] at H
               exact absurd H (taac)
           · rw [if_neg c27] at H
             exact absurd H (taac)
         · rw [if_neg c26] at H
           exact absurd H (taac)
       · rw [if_neg c25] at H
         exact absurd H (taac)
     · rw [if_neg c24] at H
       exact absurd H (taac)
end Go.Proofs.Ytdkimdlbjeobiaa.A
