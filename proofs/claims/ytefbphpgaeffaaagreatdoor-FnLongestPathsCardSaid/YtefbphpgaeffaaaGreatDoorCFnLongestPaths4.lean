/- What the law FnLongestPaths reaches, part 4: Lean functions with the same answers as the Go functions, the proofs that the Go code comes to these answers, and lemmas about them; no condition beyond those that each theorem names. -/
import Derived.Test.YtefbphpgaeffaaaGreatDoorCFnLongestPathsw1
import Derived.Lib.SlKept
import Derived.Shelf.SlicesE.DeleteFunc
import Derived.Shelf.SlGeneric
import Derived.Shelf.SlLaysH
import Derived.Ground.SlgfProg
import Derived.Test.YtefbphpgaeffaaaGreatDoorProg
import Derived.Deep.RegionHeld3
import Derived.Shelf.SlicesE.IndexFunc
import Derived.Shelf.Strconv.Itoa3
import Derived.Shelf.Strings.OnBuilder
import Derived.Lib.Split
import Derived.Lib.IndexLaws
import Derived.Lib.IndexBytes
import Derived.Maps.OwnSet
import Derived.StringKeys
import Derived.Deep.RegionLaw
import Derived.Test.YtefbphpgaeffaaaGreatDoorCFnLongestPaths1
import Derived.Test.YtefbphpgaeffaaaGreatDoorCFnLongestPaths2
import Derived.Test.YtefbphpgaeffaaaGreatDoorCFnLongestPaths3
set_option linter.unusedVariables false
set_option linter.unusedSimpArgs false
set_option maxHeartbeats 8000000
set_option maxRecDepth 100000
namespace Go.Proofs.YtefbphpgaeffaaaGreatDoor.A
open Go.RowKit Go.Proofs.YtefbphpgaeffaaaGreatDoorW.PrintWords Go.Proofs.YtefbphpgaeffaaaGreatDoorW.PrintLast Go.Proofs.YtefbphpgaeffaaaGreatDoorW.PrintMore
attribute [local go_sem] max2_int min2_int max_two min_two max_three min_three max_four min_four
def ex (l:List Int) (t:Int):Int:=(l.map fun x=>max (x - t) 0).sum
theorem ex_nil (t:Int):ex [] t=0:=rfl
theorem ex_cons (x:Int) (l:List Int) (t:Int):ex (x :: l) t=max (x - t) 0+ex l t:=by simp [ex]
theorem ex_perm {a b:List Int} (h:a.Perm b) (t:Int):ex a t=ex b t:=perm_sum (h.map _)
theorem ex_desc (a:List Int) (t:Int):ex (descL a) t=ex a t:=ex_perm (descL_perm a) t
theorem ex_nn:∀ (l:List Int) (t:Int),0≤ex l t
 | [],t=>by rw [ex_nil];exact Int.le_refl _
 | x :: l,t=>by
  have:=ex_nn l t;rw [ex_cons];omega
theorem pre_cons (x:Int) (l:List Int) (m:Nat):pre (x :: l) (m+1)=x+pre l m:=by simp [pre]
theorem pre_ex (t:Int):∀ (l:List Int) (m:Nat),m≤l.length→pre l m≤m*t+ex l t
 | l,0,_=>by
  have:=ex_nn l t;rw [pre_zero];simp
  exact this
 | [],m+1,h=>by simp at h
 | x :: l,m+1,h=>by
  have ih:=pre_ex t l m (taax);rw [pre_cons,ex_cons,Int.natCast_add,Int.add_mul];simp only [Int.natCast_one,Int.one_mul];omega
theorem pre_ex_eq (t:Int):∀ (l:List Int) (k:Nat),k≤l.length→(∀ i (h:i<l.length),i<k→t≤l[i])→(∀ i (h:i<l.length),k≤i→l[i]≤t)→pre l k=k*t+ex l t
 | [],k,h,_,_=>by
  have:k=0:=by simpa using h
  subst this;simp [pre_zero,ex_nil]
 | x :: l,0,h,h1,h2=>by
  have ih:=pre_ex_eq t l 0 (Nat.zero_le _) (fun i _ hi=>absurd hi (Nat.not_lt_zero _)) (fun i hi _=>h2 (i+1) (by simpa using hi) (Nat.zero_le _));have hx:x≤t:=h2 0 (taad) (zcf _);rw [pre_zero] at ih ⊢
  rw [ex_cons];simp at ih ⊢
  omega
 | x :: l,k+1,h,h1,h2=>by
  have ih:=pre_ex_eq t l k (taax) (fun i hi hk=>h1 (i+1) (by simpa using hi) (by omega)) (fun i hi hk=>h2 (i+1) (by simpa using hi) (by omega));have hx:t≤x:=h1 0 (taad) (by omega);rw [pre_cons,ex_cons,Int.natCast_add,Int.add_mul];simp only [Int.natCast_one,Int.one_mul];omega
theorem cut_exists (t:Int):∀ (l:List Int),Desc l→∃ k,k≤l.length∧(∀ i (h:i<l.length),i<k→t≤l[i])∧(∀ i (h:i<l.length),k≤i→l[i]≤t)
 | [],_=>⟨0,zcf _,fun i h=>absurd h (Nat.not_lt_zero _),fun i h=>absurd h (Nat.not_lt_zero _)⟩
 | x :: l,hd=>by
  unfold Desc at hd
  rw [List.pairwise_cons] at hd
  by_cases hx:t≤x
  ·obtain ⟨k,h1,h2,h3⟩:=cut_exists t l hd.2
   refine ⟨k+1,by simpa using h1,fun i h hi => ?_,fun i h hi => ?_⟩
   ·cases i with
    | zero=>exact hx
    | succ i=>exact h2 i (taax) (by omega)
   ·cases i with
    | zero=>omega
    | succ i=>exact h3 i (taax) (by omega)
  ·refine ⟨0,Nat.zero_le _,fun i h hi=>absurd hi (Nat.not_lt_zero _),fun i h _ => ?_⟩
   cases i with
   | zero =>
    show x≤t
    omega
   | succ i =>
    have hi:i<l.length:=by simpa using h
    have:=hd.1 l[i] (List.getElem_mem hi);show l[i]≤t
    omega
theorem ex_pre {l:List Int} (hd:Desc l) (t:Int):∃ k,k≤l.length∧pre l k=k*t+ex l t:=by
 obtain ⟨k,h1,h2,h3⟩:=cut_exists t l hd;exact ⟨k,h1,pre_ex_eq t l k h1 h2 h3⟩
theorem pre_at {l:List Int} (hd:Desc l) (m:Nat) (hm:m<l.length):pre l (m+1)=(m+1:Nat)*rd l (m:Int)+ex l (rd l (m:Int)):=by
 refine pre_ex_eq _ l (m+1) hm (fun i h hi => ?_) (fun i h hi => ?_)
 ·have:=desc_rd hd (show i≤m by omega) hm
  rw [rdn h] at this
  exact this
 ·have:=desc_rd hd (show m≤i by omega) h
  rw [rdn h] at this
  exact this
theorem dom_ex {x y:List Int} (hx:Desc x) (hy:Desc y):Dom y x↔x.length=y.length∧x.sum=y.sum∧∀ t,ex x t≤ex y t:=by
 unfold Dom;constructor
 ·rintro ⟨h1,h2,h3⟩
  refine ⟨h1.symm,h2.symm,fun t => ?_⟩
  obtain ⟨k,hk,e⟩:=ex_pre hx t;have a:=h3 k;have b:=pre_ex t y k (by omega);omega
 ·rintro ⟨h1,h2,h3⟩
  refine ⟨h1.symm,h2.symm,fun m => ?_⟩
  cases m with
  | zero=>rw [pre_zero,pre_zero];exact Int.le_refl _
  | succ m =>
   by_cases hm:m<y.length
   ·have a:=pre_at hy m hm
    have b:=pre_ex (rd y (m:Int)) x (m+1) (by omega);have c:=h3 (rd y (m:Int));omega
   ·rw [pre_all (by omega),pre_all (by omega)]
    omega
theorem maj_ex (a b:List Int):majB a b=true↔a.length=b.length∧a.sum=b.sum∧∀ t,ex a t≤ex b t:=by
 rw [majB_dom,dom_ex (descL_desc a) (descL_desc b),descL_length,descL_length,descL_sum,descL_sum];simp only [ex_desc]
theorem maj_trans {a b c:List Int} (h1:majB a b=true) (h2:majB b c=true):majB a c=true:=by
 rw [maj_ex] at *
 exact ⟨by omega,by omega,fun t=>Int.le_trans (h1.2.2 t) (h2.2.2 t)⟩
theorem maj_refl (a:List Int):majB a a=true:=(maj_ex a a).2 ⟨rfl,rfl,fun _=>Int.le_refl _⟩
theorem maj_antisymm {a b:List Int} (h1:majB a b=true) (h2:majB b a=true):descL a=descL b:=((maj_both a b).1 ⟨h1,h2⟩).2
theorem maj_desc_l (a b:List Int):majB (descL a) b=majB a b:=by
 rw [Bool.eq_iff_iff,maj_ex,maj_ex,descL_length,descL_sum];simp only [ex_desc]
theorem maj_desc_r (a b:List Int):majB a (descL b)=majB a b:=by
 rw [Bool.eq_iff_iff,maj_ex,maj_ex,descL_length,descL_sum];simp only [ex_desc]
mutual
def impl_rankings.l0:Nat→Int→Int→List (List Int)→Int→Option ((List (List Int)))
 | 0,_,_,_,_=>none
 | k+1,x0,x1,x7,x8=>if x8≥0 then (impl_rankings.j1 k x0 x1 x7 x8 (decide ((wrap64 (x8*x0))≥x1))) else (impl_rankings.j1 k x0 x1 x7 x8 false)
def impl_rankings.j1:Nat→Int→Int→List (List Int)→Int→Bool→Option ((List (List Int)))
 | 0,_,_,_,_,_=>none
 | k+1,x0,x1,x7,x8,x29=>if x29=true then ((impl_rankings.f k (wrap64 (x0 - 1)) (wrap64 (x1 - x8)) x8).bind fun t608=>(impl_rankings.l1 k x0 x1 x7 x8 t608 (t608.length:Int) 0)) else (some x7)
def impl_rankings.l1:Nat→Int→Int→List (List Int)→Int→List (List Int)→Int→Int→Option ((List (List Int)))
 | 0,_,_,_,_,_,_,_=>none
 | k+1,x0,x1,x7,x8,x38,x39,x40=>if x40<x39 then (if 0≤x40 then (if x40<(x38.length:Int) then ((some (([x8]:List Int):List Int)).bind fun y612=>(if y612.length+(rd_L2 x38 x40).length<17592186044416 then (if x7.length<5864062014805 then (impl_rankings.l1 k x0 x1 (x7 ++ [(y612 ++ (rd_L2 x38 x40))]) x8 x38 x39 (wrap64 (x40+1))) else (none)) else (none))) else (none)) else (none)) else (impl_rankings.l0 k x0 x1 x7 (wrap64 (x8 - 1)))
def impl_rankings.f:Nat→Int→Int→Int→Option ((List (List Int)))
 | 0,_,_,_=>none
 | k+1,a0,a1,a2=>if a0=0 then (if a1=0 then (some (([(([]:List Int))]:List (List Int)))) else (some ([]:List (List Int)))) else (impl_rankings.l0 k a0 a1 (([]:List (List Int))) (mn a1 a2))
end
theorem impl_rankings.calls (k:Nat):∀ (a0:Int) (a1:Int) (a2:Int) (r:List (List Int)) (w:World) (h:impl_rankings.f k a0 a1 a2=some r),
 Calls Tryz.prog 81 #[.int .i64 a0,.int .i64 a1,.int .i64 a2] w fun e w'=>∃ v0_:Value,e = .returned (v0_)∧Kd.S (Kd.slice 3 (Kd.int .i64)) 24 w' w.heap.size (fun _=>True) v0_ r∧Below w.heap.size w w':=by
 induction k using Nat.strongRecOn with
 | _ k ih =>
 intro a0 a1 a2 r w h
 cases k with
 | zero=>exact absurd h (by simp [impl_rankings.f])
 | succ k =>
 simp only [impl_rankings.f] at h
 have HB:=zad (Below.refl w.heap.size w);have H:(if a0=0 then (if a1=0 then (some (([(([]:List Int))]:List (List Int)))) else (some ([]:List (List Int)))) else (impl_rankings.l0 k a0 a1 (([]:List (List Int))) (mn a1 a2)))=some r:=h;clear h;by_cases c4:a0=0
 ·rw [if_pos c4] at H
  have c4b0:(a0 == 0)=true:=beq_iff_eq.mpr c4;have c4b1:(a0 != 0)=false:=bne_eq_false_iff_eq.mpr c4;clear c4;by_cases c5:a1=0
  ·rw [if_pos c5] at H
   have c5b0:(a1 == 0)=true:=beq_iff_eq.mpr c5;have c5b1:(a1 != 0)=false:=bne_eq_false_iff_eq.mpr c5;clear c5;obtain ⟨y599,hy599⟩:∃ y_:List Int,y_=(([]:List Int)):=⟨_,rfl⟩;replace H:(some (([y599]:List (List Int))))=some r:=by first | (rw [hy599];with_reducible exact H) | (have H2_:=(zbf _ _).symm.trans H;rw [hy599];with_reducible exact H2_) | (have H2_:=(zbf _ _).symm.trans H;with_reducible exact H2_) | with_reducible exact H | (rw [hy599];exact H) | exact H
   have Ny599:=zad hy599;clear hy599;obtain ⟨y602,hy602⟩:∃ y_:List (List Int),y_=(([y599]:List (List Int))):=⟨_,rfl⟩;replace H:(some y602)=some r:=by first | (rw [hy602];with_reducible exact H) | (have H2_:=(zbf _ _).symm.trans H;rw [hy602];with_reducible exact H2_) | (have H2_:=(zbf _ _).symm.trans H;with_reducible exact H2_) | with_reducible exact H | (rw [hy602];exact H) | exact H
   have Ny602:=zad hy602;clear hy602;obtain rfl:=zbg H;go_enter Tryz.func81,Tryz.ntmps81;go_wp2_with (first | ((with_reducible refine gate_dst (N:=15) rfl ?_);refine Kd.R_lit (Kd.int .i64) _ 3 ?hg (N:=15) ?hd (xs:=([]:List Int)) (inner:=[]) (ok:=fun _=>True) (okp:=fun _=>True) ?hr ?hp (fun _ hk=>hk) trivial (Below.refl _ _) (zcf _) (taad) ?_;(case hd=>rfl);(case hg=>rfl);(case hr=>first | (go_simp;done) | (go_simp;rfl));(case hp=>exact (Reps.none _ _));intro v600 w6 ho7 hb hg_ hnew_;clear hg_ hnew_;(first | rw [← Ny599.out] at ho7 | (simp only [Int.reduceToNat] at ho7;rw [← Ny599.out] at ho7));have n0_:=zad (zby ho7 (zbo (taaa)));have n1_:=zad (zbi (taaa) hb);clear HB;have HO601:=n0_;have HB:=n1_;clear n0_ n1_ hb ho7;obtain ⟨Ao8,co8,eo8⟩:=zbz HO601.out;subst eo8) | ((with_reducible refine gate_dst (N:=16) rfl ?_);refine Kd.S_lits (Kd.slice 3 (Kd.int .i64)) _ 24 ?hg (N:=16) ?hd (xs:=([y599]:List (List Int))) (inner:=[.slice Ao8 y599.length co8]) (ok:=fun _=>True) (fun j_ _=>j_=0) ?hr rfl ?hp (fun i_ j_ _ h1 h2=>h1.trans h2.symm) (fun _ _ _=>trivial) trivial (Below.refl _ _) (zbo (taaa)) (taad) ?_;(case hd=>rfl);(case hg=>rfl);(case hr=>first | (go_simp;done) | (go_simp;rfl));(case hp=>intro j_ x_ hx_;cases j_ with | zero=>(simp only [List.getElem?_cons_zero,zbp] at hx_;subst hx_;exact ⟨_,rfl,zbu (by (with_reducible repeat (first | apply zai | apply zaj | apply zak));exact HO601.out) (fun _ _=>rfl)⟩) | succ j_=>simp at hx_);intro v603 w9 hoLITho10 hb hg_ hnew_;replace hb:=(fun {a b:World} (h:a.grownBy b none)=>(⟨h.os,h.tape,h.output,h.size,fun i hi=>h.block i hi (taad)⟩:Below a.heap.size a b)) hg_;clear hg_ hnew_;(first | rw [← Ny602.out] at hoLITho10 | (simp only [Int.reduceToNat] at hoLITho10;rw [← Ny602.out] at hoLITho10));have n0_:=zad (hoLITho10);have n1_:=zad (zbi (taaa) hb);clear HB HO601;have HO604:=n0_;have HB:=n1_;clear n0_ n1_ hb hoLITho10))
   go_ret
   exact ⟨_,taah,by (with_reducible repeat (first | apply Kd.S_alloc | apply Kd.S_drewN | apply Kd.S_drew));exact HO604.out,taaa⟩
  ·rw [if_neg c5] at H
   have c5b0:(a1 == 0)=false:=zbs.mpr c5;have c5b1:(a1 != 0)=true:=bne_iff_ne.mpr c5;obtain rfl:=zbg H;go_enter Tryz.func81,Tryz.ntmps81;go_wp2
   go_ret
   exact ⟨_,taah,tacf,taaa⟩
 ·rw [if_neg c4] at H
  have c4b0:(a0 == 0)=false:=zbs.mpr c4;have c4b1:(a0 != 0)=true:=bne_iff_ne.mpr c4;obtain ⟨y605,hy605⟩:∃ y_:List (List Int),y_=(([]:List (List Int))):=⟨_,rfl⟩;replace H:(impl_rankings.l0 k a0 a1 y605 (mn a1 a2))=some r:=by first | (rw [hy605];with_reducible exact H) | (have H2_:=(zbf _ _).symm.trans H;rw [hy605];with_reducible exact H2_) | (have H2_:=(zbf _ _).symm.trans H;with_reducible exact H2_) | with_reducible exact H | (rw [hy605];exact H) | exact H
  have Ny605:=zad hy605;clear hy605;obtain ⟨ji11,hji11⟩:∃ j_:Int,(mn a1 a2)=j_:=⟨_,rfl⟩;replace H:(impl_rankings.l0 k a0 a1 y605 ji11)=some r:=by first | (rw [hji11] at H;exact H) | (simp only [hji11] at H ⊢;exact H)
  have hji11_:(if a2<a1 then a2 else a1)=ji11:=hji11;have H':=zad H;clear H;go_enter Tryz.func81,Tryz.ntmps81;go_wp2_with (first | ((with_reducible refine gate_dst (N:=17) rfl ?_);refine Kd.S_lit (Kd.slice 3 (Kd.int .i64)) _ 24 ?hg (N:=17) ?hd (xs:=([]:List (List Int))) (inner:=[]) (ok:=fun _=>True) (okp:=fun _=>True) ?hr ?hp (fun _ hk=>hk) trivial (Below.refl _ _) (zcf _) (taad) ?_;(case hd=>rfl);(case hg=>rfl);(case hr=>first | (go_simp;done) | (go_simp;rfl));(case hp=>exact (Reps.none _ _));intro v606 w12 ho13 hb hg_ hnew_;clear hg_ hnew_;(first | rw [← Ny605.out] at ho13 | (simp only [Int.reduceToNat] at ho13;rw [← Ny605.out] at ho13));have n0_:=zad (Kd.S_lower ho13 (zbo (taaa)));have n1_:=zad (zbi (taaa) hb);clear HB;have HO607:=n0_;have HB:=n1_;clear n0_ n1_ hb ho13))
  go_loopg [7,8] k (fun kq v7 v8 w'=>∃ (x7_1:List (List Int)) (x8_1:Int),v8 = .int .i64 x8_1∧Aside0 (impl_rankings.l0 kq a0 a1 x7_1 x8_1=some r)∧Aside0 (kq≤k)∧Aside0 (Kd.S (Kd.slice 3 (Kd.int .i64)) 24 w' w.heap.size (fun _=>True) v7 x7_1)∧Aside0 (Below w.heap.size w w'))
  case atStart=>exact ⟨(y605),(ji11),(by first | rfl | (simp;done) | (simp only [← hji11] <;> (first | rfl | simp)) | (simp [*];done)),H',⟨zcf _⟩,⟨by (with_reducible repeat (first | apply Kd.S_alloc | apply Kd.S_drewN | apply Kd.S_drew));exact HO607.out⟩,⟨taaa⟩⟩
  case round =>
   clear H';try clear p2
   try clear c4
   try clear c4b0
   try clear c4b1
   try clear c5
   try clear c5b0
   try clear c5b1
   try clear c8
   obtain ⟨x7_1,x8_1,rfl,HA,HK1,HO_7,HB⟩:=hrel;cases gk with
   | zero=>exact absurd HA.out (by simp [impl_rankings.l0])
   | succ k1 =>
    have H:=HA.out;clear HA;simp only [impl_rankings.l0] at H;have HC14:=zad H;clear H;go_upto_region 7 with (fail)
    go_cut [29] (fun v29 wc=>∃ (kq:Nat) (x29_13:Bool),v29 = .bool x29_13∧Aside0 (impl_rankings.j1 kq a0 a1 x7_1 x8_1 x29_13=some r)∧Aside0 (kq≤k1)∧Aside0 (Kd.S (Kd.slice 3 (Kd.int .i64)) 24 wc w.heap.size (fun _=>True) u7 x7_1)∧Aside0 (Below w.heap.size w wc))
    case first =>
     have H:=HC14.out;clear HC14;by_cases c15:x8_1≥0
     ·rw [if_pos c15] at H
      have c15b0:decide (0≤x8_1)=true:=zba c15;clear c15;(first | rw [c15b0] | (simp only [i64_w,i32_w];rw [c15b0]) | skip)
      have H':=zad H;clear H;go_wp2
      go_meet
      case rel=>exact ⟨_,(decide ((wrap64 (x8_1*a0))≥a1)),(taae),H',⟨tabl⟩,⟨taaw⟩,⟨taaa⟩⟩
     ·rw [if_neg c15] at H
      have c15b0:decide (0≤x8_1)=false:=zbl c15;clear c15;(first | rw [c15b0] | (simp only [i64_w,i32_w];rw [c15b0]) | skip)
      have H':=zad H;clear H;go_wp2
      go_meet
      case rel=>exact ⟨_,(false),(taae),H',⟨tabl⟩,⟨taaw⟩,⟨taaa⟩⟩
    case rest =>
     clear HC14;try clear c1
     try clear p2
     try clear c4
     try clear c4b0
     try clear c4b1
     try clear c5
     try clear c5b0
     try clear c5b1
     try clear p6
     try clear c8
     try clear c15
     try clear c15b0
     try clear p2
     obtain ⟨kq,x29_13,rfl,HA,HJ13,HO_7,HB⟩:=hcut;cases kq with
     | zero=>exact absurd HA.out (by simp [impl_rankings.j1])
     | succ kj13 =>
      have H:=HA.out;clear HA;simp only [impl_rankings.j1] at H;by_cases c16:x29_13=true
      ·subst c16
       have H1:((impl_rankings.f kj13 (wrap64 (a0 - 1)) (wrap64 (a1 - x8_1)) x8_1).bind fun t608=>(impl_rankings.l1 kj13 a0 a1 x7_1 x8_1 t608 (t608.length:Int) 0))=some r:=by rw [if_pos rfl] at H;exact H
       clear H;have H:=H1;clear H1;replace H:=zay.mp H;obtain ⟨t608,A170,H⟩:=H;replace H:(impl_rankings.l1 kj13 a0 a1 x7_1 x8_1 t608 (t608.length:Int) 0)=some r:=H;have A17:=zad A170;clear A170;have H':=zad H;clear H;go_wp2_with (first | ((with_reducible refine zbj (f:=81) rfl ?_);refine zbr (some 38) rfl rfl Tryz.func81 (by kernel_rfl) rfl #[.int .i64 (wrap64 (a0 - 1)),.int .i64 (wrap64 (a1 - x8_1)),.int .i64 x8_1] rfl (taac) ?_;(with_reducible refine (ih kj13 (by have:=HK1.out;have:=HJ13.out;omega) (wrap64 (a0 - 1)) (wrap64 (a1 - x8_1)) x8_1 t608 _ A17.out).mono ?_);rintro e w18 ⟨v609,rfl,ho0,hb⟩;refine ⟨_,rfl,?_⟩;have n0_:=zad (Kd.S_elder' (taaw) (Kd.S_base ho0) hb);have n1_:=zad (Kd.S_lower (Kd.S_new' ho0 (Kd.S_lt (taaw))) (zbo (taaa)));have n2_:=zad (zbi (taaa) hb);clear HO_7 HB;have HO_7:=n0_;have HO610:=n1_;have HB:=n2_;clear n0_ n1_ n2_;(try clear hb);(try clear hb2);(try clear hk);(try clear hi);(try clear ho0);obtain ⟨Ao19,co19,eo19⟩:=Kd.S_slice HO610.out;subst eo19))
       go_loopg [7,40] kj13 (fun kq v7 v40 w'=>∃ (x7_3:List (List Int)) (x40_3:Int),v40 = .int .i64 x40_3∧Aside0 (impl_rankings.l1 kq a0 a1 x7_3 x8_1 t608 (t608.length:Int) x40_3=some r)∧Aside0 (kq≤kj13)∧Aside0 (Kd.S (Kd.slice 3 (Kd.int .i64)) 24 w' w.heap.size (fun k_=>some k_≠((.slice Ao19 t608.length co19):Value).ownBlock) v7 x7_3)∧Aside0 (Kd.S (Kd.slice 3 (Kd.int .i64)) 24 w' w.heap.size (fun k_=>some k_≠(v7:Value).ownBlock) (.slice Ao19 t608.length co19) t608)∧Aside0 (Below w.heap.size w w'))
       case atStart=>exact ⟨(x7_1),(0),(taae),H',⟨zcf _⟩,⟨tagd⟩,⟨by (with_reducible repeat (first | apply Kd.S_alloc | apply Kd.S_drewN | apply Kd.S_drew));exact Kd.S_mono HO610.out (fun _ hk=>hk.2)⟩,⟨taaa⟩⟩
       case round =>
        clear H';try clear c1
        try clear p2
        try clear c4
        try clear c4b0
        try clear c4b1
        try clear c5
        try clear c5b0
        try clear c5b1
        try clear p6
        try clear c8
        try clear c15
        try clear c15b0
        try clear c16
        try clear p2
        try clear p6
        obtain ⟨x7_3,x40_3,rfl,HA,HK3,HO_7,HO_38,HB⟩:=hrel;cases gk with
        | zero=>exact absurd HA.out (by simp [impl_rankings.l1])
        | succ k3 =>
         have H:=HA.out;clear HA;simp only [impl_rankings.l1] at H;by_cases c20:x40_3<(t608.length:Int)
         ·rw [if_pos c20] at H
          have c20b0:decide (x40_3<(t608.length:Int))=true:=zba c20;clear c20;by_cases c21:0≤x40_3
          ·rw [if_pos c21] at H
           have c21b0:decide (0≤x40_3)=true:=zba c21;clear c21;by_cases c22:x40_3<(t608.length:Int)
           ·rw [if_pos c22] at H
            have c22b0:decide (x40_3<(t608.length:Int))=true:=zba c22;clear c22;obtain ⟨y612,hy612⟩:∃ y_:List Int,y_=(([x8_1]:List Int)):=⟨_,rfl⟩;replace H:(if y612.length+(rd_L2 t608 x40_3).length<17592186044416 then (if x7_3.length<5864062014805 then (impl_rankings.l1 k3 a0 a1 (x7_3 ++ [(y612 ++ (rd_L2 t608 x40_3))]) x8_1 t608 (t608.length:Int) (wrap64 (x40_3+1))) else (none)) else (none))=some r:=by first | (rw [hy612];with_reducible exact H) | (have H2_:=(zbf _ _).symm.trans H;rw [hy612];with_reducible exact H2_) | (have H2_:=(zbf _ _).symm.trans H;with_reducible exact H2_) | with_reducible exact H | (rw [hy612];exact H) | exact H
            have Ny612:=zad hy612;clear hy612;by_cases c23:y612.length+(rd_L2 t608 x40_3).length<17592186044416
            ·rw [if_pos c23] at H
             have LMc23:=zad c23;clear c23;obtain ⟨y615,hy615⟩:∃ y_:List Int,y_=(y612 ++ (rd_L2 t608 x40_3)):=⟨_,rfl⟩;replace H:(if x7_3.length<5864062014805 then (impl_rankings.l1 k3 a0 a1 (x7_3 ++ [y615]) x8_1 t608 (t608.length:Int) (wrap64 (x40_3+1))) else (none))=some r:=by first | (rw [hy615];with_reducible exact H) | (have H2_:=(zbf _ _).symm.trans H;rw [hy615];with_reducible exact H2_) | (have H2_:=(zbf _ _).symm.trans H;with_reducible exact H2_) | with_reducible exact H | (rw [hy615];exact H) | exact H
             have Ny615:=zad hy615;clear hy615;by_cases c24:x7_3.length<5864062014805
             ·rw [if_pos c24] at H
              have LMc24:=zad c24;clear c24;obtain ⟨y618,hy618⟩:∃ y_:List (List Int),y_=(x7_3 ++ [y615]):=⟨_,rfl⟩;replace H:(impl_rankings.l1 k3 a0 a1 y618 x8_1 t608 (t608.length:Int) (wrap64 (x40_3+1)))=some r:=by first | (rw [hy618];with_reducible exact H) | (have H2_:=(zbf _ _).symm.trans H;rw [hy618];with_reducible exact H2_) | (have H2_:=(zbf _ _).symm.trans H;with_reducible exact H2_) | with_reducible exact H | (rw [hy618];exact H) | exact H
              have Ny618:=zad hy618;clear hy618;have H':=zad H;clear H;have p611:0≤(x40_3:Int):=zas (taab);have q611:x40_3<(t608.length:Int):=zas (taab);obtain ⟨ad611,A611_0,c611_0,e611,hx611_0,hl611_0,hi611_0⟩:=at_L2 (Kd.S_reads' HO_38.out).2.2 x40_3 p611 q611;cases e611;obtain ⟨ce611,hce611,hMe611,hcc611⟩:=Kd.S_get HO_38.out [] x40_3 p611 (by first | exact q611 | exact zas (taab) | (have e_:=(Kd.S_reads' HO_38.out).1;omega));obtain ⟨ve611_0,rfl,ge611_0⟩:=hMe611;have hv611_0:=hcc611 0 _ rfl;rw [Nat.add_zero,show ((Kd.slice 3 (Kd.int .i64))).sz=1 from rfl,Nat.mul_one] at hv611_0
              replace hv611_0:=zbg (hv611_0.symm.trans hx611_0);rw [hv611_0] at ge611_0
              have HL611_0:=zad (show Kd.R (Kd.int .i64) 3 _ _ _ _ (rd_L2 t608 x40_3) from ge611_0);clear hv611_0 ge611_0 hcc611 hce611;have HR611_0:=zad hi611_0;have HC611_0:=zad hl611_0;clear hi611_0 hl611_0;replace p611:=eq_true p611;replace q611:=eq_true q611;go_wp2_with (first | ((with_reducible refine gate_dst (N:=46) rfl ?_);refine Kd.R_lit (Kd.int .i64) _ 3 ?hg (N:=46) ?hd (xs:=([x8_1]:List Int)) (inner:=[.int .i64 x8_1]) (ok:=fun _=>True) (okp:=fun _=>True) ?hr ?hp (fun _ hk=>hk) trivial (Below.refl _ _) (zcf _) (taad) ?_;(case hd=>rfl);(case hg=>rfl);(case hr=>first | (go_simp;done) | (go_simp;rfl));(case hp=>exact (Reps.one (show Kd.M (Kd.int .i64) _ _ _ x8_1 [.int .i64 x8_1] from rfl) (Reps.none _ _)));intro v613 w25 ho26 hb hg_ hnew_;clear hg_ hnew_;(first | rw [← Ny612.out] at ho26 | (simp only [Int.reduceToNat] at ho26;rw [← Ny612.out] at ho26));have n0_:=zad (Kd.S_elder' (taaw) (zcd ho26) hb);have n1_:=zad (Kd.S_elder' (tael) (zcd ho26) hb);have n2_:=zad (zcb (tadi) (zcd ho26) hb);have n3_:=zad (zby (zcc ho26 (zce (tadi))) (zbo (taaa)));have n4_:=zad (Kd.C_below (tagj) hb);have n5_:=zad (zbi (taaa) hb);clear HO_7 HO_38 HL611_0 HR611_0 HB;have HO_7:=n0_;have HO_38:=n1_;have HL611_0:=n2_;have HO614:=n3_;have HR611_0:=n4_;have HB:=n5_;clear n0_ n1_ n2_ n3_ n4_ n5_ hb ho26) | ((with_reducible refine gate_builtin (b := .append) (xs:=#[.tmp 46,.tmp 47]) rfl ?_);at_builtin;refine Kd.R_append_rows (Kd.int .i64) (w0:=w) w.heap.size rfl (.tmp 46) (.tmp 47) 24 3 (.int .i64 0) 8 rfl Tryz.underlying24 info3 rfl (by decide) (by omega) v613 y612 (rd_L2 t608 x40_3) _ _ _ (fun k_=>some k_≠(.slice A611_0 (rd_L2 t608 x40_3).length c611_0:Value).ownBlock) (fun _=>False) rfl rfl ?aO ?aR (fun _ _ h=>h) (fun _ h=>h.elim) ?aF ?aB ?aS ?aL ?_;(case aR=>repeat (first | exact (tagj) | (with_reducible refine zal ?_ _) | (with_reducible refine zam ?_ _) | (with_reducible refine zan ?_)));(case aB=>exact (taaa));(case aF=>exact (fun k_ hk=>Kd.fresh' (zce (tadi)) k_ hk));(case aO=>exact (by (with_reducible repeat (first | apply zai | apply zaj | apply zak));exact zbu HO614.out (fun _ hk=>hk.2)));(case aS=>exact (zbo (taaa)));(case aL=>have:=LMc23.out;omega);intro v616 w27 ho hb hg hat;rw [← Ny615.out] at ho;have n0_:=zad (Kd.S_after (ok:=(fun k_=>some k_≠(.slice (some ad611) t608.length co19:Value).ownBlock)) (taaw) hg hat);have n1_:=zad (Kd.S_after (ok:=(fun k_=>some k_≠(u7:Value).ownBlock)) (tael) hg hat);have n2_:=zad (Kd.R_after (ok:=(fun k_=>some k_≠(u7:Value).ownBlock∧some k_≠(.slice (some ad611) t608.length co19:Value).ownBlock)) (tadi) hg hat);have n3_:=zad (hb);have n4_:=zad (ho);clear HO_7 HO_38 HL611_0 HB HO614;have HO_7:=n0_;have HO_38:=n1_;have HL611_0:=n2_;have HB:=n3_;have HO617:=n4_;clear n0_ n1_ n2_ n3_ n4_ ho hb hg hat;obtain ⟨Ao29,co29,eo29⟩:=zbz HO617.out;subst eo29) | ((with_reducible refine gate_builtin (b := .append) (xs:=#[.tmp 44,.tmp 49]) rfl ?_);at_builtin;refine Kd.S_append (Kd.slice 3 (Kd.int .i64)) (w0:=w) w.heap.size rfl (.tmp 44) (.tmp 49) 39 24 (.slice none 0 0) 24 rfl Tryz.underlying39 info24 rfl (by decide) (by omega) u7 x7_3 y615 [.slice Ao29 y615.length co29] (fun k_=>some k_≠(.slice (some ad611) t608.length co19:Value).ownBlock) (fun k_=>some k_=(.slice Ao29 y615.length co29:Value).ownBlock) rfl rfl ?aP (fun k_ hk_=>((zbu (ok':=fun k_=>((fun k_=>some k_≠(.slice (some ad611) t608.length co19:Value).ownBlock)) k_∧some k_≠(u7:Value).ownBlock) (Kd.R_apart' (Kd.R_apart' (HO617.out) (Kd.S_typed HO_38.out) (by decide)) (Kd.S_typed HO_7.out) (by decide)) (fun k_ hk=>⟨hk.1.2,hk.2⟩))).1 k_ hk_.symm) ?aF ?aO ?aB ?aS ?aL ?_;(case aP=>exact Kd.M_row (zbu (Kd.R_tight rfl (zbu (ok':=fun k_=>((fun k_=>some k_≠(.slice (some ad611) t608.length co19:Value).ownBlock)) k_∧some k_≠(u7:Value).ownBlock) (Kd.R_apart' (Kd.R_apart' (HO617.out) (Kd.S_typed HO_38.out) (by decide)) (Kd.S_typed HO_7.out) (by decide)) (fun k_ hk=>⟨hk.1.2,hk.2⟩))) (fun _ h_=>h_)));(case aB=>exact (taaa));(case aF=>exact (fun k_ hk=>Kd.fresh' (Kd.S_lt (tael)) k_ hk));(case aO=>exact (tagf));(case aS=>exact (zbo (taaa)));(case aL=>have:=LMc24.out;omega);intro v619 w28 ho hb hg hat;rw [← Ny618.out] at ho;have n0_:=zad (Kd.S_after (ok:=(fun k_=>some k_≠(.slice Ao29 y615.length co29:Value).ownBlock)) (by (with_reducible repeat (first | apply Kd.S_alloc | apply Kd.S_drewN | apply Kd.S_drew));exact Kd.S_mono HO_38.out (fun _ hk=>⟨hk.2,hk.1⟩)) hg hat);have n1_:=zad (Kd.R_after (ok:=(fun k_=>some k_≠(.slice (some ad611) t608.length co19:Value).ownBlock∧some k_≠(.slice Ao29 y615.length co29:Value).ownBlock)) (by (with_reducible repeat (first | apply zai | apply zaj | apply zak));exact zbu HL611_0.out (fun _ hk=>⟨⟨hk.1.2,hk.2⟩,hk.1.1⟩)) hg hat);have n2_:=zad (hb);have n3_:=zad (ho);clear HO_38 HL611_0 HB HO_7 HO617;have HO_38:=n0_;have HL611_0:=n1_;have HB:=n2_;have HO620:=n3_;clear n0_ n1_ n2_ n3_ ho hb hg hat))
              go_roundg k3
              case measure=>have:=HK1.out;have:=HJ13.out;have:=HK3.out;omega
              case rel=>exact ⟨(y618),(wrap64 (x40_3+1)),(taae),H',⟨by have:=HK1.out;have:=HJ13.out;have:=HK3.out;omega⟩,⟨by (with_reducible repeat (first | apply Kd.S_alloc | apply Kd.S_drewN | apply Kd.S_drew));exact HO620.out⟩,⟨by (with_reducible repeat (first | apply Kd.S_alloc | apply Kd.S_drewN | apply Kd.S_drew));exact Kd.S_mono HO_38.out (fun _ hk=>hk.2)⟩,⟨taaa⟩⟩
             ·rw [if_neg c24] at H
              exact absurd H (taad)
            ·rw [if_neg c23] at H
             exact absurd H (taad)
           ·rw [if_neg c22] at H
            exact absurd H (taad)
          ·rw [if_neg c21] at H
           exact absurd H (taad)
         ·rw [if_neg c20] at H
          have c20b0:decide (x40_3<(t608.length:Int))=false:=zbl c20;clear c20;have H':=zad H;clear H;go_wp2
          go_roundg k3
          case measure=>have:=HK1.out;have:=HJ13.out;have:=HK3.out;omega
          case rel=>exact ⟨(x7_3),(wrap64 (x8_1 - 1)),(taae),H',⟨by have:=HK1.out;have:=HJ13.out;have:=HK3.out;omega⟩,⟨tagg⟩,⟨taaa⟩⟩
      ·replace c16:=zbk.mpr c16
       subst c16;have H1:(some x7_1)=some r:=by rw [if_neg (show ¬ (false=true) by decide)] at H;exact H
       clear H;have H:=H1;clear H1;obtain rfl:=zbg H;go_wp2
       go_ret
       exact ⟨_,by first | rfl | (simp [errW_none,errW_some] <;> rfl) | (simp only [← hji11];first | rfl | (simp [errW_none,errW_some] <;> rfl)) | (simp [*,errW_none,errW_some] <;> rfl),taaw,taaa⟩
section
open Go.Lib
def keptL {α:Type} [Inhabited α] (kp:Nat→Bool) (xs:List α):List α:=((List.range xs.length).filter kp).map fun j=>xs[j]!
theorem keptL_length {α:Type} [Inhabited α] (kp:Nat→Bool) (xs:List α) (cur:Array Value):(keptL kp xs).length=(keptUpTo kp cur xs.length).length:=by simp [keptL,keptUpTo]
theorem idx_at {l:List Nat} (h:l.Nodup) {q:Nat} (hq:q<l.length):l.idxOf l[q]=q:=by
 induction l generalizing q with
 | nil=>simp at hq
 | cons a l ih =>
  cases q with
  | zero=>simp
  | succ q =>
   have hn:=List.nodup_cons.1 h;have hq':q<l.length:=by simpa using hq
   have hne:¬ a=l[q]:=fun e=>hn.1 (by rw [e];exact List.getElem_mem hq')
   have hb:(a == l[q])=false:=zbs.2 hne;rw [List.getElem_cons_succ,List.idxOf_cons,hb,cond_false,ih hn.2 hq']
theorem S_kept_rows {α:Type} [Inhabited α] {d:Kd α} (hd1:d.sz=1) {e:Nat} {w w':World} {base:Nat} {ok:Nat→Prop} {blk cap:Nat} {xs:List α} {kp:Nat→Bool} {cur cur':Array Value}
 (hS:Kd.S d e w base ok (.slice (some ⟨blk,0,none⟩) xs.length cap) xs) (hheap:w.heap[blk]? = some (.cells cur e (0,0))) (hG:GB w w' blk) (hheap':w'.heap[blk]? = some (.cells cur' e (0,0))) (hsz:cur'.size=cur.size)
 (hlow:∀ j,j<(keptUpTo kp cur xs.length).length→(keptUpTo kp cur xs.length)[j]? = some cur'[j]!) :
 Kd.S d e w' base ok (.slice (some ⟨blk,0,none⟩) (keptL kp xs).length cap) (keptL kp xs):=by
 obtain ⟨f,h0,inner,ho,hr⟩:=hS;have hm:(keptL kp xs).length=(keptUpTo kp cur xs.length).length:=keptL_length kp xs cur;have hidx:((List.range xs.length).filter kp).Nodup:=List.Pairwise.filter _ List.nodup_range;have hmle:(keptL kp xs).length≤xs.length:=by
  unfold keptL;rw [List.length_map];exact Nat.le_trans (List.length_filter_le _ _) (taad)
 rw [List.length_zipIdx] at ho
 obtain ⟨hil,hown⟩:=ho;have hsz1:(Kd.tag f d).sz=1:=hd1;rw [hsz1,Nat.mul_one] at hil
 rcases hown with ⟨he,_⟩ | ⟨g,cap2,cur2,he,hb,hh,hn,hc,hcs,htk⟩
 ·cases he
 injection he with e1 e2 e3
 injection e1 with e1
 injection e1 with e1 _ _
 subst e1;subst e3;rw [hheap] at hh
 injection hh with hh
 injection hh with hh1 _ _
 subst hh1;rw [hsz1,Nat.mul_one] at hcs htk
 refine ⟨fun b=>((List.range xs.length).filter kp).idxOf (f b),h0,keptUpTo kp cur xs.length,⟨?_,.inr ⟨blk,cap,cur',by rw [List.length_zipIdx],hb,hheap',?_,hc,?_,?_⟩⟩,?_,?_⟩
 ·rw [List.length_zipIdx,hm]
  show _=_*d.sz
  rw [hd1,Nat.mul_one]
 ·rw [List.length_zipIdx]
  omega
 ·show _=_*d.sz
  rw [hd1,Nat.mul_one,hsz,hcs]
 ·rw [List.length_zipIdx]
  show List.take ((keptL kp xs).length*d.sz) _=_
  rw [hd1,Nat.mul_one,hm];apply List.ext_getElem?
  intro j
  by_cases hj:j<(keptUpTo kp cur xs.length).length
  ·rw [List.getElem?_take,if_pos hj,hlow j hj,getElem!_pos cur' j (by omega),Array.getElem?_toList,Array.getElem?_eq_getElem (by omega)]
  ·rw [List.getElem?_take,if_neg hj,List.getElem?_eq_none (by omega)]
 ·rw [List.length_zipIdx,hm]
  show _=_*d.sz
  rw [hd1,Nat.mul_one]
 ·intro q p hq
  rw [List.getElem?_zipIdx,Nat.zero_add] at hq
  obtain ⟨x,hx,rfl⟩:=Option.map_eq_some_iff.1 hq;obtain ⟨hql,hxe⟩:=List.getElem?_eq_some_iff.1 hx;have hqi:q<((List.range xs.length).filter kp).length:=by
   unfold keptL at hql
   rwa [List.length_map] at hql
  obtain ⟨j,hje⟩:∃ j,j=((List.range xs.length).filter kp)[q]:=⟨_,rfl⟩;have hjm:j ∈ (List.range xs.length).filter kp:=by rw [hje];exact List.getElem_mem hqi
  have hjn:j<xs.length:=List.mem_range.1 (List.mem_filter.1 hjm).1;have hxj:x=xs[j]:=by
   rw [← hxe];simp only [keptL,List.getElem_map];rw [← hje,getElem!_pos xs j hjn]
  have hM:=hr.2 j (xs[j],j) (Kd.zip_at (List.getElem?_eq_getElem hjn));rw [hsz1,Nat.mul_one] at hM
  have hcell:(inner.drop j).take 1=[cur[j]!]:=by
   rw [← htk,List.drop_take,List.take_take,Nat.min_eq_left (by omega)];have:j<cur.toList.length:=by rw [Array.length_toList];omega
   rw [List.drop_eq_getElem_cons this,List.take_succ_cons,List.take_zero,getElem!_pos cur j (by simpa using this),Array.getElem_toList]
  have hcell':((keptUpTo kp cur xs.length).drop q).take 1=[cur[j]!]:=by
   have hql':q<(keptUpTo kp cur xs.length).length:=by rw [← hm];exact hql
   rw [List.drop_eq_getElem_cons hql',List.take_succ_cons,List.take_zero];congr 1
   simp only [keptUpTo,List.getElem_map];rw [← hje]
  rw [hcell] at hM
  show (Kd.tag _ d).M w' base _ (x,q) (((keptUpTo kp cur xs.length).drop (q*(Kd.tag _ d).sz)).take (Kd.tag _ d).sz)
  have hs2:∀ f',(Kd.tag f' d).sz=1:=fun _=>hd1
  rw [hs2,Nat.mul_one,hcell',hxj];have hM2:d.M w base (fun k=>(ok k∧some k≠(Value.slice (some ⟨blk,0,none⟩) xs.length cap).ownBlock)∧f k=j) xs[j] [cur[j]!]:=hM;have hM3:=Kd.M_step (w1:=w') hM2 (fun k hk hlt=>hG.block k hlt hk.1.2);exact d.M_mono (fun k hk=>⟨hk.1,by show List.idxOf (f k) _=q;rw [hk.2,hje,idx_at hidx hqi]⟩) hM3
end
section
open Go.Shelf Go.Lib
theorem anyIdxB {P:Program} {ρ:Ren} (L:SlLaysH.n6 P ρ) (ad:Addr) (n c:Nat) (vs:Nat→Value) (ps:Nat→Bool) (g:Nat) (lb:Array Value) (w:World) (eg:∀ args w,(callFunc g args).run P w = .ok (.enter g args) w) (hbig:n≤9223372036854775807)
 (hcell:∀ j,j<n→w.cell? (ad.add j)=some (vs j)) (hcall:∀ j,j<n→∀ W,Below w.heap.size w W→Calls P g (#[vs j] ++ lb) W fun e w'=>e = .returned (.bool (ps j))∧Below W.heap.size W w') :
 Calls P (ρ.f 6) #[.slice (some ad) n c,.func (.func g) #[] lb] w fun e w'=>∃ i:Int,e = .returned (.int .i64 i)∧((i = -1∧∀ j,j<n→ps j=false)∨∃ k:Nat,k<n∧i=(k:Int)∧ps k=true∧∀ j,j<k→ps j=false)∧Below w.heap.size w w':=by
 have mixed:=L.mixed;have t0:=L.t0;have a0:=L.a0;have z0:=L.z0;have v0:=L.v0;have t3:=L.t3;have a3:=L.a3;have z3:=L.z3;have v3:=L.v3;have t4:=L.t4;have a4:=L.a4;have z4:=L.z4;have v4:=L.v4;have t22:=L.t22;have a22:=L.a22;have z22:=L.z22;have v22:=L.v22;have a23:=L.a23;have z23:=L.z23;have t25:=L.t25;have a25:=L.a25;have z25:=L.z25;have v25:=L.v25;have HC:=zad hcell;have HF:=zad hcall;have HB:=zad (Below.refl w.heap.size w);clear hcell hcall;obtain ⟨_,_,FG⟩:=L.f6;go_enter FG,SlBodyH.n6_ntmps ρ;go_wp2
 go_loopg [5,8] n (fun gg _ s8 wr=>∃ kk:Nat,kk≤n∧n - kk≤gg∧s8 = .int .i64 kk∧Aside0 (Below w.heap.size w wr)∧Aside0 (∀ j,j<kk→ps j=false))
 case atStart=>exact ⟨0,Nat.zero_le _,by omega,rfl,⟨taaa⟩,⟨fun j hj=>absurd hj (Nat.not_lt_zero _)⟩⟩
 case round =>
  clear HB;obtain ⟨kk,hkk,hg,rfl,HB,HA⟩:=hrel;by_cases hlt:kk<n
  ·have hltz:(kk:Int)<(n:Int):=by omega
   have hc0:=HC.out kk hlt;have hce:=(HB.out.cell (zaz w _ hc0)).trans hc0;have hca:=HF.out kk hlt wr HB.out;clear hc0;generalize vs kk=v at hce hca
   cases hq:ps kk with
   | true =>
    rw [hq] at hca
    go_wp2_with (go_at_fn g;refine hca.mono ?_;rintro e w' ⟨rfl,hb⟩;have HB2:=zad (zbi HB.out hb);clear hb)
    go_ret
    exact ⟨_,rfl,.inr ⟨kk,hlt,rfl,hq,HA.out⟩,HB2.out⟩
   | false =>
    rw [hq] at hca
    go_wp2_with (go_at_fn g;refine hca.mono ?_;rintro e w' ⟨rfl,hb⟩;have HB2:=zad (zbi HB.out hb);clear hb)
    go_roundg (n - (kk+1))
    case measure=>omega
    case rel =>
     refine ⟨kk+1,by omega,by omega,by go_num,⟨HB2.out⟩,⟨fun j hj => ?_⟩⟩
     by_cases e:j=kk
     ·subst e
      exact hq
     ·exact HA.out j (by omega)
  ·have hltz:¬ (kk:Int)<(n:Int):=by omega
   have:kk=n:=by omega
   subst this;go_wp2
   go_ret
   exact ⟨_,rfl,.inl ⟨rfl,HA.out⟩,HB.out⟩
theorem anyHasB {P:Program} {ρ:Ren} (L:SlLaysH.n8 P ρ) (ad:Addr) (n c:Nat) (vs:Nat→Value) (ps:Nat→Bool) (g:Nat) (lb:Array Value) (w:World) (eg:∀ args w,(callFunc g args).run P w = .ok (.enter g args) w) (hbig:n≤9223372036854775807)
 (hcell:∀ j,j<n→w.cell? (ad.add j)=some (vs j)) (hcall:∀ j,j<n→∀ W,Below w.heap.size w W→Calls P g (#[vs j] ++ lb) W fun e w'=>e = .returned (.bool (ps j))∧Below W.heap.size W w') :
 Calls P (ρ.f 8) #[.slice (some ad) n c,.func (.func g) #[] lb] w fun e w'=>∃ r:Bool,e = .returned (.bool r)∧(r=true↔∃ j,j<n∧ps j=true)∧Below w.heap.size w w':=by
 have mixed:=L.mixed;have t0:=L.t0;have a0:=L.a0;have z0:=L.z0;have v0:=L.v0;have t3:=L.t3;have a3:=L.a3;have z3:=L.z3;have v3:=L.v3;have t4:=L.t4;have a4:=L.a4;have z4:=L.z4;have v4:=L.v4;have t22:=L.t22;have a22:=L.a22;have z22:=L.z22;have v22:=L.v22;have a23:=L.a23;have z23:=L.z23;have t25:=L.t25;have a25:=L.a25;have z25:=L.z25;have v25:=L.v25;have e6:∀ args w,(callFunc (ρ.f 6) args).run P w = .ok (.enter (ρ.f 6) args) w:=L.f6.enters rfl;have HC:=zad hcell;have HF:=zad hcall;clear hcell hcall;obtain ⟨_,_,FG⟩:=L.f8;go_enter FG,SlBodyH.n8_ntmps ρ;go_wp2_with (go_at_fn (ρ.f 6);refine (anyIdxB { L with } ad n c vs ps g lb _ eg hbig HC.out HF.out).mono ?_;rintro e w' ⟨i,rfl,hi,hb⟩;have HI:=zad hi;have HB:=zad hb;clear hi hb)
 go_ret
 refine ⟨_,rfl,?_,HB.out⟩
 rw [decide_eq_true_iff];rcases HI.out with ⟨rfl,hn⟩ | ⟨k,hk,rfl,hp,_⟩
 ·exact ⟨fun h=>absurd h (by decide),fun ⟨j,hj,hp⟩=>by rw [hn j hj] at hp;cases hp⟩
 ·exact ⟨fun _=>⟨k,hk,hp⟩,fun _=>by omega⟩
theorem addr0_add (b j:Nat):(⟨b,0,none⟩:Addr).add j=⟨b,j,none⟩:=by
 unfold Addr.add;split
 ·next h=>rw [h]
 ·simp
theorem heap_setCells {g:Nat} {t:TypeId}:∀ (vs:List Value) (o:Nat) (w:World) (cs:Array Value),w.heap[g]? = some (.cells cs t (0,0))→∃ cs',(w.setCells g o vs).heap[g]? = some (.cells cs' t (0,0))∧cs'.size=cs.size∧(∀ j,j<o→cs'[j]! = cs[j]!)∧GB w (w.setCells g o vs) g
 | [],o,w,cs,h=>⟨cs,h,rfl,fun _ _=>rfl,gb_refl _ _⟩
 | v :: vs,o,w,cs,h=>by
  obtain ⟨cs',h1,h2,h3,h4⟩:=heap_setCells vs (o+1) (w.setCell ⟨g,o,none⟩ v) _ (blk_set h o v);refine ⟨cs',h1,by rw [h2];simp,fun j hj => ?_,gb_trans (gb_set0 w g o v) h4⟩
  rw [h3 j (by omega)];exact Go.Sort.getElem!_set_other cs o j v (by omega)
theorem first_is {kp:Nat→Bool} {k0 n:Nat} {i:Int} (hd:kp k0=false) (hall:∀ j,j<k0→kp j=true) (hk:k0<n) (h:(i = -1∧∀ j,j<n→(!kp j)=false)∨∃ k:Nat,k<n∧i=(k:Int)∧(!kp k)=true∧∀ j,j<k→(!kp j)=false):i=(k0:Int):=by
 rcases h with ⟨_,hn⟩ | ⟨k,hkn,rfl,hp,ha⟩
 ·have:=hn k0 hk
  rw [hd] at this
  cases this
 ·have h1:¬ k<k0:=fun h=>by rw [hall k h] at hp;cases hp
  have h2:¬ k0<k:=fun h=>by have:=ha k0 h;rw [hd] at this;cases this
  omega
theorem none_is {kp:Nat→Bool} {n:Nat} {i:Int} (hall:∀ j,j<n→kp j=true) (h:(i = -1∧∀ j,j<n→(!kp j)=false)∨∃ k:Nat,k<n∧i=(k:Int)∧(!kp k)=true∧∀ j,j<k→(!kp j)=false):i = -1:=by
 rcases h with ⟨e,_⟩ | ⟨k,hkn,rfl,hp,_⟩
 ·exact e
 ·rw [hall k hkn] at hp
  cases hp
theorem gb_heap {W W':World} {blk:Nat} {o:Obj} (hb:Below W.heap.size W W') (h:W.heap[blk]? = some o):W'.heap[blk]? = some o:=(hb.block blk (blk_lt h)).trans h
theorem delRows {P:Program} {ρ:Ren} (L:SlLaysH.n10 P ρ) (blk n cap:Nat) (et:TypeId) (cur:Array Value) (kp:Nat→Bool) (g:Nat) (lb:Array Value) (w:World) (eg:∀ args w,(callFunc g args).run P w = .ok (.enter g args) w) (v23:∀ w,(zeroValue (ρ.t 23)).run P w = .ok (.slice none 0 0) w)
 (hheap:w.heap[blk]? = some (.cells cur et (0,0))) (hsz:cur.size=cap) (hn:n≤cap) (hcap:cap≤9223372036854775807) (hsl:∀ j,j<n→∃ A k c,cur[j]! = .slice A k c)
 (hcall:∀ j,j<n→∀ W,GB w W blk→Calls P g (#[cur[j]!] ++ lb) W fun e w'=>e = .returned (.bool (!kp j))∧Below W.heap.size W w') :
 Calls P (ρ.f 10) #[.slice (some ⟨blk,0,none⟩) n cap,.func (.func g) #[] lb] w fun e w'=>e = .returned (.slice (some ⟨blk,0,none⟩) (keptUpTo kp cur n).length cap)∧GB w w' blk∧∃ cur',w'.heap[blk]? = some (.cells cur' et (0,0))∧cur'.size=cap∧∀ j,j<(keptUpTo kp cur n).length→(keptUpTo kp cur n)[j]? = some cur'[j]! := by
 have mixed:=L.mixed;have t0:=L.t0;have a0:=L.a0;have z0:=L.z0;have v0:=L.v0;have t3:=L.t3;have a3:=L.a3;have z3:=L.z3;have v3:=L.v3;have t4:=L.t4;have a4:=L.a4;have z4:=L.z4;have v4:=L.v4;have t22:=L.t22;have a22:=L.a22;have z22:=L.z22;have v22:=L.v22;have a23:=L.a23;have z23:=L.z23;have t25:=L.t25;have a25:=L.a25;have z25:=L.z25;have v25:=L.v25;have e6:∀ args w,(callFunc (ρ.f 6) args).run P w = .ok (.enter (ρ.f 6) args) w:=L.f6.enters rfl;have hcl0:∀ (A:Option Addr) (k c:Nat),(Value.slice A k c).cells=#[Value.slice A k c]:=fun _ _ _=>rfl
 have cellAt:∀ (W:World) (dk:Array Value),W.heap[blk]? = some (.cells dk et (0,0))→dk.size=cap→∀ j,j<cap→W.cell? ⟨blk,j,none⟩=some dk[j]! := fun W dk h hs j hj=>by
  rw [zbm h j,getElem!_pos dk j (by omega),Array.getElem?_eq_getElem (by omega)]
 have hIF:=anyIdxB (P:=P) (ρ:=ρ) { L with } ⟨blk,0,none⟩ n cap (fun j=>cur[j]!) (fun j => !kp j) g lb w eg (by omega) (fun j hj=>by
  rw [addr0_add];exact cellAt w cur hheap hsz j (by omega)) (fun j hj W hb=>hcall j hj W (gb_below hb))
 have HIF:=zad hIF;have HC:=zad hcall;have HH:=zad hheap;have HCA:=zad cellAt;have HSL:=zad hsl;clear hIF hcall hheap cellAt hsl;by_cases hany:∃ k,k<n∧kp k=false
 ·obtain ⟨k0,hk0,hd0,hall⟩:∃ k0,k0<n∧kp k0=false∧∀ j,j<k0→kp j=true:=by
   obtain ⟨k,hk,hd⟩:=hany;induction k using Nat.strongRecOn with
   | _ k ih =>
    by_cases h:∃ j,j<k∧kp j=false
    ·obtain ⟨j,hj,hdj⟩:=h
     exact ih j hj (by omega) hdj
    ·exact ⟨k,hk,hd,fun j hj=>by
      cases e:kp j with
      | true=>rfl
      | false=>exact (h ⟨j,hj,e⟩).elim⟩
  have HALL:=zad hall;have HD0:=zad hd0;have hne1:((k0:Int) == -1)=false:=zbs.2 (by omega);clear hall hd0 hany;obtain ⟨_,_,FG⟩:=L.f10;go_enter FG,SlBodyH.n10_ntmps ρ;go_wp2_with (go_at_fn (ρ.f 6);refine HIF.out.mono ?_;rintro e w1 ⟨i1,rfl,hi1,hb1⟩;obtain rfl:i1=(k0:Int):=first_is HD0.out HALL.out hk0 hi1;have HB1:=zad hb1;have HH1:=zad (gb_heap hb1 HH.out);clear hi1 hb1)
  go_loopg [5,6,7] n (fun gg s5 s6 _ wr=>∃ (i j:Nat) (dk:Array Value),s5 = .int .i64 i∧s6 = .int .i64 j∧j≤n∧n - j≤gg∧i≤j∧Aside0 (GB w wr blk)∧Aside0 (wr.heap[blk]? = some (.cells dk et (0,0)))∧Aside0 (KeptInv kp cur j i dk))
  case atStart=>exact ⟨k0,k0+1,cur,rfl,by go_num,by omega,by omega,by omega,⟨gb_below HB1.out⟩,⟨HH1.out⟩,⟨KeptInv.start HALL.out HD0.out⟩⟩
  case round =>
   obtain ⟨i,j,dk,rfl,rfl,hjd,hgg,hij0,HG,HW,I2⟩:=hrel;have hI:=I2.out;have hij:=hI.lt;have hds:=hI.size;by_cases hlt:j<n
   ·have hltz:(j:Int)<(n:Int):=by omega
    have cj:=HCA.out wr dk HW.out (by omega) j (by omega);have ci:=HCA.out wr dk HW.out (by omega) i (by omega);have fi:=zbn HW.out i;rw [hI.high j (by omega)] at cj
    have hcall:=HC.out j hlt wr HG.out;obtain ⟨Au,ku,cu,hu⟩:=HSL.out j hlt;rw [hu] at cj hcall
    have C:=zad hu;generalize dk[i]! = old at ci
    clear hI hu;cases hq:kp j with
    | true =>
     rw [hq] at hcall
     go_wp2_with (go_at_fn g;refine hcall.mono ?_;rintro e w' ⟨rfl,hb⟩;have HB2:=zad (gb_trans HG.out (gb_below hb));have HW2:=zad (gb_heap hb HW.out);(have ci2:=(hb.cell (p:=⟨blk,i,none⟩) (zaz wr _ ci)).trans ci);(have fi2:=(hb.frozen (p:=⟨blk,i,none⟩) (zaz wr _ ci)).trans fi);(have cj2:=(hb.cell (p:=⟨blk,j,none⟩) (zaz wr _ cj)).trans cj);clear hb)
     go_roundg (n - (j+1))
     case measure=>omega
     case rel=>exact ⟨i+1,j+1,dk.setIfInBounds i (.slice Au ku cu),by go_num,by go_num,by omega,zcf _,by omega,⟨gb_trans HB2.out (gb_set0 _ blk i _)⟩,⟨blk_set HW2.out i _⟩,⟨by have:=I2.out.keep (by omega) hq;rwa [C.out] at this⟩⟩
    | false =>
     rw [hq] at hcall
     go_wp2_with (go_at_fn g;refine hcall.mono ?_;rintro e w' ⟨rfl,hb⟩;have HB2:=zad (gb_trans HG.out (gb_below hb));have HW2:=zad (gb_heap hb HW.out);clear hb)
     go_roundg (n - (j+1))
     case measure=>omega
     case rel=>exact ⟨i,j+1,dk,rfl,by go_num,by omega,zcf _,by omega,⟨HB2.out⟩,⟨HW2.out⟩,⟨I2.out.skip hq⟩⟩
   ·obtain rfl:j=n:=by omega
    have hltz:¬ (j:Int)<(j:Int):=by omega
    have hcl:∀ ty,(Builtin.clear_ #[ρ.t 22] ty #[.slice (some ⟨blk,i,none⟩) (j - i) (cap - i)]).run P wr = .ok (.tuple #[]) (wr.setCells blk i (List.replicate (j - i) (.slice none 0 0))) :=
     fun ty=>Lib.run_clear_slice wr _ _ ty _ t22 v23 rfl rfl blk i _ _ (by omega) (fun t ht=>by rw [HCA.out wr dk HW.out (by omega) (i+t) (by omega)];rfl) (fun t ht=>zbn HW.out _)
    have HS:=zad (heap_setCells (List.replicate (j - i) (.slice none 0 0)) i wr dk HW.out);have HDS:=zad hds;clear hI hds;go_wp2
    go_ret
    have hI:=I2.out;obtain ⟨cs',h1,h2,h3,h4⟩:=HS.out;refine ⟨by rw [hI.len];rfl,gb_trans HG.out h4,cs',h1,by rw [h2,HDS.out,hsz],fun q hq => ?_⟩
    rw [hI.len] at hq
    rw [h3 q (by omega)];exact hI.low q hq
 ·have hkeep:∀ j,j<n→kp j=true:=fun j hj=>by
   cases e:kp j with
   | true=>rfl
   | false=>exact (hany ⟨j,hj,e⟩).elim
  have e3:keptUpTo kp cur n=(List.range n).map (cur[·]!):=keptUpTo_all kp cur n hkeep;have e4:(keptUpTo kp cur n).length=n:=by rw [e3];simp
  have HKE:=zad hkeep;have E3:=zad e3;rw [e4];clear hany hkeep e3 e4;obtain ⟨_,_,FG⟩:=L.f10;go_enter FG,SlBodyH.n10_ntmps ρ;go_wp2_with (go_at_fn (ρ.f 6);refine HIF.out.mono ?_;rintro e w1 ⟨i1,rfl,hi1,hb1⟩;obtain rfl:i1 = -1:=none_is HKE.out hi1;have HB1:=zad hb1;have HH1:=zad (gb_heap hb1 HH.out);clear hi1 hb1)
  go_ret
  refine ⟨rfl,gb_below HB1.out,cur,HH1.out,hsz,fun j hj => ?_⟩
  rw [E3.out,List.getElem?_map,List.getElem?_range hj];rfl
end
theorem tab_bx {W W':World} {B:Nat} {v:Value} (hb:Below W.heap.size W W') (h:W.cell? ⟨B,0,none⟩=some v) (hB:B<W.heap.size):W'.cell? ⟨B,0,none⟩=some v:=(hb.cell (p:=⟨B,0,none⟩) hB).trans h
end Go.Proofs.YtefbphpgaeffaaaGreatDoor.A
/-
 DERIVED: THE SHELF's CONTRACTS AT THIS DUMP,IN PLAIN WORDS (tools/lay-plain.mjs out of 'YtefbphpgaeffaaaGreatDoorShelfD.lean',which tools/lay-shelf.mjs wrote): THE SAME DECLARATIONS UNDER THE SAME NAMES: 'import','namespace','open','def','theorem' AND NOTHING ELSE: no command of the shelf's: FOR A HAND-IN. Each laying: the table of numbers ('.._ren') and one theorem,a field a fact of the dump's own or the kernel's comparison;each contract: ONE APPLICATION.
-/
namespace Go.Proofs
open Go.Shelf
def Tryz.delL_ren:Go.Shelf.Ren:=⟨fun | 10=>80 | 6=>83 | n=>n,fun | 22=>39 | 23=>24 | 25=>54 | 3=>3 | 4=>4 | 0=>0 | n=>n,fun | n=>n⟩
theorem Tryz.delL:Go.Proofs.SlLaysH.n10 Tryz.prog Tryz.delL_ren:={
 mixed:=by kernel_rfl
 f6:=⟨Tryz.f83.name,by decide,Tryz.func83.trans (congrArg some (by kernel_rfl))⟩
 f10:=⟨Tryz.f80.name,by decide,Tryz.func80.trans (congrArg some (by kernel_rfl))⟩
 t0:=Tryz.underlying0
 a0:=Tryz.isAgg0
 z0:=Tryz.sizeOf0
 v0:=Tryz.zeroValue0
 t3:=Tryz.underlying3
 a3:=Tryz.isAgg3
 z3:=Tryz.sizeOf3
 v3:=Tryz.zeroValue3
 t4:=Tryz.underlying4
 a4:=Tryz.isAgg4
 z4:=Tryz.sizeOf4
 v4:=Tryz.zeroValue4
 t22:=Tryz.underlying39
 a22:=Tryz.isAgg39
 z22:=Tryz.sizeOf39
 v22:=Tryz.zeroValue39
 a23:=Tryz.isAgg24
 z23:=Tryz.sizeOf24
 t25:=Tryz.underlying54
 a25:=Tryz.isAgg54
 z25:=Tryz.sizeOf54
 v25:=Tryz.zeroValue54 }
end Go.Proofs

namespace Go.Proofs.YtefbphpgaeffaaaGreatDoor.A
open Go.RowKit Go.Proofs.YtefbphpgaeffaaaGreatDoorW.PrintWords Go.Proofs.YtefbphpgaeffaaaGreatDoorW.PrintLast Go.Proofs.YtefbphpgaeffaaaGreatDoorW.PrintMore
attribute [local go_sem] max2_int min2_int max_two min_two max_three min_three max_four min_four
def majAll (k:Nat) (l0:List Int) (xs:List (List Int)):Bool:=xs.all fun x=>(impl_isMajorized.f k x l0).isSome
def majKept (k:Nat) (l0:List Int) (xs:List (List Int)):List (List Int):=xs.filter fun x=>impl_isMajorized.f k x l0 == some true
def impl_below.f (k:Nat) (l0:List Int):Option (List (List Int)):=(impl_total.f k l0).bind fun s=>(impl_rankings.f k (l0.length:Int) s s).bind fun rs=>if 0<rs.length∧majAll k l0 rs=true then some (majKept k l0 rs) else none
theorem S_cells {e i:Nat} {w:World} {base:Nat} {ok:Nat→Prop} {v:Value} {xs:List (List Int)} (hS:Kd.S (Kd.slice i (Kd.int .i64)) e w base ok v xs) (hn:0<xs.length) :
 ∃ (blk cap:Nat) (cur:Array Value),v = .slice (some ⟨blk,0,none⟩) xs.length cap∧base≤blk∧w.heap[blk]? = some (.cells cur e (0,0))∧cur.size=cap∧xs.length≤cap∧cap≤9223372036854775807 ∧
  ∀ j,j<xs.length→∃ A c,cur[j]! = .slice A (xs[j]!).length c∧(xs[j]!).length≤c∧∀ W,GB w W blk→Kd.C (Kd.int .i64) W A (xs[j]!).length (xs[j]!):=by
 obtain ⟨f,h0,inner,ho,hr⟩:=hS;rw [List.length_zipIdx] at ho
 obtain ⟨hil,hown⟩:=ho;have hsz1:(Kd.tag f (Kd.slice i (Kd.int .i64))).sz=1:=rfl;rw [hsz1,Nat.mul_one] at hil
 rcases hown with ⟨_,hz⟩ | ⟨blk,cap,cur,rfl,hb,hh,hnc,hc,hcs,htk⟩
 ·omega
 rw [hsz1,Nat.mul_one] at hcs htk
 refine ⟨blk,cap,cur,rfl,hb,hh,hcs,hnc,by unfold maxLen at hc;omega,fun j hj => ?_⟩
 have hM:=hr.2 j (xs[j],j) (Kd.zip_at (List.getElem?_eq_getElem hj));rw [hsz1,Nat.mul_one] at hM
 have hcell:(inner.drop j).take 1=[cur[j]!]:=by
  rw [← htk,List.drop_take,List.take_take,Nat.min_eq_left (by omega)];have:j<cur.toList.length:=by rw [Array.length_toList];omega
  rw [List.drop_eq_getElem_cons this,List.take_succ_cons,List.take_zero,getElem!_pos cur j (by simpa using this),Array.getElem_toList]
 rw [hcell] at hM
 have hM2:(Kd.slice i (Kd.int .i64)).M w base (fun k=>(ok k∧some k≠(Value.slice (some ⟨blk,0,none⟩) xs.length cap).ownBlock)∧f k=j) xs[j] [cur[j]!]:=hM;obtain ⟨v,hv,hR⟩:=hM2;obtain ⟨A,c,hA,hl,_⟩:=Kd.R_reads hR;have e:cur[j]! = v:=by simpa using hv
 rw [getElem!_pos xs j hj];refine ⟨A,c,by rw [e,hA],hl,fun W hG => ?_⟩
 have hR2:=Kd.R_step (w1:=W) hR (fun k hk hlt=>hG.block k hlt hk.1.2);rw [hA] at hR2
 exact (zbh hR2).2.2
theorem gb_cell {w W:World} {g:Nat} {p:Addr} {v:Value} (h:GB w W g) (hc:w.cell? p=some v) (hne:p.block≠g):W.cell? p=some v:=by
 have hlt:=zaz w _ hc;have hb:=h.block p.block hlt (taek);unfold World.cell? at *
 rw [hb];exact hc
theorem keptL_filter {α:Type} [Inhabited α] (p:α→Bool) (xs:List α):keptL (fun j=>p xs[j]!) xs=xs.filter p:=by
 unfold keptL;have e:((List.range xs.length).map fun j=>xs[j]!)=xs:=by
  apply List.ext_getElem
  ·simp
  ·intro i h1 h2
   rw [List.getElem_map,List.getElem_range,getElem!_pos xs i h2]
 have:=List.filter_map (p:=p) (f:=fun j=>xs[j]!) (l:=List.range xs.length);rw [e] at this
 rw [this];rfl
theorem below_cell (k:Nat) (l0 x:List Int) (t:Bool) (A0 A:Option Addr) (c0 c B:Nat) (W:World) (h0:W.cell? ⟨B,0,none⟩=some (.slice A0 l0.length c0)) (hr0:Kd.C (Kd.int .i64) W A0 l0.length l0) (hc0:l0.length≤c0) (hr:Kd.C (Kd.int .i64) W A x.length x) (hc:x.length≤c) (h:impl_isMajorized.f k x l0=some t) :
 Calls Tryz.prog 82 (#[.slice A x.length c] ++ #[.pointer (some ⟨B,0,none⟩)]) W fun e w'=>e = .returned (.bool (!t))∧Below W.heap.size W w':=by
 have HR0:=zad hr0;have HC0:=zad hc0;have HR:=zad hr;have HC:=zad hc;have HK:=zad h;clear hr0 hc0 hr hc h;show Calls Tryz.prog 82 #[.slice A x.length c,.pointer (some ⟨B,0,none⟩)] W _
 go_enter Tryz.func82,Tryz.ntmps82;go_wp2_with (go_at_call 53;(refine (impl_isMajorized.calls k A c x A0 c0 l0 t _ ?side1 ?side2 ?side3 ?side4 HK.out).mono ?_);(case side1=>first | exact HR.out | exact zam HR.out _);(case side2=>exact HC.out);(case side3=>first | exact HR0.out | exact zam HR0.out _);(case side4=>exact HC0.out);rintro e w' ⟨rfl,hb⟩;have HB:=zad hb;clear hb)
 go_ret
 exact ⟨by cases t <;> rfl,HB.out⟩
theorem below_del (k:Nat) (l0:List Int) (A0:Option Addr) (c0 B base:Nat) (rs:List (List Int)) (v:Value) (w:World) (hB:w.cell? ⟨B,0,none⟩=some (.slice A0 l0.length c0)) (hlt:B<base) (hr0:Kd.C (Kd.int .i64) w A0 l0.length l0) (hfoot:∀ k,base≤k→∀ W,GB w W k→Kd.C (Kd.int .i64) W A0 l0.length l0) (hc0:l0.length≤c0) (hn:0<rs.length) (hall:majAll k l0 rs=true)
 (hS:Kd.S (Kd.slice 3 (Kd.int .i64)) 24 w base (fun _=>True) v rs) :
 Calls Tryz.prog 80 #[v,.func (.func 82) #[] #[.pointer (some ⟨B,0,none⟩)]] w fun e w'=>∃ v' blk,e = .returned v'∧base≤blk∧Kd.S (Kd.slice 3 (Kd.int .i64)) 24 w' base (fun _=>True) v' (majKept k l0 rs)∧GB w w' blk:=by
 have hS0:=hS;obtain ⟨blk,cap,cur,rfl,hbb,hh,hsz,hnc,hcm,hrow⟩:=S_cells hS hn;have eg:∀ args w,(callFunc 82 args).run Tryz.prog w = .ok (.enter 82 args) w:=fun args w=>enters_ Tryz.func82 (by kernel_rfl) rfl args w
 have hkp:∀ j,j<rs.length→impl_isMajorized.f k (rs[j]!) l0=some (impl_isMajorized.f k (rs[j]!) l0 == some true):=fun j hj=>by
  have:=List.all_eq_true.1 hall (rs[j]!) (by rw [getElem!_pos rs j hj];exact List.getElem_mem hj);obtain ⟨b,hb⟩:=Option.isSome_iff_exists.1 this;rw [hb];cases b <;> rfl
 refine (delRows Tryz.delL blk rs.length cap 24 cur (fun j=>impl_isMajorized.f k (rs[j]!) l0 == some true) 82 #[.pointer (some ⟨B,0,none⟩)] w eg (fun w=>Tryz.zeroValue24 w) hh hsz hnc hcm (fun j hj => ?_) (fun j hj W hG => ?_)).mono ?_
 ·obtain ⟨A,c,h,_⟩:=hrow j hj
  exact ⟨A,_,c,h⟩
 ·obtain ⟨A,c,h,hl,hC⟩:=hrow j hj
  rw [h];exact below_cell k l0 (rs[j]!) _ A0 A c0 c B W (gb_cell hG hB (by show B≠blk;omega)) (hfoot blk hbb W hG) hc0 (hC W hG) hl (hkp j hj)
 ·rintro e w' ⟨rfl,hG,cur',hh',hs',hl'⟩
  have hk:=S_kept_rows (d:=Kd.slice 3 (Kd.int .i64)) rfl (kp:=fun j=>impl_isMajorized.f k (rs[j]!) l0 == some true) hS0 hh hG hh' (by rw [hs',hsz]) hl';rw [keptL_length _ rs cur] at hk
  rw [keptL_filter (fun x=>impl_isMajorized.f k x l0 == some true) rs] at hk
  exact ⟨_,blk,rfl,hbb,hk,hG⟩
theorem impl_below.calls (k:Nat) (A0:Option Addr) (c0:Nat) (l0:List Int) (r:List (List Int)) (w:World) (hr0:Kd.C (Kd.int .i64) w A0 l0.length l0) (hc0:l0.length≤c0) (h:impl_below.f k l0=some r) :
 Calls Tryz.prog 50 #[.slice A0 l0.length c0] w fun e w'=>∃ v0_:Value,e = .returned (v0_)∧Kd.S (Kd.slice 3 (Kd.int .i64)) 24 w' w.heap.size (fun _=>True) v0_ r∧Below w.heap.size w w':=by
 unfold impl_below.f at h
 obtain ⟨s,ht,h⟩:=zay.mp h;obtain ⟨rs,hrk,h⟩:=zay.mp h;split at h
 next hc =>
  obtain ⟨hn,hall⟩:=hc;obtain rfl:=zbg h;have HT:=zad ht;have HRK:=zad hrk;have HN:=zad hn;have HALL:=zad hall;have HR0:=zad hr0;have HC0:=zad hc0;have HB:=zad (Below.refl w.heap.size w);clear hr0 hc0 ht hrk hn hall h;go_enter Tryz.func50,Tryz.ntmps50;go_wp2
  go_region_held3 (fun w'=>w'.cell? ⟨w.heap.size,0,none⟩=some (.slice A0 l0.length c0)) (first | exact x0 | exact x9 | (simp [go_sem];done))
   (first | (go_at_call 21;(refine (impl_total.calls k A0 c0 l0 s _ ?side1 ?side2 HT.out).mono ?_);(case side1=>exact Kd.C_below HR0.out (taaa));(case side2=>exact HC0.out);rintro e w1 ⟨rfl,⟨m1,rfl⟩⟩) | (go_at_call 81;(refine (impl_rankings.calls k (l0.length:Int) s s rs _ HRK.out).mono ?_);rintro e w2 ⟨v2,rfl,ho,hb⟩;have HB2:=zad (zbi (taaa) hb);have x0:=tab_bx hb (B:=w.heap.size) (v := .slice A0 l0.length c0) (by simp [go_sem]) (taem);have HO:=zad (show Kd.S (Kd.slice 3 (Kd.int .i64)) 24 w2 (w.heap.size+1) (fun _=>True) v2 rs from Kd.S_lower ho (taem));clear HB hb ho;have HB:=HB2;clear HB2;obtain ⟨Au,cu,eu⟩:=Kd.S_slice HO.out;subst eu) | (go_at_call 80;(refine (below_del k l0 A0 c0 w.heap.size (w.heap.size+1) rs _ _ x0 (by omega) ?side1 ?side2 HC0.out HN.out HALL.out HO.out).mono ?_);(case side1=>exact Kd.C_below HR0.out HB.out);(case side2=>exact fun kk hk W hG=>Kd.C_below HR0.out (below_gb HB.out hG (by omega)));rintro e w3 ⟨v3,blk,rfl,hbb,ho,hG⟩;have HO2:=zad (Kd.S_lower (base':=w.heap.size) ho (by omega));have HB2:=zad (below_gb HB.out hG (by omega));have x9:=gb_cell hG x0 (by show w.heap.size≠blk;omega);clear HO ho hG HB x0;have HO:=HO2;have HB:=HB2;clear HO2 HB2))
  all_goals (go_wp2;go_ret;exact ⟨_,rfl,HO.out,HB.out⟩)
 next=>cases h
theorem l1Least_eq (a b:Int):spec_l1Least.f a b=some (min a b):=by
 unfold spec_l1Least.f;split <;> (congr 1;omega)
def allGo (F:Int→List (List Int)) (n s:Int):Nat→List (List Int)
 | 0=>if 0*n≥s then F 0 else []
 | t+1=>if ((t+1:Nat):Int)*n≥s then F ((t+1:Nat):Int) ++ allGo F n s t else []
def allL:Nat→Int→Int→List (List Int)
 | 0,s,_=>if s=0 then [[]] else []
 | n+1,s,m=>allGo (fun f=>(allL n (s - f) f).map (f :: ·)) ((n+1:Nat):Int) s (min s m).toNat
theorem allL_len:∀ (n:Nat) (s m:Int) (x:List Int),x ∈ allL n s m→x.length=n
 | 0,s,m,x,h=>by
  unfold allL at h
  split at h
  ·simp at h
   subst h;rfl
  ·simp at h
 | n+1,s,m,x,h=>by
  have key:∀ (t:Nat),x ∈ allGo (fun f=>(allL n (s - f) f).map (f :: ·)) ((n+1:Nat):Int) s t→x.length=n+1:=by
   intro t
   induction t with
   | zero =>
    intro h
    unfold allGo at h
    split at h
    ·obtain ⟨y,hy,rfl⟩:=List.mem_map.1 h
     rw [List.length_cons,allL_len n _ _ y hy]
    ·simp at h
   | succ t ih =>
    intro h
    unfold allGo at h
    split at h
    ·rcases List.mem_append.1 h with h | h
     ·obtain ⟨y,hy,rfl⟩:=List.mem_map.1 h
      rw [List.length_cons,allL_len n _ _ y hy]
     ·exact ih h
    ·simp at h
  unfold allL at h
  exact key _ h
theorem allL_count:∀ (n:Nat) (s m:Int),s≤30→0≤s→(allL n s m).length≤31 ^ n
 | 0,s,m,_,_=>by
  unfold allL;split <;> simp
 | n+1,s,m,hs,h0=>by
  have key:∀ (t:Nat),(t:Int)≤s→(allGo (fun f=>(allL n (s - f) f).map (f :: ·)) ((n+1:Nat):Int) s t).length≤(t+1)*31 ^ n:=by
   intro t
   induction t with
   | zero =>
    intro ht
    unfold allGo;split
    ·rw [List.length_map]
     have:=allL_count n (s - 0) 0 (by omega) (by omega);omega
    ·simp
   | succ t ih =>
    intro ht
    unfold allGo;split
    ·rw [List.length_append,List.length_map,Nat.succ_mul]
     have:=ih (by omega);have:=allL_count n (s - ((t+1:Nat):Int)) ((t+1:Nat):Int) (by omega) (by omega);omega
    ·simp
  unfold allL;have h1:=key (min s m).toNat (by omega);have h2:((min s m).toNat+1)*31 ^ n≤31*31 ^ n:=Nat.mul_le_mul_right _ (by omega);rw [Nat.pow_succ];omega
theorem pow31 {n:Nat} (h:n≤8):31 ^ n≤31 ^ 8:=Nat.pow_le_pow_right (by decide) h
theorem allL_bd {n:Nat} (hn:n≤8) {s m:Int} (hs:s≤30) (h0:0≤s):(allL n s m).length≤852891037441:=by
 have h1:=allL_count n s m hs h0;have h2:=pow31 hn;have h3:31 ^ 8=852891037441:=by decide
 omega
theorem rdL {xs:List (List Int)} {i:Nat} (h:i<xs.length):rd_L2 xs (i:Int)=xs[i]:=by
 unfold rd_L2;rw [Int.toNat_natCast,List.getD_eq_getElem?_getD,List.getElem?_eq_getElem h];rfl
theorem specAll_l1 (n:Nat) (s f:Int) (rs:List (List Int)) (hr:∀ x ∈ rs,x.length≤8) (hrl:rs.length≤1000000000000) (r:List (List Int)):∀ (d i:Nat) (acc:List (List Int)),i+d=rs.length→acc.length+d≤2000000000000→Ev (fun k=>spec_liAll.l0 k (n:Int) s (acc ++ (rs.drop i).map (f :: ·)) (wrap64 (f - 1))) r→Ev (fun k=>spec_liAll.l1 k (n:Int) s acc f rs (rs.length:Int) (i:Int)) r
 | 0,i,acc,h,hb,hR=>by
  refine Ev.succ ?_
  simp only [spec_liAll.l1,if_neg (show ¬ (i:Int)<(rs.length:Int) by omega)];rw [List.drop_eq_nil_of_le (by omega),zav,List.append_nil] at hR
  exact hR
 | d+1,i,acc,h,hb,hR=>by
  have hi:i<rs.length:=by omega
  have:=hr _ (List.getElem_mem hi);refine Ev.succ ?_
  simp only [spec_liAll.l1,if_pos (show (i:Int)<(rs.length:Int) by omega),if_pos (show (0:Int)≤(i:Int) by omega),zbf,rdL hi,if_pos (show ([f]:List Int).length+(rs[i]).length<17592186044416 by rw [List.length_singleton];omega),if_pos (show acc.length<5864062014805 by omega),wsucc hi (by omega)];refine specAll_l1 n s f rs hr hrl r d (i+1) _ (by omega) (tabi) ?_
  rw [List.drop_eq_getElem_cons hi,zau] at hR
  rw [List.append_assoc];exact hR
theorem specAll_ev:∀ (n:Nat),n≤8→∀ (s m:Int),s≤30→0≤s→0≤m→Ev (fun k=>spec_liAll.f k (n:Int) s m) (allL n s m)
 | 0,_,s,m,hs,h0,hm=>by
  refine Ev.succ ?_
  simp only [spec_liAll.f,if_pos (show ((0:Nat):Int)=0 from rfl),allL];exact Ev.ite (fun _=>Ev.now _) (fun _=>Ev.now _)
 | n+1,hn,s,m,hs,h0,hm=>by
  have key:∀ (t:Nat),(t:Int)≤30→(t:Int)≤s→∀ acc:List (List Int),acc.length+(t+1)*31 ^ n≤900000000000→Ev (fun k=>spec_liAll.l0 k ((n+1:Nat):Int) s acc (t:Int)) (acc ++ allGo (fun f=>(allL n (s - f) f).map (f :: ·)) ((n+1:Nat):Int) s t):=by
   have h31:31 ^ n≤852891037441:=by
    have h2:=pow31 (show n≤8 by omega);have h3:31 ^ 8=852891037441:=by decide
    omega
   have step:∀ (t:Nat),(t:Int)≤30→(t:Int)≤s→∀ acc r,acc.length+(t+1)*31 ^ n≤900000000000→(t:Int)*((n+1:Nat):Int)≥s→Ev (fun k=>spec_liAll.l0 k ((n+1:Nat):Int) s (acc ++ (allL n (s - t) t).map ((t:Int) :: ·)) ((t:Int) - 1)) r→Ev (fun k=>spec_liAll.l0 k ((n+1:Nat):Int) s acc (t:Int)) r:=by
    intro t ht hts acc r hb hc hR
    have hw:wrap64 ((t:Int)*((n+1:Nat):Int))=(t:Int)*((n+1:Nat):Int):=by
     have h1:(t:Int)*((n+1:Nat):Int)≤30*8:=Int.mul_le_mul ht (by omega) (by omega) (by omega);have h2:0≤(t:Int)*((n+1:Nat):Int):=Int.mul_nonneg (by omega) (by omega);exact w64 (by omega) (by omega)
    have hcnt:=allL_count n (s - t) t (by omega) (by omega);rw [Nat.add_mul] at hb
    refine Ev.succ ?_
    simp only [spec_liAll.l0,hw,if_pos hc,zba (show (t:Int)≥0 by omega)];refine Ev.succ ?_
    simp only [spec_liAll.j1,if_true,w64 (x:=((n+1:Nat):Int) - 1) (by omega) (by omega),w64 (x:=s - (t:Int)) (by omega) (by omega)];rw [show ((n+1:Nat):Int) - 1=(n:Int) by omega];refine Ev.bind (specAll_ev n (by omega) (s - t) t (by omega) (by omega) (by omega)) ?_
    have:=specAll_l1 (n+1) s t (allL n (s - t) t) (fun x hx=>by have:=allL_len n _ _ x hx;omega) (by omega) r (allL n (s - t) t).length 0 acc (by omega) (by omega);rw [List.drop_zero,w64 (x:=(t:Int) - 1) (by omega) (by omega)] at this
    exact this hR
   have stop:∀ (t:Int) acc,0≤t→t≤30→¬ t*((n+1:Nat):Int)≥s→Ev (fun k=>spec_liAll.l0 k ((n+1:Nat):Int) s acc t) acc:=by
    intro t acc h1 h2 hc
    have hw:wrap64 (t*((n+1:Nat):Int))=t*((n+1:Nat):Int):=by
     have h3:t*((n+1:Nat):Int)≤30*8:=Int.mul_le_mul h2 (by omega) (by omega) (by omega);have h4:0≤t*((n+1:Nat):Int):=Int.mul_nonneg h1 (by omega);exact w64 (by omega) (by omega)
    refine Ev.succ ?_
    simp only [spec_liAll.l0,hw,if_neg hc];refine Ev.succ ?_
    simp only [spec_liAll.j1,zbq,if_false];exact Ev.now _
   have low:∀ acc,Ev (fun k=>spec_liAll.l0 k ((n+1:Nat):Int) s acc (-1)) acc:=by
    intro acc
    have hw:wrap64 (-1*((n+1:Nat):Int)) = -1*((n+1:Nat):Int):=w64 (by omega) (by omega);refine Ev.succ ?_
    simp only [spec_liAll.l0,hw,if_neg (show ¬ -1*((n+1:Nat):Int)≥s by omega)];refine Ev.succ ?_
    simp only [spec_liAll.j1,zbq,if_false];exact Ev.now _
   intro t
   induction t with
   | zero =>
    intro h1 h2 acc hb
    unfold allGo;by_cases hc:0*((n+1:Nat):Int)≥s
    ·rw [if_pos hc]
     exact step 0 h1 h2 acc _ hb hc (low _)
    ·rw [if_neg hc,List.append_nil]
     exact stop 0 acc (by omega) (by omega) hc
   | succ t ih =>
    intro h1 h2 acc hb
    unfold allGo;by_cases hc:((t+1:Nat):Int)*((n+1:Nat):Int)≥s
    ·rw [if_pos hc,← List.append_assoc]
     refine step (t+1) h1 h2 acc _ hb hc ?_
     rw [show ((t+1:Nat):Int) - 1=(t:Int) by omega];have hcnt:=allL_count n (s - ((t+1:Nat):Int)) ((t+1:Nat):Int) (by omega) (by omega);refine ih (by omega) (by omega) _ ?_
     rw [List.length_append,List.length_map];have e:(t+1+1)*31 ^ n=(t+1)*31 ^ n+31 ^ n:=by rw [Nat.add_mul,Nat.one_mul]
     omega
    ·rw [if_neg hc,List.append_nil]
     exact stop _ acc (by omega) h1 hc
  refine Ev.succ ?_
  simp only [spec_liAll.f,if_neg (show ¬ ((n+1:Nat):Int)=0 by omega),l1Least_eq,zbf,allL];have hb:((min s m).toNat+1)*31 ^ n≤31*31 ^ n:=Nat.mul_le_mul_right _ (by omega);have h2:=pow31 (show n+1≤8 from hn);rw [Nat.pow_succ] at h2
  have h3:31 ^ 8=852891037441:=by decide
  have:=key (min s m).toNat (by omega) (by omega) [] (tacp);rw [List.nil_append,show (((min s m).toNat:Nat):Int)=min s m by omega] at this
  exact this
theorem mx_eq (a b:Int):mx a b=max a b:=by unfold mx;omega
theorem mn_eq (a b:Int):mn a b=min a b:=by unfold mn;omega
theorem implAll_l1 (n:Nat) (s f:Int) (rs:List (List Int)) (hr:∀ x ∈ rs,x.length≤8) (hrl:rs.length≤1000000000000) (r:List (List Int)):∀ (d i:Nat) (acc:List (List Int)),i+d=rs.length→acc.length+d≤2000000000000→Ev (fun k=>impl_rankings.l0 k (n:Int) s (acc ++ (rs.drop i).map (f :: ·)) (wrap64 (f - 1))) r→Ev (fun k=>impl_rankings.l1 k (n:Int) s acc f rs (rs.length:Int) (i:Int)) r
 | 0,i,acc,h,hb,hR=>by
  refine Ev.succ ?_
  simp only [impl_rankings.l1,if_neg (show ¬ (i:Int)<(rs.length:Int) by omega)];rw [List.drop_eq_nil_of_le (by omega),zav,List.append_nil] at hR
  exact hR
 | d+1,i,acc,h,hb,hR=>by
  have hi:i<rs.length:=by omega
  have:=hr _ (List.getElem_mem hi);refine Ev.succ ?_
  simp only [impl_rankings.l1,if_pos (show (i:Int)<(rs.length:Int) by omega),if_pos (show (0:Int)≤(i:Int) by omega),zbf,rdL hi,if_pos (show ([f]:List Int).length+(rs[i]).length<17592186044416 by rw [List.length_singleton];omega),if_pos (show acc.length<5864062014805 by omega),wsucc hi (by omega)];refine implAll_l1 n s f rs hr hrl r d (i+1) _ (by omega) (tabi) ?_
  rw [List.drop_eq_getElem_cons hi,zau] at hR
  rw [List.append_assoc];exact hR
theorem implAll_ev:∀ (n:Nat),n≤8→∀ (s m:Int),s≤30→0≤s→0≤m→Ev (fun k=>impl_rankings.f k (n:Int) s m) (allL n s m)
 | 0,_,s,m,hs,h0,hm=>by
  refine Ev.succ ?_
  simp only [impl_rankings.f,if_pos (show ((0:Nat):Int)=0 from rfl),allL];exact Ev.ite (fun _=>Ev.now _) (fun _=>Ev.now _)
 | n+1,hn,s,m,hs,h0,hm=>by
  have key:∀ (t:Nat),(t:Int)≤30→(t:Int)≤s→∀ acc:List (List Int),acc.length+(t+1)*31 ^ n≤900000000000→Ev (fun k=>impl_rankings.l0 k ((n+1:Nat):Int) s acc (t:Int)) (acc ++ allGo (fun f=>(allL n (s - f) f).map (f :: ·)) ((n+1:Nat):Int) s t):=by
   have h31:31 ^ n≤852891037441:=by
    have h2:=pow31 (show n≤8 by omega);have h3:31 ^ 8=852891037441:=by decide
    omega
   have step:∀ (t:Nat),(t:Int)≤30→(t:Int)≤s→∀ acc r,acc.length+(t+1)*31 ^ n≤900000000000→(t:Int)*((n+1:Nat):Int)≥s→Ev (fun k=>impl_rankings.l0 k ((n+1:Nat):Int) s (acc ++ (allL n (s - t) t).map ((t:Int) :: ·)) ((t:Int) - 1)) r→Ev (fun k=>impl_rankings.l0 k ((n+1:Nat):Int) s acc (t:Int)) r:=by
    intro t ht hts acc r hb hc hR
    have hw:wrap64 ((t:Int)*((n+1:Nat):Int))=(t:Int)*((n+1:Nat):Int):=by
     have h1:(t:Int)*((n+1:Nat):Int)≤30*8:=Int.mul_le_mul ht (by omega) (by omega) (by omega);have h2:0≤(t:Int)*((n+1:Nat):Int):=Int.mul_nonneg (by omega) (by omega);exact w64 (by omega) (by omega)
    have hcnt:=allL_count n (s - t) t (by omega) (by omega);rw [Nat.add_mul] at hb
    refine Ev.succ ?_
    simp only [impl_rankings.l0,hw,if_pos (show (t:Int)≥0 by omega),zba hc];refine Ev.succ ?_
    simp only [impl_rankings.j1,if_true,w64 (x:=((n+1:Nat):Int) - 1) (by omega) (by omega),w64 (x:=s - (t:Int)) (by omega) (by omega)];rw [show ((n+1:Nat):Int) - 1=(n:Int) by omega];refine Ev.bind (implAll_ev n (by omega) (s - t) t (by omega) (by omega) (by omega)) ?_
    have:=implAll_l1 (n+1) s t (allL n (s - t) t) (fun x hx=>by have:=allL_len n _ _ x hx;omega) (by omega) r (allL n (s - t) t).length 0 acc (by omega) (by omega);rw [List.drop_zero,w64 (x:=(t:Int) - 1) (by omega) (by omega)] at this
    exact this hR
   have stop:∀ (t:Int) acc,0≤t→t≤30→¬ t*((n+1:Nat):Int)≥s→Ev (fun k=>impl_rankings.l0 k ((n+1:Nat):Int) s acc t) acc:=by
    intro t acc h1 h2 hc
    have hw:wrap64 (t*((n+1:Nat):Int))=t*((n+1:Nat):Int):=by
     have h3:t*((n+1:Nat):Int)≤30*8:=Int.mul_le_mul h2 (by omega) (by omega) (by omega);have h4:0≤t*((n+1:Nat):Int):=Int.mul_nonneg h1 (by omega);exact w64 (by omega) (by omega)
    refine Ev.succ ?_
    simp only [impl_rankings.l0,hw,if_pos (show t≥0 from h1),zbl hc];refine Ev.succ ?_
    simp only [impl_rankings.j1,zbq,if_false];exact Ev.now _
   have low:∀ acc,Ev (fun k=>impl_rankings.l0 k ((n+1:Nat):Int) s acc (-1)) acc:=by
    intro acc
    refine Ev.succ ?_
    simp only [impl_rankings.l0,if_neg (show ¬ (-1:Int)≥0 by omega)];refine Ev.succ ?_
    simp only [impl_rankings.j1,zbq,if_false];exact Ev.now _
   intro t
   induction t with
   | zero =>
    intro h1 h2 acc hb
    unfold allGo;by_cases hc:0*((n+1:Nat):Int)≥s
    ·rw [if_pos hc]
     exact step 0 h1 h2 acc _ hb hc (low _)
    ·rw [if_neg hc,List.append_nil]
     exact stop 0 acc (by omega) (by omega) hc
   | succ t ih =>
    intro h1 h2 acc hb
    unfold allGo;by_cases hc:((t+1:Nat):Int)*((n+1:Nat):Int)≥s
    ·rw [if_pos hc,← List.append_assoc]
     refine step (t+1) h1 h2 acc _ hb hc ?_
     rw [show ((t+1:Nat):Int) - 1=(t:Int) by omega];have hcnt:=allL_count n (s - ((t+1:Nat):Int)) ((t+1:Nat):Int) (by omega) (by omega);refine ih (by omega) (by omega) _ ?_
     rw [List.length_append,List.length_map];have e:(t+1+1)*31 ^ n=(t+1)*31 ^ n+31 ^ n:=by rw [Nat.add_mul,Nat.one_mul]
     omega
    ·rw [if_neg hc,List.append_nil]
     exact stop _ acc (by omega) h1 hc
  refine Ev.succ ?_
  simp only [impl_rankings.f,if_neg (show ¬ ((n+1:Nat):Int)=0 by omega),mn_eq,allL];have hb:((min s m).toNat+1)*31 ^ n≤31*31 ^ n:=Nat.mul_le_mul_right _ (by omega);have h2:=pow31 (show n+1≤8 from hn);rw [Nat.pow_succ] at h2
  have h3:31 ^ 8=852891037441:=by decide
  have:=key (min s m).toNat (by omega) (by omega) [] (tacp);rw [List.nil_append,show (((min s m).toNat:Nat):Int)=min s m by omega] at this
  exact this
theorem allGo_mem {F:Int→List (List Int)} {n s:Int} {x:List Int} (hn:0≤n):∀ t:Nat,x ∈ allGo F n s t↔∃ f:Nat,f≤t∧(f:Int)*n≥s∧x ∈ F (f:Int)
 | 0=>by
  unfold allGo;constructor
  ·intro h
   split at h
   ·next hc=>exact ⟨0,zcf _,by simpa using hc,taax⟩
   ·simp at h
  ·rintro ⟨f,hf,hc,hx⟩
   obtain rfl:f=0:=by omega
   rw [if_pos (by simpa using hc)];simpa using hx
 | t+1=>by
  have ih:=allGo_mem (F:=F) (s:=s) (x:=x) hn t;unfold allGo;constructor
  ·intro h
   split at h
   ·next hc =>
    rcases List.mem_append.1 h with h | h
    ·exact ⟨t+1,zcf _,hc,h⟩
    ·obtain ⟨f,h1,h2,h3⟩:=ih.1 h
     exact ⟨f,by omega,h2,h3⟩
   ·simp at h
  ·rintro ⟨f,hf,hc,hx⟩
   have hm:(f:Int)*n≤((t+1:Nat):Int)*n:=Int.mul_le_mul_of_nonneg_right (by omega) hn;rw [if_pos (by omega)];by_cases e:f=t+1
   ·subst e
    exact List.mem_append.2 (.inl hx)
   ·exact List.mem_append.2 (.inr (ih.2 ⟨f,by omega,hc,hx⟩))
theorem sum_le_of {f:Int}:∀ y:List Int,(∀ z ∈ y,0≤z∧z≤f)→0≤y.sum∧y.sum≤f*(y.length:Int)
 | [],_=>by simp
 | z :: y,h=>by
  have ih:=sum_le_of y (fun w hw=>h w (List.mem_cons_of_mem _ hw));have:=h z List.mem_cons_self;rw [List.sum_cons,List.length_cons,Int.natCast_succ,Int.mul_add];omega
theorem allL_mem:∀ (n:Nat) (s m:Int) (x:List Int),0≤s→0≤m→(x ∈ allL n s m↔x.length=n∧Desc x∧(∀ y ∈ x,0≤y∧y≤m)∧x.sum=s)
 | 0,s,m,x,hs,hm=>by
  unfold allL;constructor
  ·intro h
   split at h
   ·next hc =>
    have:x=[]:=by simpa using h
    subst this;exact ⟨rfl,List.Pairwise.nil,taad,by simp [hc]⟩
   ·simp at h
  ·rintro ⟨h1,_,_,h4⟩
   have:x=[]:=List.length_eq_zero_iff.1 h1;subst this;rw [if_pos (by simpa using h4.symm)];simp
 | n+1,s,m,x,hs,hm=>by
  unfold allL;rw [allGo_mem (by omega)];constructor
  ·rintro ⟨f,hf,hc,hx⟩
   obtain ⟨y,hy,rfl⟩:=List.mem_map.1 hx;obtain ⟨h1,h2,h3,h4⟩:=(allL_mem n (s - f) f y (by omega) (by omega)).1 hy;refine ⟨by simp [h1],List.pairwise_cons.2 ⟨fun z hz=>(h3 z hz).2,h2⟩,fun z hz => ?_,by rw [List.sum_cons,h4];omega⟩
   rcases List.mem_cons.1 hz with rfl | hz
   ·omega
   ·have:=h3 z hz
    omega
  ·rintro ⟨h1,h2,h3,h4⟩
   cases x with
   | nil=>simp at h1
   | cons f y =>
    have hf:=h3 f List.mem_cons_self;have hd:=List.pairwise_cons.1 h2;have hy:∀ z ∈ y,0≤z∧z≤f:=fun z hz=>⟨(h3 z (List.mem_cons_of_mem _ hz)).1,hd.1 z hz⟩
    have hl:y.length=n:=by simpa using h1
    have hb:=sum_le_of y hy;rw [hl] at hb
    rw [List.sum_cons] at h4
    have e:((f.toNat:Nat):Int)=f:=by omega
    refine ⟨f.toNat,by omega,?_,List.mem_map.2 ⟨y,?_,by rw [e]⟩⟩
    ·rw [e,Int.natCast_succ,Int.mul_add]
     omega
    ·rw [e]
     exact (allL_mem n (s - f) f y (by omega) hf.1).2 ⟨hl,hd.2,hy,by omega⟩
def lexB:List Int→List Int→Prop
 | x :: a,y :: b=>y<x∨x=y∧lexB a b
 | _,_=>False
theorem lexB_irrefl:∀ a:List Int,¬ lexB a a
 | []=>fun h=>h
 | x :: a=>fun h=>by
  rcases h with h | ⟨_,h⟩
  ·omega
  ·exact lexB_irrefl a h
theorem lexB_trans:∀ a b c:List Int,lexB a b→lexB b c→lexB a c
 | [],_,_,h,_=>h.elim
 | _ :: _,[],_,h,_=>h.elim
 | _ :: _,_ :: _,[],_,h=>h.elim
 | x :: a,y :: b,z :: c,h,k=>by
  rcases h with h | ⟨e,h⟩
  ·rcases k with k | ⟨e',_⟩
   ·exact .inl (by omega)
   ·exact .inl (by omega)
  ·rcases k with k | ⟨e',k⟩
   ·exact .inl (by omega)
   ·exact .inr ⟨by omega,lexB_trans a b c h k⟩
theorem allGo_sorted {F:Int→List (List Int)} {n s:Int} (hF:∀ f,(F f).Pairwise lexB) (hh:∀ f x,x ∈ F f→∃ y,x=f :: y):∀ t:Nat,(allGo F n s t).Pairwise lexB∧∀ x ∈ allGo F n s t,∃ (f:Int) (y:List Int),f≤(t:Int)∧x=f :: y
 | 0=>by
  unfold allGo;split
  ·exact ⟨hF 0,fun x hx=>by obtain ⟨y,e⟩:=hh 0 x hx;exact ⟨0,y,by omega,e⟩⟩
  ·exact ⟨List.Pairwise.nil,taad⟩
 | t+1=>by
  obtain ⟨i1,i2⟩:=allGo_sorted (n:=n) (s:=s) hF hh t;unfold allGo;split
  ·refine ⟨List.pairwise_append.2 ⟨hF _,i1,fun x hx y hy => ?_⟩,fun x hx => ?_⟩
   ·obtain ⟨u,rfl⟩:=hh _ x hx
    obtain ⟨f,v,hf,rfl⟩:=i2 y hy;exact .inl (by omega)
   ·rcases List.mem_append.1 hx with hx | hx
    ·obtain ⟨u,e⟩:=hh _ x hx
     exact ⟨_,u,Int.le_refl _,e⟩
    ·obtain ⟨f,v,hf,e⟩:=i2 x hx
     exact ⟨f,v,by omega,e⟩
  ·exact ⟨List.Pairwise.nil,taad⟩
theorem allL_sorted:∀ (n:Nat) (s m:Int),(allL n s m).Pairwise lexB
 | 0,s,m=>by
  unfold allL;split
  ·exact List.pairwise_singleton _ _
  ·exact List.Pairwise.nil
 | n+1,s,m=>by
  unfold allL;refine (allGo_sorted (fun f=>List.pairwise_map.2 ((allL_sorted n (s - f) f).imp fun h => .inr ⟨rfl,h⟩)) (fun f x hx => ?_) _).1
  obtain ⟨y,_,rfl⟩:=List.mem_map.1 hx;exact ⟨y,rfl⟩
def undL (a:List Int):List (List Int):=(allL a.length a.sum a.sum).filter fun x=>majB x a
theorem gsum0 {a:List Int} (h:goodL a=true):0≤a.sum:=by
 have hs:=good_sm h;exact (sum_le_of (f:=1000) a hs.2).1
theorem und_mem {a:List Int} (hg:goodL a=true) (x:List Int):x ∈ undL a↔Desc x∧(∀ y ∈ x,0≤y∧y≤a.sum)∧majB x a=true:=by
 unfold undL;rw [List.mem_filter,allL_mem _ _ _ _ (gsum0 hg) (gsum0 hg)];constructor
 ·rintro ⟨⟨_,h2,h3,_⟩,h5⟩
  exact ⟨h2,h3,h5⟩
 ·rintro ⟨h2,h3,h5⟩
  have:=(majB_iff x a).1 h5;exact ⟨⟨this.1,h2,h3,this.2.1⟩,h5⟩
theorem mem_le_sum {f:Int}:∀ y:List Int,(∀ z ∈ y,0≤z)→f ∈ y→f≤y.sum
 | [],_,h=>by simp at h
 | z :: y,h,hf=>by
  have hy:0≤y.sum:=by
   clear hf;have:=fun w hw=>h w (List.mem_cons_of_mem z hw)
   clear h;induction y with
   | nil=>simp
   | cons w y ih =>
    have h1:=this w List.mem_cons_self;have h2:=ih (fun v hv=>this v (List.mem_cons_of_mem _ hv));rw [List.sum_cons];omega
  rw [List.sum_cons];rcases List.mem_cons.1 hf with rfl | hf
  ·omega
  ·have:=mem_le_sum y (fun w hw=>h w (List.mem_cons_of_mem _ hw)) hf
   have:=h z List.mem_cons_self;omega
theorem maj_rank (a:List Int):majB (descL a) a=true:=(majB_dom _ _).2 (by rw [descL_descL];exact ⟨rfl,rfl,fun _=>Int.le_refl _⟩)
theorem und_rank {a:List Int} (hg:goodL a=true):descL a ∈ undL a:=by
 have hs:=good_sm hg;refine (und_mem hg _).2 ⟨descL_desc a,fun y hy => ?_,maj_rank a⟩
 have hy:=descL_mem.1 hy;exact ⟨(hs.2 y hy).1,mem_le_sum a (fun z hz=>(hs.2 z hz).1) hy⟩
theorem und_pos {a:List Int} (hg:goodL a=true):0<(undL a).length:=List.length_pos_of_mem (und_rank hg)
theorem good_len {a:List Int} (h:goodL a=true):1≤a.length∧a.length≤8:=by
 unfold goodL at h
 split at h
 ·omega
 ·cases h
theorem all_sm {a:List Int} (hg:goodL a=true) (h30:a.sum≤30) {x:List Int} (hx:x ∈ allL a.length a.sum a.sum):Sm x:=by
 obtain ⟨h1,_,h3,_⟩:=(allL_mem _ _ _ _ (gsum0 hg) (gsum0 hg)).1 hx;have:=good_len hg;exact ⟨by omega,fun y hy=>by have:=h3 y hy;omega⟩
theorem und_bd (a:List Int) (hg:goodL a=true) (h30:a.sum≤30):(undL a).length≤852891037441:=by
 have h1:=allL_bd (good_len hg).2 (m:=a.sum) h30 (gsum0 hg);have h2:=List.length_filter_le (fun x=>majB x a) (allL a.length a.sum a.sum);unfold undL;omega
theorem und_good {a:List Int} (hg:goodL a=true) (h30:a.sum≤30) {x:List Int} (hx:x ∈ undL a):goodL x=true∧Sm x∧Desc x∧x.length=a.length∧x.sum=a.sum:=by
 obtain ⟨h1,h2,h3⟩:=(und_mem hg x).1 hx;obtain ⟨e1,e2,_⟩:=(majB_iff x a).1 h3;have hl:=good_len hg;have hs:Sm x:=⟨by omega,fun y hy=>by have:=h2 y hy;omega⟩;refine ⟨?_,hs,h1,e1,e2⟩
 unfold goodL inR;rw [if_pos (by omega),List.all_eq_true];intro y hy
 have:=h2 y hy;simp
 omega
theorem implBelow_ev (a:List Int) (hg:goodL a=true) (h30:a.sum≤30):Ev (fun k=>impl_below.f k a) (undL a):=by
 have hs:=good_sm hg;have hl:=good_len hg;have h0:=gsum0 hg;unfold impl_below.f;refine Ev.bind (total_ev a hs) (Ev.bind (implAll_ev a.length hl.2 a.sum a.sum h30 h0 h0) ?_)
 have hpos:0<(allL a.length a.sum a.sum).length:=by
  have:=und_pos hg;have:=List.length_filter_le (fun x=>majB x a) (allL a.length a.sum a.sum);unfold undL at *
  omega
 obtain ⟨K,hK⟩:∃ K,∀ k,K≤k→∀ x ∈ allL a.length a.sum a.sum,impl_isMajorized.f k x a=some (majB x a):=by
  have:∀ l:List (List Int),(∀ x ∈ l,Sm x)→∃ K,∀ k,K≤k→∀ x ∈ l,impl_isMajorized.f k x a=some (majB x a):=by
   intro l
   induction l with
   | nil=>exact fun _=>⟨0,fun _ _ x hx=>by simp at hx⟩
   | cons y l ih =>
    intro hl
    obtain ⟨K1,h1⟩:=ih (fun x hx=>hl x (List.mem_cons_of_mem _ hx));obtain ⟨K2,h2⟩:=isMajorized_ev y a (hl y List.mem_cons_self) hs;refine ⟨max K1 K2,fun k hk x hx => ?_⟩
    rcases List.mem_cons.1 hx with rfl | hx
    ·exact h2 k (by omega)
    ·exact h1 k (by omega) x hx
  exact this _ (fun x hx=>all_sm hg h30 hx)
 refine ⟨K,fun k hk => ?_⟩
 have e1:majAll k a (allL a.length a.sum a.sum)=true:=List.all_eq_true.2 fun x hx=>by rw [hK k hk x hx];rfl
 have e2:majKept k a (allL a.length a.sum a.sum)=undL a:=List.filter_congr fun x hx=>by rw [hK k hk x hx];cases majB x a <;> rfl
 show (if 0<(allL a.length a.sum a.sum).length∧majAll k a (allL a.length a.sum a.sum)=true then some (majKept k a (allL a.length a.sum a.sum)) else none)=some (undL a)
 rw [if_pos ⟨hpos,e1⟩,e2]
def totSS (l:List (List Int)):Nat:=(l.map List.length).sum
theorem allL_most (n:Nat) (s m m':Int) (h1:s≤m) (h2:s≤m'):allL n s m=allL n s m':=by
 cases n with
 | zero=>rfl
 | succ n =>
  unfold allL;rw [show min s m=s by omega,show min s m'=s by omega]
theorem tot_le {l:List (List Int)} {B:Nat} (h:∀ x ∈ l,x.length≤B):totSS l≤B*l.length:=by
 induction l with
 | nil=>simp [totSS]
 | cons x l ih =>
  have:=ih (fun y hy=>h y (List.mem_cons_of_mem _ hy));have:=h x List.mem_cons_self;simp only [totSS,zau,List.sum_cons,List.length_cons,Nat.mul_succ] at *
  omega
def ugF (p:List Int) (i j:Nat):Option (List Int):=if rd p (i:Int)≥rd p (j:Int)+2 then some (descL (giveL p (i:Int) (j:Int) 1)) else none
def ugRow (p:List Int) (i j d:Nat):List (List Int):=(List.range' j d).filterMap (ugF p i)
def ugAll (p:List Int) (i d:Nat):List (List Int):=(List.range' i d).flatMap fun i=>ugRow p i 0 p.length
theorem ugRow_le (p:List Int) (i j d:Nat):(ugRow p i j d).length≤d:=by
 have:=List.length_filterMap_le (ugF p i) (List.range' j d);simpa [ugRow] using this
theorem ugAll_succ (p:List Int) (i d:Nat):ugAll p i (d+1)=ugRow p i 0 p.length ++ ugAll p (i+1) d:=by
 unfold ugAll;rw [List.range'_succ,List.flatMap_cons]
theorem ugRow_succ (p:List Int) (i j d:Nat):ugRow p i j (d+1)=(if rd p (i:Int)≥rd p (j:Int)+2 then [descL (giveL p (i:Int) (j:Int) 1)] else []) ++ ugRow p i (j+1) d:=by
 unfold ugRow;rw [List.range'_succ,List.filterMap_cons];unfold ugF;by_cases c:rd p (i:Int)≥rd p (j:Int)+2
 ·simp only [if_pos c]
  rfl
 ·simp only [if_neg c]
  rfl
theorem specGifts_row (p:List Int) (hp:Sm p) (i:Nat) (hi:i<p.length) (r:List (List Int)):∀ (d j:Nat) (acc:List (List Int)),j+d=p.length→acc.length+d≤1000000000→Ev (fun k=>spec_liGifts.l0 k p (acc ++ ugRow p i j d) (p.length:Int) (wrap64 ((i:Int)+1))) r→Ev (fun k=>spec_liGifts.l1 k p acc (i:Int) (p.length:Int) (i:Int) (p.length:Int) (j:Int)) r
 | 0,j,acc,h,hb,hr=>by
  refine Ev.succ ?_
  simp only [spec_liGifts.l1,if_neg (show ¬ (j:Int)<(p.length:Int) by omega)];simpa [ugRow] using hr
 | d+1,j,acc,h,hb,hr=>by
  have hj:j<p.length:=by omega
  have hlen:=hp.1;have bi:=hp.2 _ (List.getElem_mem hi);have bj:=hp.2 _ (List.getElem_mem hj);rw [← rdn hi] at bi
  rw [← rdn hj] at bj
  refine Ev.succ ?_
  simp only [spec_liGifts.l1,if_pos (show (j:Int)<(p.length:Int) by omega),if_pos (Int.natCast_nonneg i),if_pos (show (i:Int)<(p.length:Int) by omega),if_pos (Int.natCast_nonneg j),wsucc hj (by omega),w64 (x:=rd p (j:Int)+2) (by omega) (by omega)];rw [ugRow_succ] at hr
  by_cases c:rd p (i:Int)≥rd p (j:Int)+2
  ·rw [if_pos c] at hr
   have hij:i≠j:=fun e=>by rw [e] at c;omega
   have hset:rd (p.set i (rd p (i:Int) - 1)) (j:Int)=rd p (j:Int):=by
    rw [rdn (by rw [List.length_set];exact hj),List.getElem_set_ne hij,rdn hj]
   have hg:(p.set i (rd p (i:Int) - 1)).set j (rd p (j:Int)+1)=giveL p (i:Int) (j:Int) 1:=rfl;simp only [if_pos c,l1Own_eq p (by omega),zbf,if_pos (show (i:Int)<(p.length:Int) by omega),if_pos (show (j:Int)<(p.length:Int) by omega),Int.toNat_natCast,w64 (x:=rd p (i:Int) - 1) (by omega) (by omega),hset,w64 (x:=rd p (j:Int)+1) (by omega) (by omega),hg];refine Ev.bind (liRank_ev _ (tabs)) ?_
   simp only [if_pos (show acc.length<5864062014805 by omega)];exact specGifts_row p hp i hi r d (j+1) _ (by omega) (tabi) (by rw [List.append_assoc];exact hr)
  ·rw [if_neg c,List.nil_append] at hr
   simp only [if_neg c];exact specGifts_row p hp i hi r d (j+1) acc (by omega) (by omega) hr
theorem specGifts_all (p:List Int) (hp:Sm p):∀ (d i:Nat) (acc:List (List Int)),i+d=p.length→acc.length+d*p.length≤100000000→Ev (fun k=>spec_liGifts.l0 k p acc (p.length:Int) (i:Int)) (acc ++ ugAll p i d)
 | 0,i,acc,h,hb=>by
  refine Ev.succ ?_
  simp only [spec_liGifts.l0,if_neg (show ¬ (i:Int)<(p.length:Int) by omega)];simp only [ugAll,List.range'_zero,List.flatMap_nil,List.append_nil];exact Ev.now _
 | d+1,i,acc,h,hb=>by
  have hlen:=hp.1;rw [Nat.succ_mul] at hb
  refine Ev.succ ?_
  simp only [spec_liGifts.l0,if_pos (show (i:Int)<(p.length:Int) by omega)];refine specGifts_row p hp i (by omega) _ p.length 0 acc (by omega) (by omega) ?_
  rw [wsucc (show i<p.length by omega) (by omega),ugAll_succ,← List.append_assoc];have hr:=ugRow_le p i 0 p.length;exact specGifts_all p hp d (i+1) _ (by omega) (by rw [List.length_append];omega)
theorem specGifts_ev (p:List Int) (hp:Sm p):Ev (fun k=>spec_liGifts.f k p) (ugAll p 0 p.length):=by
 unfold spec_liGifts.f;have h1:=hp.1;have h2:p.length*p.length≤1000*1000:=Nat.mul_le_mul h1 h1;have:=specGifts_all p hp p.length 0 [] (by omega) (by simp;omega);rw [List.nil_append] at this
 exact this
section
open Go.Shelf Go.Lib
def Kp (w W:World) (a b:Nat):Prop:=∀ k,a≤k→k<b→W.heap[k]? = w.heap[k]?
theorem kp_step {w W W':World} {a b:Nat} (h:Kp w W a b) (hb:Below W.heap.size W W') (hle:b≤W.heap.size):Kp w W' a b:=fun k h1 h2=>(hb.block k (by omega)).trans (h k h1 h2)
theorem S_cells2 {e i:Nat} {w:World} {base n1:Nat} {v:Value} {xs:List (List Int)} (hS:Kd.S (Kd.slice i (Kd.int .i64)) e w base (fun k=>base≤k∧k<n1) v xs) (hn:0<xs.length) :
 ∃ (blk cap:Nat) (cur:Array Value),v = .slice (some ⟨blk,0,none⟩) xs.length cap∧base≤blk∧blk<n1∧w.heap[blk]? = some (.cells cur e (0,0))∧cur.size=cap∧xs.length≤cap∧cap≤9223372036854775807 ∧
  ∀ j,j<xs.length→∃ A c,cur[j]! = .slice A (xs[j]!).length c∧(xs[j]!).length≤c∧∀ W,Kp w W base n1→Kd.C (Kd.int .i64) W A (xs[j]!).length (xs[j]!):=by
 obtain ⟨f,h0,inner,ho,hr⟩:=hS;rw [List.length_zipIdx] at ho
 obtain ⟨hil,hown⟩:=ho;have hsz1:(Kd.tag f (Kd.slice i (Kd.int .i64))).sz=1:=rfl;rw [hsz1,Nat.mul_one] at hil
 rcases hown with ⟨_,hz⟩ | ⟨blk,cap,cur,rfl,hb,hh,hnc,hc,hcs,htk⟩
 ·omega
 rw [hsz1,Nat.mul_one] at hcs htk
 refine ⟨blk,cap,cur,rfl,hb,(h0 blk rfl).2,hh,hcs,hnc,by unfold maxLen at hc;omega,fun j hj => ?_⟩
 have hM:=hr.2 j (xs[j],j) (Kd.zip_at (List.getElem?_eq_getElem hj));rw [hsz1,Nat.mul_one] at hM
 have hcell:(inner.drop j).take 1=[cur[j]!]:=by
  rw [← htk,List.drop_take,List.take_take,Nat.min_eq_left (by omega)];have:j<cur.toList.length:=by rw [Array.length_toList];omega
  rw [List.drop_eq_getElem_cons this,List.take_succ_cons,List.take_zero,getElem!_pos cur j (by simpa using this),Array.getElem_toList]
 rw [hcell] at hM
 have hM2:(Kd.slice i (Kd.int .i64)).M w base (fun k=>((base≤k∧k<n1)∧some k≠(Value.slice (some ⟨blk,0,none⟩) xs.length cap).ownBlock)∧f k=j) xs[j] [cur[j]!]:=hM;obtain ⟨v,hv,hR⟩:=hM2;obtain ⟨A,c,hA,hl,_⟩:=Kd.R_reads hR;have e:cur[j]! = v:=by simpa using hv
 rw [getElem!_pos xs j hj];refine ⟨A,c,by rw [e,hA],hl,fun W hG => ?_⟩
 have hR2:=Kd.R_step (w1:=W) hR (fun k hk hlt=>hG k hk.1.1.1 hk.1.1.2);rw [hA] at hR2
 exact (zbh hR2).2.2
theorem S_pick {α:Type} [Inhabited α] {d:Kd α} (hd1:d.sz=1) {e:Nat} {W:World} {base nA n1 blk cap:Nat} {bs:List α} {cur:Array Value} {ps:List Nat} {v:Value}
 (hS:Kd.S d e W nA (fun k=>nA≤k∧k<n1) (.slice (some ⟨blk,0,none⟩) bs.length cap) bs) (hheap:W.heap[blk]? = some (.cells cur e (0,0))) (hps:ps.Nodup) (hlt:∀ p ∈ ps,p<bs.length)
 (hR:(Kd.raw 1).R e W base (fun k=>k<nA∨n1≤k) v (ps.map fun p=>[cur[p]!])) (hb:base≤nA):Kd.S d e W base (fun _=>True) v (ps.map fun p=>bs[p]!):=by
 obtain ⟨f,h0,inner,ho,hr⟩:=hS;rw [List.length_zipIdx] at ho
 obtain ⟨hil,hown⟩:=ho;have hsz1:(Kd.tag f d).sz=1:=hd1;rw [hsz1,Nat.mul_one] at hil
 rcases hown with ⟨he,_⟩ | ⟨g,cap2,cur2,he,hbb,hh,hn,hc,hcs,htk⟩
 ·cases he
 injection he with e1 e2 e3
 injection e1 with e1
 injection e1 with e1 _ _
 subst e1;subst e3;rw [hheap] at hh
 injection hh with hh
 injection hh with hh1 _ _
 subst hh1;rw [hsz1,Nat.mul_one] at hcs htk
 obtain ⟨g0,inner',ho',hr'⟩:=hR;have hlen:((ps.map fun p=>bs[p]!).zipIdx).length=(ps.map fun p=>[cur[p]!]).length:=by simp
 refine ⟨fun b=>ps.idxOf (f b),fun _ _=>trivial,inner',?_,?_,?_⟩
 ·rw [hlen]
  show World.ownsRow W base e d.sz v _ inner'
  rw [hd1];exact ho'
 ·rw [hlen]
  show _=_*d.sz
  rw [hd1];exact hr'.1
 ·intro q p hq
  rw [List.getElem?_zipIdx,Nat.zero_add] at hq
  obtain ⟨x,hx,rfl⟩:=Option.map_eq_some_iff.1 hq;rw [List.getElem?_map] at hx
  obtain ⟨j,hj,rfl⟩:=Option.map_eq_some_iff.1 hx;obtain ⟨hql,hjq⟩:=List.getElem?_eq_some_iff.1 hj;have hjm:j ∈ ps:=by rw [← hjq];exact List.getElem_mem hql
  have hjn:=hlt j hjm;have hM:=hr.2 j (bs[j],j) (Kd.zip_at (List.getElem?_eq_getElem hjn));rw [hsz1,Nat.mul_one] at hM
  have hcell:(inner.drop j).take 1=[cur[j]!]:=by
   rw [← htk,List.drop_take,List.take_take,Nat.min_eq_left (by omega)];have:j<cur.toList.length:=by rw [Array.length_toList];omega
   rw [List.drop_eq_getElem_cons this,List.take_succ_cons,List.take_zero,getElem!_pos cur j (by simpa using this),Array.getElem_toList]
  rw [hcell] at hM
  have hC:=hr'.2 q [cur[j]!] (by rw [List.getElem?_map,hj];rfl);have hC2:(inner'.drop (q*(Kd.raw 1).sz)).take (Kd.raw 1).sz=[cur[j]!]:=hC.1;show (Kd.tag _ d).M W base _ (bs[j]!,q) ((inner'.drop (q*d.sz)).take d.sz)
  rw [hd1,show (1:Nat)=(Kd.raw 1).sz from rfl,hC2,getElem!_pos bs j hjn];have hM2:d.M W nA (fun k=>((nA≤k∧k<n1)∧some k≠(Value.slice (some ⟨blk,0,none⟩) bs.length cap).ownBlock)∧f k=j) bs[j] [cur[j]!]:=hM;refine d.M_lower hb (d.M_mono (fun k hk=>⟨⟨trivial,fun he => ?_⟩,?_⟩) hM2)
  ·have:=g0 k he.symm
   omega
  ·show List.idxOf (f k) ps=q
   rw [hk.2,← hjq,idx_at hps hql]
theorem raw_C {e:Nat} {i:Nat} {W:World} {base:Nat} {ok:Nat→Prop} {v:Value} {rows:List (List Value)} {xs:List (List Int)} (hR:(Kd.raw 1).R e W base ok v rows) (hl:rows.length=xs.length)
 (hx:∀ (j:Nat) (x:List Int) (r:List Value),xs[j]? = some x→rows[j]? = some r→(Kd.slice i (Kd.int .i64)).K W x r):∃ A c,v = .slice A xs.length c∧xs.length≤c∧Kd.C (Kd.slice i (Kd.int .i64)) W A xs.length xs:=by
 obtain ⟨A,c,rfl,hle,hC⟩:=Kd.R_reads hR;rw [hl] at hle
 refine ⟨A,c,by rw [hl],hle,?_⟩
 obtain ⟨h1,h2,h3⟩:=hC;refine ⟨rfl,by rw [← hl];exact h2,fun hp => ?_⟩
 obtain ⟨ad,rfl,h4⟩:=h3 (by rw [hl];exact hp);refine ⟨ad,rfl,fun j x hj => ?_⟩
 have hjl:j<xs.length:=(List.getElem?_eq_some_iff.1 hj).1;obtain ⟨cs,hcs,hK,hcc⟩:=h4 j rows[j] (List.getElem?_eq_getElem (by omega));refine ⟨cs,hcs,?_,hcc⟩
 rw [hK.1];exact hx j x _ hj (List.getElem?_eq_getElem (by omega))
theorem anyIdx0 {P:Program} {ρ:Ren} (L:SlLaysH.n6 P ρ) (A:Option Addr) (c:Nat) (g:Nat) (lb:Array Value) (w:World) :
 Calls P (ρ.f 6) #[.slice A 0 c,.func (.func g) #[] lb] w fun e w'=>∃ i:Int,e = .returned (.int .i64 i)∧i = -1∧Below w.heap.size w w':=by
 have mixed:=L.mixed;have t0:=L.t0;have a0:=L.a0;have z0:=L.z0;have v0:=L.v0;have t3:=L.t3;have a3:=L.a3;have z3:=L.z3;have v3:=L.v3;have t4:=L.t4;have a4:=L.a4;have z4:=L.z4;have v4:=L.v4;have t22:=L.t22;have a22:=L.a22;have z22:=L.z22;have v22:=L.v22;have a23:=L.a23;have z23:=L.z23;have t25:=L.t25;have a25:=L.a25;have z25:=L.z25;have v25:=L.v25;have HB:=zad (Below.refl w.heap.size w);obtain ⟨_,_,FG⟩:=L.f6;go_enter FG,SlBodyH.n6_ntmps ρ;go_wp2
 go_loopg [5,8] 0 (fun gg _ s8 wr=>s8 = .int .i64 0∧Aside0 (Below w.heap.size w wr))
 case atStart=>exact ⟨rfl,⟨taaa⟩⟩
 case round =>
  clear HB;obtain ⟨rfl,HB⟩:=hrel;go_wp2
  go_ret
  exact ⟨_,rfl,rfl,HB.out⟩
theorem anyHas0 {P:Program} {ρ:Ren} (L:SlLaysH.n8 P ρ) (A:Option Addr) (c:Nat) (g:Nat) (lb:Array Value) (w:World) :
 Calls P (ρ.f 8) #[.slice A 0 c,.func (.func g) #[] lb] w fun e w'=>e = .returned (.bool false)∧Below w.heap.size w w':=by
 have mixed:=L.mixed;have t0:=L.t0;have a0:=L.a0;have z0:=L.z0;have v0:=L.v0;have t3:=L.t3;have a3:=L.a3;have z3:=L.z3;have v3:=L.v3;have t4:=L.t4;have a4:=L.a4;have z4:=L.z4;have v4:=L.v4;have t22:=L.t22;have a22:=L.a22;have z22:=L.z22;have v22:=L.v22;have a23:=L.a23;have z23:=L.z23;have t25:=L.t25;have a25:=L.a25;have z25:=L.z25;have v25:=L.v25;have e6:∀ args w,(callFunc (ρ.f 6) args).run P w = .ok (.enter (ρ.f 6) args) w:=L.f6.enters rfl;obtain ⟨_,_,FG⟩:=L.f8;go_enter FG,SlBodyH.n8_ntmps ρ;go_wp2_with (go_at_fn (ρ.f 6);refine (anyIdx0 { L with } A c g lb _).mono ?_;rintro e w' ⟨i,rfl,hi,hb⟩;have HI:=zad hi;have HB:=zad hb;clear hi hb)
 go_ret
 refine ⟨?_,HB.out⟩
 rw [HI.out];rfl
end
section
open Go.Shelf Go.Lib
end
end Go.Proofs.YtefbphpgaeffaaaGreatDoor.A
/-
 DERIVED: THE SHELF's CONTRACTS AT THIS DUMP,IN PLAIN WORDS (tools/lay-plain.mjs out of 'YtefbphpgaeffaaaGreatDoorShelfH.lean',which tools/lay-shelf.mjs wrote): THE SAME DECLARATIONS UNDER THE SAME NAMES: 'import','namespace','open','def','theorem' AND NOTHING ELSE: no command of the shelf's: FOR A HAND-IN. Each laying: the table of numbers ('.._ren') and one theorem,a field a fact of the dump's own or the kernel's comparison;each contract: ONE APPLICATION.
-/
namespace Go.Proofs
open Go.Shelf
def Tryz.hasL_ren:Go.Shelf.Ren:=⟨fun | 8=>51 | 6=>83 | n=>n,fun | 22=>39 | 23=>24 | 25=>54 | 4=>4 | 3=>3 | 0=>0 | n=>n,fun | n=>n⟩
theorem Tryz.hasL:Go.Proofs.SlLaysH.n8 Tryz.prog Tryz.hasL_ren:={
 mixed:=by kernel_rfl
 f6:=⟨Tryz.f83.name,by decide,Tryz.func83.trans (congrArg some (by kernel_rfl))⟩
 f8:=⟨Tryz.f51.name,by decide,Tryz.func51.trans (congrArg some (by kernel_rfl))⟩
 t0:=Tryz.underlying0
 a0:=Tryz.isAgg0
 z0:=Tryz.sizeOf0
 v0:=Tryz.zeroValue0
 t3:=Tryz.underlying3
 a3:=Tryz.isAgg3
 z3:=Tryz.sizeOf3
 v3:=Tryz.zeroValue3
 t4:=Tryz.underlying4
 a4:=Tryz.isAgg4
 z4:=Tryz.sizeOf4
 v4:=Tryz.zeroValue4
 t22:=Tryz.underlying39
 a22:=Tryz.isAgg39
 z22:=Tryz.sizeOf39
 v22:=Tryz.zeroValue39
 a23:=Tryz.isAgg24
 z23:=Tryz.sizeOf24
 t25:=Tryz.underlying54
 a25:=Tryz.isAgg54
 z25:=Tryz.sizeOf54
 v25:=Tryz.zeroValue54 }
end Go.Proofs

namespace Go.Proofs.YtefbphpgaeffaaaGreatDoor.A
open Go.RowKit Go.Proofs.YtefbphpgaeffaaaGreatDoorW.PrintWords Go.Proofs.YtefbphpgaeffaaaGreatDoorW.PrintLast Go.Proofs.YtefbphpgaeffaaaGreatDoorW.PrintMore
attribute [local go_sem] max2_int min2_int max_two min_two max_three min_three max_four min_four
section
open Go.Shelf Go.Lib
theorem rowsAt {w:World} {ad:Addr} {l0:List (List Int)} (hr0:Kd.C (Kd.slice 3 (Kd.int .i64)) w (some ad) l0.length l0):∃ vs:Nat→Value,∀ j,j<l0.length→w.cell? (ad.add j)=some (vs j)∧∃ A c,vs j = .slice A (l0.getD j []).length c∧(l0.getD j []).length≤c∧Kd.C (Kd.int .i64) w A (l0.getD j []).length (l0.getD j []):=by
 have hrows:∀ j,j<l0.length→∃ v:Value,w.cell? (ad.add j)=some v∧∃ A c,v = .slice A (l0.getD j []).length c∧(l0.getD j []).length≤c∧Kd.C (Kd.int .i64) w A (l0.getD j []).length (l0.getD j []):=fun j hj=>by
  obtain ⟨ad',A,c,he,hcell,hle,hC⟩:=at_L2 hr0 (j:Int) (by omega) (by omega);cases he
  exact ⟨_,hcell,A,c,rfl,hle,hC⟩
 exact ⟨fun j=>if h:j<l0.length then Classical.choose (hrows j h) else .bool false,fun j h=>by
  simp only [dif_pos h];exact Classical.choose_spec (hrows j h)⟩
end
section
open Go.Shelf Go.Lib
def covHas (k:Nat) (out:List (List Int)) (b:List Int):Option Bool:=if out.all (fun c=>(impl_isMajorized.f k b c).isSome)=true then some (out.any fun c=>impl_isMajorized.f k b c == some true) else none
theorem cov_cell (k:Nat) (b x:List Int) (t:Bool) (Ab A:Option Addr) (cb c B:Nat) (W:World) (h0:W.cell? ⟨B,0,none⟩=some (.slice Ab b.length cb)) (hr0:Kd.C (Kd.int .i64) W Ab b.length b) (hc0:b.length≤cb) (hr:Kd.C (Kd.int .i64) W A x.length x) (hc:x.length≤c) (h:impl_isMajorized.f k b x=some t) :
 Calls Tryz.prog 52 (#[.slice A x.length c] ++ #[.pointer (some ⟨B,0,none⟩)]) W fun e w'=>e = .returned (.bool t)∧Below W.heap.size W w':=by
 have HR0:=zad hr0;have HC0:=zad hc0;have HR:=zad hr;have HC:=zad hc;have HK:=zad h;clear hr0 hc0 hr hc h;show Calls Tryz.prog 52 #[.slice A x.length c,.pointer (some ⟨B,0,none⟩)] W _
 go_enter Tryz.func52,Tryz.ntmps52;go_wp2_with (go_at_call 53;(refine (impl_isMajorized.calls k Ab cb b A c x t _ ?side1 ?side2 ?side3 ?side4 HK.out).mono ?_);(case side1=>first | exact HR0.out | exact zam HR0.out _);(case side2=>exact HC0.out);(case side3=>first | exact HR.out | exact zam HR.out _);(case side4=>exact HC.out);rintro e w' ⟨rfl,hb⟩;have HB:=zad hb;clear hb)
 go_ret
 exact ⟨rfl,HB.out⟩
theorem covHas_calls (k B:Nat) (Ab:Option Addr) (cb:Nat) (b:List Int) (A0:Option Addr) (c0:Nat) (out:List (List Int)) (r:Bool) (w:World) (hB:w.cell? ⟨B,0,none⟩=some (.slice Ab b.length cb)) (hrb:Kd.C (Kd.int .i64) w Ab b.length b) (hcb:b.length≤cb) (hr0:Kd.C (Kd.slice 3 (Kd.int .i64)) w A0 out.length out) (hc0:out.length≤c0) (h:covHas k out b=some r) :
 Calls Tryz.prog 51 #[.slice A0 out.length c0,.func (.func 52) #[] #[.pointer (some ⟨B,0,none⟩)]] w fun e w'=>e = .returned (.bool r)∧Below w.heap.size w w':=by
 unfold covHas at h
 split at h
 next hc =>
  rw [List.all_eq_true] at hc
  have hr:=zbg h;by_cases hn:out.length=0
  ·have hout:out=[]:=List.length_eq_zero_iff.1 hn
   subst hout;have hf:r=false:=by rw [← hr];rfl
   subst hf;exact (anyHas0 Tryz.hasL A0 c0 52 #[.pointer (some ⟨B,0,none⟩)] w).mono fun _ _ hx=>hx
  ·obtain ⟨ad,_,_,hA,_⟩:=at_L2 hr0 0 (by omega) (by omega)
   subst hA;obtain ⟨vs,hvs⟩:=rowsAt hr0;have hbig:out.length≤9223372036854775807:=by have:=hr0.2.1;omega
   have eg:∀ args w,(callFunc 52 args).run Tryz.prog w = .ok (.enter 52 args) w:=fun args w=>enters_ Tryz.func52 (by kernel_rfl) rfl args w
   refine (anyHasB Tryz.hasL ad out.length c0 vs (fun j=>impl_isMajorized.f k b (out.getD j []) == some true) 52 #[.pointer (some ⟨B,0,none⟩)] w eg hbig (fun j hj=>(hvs j hj).1) (fun j hj W hb => ?_)).mono ?_
   ·obtain ⟨A,c,hv,hle,hC⟩:=(hvs j hj).2
    rw [hv];have hm:out.getD j [] ∈ out:=by
     rw [List.getD_eq_getElem?_getD,List.getElem?_eq_getElem hj];exact List.getElem_mem hj
    obtain ⟨t,ht⟩:=Option.isSome_iff_exists.1 (hc _ hm);have hlt:=zaz w _ hB;have:=cov_cell k b (out.getD j []) t Ab A cb c B W ((hb.cell (p:=⟨B,0,none⟩) hlt).trans hB) (Kd.C_below hrb hb) hcb (Kd.C_below hC hb) hle ht;rw [ht];cases t <;> exact this
   ·rintro e w' ⟨rb,rfl,hi,hb⟩
    refine ⟨?_,hb⟩
    have e:rb=r:=by
     rw [← hr,Bool.eq_iff_iff,List.any_eq_true,hi];constructor
     ·rintro ⟨j,hj,hp⟩
      rw [List.getD_eq_getElem?_getD,List.getElem?_eq_getElem hj] at hp
      exact ⟨_,List.getElem_mem hj,hp⟩
     ·rintro ⟨x,hx,hp⟩
      obtain ⟨j,hj,rfl⟩:=List.mem_iff_getElem.1 hx;exact ⟨j,hj,by rw [List.getD_eq_getElem?_getD,List.getElem?_eq_getElem hj];exact hp⟩
    rw [e]
 next=>cases h
theorem tail_addr {A12:Option Addr} {blk co j:Nat} (h:A12=(if co=(1:Int).toNat then (some ⟨blk,0,none⟩:Option Addr) else (some ⟨blk,0,none⟩:Option Addr).map (·.add ((1:Int).toNat*1)))) (hco:2≤co):∃ ad:Addr,A12=some ad∧ad.add j=⟨blk,j+1,none⟩:=by
 have hne:¬ co=(1:Int).toNat:=by
  show ¬ co=1
  omega
 rw [h,if_neg hne];refine ⟨(⟨blk,0,none⟩:Addr).add 1,rfl,?_⟩
 rw [addr0_add];unfold Addr.add;split
 ·next hj=>rw [hj]
 ·show (⟨blk,1+j,none⟩:Addr)=_
  rw [Nat.add_comm]
theorem tail_get {bs y:List (List Int)} (h:y=bs.drop 1) {i:Nat} (hi:i<y.length):bs[i+1]! = rd_L2 y (i:Int):=by
 subst h;rw [zaw] at hi
 have e:(bs.drop 1)[i]? = bs[i+1]? := by rw [List.getElem?_drop,Nat.add_comm]
 unfold rd_L2;rw [Int.toNat_natCast,List.getD_eq_getElem?_getD,e,getElem!_pos bs (i+1) (by omega),List.getElem?_eq_getElem (show i+1<bs.length by omega)];rfl
theorem pick_K {cur:Array Value} {bs:List (List Int)} {t:Nat} {W:World} {ps:List Nat} (hrow:∀ p ∈ ps,∃ A c,cur[p]! = .slice A (bs[p]!).length c∧(bs[p]!).length≤c∧Kd.C (Kd.int .i64) W A (bs[p]!).length (bs[p]!)) (j:Nat) (x:List Int) (r:List Value) (hj:(ps.map fun p=>bs[p]!)[j]? = some x) (hr:(ps.map fun p=>[cur[p]!])[j]? = some r):(Kd.slice t (Kd.int .i64)).K W x r:=by
 rw [List.getElem?_map] at hj hr
 obtain ⟨p,hp,rfl⟩:=Option.map_eq_some_iff.1 hj;rw [hp] at hr
 have e:r=[cur[p]!]:=by simpa using hr.symm
 subst e;obtain ⟨hl,he⟩:=List.getElem?_eq_some_iff.1 hp;obtain ⟨A,c,h1,h2,h3⟩:=hrow p (by rw [← he];exact List.getElem_mem hl);exact ⟨A,c,by rw [h1],h2,h3⟩
theorem succ_w {i n:Nat} (h:i<n) (hn:n≤9223372036854775807):wrap64 ((i:Int)+1)=((i+1:Nat):Int):=by
 unfold wrap64;omega
mutual
def impl_LowerCovers.j0:Nat→List Int→Bool→Option ((List (List Int)) × Bool)
 | 0,_,_=>none
 | k+1,x0,x14=>if x14=true then (some (([]:List (List Int)),false)) else ((impl_below.f k x0).bind fun t528=>(if 1≤(t528.length:Int) then ((some (t528.drop 1:List (List Int))).bind fun y531=>(impl_LowerCovers.l0 k (([]:List (List Int))) y531 (y531.length:Int) 0)) else (none)))
def impl_LowerCovers.l0:Nat→List (List Int)→List (List Int)→Int→Int→Option ((List (List Int)) × Bool)
 | 0,_,_,_,_=>none
 | k+1,x4,x18,x19,x20=>if x20<x19 then (if 0≤x20 then (if x20<(x18.length:Int) then ((covHas k x4 (rd_L2 x18 x20)).bind fun t537=>(if t537=true then (impl_LowerCovers.l0 k x4 x18 x19 (wrap64 (x20+1))) else (if x4.length<5864062014805 then (impl_LowerCovers.l0 k (x4 ++ [rd_L2 x18 x20]) x18 x19 (wrap64 (x20+1))) else (none)))) else (none)) else (none)) else (some (x4,true))
end
def impl_LowerCovers.f (k:Nat) (l0:List Int):Option ((List (List Int)) × Bool):=(impl_IsList.f k l0).bind fun t523=>(if t523=true then ((impl_total.f k l0).bind fun t524=>(impl_LowerCovers.j0 k l0 (decide (t524>30)))) else (impl_LowerCovers.j0 k l0 true))
theorem impl_LowerCovers.calls (k:Nat) (A0:Option Addr) (c0:Nat) (l0:List Int) (r1:List (List Int)) (r2:Bool) (w:World) (hr0:Kd.C (Kd.int .i64) w A0 l0.length l0) (hc0:l0.length≤c0) (h:impl_LowerCovers.f k l0=some (r1,r2)) :
 Calls Tryz.prog 18 #[.slice A0 l0.length c0] w fun e w'=>∃ v0_:Value,e = .returned (.tuple #[v0_,.bool r2])∧Kd.S (Kd.slice 3 (Kd.int .i64)) 24 w' w.heap.size (fun _=>True) v0_ r1∧Below w.heap.size w w':=by
 have HR0:=zad hr0;have HC0:=zad hc0;clear hr0 hc0;have HB:=zad (Below.refl w.heap.size w);have H:((impl_IsList.f k l0).bind fun t523=>(if t523=true then ((impl_total.f k l0).bind fun t524=>(impl_LowerCovers.j0 k l0 (decide (t524>30)))) else (impl_LowerCovers.j0 k l0 true)))=some (r1,r2):=h;clear h;have HC2:=zad H;clear H;go_enter Tryz.func18,Tryz.ntmps18;go_upto_region 1 with (fail)
 go_cut [14] (fun v14 wc=>∃ (kq:Nat) (x14_1:Bool),v14 = .bool x14_1∧Aside0 (impl_LowerCovers.j0 kq l0 x14_1=some (r1,r2))∧Aside0 (kq≤k)∧Aside0 (Below w.heap.size w wc))
 case first =>
  have H:=HC2.out;clear HC2;replace H:=zay.mp H;obtain ⟨t523,A30,H⟩:=H;replace H:(if t523=true then ((impl_total.f k l0).bind fun t524=>(impl_LowerCovers.j0 k l0 (decide (t524>30)))) else (impl_LowerCovers.j0 k l0 true))=some (r1,r2):=H;have A3:=zad A30;clear A30;by_cases c4:t523=true
  ·subst c4
   have H1:((impl_total.f k l0).bind fun t524=>(impl_LowerCovers.j0 k l0 (decide (t524>30))))=some (r1,r2):=by rw [if_pos rfl] at H;exact H
   clear H;have H:=H1;clear H1;replace H:=zay.mp H;obtain ⟨t524,A50,H⟩:=H;replace H:(impl_LowerCovers.j0 k l0 (decide (t524>30)))=some (r1,r2):=H;have A5:=zad A50;clear A50;have H':=zad H;clear H;go_wp2_with (first | ((with_reducible refine zbj (f:=30) rfl ?_);refine zbr (some 8) rfl rfl Tryz.func30 (by kernel_rfl) rfl #[.slice A0 l0.length c0] rfl (taac) ?_;(with_reducible refine (impl_IsList.calls k _ _ l0 true _ ?side1 ?side2 A3.out).mono ?_);(case side1=>exact tahr);(case side2=>exact HC0.out);rintro e w' ⟨rfl,⟨nd,rfl⟩⟩;refine ⟨_,rfl,?_⟩) | (go_at_call 21;(with_reducible refine (impl_total.calls k _ _ l0 t524 _ ?side1 ?side2 A5.out).mono ?_);(case side1=>exact taij);(case side2=>exact HC0.out);rintro e w' ⟨rfl,⟨nd,rfl⟩⟩))
   go_meet
   case rel=>exact ⟨_,(decide (t524>30)),(taae),H',⟨tabf⟩,⟨taaa⟩⟩
  ·replace c4:=zbk.mpr c4
   subst c4;have H1:(impl_LowerCovers.j0 k l0 true)=some (r1,r2):=by rw [if_neg (show ¬ (false=true) by decide)] at H;exact H
   clear H;have H:=H1;clear H1;have H':=zad H;clear H;go_wp2_with (first | ((with_reducible refine zbj (f:=30) rfl ?_);refine zbr (some 8) rfl rfl Tryz.func30 (by kernel_rfl) rfl #[.slice A0 l0.length c0] rfl (taac) ?_;(with_reducible refine (impl_IsList.calls k _ _ l0 false _ ?side1 ?side2 A3.out).mono ?_);(case side1=>exact tahr);(case side2=>exact HC0.out);rintro e w' ⟨rfl,⟨nd,rfl⟩⟩;refine ⟨_,rfl,?_⟩))
   go_meet
   case rel=>exact ⟨_,(true),(taae),H',⟨tabf⟩,⟨taaa⟩⟩
 case rest =>
  clear HC2;try clear c1
  try clear p2
  try clear c4
  obtain ⟨kq,x14_1,rfl,HA,HJ1,HB⟩:=hcut;cases kq with
  | zero=>exact absurd HA.out (by simp [impl_LowerCovers.j0])
  | succ kj1 =>
   have H:=HA.out;clear HA;simp only [impl_LowerCovers.j0] at H;by_cases c6:x14_1=true
   ·subst c6
    have H1:(some (([]:List (List Int)),false))=some (r1,r2):=by rw [if_pos rfl] at H;exact H
    clear H;have H:=H1;clear H1;simp only [zbp,zbt] at H;obtain ⟨rfl,rfl⟩:=H;go_wp2
    go_ret2
    exact ⟨_,taah,tacf,taaa⟩
   ·replace c6:=zbk.mpr c6
    subst c6;have H1:((impl_below.f kj1 l0).bind fun t528=>(if 1≤(t528.length:Int) then ((some (t528.drop 1:List (List Int))).bind fun y531=>(impl_LowerCovers.l0 kj1 (([]:List (List Int))) y531 (y531.length:Int) 0)) else (none)))=some (r1,r2):=by rw [if_neg (show ¬ (false=true) by decide)] at H;exact H
    clear H;have H:=H1;clear H1;obtain ⟨y525,hy525⟩:∃ y_:List (List Int),y_=(([]:List (List Int))):=⟨_,rfl⟩;replace H:((impl_below.f kj1 l0).bind fun t528=>(if 1≤(t528.length:Int) then ((some (t528.drop 1:List (List Int))).bind fun y531=>(impl_LowerCovers.l0 kj1 y525 y531 (y531.length:Int) 0)) else (none)))=some (r1,r2):=by first | (rw [hy525];with_reducible exact H) | (have H2_:=(zbf _ _).symm.trans H;rw [hy525];with_reducible exact H2_) | (have H2_:=(zbf _ _).symm.trans H;with_reducible exact H2_) | with_reducible exact H | (rw [hy525];exact H) | exact H
    have Ny525:=zad hy525;clear hy525;replace H:=zay.mp H;obtain ⟨t528,A70,H⟩:=H;replace H:(if 1≤(t528.length:Int) then ((some (t528.drop 1:List (List Int))).bind fun y531=>(impl_LowerCovers.l0 kj1 y525 y531 (y531.length:Int) 0)) else (none))=some (r1,r2):=H;have A7:=zad A70;clear A70;by_cases c8:1≤(t528.length:Int)
    ·rw [if_pos c8] at H
     have c8b0:=eq_true c8;have c8b1:decide (1≤(t528.length:Int))=true:=zba c8;clear c8;obtain ⟨y531,hy531⟩:∃ y_:List (List Int),y_=(t528.drop 1):=⟨_,rfl⟩;replace H:(impl_LowerCovers.l0 kj1 y525 y531 (y531.length:Int) 0)=some (r1,r2):=by first | (rw [hy531];with_reducible exact H) | (have H2_:=(zbf _ _).symm.trans H;rw [hy531];with_reducible exact H2_) | (have H2_:=(zbf _ _).symm.trans H;with_reducible exact H2_) | with_reducible exact H | (rw [hy531];exact H) | exact H
     have Ny531:=zad hy531;clear hy531;have H':=zad H;clear H;go_wp2_with (first | ((with_reducible refine gate_dst (N:=15) rfl ?_);refine Kd.R_lit (Kd.raw 1) _ 24 ?hg (N:=15) ?hd (xs:=([]:List (List Value))) (inner:=[]) (ok:=(fun k_=>(w.heap.size≤k_))) (okp:=(fun k_=>(w.heap.size≤k_))) ?hr ?hp (fun _ hk=>hk) ((show ∀ k_,wc.heap.size≤k_→(fun k_=>(w.heap.size≤k_)) k_ from fun k_ hk=>(Nat.le_trans (zbo (taaa)) hk)) _ (zcf _)) (Below.refl _ _) (zcf _) (taad) ?_;(case hd=>rfl);(case hg=>rfl);(case hr=>first | (go_simp;done) | (go_simp;rfl));(case hp=>exact (Reps.none _ _));intro v526 w9 ho10 hb hg_ hnew_;clear hg_ hnew_;have n0_:=zad (zby ho10 (zbo (taaa)));have n1_:=zad (zbi (taaa) hb);clear HB;have HO527:=n0_;have HB:=n1_;clear n0_ n1_ hb ho10) | ((with_reducible refine zbj (f:=50) rfl ?_);refine zbr (some 17) rfl rfl Tryz.func50 (by kernel_rfl) rfl #[.slice A0 l0.length c0] rfl (taac) ?_;(with_reducible refine (impl_below.calls kj1 _ _ l0 t528 _ ?side1 ?side2 A7.out).mono ?_);(case side1=>exact tahr);(case side2=>exact HC0.out);rintro e w11 ⟨v529,rfl,ho0,hb⟩;refine ⟨_,rfl,?_⟩;obtain ⟨nA,hnA⟩:∃ n,n=w9.heap.size:=⟨_,rfl⟩;obtain ⟨n1,hn1⟩:∃ n,n=w11.heap.size:=⟨_,rfl⟩;rw [← hnA] at ho0;have hbA:w.heap.size≤nA:=(by rw [hnA];exact HB.out.size);have hA1:nA≤n1:=(by rw [hnA,hn1];exact hb.size);have HRW:=zad (show (Kd.raw 1).R 24 w11 w.heap.size (fun k=>k<nA∨n1≤k) v526 [] from zbu (zbx (Kd.R_bound HO527.out) hb) (fun k hk => .inl (by have:=hk.2.2.1;omega)));have HS:=zad (show Kd.S (Kd.slice 3 (Kd.int .i64)) 24 w11 nA (fun k=>nA≤k∧k<n1) v529 t528 from Kd.S_mono (Kd.S_bound ho0) (fun k hk=>⟨hk.2.1,by have:=hk.2.2.1;omega⟩));have HB2:=zad (zbi (taaa) hb);clear HO527 HB hb ho0;have HB:=HB2;clear HB2;obtain ⟨blk,co13,cur,rfl,hblo,hbhi,hheap,hcsz,hroom12,hcmx,hrow⟩:=S_cells2 HS.out (by have:=zas c8b1;omega);have HCM:=zad hcmx;have HCS:=zad hcsz;have HRM:=zad hroom12;have HH:=zad hheap;have HROW:=zad hrow;have HKP:=zad (show Kp w11 w11 nA n1 from fun _ _ _=>rfl);have HN1:=zad hn1;clear hheap hrow hnA hn1 hcmx hcsz;have q12:(1:Int)≤((t528.length:Int):Int):=zas (taab);obtain ⟨i012,hi012,_,hsz12,_⟩:=info_parts info24;have hcut12:=cut_from (P:=Tryz.prog) 39 24 .i64 Tryz.underlying39 hi012 1 hsz12 (some ⟨blk,0,none⟩) t528.length co13 1 (by omega) q12;obtain ⟨A12,hA12⟩:∃ A1,A1=(if co13=(1:Int).toNat then (some ⟨blk,0,none⟩:Option Addr) else (some ⟨blk,0,none⟩:Option Addr).map (·.add ((1:Int).toNat*1))):=⟨_,rfl⟩;obtain ⟨c12,hc12⟩:∃ c1,c1=co13 - (1:Int).toNat:=⟨_,rfl⟩;have hy12:y531.length=t528.length - (1:Int).toNat:=(by rw [Ny531.out,zaw] <;> omega);rw [← hy12,← hA12,← hc12] at hcut12;have H12:=zad (show ∀ j,j<y531.length→∃ ad,A12=some ad∧ad.add j=⟨blk,j+1,none⟩ from fun j hj=>tail_addr hA12 (by omega));clear hi012 hsz12 hc12;have KY12:=zad hy12;clear hy12 hA12 hroom12;replace q12:=eq_true q12))
     go_loopg [4,20] kj1 (fun kq v4 v20 w'=>∃ (ps:List Nat) (i:Nat),v20 = .int .i64 (i:Int)∧Aside0 (impl_LowerCovers.l0 kq (ps.map fun p=>t528[p]!) y531 (y531.length:Int) (i:Int)=some (r1,r2))∧Aside0 (kq≤kj1)∧Aside0 ((Kd.raw 1).R 24 w' w.heap.size (fun k=>k<nA∨n1≤k) v4 (ps.map fun p=>[cur[p]!]))∧Aside0 (Kp w11 w' nA n1)∧Aside0 (ps.Pairwise (· < ·)∧(∀ p ∈ ps,p≤i∧p<t528.length)∧i≤y531.length)∧Aside0 (Below w.heap.size w w')∧Aside0 (n1≤w'.heap.size))
     case atStart=>exact ⟨[],0,rfl,⟨by have h:=H'.out;rw [Ny525.out] at h;exact h⟩,⟨zcf _⟩,⟨HRW.out⟩,⟨HKP.out⟩,⟨List.Pairwise.nil,taad,Nat.zero_le _⟩,⟨HB.out⟩,⟨Nat.le_of_eq HN1.out⟩⟩
     case round =>
      clear H' HRW HKP HB;try clear c4
      try clear c6
      try clear c8b0
      try clear c8b1
      obtain ⟨ps,i,rfl,HA,HK2,HRW,HKP,HPS,HB,HNW⟩:=hrel;have hy:=KY12.out;have hroom12:=HRM.out;have hcsz:=HCS.out;simp only [Int.reduceToNat] at hy
      cases gk with
      | zero=>exact absurd HA.out (by simp [impl_LowerCovers.l0])
      | succ k2 =>
       have H:=HA.out;clear HA;simp only [impl_LowerCovers.l0] at H;by_cases c14:(i:Int)<(y531.length:Int)
       ·rw [if_pos c14,if_pos (Int.natCast_nonneg i),if_pos c14] at H
        obtain ⟨t537,A170,H⟩:=zay.mp H;have hin:i+1<t528.length:=by omega
        have HIL:=zad (show i+1≤y531.length by omega);obtain ⟨ad12,hA12,had⟩:=H12.out i (by omega);obtain ⟨Ab,cb,hcur,hbl,hbC⟩:=HROW.out (i+1) hin;have heq:t528[i+1]! = rd_L2 y531 (i:Int):=tail_get Ny531.out (by omega);rw [heq] at hcur hbl hbC
        have hx:wr.cell? (ad12.add i)=some (.slice Ab (rd_L2 y531 (i:Int)).length cb):=by
         rw [had,← hcur];have hb2:wr.heap[blk]? = some (.cells cur 24 (0,0)):=(HKP.out blk hblo hbhi).trans HH.out;rw [zbm hb2 (i+1),getElem!_pos cur (i+1) (by omega),Array.getElem?_eq_getElem (by omega)]
        subst hA12;have HBC:=zad (hbC wr HKP.out);have HBL:=zad hbl;have HEQ:=zad heq;have HCUR:=zad hcur;have hw:=succ_w (show i<y531.length by omega) (Nat.le_trans (Nat.le_trans (show y531.length≤t528.length by omega) HRM.out) HCM.out);obtain ⟨A4,c4,hu4,hle4,hC4⟩:=raw_C (i:=3) HRW.out (xs:=ps.map fun p=>t528[p]!) (taad) (pick_K fun p hp=>by
         obtain ⟨A,c,h1,h2,h3⟩:=HROW.out p (HPS.out.2.1 p hp).2;exact ⟨A,c,h1,h2,h3 wr HKP.out⟩)
        rw [hw] at H;generalize hout:(ps.map fun p=>t528[p]!)=out at A170 H hu4 hle4 hC4
        subst hu4;have A17:=zad A170;have HC4:=zad hC4;have HL4:=zad hle4;have HOUT:=zad hout.symm;have c14b0:decide ((i:Int)<(y531.length:Int))=true:=zba c14;have p536:=eq_true (Int.natCast_nonneg i);have q536:=eq_true c14;have HIN:=zad hin;have HW:=zad hw;clear hy hroom12 hcsz A170 hC4 hle4 hout hcur hbl hbC heq had hw hin c14;cases t537 with
        | true =>
         simp only [if_true] at H;have H':=zad H;clear H;go_wp2_with (go_at_call 51;(refine (covHas_calls k2 wr.heap.size Ab cb (rd_L2 y531 (i:Int)) A4 c4 out true _ ?s1 ?s2 ?s3 ?s4 ?s5 A17.out).mono ?_);(case s1=>simp [go_sem]);(case s2=>exact Kd.C_below HBC.out (tacg));(case s3=>exact HBL.out);(case s4=>exact Kd.C_below HC4.out (tacg));(case s5=>exact HL4.out);rintro e w3 ⟨rfl,hb⟩;have hbw:Below wr.heap.size wr w3:=zbi (tacg) hb;have HB2:=zad (zbi HB.out hbw);have HRW2:=zad (zbx HRW.out hbw);have HKP2:=zad (kp_step HKP.out hbw HNW.out);have HNW2:=zad (Nat.le_trans HNW.out hbw.size);clear hb hbw HB HRW HKP HNW HC4 HBC)
         go_roundg k2
         case measure=>have:=HK2.out;omega
         case rel=>exact ⟨ps,i+1,by first | rfl | rw [HW.out],⟨by rw [← HOUT.out];exact H'.out⟩,⟨by have:=HK2.out;omega⟩,⟨HRW2.out⟩,⟨HKP2.out⟩,⟨HPS.out.1,fun p hp=>⟨by have:=(HPS.out.2.1 p hp).1;omega,(HPS.out.2.1 p hp).2⟩,HIL.out⟩,⟨HB2.out⟩,⟨HNW2.out⟩⟩
        | false =>
         simp only [zbq,if_false] at H;by_cases c20:out.length<5864062014805
         ·rw [if_pos c20] at H
          have LMc20:=zad c20;have H':=zad H;clear H c20;obtain ⟨RW,hRW⟩:∃ R,R=(ps.map fun p=>[cur[p]!]):=⟨_,rfl⟩;have HRL:=zad (show RW.length=out.length by rw [hRW,HOUT.out];simp);have HRWE:=zad hRW;rw [← hRW] at HRW;clear hRW;go_wp2_with (first | (go_at_call 51;(refine (covHas_calls k2 wr.heap.size Ab cb (rd_L2 y531 (i:Int)) A4 c4 out false _ ?s1 ?s2 ?s3 ?s4 ?s5 A17.out).mono ?_);(case s1=>simp [go_sem]);(case s2=>exact Kd.C_below HBC.out (tacg));(case s3=>exact HBL.out);(case s4=>exact Kd.C_below HC4.out (tacg));(case s5=>exact HL4.out);rintro e w3 ⟨rfl,hb⟩;have x0:=tab_bx hb (B:=wr.heap.size) (v := .slice Ab (rd_L2 y531 (i:Int)).length cb) (by simp [go_sem]) (taem);have hbw:Below wr.heap.size wr w3:=zbi (tacg) hb;have HB2:=zad (zbi HB.out hbw);have HRW2:=zad (zbx HRW.out hbw);have HKP2:=zad (kp_step HKP.out hbw HNW.out);have HNW2:=zad (Nat.le_trans HNW.out hbw.size);clear hb hbw HB HRW HKP HNW HC4 HBC) | ((with_reducible refine gate_builtin (b := .append) (xs:=#[.tmp 28,.tmp 30]) rfl ?_);at_builtin;refine Kd.R_append (Kd.raw 1) (w0:=w) w.heap.size rfl (.tmp 28) (.tmp 30) 39 24 (.slice none 0 0) 24 rfl Tryz.underlying39 info24 rfl (by decide) (by omega) (.slice A4 out.length c4) RW [.slice Ab (rd_L2 y531 (i:Int)).length cb] [.slice Ab (rd_L2 y531 (i:Int)).length cb] (fun k=>k<nA∨n1≤k) (fun _=>False) rfl rfl ?aP (fun _ hk=>hk.elim) ?aF ?aO ?aB ?aS ?aL ?_;(case aP=>exact ⟨rfl,rfl,by intro u hu;rw [List.mem_singleton.1 hu];rfl⟩);(case aF=>exact fun k hk => .inr (Nat.le_trans HNW2.out hk));(case aO=>exact HRW2.out);(case aB=>exact HB2.out);(case aS=>exact HB2.out.size);(case aL=>have:=LMc20.out;have:=HRL.out;omega);intro v539 w22 ho hb hg hat;have HKP3:=zad (show Kp w11 w22 nA n1 from fun k h1 h2=>(hg.block k (by have:=HNW2.out;omega) (fun he=>by have:=HRW2.out.1 k he.symm;omega)).trans (HKP2.out k h1 h2));have HRW3:=zad ho;have HB3:=zad hb;have HNW3:=zad (Nat.le_trans HNW2.out hg.size);clear ho hb hg hat HRW2 HB2 HKP2 HNW2))
          go_roundg k2
          case measure=>have:=HK2.out;omega
          case rel=>exact ⟨ps ++ [i+1],i+1,by first | rfl | rw [HW.out],⟨by rw [List.map_append,← HOUT.out,List.map_singleton,HEQ.out];exact H'.out⟩,⟨by have:=HK2.out;omega⟩,⟨by rw [List.map_append,← HRWE.out,List.map_singleton,HCUR.out];exact HRW3.out⟩,⟨HKP3.out⟩,⟨List.pairwise_append.2 ⟨HPS.out.1,List.pairwise_singleton _ _,fun a ha b hb=>by rw [List.mem_singleton.1 hb];have:=(HPS.out.2.1 a ha).1;omega⟩,fun p hp=>by
           rcases List.mem_append.1 hp with hp | hp
           ·exact ⟨by have:=(HPS.out.2.1 p hp).1;omega,(HPS.out.2.1 p hp).2⟩
           ·rw [List.mem_singleton.1 hp];exact ⟨zcf _,HIN.out⟩,HIL.out⟩,⟨HB3.out⟩,⟨HNW3.out⟩⟩
         ·rw [if_neg c20] at H
          exact absurd H (taad)
       ·rw [if_neg c14] at H
        have c14b0:decide ((i:Int)<(y531.length:Int))=false:=zbl c14;have c14n:¬ i<y531.length:=by omega
        have c14b1:decide (i<y531.length)=false:=zbl c14n;simp only [zbp,zbt] at H;obtain ⟨hr1,rfl⟩:=H;have HR1:=zad hr1;clear hr1;go_wp2
        go_ret2
        refine ⟨_,rfl,?_,HB.out⟩
        rw [← HR1.out];exact S_pick rfl (Kd.S_step HS.out (fun k hk _=>HKP.out k hk.1 hk.2)) ((HKP.out blk hblo hbhi).trans HH.out) (HPS.out.1.imp fun h=>Nat.ne_of_lt h) (fun p hp=>(HPS.out.2.1 p hp).2) HRW.out hbA
    ·rw [if_neg c8] at H
     exact absurd H (taad)
end
def pickGo {α:Type} (le:α→α→Bool):List α→List α→List α
 | out,[]=>out
 | out,b :: l=>pickGo le (if out.any (fun c=>le b c)=true then out else out ++ [b]) l
theorem first_ex {α:Type} {lt:α→α→Prop} {Q:α→Prop}:∀ L:List α,L.Pairwise lt→(∃ c ∈ L,Q c)→∃ c ∈ L,Q c∧∀ d ∈ L,Q d→d=c∨lt c d
 | [],_,h=>by
  obtain ⟨c,hc,_⟩:=h;simp at hc
 | x :: L,hs,h=>by
  obtain ⟨h1,h2⟩:=List.pairwise_cons.1 hs;by_cases hx:Q x
  ·refine ⟨x,List.mem_cons_self,hx,fun d hd _ => ?_⟩
   rcases List.mem_cons.1 hd with e | hd
   ·exact .inl e
   ·exact .inr (h1 d hd)
  ·obtain ⟨c,hc,hq⟩:=h
   have hcL:c ∈ L:=by
    rcases List.mem_cons.1 hc with e | hc
    ·rw [e] at hq
     exact absurd hq hx
    ·exact hc
   obtain ⟨c2,k1,k2,k3⟩:=first_ex L h2 ⟨c,hcL,hq⟩;refine ⟨c2,List.mem_cons_of_mem _ k1,k2,fun d hd hqd => ?_⟩
   rcases List.mem_cons.1 hd with e | hd
   ·rw [e] at hqd
    exact absurd hqd hx
   ·exact k3 d hd hqd
theorem pick_step {α:Type} [DecidableEq α] (le:α→α→Bool) (lt:α→α→Prop) (irr:∀ a,¬ lt a a) (tr:∀ a b c,lt a b→lt b c→lt a c) (L:List α) (hs:L.Pairwise lt)
 (h1:∀ b ∈ L,∀ c ∈ L,le b c=true→b≠c→lt c b) (h2:∀ a ∈ L,∀ b ∈ L,∀ c ∈ L,le a b=true→le b c=true→le a c=true) :
 ∀ (rest pre:List α),L=pre ++ rest→pickGo le (pre.filter fun b=>L.all fun c => !(le b c) || decide (b=c)) rest=L.filter fun b=>L.all fun c => !(le b c) || decide (b=c)
 | [],pre,e=>by
  rw [List.append_nil] at e
  rw [← e];rfl
 | b :: rest,pre,e=>by
  have hb:b ∈ L:=by rw [e];simp
  have hpre:∀ c ∈ pre,lt c b:=fun c hc=>by
   rw [e] at hs
   exact (List.pairwise_append.1 hs).2.2 c hc b List.mem_cons_self
  have hrest:∀ c ∈ rest,lt b c:=fun c hc=>by
   rw [e] at hs
   exact (List.pairwise_cons.1 (List.pairwise_append.1 hs).2.1).1 c hc
  have key:((pre.filter fun b=>L.all fun c => !(le b c) || decide (b=c)).any (fun c=>le b c)=true)↔¬ (L.all fun c => !(le b c) || decide (b=c))=true:=by
   rw [List.any_eq_true];constructor
   ·rintro ⟨c,hc,hbc⟩ hall
    have hcp:=(List.mem_filter.1 hc).1;have:=List.all_eq_true.1 hall c (by rw [e];exact List.mem_append.2 (.inl hcp));rw [hbc] at this
    have hbe:b=c:=by simpa using this
    rw [← hbe] at hcp
    exact irr b (hpre b hcp)
   ·intro hno
    have hex:∃ c ∈ L,(le b c=true∧b≠c):=by
     refine Classical.byContradiction fun hne=>hno (List.all_eq_true.2 fun c hc => ?_)
     cases hle:le b c with
     | false=>rfl
     | true =>
      by_cases hbe:b=c
      ·simp [hbe]
      ·exact absurd ⟨c,hc,hle,hbe⟩ hne
    obtain ⟨c,hc,⟨hle,hbe⟩,hfirst⟩:=first_ex L hs hex;have hlt:lt c b:=h1 b hb c hc hle hbe;have hcp:c ∈ pre:=by
     rw [e] at hc
     rcases List.mem_append.1 hc with hc | hc
     ·exact hc
     ·rcases List.mem_cons.1 hc with e2 | hc
      ·exact absurd e2.symm hbe
      ·exact absurd (tr _ _ _ hlt (hrest c hc)) (irr c)
    refine ⟨c,List.mem_filter.2 ⟨hcp,List.all_eq_true.2 fun d hd => ?_⟩,hle⟩
    cases hcd:le c d with
    | false=>rfl
    | true =>
     by_cases hce:c=d
     ·simp [hce]
     ·have hdc:lt d c:=h1 c hc d hd hcd hce
      have hbd:le b d=true:=h2 b hb c hc d hd hle hcd;have hbd2:b≠d:=fun h=>by
       rw [← h] at hdc
       exact irr b (tr _ _ _ hdc hlt)
      rcases hfirst d hd ⟨hbd,hbd2⟩ with h | h
      ·exact absurd h.symm hce
      ·exact absurd (tr _ _ _ h hdc) (irr c)
  unfold pickGo;have ih:=pick_step le lt irr tr L hs h1 h2 rest (pre ++ [b]) (by rw [e];simp);rw [List.filter_append] at ih
  by_cases hm:(L.all fun c => !(le b c) || decide (b=c))=true
  ·rw [if_neg (fun h=>(key.1 h) hm)]
   rw [show List.filter (fun b=>L.all fun c => !(le b c) || decide (b=c)) [b]=[b] by rw [List.filter_cons,if_pos hm,List.filter_nil]] at ih
   exact ih
  ·rw [if_pos (key.2 hm)]
   rw [show List.filter (fun b=>L.all fun c => !(le b c) || decide (b=c)) [b]=[] by rw [List.filter_cons,if_neg hm,List.filter_nil],List.append_nil] at ih
   exact ih
theorem dom_lex:∀ p x:List Int,Dom p x→x=p∨lexB p x
 | [],[],_ => .inl rfl
 | [],_ :: _,h=>by simp [Dom] at h
 | _ :: _,[],h=>by simp [Dom] at h
 | y :: p,z :: x,h=>by
  obtain ⟨h1,h2,h3⟩:=h;have k:=h3 1;have hz:z≤y:=by simpa [pre] using k
  by_cases e:z=y
  ·subst e
   have hd:Dom p x:=⟨by simpa using h1,by simpa using h2,fun m=>by
    have:=h3 (m+1);simp [pre] at this ⊢
    omega⟩
   rcases dom_lex p x hd with e | e
   ·exact .inl (by rw [e])
   ·exact .inr (.inr ⟨rfl,e⟩)
  ·exact .inr (.inl (by omega))

theorem rd_L1n {xs:List (List Int)} {i:Nat} (h:i<xs.length):rd_L2 xs (i:Int)=xs[i]:=by
 unfold rd_L2;rw [Int.toNat_natCast,List.getD_eq_getElem?_getD,List.getElem?_eq_getElem h];rfl
def covL (a:List Int):List (List Int):=pickGo majB [] ((undL a).drop 1)
def covR (a:List Int):List (List Int) × Bool:=if goodL a=true then (if a.sum≤30 then (covL a,true) else ([],false)) else ([],false)
theorem covHas_ev (b:List Int) (hb:Sm b) (out:List (List Int)) (ho:∀ c ∈ out,Sm c):Ev (fun k=>covHas k out b) (out.any fun c=>majB b c):=by
 obtain ⟨K,hK⟩:∃ K,∀ k,K≤k→∀ c ∈ out,impl_isMajorized.f k b c=some (majB b c):=by
  induction out with
  | nil=>exact ⟨0,fun _ _ x hx=>by simp at hx⟩
  | cons y l ih =>
   obtain ⟨K1,h1⟩:=ih (fun x hx=>ho x (List.mem_cons_of_mem _ hx));obtain ⟨K2,h2⟩:=isMajorized_ev b y hb (ho y List.mem_cons_self);refine ⟨max K1 K2,fun k hk x hx => ?_⟩
   rcases List.mem_cons.1 hx with rfl | hx
   ·exact h2 k (by omega)
   ·exact h1 k (by omega) x hx
 refine ⟨K,fun k hk => ?_⟩
 show covHas k out b=_
 unfold covHas;rw [if_pos (List.all_eq_true.2 fun c hc=>by rw [hK k hk c hc];rfl)];congr 1
 rw [Bool.eq_iff_iff,List.any_eq_true,List.any_eq_true];constructor
 ·rintro ⟨c,hc,h⟩
  rw [hK k hk c hc] at h
  exact ⟨c,hc,taax⟩
 ·rintro ⟨c,hc,h⟩
  exact ⟨c,hc,by rw [hK k hk c hc,h];rfl⟩
theorem implCov_l (L:List (List Int)) (hL:∀ x ∈ L,Sm x) (hl:L.length≤1000000000000):∀ (d i:Nat) (out:List (List Int)),i+d=L.length→out.length+d≤1000000000000→(∀ c ∈ out,Sm c)→Ev (fun k=>impl_LowerCovers.l0 k out L (L.length:Int) (i:Int)) (pickGo majB out (L.drop i),true)
 | 0,i,out,e,hb,ho=>by
  refine Ev.succ ?_
  simp only [impl_LowerCovers.l0,if_neg (show ¬ (i:Int)<(L.length:Int) by omega)];rw [List.drop_eq_nil_of_le (by omega)];exact Ev.now _
 | d+1,i,out,e,hb,ho=>by
  have hi:i<L.length:=by omega
  refine Ev.succ ?_
  simp only [impl_LowerCovers.l0,if_pos (show (i:Int)<(L.length:Int) by omega),if_pos (show (0:Int)≤(i:Int) by omega),rd_L1n hi,wsucc hi (by omega)];rw [List.drop_eq_getElem_cons hi];refine Ev.bind (covHas_ev L[i] (hL _ (List.getElem_mem hi)) out ho) ?_
  unfold pickGo;cases c:out.any (fun c=>majB L[i] c) with
  | true =>
   simp only [if_true];exact implCov_l L hL hl d (i+1) out (by omega) (by omega) ho
  | false =>
   simp only [zbq,if_false,if_pos (show out.length<5864062014805 by omega)];exact implCov_l L hL hl d (i+1) (out ++ [L[i]]) (by omega) (tabi) (fun c hc=>by
    rcases List.mem_append.1 hc with hc | hc
    ·exact ho c hc
    ·rw [List.mem_singleton.1 hc]
     exact hL _ (List.getElem_mem hi))
theorem implCov_ev (a:List Int) (hg:goodL a=true) (h30:a.sum≤30):Ev (fun k=>impl_LowerCovers.j0 k a false) (covL a,true):=by
 have hpos:=und_pos hg;have hbd:=und_bd a hg h30;refine Ev.succ ?_
 simp only [impl_LowerCovers.j0,zbq,if_false];refine Ev.bind (implBelow_ev a hg h30) ?_
 simp only [if_pos (show 1≤((undL a).length:Int) by omega),zbf];have hl:((undL a).drop 1).length=(undL a).length - 1:=zaw;have:=implCov_l ((undL a).drop 1) (fun x hx=>(und_good hg h30 (List.mem_of_mem_drop hx)).2.1) (by omega) ((undL a).drop 1).length 0 [] (by omega) (by simp;omega) (taad);rw [List.drop_zero] at this
 exact this
theorem implLowerCovers_ev (a:List Int) (ha:a.length≤1048576):Ev (fun k=>impl_LowerCovers.f k a) (covR a):=by
 unfold impl_LowerCovers.f covR;refine Ev.bind (implIsList_ev a (by omega)) (Ev.ite (fun hg => ?_) (fun _=>Ev.succ (by simp only [impl_LowerCovers.j0,if_true];exact Ev.now _)))
 refine Ev.bind (total_ev a (good_sm hg)) ?_
 by_cases h:a.sum≤30
 ·simp only [if_pos h,zbl (show ¬ a.sum>30 by omega)]
  exact implCov_ev a hg h
 ·simp only [if_neg h,zba (show a.sum>30 by omega)]
  exact Ev.succ (by simp only [impl_LowerCovers.j0,if_true];exact Ev.now _)




def sqF (s x:Int):Int:=wrap64 (s+wrap64 (x*x))
def sqS (l:List Int):Int:=(l.map fun x=>x*x).sum
theorem sq_bd (x:Int) (h0:0≤x) (h1:x≤60):0≤x*x∧x*x≤3600:=by
 refine ⟨Int.mul_nonneg h0 h0,?_⟩
 have:=Int.mul_le_mul h1 h1 h0 (show (0:Int)≤60 by omega);omega
theorem fold_sq:∀ (l:List Int) (s:Int),(∀ x ∈ l,0≤x∧x≤60)→0≤s→s+3600*l.length≤1000000000000→l.foldl sqF s=s+sqS l∧0≤sqS l∧sqS l≤3600*l.length
 | [],s,_,_,_=>by simp [sqS]
 | x :: l,s,hx,h0,hs=>by
  have hb:=sq_bd x (hx x List.mem_cons_self).1 (hx x List.mem_cons_self).2;rw [List.length_cons] at hs
  have e:sqF s x=s+x*x:=by
   unfold sqF;rw [w64 (x:=x*x) (by omega) (by omega),w64 (by omega) (by omega)]
  obtain ⟨h1,h2,h3⟩:=fold_sq l (s+x*x) (fun y hy=>hx y (List.mem_cons_of_mem _ hy)) (by omega) (by omega);have e2:sqS (x :: l)=x*x+sqS l:=by simp [sqS]
  rw [List.foldl_cons,e,h1,e2,List.length_cons];omega
theorem sum_map_set (g:Int→Int):∀ (l:List Int) (i:Nat) (h:i<l.length) (v:Int),((l.set i v).map g).sum=(l.map g).sum - g l[i]+g v
 | x :: l,0,h,v=>by simp;omega
 | x :: l,i+1,h,v=>by
  have:=sum_map_set g l i (taax) v;simp only [zac,zau,List.sum_cons,List.getElem_cons_succ];omega
theorem sum_map_set_rd (g:Int→Int) (l:List Int) (i:Int) (h0:0≤i) (h1:i<l.length) (v:Int):((l.set i.toNat v).map g).sum=(l.map g).sum - g (rd l i)+g v:=by
 have hi:i.toNat<l.length:=by omega
 have e:rd l i=l[i.toNat]:=rdi h0 h1;rw [sum_map_set g l i.toNat hi v,e]
theorem kindB_iff (l:List Int) (f t a:Int):kindB l f t a=true↔isG l f t a=true∧a≤60∧rd l t+a≤rd l f - a:=by
 unfold kindB;simp only [Bool.and_eq_true,decide_eq_true_eq]
theorem fall_ring (x y a:Int):x*x+y*y - ((x - a)*(x - a)+(y+a)*(y+a))=2*a*(x - y - a):=by grind
theorem sqS_give (l:List Int) (f t a:Int) (h1:0≤f∧f<l.length) (h2:0≤t∧t<l.length) (h3:f≠t):sqS l - sqS (giveL l f t a)=2*a*(rd l f - rd l t - a):=by
 unfold sqS giveL;rw [sum_map_set_rd _ _ t h2.1 (tadg),sum_map_set_rd _ _ f h1.1 h1.2,rd_set_ne _ h1.1 h2.1 h3];have:=fall_ring (rd l f) (rd l t) a;omega
theorem kind_give (l:List Int) (f t a:Int) (hg:goodL l=true) (hk:kindB l f t a=true):goodL (giveL l f t a)=true:=by
 obtain ⟨hG,c1,c2⟩:=(kindB_iff l f t a).1 hk;obtain ⟨h1,h2,h3,h4⟩:=(isG_iff l f t a).1 hG;have b1:=rd_good hg h1.1 h1.2;have b2:=rd_good hg h2.1 h2.2;exact (give_good l f t _ _ hg h1 h2 h3).2 (by omega)
theorem ex_set (l:List Int) (i:Int) (h0:0≤i) (h1:i<l.length) (v t:Int):ex (l.set i.toNat v) t=ex l t - max (rd l i - t) 0+max (v - t) 0:=sum_map_set_rd (fun x=>max (x - t) 0) l i h0 h1 v
theorem ex_give (l:List Int) (f t a:Int) (h1:0≤f∧f<l.length) (h2:0≤t∧t<l.length) (h3:f≠t) (s:Int):ex (giveL l f t a) s=ex l s - max (rd l f - s) 0+max (rd l f - a - s) 0 - max (rd l t - s) 0+max (rd l t+a - s) 0:=by
 unfold giveL;rw [ex_set _ t h2.1 (tadg),ex_set _ f h1.1 h1.2,rd_set_ne _ h1.1 h2.1 h3]
theorem sum_set (l:List Int) (i:Int) (h0:0≤i) (h1:i<l.length) (v:Int):(l.set i.toNat v).sum=l.sum - rd l i+v:=by
 have h:=sum_map_set_rd (fun x=>x) l i h0 h1 v;simpa using h
theorem give_sum (l:List Int) (f t a:Int) (h1:0≤f∧f<l.length) (h2:0≤t∧t<l.length) (h3:f≠t):(giveL l f t a).sum=l.sum:=by
 unfold giveL;rw [sum_set _ t h2.1 (tadg),sum_set _ f h1.1 h1.2,rd_set_ne _ h1.1 h2.1 h3];omega
theorem kind_maj {l:List Int} {f t a:Int} (hk:kindB l f t a=true):majB (giveL l f t a) l=true:=by
 obtain ⟨hG,c1,c2⟩:=(kindB_iff l f t a).1 hk;obtain ⟨h1,h2,h3,h4⟩:=(isG_iff l f t a).1 hG;refine (maj_ex _ _).2 ⟨giveL_length l f t a,give_sum l f t a h1 h2 h3,fun s => ?_⟩
 rw [ex_give l f t a h1 h2 h3];omega
theorem sqS_perm {a b:List Int} (h:a.Perm b):sqS a=sqS b:=perm_sum (h.map _)
theorem kind_fall {l:List Int} {f t a:Int} (hk:kindB l f t a=true):0<2*a*(rd l f - rd l t - a):=by
 obtain ⟨hG,c1,c2⟩:=(kindB_iff l f t a).1 hk;obtain ⟨h1,h2,h3,h4⟩:=(isG_iff l f t a).1 hG;exact Int.mul_pos (by omega) (by omega)
theorem kind_not {l:List Int} {f t a:Int} (hk:kindB l f t a=true):majB l (giveL l f t a)=false:=by
 refine zbk.2 fun h => ?_
 have e:=maj_antisymm h (kind_maj hk);obtain ⟨hG,c1,c2⟩:=(kindB_iff l f t a).1 hk;obtain ⟨h1,h2,h3,h4⟩:=(isG_iff l f t a).1 hG;have s:=sqS_give l f t a h1 h2 h3;have p:=kind_fall hk;rw [← sqS_perm (descL_perm l),e,sqS_perm (descL_perm (giveL l f t a))] at s
 omega
def unitL (p q:List Int):Int:=(List.zipWith (fun x y=>max 0 (x - y)) p q).sum
theorem unitL_drop {p q:List Int} {i:Nat} (hi:i<p.length) (hj:i<q.length):unitL (p.drop i) (q.drop i)=max 0 (p[i] - q[i])+unitL (p.drop (i+1)) (q.drop (i+1)):=by
 unfold unitL;rw [List.drop_eq_getElem_cons hi,List.drop_eq_getElem_cons hj,List.zipWith_cons_cons,List.sum_cons]
theorem unitL_end {p q:List Int} {i:Nat} (hi:p.length≤i):unitL (p.drop i) (q.drop i)=0:=by
 unfold unitL;rw [List.drop_eq_nil_of_le hi];rfl
def betB (a b:List Int):Bool:=if goodL a=true then (if goodL b=true then majB a b else false) else false
theorem isBetween_ev (a b:List Int) (ha:a.length≤1048576) (hb:b.length≤1048576):Ev (fun k=>impl_isBetween.f k a b) (betB a b):=by
 unfold impl_isBetween.f betB;refine Ev.bind (areLists_ev a b ha hb) ?_
 by_cases ga:goodL a=true
 ·by_cases gb:goodL b=true
  ·simp only [ga,gb,if_true]
   exact Ev.bind (isMajorized_ev a b (good_sm ga) (good_sm gb)) (Ev.now _)
  ·simp only [ga,if_true,if_neg gb]
   exact Ev.now _
 ·simp only [if_neg ga,zbq,if_false]
  exact Ev.now _
theorem giLists_ev (a b:List Int) (ha:a.length≤1048576) (hb:b.length≤1048576):Ev (fun k=>spec_giLists.f k a b) (betB a b):=by
 unfold spec_giLists.f betB;refine Ev.bind (liGood_ev a (by omega)) (Ev.ite (fun ga => ?_) (fun _=>Ev.now _))
 refine Ev.bind (liGood_ev b (by omega)) (Ev.ite (fun gb => ?_) (fun _=>Ev.now _))
 exact Ev.bind (liBelow_ev a b (good_sm ga) (good_sm gb)) (Ev.now _)
theorem betB_iff (a b:List Int):betB a b=true↔goodL a=true∧goodL b=true∧majB a b=true:=by
 unfold betB;split
 ·split <;> simp_all
 ·simp_all
theorem l1Most_eq (a b:Int):spec_l1Most.f a b=some (max a b):=by
 unfold spec_l1Most.f;split <;> (congr 1;omega)
theorem unitL_take {p q:List Int} {m:Nat} (h1:m<p.length) (h2:m<q.length):unitL (p.take (m+1)) (q.take (m+1))=unitL (p.take m) (q.take m)+max 0 (rd p (m:Int) - rd q (m:Int)):=by
 unfold unitL;rw [← List.take_zipWith,← List.take_zipWith,List.take_succ_eq_append_getElem (by rw [List.length_zipWith];omega),List.sum_append,List.getElem_zipWith,rdn h1,rdn h2,List.sum_cons,List.sum_nil,Int.add_zero]
theorem sum_nn:∀ l:List Int,(∀ x ∈ l,0≤x)→0≤l.sum
 | [],_=>by simp
 | x :: l,h=>by
  rw [List.sum_cons];have:=sum_nn l (fun y hy=>h y (List.mem_cons_of_mem _ hy));have:=h x List.mem_cons_self;omega
theorem unitL_nn (p q:List Int):0≤unitL p q:=by
 unfold unitL;refine sum_nn _ ?_
 intro x hx
 obtain ⟨i,hi,rfl⟩:=List.mem_iff_getElem.1 hx;rw [List.getElem_zipWith];omega
structure Gv (x t:List Int) (i j:Nat) (a:Int):Prop extends Nx x t i j where
 pos:1≤a
 ai:a≤rd x (i:Int) - rd t (i:Int)
 aj:a≤rd t (j:Int) - rd x (j:Int)
theorem gv_pre {x t:List Int} {i j:Nat} {a:Int} (hl:x.length=t.length) (g:Gv x t i j a) (hp:∀ m,pre t m≤pre x m):∀ m:Nat,i<m→m≤j→pre t m+a≤pre x m
 | 0,h,_=>by omega
 | m+1,h,h2=>by
  have:=g.hj;rw [pre_succ (by omega),pre_succ (by omega)];rcases Nat.lt_or_ge i m with hlt | hge
  ·have:=gv_pre hl g hp m hlt (by omega)
   have:=g.bef m (by omega);omega
  ·have:m=i:=by omega
   subst this;have:=hp m;have:=g.ai;omega
theorem gv_dom {x t:List Int} {i j:Nat} {a:Int} (hd:Dom x t) (g:Gv x t i j a):Dom (giveL x (i:Int) (j:Int) a) t:=by
 obtain ⟨hl,hs,hp⟩:=hd;have h1:=g.lt;have h2:=g.hj;refine ⟨by rw [giveL_length];exact hl,by rw [giveL_sum x i j a (by omega) h2 (by omega)];exact hs,fun m => ?_⟩
 rcases Nat.lt_or_ge x.length m with hm | hm
 ·rw [pre_all (by omega),pre_all (tabs),giveL_sum x i j a (by omega) h2 (by omega)]
  omega
 ·rw [giveL_pre x i j a (by omega) h2 (by omega) m hm]
  have:=hp m;by_cases c1:i<m
  ·by_cases c2:j<m
   ·rw [if_pos c1,if_pos c2];omega
   ·rw [if_pos c1,if_neg c2]
    have:=gv_pre hl g hp m c1 (by omega);omega
  ·rw [if_neg c1,if_neg (by omega)];omega
theorem gv_desc {x t:List Int} {i j:Nat} {a:Int} (hl:x.length=t.length) (hx:Desc x) (ht:Desc t) (g:Gv x t i j a):Desc (giveL x (i:Int) (j:Int) a):=by
 have h1:=g.lt;have h2:=g.hj;have h3:=g.ai;have h4:=g.aj;refine desc_of_rd fun k hk => ?_
 rw [giveL_length] at hk
 rw [giveL_rd x i j a (by omega) h2 (by omega),giveL_rd x i j a (by omega) h2 (by omega)];have dx:=desc_rd hx (a:=k) (b:=k+1) (by omega) hk;have dt:=desc_rd ht (a:=k) (b:=k+1) (by omega) (by omega);have hpos:=g.pos;by_cases c1:k+1=j
 ·rw [if_pos c1]
  by_cases c2:k=i
  ·rw [if_neg (by omega),if_pos c2]
   rw [c1,c2] at dt
   omega
  ·rw [if_neg (by omega),if_neg c2]
   have:=g.bef k (by omega);rw [c1] at dt
   omega
 ·rw [if_neg c1]
  by_cases c2:k+1=i
  ·rw [if_pos c2,if_neg (by omega),if_neg (by omega)]
   rw [c2] at dx
   omega
  ·rw [if_neg c2]
   by_cases c3:k=j
   ·rw [if_pos c3]
    rw [c3] at dx
    rw [c3];omega
   ·rw [if_neg c3]
    by_cases c4:k=i
    ·rw [if_pos c4]
     have hb:=g.btw (k+1) (by omega) (by omega);rw [c4] at dt hb
     rw [c4];omega
    ·rw [if_neg c4]
     exact dx
theorem gv_good {x t:List Int} {i j:Nat} {a:Int} (hl:x.length=t.length) (hx:goodL x=true) (ht:goodL t=true) (g:Gv x t i j a):goodL (giveL x (i:Int) (j:Int) a)=true:=by
 have h1:=g.lt;have h2:=g.hj;have h3:=g.ai;have h4:=g.aj;have hpos:=g.pos;have b1:=rd_good ht (i:=(i:Int)) (by omega) (by omega);have b2:=rd_good ht (i:=(j:Int)) (by omega) (by omega);have b3:=rd_good hx (i:=(i:Int)) (by omega) (by omega);have b4:=rd_good hx (i:=(j:Int)) (by omega) (by omega);exact (give_good x (i:Int) (j:Int) _ _ hx (by omega) (by omega) (by omega)).2 (by omega)
theorem gv_unit_m {x t:List Int} {i j:Nat} {a:Int} (hl:x.length=t.length) (g:Gv x t i j a):∀ m:Nat,m≤x.length→unitL ((giveL x (i:Int) (j:Int) a).take m) (t.take m)=unitL (x.take m) (t.take m) - (if i<m then a else 0)
 | 0,_=>by
  rw [if_neg (by omega)];simp [unitL]
 | m+1,h=>by
  have h1:=g.lt;have h2:=g.hj;have h3:=g.ai;have h4:=g.aj;have hpos:=g.pos;rw [unitL_take (tabs) (by omega),unitL_take (by omega) (by omega),gv_unit_m hl g m (by omega),giveL_rd x i j a (by omega) h2 (by omega) m];by_cases c1:m=j
  ·rw [if_pos c1,if_pos (show i<m by omega),if_pos (show i<m+1 by omega)]
   rw [c1];omega
  ·rw [if_neg c1]
   by_cases c2:m=i
   ·rw [if_pos c2,if_neg (show ¬ i<m by omega),if_pos (show i<m+1 by omega)]
    rw [c2];omega
   ·rw [if_neg c2]
    have e1:i<m+1↔i<m:=by omega
    simp only [e1];omega
theorem gv_unit {x t:List Int} {i j:Nat} {a:Int} (hl:x.length=t.length) (g:Gv x t i j a):unitL (giveL x (i:Int) (j:Int) a) t=unitL x t - a:=by
 have h:=gv_unit_m hl g x.length (zcf _);have h1:=g.lt;have h2:=g.hj;rw [List.take_of_length_le (tabs),List.take_of_length_le (by omega),List.take_of_length_le (by omega),if_pos (by omega)] at h
 exact h
def gvA (u:Bool) (x t:List Int) (i j:Nat):Int:=if u=true then 1 else min (rd x (i:Int) - rd t (i:Int)) (rd t (j:Int) - rd x (j:Int))
theorem nx_gv {x t:List Int} {i j:Nat} (u:Bool) (h:Nx x t i j):Gv x t i j (gvA u x t i j):=by
 have h1:=h.igt;have h2:=h.jlt;unfold gvA;refine ⟨h,?_,?_,?_⟩
 all_goals (split <;> omega)
inductive GP (u:Bool) (t:List Int):List Int→List (Nat × Nat × Int)→Prop
 | nil:GP u t t []
 | cons {x:List Int} {i j:Nat} {L:List (Nat × Nat × Int)} (hne:x≠t) (hn:Nx x t i j) (h:GP u t (giveL x (i:Int) (j:Int) (gvA u x t i j)) L):GP u t x ((i,j,gvA u x t i j) :: L)
theorem gp_exists (u:Bool) {t:List Int} (ht:Desc t) (htg:goodL t=true):∀ (n:Nat) (x:List Int),Dom x t→Desc x→goodL x=true→unitL x t≤n→∃ L,GP u t x L∧(L.length:Int)≤unitL x t
 | n,x,hd,hx,hg,hu=>by
  by_cases hne:x=t
  ·subst hne
   exact ⟨[],.nil,by simpa using unitL_nn x x⟩
  ·obtain ⟨i,j,hn⟩:=nx_exists hd hne
   have g:=nx_gv u hn;have h1:=gv_unit hd.1 g;have h2:=unitL_nn (giveL x (i:Int) (j:Int) (gvA u x t i j)) t;have h3:=g.pos;match n,hu with
   | 0,hu=>omega
   | n+1,hu =>
    obtain ⟨L,hL,hl⟩:=gp_exists u ht htg n (giveL x (i:Int) (j:Int) (gvA u x t i j)) (gv_dom hd g) (gv_desc hd.1 hx ht g) (gv_good hd.1 hg htg g) (by omega);exact ⟨_,.cons hne hn hL,by rw [List.length_cons];omega⟩
theorem unitL_bd {x t:List Int} (hx:goodL x=true) (ht:goodL t=true) (hl:x.length=t.length):unitL x t≤480:=by
 have h:=(goodL_iff x).1 hx;have h':=(goodL_iff t).1 ht;have key:∀ m:Nat,m≤x.length→unitL (x.take m) (t.take m)≤60*m:=by
  intro m
  induction m with
  | zero=>intro _;simp [unitL]
  | succ m ih =>
   intro hm
   rw [unitL_take (by omega) (by omega)];have:=ih (by omega);have b1:=rd_good hx (i:=(m:Int)) (by omega) (by omega);have b2:=rd_good ht (i:=(m:Int)) (by omega) (by omega);omega
 have:=key x.length (zcf _);rw [List.take_of_length_le (zcf _),List.take_of_length_le (by omega)] at this
 omega
theorem und_head {a:List Int} (hg:goodL a=true):undL a=descL a :: (undL a).drop 1:=by
 have hs:(undL a).Pairwise lexB:=(allL_sorted a.length a.sum a.sum).filter _;have hp:=und_rank hg;cases e:undL a with
 | nil =>
  rw [e] at hp
  simp at hp
 | cons h t =>
  have hh:h ∈ undL a:=by rw [e];exact List.mem_cons_self
  rw [e] at hs hp
  obtain ⟨h1,h2,h3⟩:=(und_mem hg h).1 hh;have hd:=(majB_dom _ _).1 h3;rw [descL_of_desc h1] at hd
  have:h=descL a:=by
   rcases List.mem_cons.1 hp with k | k
   ·exact k.symm
   ·rcases dom_lex _ _ hd with k2 | k2
    ·exact k2
    ·exact absurd (lexB_trans _ _ _ k2 ((List.pairwise_cons.1 hs).1 _ k)) (lexB_irrefl _)
  rw [this];rfl
theorem undT_sorted {a:List Int}:((undL a).drop 1).Pairwise lexB:=by
 have hs:(undL a).Pairwise lexB:=(allL_sorted a.length a.sum a.sum).filter _;exact hs.sublist (List.drop_sublist 1 _)
theorem undT_mem {a:List Int} (hg:goodL a=true) (x:List Int):x ∈ (undL a).drop 1↔x ∈ undL a∧x≠descL a:=by
 have hs:(undL a).Pairwise lexB:=(allL_sorted a.length a.sum a.sum).filter _;have e:=und_head hg;rw [e] at hs
 constructor
 ·intro h
  refine ⟨List.mem_of_mem_drop h,fun k => ?_⟩
  have:=(List.pairwise_cons.1 hs).1 x h;rw [k] at this
  exact lexB_irrefl _ this
 ·rintro ⟨h,k⟩
  rw [e] at h
  rcases List.mem_cons.1 h with h | h
  ·exact absurd h k
  ·exact h
theorem ugAll_mem (p:List Int) (x:List Int):x ∈ ugAll p 0 p.length↔∃ i j:Nat,i<p.length∧j<p.length∧rd p (i:Int)≥rd p (j:Int)+2∧x=descL (giveL p (i:Int) (j:Int) 1):=by
 unfold ugAll ugRow;rw [List.mem_flatMap];constructor
 ·rintro ⟨i,hi,hx⟩
  obtain ⟨j,hj,hx⟩:=List.mem_filterMap.1 hx;rw [List.mem_range'_1] at hi hj
  unfold ugF at hx
  split at hx
  ·next c=>exact ⟨i,j,by omega,by omega,c,by simpa using hx.symm⟩
  ·cases hx
 ·rintro ⟨i,j,hi,hj,c,e⟩
  refine ⟨i,List.mem_range'_1.2 (by omega),List.mem_filterMap.2 ⟨j,List.mem_range'_1.2 (by omega),?_⟩⟩
  unfold ugF;rw [if_pos c,e]
theorem ug_und {a:List Int} (hg:goodL a=true) {x:List Int} (hx:x ∈ ugAll (descL a) 0 (descL a).length):x ∈ (undL a).drop 1:=by
 obtain ⟨i,j,hi,hj,c,rfl⟩:=(ugAll_mem _ _).1 hx;have hgp:goodL (descL a)=true:=by rw [good_desc];exact hg
 have hij:i≠j:=fun e=>by rw [e] at c;omega
 have hk:kindB (descL a) (i:Int) (j:Int) 1=true:=(kindB_iff _ _ _ _).2 ⟨(isG_iff _ _ _ _).2 ⟨by omega,by omega,by omega,by omega⟩,by omega,by omega⟩;have b1:=rd_good hgp (i:=(i:Int)) (by omega) (by omega);have b2:=rd_good hgp (i:=(j:Int)) (by omega) (by omega);have hgg:goodL (giveL (descL a) (i:Int) (j:Int) 1)=true:=(give_good (descL a) (i:Int) (j:Int) _ _ hgp (by omega) (by omega) (by omega)).2 (by omega);have hm:=kind_maj hk;have hnn:∀ y ∈ giveL (descL a) (i:Int) (j:Int) 1,0≤y:=fun y hy=>((good_sm hgg).2 y hy).1
 have hsum:(giveL (descL a) (i:Int) (j:Int) 1).sum=a.sum:=by rw [giveL_sum _ i j 1 hi hj hij,descL_sum]
 refine (undT_mem hg _).2 ⟨(und_mem hg _).2 ⟨descL_desc _,fun y hy => ?_,?_⟩,fun k => ?_⟩
 ·have hy:=descL_mem.1 hy
  have:=mem_le_sum _ hnn hy;have:=hnn y hy;omega
 ·rw [maj_desc_l]
  rw [maj_desc_r] at hm
  exact hm
 ·have hn:=kind_not hk
  rw [← maj_desc_r,k,maj_refl] at hn
  cases hn
theorem und_ug {a:List Int} (hg:goodL a=true) {x:List Int} (hx:x ∈ (undL a).drop 1):∃ g ∈ ugAll (descL a) 0 (descL a).length,majB x g=true:=by
 obtain ⟨hu,hne⟩:=(undT_mem hg x).1 hx;obtain ⟨h1,h2,h3⟩:=(und_mem hg x).1 hu;have hd:=(majB_dom _ _).1 h3;rw [descL_of_desc h1] at hd
 obtain ⟨i,j,hn⟩:=nx_exists hd (fun e=>hne e.symm);have g:Gv (descL a) x i j 1:=⟨hn,by omega,by have:=hn.igt;omega,by have:=hn.jlt;omega⟩;have hij:=hn.lt;have hj:=hn.hj;have hl:=hd.1;have q1:=hn.igt;have q2:=hn.jlt;have q3:=desc_rd h1 (a:=i) (b:=j) (by omega) (by omega);refine ⟨_,(ugAll_mem _ _).2 ⟨i,j,by omega,hj,by omega,rfl⟩,?_⟩
 rw [maj_desc_r,majB_dom,descL_of_desc h1,descL_of_desc (gv_desc hd.1 (descL_desc a) h1 g)];exact gv_dom hd g
theorem ugAll_le (p:List Int):∀ (d i:Nat),(ugAll p i d).length≤d*p.length
 | 0,i=>by simp [ugAll]
 | d+1,i=>by
  rw [ugAll_succ,List.length_append,Nat.succ_mul];have:=ugAll_le p d (i+1);have:=ugRow_le p i 0 p.length;omega
theorem pickGo_sub {α:Type} (le:α→α→Bool):∀ (l out:List α) (x:α),x ∈ pickGo le out l→x ∈ out∨x ∈ l
 | [],out,x,h => .inl h
 | b :: l,out,x,h=>by
  unfold pickGo at h
  rcases pickGo_sub le l _ x h with k | k
  ·split at k
   ·exact .inl k
   ·rcases List.mem_append.1 k with k | k
    ·exact .inl k
    ·rw [List.mem_singleton.1 k]
     exact .inr List.mem_cons_self
  ·exact .inr (List.mem_cons_of_mem _ k)
theorem pickGo_len {α:Type} (le:α→α→Bool):∀ (l out:List α),(pickGo le out l).length≤out.length+l.length
 | [],out=>by simp [pickGo]
 | b :: l,out=>by
  unfold pickGo;have:=pickGo_len le l (if out.any (fun c=>le b c)=true then out else out ++ [b]);have h2:(if out.any (fun c=>le b c)=true then out else out ++ [b]).length≤out.length+1:=by
   split
   ·omega
   ·rw [List.length_append,List.length_singleton]
    omega
  rw [List.length_cons];omega
theorem cov_sub {a x:List Int} (h:x ∈ covL a):x ∈ (undL a).drop 1:=by
 unfold covL at h
 rcases pickGo_sub _ _ _ _ h with k | k
 ·simp at k
 ·exact k
theorem covR_bd (a:List Int):totSS (covR a).1≤8*852891037441∧(covR a).1.length≤852891037441:=by
 have h0:totSS ([]:List (List Int))≤8*852891037441∧([]:List (List Int)).length≤852891037441:=by simp [totSS]
 unfold covR;split
 ·next hg =>
  split
  ·next h =>
   have hb:=und_bd a hg h;have hc:(covL a).length≤(undL a).length:=by
    have:=pickGo_len majB ((undL a).drop 1) [];rw [zaw] at this
    unfold covL;simp at this ⊢
    omega
   have ht:=tot_le (l:=covL a) (B:=8) (fun x hx=>by have:=und_good hg h (List.mem_of_mem_drop (cov_sub hx));have:=good_len hg;omega);exact ⟨by show totSS (covL a)≤_;omega,by show (covL a).length≤_;omega⟩
  ·exact h0
 ·exact h0
def maxIn (T:List (List Int)) (b:List Int):Bool:=T.all fun c => !(majB b c) || decide (b=c)
theorem und_lt {a:List Int} (hg:goodL a=true) {b c:List Int} (hb:b ∈ undL a) (hc:c ∈ undL a) (h:majB b c=true) (hne:b≠c):lexB c b:=by
 have db:=((und_mem hg b).1 hb).1;have dc:=((und_mem hg c).1 hc).1;have hd:=(majB_dom _ _).1 h;rw [descL_of_desc db,descL_of_desc dc] at hd
 rcases dom_lex _ _ hd with k | k
 ·exact absurd k hne
 ·exact k
theorem covL_max {a:List Int} (hg:goodL a=true):covL a=((undL a).drop 1).filter (maxIn ((undL a).drop 1)):=by
 unfold covL;exact pick_step majB lexB lexB_irrefl lexB_trans ((undL a).drop 1) undT_sorted (fun b hb c hc hle hne=>und_lt hg (List.mem_of_mem_drop hb) (List.mem_of_mem_drop hc) hle hne) (fun _ _ _ _ _ _ h k=>maj_trans h k) _ [] rfl
theorem cov_mem {a:List Int} (hg:goodL a=true) (c:List Int):c ∈ covL a↔c ∈ (undL a).drop 1∧∀ d ∈ (undL a).drop 1,majB c d=true→c=d:=by
 rw [covL_max hg,List.mem_filter];unfold maxIn;rw [List.all_eq_true];constructor
 ·rintro ⟨h,k⟩
  refine ⟨h,fun d hd hm => ?_⟩
  have:=k d hd;rw [hm] at this
  simpa using this
 ·rintro ⟨h,k⟩
  refine ⟨h,fun d hd => ?_⟩
  cases hm:majB c d with
  | false=>rfl
  | true=>simp [k d hd hm]
theorem cov_above {a:List Int} (hg:goodL a=true) {b:List Int} (hb:b ∈ (undL a).drop 1):∃ c ∈ covL a,majB b c=true:=by
 obtain ⟨c,hc,hbc,hfirst⟩:=first_ex (lt:=lexB) (Q:=fun c=>majB b c=true) ((undL a).drop 1) undT_sorted ⟨b,hb,maj_refl b⟩;refine ⟨c,(cov_mem hg c).2 ⟨hc,fun d hd hm => ?_⟩,hbc⟩
 refine Classical.byContradiction fun hne => ?_
 have hdc:=und_lt hg (List.mem_of_mem_drop hc) (List.mem_of_mem_drop hd) hm hne;rcases hfirst d hd (maj_trans hbc hm) with k | k
 ·exact hne k.symm
 ·exact absurd (lexB_trans _ _ _ hdc k) (lexB_irrefl _)
theorem unit_cons (x y:Int) (p q:List Int):unitL (x :: p) (y :: q)=max 0 (x - y)+unitL p q:=by simp [unitL]
theorem unit_diff:∀ (p q:List Int),p.length=q.length→unitL p q - unitL q p=p.sum - q.sum
 | [],[],_=>by simp [unitL]
 | x :: p,y :: q,h=>by
  have ih:=unit_diff p q (taax);rw [unit_cons,unit_cons,List.sum_cons,List.sum_cons];omega
 | [],y :: q,h=>by simp at h
 | x :: p,[],h=>by simp at h
theorem unit_add:∀ (p q:List Int),p.length=q.length→(∀ x ∈ p,0≤x∧x≤60)→(∀ x ∈ q,0≤x∧x≤60)→unitL p q+unitL q p≤60*p.length
 | [],[],_,_,_=>by simp [unitL]
 | x :: p,y :: q,h,hp,hq=>by
  have ih:=unit_add p q (taax) (fun z hz=>hp z (List.mem_cons_of_mem _ hz)) (fun z hz=>hq z (List.mem_cons_of_mem _ hz));have h1:=hp x List.mem_cons_self;have h2:=hq y List.mem_cons_self;rw [unit_cons,unit_cons,List.length_cons];omega
 | [],y :: q,h,_,_=>by simp at h
 | x :: p,[],h,_,_=>by simp at h
theorem unit_240 {p q:List Int} (hp:goodL p=true) (hq:goodL q=true) (hl:p.length=q.length) (hs:p.sum=q.sum):unitL p q≤240:=by
 have g1:=(goodL_iff p).1 hp;have g2:=(goodL_iff q).1 hq;have h1:=unit_diff p q hl;have h2:=unit_add p q hl g1.2.2 g2.2.2;omega
theorem fmap_congr {α β:Type} {f g:α→Option β}:∀ {l:List α},(∀ x ∈ l,f x=g x)→l.filterMap f=l.filterMap g
 | [],_=>rfl
 | a :: l,h=>by
  rw [List.filterMap_cons,List.filterMap_cons,h a (List.mem_cons_self ..),fmap_congr (fun x hx=>h x (List.mem_cons_of_mem _ hx))]
theorem allU_ug (p a:List Int) (hp:goodL p=true):allU p a 0 p.length=(ugAll p 0 p.length).filter (majB a):=by
 unfold allU ugAll;rw [List.filter_flatMap];have key:∀ i ∈ List.range' 0 p.length,rowU p a i 0 p.length=(ugRow p i 0 p.length).filter (majB a):=fun i hi=>by
  have hi':i<p.length:=by
   have:=List.mem_range'_1.1 hi;omega
  unfold rowU ugRow;rw [List.filter_filterMap];apply fmap_congr
  intro j hj
  have hj':j<p.length:=by
   have:=List.mem_range'_1.1 hj;omega
  have b1:=rd_good hp (i:=(i:Int)) (by omega) (by omega);have b2:=rd_good hp (i:=(j:Int)) (by omega) (by omega);have hk:kindB p (i:Int) (j:Int) 1=true↔rd p (i:Int)≥rd p (j:Int)+2:=by
   rw [kindB_iff,isG_iff];constructor
   ·omega
   ·intro h
    have hij:i≠j:=fun e=>by rw [e] at h;omega
    omega
  unfold unitF unitB ugF;by_cases c:rd p (i:Int)≥rd p (j:Int)+2
  ·rw [hk.2 c,if_pos c,Bool.true_and,Option.filter_some,majB_descR]
  ·rw [if_neg c,zbk.2 (fun h=>c (hk.1 h)),Bool.false_and]
   rfl
 generalize List.range' 0 p.length=R at key ⊢
 induction R with
 | nil=>rfl
 | cons i R ih =>
  rw [List.flatMap_cons,List.flatMap_cons,key i (List.mem_cons_self ..),ih (fun k hk=>key k (List.mem_cons_of_mem _ hk))]
structure Stp (p z:List Int):Prop where
 good:goodL z=true
 desc:Desc z
 len:z.length=p.length
 sum:z.sum=p.sum
 maj:majB z p=true
 fall:sqS z<sqS p
theorem ug_stp {p z:List Int} (hp:goodL p=true) (h:z ∈ ugAll p 0 p.length):Stp p z:=by
 obtain ⟨i,j,hi,hj,c,rfl⟩:=(ugAll_mem _ _).1 h;have hij:i≠j:=fun e=>by rw [e] at c;omega
 have hk:kindB p (i:Int) (j:Int) 1=true:=(kindB_iff _ _ _ _).2 ⟨(isG_iff _ _ _ _).2 ⟨by omega,by omega,by omega,by omega⟩,by omega,by omega⟩;have h1:=sqS_give p (i:Int) (j:Int) 1 (by omega) (by omega) (by omega);have h2:=kind_fall hk;refine ⟨by rw [good_desc];exact kind_give p _ _ _ hp hk,descL_desc _,by rw [descL_length,giveL_length],by rw [descL_sum,giveL_sum p i j 1 hi hj hij],by rw [maj_desc_l];exact kind_maj hk,?_⟩
 rw [sqS_perm (descL_perm _)];omega
theorem allU_stp {p a z:List Int} (hp:goodL p=true) (h:z ∈ allU p a 0 p.length):Stp p z∧majB a z=true:=by
 rw [allU_ug p a hp] at h
 obtain ⟨h1,h2⟩:=List.mem_filter.1 h;exact ⟨ug_stp hp h1,h2⟩
theorem sqS_nn {p:List Int} (hp:goodL p=true):0≤sqS p∧sqS p≤28800:=by
 have h:=(goodL_iff p).1 hp;obtain ⟨h1,h2,h3⟩:=fold_sq p 0 h.2.2 (by omega) (by omega);omega
def mxL (l:List Int):Int:=l.foldl max 0
theorem mx_go:∀ (l:List Int) (m:Int),m≤l.foldl max m∧(∀ x ∈ l,x≤l.foldl max m)∧(l.foldl max m=m∨l.foldl max m ∈ l)
 | [],m=>⟨Int.le_refl m,taad,Or.inl rfl⟩
 | a :: l,m=>by
  obtain ⟨h1,h2,h3⟩:=mx_go l (max m a);rw [List.foldl_cons];refine ⟨by omega,fun x hx => ?_,?_⟩
  ·rcases List.mem_cons.1 hx with rfl | hx
   ·omega
   ·exact h2 x hx
  ·rcases h3 with h3 | h3
   ·rcases (show max m a=m∨max m a=a by omega) with e | e
    ·left
     omega
    ·right
     rw [h3,e];exact List.mem_cons_self ..
   ·right
    exact List.mem_cons_of_mem _ h3
theorem mx_nn (l:List Int):0≤mxL l:=(mx_go l 0).1
theorem mx_ge {l:List Int} {x:Int} (h:x ∈ l):x≤mxL l:=(mx_go l 0).2.1 x h
theorem mx_le {l:List Int} {m:Int} (h0:0≤m) (h:∀ x ∈ l,x≤m):mxL l≤m:=by
 rcases (mx_go l 0).2.2 with e | e
 ·exact Int.le_trans (Int.le_of_eq e) h0
 ·exact h _ e
theorem mx_at (l:List Int):mxL l=0∨mxL l ∈ l:=(mx_go l 0).2.2
def lpN (a:List Int):Nat→List Int→Int
 | 0,_=>0
 | m+1,x=>mxL ((allU x a 0 x.length).map fun z=>1+lpN a m z)
def lp (a x:List Int):Int:=lpN a (sqS x).toNat x
theorem lpN_stable (a:List Int):∀ (m m':Nat) (x:List Int),goodL x=true→sqS x≤m→sqS x≤m'→lpN a m x=lpN a m' x
 | 0,0,x,_,_,_=>rfl
 | 0,m'+1,x,hg,h,_=>by
  have e:allU x a 0 x.length=[]:=by
   apply List.eq_nil_iff_forall_not_mem.2
   intro z hz
   have h1:=(allU_stp hg hz).1;have h2:=(sqS_nn h1.good).1;have h3:=h1.fall;omega
  simp only [lpN,e];rfl
 | m+1,0,x,hg,_,h=>by
  have e:allU x a 0 x.length=[]:=by
   apply List.eq_nil_iff_forall_not_mem.2
   intro z hz
   have h1:=(allU_stp hg hz).1;have h2:=(sqS_nn h1.good).1;have h3:=h1.fall;omega
  simp only [lpN,e];rfl
 | m+1,m'+1,x,hg,h,h'=>by
  simp only [lpN];congr 1
  apply List.map_congr_left
  intro z hz
  have h1:=(allU_stp hg hz).1;have h3:=h1.fall;rw [lpN_stable a m m' z h1.good (by omega) (by omega)]
theorem lp_step {a x:List Int} (hg:goodL x=true):lp a x=mxL ((allU x a 0 x.length).map fun z=>1+lp a z):=by
 have h0:=sqS_nn hg;have e:lp a x=lpN a ((sqS x).toNat+1) x:=lpN_stable a _ _ x hg (by omega) (by omega);rw [e];simp only [lpN];congr 1
 apply List.map_congr_left
 intro z hz
 have h1:=(allU_stp hg hz).1;have h3:=h1.fall;have h4:=sqS_nn h1.good;unfold lp;rw [lpN_stable a (sqS x).toNat (sqS z).toNat z h1.good (by omega) (by omega)]
theorem lp_nn {a x:List Int} (hg:goodL x=true):0≤lp a x:=by
 rw [lp_step hg];exact mx_nn _
theorem lp_bd (a:List Int):∀ (m:Nat) (x:List Int),goodL x=true→sqS x≤m→lp a x≤sqS x
 | m,x,hg,h=>by
  have h0:=sqS_nn hg;rw [lp_step hg];refine mx_le h0.1 fun y hy => ?_
  obtain ⟨z,hz,rfl⟩:=List.mem_map.1 hy;have h1:=(allU_stp hg hz).1;have h3:=h1.fall;have h4:=sqS_nn h1.good;match m,h with
  | 0,h=>omega
  | m+1,h =>
   have:=lp_bd a m z h1.good (by omega);omega
theorem lp_le {a x:List Int} (hg:goodL x=true):lp a x≤28800:=by
 have h0:=sqS_nn hg;have:=lp_bd a (sqS x).toNat x hg (by omega);omega
theorem lp_ge {a x z:List Int} (hg:goodL x=true) (hz:z ∈ allU x a 0 x.length):1+lp a z≤lp a x:=by
 rw [lp_step hg];exact mx_ge (List.mem_map.2 ⟨z,hz,rfl⟩)
theorem lp_at {a x:List Int} (hg:goodL x=true):lp a x=0∨∃ z ∈ allU x a 0 x.length,lp a x=1+lp a z:=by
 rcases mx_at ((allU x a 0 x.length).map fun z=>1+lp a z) with e | e
 ·left
  rw [lp_step hg,e]
 ·right
  rw [lp_step hg];obtain ⟨z,hz,h⟩:=List.mem_map.1 e;exact ⟨z,hz,h.symm⟩
theorem unit_self:∀ x:List Int,unitL x x=0
 | []=>rfl
 | a :: x=>by
  rw [unit_cons,unit_self x];omega
theorem lp_mono {a:List Int} {t:List Int} (ht:Desc t) (htg:goodL t=true) (ha:majB a t=true):∀ (n:Nat) (x:List Int),Desc x→goodL x=true→majB t x=true→unitL x t≤n→lp a t+unitL x t≤lp a x
 | n,x,hx,hg,hm,hu=>by
  have hd:=(majB_dom t x).1 hm;rw [descL_of_desc hx,descL_of_desc ht] at hd
  by_cases hne:x=t
  ·subst hne
   have:=unit_self x;omega
  ·obtain ⟨i,j,hn⟩:=nx_exists hd hne
   have g:=nx_gv true hn;have h1:=gv_unit hd.1 g;have h2:=unitL_nn (giveL x (i:Int) (j:Int) (gvA true x t i j)) t;have hA:gvA true x t i j=1:=rfl;rw [hA] at h1 h2 g
   have gd:=gv_desc hd.1 hx ht g;have gg:=gv_good hd.1 hg htg g;have hij:=hn.lt;have hj:=hn.hj;have q1:=hn.igt;have q2:=hn.jlt;have q3:=desc_rd ht (a:=i) (b:=j) (by omega) (by have:=hd.1;omega);have hz:giveL x (i:Int) (j:Int) 1 ∈ ugAll x 0 x.length:=(ugAll_mem _ _).2 ⟨i,j,by omega,hj,by omega,(descL_of_desc gd).symm⟩;have hmz:majB t (giveL x (i:Int) (j:Int) 1)=true:=by
    rw [majB_dom,descL_of_desc gd,descL_of_desc ht];exact gv_dom hd g
   have hin:giveL x (i:Int) (j:Int) 1 ∈ allU x a 0 x.length:=by
    rw [allU_ug x a hg];exact List.mem_filter.2 ⟨hz,maj_trans ha hmz⟩
   have hs:=lp_ge hg hin;match n,hu with
   | 0,hu=>omega
   | n+1,hu =>
    have:=lp_mono ht htg ha n _ gd gg hmz (by omega);omega
theorem unit_pos {x t:List Int} (hd:Dom x t) (hne:x≠t):1≤unitL x t:=by
 obtain ⟨i,j,hn⟩:=nx_exists hd hne;have g:=nx_gv true hn;have h1:=gv_unit hd.1 g;have h2:=unitL_nn (giveL x (i:Int) (j:Int) (gvA true x t i j)) t;have hA:gvA true x t i j=1:=rfl;omega
theorem lp_units {a x:List Int} (hx:Desc x) (hg:goodL x=true) (ha:goodL a=true) (hm:majB a x=true):unitL x (descL a)≤lp a x:=by
 have h1:=lp_mono (a:=a) (descL_desc a) (by rw [good_desc];exact ha) (by rw [majB_descR];exact maj_refl a) (unitL x (descL a)).toNat x hx hg (by rw [maj_desc_l];exact hm) (by omega);have h2:=lp_nn (a:=a) (x:=descL a) (by rw [good_desc];exact ha);omega
theorem lp_zero {a x:List Int} (hx:Desc x) (hg:goodL x=true) (ha:goodL a=true) (hm:majB a x=true):lp a x=0↔x=descL a:=by
 constructor
 ·intro h
  apply Classical.byContradiction
  intro hne
  have hd:=(majB_dom a x).1 hm;rw [descL_of_desc hx] at hd
  have:=unit_pos hd hne;have:=lp_units hx hg ha hm;omega
 ·intro h
  rcases lp_at (a:=a) hg with e | ⟨z,hz,e⟩
  ·exact e
  ·obtain ⟨hs,hmz⟩:=allU_stp hg hz
   have h1:=maj_antisymm hmz (by rw [h] at hs;have:=hs.maj;rw [maj_desc_r] at this;exact this);have h2:=hs.fall;rw [← sqS_perm (descL_perm z),← h1,h] at h2
   omega
theorem unit_zero {x t:List Int} (hd:Dom x t):unitL x t=0↔x=t:=by
 constructor
 ·intro h
  apply Classical.byContradiction
  intro hne
  have:=unit_pos hd hne;omega
 ·rintro rfl
  exact unit_self x
theorem allU_none {a x:List Int} (hg:goodL x=true):allU x a 0 x.length=[]↔lp a x=0:=by
 constructor
 ·intro h
  rw [lp_step hg,h];rfl
 ·intro h
  apply List.eq_nil_iff_forall_not_mem.2
  intro z hz
  have h1:=lp_ge hg hz;have h2:=lp_nn (a:=a) (allU_stp hg hz).1.good;omega
def bestC (a:List Int) (m:Int) (d:List Int):Int:=if betB a d=true∧m<lp a (descL d) then lp a (descL d) else m
theorem best_go (a:List Int):∀ (l:List (List Int)) (m:Int),m≤l.foldl (bestC a) m∧(∀ d ∈ l,betB a d=true→lp a (descL d)≤l.foldl (bestC a) m)∧(l.foldl (bestC a) m=m∨∃ d ∈ l,betB a d=true∧l.foldl (bestC a) m=lp a (descL d))
 | [],m=>⟨Int.le_refl m,taad,Or.inl rfl⟩
 | d :: l,m=>by
  obtain ⟨h1,h2,h3⟩:=best_go a l (bestC a m d);rw [List.foldl_cons];have h0:m≤bestC a m d∧(betB a d=true→lp a (descL d)≤bestC a m d)∧(bestC a m d=m∨(betB a d=true∧bestC a m d=lp a (descL d))):=by
   unfold bestC;split
   ·next c=>exact ⟨by omega,fun _=>Int.le_refl _,Or.inr ⟨c.1,rfl⟩⟩
   ·next c=>exact ⟨Int.le_refl _,fun hb=>by
     apply Classical.byContradiction
     intro hn
     exact c ⟨hb,by omega⟩,Or.inl rfl⟩
  refine ⟨by omega,fun x hx hb => ?_,?_⟩
  ·rcases List.mem_cons.1 hx with rfl | hx
   ·have:=h0.2.1 hb
    omega
   ·exact h2 x hx hb
  ·rcases h3 with h3 | ⟨x,hx,hb,e⟩
   ·rcases h0.2.2 with e | ⟨hb,e⟩
    ·left
     omega
    ·right
     exact ⟨d,List.mem_cons_self ..,hb,by omega⟩
   ·right
    exact ⟨x,List.mem_cons_of_mem _ hx,hb,e⟩
theorem cov_ug {b d:List Int} (hg:goodL b=true) (h:d ∈ covL b):d ∈ ugAll (descL b) 0 (descL b).length:=by
 obtain ⟨h1,h2⟩:=(cov_mem hg d).1 h;obtain ⟨g,hg1,hm⟩:=und_ug hg h1;rw [h2 g (ug_und hg hg1) hm];exact hg1
theorem lp_cov {a b:List Int} (hb:betB a b=true):lp a (descL b)=(covL b).foldl (bestC a) (-1)+1:=by
 obtain ⟨ga,gb,hm⟩:=(betB_iff a b).1 hb;have gd:goodL (descL b)=true:=by rw [good_desc];exact gb
 obtain ⟨h1,h2,h3⟩:=best_go a (covL b) (-1);generalize hv:(covL b).foldl (bestC a) (-1)=v at *
 have hup:v+1≤lp a (descL b):=by
  rcases h3 with e | ⟨d,hd,hbd,e⟩
  ·have:=lp_nn (a:=a) gd
   omega
  ·have hu:=cov_ug gb hd
   have hs:=ug_stp gd hu;have hin:d ∈ allU (descL b) a 0 (descL b).length:=by
    rw [allU_ug _ a gd];exact List.mem_filter.2 ⟨hu,((betB_iff a d).1 hbd).2.2⟩
   have:=lp_ge gd hin;rw [descL_of_desc hs.desc] at e
   omega
 rcases lp_at (a:=a) gd with e | ⟨z,hz,e⟩
 ·omega
 ·rw [allU_ug _ a gd] at hz
  obtain ⟨hz,hmz⟩:=List.mem_filter.1 hz;have hs:=ug_stp gd hz;obtain ⟨c,hc,hzc⟩:=cov_above gb (ug_und gb hz);have hsc:=ug_stp gd (cov_ug gb hc);have hmc:=maj_trans hmz hzc;have h5:=lp_mono (a:=a) hs.desc hs.good hmz (unitL c z).toNat c hsc.desc hsc.good hzc (by omega);have h6:=unitL_nn c z;have h7:=h2 c hc ((betB_iff a c).2 ⟨ga,hsc.good,hmc⟩);rw [descL_of_desc hsc.desc] at h7
  omega
def lpR (a b:List Int):Int × Bool:=if betB a b=true then (if b.sum≤20 then (lp a (descL b),true) else (0,false)) else (0,false)
def btwL (a b:List Int):List (List Int):=(undL b).filter (majB a)
theorem btw_sorted (a b:List Int):(btwL a b).Pairwise lexB:=((allL_sorted b.length b.sum b.sum).filter _).filter _
theorem btw_mem {a b:List Int} (hb:betB a b=true) (h20:b.sum≤20) {x:List Int}:x ∈ btwL a b↔(goodL x=true∧Desc x∧majB x b=true∧majB a x=true):=by
 obtain ⟨ga,gb,hm⟩:=(betB_iff a b).1 hb;unfold btwL;rw [List.mem_filter];constructor
 ·rintro ⟨h1,h2⟩
  obtain ⟨g1,_,g3,_,_⟩:=und_good gb (by omega) h1;exact ⟨g1,g3,((und_mem gb x).1 h1).2.2,h2⟩
 ·rintro ⟨h1,h2,h3,h4⟩
  refine ⟨(und_mem gb x).2 ⟨h2,fun y hy => ?_,h3⟩,h4⟩
  have hx:=((goodL_iff x).1 h1).2.2;have hs:=((majB_iff x b).1 h3).2.1;have:=mem_le_sum x (fun z hz=>(hx z hz).1) hy;have:=(hx y hy).1;omega
theorem btw_head {a b:List Int} (hb:betB a b=true) (h20:b.sum≤20):(btwL a b).length≤852891037441∧∃ h:0<(btwL a b).length,(btwL a b)[0]=descL b:=by
 obtain ⟨ga,gb,hm⟩:=(betB_iff a b).1 hb;refine ⟨Nat.le_trans (List.length_filter_le _ _) (und_bd b gb (by omega)),?_⟩
 have e:btwL a b=descL b :: ((undL b).drop 1).filter (majB a):=by
  unfold btwL;conv=>lhs;rw [und_head gb]
  rw [List.filter_cons,if_pos (by rw [majB_descR];exact hm)]
 rw [e];exact ⟨taad,taad⟩
theorem btw_ug {a b:List Int} (hb:betB a b=true) (h20:b.sum≤20) {k:Nat} (hk:k<(btwL a b).length) {y:List Int} (hy:y ∈ ugAll (btwL a b)[k] 0 (btwL a b)[k].length):y ∈ (btwL a b).drop (k+1)↔majB a y=true:=by
 have hx:=(btw_mem hb h20).1 (List.getElem_mem hk);have hs:=ug_stp hx.1 hy;constructor
 ·intro h
  exact ((btw_mem hb h20).1 (List.mem_of_mem_drop h)).2.2.2
 ·intro h
  have hin:=(btw_mem hb h20).2 ⟨hs.good,hs.desc,maj_trans hs.maj hx.2.2.1,h⟩;obtain ⟨j,hj,e⟩:=List.getElem_of_mem hin;have hd:=(majB_dom _ _).1 hs.maj;rw [descL_of_desc hx.2.1,descL_of_desc hs.desc] at hd
  have hl:lexB (btwL a b)[k] y:=by
   rcases dom_lex _ _ hd with c | c
   ·have:=hs.fall
    rw [c] at this
    omega
   ·exact c
  have hp:=List.pairwise_iff_getElem.1 (btw_sorted a b);have hjk:k<j:=by
   apply Classical.byContradiction
   intro hn
   rcases Nat.lt_or_ge j k with c | c
   ·have h1:=hp j k hj hk c
    rw [e] at h1
    exact lexB_irrefl _ (lexB_trans _ _ _ hl h1)
   ·obtain rfl:j=k:=by omega
    rw [e] at hl
    exact lexB_irrefl _ hl
  rw [← e];exact List.mem_drop_iff_getElem.2 ⟨j - (k+1),by omega,by congr 1;omega⟩
def wayF (a:List Int) (R:List (List Int)) (v:Int) (y:List Int):Int:=if y ∈ R then max v (lp a y+1) else v
theorem way_fold (a:List Int) (R:List (List Int)):∀ (ys:List (List Int)) (v:Int),(∀ y ∈ ys,y ∈ R↔majB a y=true)→ys.foldl (wayF a R) v=((ys.filter (majB a)).map fun z=>1+lp a z).foldl max v
 | [],v,_=>rfl
 | y :: ys,v,h=>by
  rw [List.foldl_cons,List.filter_cons];have hy:=h y (List.mem_cons_self ..);unfold wayF at *
  by_cases c:majB a y=true
  ·rw [if_pos (hy.2 c),if_pos c,zau,List.foldl_cons,Int.add_comm 1 (lp a y)]
   exact way_fold a R ys _ (fun z hz=>h z (List.mem_cons_of_mem _ hz))
  ·rw [if_neg (fun m=>c (hy.1 m)),if_neg c]
   exact way_fold a R ys _ (fun z hz=>h z (List.mem_cons_of_mem _ hz))
theorem way_lp {a b:List Int} (hb:betB a b=true) (h20:b.sum≤20) {k:Nat} (hk:k<(btwL a b).length):(ugAll (btwL a b)[k] 0 (btwL a b)[k].length).foldl (wayF a ((btwL a b).drop (k+1))) 0=lp a (btwL a b)[k]:=by
 have hx:=(btw_mem hb h20).1 (List.getElem_mem hk);rw [way_fold a _ _ 0 (fun y hy=>btw_ug hb h20 hk hy),lp_step hx.1,allU_ug _ a hx.1];rfl
theorem way_nn {a:List Int} (R:List (List Int)) (hR:∀ y ∈ R,goodL y=true):∀ (ys:List (List Int)) (v:Int),0≤v→v≤30000→0≤ys.foldl (wayF a R) v∧ys.foldl (wayF a R) v≤30000
 | [],v,h0,h1=>⟨h0,h1⟩
 | y :: ys,v,h0,h1=>by
  rw [List.foldl_cons];have:0≤wayF a R v y∧wayF a R v y≤30000:=by
   unfold wayF;split
   ·next c =>
    have:=lp_nn (a:=a) (hR y c);have:=lp_le (a:=a) (hR y c);omega
   ·exact ⟨h0,h1⟩
  exact way_nn R hR ys _ this.1 this.2
end Go.Proofs.YtefbphpgaeffaaaGreatDoor.A
/-
 DERIVED: THE SHELF's CONTRACTS AT THIS DUMP,IN PLAIN WORDS (tools/lay-plain.mjs out of 'YtefbphpgaeffaaaGreatDoorShelfT.lean',which tools/lay-shelf.mjs wrote): THE SAME DECLARATIONS UNDER THE SAME NAMES: 'import','namespace','open','def','theorem' AND NOTHING ELSE: no command of the shelf's: FOR A HAND-IN. Each laying: the table of numbers ('.._ren') and one theorem,a field a fact of the dump's own or the kernel's comparison;each contract: ONE APPLICATION.
-/
namespace Go.Proofs
open Go.Shelf
def Tryz.itoaL_ren:Go.Shelf.Ren:=⟨fun | 171=>62 | 243=>88 | 246=>106 | 283=>115 | 284=>116 | 285=>117 | 286=>118 | 129=>105 | 317=>122 | 318=>123 | 319=>124 | 320=>125 | 337=>126 | 338=>127 | n=>n,fun | 3=>3 | 9=>9 | 2=>2 | 4=>4 | 171=>112 | 0=>0 | 53=>43 | 37=>22 | 5=>5 | 173=>114 | 212=>123 | 51=>102 | 20=>20 | 213=>124 | 46=>84 | 232=>125 | 233=>126 | n=>n,fun | 17=>0 | 18=>2 | 19=>3 | n=>n⟩
theorem Tryz.itoaL:Go.Proofs.Lays.n171 Tryz.prog Tryz.itoaL_ren:={
 mixed:=by kernel_rfl
 f129:=Tryz.func105.trans (congrArg some (by kernel_rfl))
 f171:=Tryz.func62.trans (congrArg some (by kernel_rfl))
 f243:=Tryz.func88.trans (congrArg some (by kernel_rfl))
 f246:=Tryz.func106.trans (congrArg some (by kernel_rfl))
 f283:=Tryz.func115.trans (congrArg some (by kernel_rfl))
 f284:=Tryz.func116.trans (congrArg some (by kernel_rfl))
 f285:=Tryz.func117.trans (congrArg some (by kernel_rfl))
 f286:=Tryz.func118.trans (congrArg some (by kernel_rfl))
 f317:=Tryz.func122.trans (congrArg some (by kernel_rfl))
 f318:=Tryz.func123.trans (congrArg some (by kernel_rfl))
 f319:=Tryz.func124.trans (congrArg some (by kernel_rfl))
 f320:=Tryz.func125.trans (congrArg some (by kernel_rfl))
 f337:=Tryz.func126.trans (congrArg some (by kernel_rfl))
 f338:=Tryz.func127.trans (congrArg some (by kernel_rfl))
 t0:=Tryz.underlying0
 a0:=Tryz.isAgg0
 z0:=Tryz.sizeOf0
 v0:=Tryz.zeroValue0
 t2:=Tryz.underlying2
 a2:=Tryz.isAgg2
 z2:=Tryz.sizeOf2
 v2:=Tryz.zeroValue2
 t3:=Tryz.underlying3
 a3:=Tryz.isAgg3
 z3:=Tryz.sizeOf3
 v3:=Tryz.zeroValue3
 t4:=Tryz.underlying4
 a4:=Tryz.isAgg4
 z4:=Tryz.sizeOf4
 v4:=Tryz.zeroValue4
 t5:=Tryz.underlying5
 a5:=Tryz.isAgg5
 z5:=Tryz.sizeOf5
 v5:=Tryz.zeroValue5
 t9:=Tryz.underlying9
 a9:=Tryz.isAgg9
 z9:=Tryz.sizeOf9
 v9:=Tryz.zeroValue9
 t20:=Tryz.underlying20
 a20:=Tryz.isAgg20
 z20:=Tryz.sizeOf20
 v20:=Tryz.zeroValue20
 t37:=Tryz.underlying22
 a37:=Tryz.isAgg22
 z37:=Tryz.sizeOf22
 v37:=Tryz.zeroValue22
 t46:=Tryz.underlying84
 a46:=Tryz.isAgg84
 z46:=Tryz.sizeOf84
 v46:=Tryz.zeroValue84
 t51:=Tryz.underlying102
 a51:=Tryz.isAgg102
 z51:=Tryz.sizeOf102
 v51:=Tryz.zeroValue102
 t53:=Tryz.underlying43
 a53:=Tryz.isAgg43
 z53:=Tryz.sizeOf43
 v53:=Tryz.zeroValue43
 t171:=Tryz.underlying112
 a171:=Tryz.isAgg112
 z171:=Tryz.sizeOf112
 v171:=Tryz.zeroValue112
 t173:=Tryz.underlying114
 a173:=Tryz.isAgg114
 z173:=Tryz.sizeOf114
 v173:=Tryz.zeroValue114
 t212:=Tryz.underlying123
 a212:=Tryz.isAgg123
 z212:=Tryz.sizeOf123
 v212:=Tryz.zeroValue123
 t213:=Tryz.underlying124
 a213:=Tryz.isAgg124
 z213:=Tryz.sizeOf124
 t232:=Tryz.underlying125
 a232:=Tryz.isAgg125
 z232:=Tryz.sizeOf125
 v232:=Tryz.zeroValue125
 t233:=Tryz.underlying126
 a233:=Tryz.isAgg126
 z233:=Tryz.sizeOf126
 v233:=Tryz.zeroValue126
 g17:=by kernel_rfl
 g18:=by kernel_rfl
 g19:=by kernel_rfl }
def Tryz.joinL_ren:Go.Shelf.Ren:=⟨fun | 156=>63 | 165=>89 | 166=>90 | 169=>91 | 240=>107 | 241=>108 | 276=>119 | 277=>120 | n=>n,fun | 31=>72 | 9=>9 | 3=>3 | 4=>4 | 0=>0 | 20=>20 | 72=>87 | 76=>91 | 70=>85 | 37=>22 | 75=>90 | 127=>105 | 164=>116 | 5=>5 | 80=>93 | n=>n,fun | n=>n⟩
theorem Tryz.joinL:Go.Proofs.Lays.n156 Tryz.prog Tryz.joinL_ren:={
 mixed:=by kernel_rfl
 f156:=Tryz.func63.trans (congrArg some (by kernel_rfl))
 f165:=Tryz.func89.trans (congrArg some (by kernel_rfl))
 f166:=Tryz.func90.trans (congrArg some (by kernel_rfl))
 f169:=Tryz.func91.trans (congrArg some (by kernel_rfl))
 f240:=Tryz.func107.trans (congrArg some (by kernel_rfl))
 f241:=Tryz.func108.trans (congrArg some (by kernel_rfl))
 f276:=Tryz.func119.trans (congrArg some (by kernel_rfl))
 f277:=Tryz.func120.trans (congrArg some (by kernel_rfl))
 t0:=Tryz.underlying0
 a0:=Tryz.isAgg0
 z0:=Tryz.sizeOf0
 v0:=Tryz.zeroValue0
 t3:=Tryz.underlying3
 a3:=Tryz.isAgg3
 z3:=Tryz.sizeOf3
 v3:=Tryz.zeroValue3
 t4:=Tryz.underlying4
 a4:=Tryz.isAgg4
 z4:=Tryz.sizeOf4
 v4:=Tryz.zeroValue4
 t9:=Tryz.underlying9
 a9:=Tryz.isAgg9
 z9:=Tryz.sizeOf9
 v9:=Tryz.zeroValue9
 t20:=Tryz.underlying20
 a20:=Tryz.isAgg20
 z20:=Tryz.sizeOf20
 v20:=Tryz.zeroValue20
 t31:=Tryz.underlying72
 a31:=Tryz.isAgg72
 z31:=Tryz.sizeOf72
 v31:=Tryz.zeroValue72
 t37:=Tryz.underlying22
 a37:=Tryz.isAgg22
 z37:=Tryz.sizeOf22
 v37:=Tryz.zeroValue22
 t70:=Tryz.underlying85
 a70:=Tryz.isAgg85
 z70:=Tryz.sizeOf85
 v70:=Tryz.zeroValue85
 t72:=Tryz.underlying87
 a72:=Tryz.isAgg87
 z72:=Tryz.sizeOf87
 v72:=Tryz.zeroValue87
 t75:=Tryz.underlying90
 a75:=Tryz.isAgg90
 z75:=Tryz.sizeOf90
 v75:=Tryz.zeroValue90
 t76:=Tryz.underlying91
 a76:=Tryz.isAgg91
 z76:=Tryz.sizeOf91
 v76:=Tryz.zeroValue91
 t127:=Tryz.underlying105
 a127:=Tryz.isAgg105
 z127:=Tryz.sizeOf105
 v127:=Tryz.zeroValue105
 t164:=Tryz.underlying116
 a164:=Tryz.isAgg116
 z164:=Tryz.sizeOf116
 v164:=Tryz.zeroValue116 }
theorem Tryz.joinX:Builder.Extra Tryz.prog Tryz.joinL_ren:={
 sizeBuilder:=by kernel_rfl
 liesBuilder:=by kernel_rfl
 t5:=Tryz.underlying5
 a5:=Tryz.isAgg5
 z5:=Tryz.sizeOf5
 v5:=Tryz.zeroValue5
 infoByte:=by kernel_rfl
 cellsByte:=by kernel_rfl
 sizeByte:=by kernel_rfl
 neB5:=by decide }
end Go.Proofs

namespace Go.Proofs.YtefbphpgaeffaaaGreatDoor.A
open Go.RowKit Go.Proofs.YtefbphpgaeffaaaGreatDoorW.PrintWords Go.Proofs.YtefbphpgaeffaaaGreatDoorW.PrintLast Go.Proofs.YtefbphpgaeffaaaGreatDoorW.PrintMore
attribute [local go_sem] max2_int min2_int max_two min_two max_three min_three max_four min_four
section
open Go.Lib
def strconv_Itoa_62.f (a0:Int):Option ByteArray:=if 0≤a0∧a0<100 then some ⟨(Go.Lib.decDigits a0.toNat).toArray⟩ else none
theorem strconv_Itoa_62.calls (a0:Int) (r:ByteArray) (w:World) (h:strconv_Itoa_62.f a0=some r) :
 Calls Tryz.prog 62 #[.int .i64 a0] w fun e w'=>e = .returned (.string r)∧Below w.heap.size w w':=by
 unfold strconv_Itoa_62.f at h
 split at h
 ·next hb =>
  have hr:=zbg h;obtain ⟨i,rfl⟩:=Int.eq_ofNat_of_zero_le hb.1;have hc:=Go.Proofs.Any.strconv_Itoa_small Tryz.itoaL i (by omega) w;change Calls Tryz.prog 62 _ _ _ at hc
  refine hc.mono ?_
  rintro e w' ⟨rfl,rfl⟩
  refine ⟨?_,Below.refl _ _⟩
  rw [← hr,Int.toNat_natCast]
 ·cases h
end
section
open Go.Lib
theorem own_spot {w:World} {base:Nat} {e:TypeId} {size n m:Nat} {A:Option Addr} {c:Nat} {xs:List Value} (h:w.ownsRow base e size (.slice A n c) m xs):∀ ad,A=some ad→ad.spot=none:=by
 rintro ad rfl
 rcases h.2 with ⟨h2,_⟩ | ⟨g,cap,cur,h2,_⟩
 ·cases h2
 ·cases h2
  rfl
theorem spotR {α:Type} {d:Kd α} {e:Nat} {W:World} {base:Nat} {ok:Nat→Prop} {A:Option Addr} {n c:Nat} {xs:List α} (h:Aside0 (Kd.R d e W base ok (.slice A n c) xs)):∀ ad,A=some ad→ad.spot=none:=by
 obtain ⟨_,inner,ho,_⟩:=h.out;exact own_spot ho
def joinL (l0:List ByteArray) (a1:ByteArray):List UInt8:=Go.Lib.join (l0.map (·.data.toList)) a1.data.toList
def strings_Join.f (l0:List ByteArray) (a1:ByteArray):Option ByteArray:=if l0.length≤140737488355328∧(joinL l0 a1).length≤140737488355328 then some ⟨(joinL l0 a1).toArray⟩ else none
theorem strings_Join.calls (A0:Option Addr) (c0:Nat) (l0:List ByteArray) (a1:ByteArray) (r:ByteArray) (w:World) (hr0:Kd.C Kd.string w A0 l0.length l0) (hc0:l0.length≤c0) (h:strings_Join.f l0 a1=some r) (hs:∀ ad,A0=some ad→ad.spot=none:=by exact spotR (by assumption)) :
 Calls Tryz.prog 63 #[.slice A0 l0.length c0,.string a1] w fun e w'=>e = .returned (.string r)∧Below w.heap.size w w':=by
 unfold strings_Join.f at h
 split at h
 ·next hb =>
  have hr:=zbg h;have hn:=(Kd.reads_of_C (d:=ByteArray.empty) (h1:=fun _=>rfl) hr0).2.2;cases l0 with
  | nil =>
   have hc:=Go.Proofs.Any.strings_Join_none Tryz.joinL Tryz.joinX A0 c0 a1 w;change Calls Tryz.prog 63 _ _ _ at hc
   refine hc.mono ?_
   rintro e w' ⟨rfl,rfl⟩
   refine ⟨?_,Below.refl _ _⟩
   rw [← hr];rfl
  | cons x t =>
   obtain ⟨ad,e,hcell⟩:=hn (taad);subst e;have h0:=hcell 0 (taad);have hsp:=hs _ rfl;obtain ⟨blk,off,spot⟩:=ad;simp only at hsp
   subst hsp;have hat:∀ j,(⟨blk,off,none⟩:Addr).add j=⟨blk,off+j,none⟩:=fun j=>by
    unfold Addr.add;split
    ·next e=>subst e;rfl
    ·rfl
   have hc:=Go.Proofs.Any.strings_Join Tryz.joinL Tryz.joinX blk off c0 (x :: t) a1 w (fun j y hj => ?_) ?_ hb.1 hc0 hb.2
   ·change Calls Tryz.prog 63 _ _ _ at hc
    refine hc.mono ?_
    rintro e w' ⟨rfl,hw⟩
    refine ⟨?_,hw⟩
    rw [← hr];rfl
   ·have hjl:=(List.getElem?_eq_some_iff.1 hj).1
    have:=hcell j hjl;rw [hat] at this
    rw [this,List.getD_eq_getElem?_getD,hj];rfl
   ·exact zaz w _ h0
 ·cases h
end
def impl_listText.l0:Nat→List ByteArray→List Int→Int→Int→Option (ByteArray)
 | 0,_,_,_,_=>none
 | k+1,x3,x7,x8,x9=>if x9<x8 then (if 0≤x9 then (if x9<(x7.length:Int) then ((strconv_Itoa_62.f (rd x7 x9)).bind fun t687=>(if x3.length<8796093022208 then (impl_listText.l0 k (x3 ++ [t687]) x7 x8 (wrap64 (x9+1))) else (none))) else (none)) else (none)) else ((strings_Join.f x3 (⟨#[32]⟩:ByteArray)).bind fun t691=>(some t691))
def impl_listText.f (k:Nat) (l0:List Int):Option (ByteArray):=impl_listText.l0 k (([]:List ByteArray)) l0 (l0.length:Int) 0
theorem impl_listText.calls (k:Nat) (A0:Option Addr) (c0:Nat) (l0:List Int) (r:ByteArray) (w:World) (hr0:Kd.C (Kd.int .i64) w A0 l0.length l0) (hc0:l0.length≤c0) (h:impl_listText.f k l0=some r) :
 Calls Tryz.prog 24 #[.slice A0 l0.length c0] w fun e w'=>e = .returned (.string r)∧Below w.heap.size w w':=by
 have HR0:=zad hr0;have HC0:=zad hc0;clear hr0 hc0;have HB:=zad (Below.refl w.heap.size w);have H:(impl_listText.l0 k (([]:List ByteArray)) l0 (l0.length:Int) 0)=some r:=h;clear h;obtain ⟨y683,hy683⟩:∃ y_:List ByteArray,y_=(([]:List ByteArray)):=⟨_,rfl⟩;replace H:(impl_listText.l0 k y683 l0 (l0.length:Int) 0)=some r:=by first | (rw [hy683];with_reducible exact H) | (have H2_:=(zbf _ _).symm.trans H;rw [hy683];with_reducible exact H2_) | (have H2_:=(zbf _ _).symm.trans H;with_reducible exact H2_) | with_reducible exact H | (rw [hy683];exact H) | exact H
 have Ny683:=zad hy683;clear hy683;have H':=zad H;clear H;go_enter Tryz.func24,Tryz.ntmps24;go_wp2_with (first | ((with_reducible refine gate_dst (N:=6) rfl ?_);refine Kd.R_lit Kd.string _ 9 ?hg (N:=6) ?hd (xs:=([]:List ByteArray)) (inner:=[]) (ok:=fun _=>True) (okp:=fun _=>True) ?hr ?hp (fun _ hk=>hk) trivial (Below.refl _ _) (zcf _) (taad) ?_;(case hd=>rfl);(case hg=>rfl);(case hr=>first | (go_simp;done) | (go_simp;rfl));(case hp=>exact (Reps.none _ _));intro v684 w2 ho3 hb hg_ hnew_;clear hg_ hnew_;(first | rw [← Ny683.out] at ho3 | (simp only [Int.reduceToNat] at ho3;rw [← Ny683.out] at ho3));have n0_:=zad (zby ho3 (zbo (taaa)));have n1_:=zad (zbi (taaa) hb);clear HB;have HO685:=n0_;have HB:=n1_;clear n0_ n1_ hb ho3))
 go_loopg [3,9] k (fun kq v3 v9 w'=>∃ (x3_1:List ByteArray) (x9_1:Int),v9 = .int .i64 x9_1∧Aside0 (impl_listText.l0 kq x3_1 l0 (l0.length:Int) x9_1=some r)∧Aside0 (kq≤k)∧Aside0 (Kd.R Kd.string 9 w' w.heap.size (fun _=>True) v3 x3_1)∧Aside0 (Below w.heap.size w w'))
 case atStart=>exact ⟨(y683),(0),(taae),H',⟨zcf _⟩,⟨by (with_reducible repeat (first | apply zai | apply zaj | apply zak));exact HO685.out⟩,⟨taaa⟩⟩
 case round =>
  clear H';try clear c2
  try clear p2
  obtain ⟨x3_1,x9_1,rfl,HA,HK1,HO_3,HB⟩:=hrel;cases gk with
  | zero=>exact absurd HA.out (by simp [impl_listText.l0])
  | succ k1 =>
   have H:=HA.out;clear HA;simp only [impl_listText.l0] at H;by_cases c4:x9_1<(l0.length:Int)
   ·rw [if_pos c4] at H
    have c4b0:decide (x9_1<(l0.length:Int))=true:=zba c4;clear c4;by_cases c5:0≤x9_1
    ·rw [if_pos c5] at H
     have c5b0:decide (0≤x9_1)=true:=zba c5;clear c5;by_cases c6:x9_1<(l0.length:Int)
     ·rw [if_pos c6] at H
      have c6b0:decide (x9_1<(l0.length:Int))=true:=zba c6;clear c6;replace H:=zay.mp H;obtain ⟨t687,A70,H⟩:=H;replace H:(if x3_1.length<8796093022208 then (impl_listText.l0 k1 (x3_1 ++ [t687]) l0 (l0.length:Int) (wrap64 (x9_1+1))) else (none))=some r:=H;have A7:=zad A70;clear A70;by_cases c8:x3_1.length<8796093022208
      ·rw [if_pos c8] at H
       have LMc8:=zad c8;clear c8;obtain ⟨y688,hy688⟩:∃ y_:List ByteArray,y_=(x3_1 ++ [t687]):=⟨_,rfl⟩;replace H:(impl_listText.l0 k1 y688 l0 (l0.length:Int) (wrap64 (x9_1+1)))=some r:=by first | (rw [hy688];with_reducible exact H) | (have H2_:=(zbf _ _).symm.trans H;rw [hy688];with_reducible exact H2_) | (have H2_:=(zbf _ _).symm.trans H;with_reducible exact H2_) | with_reducible exact H | (rw [hy688];exact H) | exact H
       have Ny688:=zad hy688;clear hy688;have H':=zad H;clear H;have p686:0≤(x9_1:Int):=zas (taab);have q686:x9_1<(l0.length:Int):=zas (taab);obtain ⟨ad686,e686,hx686_0⟩:=zca HR0.out x9_1 p686 q686;cases e686;replace hx686_0:=(HB.out.cell (zaz w _ hx686_0)).trans hx686_0;replace p686:=eq_true p686;replace q686:=eq_true q686;go_wp2_with (first | ((with_reducible refine zbj (f:=62) rfl ?_);refine zbr (some 15) rfl rfl Tryz.func62 (by kernel_rfl) rfl #[.int .i64 (rd l0 x9_1)] rfl (taac) ?_;(with_reducible refine (strconv_Itoa_62.calls (rd l0 x9_1) t687 _ A7.out).mono ?_);rintro e w9 ⟨rfl,hb⟩;refine ⟨_,rfl,?_⟩;have n0_:=zad (zbx (taan) hb);have n1_:=zad (zbi (taaa) hb);clear HO_3 HB;have HO_3:=n0_;have HB:=n1_;clear n0_ n1_;(try clear hb);(try clear hb2);(try clear hk);(try clear hi)) | ((with_reducible refine gate_builtin (b := .append) (xs:=#[.tmp 13,.tmp 16]) rfl ?_);at_builtin;refine Kd.R_append Kd.string (w0:=w) w.heap.size rfl (.tmp 13) (.tmp 16) 72 9 (.string ⟨#[]⟩) 16 rfl Tryz.underlying72 info9 rfl (by decide) (by omega) u3 x3_1 t687 [.string t687] (fun _=>True) (fun _=>False) rfl rfl ?aP (fun _ hk=>hk.elim) ?aF ?aO ?aB ?aS ?aL ?_;(case aP=>exact rfl);(case aB=>exact (taaa));(case aF=>exact (fun _ _=>trivial));(case aO=>exact (taan));(case aS=>exact (zbo (taaa)));(case aL=>have:=LMc8.out;omega);intro v689 w10 ho hb hg hat;rw [← Ny688.out] at ho;have n0_:=zad (hb);have n1_:=zad (ho);clear HB HO_3;have HB:=n0_;have HO690:=n1_;clear n0_ n1_ ho hb hg hat))
       go_roundg k1
       case measure=>have:=HK1.out;omega
       case rel=>exact ⟨(y688),(wrap64 (x9_1+1)),(taae),H',⟨taap⟩,⟨by (with_reducible repeat (first | apply zai | apply zaj | apply zak));exact HO690.out⟩,⟨taaa⟩⟩
      ·rw [if_neg c8] at H
       exact absurd H (taad)
     ·rw [if_neg c6] at H
      exact absurd H (taad)
    ·rw [if_neg c5] at H
     exact absurd H (taad)
   ·rw [if_neg c4] at H
    have c4b0:decide (x9_1<(l0.length:Int))=false:=zbl c4;clear c4;replace H:=zay.mp H;obtain ⟨t691,A110,H⟩:=H;replace H:(some t691)=some r:=H;have A11:=zad A110;clear A110;obtain rfl:=zbg H;obtain ⟨Ao12,co12,eo12⟩:=zbz HO_3.out;subst eo12;go_wp2_with (first | ((with_reducible refine zbj (f:=63) rfl ?_);refine zbr (some 20) rfl rfl Tryz.func63 (by kernel_rfl) rfl #[.slice Ao12 x3_1.length co12,.string (⟨#[32]⟩:ByteArray)] rfl (taac) ?_;(with_reducible refine (strings_Join.calls _ _ x3_1 (⟨#[32]⟩:ByteArray) t691 _ ?side1 ?side2 A11.out).mono ?_);(case side1=>repeat (first | exact (zbh HO_3.out).2.2 | (with_reducible refine zal ?_ _) | (with_reducible refine zam ?_ _) | (with_reducible refine zan ?_)));(case side2=>exact (zbh HO_3.out).2.1);rintro e w13 ⟨rfl,hb⟩;refine ⟨_,rfl,?_⟩;have n0_:=zad (zbx (taan) hb);have n1_:=zad (zbi (taaa) hb);clear HO_3 HB;have HO_3:=n0_;have HB:=n1_;clear n0_ n1_;(try clear hb);(try clear hb2);(try clear hk);(try clear hi)))
    go_ret
    exact ⟨taah,taaa⟩
def itoaB (n:Int):ByteArray:=⟨(Go.Lib.decDigits n.toNat).toArray⟩
def textL (l:List Int):List UInt8:=Go.Lib.join (l.map fun n=>Go.Lib.decDigits n.toNat) [32]
def textB (l:List Int):ByteArray:=⟨(textL l).toArray⟩
theorem ba_size (a:List UInt8):(⟨a.toArray⟩:ByteArray).size=a.length:=by
 show a.toArray.size=a.length
 simp
theorem digs_len {n:Int} (h0:0≤n) (h1:n<100):(Go.Lib.decDigits n.toNat).length≤2∧1≤(Go.Lib.decDigits n.toNat).length:=by
 by_cases c:n.toNat<10
 ·rw [Go.Lib.decDigits_one c]
  exact ⟨taad,taad⟩
 ·rw [Go.Lib.decDigits_two c (by omega)]
  exact ⟨taad,taad⟩
theorem lens_le {xs:List (List UInt8)} {m:Nat} (h:∀ x ∈ xs,x.length≤m):Go.Lib.lens xs≤m*xs.length:=by
 induction xs with
 | nil=>simp [Go.Lib.lens]
 | cons x r ih =>
  have h1:=ih fun y hy=>h y (List.mem_cons_of_mem _ hy)
  have h2:=h x List.mem_cons_self;simp only [Go.Lib.lens,zau,List.sum_cons,List.length_cons] at h1 ⊢
  rw [Nat.mul_succ];omega
theorem textL_len {l:List Int} (hl:l.length≤100) (hx:∀ x ∈ l,0≤x∧x<100):(textL l).length≤1000:=by
 unfold textL;cases l with
 | nil=>simp [Go.Lib.join_nil]
 | cons x r =>
  have h:=lens_le (xs:=(x :: r).map fun n=>Go.Lib.decDigits n.toNat) (m:=2) (fun y hy=>by
   obtain ⟨z,hz,rfl⟩:=List.mem_map.1 hy;exact (digs_len (hx z hz).1 (hx z hz).2).1)
  rw [List.length_map] at h
  rw [zau] at h ⊢
  rw [Go.Lib.join_length,List.length_map,List.length_singleton];rw [List.length_cons] at h hl
  omega
theorem joinL_text (l:List Int):joinL (l.map itoaB) (⟨#[32]⟩:ByteArray)=textL l:=by
 unfold joinL textL;rw [List.map_map];rfl
theorem listText_l (l:List Int) (hl:l.length≤100) (hx:∀ x ∈ l,0≤x∧x<100):∀ (d i:Nat) (ws:List ByteArray),i+d=l.length→ws.length=i→ws ++ (l.drop i).map itoaB=l.map itoaB→Ev (fun k=>impl_listText.l0 k ws l (l.length:Int) (i:Int)) (textB l)
 | 0,i,ws,hi,hw,he=>by
  refine Ev.succ ?_
  rw [List.drop_eq_nil_of_le (by omega),zav,List.append_nil] at he
  have hlen:=textL_len hl hx;simp only [impl_listText.l0,if_neg (show ¬ (i:Int)<(l.length:Int) by omega),he];unfold strings_Join.f;rw [joinL_text,if_pos ⟨by rw [List.length_map];omega,by omega⟩];exact Ev.now _
 | d+1,i,ws,hi,hw,he=>by
  have hi2:i<l.length:=by omega
  have hb:=hx _ (List.getElem_mem hi2);refine Ev.succ ?_
  simp only [impl_listText.l0,if_pos (show (i:Int)<(l.length:Int) by omega),if_pos (show (0:Int)≤(i:Int) by omega),rdn hi2,wsucc hi2 (by omega)];unfold strconv_Itoa_62.f;simp only [if_pos hb,zbf,if_pos (show ws.length<8796093022208 by omega)];refine listText_l l hl hx d (i+1) (ws ++ [itoaB l[i]]) (by omega) (tabi) ?_
  rw [← he,List.drop_eq_getElem_cons hi2,zau,List.append_assoc];rfl
theorem listText_ev (l:List Int) (hl:l.length≤100) (hx:∀ x ∈ l,0≤x∧x<100):Ev (fun k=>impl_listText.f k l) (textB l):=listText_l l hl hx l.length 0 [] (by omega) rfl rfl
theorem good_few {l:List Int} (h:goodL l=true):l.length≤8∧∀ x ∈ l,0≤x∧x<100:=by
 obtain ⟨_,h2,h3⟩:=(goodL_iff l).1 h;exact ⟨h2,fun x hx=>by have:=h3 x hx;omega⟩
def splitC:List UInt8→List (List UInt8)
 | []=>[[]]
 | b :: r=>if b=32 then [] :: splitC r else match splitC r with
  | []=>[[b]]
  | w :: ws=>(b :: w) :: ws
theorem splitC_pre:∀ (p r:List UInt8),(∀ b ∈ p,b≠32)→splitC (p ++ 32 :: r)=p :: splitC r
 | [],r,_=>by simp [splitC]
 | b :: p,r,h=>by
  have ih:=splitC_pre p r fun x hx=>h x (List.mem_cons_of_mem _ hx)
  rw [List.cons_append,splitC,if_neg (h b List.mem_cons_self),ih]
theorem splitC_one:∀ p:List UInt8,(∀ b ∈ p,b≠32)→splitC p=[p]
 | [],_=>rfl
 | b :: p,h=>by
  have ih:=splitC_one p fun x hx=>h x (List.mem_cons_of_mem _ hx)
  rw [splitC,if_neg (h b List.mem_cons_self),ih]
theorem join_cons2 (x y:List UInt8) (r:List (List UInt8)):Go.Lib.join (x :: y :: r) [32]=x ++ 32 :: Go.Lib.join (y :: r) [32]:=by
 rw [Go.Lib.join_cons,Go.Lib.join_cons];simp [Go.Lib.joinTail]
theorem split_join:∀ ws:List (List UInt8),ws≠[]→(∀ w ∈ ws,∀ b ∈ w,b≠32)→splitC (Go.Lib.join ws [32])=ws
 | [],h,_=>absurd rfl h
 | [x],_,h=>by
  rw [Go.Lib.join_one];exact splitC_one x (h x List.mem_cons_self)
 | x :: y :: r,_,h=>by
  rw [join_cons2,splitC_pre _ _ (h x List.mem_cons_self),split_join (y :: r) (taad) fun w hw=>h w (List.mem_cons_of_mem _ hw)]
theorem dig_no {x:Int} (h0:0≤x) (h1:x<100):∀ b ∈ Go.Lib.decDigits x.toNat,b≠32:=by
 have e1:∀ i:Fin 10,(UInt8.ofNat (48+i.val))≠32:=by decide
 intro b hb
 by_cases c:x.toNat<10
 ·rw [Go.Lib.decDigits_one c,List.mem_singleton] at hb
  rw [hb];exact e1 ⟨x.toNat,c⟩
 ·rw [Go.Lib.decDigits_two c (by omega)] at hb
  simp only [List.mem_cons,List.not_mem_nil,or_false] at hb
  rcases hb with hb | hb
  ·rw [hb];exact e1 ⟨x.toNat / 10,by omega⟩
  ·rw [hb];exact e1 ⟨x.toNat % 10,by omega⟩
theorem split_text {l:List Int} (hl:l≠[]) (hx:∀ x ∈ l,0≤x∧x<100):splitC (textL l)=l.map fun n=>Go.Lib.decDigits n.toNat:=by
 unfold textL;refine split_join _ (by simpa using hl) fun w hw => ?_
 obtain ⟨x,h,rfl⟩:=List.mem_map.1 hw;exact dig_no (hx x h).1 (hx x h).2
def digB (b:UInt8):Bool:=decide (48≤b.toNat) && decide (b.toNat≤57)
def valC (w:List UInt8):Int:=w.foldl (fun a b=>10*a+((b.toNat:Int) - 48)) 0
def headC (w:List UInt8):Bool:=decide (w.headD 0=48) && decide (1<w.length)
def readC (w:List UInt8):Int:=if 1≤w.length∧w.length≤6 then (if headC w=true then -1 else if w.all digB=true then valC w else -1) else -1
theorem read_digs:∀ i:Fin 61,10≤i.val→readC [UInt8.ofNat (48+i.val / 10),UInt8.ofNat (48+i.val % 10)]=(i.val:Int):=by decide +kernel
theorem read_dig:∀ i:Fin 10,readC [UInt8.ofNat (48+i.val)]=(i.val:Int):=by decide +kernel
theorem read_dec {x:Int} (h0:0≤x) (h1:x≤60):readC (Go.Lib.decDigits x.toNat)=x:=by
 by_cases c:x.toNat<10
 ·rw [Go.Lib.decDigits_one c]
  have:=read_dig ⟨x.toNat,c⟩;dsimp only at this
  rw [this];omega
 ·rw [Go.Lib.decDigits_two c (by omega)]
  have:=read_digs ⟨x.toNat,by omega⟩ (by show 10≤x.toNat;omega);dsimp only at this
  rw [this];omega
theorem good_of_text {s:ByteArray} {l:List Int} (hg:goodL l=true) (h:textB l=s):(splitC s.data.toList).map readC=l:=by
 obtain ⟨h1,h2,h3⟩:=(goodL_iff _).1 hg;have hd:s.data.toList=textL l:=by
  rw [← h];unfold textB;simp
 rw [hd,split_text (by intro e;rw [e] at h1;simp at h1) (fun x hx=>by have:=h3 x hx;omega),List.map_map];conv=>rhs;rw [← List.map_id l]
 refine List.map_congr_left fun x hx => ?_
 exact read_dec (h3 x hx).1 (h3 x hx).2
theorem sub_lenG {α:Type} [BEq α] [LawfulBEq α]:∀ (a b:List α),a.Nodup→(∀ x ∈ a,x ∈ b)→a.length≤b.length
 | [],b,_,_=>Nat.zero_le _
 | x :: a,b,hn,hs=>by
  have hx:x ∈ b:=hs x List.mem_cons_self;have h1:=sub_lenG a (b.erase x) (List.nodup_cons.1 hn).2 (fun y hy=>by
   have hne:y≠x:=by
    rintro rfl
    exact (List.nodup_cons.1 hn).1 hy
   exact (List.mem_erase_of_ne hne).2 (hs y (List.mem_cons_of_mem _ hy)))
  have h2:=List.length_erase_of_mem hx;have h3:0<b.length:=List.length_pos_of_mem hx;rw [List.length_cons];omega
def keyT (x:List Int):Lit := .string (textB x).data.toList
theorem keyT_lit (x:List Int):Go.WideAt.IsKeyLit (keyT x):=True.intro
theorem keyT_inj {x y:List Int} (hx:goodL x=true) (hy:goodL y=true) (h:keyT x=keyT y):x=y:=by
 unfold keyT at h
 injection h with h
 have e:textB x=textB y:=by
  apply ByteArray.ext
  exact Array.toList_inj.1 h
 rw [← good_of_text hx rfl,← good_of_text hy rfl,e]
structure KM (a b:List Int) (S:List (List Int)) (D:DataW Unit):Prop where
 nd:S.Nodup
 sub:∀ y ∈ S,y ∈ btwL a b
 has:∀ y ∈ btwL a b,Go.Maps.has D (keyT y)=decide (y ∈ S)
 val:∀ y ∈ S,D.atKey (keyT y) (.lit (.int .i64 0)) = .lit (.int .i64 (lp a y))
 none:∀ y ∈ btwL a b,y ∉ S→D.atKey (keyT y) (.lit (.int .i64 0)) = .lit (.int .i64 0)
theorem km_start (a b:List Int):KM a b [] (.map []):=⟨List.nodup_nil,taad,fun y _=>by simp [Go.Maps.has],taad,fun y _ _=>rfl⟩
theorem km_put {a b x:List Int} {S:List (List Int)} {D:DataW Unit} (hb:betB a b=true) (h20:b.sum≤20) (hD:Go.Maps.IsMap D) (h:KM a b S D) (hx:x ∈ btwL a b) (hn:x ∉ S):KM a b (x :: S) (D.put (keyT x) (.lit (.int .i64 (lp a x)))):=by
 have hne:∀ y ∈ btwL a b,y≠x→keyT y≠keyT x:=fun y hy e k=>e (keyT_inj ((btw_mem hb h20).1 hy).1 ((btw_mem hb h20).1 hx).1 k)
 refine ⟨List.nodup_cons.2 ⟨hn,h.nd⟩,fun y hy => ?_,fun y hy => ?_,fun y hy => ?_,fun y hy hy2 => ?_⟩
 ·rcases List.mem_cons.1 hy with rfl | hy
  ·exact hx
  ·exact h.sub y hy
 ·by_cases e:y=x
  ·subst e
   rw [Go.Maps.has_put_same hD (keyT_lit _)];simp
  ·rw [Go.Maps.has_put_other (hne y hy e),h.has y hy]
   simp [e]
 ·rcases List.mem_cons.1 hy with rfl | hy
  ·exact Go.Maps.atKey_put_same hD (keyT_lit _) _ _
  ·have e:y≠x:=fun e=>hn (e ▸ hy)
   rw [Go.Maps.atKey_put_other (hne y (h.sub y hy) e)];exact h.val y hy
 ·have e:y≠x:=fun e=>hy2 (by rw [e];exact List.mem_cons_self ..)
  rw [Go.Maps.atKey_put_other (hne y hy e)];exact h.none y hy (fun m=>hy2 (List.mem_cons_of_mem _ m))
theorem km_few {a b:List Int} {S:List (List Int)} {D:DataW Unit} (hb:betB a b=true) (h20:b.sum≤20) (h:KM a b S D):S.length≤852891037441:=Nat.le_trans (sub_lenG S _ h.nd h.sub) (btw_head hb h20).1
theorem lw_bx {W W':World} {B:Nat} {v:Value} (hb:Below W.heap.size W W') (h:W.cell? ⟨B,0,none⟩=some v):W'.cell? ⟨B,0,none⟩=some v:=(hb.cell (p:=⟨B,0,none⟩) (zaz W _ h)).trans h
theorem lw_keep {W W':World} {g B:Nat} {v:Value} (h:KeepBut W W' g none) (hc:W.cell? ⟨B,0,none⟩=some v) (hB:B≠g):W'.cell? ⟨B,0,none⟩=some v:=by
 have hlt:=zaz W _ hc;have:=h.2 B hlt hB (taad);unfold World.cell? at hc ⊢
 simp only at hc ⊢
 rw [this];exact hc
theorem lw_row {w0:World} {g:Nat} {A0:Option Addr} {l0:List (List Int)} (hT:∀ W',KeepBut w0 W' g none→Kd.C (Kd.slice 3 (Kd.int .i64)) W' A0 l0.length l0) (i:Int) (h0:0≤i) (h1:i<(l0.length:Int)) :
 ∃ ad Ar cr,A0=some ad∧(rd_L2 l0 i).length≤cr∧∀ W',KeepBut w0 W' g none→W'.cell? (ad.add i.toNat)=some (.slice Ar (rd_L2 l0 i).length cr)∧Kd.C (Kd.int .i64) W' Ar (rd_L2 l0 i).length (rd_L2 l0 i):=by
 obtain ⟨ad,Ar,cr,rfl,hx,hl,hi⟩:=at_L2 (hT w0 (KeepBut.refl w0 g none)) i h0 h1;refine ⟨ad,Ar,cr,rfl,hl,fun W' hk => ?_⟩
 have hne:ad.block≠g:=Kd.foot_ne hT (by omega) (by decide);have hc:W'.cell? (ad.add i.toNat)=some (.slice Ar (rd_L2 l0 i).length cr):=keep_cell hk hx (by rw [add_block];exact hne);refine ⟨hc,?_⟩
 obtain ⟨ad',Ar',cr',e,hx',hl',hi'⟩:=at_L2 (hT W' hk) i h0 h1;injection e with e
 subst e;rw [hc] at hx'
 injection hx' with hx'
 injection hx' with e1 e2 e3
 subst e1;exact hi'
def LI (a b:List Int) (M:Nat) (S:List (List Int)) (W:World):Prop:=∃ D:DataW Unit,KM a b S D∧W.ownsMap Tryz.prog 9 (plainElem Tryz.prog 3) M S.length D
theorem li_kept {a b:List Int} {M g:Nat} {S:List (List Int)} {W W':World} (h:LI a b M S W) (hg:GB W W' g) (hne:M≠g):LI a b M S W':=by
 obtain ⟨D,hk,ho⟩:=h;exact ⟨D,hk,ho.kept hg (taek)⟩
theorem li_below {a b:List Int} {M:Nat} {S:List (List Int)} {W W':World} (h:LI a b M S W) (hb:Below W.heap.size W W'):LI a b M S W':=li_kept h (gb_below (g:=M+1) hb) (by omega)
theorem li_key (x:List Int) (hx:goodL x=true):keyOf Tryz.prog 9 (.string (textB x))=some (keyT x):=by
 have h:=good_few hx;refine Go.WideMaps.keyOf_string_mk Tryz.underlying9 ?_
 have:=textL_len (l:=x) (by omega) h.2;unfold textB;rw [ba_size];unfold maxLen;omega
theorem li_look {a b:List Int} {M:Nat} {S:List (List Int)} {W:World} {x:List Int} (hb:betB a b=true) (h20:b.sum≤20) (h:LI a b M S W) (hx:x ∈ btwL a b) (W':World) (hW:Below W.heap.size W W'):(Instr.lookup 49 (.map (some M)) (.string (textB x)) true).run Tryz.prog W' = .ok (.tuple #[.int .i64 (if x ∈ S then lp a x else 0),.bool (decide (x ∈ S))]) W':=by
 obtain ⟨D,hk,ho⟩:=li_below h hW;have hz:(zeroValue 3).run Tryz.prog W' = .ok (.int .i64 0) W':=by kernel_rfl
 obtain ⟨v,ps,hrun,hv⟩:=ho.look_ok (Go.Maps.string_keyed Tryz.underlying9) (t:=49) Tryz.underlying49 hz (plainElem_int (H:=Unit) Tryz.underlying3 (WalkArith.wf_i64 (by omega))) (li_key x ((btw_mem hb h20).1 hx).1);obtain ⟨c,rfl,hc,_⟩:=plainElem_int_inv Tryz.underlying3 hv;have hat:=congrArg Prod.fst hc;rw [hrun,hk.has x hx];dsimp only at hat
 by_cases m:x ∈ S
 ·rw [hk.val x m] at hat
  simp only [DataW.lit.injEq,Lit.int.injEq,true_and] at hat
  rw [if_pos m,hat]
 ·rw [hk.none x hx m] at hat
  simp only [DataW.lit.injEq,Lit.int.injEq,true_and] at hat
  rw [if_neg m,hat]
theorem li_put {a b:List Int} {M:Nat} {S:List (List Int)} {W:World} {x:List Int} (hb:betB a b=true) (h20:b.sum≤20) (h:LI a b M S W) (hx:x ∈ btwL a b) (hn:x ∉ S) (W':World) (hW:Below W.heap.size W W'):∃ W2,(Instr.mapUpdate 49 (.map (some M)) (.string (textB x)) (.int .i64 (lp a x))).run Tryz.prog W' = .ok () W2∧LI a b M (x :: S) W2∧GB W' W2 M:=by
 obtain ⟨D,hk,ho⟩:=li_below h hW;have hg:=((btw_mem hb h20).1 hx).1;have h0:=lp_nn (a:=a) hg;have h1:=lp_le (a:=a) hg;have hfew:=km_few hb h20 hk;obtain ⟨W2,hrun,ho2,hg2⟩:=ho.update (Go.Maps.string_keyed Tryz.underlying9) (t:=49) Tryz.underlying49 (by unfold maxLen;omega) (li_key x hg) (plainElem_int (H:=Unit) Tryz.underlying3 (a:=lp a x) (WalkArith.wf_i64 (by omega)));exact ⟨W2,hrun,⟨_,km_put hb h20 ho.isMap hk hx hn,ho2⟩,hg2⟩
structure WY (a:List Int) (L:List (List Int)) (m:Nat) (ws:List Int):Prop where
 len:ws.length=L.length
 hi:∀ q (h:q<L.length),m≤q→rd ws (q:Int)=lp a L[q]
 lo:∀ q:Nat,q<m→rd ws (q:Int)=0
structure WZ (ws ws3:List Int) (k:Nat) (v:Int):Prop where
 len:ws3.length=ws.length
 here:rd ws3 (k:Int)=v
 oth:∀ q:Nat,q≠k→rd ws3 (q:Int)=rd ws (q:Int)
theorem WZ.refl {ws:List Int} {k:Nat} {v:Int} (h:rd ws (k:Int)=v):WZ ws ws k v:=⟨rfl,h,fun _ _=>rfl⟩
theorem WZ.put {ws ws3:List Int} {k:Nat} {v:Int} (h:WZ ws ws3 k v) (hk:k<ws.length) (u:Int):WZ ws (ws3.set k u) k u:=by
 have hl:=h.len;refine ⟨by rw [List.length_set,hl],?_,fun q hq => ?_⟩
 ·rw [rdn (show k<(ws3.set k u).length by rw [List.length_set];omega),List.getElem_set_self]
 ·rw [← h.oth q hq]
  unfold rd;rw [Int.toNat_natCast,List.getD_eq_getElem?_getD,List.getElem?_set_ne (by omega),List.getD_eq_getElem?_getD]
theorem WY.start (a:List Int) (L:List (List Int)):WY a L L.length (List.replicate L.length 0):=by
 refine ⟨taad,fun q h1 h2=>by omega,fun q h => ?_⟩
 rw [rdn (show q<(List.replicate L.length (0:Int)).length from by exact taax)];simp
theorem WY.step {a:List Int} {L:List (List Int)} {k:Nat} {ws ws3:List Int} (h:WY a L (k+1) ws) (hk:k<L.length) (z:WZ ws ws3 k (lp a L[k])):WY a L k ws3:=by
 refine ⟨by rw [z.len,h.len],fun q h1 h2 => ?_,fun q h1 => ?_⟩
 ·by_cases e:q=k
  ·subst e
   exact z.here
  ·rw [z.oth q e]
   exact h.hi q h1 (by omega)
 ·rw [z.oth q (by omega)]
  exact h.lo q (by omega)
theorem way_zero (a:List Int) (v:Int) (y:List Int) (R:List (List Int)):wayF a (R.take 0) v y=v:=by
 unfold wayF;simp
theorem way_take {a:List Int} {R:List (List Int)} {m:Nat} (hm:m<R.length) (v:Int) (y:List Int):wayF a (R.take (m+1)) v y=if R[m]=y then max (wayF a (R.take m) v y) (lp a y+1) else wayF a (R.take m) v y:=by
 unfold wayF;rw [List.take_add_one,List.getElem?_eq_getElem hm,Option.toList_some];by_cases c:R[m]=y
 ·rw [if_pos c,if_pos (by rw [List.mem_append];right;simp [c])]
  split <;> omega
 ·rw [if_neg c]
  by_cases d:y ∈ R.take m
  ·rw [if_pos d,if_pos (List.mem_append_left _ d)]
  ·rw [if_neg d,if_neg (by
    rw [List.mem_append];rintro (h | h)
    ·exact d h
    ·exact c (List.mem_singleton.1 h).symm)]
theorem way_snoc {a:List Int} {R ys:List (List Int)} {i:Nat} (hi:i<ys.length) (v:Int):(ys.take (i+1)).foldl (wayF a R) v=wayF a R ((ys.take i).foldl (wayF a R) v) ys[i]:=by
 rw [List.take_add_one,List.getElem?_eq_getElem hi,Option.toList_some,List.foldl_append];rfl
theorem filt_snoc {p:List Int→Bool} {U:List (List Int)} {j:Nat} (hj:j<U.length):(U.take (j+1)).filter p=if p U[j]=true then (U.take j).filter p ++ [U[j]] else (U.take j).filter p:=by
 rw [List.take_add_one,List.getElem?_eq_getElem hj,Option.toList_some,List.filter_append];by_cases c:p U[j]=true
 ·rw [if_pos c]
  simp [c]
 ·rw [if_neg c]
  simp [c]
theorem specUnder_l (a:List Int) (ha:Sm a) (L:List (List Int)) (hL:∀ x ∈ L,Sm x) (hl:L.length≤1000000000000):∀ (d i:Nat) (acc:List (List Int)),i+d=L.length→acc.length+d≤1000000000000→Ev (fun k=>spec_liUnder.l0 k a acc L (L.length:Int) (i:Int)) (acc ++ (L.drop i).filter fun x=>majB x a)
 | 0,i,acc,e,hb=>by
  refine Ev.succ ?_
  simp only [spec_liUnder.l0,if_neg (show ¬ (i:Int)<(L.length:Int) by omega)];rw [List.drop_eq_nil_of_le (by omega),List.filter_nil,List.append_nil];exact Ev.now _
 | d+1,i,acc,e,hb=>by
  have hi:i<L.length:=by omega
  refine Ev.succ ?_
  simp only [spec_liUnder.l0,if_pos (show (i:Int)<(L.length:Int) by omega),if_pos (show (0:Int)≤(i:Int) by omega),rd_L1n hi,wsucc hi (by omega)];rw [List.drop_eq_getElem_cons hi,List.filter_cons];refine Ev.bind (liBelow_ev L[i] a (hL _ (List.getElem_mem hi)) ha) ?_
  cases c:majB L[i] a with
  | true =>
   simp only [if_true,if_pos (show acc.length<5864062014805 by omega)];have:=specUnder_l a ha L hL hl d (i+1) (acc ++ [L[i]]) (by omega) (tabi);rw [List.append_assoc] at this
   exact this
  | false =>
   simp only [zbq,if_false];exact specUnder_l a ha L hL hl d (i+1) acc (by omega) (by omega)
theorem specUnder_ev (a:List Int) (hg:goodL a=true) (h30:a.sum≤30):Ev (fun k=>spec_liUnder.f k a) (undL a):=by
 have hs:=good_sm hg;have hl:=good_len hg;have h0:=gsum0 hg;unfold spec_liUnder.f;have hm:=allL_most a.length a.sum 60 a.sum (by omega) (Int.le_refl _);have hb:=allL_bd hl.2 (m:=a.sum) h30 h0;refine Ev.bind (liSum_ev a hs) (Ev.bind (specAll_ev a.length hl.2 a.sum 60 h30 h0 (by omega)) ?_)
 rw [hm];have:=specUnder_l a hs (allL a.length a.sum a.sum) (fun x hx=>all_sm hg h30 hx) (by omega) (allL a.length a.sum a.sum).length 0 [] (by omega) (by simp;omega);rw [List.drop_zero,List.nil_append] at this
 exact this
theorem l1Same_l (xs ys:List Int) (hx:xs.length≤9223372036854775807) (hl:xs.length=ys.length):∀ (n i:Nat),i+n=xs.length→Ev (fun k=>spec_l1Same.l0 k xs ys (xs.length:Int) (i:Int)) (decide (xs.drop i=ys.drop i))
 | 0,i,h=>by
  refine Ev.succ ?_
  simp only [spec_l1Same.l0,if_neg (show ¬ (i:Int)<(xs.length:Int) by omega)];rw [List.drop_eq_nil_of_le (by omega),List.drop_eq_nil_of_le (by omega)];exact Ev.now _
 | n+1,i,h=>by
  have hi:i<xs.length:=by omega
  have hj:i<ys.length:=by omega
  refine Ev.succ ?_
  simp only [spec_l1Same.l0,if_pos (show (i:Int)<(xs.length:Int) by omega),if_pos (show (i:Int)<(ys.length:Int) by omega),if_pos (show (0:Int)≤(i:Int) by omega),rdn hi,rdn hj,wsucc hi hx];rw [List.drop_eq_getElem_cons hi,List.drop_eq_getElem_cons hj];by_cases c:xs[i]=ys[i]
  ·simp only [c,if_true,List.cons.injEq,true_and]
   exact l1Same_l xs ys hx hl n (i+1) (by omega)
  ·simp only [c,if_false,List.cons.injEq,false_and,decide_false]
   exact Ev.now _
theorem l1Same_ev (xs ys:List Int) (hx:xs.length≤9223372036854775807):Ev (fun k=>spec_l1Same.f k xs ys) (decide (xs=ys)):=by
 unfold spec_l1Same.f;by_cases h:xs.length=ys.length
 ·simp only [if_pos (show (xs.length:Int)=(ys.length:Int) by omega)]
  exact l1Same_l xs ys hx h xs.length 0 (by omega)
 ·simp only [if_neg (show ¬ (xs.length:Int)=(ys.length:Int) by omega)]
  rw [zbl (fun e=>h (by rw [e]))];exact Ev.now _
def spec_giLongest.f (l0:List Int) (l1:List Int):Option Int:=if betB l0 l1=true then (if l1.sum≤20 then some (lp l0 (descL l1)) else none) else none
theorem spec_giLongest.calls (A0:Option Addr) (c0:Nat) (l0:List Int) (A1:Option Addr) (c1:Nat) (l1:List Int) (r:Int) (w:World) (hr0:Kd.C (Kd.int .i64) w A0 l0.length l0) (hc0:l0.length≤c0) (hr1:Kd.C (Kd.int .i64) w A1 l1.length l1) (hc1:l1.length≤c1) (h:spec_giLongest.f l0 l1=some r) :
 Calls Tryz.prog 28 #[.slice A0 l0.length c0,.slice A1 l1.length c1] w fun e w'=>e = .returned (.int .i64 r)∧Below w.heap.size w w':=by
 unfold spec_giLongest.f at h
 split at h
 next hb =>
  split at h
  next h20 =>
   obtain rfl:=zbg h;have g0:=((betB_iff l0 l1).1 hb).1;have g1:=((betB_iff l0 l1).1 hb).2.1;obtain ⟨ku,hku⟩:=Ev.get (specUnder_ev l1 g1 (by omega));have hub:=und_bd l1 g1 (by omega);have hug:=fun (x:List Int) (hx:x ∈ undL l1)=>und_good g1 (show l1.sum≤30 by omega) hx
   have hmx:l0.length≤8:=((goodL_iff l0).1 g0).2.1;obtain ⟨U,hU⟩:∃ U,U=undL l1:=⟨_,rfl⟩;have hbt:btwL l0 l1=U.filter (majB l0):=by rw [hU];rfl
   rw [← hU] at hku hub hug
   have HKU:=zad hku;have HUB:=zad hub;have HUG:=zad hug;have HBT:=zad hbt;have HBB:=zad hb;have H20:=zad h20;have HG0:=zad g0;have HR0:=zad hr0;have HC0:=zad hc0;have HR1:=zad hr1;have HC1:=zad hc1;have HB:=zad (Below.refl w.heap.size w);clear hr0 hr1 hc0 hc1 h hku hub hug hbt hb h20 g0 g1 hU hmx;go_enter Tryz.func28,Tryz.ntmps28;go_wp2_with ((with_reducible refine zbj (f:=66) rfl ?_);refine zbr (some 14) rfl rfl Tryz.func66 (by kernel_rfl) rfl #[.slice A1 l1.length c1] rfl (taac) ?_;(refine (spec_liUnder.calls ku A1 c1 l1 U _ ?side1 ?side2 HKU.out).mono ?_);(case side1=>exact HR1.out);(case side2=>exact HC1.out);rintro e w4 ⟨v14,rfl,ho0,hb⟩;refine ⟨_,rfl,?_⟩;have n0_:=zad (Kd.N_lower (Kd.N_mono (ok':=fun k_=>w.heap.size≤k_) ho0 (fun k_ hk_=>(Nat.le_trans (zbo (taaa)) hk_))) (zbo (taaa)));have n1_:=zad (zbi (taaa) hb);clear HB;have HO10:=n0_;have HB:=n1_;clear n0_ n1_ hb ho0;obtain ⟨Au,cu,eo5⟩:=Kd.N_slice HO10.out;subst eo5)
   go_loopg [5,16] U.length (fun gg v5 v16 w'=>∃ (j:Nat),v16 = .int .i64 (j:Int)∧j≤U.length∧U.length - j≤gg∧Aside0 (Kd.N (Kd.slice 3 (Kd.int .i64)) 24 w' w.heap.size (fun k_=>(w.heap.size≤k_)∧some k_≠((.slice Au U.length cu):Value).ownBlock) v5 ((U.take j).filter (majB l0)))∧Aside0 (Kd.N (Kd.slice 3 (Kd.int .i64)) 24 w' w.heap.size (fun k_=>(w.heap.size≤k_)∧some k_≠(v5:Value).ownBlock) (.slice Au U.length cu) U)∧Aside0 (Below w.heap.size w w'))
   case atStart=>exact ⟨0,rfl,Nat.zero_le _,by omega,⟨by first | exact Kd.N_nil _ _ _ _ _⟩,⟨by (with_reducible repeat (first | apply Kd.N_alloc | apply Kd.N_drewN | apply Kd.N_drew));exact Kd.N_mono HO10.out (fun _ hk=>⟨hk,(by simp [Value.ownBlock])⟩)⟩,⟨(taaa)⟩⟩
   case round =>
    obtain ⟨j,rfl,hj,hg',HO_3,HO_10,HB⟩:=hrel;have hubl:=HUB.out;by_cases hlt:j<U.length
    ·have c0b:decide ((j:Int)<(U.length:Int))=true:=zba (by omega)
     have q0:(0≤(j:Int))=True:=eq_true (by omega);have q1:((j:Int)<(U.length:Int))=True:=eq_true (by omega);obtain ⟨ad200,A200_0,c200_0,e200,hx200_0,hl200_0,hi200_0⟩:=at_L2 (Kd.N_reads' HO_10.out).2.2 (j:Int) (by omega) (by omega);cases e200;obtain ⟨ce200,hce200,hMe200,hcc200⟩:=Kd.N_get HO_10.out [] (j:Int) (by omega) (by omega);obtain ⟨ua200_0,uc200_0,rfl,ul200_0,ge200_0⟩:=Kd.FK_slice_open hMe200;have hv200_0:=hcc200 0 _ rfl;rw [Nat.add_zero,show ((Kd.slice 3 (Kd.int .i64))).sz=1 from rfl,Nat.mul_one] at hv200_0
     replace hv200_0:=zbg (hv200_0.symm.trans hx200_0);injection hv200_0 with hva_ hvn_ hvc_
     rw [hva_] at ge200_0
     rw [hvc_] at ul200_0
     have HL200_0:=zad (show Kd.V (Kd.int .i64) 3 _ w.heap.size _ _ (rd_L2 U (j:Int)) from Kd.V_mk ul200_0 ge200_0);clear hva_ hvn_ hvc_ ge200_0 ul200_0 hcc200 hce200;rw [Int.toNat_natCast] at hx200_0
     have HR200_0:=zad hi200_0;have HC200_0:=zad hl200_0;clear hi200_0 hl200_0;have hz:rd_L2 U (j:Int)=U[j]:=rd_L1n hlt;have hsn:=filt_snoc (p:=majB l0) hlt;obtain ⟨_,hsm,_,_,_⟩:=HUG.out _ (List.getElem_mem hlt);obtain ⟨kl,hkl⟩:=Ev.get (liBelow_ev l0 U[j] (good_sm HG0.out) hsm);rw [← hz] at hsn hkl
     have hfl:((U.take j).filter (majB l0)).length≤852891037441:=Nat.le_trans (List.length_filter_le _ _) (by rw [zax];have:=HUB.out;omega);have LMc11:=zad hfl;have A9:=zad hkl;clear hkl hsm hz hfl;by_cases cm:majB l0 (rd_L2 U (j:Int))=true
     ·rw [if_pos cm] at hsn
      rw [cm] at A9
      obtain ⟨y202,hy202⟩:∃ y_:List (List Int),y_=((U.take j).filter (majB l0) ++ [rd_L2 U (j:Int)]):=⟨_,rfl⟩;rw [← hy202] at hsn
      have Ny202:=zad hy202;have HSN:=zad hsn;clear hy202 hsn cm;go_wp2_with (first | ((with_reducible refine zbj (f:=48) rfl ?_);refine zbr (some 22) rfl rfl Tryz.func48 (by kernel_rfl) rfl #[.slice A0 l0.length c0,.slice A200_0 (rd_L2 U (j:Int)).length c200_0] rfl (taac) ?_;(with_reducible refine (spec_liBelow.calls kl _ _ l0 _ _ (rd_L2 U (j:Int)) true _ ?side1 ?side2 ?side3 ?side4 A9.out).mono ?_);(case side1=>exact tahr);(case side2=>exact HC0.out);(case side3=>exact tais);(case side4=>exact HC200_0.out);rintro e w12 ⟨rfl,hb⟩;refine ⟨_,rfl,?_⟩;have n0_:=zad (Kd.N_below (tabr) hb);have n1_:=zad (Kd.N_below (tabc) hb);have n2_:=zad (Kd.V_below (by (with_reducible repeat (first | apply zbc | apply zbd | apply zbe));exact HL200_0.out) hb);have n3_:=zad (Kd.C_below (taen) hb);have n4_:=zad (zbi (taaa) hb);clear HO_3 HO_10 HL200_0 HR200_0 HB;have HO_3:=n0_;have HO_10:=n1_;have HL200_0:=n2_;have HR200_0:=n3_;have HB:=n4_;clear n0_ n1_ n2_ n3_ n4_;(try clear hb)) | ((with_reducible refine gate_builtin (b := .append) (xs:=#[.tmp 23,.tmp 25]) rfl ?_);at_builtin;refine Kd.N_append (Kd.slice 3 (Kd.int .i64)) (w0:=w) w.heap.size rfl (.tmp 23) (.tmp 25) 39 24 (.slice none 0 0) 24 rfl Tryz.underlying39 info24 rfl (by decide) (by omega) u5 ((U.take j).filter (majB l0)) (rd_L2 U (j:Int)) [.slice A200_0 (rd_L2 U (j:Int)).length c200_0] (fun k_=>(w.heap.size≤k_)∧some k_≠(.slice (some ad200) U.length cu:Value).ownBlock) (fun k_=>((fun k_=>(w.heap.size≤k_)∧some k_≠(.slice (some ad200) U.length cu:Value).ownBlock)) k_∧some k_≠(u5:Value).ownBlock) rfl rfl ?aP (fun _ hk=>hk) ?aF ?aO ?aB ?aS ?aL ?_;(case aP=>exact (Kd.FK_slice_mk (Kd.V_reads' (Kd.V_mono (ok':=(fun k_=>((fun k_=>(w.heap.size≤k_)∧some k_≠(.slice (some ad200) U.length cu:Value).ownBlock)) k_∧some k_≠(u5:Value).ownBlock)) (HL200_0.out) (fun k_ hk=>⟨⟨hk.1.1,hk.2⟩,hk.1.2⟩))).2.1 (Kd.V_F (Kd.V_mono (ok':=(fun k_=>((fun k_=>(w.heap.size≤k_)∧some k_≠(.slice (some ad200) U.length cu:Value).ownBlock)) k_∧some k_≠(u5:Value).ownBlock)) (HL200_0.out) (fun k_ hk=>⟨⟨hk.1.1,hk.2⟩,hk.1.2⟩)))));(case aB=>exact (taaa));(case aF=>exact (fun k_ hk=>⟨(Nat.le_trans (zbo (taaa)) hk),Kd.fresh' (Kd.N_lt (tabc)) k_ hk⟩));(case aO=>exact (tabr));(case aS=>exact (zbo (taaa)));(case aL=>have:=LMc11.out;omega);intro v203 w13 ho hb hg hat;rw [← Ny202.out] at ho;have n0_:=zad (Kd.N_afterv (ok:=(fun k_=>(w.heap.size≤k_))) (tabc) hg hat);have n2_:=zad (hb);have n3_:=zad (ho);clear HO_10 HL200_0 HB HO_3;have HO_10:=n0_;have HB:=n2_;have HO204:=n3_;clear n0_ n2_ n3_ ho hb hg hat))
      go_roundg (U.length - (j+1))
      case measure=>omega
      case rel=>exact ⟨j+1,by go_num,by omega,by omega,⟨by rw [HSN.out];(with_reducible repeat (first | apply Kd.N_alloc | apply Kd.N_drewN | apply Kd.N_drew));exact HO204.out⟩,⟨tabc⟩,⟨(taaa)⟩⟩
     ·rw [if_neg cm] at hsn
      rw [zbk.2 cm] at A9
      have HSN:=zad hsn;clear hsn cm;go_wp2_with ((with_reducible refine zbj (f:=48) rfl ?_);refine zbr (some 22) rfl rfl Tryz.func48 (by kernel_rfl) rfl #[.slice A0 l0.length c0,.slice A200_0 (rd_L2 U (j:Int)).length c200_0] rfl (taac) ?_;(with_reducible refine (spec_liBelow.calls kl _ _ l0 _ _ (rd_L2 U (j:Int)) false _ ?side1 ?side2 ?side3 ?side4 A9.out).mono ?_);(case side1=>exact tahr);(case side2=>exact HC0.out);(case side3=>exact tais);(case side4=>exact HC200_0.out);rintro e w12 ⟨rfl,hb⟩;refine ⟨_,rfl,?_⟩;have n0_:=zad (Kd.N_below (tabr) hb);have n1_:=zad (Kd.N_below (tabc) hb);have n4_:=zad (zbi (taaa) hb);clear HO_3 HO_10 HL200_0 HR200_0 HB;have HO_3:=n0_;have HO_10:=n1_;have HB:=n4_;clear n0_ n1_ n4_;(try clear hb))
      go_roundg (U.length - (j+1))
      case measure=>omega
      case rel=>exact ⟨j+1,by go_num,by omega,by omega,⟨by rw [HSN.out];(with_reducible repeat (first | apply Kd.N_alloc | apply Kd.N_drewN | apply Kd.N_drew));exact HO_3.out⟩,⟨tabc⟩,⟨(taaa)⟩⟩
    ·have c0b:decide ((j:Int)<(U.length:Int))=false:=zbl (by omega)
     obtain rfl:j=U.length:=by omega
     rw [List.take_length,← HBT.out] at HO_3;obtain ⟨hLl,hLh⟩:=btw_head HBB.out H20.out;have hLg:=fun (x:List Int) (hx:x ∈ btwL l0 l1)=>((btw_mem HBB.out H20.out).1 hx).1
     have hLw:=fun (k:Nat) (hk:k<(btwL l0 l1).length)=>way_lp HBB.out H20.out hk
     obtain ⟨L,hL⟩:∃ L,L=btwL l0 l1:=⟨_,rfl⟩;rw [← hL] at HO_3 hLl hLh hLg hLw
     obtain ⟨hLp,hL0⟩:=hLh;have HLG:=zad hLg;have HLW:=zad hLw;have HL0:=zad hL0;obtain ⟨Al,cl,e5⟩:=Kd.N_slice HO_3.out;subst e5;obtain ⟨B,hB⟩:∃ B,B=wr.heap.size:=⟨_,rfl⟩;have hBw:w.heap.size≤B:=by rw [hB];exact zbo HB.out
     clear hLg hLw hL HO_10 hg' hubl hj c0b hlt hL0;go_wp2_with ((with_reducible refine gate_dst (N:=30) rfl ?_);refine Kd.R_make (Kd.int .i64) _ 3 rfl (N:=30) rfl 24 _ _ rfl (L.length:Int) rfl rfl Tryz.underlying24 (.int .i64 0) 8 info3 rfl (by decide) (by omega) 0 (ok:=fun _=>True) (okp:=fun _=>True) rfl (fun _ hk=>hk) trivial (by omega) (by rw [Int.toNat_natCast];omega) (Below.refl _ _) (zcf _) ?_;intro v30 w5 ho5 hb5 hg5 hnew5;(rw [Int.toNat_natCast] at ho5);(obtain ⟨g,cap,e30,hgb,hgl,_⟩:=Kd.R_form ho5 (by rw [List.length_replicate];omega));(rw [List.length_replicate] at e30);subst e30;(have HLS:=zad (show ∀ W',KeepBut w5 W' g none→Kd.C (Kd.slice 3 (Kd.int .i64)) W' Al L.length L from fun W' hk'=>(Kd.N_reads' (Kd.N_keep (Kd.N_mono (ok':=fun k=>k<wr.heap.size) (Kd.N_bound HO_3.out) (fun k h=>h.2)) ((KeepBut.of_grown hg5 g).trans hk' (.inl rfl)) (fun k h e=>by subst e;omega))).2.2));(have HW5:=zad (show Kd.R (Kd.int .i64) 3 w5 B (fun _=>True) (.slice (some ⟨g,0,none⟩) L.length cap) (List.replicate L.length 0) from by rw [hB];exact ho5));have HB5:=zad (zbi (taaa) hb5);have HBG:=zad (show B≤g by omega);have HGL:=zad hgl;clear ho5 hb5 hg5 hnew5 hgb hgl HO_3 HB)
     have hGw:=zad (show w.heap.size≤g from Nat.le_trans hBw HBG.out);clear hB hBw;generalize wr=wa at *
     go_loopg [9] L.length (fun gg v9 w2=>∃ (m:Nat) (ws:List Int) (z:Int),v9 = .int .i64 z∧z=(m:Int) - 1∧m≤L.length∧m≤gg∧Aside0 (Kd.R (Kd.int .i64) 3 w2 B (fun _=>True) (.slice (some ⟨g,0,none⟩) L.length cap) ws)∧Aside0 (GB w5 w2 g)∧Aside0 (WY l0 L m ws))
     case atStart=>exact ⟨L.length,List.replicate L.length 0,_,rfl,(by first | rfl | rw [w64 (by omega) (by omega)]),zcf _,by omega,⟨by (with_reducible repeat (first | apply zai | apply zaj | apply zak));exact HW5.out⟩,⟨taeo⟩,⟨WY.start l0 L⟩⟩
     case round =>
      obtain ⟨m,ws,z,rfl,hz,hm,hmg,HWS,HGB,HWY⟩:=hrel;by_cases hm0:1≤m
      ·obtain ⟨k,rfl⟩:∃ k,m=k+1:=⟨m - 1,by omega⟩
       obtain rfl:z=(k:Int):=by omega
       clear hz hm0;have cge:decide ((k:Int)≥0)=true:=zba (by omega);have q0:(0≤(k:Int))=True:=eq_true (by omega);have q1:((k:Int)<(L.length:Int))=True:=eq_true (by omega);have hk:k<L.length:=by omega
       obtain ⟨adl,Ar,cr,hA,hcr,hrow⟩:=lw_row HLS.out (k:Int) (by omega) (by omega);subst hA;have xl:=(hrow wr (gb_keep HGB.out)).1;rw [Int.toNat_natCast] at xl
       have hxe:rd_L2 L (k:Int)=L[k]:=rd_L1n hk;have hgx:=HLG.out _ (List.getElem_mem hk);obtain ⟨kg,hkg⟩:=Ev.get (specGifts_ev L[k] (good_sm hgx));have hway:=HLW.out k hk;have hsz:=ugAll_le L[k] L[k].length 0;have h8:=((goodL_iff _).1 hgx).2.1;have hys8:L[k].length*L[k].length≤8*8:=Nat.mul_le_mul h8 h8;have hLK:=zad hxe;rw [← hxe] at hkg hway hsz h8 hys8
       obtain ⟨ys,hys⟩:∃ ys,ys=ugAll (rd_L2 L (k:Int)) 0 (rd_L2 L (k:Int)).length:=⟨_,rfl⟩;rw [← hys] at hkg hway hsz
       have hyl:ys.length≤64:=by omega
       have HKG:=zad hkg;have HWAY:=zad hway;have HROW:=zad hrow;have HCR:=zad hcr;have hgr:g<wr.heap.size:=Nat.lt_of_lt_of_le HGL.out HGB.out.size;have HGR:=zad hgr;clear hkg hway hrow hcr hys hsz h8 hys8 hgx hxe hgr;generalize rd_L2 L (k:Int)=x at *
       go_wp2_with ((with_reducible refine zbj (f:=67) rfl ?_);refine zbr (some 42) rfl rfl Tryz.func67 (by kernel_rfl) rfl #[.slice Ar x.length cr] rfl (taac) ?_;(refine (spec_liGifts.calls kg Ar cr x ys _ ?side1 ?side2 HKG.out).mono ?_);(case side1=>exact (HROW.out _ (gb_keep (by repeat (first | exact HGB.out | apply gb_drewN)))).2);(case side2=>exact HCR.out);rintro e w6 ⟨v42,rfl,ho6,hb6⟩;refine ⟨_,rfl,?_⟩;(obtain ⟨Ag,cg,rfl⟩:=Kd.S_slice ho6);(have HYS:=zad (show ∀ W',KeepBut w6 W' g none→Kd.C (Kd.slice 3 (Kd.int .i64)) W' Ag ys.length ys from fun W' hk'=>(Kd.S_reads' (Kd.S_keep (Kd.S_mono (ok':=fun k=>wr.heap.size≤k) (Kd.S_bound ho6) (fun k h=>by have:=h.2.1;first | exact this | simpa using this)) hk' (fun k h e=>by have:=HGR.out;subst e;omega))).2.2));have HW6:=zad (zbx (by (with_reducible repeat (first | apply zai | apply zaj | apply zak));exact HWS.out) hb6);have HG6:=zad (gb_trans (by repeat (first | exact HGB.out | apply gb_drewN)) (gb_below hb6));clear ho6 hb6 HWS HGB)
       have hwk:=HWY.out.lo k (by omega);have HWK:=zad hwk;clear hwk HROW HCR;generalize wr=wb at *
       go_loopg [44] ys.length (fun gg v44 w3=>∃ (i:Nat) (ws3:List Int),v44 = .int .i64 (i:Int)∧i≤ys.length∧ys.length - i≤gg∧Aside0 (Kd.R (Kd.int .i64) 3 w3 B (fun _=>True) (.slice (some ⟨g,0,none⟩) L.length cap) ws3)∧Aside0 (GB w6 w3 g)∧Aside0 (WZ ws ws3 k ((ys.take i).foldl (wayF l0 (L.drop (k+1))) 0)))
       case atStart=>exact ⟨0,ws,rfl,Nat.zero_le _,by omega,⟨by (with_reducible repeat (first | apply zai | apply zaj | apply zak));exact HW6.out⟩,⟨taeo⟩,⟨WZ.refl HWK.out⟩⟩
       case round =>
        obtain ⟨i,ws3,rfl,hi,hig,HW3,HG3,HZ3⟩:=hrel;by_cases hil:i<ys.length
        ·have c44:decide ((i:Int)<(ys.length:Int))=true:=zba (by omega)
         have q2:(0≤(i:Int))=True:=eq_true (by omega);have q3:((i:Int)<(ys.length:Int))=True:=eq_true (by omega);obtain ⟨ady,Ay,cy,hAy,hcy,hrowy⟩:=lw_row HYS.out (i:Int) (by omega) (by omega);subst hAy;have xy:=(hrowy wr (gb_keep HG3.out)).1;rw [Int.toNat_natCast] at xy
         have hye:rd_L2 ys (i:Int)=ys[i]:=rd_L1n hil;have hsn:=way_snoc (a:=l0) (R:=L.drop (k+1)) hil 0;rw [← hye] at hsn
         have HSN3:=zad hsn;have HROWY:=zad hrowy;have HCY:=zad hcy;obtain ⟨v,hv⟩:∃ v,v=(ys.take i).foldl (wayF l0 (L.drop (k+1))) 0:=⟨_,rfl⟩;rw [← hv] at HZ3 HSN3
         have HV:=zad (show 0≤v∧v≤30000 from by rw [hv];exact way_nn _ (fun y hy=>HLG.out y (List.mem_of_mem_drop hy)) _ 0 (by omega) (by omega));clear hrowy hcy hsn hye hv;generalize rd_L2 ys (i:Int)=y at *
         go_wp2
         generalize wr=wc at *
         go_loopg [12] L.length (fun gg v12 w4=>∃ (j:Nat) (ws4:List Int),v12 = .int .i64 (j:Int)∧k+1≤j∧j≤L.length∧L.length - j≤gg∧Aside0 (Kd.R (Kd.int .i64) 3 w4 B (fun _=>True) (.slice (some ⟨g,0,none⟩) L.length cap) ws4)∧Aside0 (GB w6 w4 g)∧Aside0 (WZ ws ws4 k (wayF l0 ((L.drop (k+1)).take (j - (k+1))) v y)))
         case atStart=>exact ⟨k+1,ws3,by go_num,zcf _,by omega,by omega,⟨tagk⟩,⟨by repeat (first | exact HG3.out | apply gb_drewN)⟩,⟨by rw [Nat.sub_self,way_zero];exact HZ3.out⟩⟩
         case round =>
          obtain ⟨j,ws4,rfl,hkj,hj,hjg,HW4,HG4,HZ4⟩:=hrel;by_cases hjl:j<L.length
          ·have c12:decide ((j:Int)<(L.length:Int))=true:=zba (by omega)
           have q4:(0≤(j:Int))=True:=eq_true (by omega);have q5:((j:Int)<(L.length:Int))=True:=eq_true (by omega);obtain ⟨adj,Aj,cj,hAj,hcj,hrowj⟩:=lw_row HLS.out (j:Int) (by omega) (by omega);obtain rfl:=zbg hAj;have xj:=(hrowj wr (gb_keep (gb_trans HG6.out HG4.out))).1;rw [Int.toNat_natCast] at xj
           have hje:rd_L2 L (j:Int)=L[j]:=rd_L1n hjl;have hgj:=HLG.out _ (List.getElem_mem hjl);have hwt:=way_take (a:=l0) (R:=L.drop (k+1)) (m:=j - (k+1)) (by rw [zaw];omega) v y;have hRe:(L.drop (k+1))[j - (k+1)]'(by rw [zaw];omega)=L[j]:=by
            rw [List.getElem_drop];congr 1
            omega
           rw [hRe] at hwt
           obtain ⟨kq,hkq⟩:=Ev.get (l1Same_ev L[j] y (by have:=((goodL_iff _).1 hgj).2.1;omega));have hrj:=HWY.out.hi j hjl (by omega);have hoth:=HZ4.out.oth j (by omega);have hlj0:=lp_nn (a:=l0) hgj;have hlj1:=lp_le (a:=l0) hgj;rw [← hje] at hwt hkq hrj hlj0 hlj1
           have HWT:=zad hwt;have HKQ:=zad hkq;have HRJ:=zad (hoth.trans hrj);have HLJ:=zad (And.intro hlj0 hlj1);have HROWJ:=zad hrowj;have HCJ:=zad hcj;clear hwt hkq hrj hoth hlj0 hlj1 hrowj hcj hAj hRe hgj hje;generalize rd_L2 L (j:Int)=xq at *
           by_cases hsame:xq=y
           ·rw [zba hsame] at HKQ
            rw [if_pos hsame] at HWT;obtain ⟨vk,hvk⟩:∃ vk,vk=rd ws4 (k:Int):=⟨_,rfl⟩;obtain ⟨vj,hvj⟩:∃ vj,vj=rd ws4 (j:Int):=⟨_,rfl⟩;have hxk:wr.cell? ⟨g,k,none⟩=some (.int .i64 vk)∧wr.frozen? ⟨g,k,none⟩=false:=by
             have h1:=Kd.R_celln 0 HW4.out (k:Int) (by omega) (by omega);rw [Int.toNat_natCast] at h1
             rw [hvk];exact h1
            have hxj:wr.cell? ⟨g,j,none⟩=some (.int .i64 vj):=by
             have h1:=(Kd.R_celln 0 HW4.out (j:Int) (by omega) (by omega)).1;rw [Int.toNat_natCast] at h1
             rw [hvj];exact h1
            obtain ⟨hxk,hfk⟩:=hxk;have hvj2:vj=lp l0 xq:=by rw [hvj];exact HRJ.out
            have hvk2:vk=wayF l0 ((L.drop (k+1)).take (j - (k+1))) v y:=by rw [hvk];exact HZ4.out.here
            obtain ⟨u,hu⟩:∃ u,u=max vk (vj+1):=⟨_,rfl⟩;have HMOST:=zad (show spec_l1Most.f vk (vj+1)=some u from by rw [hu];exact l1Most_eq _ _);have hwq:IntKind.i64.wrap (vj+1)=vj+1:=by
             have h1:=HLJ.out;rw [i64_w];exact w64 (by omega) (by omega)
            have HU2:=zad (show u=wayF l0 ((L.drop (k+1)).take (j+1 - (k+1))) v y from by
             rw [show j+1 - (k+1)=j - (k+1)+1 by omega,HWT.out,hu,hvk2,hvj2,hsame])
            have HZ6:=zad (show WZ ws (ws4.set k u) k u from WZ.put HZ4.out (by have:=HWY.out.len;omega) u);have HPUT:=zad (show ∀ W2,Below wr.heap.size wr W2→Kd.R (Kd.int .i64) 3 (W2.setCell ⟨g,k,none⟩ (.int .i64 u)) B (fun _=>True) (.slice (some ⟨g,0,none⟩) L.length cap) (ws4.set k u)∧GB wr (W2.setCell ⟨g,k,none⟩ (.int .i64 u)) g from fun W2 hW2=>by
             have h1:=Kd.R_putg (zbx HW4.out hW2) (k:Int) u;rw [Int.toNat_natCast] at h1
             exact ⟨h1.1,gb_trans (gb_below hW2) h1.2⟩)
            have HBR:=zad (Below.refl wr.heap.size wr);clear HWT hu hvk hvj hvj2 hvk2 hsame HLJ HRJ;go_upto_region 19 with ((with_reducible refine zbj (f:=68) rfl ?_);refine zbr (some 61) rfl rfl Tryz.func68 (by kernel_rfl) rfl #[.slice Aj xq.length cj,.slice Ay y.length cy] rfl (taac) ?_;(refine (spec_l1Same.calls kq Aj cj xq Ay cy y true _ ?side1 ?side2 ?side3 ?side4 HKQ.out).mono ?_);(case side1=>exact (HROWJ.out _ (gb_keep (gb_trans HG6.out (tach)))).2);(case side2=>exact HCJ.out);(case side3=>exact (HROWY.out _ (gb_keep (tach))).2);(case side4=>exact HCY.out);rintro e w' ⟨rfl,⟨nd,rfl⟩⟩;refine ⟨_,rfl,?_⟩)
            go_region_law ((with_reducible refine gateS_ 73 rfl ?_);refine goes_ Tryz.func69 (by kernel_rfl) rfl #[.int .i64 vk,.int .i64 (vj+1)] (by rfl) rfl rfl (tabt) ?_;(refine (spec_l1Most.calls vk (vj+1) u _ HMOST.out).mono ?_);rintro e w' ⟨rfl,⟨nd2,rfl⟩⟩;refine ⟨_,rfl,?_⟩)
            all_goals
             go_wp2
             go_roundg (L.length - (j+1))
             case measure=>omega
             case rel=>exact ⟨j+1,ws4.set k u,by go_num,by omega,by omega,by omega,⟨(HPUT.out _ (tadj)).1⟩,⟨gb_trans HG4.out (HPUT.out _ (tadj)).2⟩,⟨by rw [← HU2.out];exact HZ6.out⟩⟩
           ·rw [zbl hsame] at HKQ
            rw [if_neg hsame] at HWT;have HWT2:=zad (show wayF l0 ((L.drop (k+1)).take (j+1 - (k+1))) v y=wayF l0 ((L.drop (k+1)).take (j - (k+1))) v y from by rw [show j+1 - (k+1)=j - (k+1)+1 by omega];exact HWT.out);clear HWT;go_wp2_with ((with_reducible refine zbj (f:=68) rfl ?_);refine zbr (some 61) rfl rfl Tryz.func68 (by kernel_rfl) rfl #[.slice Aj xq.length cj,.slice Ay y.length cy] rfl (taac) ?_;(refine (spec_l1Same.calls kq Aj cj xq Ay cy y false _ ?side1 ?side2 ?side3 ?side4 HKQ.out).mono ?_);(case side1=>exact (HROWJ.out _ (gb_keep (gb_trans HG6.out (tach)))).2);(case side2=>exact HCJ.out);(case side3=>exact (HROWY.out _ (gb_keep (tach))).2);(case side4=>exact HCY.out);rintro e w' ⟨rfl,⟨nd,rfl⟩⟩;refine ⟨_,rfl,?_⟩)
            go_roundg (L.length - (j+1))
            case measure=>omega
            case rel=>exact ⟨j+1,ws4,by go_num,by omega,by omega,by omega,⟨tagl⟩,⟨tach⟩,⟨by rw [HWT2.out];exact HZ4.out⟩⟩
          ·have c12:decide ((j:Int)<(L.length:Int))=false:=zbl (by omega)
           obtain rfl:j=L.length:=by omega
           have HZ5:=zad (show WZ ws ws4 k ((ys.take (i+1)).foldl (wayF l0 (L.drop (k+1))) 0) from by
            rw [HSN3.out];have h1:=HZ4.out;rw [List.take_of_length_le (by rw [zaw];omega)] at h1
            exact h1)
           go_wp2
           go_roundg (ys.length - (i+1))
           case measure=>omega
           case rel=>exact ⟨i+1,ws4,by go_num,by omega,by omega,⟨tagl⟩,⟨tach⟩,⟨HZ5.out⟩⟩
        ·have c44:decide ((i:Int)<(ys.length:Int))=false:=zbl (by omega)
         have HZ5:=zad (show WY l0 L k ws3 from by
          refine WY.step HWY.out hk ?_
          have h1:=HZ3.out;rw [List.take_of_length_le (by omega),HWAY.out] at h1
          rw [← hLK.out];exact h1)
         go_wp2
         go_roundg k
         case measure=>omega
         case rel=>exact ⟨k,ws3,_,rfl,(by first | rfl | rw [w64 (by omega) (by omega)]),by omega,by omega,⟨tagk⟩,⟨by repeat (first | exact gb_trans HG6.out HG3.out | apply gb_drewN)⟩,⟨HZ5.out⟩⟩
      ·obtain rfl:m=0:=by omega
       obtain rfl:z = -1:=by omega
       clear hz hm hmg hm0;have p1:((0:Int)<(L.length:Int))=True:=eq_true (by omega);have hx0:wr.cell? ⟨g,0,none⟩=some (.int .i64 (lp l0 (descL l1))):=by
        have h1:=(Kd.R_celln 0 HWS.out (0:Int) (by omega) (by omega)).1;have h2:=HWY.out.hi 0 hLp (by omega);rw [HL0.out] at h2
        rw [← h2];exact h1
       clear HWS;go_wp2
       go_ret
       exact ⟨rfl,below_gb HB5.out HGB.out hGw.out⟩
  next=>cases h
 next=>cases h
def spec_LongestPath.f (k:Nat) (l0:List Int) (l1:List Int):Option (Int × Bool):=(spec_giLists.f k l0 l1).bind fun t389=>(if t389=true then ((spec_liSum.f k l0).bind fun t390=>(if t390>20 then (some (0,false)) else ((spec_giLongest.f l0 l1).bind fun t391=>(some (t391,true))))) else (some (0,false)))
theorem spec_LongestPath.calls (k:Nat) (A0:Option Addr) (c0:Nat) (l0:List Int) (A1:Option Addr) (c1:Nat) (l1:List Int) (r1:Int) (r2:Bool) (w:World) (hr0:Kd.C (Kd.int .i64) w A0 l0.length l0) (hc0:l0.length≤c0) (hr1:Kd.C (Kd.int .i64) w A1 l1.length l1) (hc1:l1.length≤c1) (h:spec_LongestPath.f k l0 l1=some (r1,r2)) :
 Calls Tryz.prog 7 #[.slice A0 l0.length c0,.slice A1 l1.length c1] w fun e w'=>e = .returned (.tuple #[.int .i64 r1,.bool r2])∧Below w.heap.size w w':=by
 have HR0:=zad hr0;have HC0:=zad hc0;clear hr0 hc0;have HR1:=zad hr1;have HC1:=zad hc1;clear hr1 hc1;have HB:=zad (Below.refl w.heap.size w);have H:((spec_giLists.f k l0 l1).bind fun t389=>(if t389=true then ((spec_liSum.f k l0).bind fun t390=>(if t390>20 then (some (0,false)) else ((spec_giLongest.f l0 l1).bind fun t391=>(some (t391,true))))) else (some (0,false))))=some (r1,r2):=h;clear h;replace H:=zay.mp H;obtain ⟨t389,A30,H⟩:=H;replace H:(if t389=true then ((spec_liSum.f k l0).bind fun t390=>(if t390>20 then (some (0,false)) else ((spec_giLongest.f l0 l1).bind fun t391=>(some (t391,true))))) else (some (0,false)))=some (r1,r2):=H;have A3:=zad A30;clear A30;by_cases c4:t389=true
 ·subst c4
  have H1:((spec_liSum.f k l0).bind fun t390=>(if t390>20 then (some (0,false)) else ((spec_giLongest.f l0 l1).bind fun t391=>(some (t391,true)))))=some (r1,r2):=by rw [if_pos rfl] at H;exact H
  clear H;have H:=H1;clear H1;replace H:=zay.mp H;obtain ⟨t390,A50,H⟩:=H;replace H:(if t390>20 then (some (0,false)) else ((spec_giLongest.f l0 l1).bind fun t391=>(some (t391,true))))=some (r1,r2):=H;have A5:=zad A50;clear A50;by_cases c6:t390>20
  ·rw [if_pos c6] at H
   have c6b0:decide (20<t390)=true:=zba c6;clear c6;simp only [zbp,zbt] at H;obtain ⟨rfl,rfl⟩:=H;go_enter Tryz.func7,Tryz.ntmps7;go_wp2_with (first | ((with_reducible refine zbj (f:=26) rfl ?_);refine zbr (some 8) rfl rfl Tryz.func26 (by kernel_rfl) rfl #[.slice A0 l0.length c0,.slice A1 l1.length c1] rfl (taac) ?_;(with_reducible refine (spec_giLists.calls k _ _ l0 _ _ l1 true _ ?side1 ?side2 ?side3 ?side4 A3.out).mono ?_);(case side1=>exact tahq);(case side2=>exact HC0.out);(case side3=>exact tahu);(case side4=>exact HC1.out);rintro e w7 ⟨rfl,hb⟩;refine ⟨_,rfl,?_⟩;have n0_:=zad (zbi (taaa) hb);clear HB;have HB:=n0_;clear n0_;(try clear hb);(try clear hb2);(try clear hk);(try clear hi)) | (go_at_call 27;(with_reducible refine (spec_liSum.calls k _ _ l0 t390 _ ?side1 ?side2 A5.out).mono ?_);(case side1=>exact tahr);(case side2=>exact HC0.out);rintro e w' ⟨rfl,⟨nd,rfl⟩⟩))
   go_ret2
   exact ⟨taah,taaa⟩
  ·rw [if_neg c6] at H
   have c6b0:decide (20<t390)=false:=zbl c6;clear c6;replace H:=zay.mp H;obtain ⟨t391,A80,H⟩:=H;replace H:(some (t391,true))=some (r1,r2):=H;have A8:=zad A80;clear A80;simp only [zbp,zbt] at H;obtain ⟨rfl,rfl⟩:=H;go_enter Tryz.func7,Tryz.ntmps7;go_wp2_with (first | ((with_reducible refine zbj (f:=26) rfl ?_);refine zbr (some 8) rfl rfl Tryz.func26 (by kernel_rfl) rfl #[.slice A0 l0.length c0,.slice A1 l1.length c1] rfl (taac) ?_;(with_reducible refine (spec_giLists.calls k _ _ l0 _ _ l1 true _ ?side1 ?side2 ?side3 ?side4 A3.out).mono ?_);(case side1=>exact tahq);(case side2=>exact HC0.out);(case side3=>exact tahu);(case side4=>exact HC1.out);rintro e w9 ⟨rfl,hb⟩;refine ⟨_,rfl,?_⟩;have n0_:=zad (zbi (taaa) hb);clear HB;have HB:=n0_;clear n0_;(try clear hb);(try clear hb2);(try clear hk);(try clear hi)) | (go_at_call 27;(with_reducible refine (spec_liSum.calls k _ _ l0 t390 _ ?side1 ?side2 A5.out).mono ?_);(case side1=>exact tahr);(case side2=>exact HC0.out);rintro e w' ⟨rfl,⟨nd,rfl⟩⟩) | ((with_reducible refine zbj (f:=28) rfl ?_);refine zbr (some 17) rfl rfl Tryz.func28 (by kernel_rfl) rfl #[.slice A0 l0.length c0,.slice A1 l1.length c1] rfl (taac) ?_;(with_reducible refine (spec_giLongest.calls _ _ l0 _ _ l1 t391 _ ?side1 ?side2 ?side3 ?side4 A8.out).mono ?_);(case side1=>exact taij);(case side2=>exact HC0.out);(case side3=>exact taip);(case side4=>exact HC1.out);rintro e w10 ⟨rfl,hb⟩;refine ⟨_,rfl,?_⟩;have n0_:=zad (zbi (taaa) hb);clear HB;have HB:=n0_;clear n0_;(try clear hb);(try clear hb2);(try clear hk);(try clear hi)))
   go_ret2
   exact ⟨taah,taaa⟩
 ·replace c4:=zbk.mpr c4
  subst c4;have H1:(some (0,false))=some (r1,r2):=by rw [if_neg (show ¬ (false=true) by decide)] at H;exact H
  clear H;have H:=H1;clear H1;simp only [zbp,zbt] at H;obtain ⟨rfl,rfl⟩:=H;go_enter Tryz.func7,Tryz.ntmps7;go_wp2_with (first | ((with_reducible refine zbj (f:=26) rfl ?_);refine zbr (some 8) rfl rfl Tryz.func26 (by kernel_rfl) rfl #[.slice A0 l0.length c0,.slice A1 l1.length c1] rfl (taac) ?_;(with_reducible refine (spec_giLists.calls k _ _ l0 _ _ l1 false _ ?side1 ?side2 ?side3 ?side4 A3.out).mono ?_);(case side1=>exact tahq);(case side2=>exact HC0.out);(case side3=>exact tahu);(case side4=>exact HC1.out);rintro e w11 ⟨rfl,hb⟩;refine ⟨_,rfl,?_⟩;have n0_:=zad (zbi (taaa) hb);clear HB;have HB:=n0_;clear n0_;(try clear hb);(try clear hb2);(try clear hk);(try clear hi)))
  go_ret2
  exact ⟨taah,taaa⟩
def spec_DrawLevelOff.f (k:Nat) (l0:List Int):Option (List Int):=(spec_l1Cur_anyList.f k l0 0 0 20).bind fun bt393=>(some bt393.1)
theorem spec_DrawLevelOff.calls (k:Nat) (A0:Option Addr) (c0:Nat) (l0:List Int) (r:List Int) (w:World) (hr0:Kd.C (Kd.int .u8) w A0 l0.length l0) (hc0:l0.length≤c0) (h:spec_DrawLevelOff.f k l0=some r) :
 Calls Tryz.prog 8 #[.slice A0 l0.length c0] w fun e w'=>∃ v0_:Value,e = .returned (v0_)∧Kd.R (Kd.int .i64) 3 w' w.heap.size (fun _=>True) v0_ r∧Below w.heap.size w w':=by
 have hu45:=Tryz.underlying45;have HR0:=zad hr0;have HC0:=zad hc0;clear hr0 hc0;have HB:=zad (Below.refl w.heap.size w);have H:((spec_l1Cur_anyList.f k l0 0 0 20).bind fun bt393=>(some bt393.1))=some r:=h;clear h;replace H:=zay.mp H;obtain ⟨⟨t393,t396,t397⟩,A20,H⟩:=H;replace H:(some t393)=some r:=H;have A2:=zad A20;clear A20;obtain rfl:=zbg H;go_enter Tryz.func8,Tryz.ntmps8;go_wp2_with (first | ((with_reducible refine gate_dst (N:=6) rfl ?_);refine box_event ?hg (N:=6) ?hd (cs:=#[.slice A0 l0.length c0,.int .i64 0,.int .u64 0]) (t:=45) ?hr ?_;(case hd=>rfl);(case hg=>rfl);(case hr=>first | (go_simp;done) | (go_simp;rfl));intro gb392 hg w3 hbox hb;have n0_:=zad (zbi (taaa) hb);have n1_:=zad ((show IsS45 w w3 gb392 l0 0 0 from ⟨_,_,hbox,(tahi),HR0.out⟩));clear HB;have HB:=n0_;have HI392:=n1_;clear n0_ n1_ hb hbox hg) | ((with_reducible refine zbj (f:=29) rfl ?_);refine zbr (some 8) rfl rfl Tryz.func29 (by kernel_rfl) rfl #[.pointer (some ⟨gb392,0,none⟩),.int .i64 20] rfl (taac) ?_;(with_reducible refine (spec_l1Cur_anyList.calls k gb392 l0 0 0 20 t393 t396 t397 w _ ?side1 ?side2 A2.out).mono ?_);(case side1=>repeat (first | (with_reducible first | exact HI392.out | apply zcg | apply zch | apply zci | apply zcl | apply zcm) | exact HI392.out));(case side2=>repeat (first | (with_reducible first | exact HB.out | apply zag | apply zae | apply zaf | refine zah ?_ (zck HI392.out)) | exact HB.out));rintro e w4 ⟨v394,rfl,ho0,hi,hb,hk⟩;refine ⟨_,rfl,?_⟩;have n0_:=zad (zby ho0 (zbo (tagm)));have n1_:=zad (hb);have n2_:=zad (hi);clear HB HI392;have HO395:=n0_;have HB:=n1_;have HI392:=n2_;clear n0_ n1_ n2_;(try clear hb);(try clear hb2);(try clear hk);(try clear hi);(try clear ho0)))
 go_ret
 exact ⟨_,taah,by (with_reducible repeat (first | apply zai | apply zaj | apply zak));exact HO395.out,tagm⟩
def slices_Equal_int_int.l0:Nat→List Int→List Int→Int→Int→Option (Bool)
 | 0,_,_,_,_=>none
 | k+1,x0,x1,x12,x13=>if x13<x12 then (if 0≤x13 then (if x13<(x0.length:Int) then (if x13<(x1.length:Int) then (if (rd x0 x13)=(rd x1 x13) then (slices_Equal_int_int.l0 k x0 x1 x12 (wrap64 (x13+1))) else (some false)) else (none)) else (none)) else (none)) else (some true)
def slices_Equal_int_int.f (k:Nat) (l0:List Int) (l1:List Int):Option (Bool):=if (l0.length:Int)=(l1.length:Int) then (slices_Equal_int_int.l0 k l0 l1 (l0.length:Int) 0) else (some false)
theorem slices_Equal_int_int.calls (k:Nat) (A0:Option Addr) (c0:Nat) (l0:List Int) (A1:Option Addr) (c1:Nat) (l1:List Int) (r:Bool) (w:World) (hr0:Kd.C (Kd.int .i64) w A0 l0.length l0) (hc0:l0.length≤c0) (hr1:Kd.C (Kd.int .i64) w A1 l1.length l1) (hc1:l1.length≤c1) (h:slices_Equal_int_int.f k l0 l1=some r) :
 Calls Tryz.prog 44 #[.slice A0 l0.length c0,.slice A1 l1.length c1] w fun e w'=>e = .returned (.bool r)∧Drawn0 w w':=by
 have HR0:=zad hr0;have HC0:=zad hc0;clear hr0 hc0;have HR1:=zad hr1;have HC1:=zad hc1;clear hr1 hc1;have H:(if (l0.length:Int)=(l1.length:Int) then (slices_Equal_int_int.l0 k l0 l1 (l0.length:Int) 0) else (some false))=some r:=h;clear h;by_cases c3:(l0.length:Int)=(l1.length:Int)
 ·rw [if_pos c3] at H
  have c3b0:((l0.length:Int) == (l1.length:Int))=true:=beq_iff_eq.mpr c3;have c3b1:((l0.length:Int) != (l1.length:Int))=false:=bne_eq_false_iff_eq.mpr c3;have c3b2:(l0.length == l1.length)=true:=by first | simpa using c3 | (simp at c3 ⊢;omega)
  clear c3;have H':=zad H;clear H;go_enter Tryz.func44,Tryz.ntmps44;go_wp2
  repeat (go_quiet (fail);try go_wp2)
  go_loopg [13] k (fun kq v13 w'=>∃ (x13_1:Int),v13 = .int .i64 x13_1∧Aside0 (slices_Equal_int_int.l0 kq l0 l1 (l0.length:Int) x13_1=some r)∧Aside0 (kq≤k)∧Drawn0 w w')
  case atStart=>exact ⟨(0),(taae),H',⟨zcf _⟩,taak⟩
  case round =>
   clear H';try clear c1
   try clear p2
   try clear c3
   try clear c3b0
   try clear c3b1
   try clear c3b2
   obtain ⟨x13_1,rfl,HA,HK1,⟨m1,rfl⟩⟩:=hrel;cases gk with
   | zero=>exact absurd HA.out (by simp [slices_Equal_int_int.l0])
   | succ k1 =>
    have H:=HA.out;clear HA;simp only [slices_Equal_int_int.l0] at H;by_cases c4:x13_1<(l0.length:Int)
    ·rw [if_pos c4] at H
     have c4b0:decide (x13_1<(l0.length:Int))=true:=zba c4;clear c4;by_cases c5:0≤x13_1
     ·rw [if_pos c5] at H
      have c5b0:decide (0≤x13_1)=true:=zba c5;clear c5;by_cases c6:x13_1<(l0.length:Int)
      ·rw [if_pos c6] at H
       have c6b0:decide (x13_1<(l0.length:Int))=true:=zba c6;clear c6;by_cases c7:x13_1<(l1.length:Int)
       ·rw [if_pos c7] at H
        have c7b0:decide (x13_1<(l1.length:Int))=true:=zba c7;clear c7;by_cases c8:(rd l0 x13_1)=(rd l1 x13_1)
        ·rw [if_pos c8] at H
         have c8b0:((rd l0 x13_1) == (rd l1 x13_1))=true:=beq_iff_eq.mpr c8;have c8b1:((rd l0 x13_1) != (rd l1 x13_1))=false:=bne_eq_false_iff_eq.mpr c8;clear c8;have H':=zad H;clear H;have p398:0≤(x13_1:Int):=zas (taab);have q398:x13_1<(l0.length:Int):=zas (taab);obtain ⟨ad398,e398,hx398_0⟩:=zca HR0.out x13_1 p398 q398;cases e398;replace p398:=eq_true p398;replace q398:=eq_true q398;have p399:0≤(x13_1:Int):=zas (taab);have q399:x13_1<(l1.length:Int):=zas (taab);obtain ⟨ad399,e399,hx399_0⟩:=zca HR1.out x13_1 p399 q399;cases e399;replace p399:=eq_true p399;replace q399:=eq_true q399;go_wp2
         repeat (go_quiet (fail);try go_wp2)
         go_roundg k1
         case measure=>have:=HK1.out;omega
         case rel=>exact ⟨(wrap64 (x13_1+1)),(taae),H',⟨taap⟩,taak⟩
        ·rw [if_neg c8] at H
         have c8b0:((rd l0 x13_1) == (rd l1 x13_1))=false:=zbs.mpr c8;have c8b1:((rd l0 x13_1) != (rd l1 x13_1))=true:=bne_iff_ne.mpr c8;obtain rfl:=zbg H;have p398:0≤(x13_1:Int):=zas (taab);have q398:x13_1<(l0.length:Int):=zas (taab);obtain ⟨ad398,e398,hx398_0⟩:=zca HR0.out x13_1 p398 q398;cases e398;replace p398:=eq_true p398;replace q398:=eq_true q398;have p399:0≤(x13_1:Int):=zas (taab);have q399:x13_1<(l1.length:Int):=zas (taab);obtain ⟨ad399,e399,hx399_0⟩:=zca HR1.out x13_1 p399 q399;cases e399;replace p399:=eq_true p399;replace q399:=eq_true q399;go_wp2
         repeat (go_quiet (fail);try go_wp2)
         go_ret
         exact ⟨taae,taak⟩
       ·rw [if_neg c7] at H
        exact absurd H (taad)
      ·rw [if_neg c6] at H
       exact absurd H (taad)
     ·rw [if_neg c5] at H
      exact absurd H (taad)
    ·rw [if_neg c4] at H
     have c4b0:decide (x13_1<(l0.length:Int))=false:=zbl c4;clear c4;obtain rfl:=zbg H;go_wp2
     repeat (go_quiet (fail);try go_wp2)
     go_ret
     exact ⟨taae,taak⟩
 ·rw [if_neg c3] at H
  have c3b0:((l0.length:Int) == (l1.length:Int))=false:=zbs.mpr c3;have c3b1:((l0.length:Int) != (l1.length:Int))=true:=bne_iff_ne.mpr c3;have c3b2:(l0.length == l1.length)=false:=by first | simpa using c3 | (simp at c3 ⊢;omega)
  obtain rfl:=zbg H;go_enter Tryz.func44,Tryz.ntmps44;go_wp2
  repeat (go_quiet (fail);try go_wp2)
  go_ret
  exact ⟨taae,taak⟩
end Go.Proofs.YtefbphpgaeffaaaGreatDoor.A
