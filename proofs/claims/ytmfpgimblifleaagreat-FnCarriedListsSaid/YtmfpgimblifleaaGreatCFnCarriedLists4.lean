/- What the law FnCarriedLists reaches, part 4: Lean functions with the same answers as the Go functions, the proofs that the Go code comes to these answers, and lemmas about them; no condition beyond those that each theorem names. -/
import Derived.Test.YtmfpgimblifleaaGreatCFnCarriedListsw1
import Derived.Shelf.SlGeneric
import Derived.Shelf.SlSortCmp.NoneTotal
import Derived.Ground.SlsfProg
import Derived.Test.YtmfpgimblifleaaGreatProg
import Derived.Shelf.SlSortCmp.Insertion
import Derived.Test.YtmfpgimblifleaaGreatCFnCarriedLists1
import Derived.Test.YtmfpgimblifleaaGreatCFnCarriedLists2
import Derived.Test.YtmfpgimblifleaaGreatCFnCarriedLists3
set_option linter.unusedVariables false
set_option linter.unusedSimpArgs false
set_option maxHeartbeats 8000000
set_option maxRecDepth 100000
/-
 DERIVED: THE SHELF's CONTRACTS AT THIS DUMP,IN PLAIN WORDS (tools/lay-plain.mjs out of 'YtmfpgimblifleaaGreatShelf.lean',which tools/lay-shelf.mjs wrote): THE SAME DECLARATIONS UNDER THE SAME NAMES: 'import','namespace','open','def','theorem' AND NOTHING ELSE: no command of the shelf's: FOR A HAND-IN. Each laying: the table of numbers ('.._ren') and one theorem,a field a fact of the dump's own or the kernel's comparison;each contract: ONE APPLICATION.
-/
namespace Go.Proofs
open Go.Shelf
def Tryz.sortL_ren:Go.Shelf.Ren:=⟨fun | 6=>65 | 15=>80 | 14=>79 | 28=>92 | 29=>93 | 20=>84 | 21=>85 | 22=>86 | 23=>87 | 24=>88 | 25=>89 | 26=>90 | 27=>91 | 46=>96 | 47=>97 | 48=>98 | 49=>99 | 50=>100 | 57=>102 | n=>n,fun | 22=>25 | 24=>3 | 25=>59 | 3=>3 | 39=>72 | 0=>0 | 53=>86 | 55=>41 | 4=>4 | 46=>80 | 45=>79 | 50=>38 | 5=>5 | 9=>9 | 66=>88 | 70=>92 | 76=>94 | 77=>95 | n=>n,fun | n=>n⟩
theorem Tryz.sortL:Go.Proofs.SlLaysF.n6 Tryz.prog Tryz.sortL_ren:={
 mixed:=by kernel_rfl
 f6:=⟨Tryz.f65.name,by decide,Tryz.func65.trans (congrArg some (by kernel_rfl))⟩
 f14:=⟨Tryz.f79.name,by decide,Tryz.func79.trans (congrArg some (by kernel_rfl))⟩
 f15:=Tryz.func80.trans (congrArg some (by kernel_rfl))
 f20:=⟨Tryz.f84.name,by decide,Tryz.func84.trans (congrArg some (by kernel_rfl))⟩
 f21:=⟨Tryz.f85.name,by decide,Tryz.func85.trans (congrArg some (by kernel_rfl))⟩
 f22:=⟨Tryz.f86.name,by decide,Tryz.func86.trans (congrArg some (by kernel_rfl))⟩
 f23:=⟨Tryz.f87.name,by decide,Tryz.func87.trans (congrArg some (by kernel_rfl))⟩
 f24:=⟨Tryz.f88.name,by decide,Tryz.func88.trans (congrArg some (by kernel_rfl))⟩
 f25:=⟨Tryz.f89.name,by decide,Tryz.func89.trans (congrArg some (by kernel_rfl))⟩
 f26:=⟨Tryz.f90.name,by decide,Tryz.func90.trans (congrArg some (by kernel_rfl))⟩
 f27:=⟨Tryz.f91.name,by decide,Tryz.func91.trans (congrArg some (by kernel_rfl))⟩
 f28:=Tryz.func92.trans (congrArg some (by kernel_rfl))
 f29:=Tryz.func93.trans (congrArg some (by kernel_rfl))
 f46:=⟨Tryz.f96.name,by decide,Tryz.func96.trans (congrArg some (by kernel_rfl))⟩
 f47:=Tryz.func97.trans (congrArg some (by kernel_rfl))
 f48:=Tryz.func98.trans (congrArg some (by kernel_rfl))
 f49:=⟨Tryz.f99.name,by decide,Tryz.func99.trans (congrArg some (by kernel_rfl))⟩
 f50:=⟨Tryz.f100.name,by decide,Tryz.func100.trans (congrArg some (by kernel_rfl))⟩
 f57:=⟨Tryz.f102.name,by decide,Tryz.func102.trans (congrArg some (by kernel_rfl))⟩
 t0:=Tryz.underlying0
 a0:=Tryz.isAgg0
 z0:=Tryz.sizeOf0
 v0:=Tryz.zeroValue0
 t3:=Tryz.underlying3
 a3:=Tryz.isAgg3
 z3:=Tryz.sizeOf3
 v3:=Tryz.zeroValue3
 t4:=Tryz.underlying4
 a4:=Tryz.isAgg4
 z4:=Tryz.sizeOf4
 v4:=Tryz.zeroValue4
 t5:=Tryz.underlying5
 a5:=Tryz.isAgg5
 z5:=Tryz.sizeOf5
 v5:=Tryz.zeroValue5
 t9:=Tryz.underlying9
 a9:=Tryz.isAgg9
 z9:=Tryz.sizeOf9
 v9:=Tryz.zeroValue9
 t22:=Tryz.underlying25
 a22:=Tryz.isAgg25
 z22:=Tryz.sizeOf25
 v22:=Tryz.zeroValue25
 a24:=Tryz.isAgg3
 z24:=Tryz.sizeOf3
 t25:=Tryz.underlying59
 a25:=Tryz.isAgg59
 z25:=Tryz.sizeOf59
 v25:=Tryz.zeroValue59
 t39:=Tryz.underlying72
 a39:=Tryz.isAgg72
 z39:=Tryz.sizeOf72
 v39:=Tryz.zeroValue72
 t45:=Tryz.underlying79
 a45:=Tryz.isAgg79
 z45:=Tryz.sizeOf79
 v45:=Tryz.zeroValue79
 t46:=Tryz.underlying80
 a46:=Tryz.isAgg80
 z46:=Tryz.sizeOf80
 v46:=Tryz.zeroValue80
 t50:=Tryz.underlying38
 a50:=Tryz.isAgg38
 z50:=Tryz.sizeOf38
 v50:=Tryz.zeroValue38
 t53:=Tryz.underlying86
 a53:=Tryz.isAgg86
 z53:=Tryz.sizeOf86
 v53:=Tryz.zeroValue86
 t55:=Tryz.underlying41
 a55:=Tryz.isAgg41
 z55:=Tryz.sizeOf41
 v55:=Tryz.zeroValue41
 t66:=Tryz.underlying88
 a66:=Tryz.isAgg88
 z66:=Tryz.sizeOf88
 v66:=Tryz.zeroValue88
 t70:=Tryz.underlying92
 a70:=Tryz.isAgg92
 z70:=Tryz.sizeOf92
 v70:=Tryz.zeroValue92
 t76:=Tryz.underlying94
 a76:=Tryz.isAgg94
 z76:=Tryz.sizeOf94
 v76:=Tryz.zeroValue94
 t77:=Tryz.underlying95
 a77:=Tryz.isAgg95
 z77:=Tryz.sizeOf95
 v77:=Tryz.zeroValue95 }
end Go.Proofs

namespace Go.Proofs.YtmfpgimblifleaaGreat.A
open Go.RowKit Go.Proofs.YtmfpgimblifleaaGreatW.PrintWords Go.Proofs.YtmfpgimblifleaaGreatW.PrintLast Go.Proofs.YtmfpgimblifleaaGreatW.PrintMore
attribute [local go_sem] max2_int min2_int max_two min_two max_three min_three max_four min_four
section
open Go.Shelf Go.Lib Go.Sort
def descL (l:List Int):List Int:=l.mergeSort fun x y=>decide (y≤x)
def smallL (l:List Int):Bool:=decide (l.length≤1000000) && l.all fun x=>decide (0≤x∧x≤1000000)
def impl_ranking.f (l0:List Int):Option (List Int):=if smallL l0=true then some (descL l0) else none
abbrev SmallI:Type:={ x:Int // 0≤x∧x≤1000000 }
instance:Inhabited SmallI:=⟨⟨0,by omega,by omega⟩⟩
def encI (x:SmallI):Value := .int .i64 x.1
def cfI (x y:SmallI):Int:=y.1 - x.1
theorem ltI (x y:SmallI):ltOf cfI x y=decide (y.1<x.1):=by
 unfold ltOf cfI
 by_cases h:y.1<x.1
 ·simp [h]
  omega
 ·simp [h]
  omega
theorem swoI:SWO (ltOf cfI) where
 irrefl x:=by rw [ltI];simp
 trans x y z h1 h2:=by rw [ltI] at *;simp at *;omega
 ntrans x y z h1 h2:=by rw [ltI] at *;simp at *;omega
theorem totI (x y:SmallI) (h1:ltOf cfI x y=false) (h2:ltOf cfI y x=false):x=y:=by
 rw [ltI] at *
 simp at *
 exact Subtype.ext (by omega)
theorem geI:(fun x y:SmallI => !ltOf cfI y x)=fun x y=>decide (y.1≤x.1):=by
 funext x y
 rw [ltI]
 by_cases h:y.1≤x.1
 ·have h':¬ x.1<y.1:=by omega
  simp [h,h']
 ·have h':x.1<y.1:=by omega
  simp [h,h']
theorem ranking_cmp (x y:SmallI) (W:World):Calls Tryz.prog 66 #[encI x,encI y] W fun e w'=>e = .returned (.int .i64 (cfI x y))∧∃ q,w'=W.drewN q:=by
 obtain ⟨x,hx0,hx1⟩:=x
 obtain ⟨y,hy0,hy1⟩:=y
 unfold encI cfI
 go_enter Tryz.func66,Tryz.ntmps66
 go_wp2
 go_ret
 exact ⟨rfl,0,rfl⟩
theorem attach_enc (l:List Int) (h:∀ x ∈ l,0≤x∧x≤1000000):(l.attachWith (fun x=>0≤x∧x≤1000000) h).map encI=encs (Value.int .i64) l:=by
 unfold encs
 rw [show encI=(Value.int .i64) ∘ Subtype.val from rfl,← List.map_map,List.attachWith_map_subtype_val]
theorem descL_attach (l:List Int) (h:∀ x ∈ l,0≤x∧x≤1000000):((l.attachWith (fun x=>0≤x∧x≤1000000) h).mergeSort fun x y=>decide (y.1≤x.1)).map encI=encs (Value.int .i64) (descL l):=by
 have h1:((l.attachWith (fun x=>0≤x∧x≤1000000) h).mergeSort fun x y=>decide (y.1≤x.1)).map Subtype.val=descL l:=by
  unfold descL
  rw [List.map_mergeSort (s:=fun x y=>decide (y≤x)) (fun a _ b _=>rfl),List.attachWith_map_subtype_val]
 unfold encs
 rw [← h1,List.map_map]
 rfl
theorem impl_ranking.calls (A0:Option Addr) (c0:Nat) (l0:List Int) (r:List Int) (w:World) (hr0:Kd.C (Kd.int .i64) w A0 l0.length l0) (hc0:l0.length≤c0) (h:impl_ranking.f l0=some r) :
 Calls Tryz.prog 30 #[.slice A0 l0.length c0] w fun e w'=>∃ v0_:Value,e = .returned (v0_)∧Kd.R (Kd.int .i64) 3 w' w.heap.size (fun _=>True) v0_ r∧Below w.heap.size w w':=by
 have hl:smallL l0=true∧descL l0=r:=by
  unfold impl_ranking.f at h
  by_cases c:smallL l0=true
  ·rw [if_pos c] at h
   exact ⟨c,zbe h⟩
  ·rw [if_neg c] at h
   cases h
 clear h;obtain ⟨hs,rfl⟩:=hl
 unfold smallL at hs
 simp only [Bool.and_eq_true,decide_eq_true_eq,List.all_eq_true] at hs
 obtain ⟨hl,hall⟩:=hs
 have HCl:=zad (slices_Clone_int_int.calls A0 c0 l0 l0 w hr0 hc0 (by unfold slices_Clone_int_int.f;rw [if_pos (by omega)]))
 have Hall:=zad hall;have Hl:=zad hl;clear hall hl hr0 hc0;have eg:∀ args w,(callFunc 66 args).run Tryz.prog w = .ok (.enter 66 args) w:=enters_of Tryz.func66 (by kernel_rfl) rfl
 have Heg:=zad eg;clear eg;go_enter Tryz.func30,Tryz.ntmps30
 go_wp2_with fail
 refine HCl.out.mono ?_
 rintro e w1 ⟨v,rfl,hR,hb⟩
 have ho:=Kd.own_of_R hR
 clear hR HCl;have Hb:=zad hb;clear hb;obtain ⟨hlen',hcase⟩:=ho
 rcases hcase with ⟨rfl,h0⟩ | ⟨g,cap,cur,rfl,hg,hh,hnc,hcm,hcs,htake⟩
 ·have hnil:l0=[]:=List.length_eq_zero_iff.1 h0
  subst hnil;clear h0 hlen' Hall Hl
  have hS:=AnyF.slices_SortFunc_none (P:=Tryz.prog) (ρ:=Tryz.sortL_ren) { Tryz.sortL with } none 0 (.func (.func 66) #[] #[]) w1
  change Calls Tryz.prog 65 _ _ _ at hS
  have HS:=zad hS;clear hS;go_wp2_with fail
  refine HS.out.mono ?_
  rintro e w2 ⟨rfl,rfl⟩
  go_wp2
  go_ret
  exact ⟨_,rfl,by unfold descL;simp only [List.mergeSort];exact Kd.R_nil _ _ _ _ _,Hb.out⟩
 ·have hd:(l0.attachWith (fun x=>0≤x∧x≤1000000) Hall.out).toArray.size=l0.length:=by simp
  have hH:=holds_own encI (l0.attachWith (fun x=>0≤x∧x≤1000000) Hall.out).toArray hh hnc hcs hd (by
   rw [htake,List.toList_toArray,attach_enc])
  have hS:=Any.slices_SortFunc_total Tryz.sortL encI (fun _=>rfl) cfI swoI 66 #[] g 0 cap (l0.attachWith (fun x=>0≤x∧x≤1000000) Hall.out).toArray w1 Heg.out
   (CmpReads.lays (fun _ _ _ _ x y=>ranking_cmp x y _)) hH (Array.getElem?_eq_some_iff.1 hh).1 (by have:=Hl.out;rw [hd];omega) totI
  rw [geI,hd] at hS
  change Calls Tryz.prog 65 _ _ _ at hS
  have HS:=zad hS
  have HF:Aside0 (∀ m os,Kd.R (Kd.int .i64) 3 (sortWorld encI w1 g 0 m ((l0.attachWith (fun x=>0≤x∧x≤1000000) Hall.out).mergeSort fun x y=>decide (y.1≤x.1)).toArray os) w.heap.size (fun _=>True) (.slice (some ⟨g,0,none⟩) l0.length cap) (descL l0)∧Below w.heap.size w (sortWorld encI w1 g 0 m ((l0.attachWith (fun x=>0≤x∧x≤1000000) Hall.out).mergeSort fun x y=>decide (y.1≤x.1)).toArray os)):=⟨fun m os=>by
   refine ⟨?_,below_sorted encI Hb.out _ os hg⟩
   have hdl:(descL l0).length=l0.length:=List.length_mergeSort l0
   have ho:=own_sorted encI (m:=m) ((l0.attachWith (fun x=>0≤x∧x≤1000000) Hall.out).mergeSort fun x y=>decide (y.1≤x.1)).toArray os hg hh hnc hcm hcs (by simp [List.length_mergeSort])
   rw [List.toList_toArray,descL_attach] at ho
   exact Kd.R_of_own (by rw [hdl];exact ho) (fun _ _=>trivial)⟩
  clear hS hH hd hh hnc hcm hcs htake hlen' hg
  go_wp2_with fail
  refine HS.out.mono ?_
  rintro e w2 ⟨rfl,n,os,rfl⟩
  have hF:=HF.out n os
  have HF2:=zad hF;clear hF;generalize sortWorld encI w1 g 0 n ((l0.attachWith (fun x=>0≤x∧x≤1000000) Hall.out).mergeSort fun x y=>decide (y.1≤x.1)).toArray os=w2 at HF2 ⊢
  go_wp2
  go_ret
  exact ⟨_,rfl,HF2.out.1,HF2.out.2⟩
end
def impl_partial.l0:Nat→List Int→Int→List Int→Int→Int→Option (List Int)
 | 0,_,_,_,_,_=>none
 | k+1,x3,x4,x9,x10,x11=>if x11<x10 then (if 0≤x11 then (if x11<(x9.length:Int) then (if x3.length<17592186044416 then (impl_partial.l0 k (x3 ++ [wrap64 (x4+(rd x9 x11))]) (wrap64 (x4+(rd x9 x11))) x9 x10 (wrap64 (x11+1))) else (none)) else (none)) else (none)) else (some x3)
def impl_partial.f (k:Nat) (l0:List Int):Option (List Int):=(impl_ranking.f l0).bind fun t490=>(impl_partial.l0 k (([]:List Int)) 0 t490 (t490.length:Int) 0)
theorem impl_partial.calls (k:Nat) (A0:Option Addr) (c0:Nat) (l0:List Int) (r:List Int) (w:World) (hr0:Kd.C (Kd.int .i64) w A0 l0.length l0) (hc0:l0.length≤c0) (h:impl_partial.f k l0=some r) :
 Calls Tryz.prog 78 #[.slice A0 l0.length c0] w fun e w'=>∃ v0_:Value,e = .returned (v0_)∧Kd.R (Kd.int .i64) 3 w' w.heap.size (fun _=>True) v0_ r∧Below w.heap.size w w':=by
 have HR0:=zad hr0;have HC0:=zad hc0;clear hr0 hc0;have HB:=zad (Below.refl w.heap.size w)
 have H:((impl_ranking.f l0).bind fun t490=>(impl_partial.l0 k (([]:List Int)) 0 t490 (t490.length:Int) 0))=some r:=h
 clear h;obtain ⟨y487,hy487⟩:∃ y_:List Int,y_=(([]:List Int)):=⟨_,rfl⟩
 replace H:((impl_ranking.f l0).bind fun t490=>(impl_partial.l0 k y487 0 t490 (t490.length:Int) 0))=some r:=by first | (rw [hy487];with_reducible exact H) | (have H2_:=(zbd _ _).symm.trans H;rw [hy487];with_reducible exact H2_) | (have H2_:=(zbd _ _).symm.trans H;with_reducible exact H2_) | with_reducible exact H | (rw [hy487];exact H) | exact H
 have Ny487:=zad hy487;clear hy487;replace H:=zay.mp H;obtain ⟨t490,A20,H⟩:=H
 replace H:(impl_partial.l0 k y487 0 t490 (t490.length:Int) 0)=some r:=H
 have A2:=zad A20;clear A20;have H':=zad H
 clear H;go_enter Tryz.func78,Tryz.ntmps78
 go_wp2_with (first | ((with_reducible refine gate_dst (N:=7) rfl ?_);refine Kd.R_lit (Kd.int .i64) _ 3 ?hg (N:=7) ?hd (xs:=([]:List Int)) (inner:=[]) (ok:=fun _=>True) (okp:=fun _=>True) ?hr ?hp (fun _ hk=>hk) trivial (Below.refl _ _) (zcf _) (taac) ?_;(case hd=>rfl);(case hg=>rfl);(case hr=>first | (go_simp;done) | (go_simp;rfl));(case hp=>exact (Reps.none _ _));intro v488 w3 ho4 hb hg_ hnew_;clear hg_ hnew_;(first | rw [← Ny487.out] at ho4 | (simp only [Int.reduceToNat] at ho4;rw [← Ny487.out] at ho4));have n0_:=zad (zbu ho4 (zbk (taab)));have n1_:=zad (zbg (taab) hb);clear HB;have HO489:=n0_;have HB:=n1_;clear n0_ n1_ hb ho4) | ((with_reducible refine zbh (f:=30) rfl ?_);refine zbn (some 9) rfl rfl Tryz.func30 (by kernel_rfl) rfl #[.slice A0 l0.length c0] rfl (taae) ?_;(with_reducible refine (impl_ranking.calls _ _ l0 t490 _ ?side1 ?side2 A2.out).mono ?_);(case side1=>exact tafm);(case side2=>exact HC0.out);rintro e w5 ⟨v491,rfl,ho0,hb⟩;refine ⟨_,rfl,?_⟩;have n0_:=zad (zcb (taef) (zcd ho0) hb);have n1_:=zad (zbu (zcc ho0 (zce (taef))) (zbk (taab)));have n2_:=zad (zbg (taab) hb);clear HO489 HB;have HO489:=n0_;have HO492:=n1_;have HB:=n2_;clear n0_ n1_ n2_;(try clear hb);(try clear hb2);(try clear hk);(try clear hi);(try clear ho0);obtain ⟨Ao6,co6,eo6⟩:=zbv HO492.out;subst eo6))
 go_loopg [3,4,11] k (fun kq v3 v4 v11 w'=>∃ (x3_1:List Int) (x4_1:Int) (x11_1:Int),v4 = .int .i64 x4_1∧v11 = .int .i64 x11_1∧Aside0 (impl_partial.l0 kq x3_1 x4_1 t490 (t490.length:Int) x11_1=some r)∧Aside0 (kq≤k)∧Aside0 (Kd.R (Kd.int .i64) 3 w' w.heap.size (fun k_=>some k_≠((.slice Ao6 t490.length co6):Value).ownBlock) v3 x3_1)∧Aside0 (Kd.R (Kd.int .i64) 3 w' w.heap.size (fun k_=>some k_≠(v3:Value).ownBlock) (.slice Ao6 t490.length co6) t490)∧Aside0 (Below w.heap.size w w'))
 case atStart=>exact ⟨(y487),(0),(0),(taad),(taad),H',⟨zcf _⟩,⟨by (with_reducible repeat (first | apply zai | apply zaj | apply zak));exact zbq HO489.out (fun _ hk=>hk.2)⟩,⟨by (with_reducible repeat (first | apply zai | apply zaj | apply zak));exact zbq HO492.out (fun _ hk=>hk.2)⟩,⟨taab⟩⟩
 case round =>
  clear H'
  try clear p2
  try clear c3
  obtain ⟨x3_1,x4_1,x11_1,rfl,rfl,HA,HK1,HO_3,HO_9,HB⟩:=hrel
  cases gk with
  | zero=>exact absurd HA.out (by simp [impl_partial.l0])
  | succ k1 =>
   have H:=HA.out
   clear HA;simp only [impl_partial.l0] at H
   by_cases c7:x11_1<(t490.length:Int)
   ·rw [if_pos c7] at H
    have c7b0:decide (x11_1<(t490.length:Int))=true:=zba c7
    clear c7;by_cases c8:0≤x11_1
    ·rw [if_pos c8] at H
     have c8b0:decide (0≤x11_1)=true:=zba c8
     clear c8;by_cases c9:x11_1<(t490.length:Int)
     ·rw [if_pos c9] at H
      have c9b0:decide (x11_1<(t490.length:Int))=true:=zba c9
      clear c9;by_cases c10:x3_1.length<17592186044416
      ·rw [if_pos c10] at H
       have LMc10:=zad c10;clear c10;obtain ⟨y494,hy494⟩:∃ y_:List Int,y_=(x3_1 ++ [wrap64 (x4_1+(rd t490 x11_1))]):=⟨_,rfl⟩
       replace H:(impl_partial.l0 k1 y494 (wrap64 (x4_1+(rd t490 x11_1))) t490 (t490.length:Int) (wrap64 (x11_1+1)))=some r:=by first | (rw [hy494];with_reducible exact H) | (have H2_:=(zbd _ _).symm.trans H;rw [hy494];with_reducible exact H2_) | (have H2_:=(zbd _ _).symm.trans H;with_reducible exact H2_) | with_reducible exact H | (rw [hy494];exact H) | exact H
       have Ny494:=zad hy494;clear hy494;have H':=zad H
       clear H;have p493:0≤(x11_1:Int):=zas (taaa)
       have q493:x11_1<(t490.length:Int):=zas (taaa)
       obtain ⟨ad493,e493,hx493_0⟩:=zca (zbf HO_9.out).2.2 x11_1 p493 q493
       cases e493
       replace p493:=eq_true p493
       replace q493:=eq_true q493
       go_wp2_with (first | ((with_reducible refine gate_builtin (b := .append) (xs:=#[.tmp 18,.tmp 20]) rfl ?_);at_builtin;refine Kd.R_append (Kd.int .i64) (w0:=w) w.heap.size rfl (.tmp 18) (.tmp 20) 25 3 (.int .i64 0) 8 rfl Tryz.underlying25 info3 rfl (by decide) (by omega) u3 x3_1 (wrap64 (x4_1+(rd t490 x11_1))) [.int .i64 (wrap64 (x4_1+(rd t490 x11_1)))] (fun k_=>some k_≠(.slice (some ad493) t490.length co6:Value).ownBlock) (fun _=>False) rfl rfl ?aP (fun _ hk=>hk.elim) ?aF ?aO ?aB ?aS ?aL ?_;(case aP=>exact rfl);(case aB=>exact (taab));(case aF=>exact (fun k_ hk=>Kd.fresh' (zce (by (with_reducible repeat (first | apply zai | apply zaj | apply zak));exact HO_9.out)) k_ hk));(case aO=>exact (taal));(case aS=>exact (zbk (taab)));(case aL=>have:=LMc10.out;omega);intro v495 w11 ho hb hg hat;rw [← Ny494.out] at ho;have n0_:=zad (Kd.R_after (ok:=(fun _=>True)) (by (with_reducible repeat (first | apply zai | apply zaj | apply zak));exact zbq HO_9.out (fun _ hk=>⟨trivial,hk⟩)) hg hat);have n1_:=zad (hb);have n2_:=zad (ho);clear HO_9 HB HO_3;have HO_9:=n0_;have HB:=n1_;have HO496:=n2_;clear n0_ n1_ n2_ ho hb hg hat))
       go_roundg k1
       case measure=>have:=HK1.out;omega
       case rel=>exact ⟨(y494),(wrap64 (x4_1+(rd t490 x11_1))),(wrap64 (x11_1+1)),(taad),(taad),H',⟨taaq⟩,⟨by (with_reducible repeat (first | apply zai | apply zaj | apply zak));exact HO496.out⟩,⟨by (with_reducible repeat (first | apply zai | apply zaj | apply zak));exact zbq HO_9.out (fun _ hk=>hk.2)⟩,⟨taab⟩⟩
      ·rw [if_neg c10] at H
       exact absurd H (taac)
     ·rw [if_neg c9] at H
      exact absurd H (taac)
    ·rw [if_neg c8] at H
     exact absurd H (taac)
   ·rw [if_neg c7] at H
    have c7b0:decide (x11_1<(t490.length:Int))=false:=zbj c7
    clear c7;obtain rfl:=zbe H
    go_wp2
    go_ret
    exact ⟨_,taai,by (with_reducible repeat (first | apply zai | apply zaj | apply zak));exact zbq HO_3.out (fun _ hk=>trivial),taab⟩
def impl_refused.l0:Nat→List Int→List Int→Int→Int→Option (Int)
 | 0,_,_,_,_=>none
 | k+1,x5,x11,x12,x13=>if x13<x12 then (if 0≤x13 then (if x13<(x11.length:Int) then (if x13<(x5.length:Int) then (if (rd x11 x13)>(rd x5 x13) then (some (wrap64 (x13+1))) else (impl_refused.l0 k x5 x11 x12 (wrap64 (x13+1)))) else (none)) else (none)) else (none)) else (some 0)
def impl_refused.f (k:Nat) (l0:List Int) (l1:List Int):Option (Int):=(impl_partial.f k l1).bind fun t497=>((impl_partial.f k l0).bind fun t500=>(impl_refused.l0 k t497 t500 (t500.length:Int) 0))
theorem impl_refused.calls (k:Nat) (A0:Option Addr) (c0:Nat) (l0:List Int) (A1:Option Addr) (c1:Nat) (l1:List Int) (r:Int) (w:World) (hr0:Kd.C (Kd.int .i64) w A0 l0.length l0) (hc0:l0.length≤c0) (hr1:Kd.C (Kd.int .i64) w A1 l1.length l1) (hc1:l1.length≤c1) (h:impl_refused.f k l0 l1=some r) :
 Calls Tryz.prog 63 #[.slice A0 l0.length c0,.slice A1 l1.length c1] w fun e w'=>e = .returned (.int .i64 r)∧Below w.heap.size w w':=by
 have HR0:=zad hr0;have HC0:=zad hc0;clear hr0 hc0;have HR1:=zad hr1;have HC1:=zad hc1;clear hr1 hc1;have HB:=zad (Below.refl w.heap.size w)
 have H:((impl_partial.f k l1).bind fun t497=>((impl_partial.f k l0).bind fun t500=>(impl_refused.l0 k t497 t500 (t500.length:Int) 0)))=some r:=h
 clear h;replace H:=zay.mp H;obtain ⟨t497,A30,H⟩:=H
 replace H:((impl_partial.f k l0).bind fun t500=>(impl_refused.l0 k t497 t500 (t500.length:Int) 0))=some r:=H
 have A3:=zad A30;clear A30;replace H:=zay.mp H;obtain ⟨t500,A40,H⟩:=H
 replace H:(impl_refused.l0 k t497 t500 (t500.length:Int) 0)=some r:=H
 have A4:=zad A40;clear A40;have H':=zad H
 clear H;go_enter Tryz.func63,Tryz.ntmps63
 go_wp2_with (first | ((with_reducible refine zbh (f:=78) rfl ?_);refine zbn (some 9) rfl rfl Tryz.func78 (by kernel_rfl) rfl #[.slice A1 l1.length c1] rfl (taae) ?_;(with_reducible refine (impl_partial.calls k _ _ l1 t497 _ ?side1 ?side2 A3.out).mono ?_);(case side1=>repeat (first | exact HR1.out | (with_reducible refine zal ?_ _) | (with_reducible refine zam ?_ _) | (with_reducible refine zan ?_)));(case side2=>exact HC1.out);rintro e w5 ⟨v498,rfl,ho0,hb⟩;refine ⟨_,rfl,?_⟩;have n0_:=zad (zbu ho0 (zbk (taab)));have n1_:=zad (zbg (taab) hb);clear HB;have HO499:=n0_;have HB:=n1_;clear n0_ n1_;(try clear hb);(try clear hb2);(try clear hk);(try clear hi);(try clear ho0)) | ((with_reducible refine zbh (f:=78) rfl ?_);refine zbn (some 11) rfl rfl Tryz.func78 (by kernel_rfl) rfl #[.slice A0 l0.length c0] rfl (taae) ?_;(with_reducible refine (impl_partial.calls k _ _ l0 t500 _ ?side1 ?side2 A4.out).mono ?_);(case side1=>repeat (first | exact (Kd.C_below HR0.out HB.out) | (with_reducible refine zal ?_ _) | (with_reducible refine zam ?_ _) | (with_reducible refine zan ?_)));(case side2=>exact HC0.out);rintro e w6 ⟨v501,rfl,ho0,hb⟩;refine ⟨_,rfl,?_⟩;have n0_:=zad (zcb (taeg) (zcd ho0) hb);have n1_:=zad (zbu (zcc ho0 (zce (taeg))) (zbk (taab)));have n2_:=zad (zbg (taab) hb);clear HO499 HB;have HO499:=n0_;have HO502:=n1_;have HB:=n2_;clear n0_ n1_ n2_;(try clear hb);(try clear hb2);(try clear hk);(try clear hi);(try clear ho0);obtain ⟨Ao7,co7,eo7⟩:=zbv HO502.out;subst eo7))
 go_loopg [13] k (fun kq v13 w'=>∃ (x13_1:Int),v13 = .int .i64 x13_1∧Aside0 (impl_refused.l0 kq t497 t500 (t500.length:Int) x13_1=some r)∧Aside0 (kq≤k)∧Aside0 (Kd.R (Kd.int .i64) 3 w' w.heap.size (fun k_=>some k_≠((.slice Ao7 t500.length co7):Value).ownBlock) v498 t497)∧Aside0 (Kd.R (Kd.int .i64) 3 w' w.heap.size (fun k_=>some k_≠(v498:Value).ownBlock) (.slice Ao7 t500.length co7) t500)∧Aside0 (Below w.heap.size w w'))
 case atStart=>exact ⟨(0),(taad),H',⟨zcf _⟩,⟨by (with_reducible repeat (first | apply zai | apply zaj | apply zak));exact zbq HO499.out (fun _ hk=>hk.2)⟩,⟨by (with_reducible repeat (first | apply zai | apply zaj | apply zak));exact zbq HO502.out (fun _ hk=>hk.2)⟩,⟨taab⟩⟩
 case round =>
  clear H'
  try clear c1
  try clear p2
  try clear c6
  try clear c7
  obtain ⟨x13_1,rfl,HA,HK1,HO_5,HO_11,HB⟩:=hrel
  cases gk with
  | zero=>exact absurd HA.out (by simp [impl_refused.l0])
  | succ k1 =>
   have H:=HA.out
   clear HA;simp only [impl_refused.l0] at H
   by_cases c8:x13_1<(t500.length:Int)
   ·rw [if_pos c8] at H
    have c8b0:decide (x13_1<(t500.length:Int))=true:=zba c8
    clear c8;by_cases c9:0≤x13_1
    ·rw [if_pos c9] at H
     have c9b0:decide (0≤x13_1)=true:=zba c9
     clear c9;by_cases c10:x13_1<(t500.length:Int)
     ·rw [if_pos c10] at H
      have c10b0:decide (x13_1<(t500.length:Int))=true:=zba c10
      clear c10;by_cases c11:x13_1<(t497.length:Int)
      ·rw [if_pos c11] at H
       have c11b0:decide (x13_1<(t497.length:Int))=true:=zba c11
       clear c11;by_cases c12:(rd t500 x13_1)>(rd t497 x13_1)
       ·rw [if_pos c12] at H
        have c12b0:decide ((rd t497 x13_1)<(rd t500 x13_1))=true:=zba c12
        clear c12;obtain rfl:=zbe H
        have p503:0≤(x13_1:Int):=zas (taaa)
        have q503:x13_1<(t500.length:Int):=zas (taaa)
        obtain ⟨ad503,e503,hx503_0⟩:=zca (zbf HO_11.out).2.2 x13_1 p503 q503
        cases e503
        replace p503:=eq_true p503
        replace q503:=eq_true q503
        obtain ⟨Ao13,co13,eo13⟩:=zbv HO_5.out
        subst eo13;have p504:0≤(x13_1:Int):=zas (taaa)
        have q504:x13_1<(t497.length:Int):=zas (taaa)
        obtain ⟨ad504,e504,hx504_0⟩:=zca (zbf HO_5.out).2.2 x13_1 p504 q504
        cases e504
        replace p504:=eq_true p504
        replace q504:=eq_true q504
        go_wp2
        go_ret
        exact ⟨taai,taab⟩
       ·rw [if_neg c12] at H
        have c12b0:decide ((rd t497 x13_1)<(rd t500 x13_1))=false:=zbj c12
        clear c12;have H':=zad H
        clear H;have p503:0≤(x13_1:Int):=zas (taaa)
        have q503:x13_1<(t500.length:Int):=zas (taaa)
        obtain ⟨ad503,e503,hx503_0⟩:=zca (zbf HO_11.out).2.2 x13_1 p503 q503
        cases e503
        replace p503:=eq_true p503
        replace q503:=eq_true q503
        obtain ⟨Ao14,co14,eo14⟩:=zbv HO_5.out
        subst eo14;have p504:0≤(x13_1:Int):=zas (taaa)
        have q504:x13_1<(t497.length:Int):=zas (taaa)
        obtain ⟨ad504,e504,hx504_0⟩:=zca (zbf HO_5.out).2.2 x13_1 p504 q504
        cases e504
        replace p504:=eq_true p504
        replace q504:=eq_true q504
        go_wp2
        go_roundg k1
        case measure=>have:=HK1.out;omega
        case rel=>exact ⟨(wrap64 (x13_1+1)),(taad),H',⟨taaq⟩,⟨taam⟩,⟨by (with_reducible repeat (first | apply zai | apply zaj | apply zak));exact HO_11.out⟩,⟨taab⟩⟩
      ·rw [if_neg c11] at H
       exact absurd H (taac)
     ·rw [if_neg c10] at H
      exact absurd H (taac)
    ·rw [if_neg c9] at H
     exact absurd H (taac)
   ·rw [if_neg c8] at H
    have c8b0:decide (x13_1<(t500.length:Int))=false:=zbj c8
    clear c8;obtain rfl:=zbe H
    go_wp2
    go_ret
    exact ⟨taai,taab⟩
def impl_isMajorized.f (k:Nat) (l0:List Int) (l1:List Int):Option (Bool):=(impl_doFit.f k l0 l1).bind fun t505=>(if t505=true then ((impl_refused.f k l0 l1).bind fun t506=>(some (t506 == 0))) else (some false))
theorem impl_isMajorized.calls (k:Nat) (A0:Option Addr) (c0:Nat) (l0:List Int) (A1:Option Addr) (c1:Nat) (l1:List Int) (r:Bool) (w:World) (hr0:Kd.C (Kd.int .i64) w A0 l0.length l0) (hc0:l0.length≤c0) (hr1:Kd.C (Kd.int .i64) w A1 l1.length l1) (hc1:l1.length≤c1) (h:impl_isMajorized.f k l0 l1=some r) :
 Calls Tryz.prog 28 #[.slice A0 l0.length c0,.slice A1 l1.length c1] w fun e w'=>e = .returned (.bool r)∧Below w.heap.size w w':=by
 have HR0:=zad hr0;have HC0:=zad hc0;clear hr0 hc0;have HR1:=zad hr1;have HC1:=zad hc1;clear hr1 hc1;have HB:=zad (Below.refl w.heap.size w)
 have H:((impl_doFit.f k l0 l1).bind fun t505=>(if t505=true then ((impl_refused.f k l0 l1).bind fun t506=>(some (t506 == 0))) else (some false)))=some r:=h
 clear h;replace H:=zay.mp H;obtain ⟨t505,A30,H⟩:=H
 replace H:(if t505=true then ((impl_refused.f k l0 l1).bind fun t506=>(some (t506 == 0))) else (some false))=some r:=H
 have A3:=zad A30;clear A30;by_cases c4:t505=true
 ·subst c4
  have H1:((impl_refused.f k l0 l1).bind fun t506=>(some (t506 == 0)))=some r:=by rw [if_pos rfl] at H;exact H
  clear H;have H:=H1;clear H1;replace H:=zay.mp H;obtain ⟨t506,A50,H⟩:=H
  replace H:(some (t506 == 0))=some r:=H
  have A5:=zad A50;clear A50;obtain rfl:=zbe H
  go_enter Tryz.func28,Tryz.ntmps28
  go_wp2_with (first | ((with_reducible refine zbh (f:=62) rfl ?_);refine zbn (some 7) rfl rfl Tryz.func62 (by kernel_rfl) rfl #[.slice A0 l0.length c0,.slice A1 l1.length c1] rfl (taae) ?_;(with_reducible refine (impl_doFit.calls k _ _ l0 _ _ l1 true _ ?side1 ?side2 ?side3 ?side4 A3.out).mono ?_);(case side1=>repeat (first | exact HR0.out | (with_reducible refine zal ?_ _) | (with_reducible refine zam ?_ _) | (with_reducible refine zan ?_)));(case side2=>exact HC0.out);(case side3=>repeat (first | exact HR1.out | (with_reducible refine zal ?_ _) | (with_reducible refine zam ?_ _) | (with_reducible refine zan ?_)));(case side4=>exact HC1.out);rintro e w' ⟨rfl,⟨nd,rfl⟩⟩;refine ⟨_,rfl,?_⟩) | (go_at_call 63;(with_reducible refine (impl_refused.calls k _ _ l0 _ _ l1 t506 _ ?side1 ?side2 ?side3 ?side4 A5.out).mono ?_);(case side1=>repeat (first | exact HR0.out | (with_reducible refine zal ?_ _) | (with_reducible refine zam ?_ _) | (with_reducible refine zan ?_)));(case side2=>exact HC0.out);(case side3=>repeat (first | exact HR1.out | (with_reducible refine zal ?_ _) | (with_reducible refine zam ?_ _) | (with_reducible refine zan ?_)));(case side4=>exact HC1.out);rintro e w6 ⟨rfl,hb⟩;have n0_:=zad (zbg (taab) hb);clear HB;have HB:=n0_;clear n0_;(try clear hb);(try clear hb2);(try clear hk);(try clear hi)))
  go_ret
  exact ⟨taai,taab⟩
 ·replace c4:=zbi.mpr c4
  subst c4;have H1:(some false)=some r:=by rw [if_neg (show ¬ (false=true) by decide)] at H;exact H
  clear H;have H:=H1;clear H1;obtain rfl:=zbe H
  go_enter Tryz.func28,Tryz.ntmps28
  go_wp2_with (first | ((with_reducible refine zbh (f:=62) rfl ?_);refine zbn (some 7) rfl rfl Tryz.func62 (by kernel_rfl) rfl #[.slice A0 l0.length c0,.slice A1 l1.length c1] rfl (taae) ?_;(with_reducible refine (impl_doFit.calls k _ _ l0 _ _ l1 false _ ?side1 ?side2 ?side3 ?side4 A3.out).mono ?_);(case side1=>exact tafl);(case side2=>exact HC0.out);(case side3=>exact tafp);(case side4=>exact HC1.out);rintro e w' ⟨rfl,⟨nd,rfl⟩⟩;refine ⟨_,rfl,?_⟩))
  go_ret
  exact ⟨taai,taab⟩
def impl_IsMajorized.f (k:Nat) (l0:List Int) (l1:List Int):Option (Bool × Bool):=(impl_areLists.f k l0 l1).bind fun t507=>(if t507=true then ((impl_isMajorized.f k l0 l1).bind fun t508=>(some (t508,true))) else (some (false,false)))
theorem impl_IsMajorized.calls (k:Nat) (A0:Option Addr) (c0:Nat) (l0:List Int) (A1:Option Addr) (c1:Nat) (l1:List Int) (r1:Bool) (r2:Bool) (w:World) (hr0:Kd.C (Kd.int .i64) w A0 l0.length l0) (hc0:l0.length≤c0) (hr1:Kd.C (Kd.int .i64) w A1 l1.length l1) (hc1:l1.length≤c1) (h:impl_IsMajorized.f k l0 l1=some (r1,r2)) :
 Calls Tryz.prog 9 #[.slice A0 l0.length c0,.slice A1 l1.length c1] w fun e w'=>e = .returned (.tuple #[.bool r1,.bool r2])∧Below w.heap.size w w':=by
 have HR0:=zad hr0;have HC0:=zad hc0;clear hr0 hc0;have HR1:=zad hr1;have HC1:=zad hc1;clear hr1 hc1;have HB:=zad (Below.refl w.heap.size w)
 have H:((impl_areLists.f k l0 l1).bind fun t507=>(if t507=true then ((impl_isMajorized.f k l0 l1).bind fun t508=>(some (t508,true))) else (some (false,false))))=some (r1,r2):=h
 clear h;replace H:=zay.mp H;obtain ⟨t507,A30,H⟩:=H
 replace H:(if t507=true then ((impl_isMajorized.f k l0 l1).bind fun t508=>(some (t508,true))) else (some (false,false)))=some (r1,r2):=H
 have A3:=zad A30;clear A30;by_cases c4:t507=true
 ·subst c4
  have H1:((impl_isMajorized.f k l0 l1).bind fun t508=>(some (t508,true)))=some (r1,r2):=by rw [if_pos rfl] at H;exact H
  clear H;have H:=H1;clear H1;replace H:=zay.mp H;obtain ⟨t508,A50,H⟩:=H
  replace H:(some (t508,true))=some (r1,r2):=H
  have A5:=zad A50;clear A50;simp only [zbl,zbp] at H
  obtain ⟨rfl,rfl⟩:=H
  go_enter Tryz.func9,Tryz.ntmps9
  go_wp2_with (first | ((with_reducible refine zbh (f:=27) rfl ?_);refine zbn (some 8) rfl rfl Tryz.func27 (by kernel_rfl) rfl #[.slice A0 l0.length c0,.slice A1 l1.length c1] rfl (taae) ?_;(with_reducible refine (impl_areLists.calls k _ _ l0 _ _ l1 true _ ?side1 ?side2 ?side3 ?side4 A3.out).mono ?_);(case side1=>repeat (first | exact HR0.out | (with_reducible refine zal ?_ _) | (with_reducible refine zam ?_ _) | (with_reducible refine zan ?_)));(case side2=>exact HC0.out);(case side3=>repeat (first | exact HR1.out | (with_reducible refine zal ?_ _) | (with_reducible refine zam ?_ _) | (with_reducible refine zan ?_)));(case side4=>exact HC1.out);rintro e w' ⟨rfl,⟨nd,rfl⟩⟩;refine ⟨_,rfl,?_⟩) | ((with_reducible refine zbh (f:=28) rfl ?_);refine zbn (some 12) rfl rfl Tryz.func28 (by kernel_rfl) rfl #[.slice A0 l0.length c0,.slice A1 l1.length c1] rfl (taae) ?_;(with_reducible refine (impl_isMajorized.calls k _ _ l0 _ _ l1 t508 _ ?side1 ?side2 ?side3 ?side4 A5.out).mono ?_);(case side1=>repeat (first | exact HR0.out | (with_reducible refine zal ?_ _) | (with_reducible refine zam ?_ _) | (with_reducible refine zan ?_)));(case side2=>exact HC0.out);(case side3=>repeat (first | exact HR1.out | (with_reducible refine zal ?_ _) | (with_reducible refine zam ?_ _) | (with_reducible refine zan ?_)));(case side4=>exact HC1.out);rintro e w6 ⟨rfl,hb⟩;refine ⟨_,rfl,?_⟩;have n0_:=zad (zbg (taab) hb);clear HB;have HB:=n0_;clear n0_;(try clear hb);(try clear hb2);(try clear hk);(try clear hi)))
  go_ret2
  exact ⟨taai,taab⟩
 ·replace c4:=zbi.mpr c4
  subst c4;have H1:(some (false,false))=some (r1,r2):=by rw [if_neg (show ¬ (false=true) by decide)] at H;exact H
  clear H;have H:=H1;clear H1;simp only [zbl,zbp] at H
  obtain ⟨rfl,rfl⟩:=H
  go_enter Tryz.func9,Tryz.ntmps9
  go_wp2_with (first | ((with_reducible refine zbh (f:=27) rfl ?_);refine zbn (some 8) rfl rfl Tryz.func27 (by kernel_rfl) rfl #[.slice A0 l0.length c0,.slice A1 l1.length c1] rfl (taae) ?_;(with_reducible refine (impl_areLists.calls k _ _ l0 _ _ l1 false _ ?side1 ?side2 ?side3 ?side4 A3.out).mono ?_);(case side1=>exact tafl);(case side2=>exact HC0.out);(case side3=>exact tafp);(case side4=>exact HC1.out);rintro e w' ⟨rfl,⟨nd,rfl⟩⟩;refine ⟨_,rfl,?_⟩))
  go_ret2
  exact ⟨taai,taab⟩
def impl_isBetween.f (k:Nat) (l0:List Int) (l1:List Int):Option (Bool):=(impl_areLists.f k l0 l1).bind fun t527=>(if t527=true then ((impl_isMajorized.f k l0 l1).bind fun t528=>(some t528)) else (some false))
theorem impl_isBetween.calls (k:Nat) (A0:Option Addr) (c0:Nat) (l0:List Int) (A1:Option Addr) (c1:Nat) (l1:List Int) (r:Bool) (w:World) (hr0:Kd.C (Kd.int .i64) w A0 l0.length l0) (hc0:l0.length≤c0) (hr1:Kd.C (Kd.int .i64) w A1 l1.length l1) (hc1:l1.length≤c1) (h:impl_isBetween.f k l0 l1=some r) :
 Calls Tryz.prog 29 #[.slice A0 l0.length c0,.slice A1 l1.length c1] w fun e w'=>e = .returned (.bool r)∧Below w.heap.size w w':=by
 have HR0:=zad hr0;have HC0:=zad hc0;clear hr0 hc0;have HR1:=zad hr1;have HC1:=zad hc1;clear hr1 hc1;have HB:=zad (Below.refl w.heap.size w)
 have H:((impl_areLists.f k l0 l1).bind fun t527=>(if t527=true then ((impl_isMajorized.f k l0 l1).bind fun t528=>(some t528)) else (some false)))=some r:=h
 clear h;replace H:=zay.mp H;obtain ⟨t527,A30,H⟩:=H
 replace H:(if t527=true then ((impl_isMajorized.f k l0 l1).bind fun t528=>(some t528)) else (some false))=some r:=H
 have A3:=zad A30;clear A30;by_cases c4:t527=true
 ·subst c4
  have H1:((impl_isMajorized.f k l0 l1).bind fun t528=>(some t528))=some r:=by rw [if_pos rfl] at H;exact H
  clear H;have H:=H1;clear H1;replace H:=zay.mp H;obtain ⟨t528,A50,H⟩:=H
  replace H:(some t528)=some r:=H
  have A5:=zad A50;clear A50;obtain rfl:=zbe H
  go_enter Tryz.func29,Tryz.ntmps29
  go_wp2_with (first | ((with_reducible refine zbh (f:=27) rfl ?_);refine zbn (some 7) rfl rfl Tryz.func27 (by kernel_rfl) rfl #[.slice A0 l0.length c0,.slice A1 l1.length c1] rfl (taae) ?_;(with_reducible refine (impl_areLists.calls k _ _ l0 _ _ l1 true _ ?side1 ?side2 ?side3 ?side4 A3.out).mono ?_);(case side1=>repeat (first | exact HR0.out | (with_reducible refine zal ?_ _) | (with_reducible refine zam ?_ _) | (with_reducible refine zan ?_)));(case side2=>exact HC0.out);(case side3=>repeat (first | exact HR1.out | (with_reducible refine zal ?_ _) | (with_reducible refine zam ?_ _) | (with_reducible refine zan ?_)));(case side4=>exact HC1.out);rintro e w' ⟨rfl,⟨nd,rfl⟩⟩;refine ⟨_,rfl,?_⟩) | (go_at_call 28;(with_reducible refine (impl_isMajorized.calls k _ _ l0 _ _ l1 t528 _ ?side1 ?side2 ?side3 ?side4 A5.out).mono ?_);(case side1=>repeat (first | exact HR0.out | (with_reducible refine zal ?_ _) | (with_reducible refine zam ?_ _) | (with_reducible refine zan ?_)));(case side2=>exact HC0.out);(case side3=>repeat (first | exact HR1.out | (with_reducible refine zal ?_ _) | (with_reducible refine zam ?_ _) | (with_reducible refine zan ?_)));(case side4=>exact HC1.out);rintro e w6 ⟨rfl,hb⟩;have n0_:=zad (zbg (taab) hb);clear HB;have HB:=n0_;clear n0_;(try clear hb);(try clear hb2);(try clear hk);(try clear hi)))
  go_ret
  exact ⟨taai,taab⟩
 ·replace c4:=zbi.mpr c4
  subst c4;have H1:(some false)=some r:=by rw [if_neg (show ¬ (false=true) by decide)] at H;exact H
  clear H;have H:=H1;clear H1;obtain rfl:=zbe H
  go_enter Tryz.func29,Tryz.ntmps29
  go_wp2_with (first | ((with_reducible refine zbh (f:=27) rfl ?_);refine zbn (some 7) rfl rfl Tryz.func27 (by kernel_rfl) rfl #[.slice A0 l0.length c0,.slice A1 l1.length c1] rfl (taae) ?_;(with_reducible refine (impl_areLists.calls k _ _ l0 _ _ l1 false _ ?side1 ?side2 ?side3 ?side4 A3.out).mono ?_);(case side1=>exact tafl);(case side2=>exact HC0.out);(case side3=>exact tafp);(case side4=>exact HC1.out);rintro e w' ⟨rfl,⟨nd,rfl⟩⟩;refine ⟨_,rfl,?_⟩))
  go_ret
  exact ⟨taai,taab⟩
def slices_Equal_int_int.l0:Nat→List Int→List Int→Int→Int→Option (Bool)
 | 0,_,_,_,_=>none
 | k+1,x0,x1,x12,x13=>if x13<x12 then (if 0≤x13 then (if x13<(x0.length:Int) then (if x13<(x1.length:Int) then (if (rd x0 x13)=(rd x1 x13) then (slices_Equal_int_int.l0 k x0 x1 x12 (wrap64 (x13+1))) else (some false)) else (none)) else (none)) else (none)) else (some true)
def slices_Equal_int_int.f (k:Nat) (l0:List Int) (l1:List Int):Option (Bool):=if (l0.length:Int)=(l1.length:Int) then (slices_Equal_int_int.l0 k l0 l1 (l0.length:Int) 0) else (some false)
theorem slices_Equal_int_int.calls (k:Nat) (A0:Option Addr) (c0:Nat) (l0:List Int) (A1:Option Addr) (c1:Nat) (l1:List Int) (r:Bool) (w:World) (hr0:Kd.C (Kd.int .i64) w A0 l0.length l0) (hc0:l0.length≤c0) (hr1:Kd.C (Kd.int .i64) w A1 l1.length l1) (hc1:l1.length≤c1) (h:slices_Equal_int_int.f k l0 l1=some r) :
 Calls Tryz.prog 32 #[.slice A0 l0.length c0,.slice A1 l1.length c1] w fun e w'=>e = .returned (.bool r)∧Drawn0 w w':=by
 have HR0:=zad hr0;have HC0:=zad hc0;clear hr0 hc0;have HR1:=zad hr1;have HC1:=zad hc1;clear hr1 hc1;have H:(if (l0.length:Int)=(l1.length:Int) then (slices_Equal_int_int.l0 k l0 l1 (l0.length:Int) 0) else (some false))=some r:=h
 clear h;by_cases c3:(l0.length:Int)=(l1.length:Int)
 ·rw [if_pos c3] at H
  have c3b0:((l0.length:Int) == (l1.length:Int))=true:=beq_iff_eq.mpr c3
  have c3b1:((l0.length:Int) != (l1.length:Int))=false:=bne_eq_false_iff_eq.mpr c3
  have c3b2:(l0.length == l1.length)=true:=by first | simpa using c3 | (simp at c3 ⊢;omega)
  clear c3;have H':=zad H
  clear H;go_enter Tryz.func32,Tryz.ntmps32
  go_wp2
  repeat (go_quiet (fail);try go_wp2)
  go_loopg [13] k (fun kq v13 w'=>∃ (x13_1:Int),v13 = .int .i64 x13_1∧Aside0 (slices_Equal_int_int.l0 kq l0 l1 (l0.length:Int) x13_1=some r)∧Aside0 (kq≤k)∧Drawn0 w w')
  case atStart=>exact ⟨(0),(taad),H',⟨zcf _⟩,taah⟩
  case round =>
   clear H'
   try clear c1
   try clear p2
   try clear c3
   try clear c3b0
   try clear c3b1
   try clear c3b2
   obtain ⟨x13_1,rfl,HA,HK1,⟨m1,rfl⟩⟩:=hrel
   cases gk with
   | zero=>exact absurd HA.out (by simp [slices_Equal_int_int.l0])
   | succ k1 =>
    have H:=HA.out
    clear HA;simp only [slices_Equal_int_int.l0] at H
    by_cases c4:x13_1<(l0.length:Int)
    ·rw [if_pos c4] at H
     have c4b0:decide (x13_1<(l0.length:Int))=true:=zba c4
     clear c4;by_cases c5:0≤x13_1
     ·rw [if_pos c5] at H
      have c5b0:decide (0≤x13_1)=true:=zba c5
      clear c5;by_cases c6:x13_1<(l0.length:Int)
      ·rw [if_pos c6] at H
       have c6b0:decide (x13_1<(l0.length:Int))=true:=zba c6
       clear c6;by_cases c7:x13_1<(l1.length:Int)
       ·rw [if_pos c7] at H
        have c7b0:decide (x13_1<(l1.length:Int))=true:=zba c7
        clear c7;by_cases c8:(rd l0 x13_1)=(rd l1 x13_1)
        ·rw [if_pos c8] at H
         have c8b0:((rd l0 x13_1) == (rd l1 x13_1))=true:=beq_iff_eq.mpr c8
         have c8b1:((rd l0 x13_1) != (rd l1 x13_1))=false:=bne_eq_false_iff_eq.mpr c8
         clear c8;have H':=zad H
         clear H;have p529:0≤(x13_1:Int):=zas (taaa)
         have q529:x13_1<(l0.length:Int):=zas (taaa)
         obtain ⟨ad529,e529,hx529_0⟩:=zca HR0.out x13_1 p529 q529
         cases e529
         replace p529:=eq_true p529
         replace q529:=eq_true q529
         have p530:0≤(x13_1:Int):=zas (taaa)
         have q530:x13_1<(l1.length:Int):=zas (taaa)
         obtain ⟨ad530,e530,hx530_0⟩:=zca HR1.out x13_1 p530 q530
         cases e530
         replace p530:=eq_true p530
         replace q530:=eq_true q530
         go_wp2
         repeat (go_quiet (fail);try go_wp2)
         go_roundg k1
         case measure=>have:=HK1.out;omega
         case rel=>exact ⟨(wrap64 (x13_1+1)),(taad),H',⟨taaq⟩,taah⟩
        ·rw [if_neg c8] at H
         have c8b0:((rd l0 x13_1) == (rd l1 x13_1))=false:=zbo.mpr c8
         have c8b1:((rd l0 x13_1) != (rd l1 x13_1))=true:=bne_iff_ne.mpr c8
         obtain rfl:=zbe H
         have p529:0≤(x13_1:Int):=zas (taaa)
         have q529:x13_1<(l0.length:Int):=zas (taaa)
         obtain ⟨ad529,e529,hx529_0⟩:=zca HR0.out x13_1 p529 q529
         cases e529
         replace p529:=eq_true p529
         replace q529:=eq_true q529
         have p530:0≤(x13_1:Int):=zas (taaa)
         have q530:x13_1<(l1.length:Int):=zas (taaa)
         obtain ⟨ad530,e530,hx530_0⟩:=zca HR1.out x13_1 p530 q530
         cases e530
         replace p530:=eq_true p530
         replace q530:=eq_true q530
         go_wp2
         repeat (go_quiet (fail);try go_wp2)
         go_ret
         exact ⟨taad,taah⟩
       ·rw [if_neg c7] at H
        exact absurd H (taac)
      ·rw [if_neg c6] at H
       exact absurd H (taac)
     ·rw [if_neg c5] at H
      exact absurd H (taac)
    ·rw [if_neg c4] at H
     have c4b0:decide (x13_1<(l0.length:Int))=false:=zbj c4
     clear c4;obtain rfl:=zbe H
     go_wp2
     repeat (go_quiet (fail);try go_wp2)
     go_ret
     exact ⟨taad,taah⟩
 ·rw [if_neg c3] at H
  have c3b0:((l0.length:Int) == (l1.length:Int))=false:=zbo.mpr c3
  have c3b1:((l0.length:Int) != (l1.length:Int))=true:=bne_iff_ne.mpr c3
  have c3b2:(l0.length == l1.length)=false:=by first | simpa using c3 | (simp at c3 ⊢;omega)
  obtain rfl:=zbe H
  go_enter Tryz.func32,Tryz.ntmps32
  go_wp2
  repeat (go_quiet (fail);try go_wp2)
  go_ret
  exact ⟨taad,taah⟩
def impl_given.f (l0:List Int) (a1_0:Int) (a1_1:Int) (a1_2:Int):Option (List Int):=(slices_Clone_int_int.f l0).bind fun t532=>(if 0≤a1_0 then (if a1_0<(t532.length:Int) then ((some (t532.set (a1_0:Int).toNat (wrap64 ((rd t532 a1_0) - a1_2)):List Int)).bind fun y536=>(if 0≤a1_1 then (if a1_1<(t532.length:Int) then (some (y536.set (a1_1:Int).toNat (wrap64 ((rd y536 a1_1)+a1_2)))) else (none)) else (none))) else (none)) else (none))
def impl_given.T2:Bool × List (List Nat × List Nat):=(true,[([],[]),([],[]),([1],[1]),([0,2],[0,2]),([3],[3]),([],[]),([5],[5]),([4,6],[4,6]),([0,2,0,1,2,3,4,5,6,7],[0,2]),([8,7,0,1,2,3,4,5,6,7],[7,8])])
def impl_given.B2:List Nat:=[0,0,2,7,15,0,32,127,255,511]
theorem impl_given.tab2:rtab .any (opsOf Tryz.f34 2)=impl_given.T2:=by kernel_rfl
theorem impl_given.bits2:waitsOk impl_given.T2.2 impl_given.B2=true:=by kernel_rfl
def impl_given.T3:Bool × List (List Nat × List Nat):=(true,[([],[]),([],[]),([1],[1]),([0,2],[0,2]),([3],[3]),([],[]),([5],[5]),([4,6],[4,6]),([0,2,0,1,2,3,4,5,6,7],[0,2]),([8,7,0,1,2,3,4,5,6,7],[7,8])])
def impl_given.B3:List Nat:=[0,0,2,7,15,0,32,127,255,511]
theorem impl_given.tab3:rtab .any (opsOf Tryz.f34 3)=impl_given.T3:=by kernel_rfl
theorem impl_given.bits3:waitsOk impl_given.T3.2 impl_given.B3=true:=by kernel_rfl
theorem impl_given.calls (A0:Option Addr) (c0:Nat) (l0:List Int) (a1_0:Int) (a1_1:Int) (a1_2:Int) (r:List Int) (w:World) (hr0:Kd.C (Kd.int .i64) w A0 l0.length l0) (hc0:l0.length≤c0) (h:impl_given.f l0 a1_0 a1_1 a1_2=some r) :
 Calls Tryz.prog 34 #[.slice A0 l0.length c0,.agg #[.int .i64 a1_0,.int .i64 a1_1,.int .i64 a1_2]] w fun e w'=>∃ v0_:Value,e = .returned (v0_)∧Kd.R (Kd.int .i64) 3 w' w.heap.size (fun _=>True) v0_ r∧Below w.heap.size w w':=by
 have hu58:=Tryz.underlying58
 have HR0:=zad hr0;have HC0:=zad hc0;clear hr0 hc0;have HB:=zad (Below.refl w.heap.size w)
 have H:((slices_Clone_int_int.f l0).bind fun t532=>(if 0≤a1_0 then (if a1_0<(t532.length:Int) then ((some (t532.set (a1_0:Int).toNat (wrap64 ((rd t532 a1_0) - a1_2)):List Int)).bind fun y536=>(if 0≤a1_1 then (if a1_1<(t532.length:Int) then (some (y536.set (a1_1:Int).toNat (wrap64 ((rd y536 a1_1)+a1_2)))) else (none)) else (none))) else (none)) else (none)))=some r:=h
 clear h;replace H:=zay.mp H;obtain ⟨t532,A30,H⟩:=H
 replace H:(if 0≤a1_0 then (if a1_0<(t532.length:Int) then ((some (t532.set (a1_0:Int).toNat (wrap64 ((rd t532 a1_0) - a1_2)):List Int)).bind fun y536=>(if 0≤a1_1 then (if a1_1<(t532.length:Int) then (some (y536.set (a1_1:Int).toNat (wrap64 ((rd y536 a1_1)+a1_2)))) else (none)) else (none))) else (none)) else (none))=some r:=H
 have A3:=zad A30;clear A30;by_cases c4:0≤a1_0
 ·rw [if_pos c4] at H
  have c4b0:decide (0≤a1_0)=true:=zba c4
  clear c4;by_cases c5:a1_0<(t532.length:Int)
  ·rw [if_pos c5] at H
   have c5b0:decide (a1_0<(t532.length:Int))=true:=zba c5
   clear c5;obtain ⟨y536,hy536⟩:∃ y_:List Int,y_=(t532.set (a1_0:Int).toNat (wrap64 ((rd t532 a1_0) - a1_2))):=⟨_,rfl⟩
   replace H:(if 0≤a1_1 then (if a1_1<(t532.length:Int) then (some (y536.set (a1_1:Int).toNat (wrap64 ((rd y536 a1_1)+a1_2)))) else (none)) else (none))=some r:=by first | (rw [hy536];with_reducible exact H) | (have H2_:=(zbd _ _).symm.trans H;rw [hy536];with_reducible exact H2_) | (have H2_:=(zbd _ _).symm.trans H;with_reducible exact H2_) | with_reducible exact H | (rw [hy536];exact H) | exact H
   have Ny536:=zad hy536;clear hy536;by_cases c7:0≤a1_1
   ·rw [if_pos c7] at H
    have c7b0:decide (0≤a1_1)=true:=zba c7
    clear c7;by_cases c8:a1_1<(t532.length:Int)
    ·rw [if_pos c8] at H
     have c8b0:decide (a1_1<(t532.length:Int))=true:=zba c8
     clear c8;obtain ⟨y538,hy538⟩:∃ y_:List Int,y_=(y536.set (a1_1:Int).toNat (wrap64 ((rd y536 a1_1)+a1_2))):=⟨_,rfl⟩
     replace H:(some y538)=some r:=by first | (rw [hy538];with_reducible exact H) | (have H2_:=(zbd _ _).symm.trans H;rw [hy538];with_reducible exact H2_) | (have H2_:=(zbd _ _).symm.trans H;with_reducible exact H2_) | with_reducible exact H | (rw [hy538];exact H) | exact H
     have Ny538:=zad hy538;clear hy538;obtain rfl:=zbe H
     go_enter Tryz.func34,Tryz.ntmps34
     try go_wp2_with (first | ((with_reducible refine gate_dst (N:=3) rfl ?_);refine box_event ?hg (N:=3) ?hd (cs:=#[.int .i64 a1_0,.int .i64 a1_1,.int .i64 a1_2]) (t:=58) ?hr ?_;(case hd=>rfl);(case hg=>rfl);(case hr=>first | (go_simp;done) | (go_simp;rfl));intro gb531 hg w10 hbox hb;have n0_:=zad (zbg (taab) hb);have n1_:=zad (hbox);have n2_:=zad ((tafa:w.heap.size≤gb531));have n3_:=zad ((tafa:w.heap.size≤gb531));clear HB;have HB:=n0_;have BK531:=n1_;have GW531:=n2_;have GE531:=n3_;clear n0_ n1_ n2_ n3_ hb hbox hg) | ((with_reducible refine zbh (f:=64) rfl ?_);refine zbn (some 7) rfl rfl Tryz.func64 (by kernel_rfl) rfl #[.slice A0 l0.length c0] rfl (taae) ?_;(with_reducible refine (slices_Clone_int_int.calls _ _ l0 t532 _ ?side1 ?side2 A3.out).mono ?_);(case side1=>exact tafm);(case side2=>exact HC0.out);rintro e w11 ⟨v533,rfl,ho0,hb⟩;refine ⟨_,rfl,?_⟩;have n0_:=zad (zbu ho0 (zbk (taeh)));have n1_:=zad (blk_below (g:=gb531) (o := .cells #[.int .i64 a1_0,.int .i64 a1_1,.int .i64 a1_2] 58 (0,0)) (by (with_reducible repeat (first | refine blk_drewN ?_ _ | refine blk_drew ?_ | refine blk_alloc ?_ _));exact BK531.out) hb);have n2_:=zad (zbg (taeh) hb);clear BK531 HB;have HO534:=n0_;have BK531:=n1_;have HB:=n2_;clear n0_ n1_ n2_;(try clear hb);(try clear hb2);(try clear hk);(try clear hi);(try clear ho0)))
     have n0_:=zad (zak HO534.out)
     have n1_:=zad (blk_drew BK531.out)
     have n2_:=zad (zaf HB.out)
     clear HO534 BK531 HB;have HO534:=n0_;have BK531:=n1_;have HB:=n2_;clear n0_ n1_ n2_;obtain ⟨Ao13,co13,eo13⟩:=zbv HO534.out
     (first | subst eo13 | (injection eo13 with f1_ f2_ f3_;have f4_:=f1_.symm;have f5_:=f3_.symm;clear f1_ f2_ f3_;subst f4_;subst f5_))
     have p535:0≤(a1_0:Int):=zas (taaa)
     have q535:a1_0<(t532.length:Int):=zas (taaa)
     obtain ⟨ad535,e535,hx535_0⟩:=zca (zbf HO534.out).2.2 a1_0 p535 q535
     cases e535
     replace p535:=eq_true p535
     replace q535:=eq_true q535
     have p6:0≤(a1_0:Int):=zas (taaa)
     have q6:(a1_0:Int)<((t532.length:Int):Int):=zas (taaa)
     obtain ⟨go6,co6,eo6,gb6,gl6,cl6,HG6⟩:=Kd.R_form HO534.out (by omega)
     (first | cases eo6 | (injection eo6 with ea_ en_ ec_;(first | subst ea_ | (injection ea_ with ea_;subst ea_));subst ec_;clear en_))
     have GB6:=zad gb6;have GG6:=zad HG6;clear gb6 gl6 HG6;(first | simp only [add_plain] at hx535_0 | skip)
     obtain ⟨hx6_0,hf6_0⟩:=Kd.R_celln 0 HO534.out (a1_0:Int) p6 q6
     replace p6:=eq_true p6
     replace q6:=eq_true q6
     have HP14:=Kd.R_putn HO534.out (a1_0:Int) (wrap64 ((rd t532 a1_0) - a1_2))
     rw [← Ny536.out] at HP14
     have HQ14:=zad HP14;clear HP14;refine start_ (n:=10) (S:=fun w'=>w'.cell? ⟨gb531,0,none⟩=some (.int .i64 a1_0)∧w'.cell? ⟨gb531,1,none⟩=some (.int .i64 a1_1)∧w'.cell? ⟨gb531,2,none⟩=some (.int .i64 a1_2)∧w'.cell? ⟨go6,(a1_0).toNat,none⟩=some (.int .i64 (rd t532 a1_0))) (ds:=[9]) #[false,false,false,false,false,false,false,false,false,false] (by kernel_rfl) rfl rfl ⟨(blk_cell BK531.out 0).trans rfl,(blk_cell BK531.out 1).trans rfl,(blk_cell BK531.out 2).trans rfl,hx535_0⟩ (fun hHeld => ?_);refine with_tabW impl_given.tab2 impl_given.bits2 (fun HT_ HW_ => ?_)
     generalize w11.drew=w12 at HO534 BK531 HB GG6 HQ14 hf6_0 hx535_0 hx6_0 hHeld ⊢
     refine pure_ (i:=0) (N:=some 8) (v := ?_) (a' := ?_) #[true,false,false,false,false,false,false,false,false,false] rfl rfl (zby HT_.out (by kernel_rfl)) (fun _ _ _ h=>h) (Or.inl ⟨by rfl,?_⟩) ?_ ?_
     rotate_left
     ·intro w'
      go_simp;with_reducible rfl
     rotate_left
     ·simp only [Act.put,zaa,zab,zac,zbw,zbx]
      rfl
     refine pure_ (i:=1) (N:=some 9) (v := ?_) (a' := ?_) #[true,true,false,false,false,false,false,false,false,false] rfl rfl (zby HT_.out (by kernel_rfl)) (fun _ _ _ h=>h) (Or.inl ⟨by rfl,?_⟩) ?_ ?_
     rotate_left
     ·intro w'
      go_simp;with_reducible rfl
     rotate_left
     ·simp only [Act.put,zaa,zab,zac,zbw,zbx]
      rfl
     refine pure_ (i:=5) (N:=some 13) (v := ?_) (a' := ?_) #[true,true,false,false,false,true,false,false,false,false] rfl rfl (zby HT_.out (by kernel_rfl)) (fun _ _ _ h=>h) (Or.inl ⟨by rfl,?_⟩) ?_ ?_
     rotate_left
     ·intro w'
      go_simp;with_reducible rfl
     rotate_left
     ·simp only [Act.put,zaa,zab,zac,zbw,zbx]
      rfl
     refine take_ (i:=2) (N:=some 10) (v := ?_) (a' := ?_) #[true,true,true,false,false,true,false,false,false,false] rfl rfl (zbz HT_.out HW_.out (by kernel_rfl)) (fun _ _ _ h=>h) (Or.inl ⟨by rfl,?_⟩) hHeld ?_ ?_
     rotate_left
     ·rintro w' ⟨s0,s1,s2,s3⟩
      go_simp;with_reducible rfl
     rotate_left
     ·simp only [Act.put,zaa,zab,zac,zbw,zbx]
      rfl
     refine pure_ (i:=3) (N:=some 11) (v := ?_) (a' := ?_) #[true,true,true,true,false,true,false,false,false,false] rfl rfl (zby HT_.out (by kernel_rfl)) (fun _ _ _ h=>h) (Or.inl ⟨by rfl,?_⟩) ?_ ?_
     rotate_left
     ·intro w'
      go_simp;with_reducible rfl
     rotate_left
     ·simp only [Act.put,zaa,zab,zac,zbw,zbx]
      rfl
     refine take_ (i:=4) (N:=some 12) (v := ?_) (a' := ?_) #[true,true,true,true,true,true,false,false,false,false] rfl rfl (zbz HT_.out HW_.out (by kernel_rfl)) (fun _ _ _ h=>h) (Or.inl ⟨by rfl,?_⟩) hHeld ?_ ?_
     rotate_left
     ·rintro w' ⟨s0,s1,s2,s3⟩
      go_simp;with_reducible rfl
     rotate_left
     ·simp only [Act.put,zaa,zab,zac,zbw,zbx]
      rfl
     refine take_ (i:=6) (N:=some 14) (v := ?_) (a' := ?_) #[true,true,true,true,true,true,true,false,false,false] rfl rfl (zbz HT_.out HW_.out (by kernel_rfl)) (fun _ _ _ h=>h) (Or.inl ⟨by rfl,?_⟩) hHeld ?_ ?_
     rotate_left
     ·rintro w' ⟨s0,s1,s2,s3⟩
      go_simp;with_reducible rfl
     rotate_left
     ·simp only [Act.put,zaa,zab,zac,zbw,zbx]
      rfl
     refine pure_ (i:=7) (N:=some 15) (v := ?_) (a' := ?_) #[true,true,true,true,true,true,true,true,false,false] rfl rfl (zby HT_.out (by kernel_rfl)) (fun _ _ _ h=>h) (Or.inl ⟨by rfl,?_⟩) ?_ ?_
     rotate_left
     ·intro w'
      go_simp;with_reducible rfl
     rotate_left
     ·simp only [Act.put,zaa,zab,zac,zbw,zbx]
      rfl
     refine pure_ (i:=8) (N:=some 16) (v := ?_) (a' := ?_) #[true,true,true,true,true,true,true,true,true,false] rfl rfl (zby HT_.out (by kernel_rfl)) (fun _ _ _ h=>h) (Or.inl ⟨by rfl,?_⟩) ?_ ?_
     rotate_left
     ·intro w'
      go_simp;with_reducible rfl
     rotate_left
     ·simp only [Act.put,zaa,zab,zac,zbw,zbx]
      rfl
     refine last_ (i:=9) (N:=none) #[true,true,true,true,true,true,true,true,true,true] rfl rfl (one_of HT_.out (by kernel_rfl)) (by decide) (fun K hK => ?_)
     refine skip_ (w1 := ?_) (by rfl) rfl ?_ ?_
     rotate_left
     ·go_simp
      rfl
     refine hK.out _ _ ?_
     clear hK K;refine done_ (done_of HT_.out (by kernel_rfl)) ?_
     try go_wp2
     have n0_:Aside0 (Kd.R (Kd.int .i64) 3 (w12.setCell ⟨go6,(a1_0:Int).toNat,none⟩ (.int .i64 (wrap64 ((rd t532 a1_0) - a1_2)))) w.heap.size (fun _=>True) (.slice (some ⟨go6,0,none⟩) t532.length co13) y536):=⟨by (with_reducible repeat (first | apply zai | apply zaj | apply zak));exact HQ14.out⟩
     have n1_:Aside0 ((w12.setCell ⟨go6,(a1_0:Int).toNat,none⟩ (.int .i64 (wrap64 ((rd t532 a1_0) - a1_2)))).heap[gb531]? = some (.cells #[.int .i64 a1_0,.int .i64 a1_1,.int .i64 a1_2] 58 (0,0))):=⟨by (with_reducible repeat (first | refine blk_drewN ?_ _ | refine blk_drew ?_ | refine blk_alloc ?_ _));refine blk_far ?_ (by have h_:=Kd.R_ne HO534.out BK531.out (by decide);intro e_;exact h_ (by rw [e_];rfl)) _;(with_reducible repeat (first | refine blk_drewN ?_ _ | refine blk_drew ?_ | refine blk_alloc ?_ _));exact BK531.out⟩
     have n2_:Aside0 (Below w.heap.size w (w12.setCell ⟨go6,(a1_0:Int).toNat,none⟩ (.int .i64 (wrap64 ((rd t532 a1_0) - a1_2))))):=⟨taei⟩
     (try clear HO534);(try clear BK531);(try clear HB);generalize (w12.setCell ⟨go6,(a1_0:Int).toNat,none⟩ (.int .i64 (wrap64 ((rd t532 a1_0) - a1_2))))=w15 at n0_ n1_ n2_ ⊢
     have HO534:=n0_;have BK531:=n1_;have HB:=n2_;clear n0_ n1_ n2_;have n0_:=zad (zak HO534.out)
     have n1_:=zad (blk_drew BK531.out)
     have n2_:=zad (zaf HB.out)
     clear HO534 BK531 HB;have HO534:=n0_;have BK531:=n1_;have HB:=n2_;clear n0_ n1_ n2_;have p537:0≤(a1_1:Int):=zas (taaa)
     have q537:a1_1<(y536.length:Int):=(by have h_:(a1_1:Int)<((t532.length:Int):Int):=zas (taaa);first | (have e_:=(zbf HO534.out).1;omega) | simpa only [Ny536.out,List.length_set] using h_)
     have ql537:((a1_1:Int)<((t532.length:Int):Int))=True:=eq_true (zas (taaa))
     obtain ⟨ad537,e537,hx537_0⟩:=zca (zbf HO534.out).2.2 a1_1 p537 q537
     obtain rfl:(⟨go6,0,none⟩:Addr)=ad537:=(by injection e537)
     (first | simp only [add_plain] at hx537_0 | simp only [add_at] at hx537_0 | simp only [Addr.add,Nat.zero_add] at hx537_0 | skip)
     replace p537:=eq_true p537
     replace q537:=eq_true q537
     have p9:0≤(a1_1:Int):=zas (taaa)
     have q9:(a1_1:Int)<((t532.length:Int):Int):=zas (taaa)
     obtain ⟨hx9_0,hf9_0⟩:=Kd.R_celln 0 HO534.out (a1_1:Int) p9 q9
     replace p9:=eq_true p9
     replace q9:=eq_true q9
     have HP17:=Kd.R_putn HO534.out (a1_1:Int) (wrap64 ((rd y536 a1_1)+a1_2))
     rw [← Ny538.out] at HP17
     have HQ17:=zad HP17;clear HP17;refine start_ (n:=10) (S:=fun w'=>w'.cell? ⟨gb531,0,none⟩=some (.int .i64 a1_0)∧w'.cell? ⟨gb531,1,none⟩=some (.int .i64 a1_1)∧w'.cell? ⟨gb531,2,none⟩=some (.int .i64 a1_2)∧w'.cell? ⟨go6,(a1_1).toNat,none⟩=some (.int .i64 (rd y536 a1_1))) (ds:=[9]) #[false,false,false,false,false,false,false,false,false,false] (by kernel_rfl) rfl rfl ⟨(blk_cell BK531.out 0).trans rfl,(blk_cell BK531.out 1).trans rfl,(blk_cell BK531.out 2).trans rfl,hx537_0⟩ (fun hHeld => ?_);refine with_tabW impl_given.tab3 impl_given.bits3 (fun HT_ HW_ => ?_)
     generalize w15.drew=w16 at HO534 BK531 HB HQ14 HQ17 hf9_0 hx537_0 hx9_0 hHeld ⊢
     refine pure_ (i:=0) (N:=some 17) (v := ?_) (a' := ?_) #[true,false,false,false,false,false,false,false,false,false] rfl rfl (zby HT_.out (by kernel_rfl)) (fun _ _ _ h=>h) (Or.inl ⟨by rfl,?_⟩) ?_ ?_
     rotate_left
     ·intro w'
      go_simp;with_reducible rfl
     rotate_left
     ·simp only [Act.put,zaa,zab,zac,zbw,zbx]
      rfl
     refine pure_ (i:=1) (N:=some 18) (v := ?_) (a' := ?_) #[true,true,false,false,false,false,false,false,false,false] rfl rfl (zby HT_.out (by kernel_rfl)) (fun _ _ _ h=>h) (Or.inl ⟨by rfl,?_⟩) ?_ ?_
     rotate_left
     ·intro w'
      go_simp;with_reducible rfl
     rotate_left
     ·simp only [Act.put,zaa,zab,zac,zbw,zbx]
      rfl
     refine pure_ (i:=5) (N:=some 22) (v := ?_) (a' := ?_) #[true,true,false,false,false,true,false,false,false,false] rfl rfl (zby HT_.out (by kernel_rfl)) (fun _ _ _ h=>h) (Or.inl ⟨by rfl,?_⟩) ?_ ?_
     rotate_left
     ·intro w'
      go_simp;with_reducible rfl
     rotate_left
     ·simp only [Act.put,zaa,zab,zac,zbw,zbx]
      rfl
     refine take_ (i:=2) (N:=some 19) (v := ?_) (a' := ?_) #[true,true,true,false,false,true,false,false,false,false] rfl rfl (zbz HT_.out HW_.out (by kernel_rfl)) (fun _ _ _ h=>h) (Or.inl ⟨by rfl,?_⟩) hHeld ?_ ?_
     rotate_left
     ·rintro w' ⟨s0,s1,s2,s3⟩
      go_simp;with_reducible rfl
     rotate_left
     ·simp only [Act.put,zaa,zab,zac,zbw,zbx]
      rfl
     refine pure_ (i:=3) (N:=some 20) (v := ?_) (a' := ?_) #[true,true,true,true,false,true,false,false,false,false] rfl rfl (zby HT_.out (by kernel_rfl)) (fun _ _ _ h=>h) (Or.inl ⟨by rfl,?_⟩) ?_ ?_
     rotate_left
     ·intro w'
      go_simp;with_reducible rfl
     rotate_left
     ·simp only [Act.put,zaa,zab,zac,zbw,zbx]
      rfl
     refine take_ (i:=4) (N:=some 21) (v := ?_) (a' := ?_) #[true,true,true,true,true,true,false,false,false,false] rfl rfl (zbz HT_.out HW_.out (by kernel_rfl)) (fun _ _ _ h=>h) (Or.inl ⟨by rfl,?_⟩) hHeld ?_ ?_
     rotate_left
     ·rintro w' ⟨s0,s1,s2,s3⟩
      go_simp;with_reducible rfl
     rotate_left
     ·simp only [Act.put,zaa,zab,zac,zbw,zbx]
      rfl
     refine take_ (i:=6) (N:=some 23) (v := ?_) (a' := ?_) #[true,true,true,true,true,true,true,false,false,false] rfl rfl (zbz HT_.out HW_.out (by kernel_rfl)) (fun _ _ _ h=>h) (Or.inl ⟨by rfl,?_⟩) hHeld ?_ ?_
     rotate_left
     ·rintro w' ⟨s0,s1,s2,s3⟩
      go_simp;with_reducible rfl
     rotate_left
     ·simp only [Act.put,zaa,zab,zac,zbw,zbx]
      rfl
     refine pure_ (i:=7) (N:=some 24) (v := ?_) (a' := ?_) #[true,true,true,true,true,true,true,true,false,false] rfl rfl (zby HT_.out (by kernel_rfl)) (fun _ _ _ h=>h) (Or.inl ⟨by rfl,?_⟩) ?_ ?_
     rotate_left
     ·intro w'
      go_simp;with_reducible rfl
     rotate_left
     ·simp only [Act.put,zaa,zab,zac,zbw,zbx]
      rfl
     refine pure_ (i:=8) (N:=some 25) (v := ?_) (a' := ?_) #[true,true,true,true,true,true,true,true,true,false] rfl rfl (zby HT_.out (by kernel_rfl)) (fun _ _ _ h=>h) (Or.inl ⟨by rfl,?_⟩) ?_ ?_
     rotate_left
     ·intro w'
      go_simp;with_reducible rfl
     rotate_left
     ·simp only [Act.put,zaa,zab,zac,zbw,zbx]
      rfl
     refine last_ (i:=9) (N:=none) #[true,true,true,true,true,true,true,true,true,true] rfl rfl (one_of HT_.out (by kernel_rfl)) (by decide) (fun K hK => ?_)
     refine skip_ (w1 := ?_) (by rfl) rfl ?_ ?_
     rotate_left
     ·go_simp
      rfl
     refine hK.out _ _ ?_
     clear hK K;refine done_ (done_of HT_.out (by kernel_rfl)) ?_
     try go_wp2
     go_ret
     exact ⟨_,taai,by (with_reducible repeat (first | apply zai | apply zaj | apply zak));exact HQ17.out,taei⟩
    ·rw [if_neg c8] at H
     exact absurd H (taac)
   ·rw [if_neg c7] at H
    exact absurd H (taac)
  ·rw [if_neg c5] at H
   exact absurd H (taac)
 ·rw [if_neg c4] at H
  exact absurd H (taac)
def impl_divisor.l0:Nat→Int→Int→Option (Int)
 | 0,_,_=>none
 | k+1,x0,x1=>if x1=0 then (some x0) else (impl_divisor.l0 k x1 (Int.tmod x0 x1))
def impl_divisor.f (k:Nat) (a0:Int) (a1:Int):Option (Int):=impl_divisor.l0 k a0 a1
theorem impl_divisor.calls (k:Nat) (a0:Int) (a1:Int) (r:Int) (w:World) (h:impl_divisor.f k a0 a1=some r) :
 Calls Tryz.prog 36 #[.int .i64 a0,.int .i64 a1] w fun e w'=>e = .returned (.int .i64 r)∧Drawn0 w w':=by
 have H:(impl_divisor.l0 k a0 a1)=some r:=h
 clear h;have H':=zad H
 clear H;go_enter Tryz.func36,Tryz.ntmps36
 go_wp2
 repeat (go_quiet (fail);try go_wp2)
 go_loopg [0,1] k (fun kq v0 v1 w'=>∃ (x0_1:Int) (x1_1:Int),v0 = .int .i64 x0_1∧v1 = .int .i64 x1_1∧Aside0 (impl_divisor.l0 kq x0_1 x1_1=some r)∧Aside0 (kq≤k)∧Drawn0 w w')
 case atStart=>exact ⟨(a0),(a1),(taad),(taad),H',⟨zcf _⟩,taah⟩
 case round =>
  clear H'
  try clear p2
  obtain ⟨x0_1,x1_1,rfl,rfl,HA,HK1,⟨m1,rfl⟩⟩:=hrel
  cases gk with
  | zero=>exact absurd HA.out (by simp [impl_divisor.l0])
  | succ k1 =>
   have H:=HA.out
   clear HA;simp only [impl_divisor.l0] at H
   by_cases c3:x1_1=0
   ·rw [if_pos c3] at H
    have c3b0:(x1_1 == 0)=true:=beq_iff_eq.mpr c3
    have c3b1:(x1_1 != 0)=false:=bne_eq_false_iff_eq.mpr c3
    clear c3;obtain rfl:=zbe H
    go_wp2
    repeat (go_quiet (fail);try go_wp2)
    go_ret
    exact ⟨taad,taah⟩
   ·rw [if_neg c3] at H
    have c3b0:(x1_1 == 0)=false:=zbo.mpr c3
    have c3b1:(x1_1 != 0)=true:=bne_iff_ne.mpr c3
    have H':=zad H
    clear H;go_wp2
    repeat (go_quiet (fail);try go_wp2)
    go_roundg k1
    case measure=>have:=HK1.out;omega
    case rel=>exact ⟨(x1_1),(Int.tmod x0_1 x1_1),(taad),(taad),H',⟨taaq⟩,taah⟩
theorem goesF_ {P:Program} {ops:Array Oper} {Q:Exit→Act→World→Prop} {rest:List Oper} {oi:Oper} {a:Act} {w:World} (N:Option Tmp) (hd:oi.dst=N) (hg:oi.guard=none) (t:Tmp) (g:Nat) (lb:Array Value) {xs:Array Operand} {ts:Array TypeId} (eg:∀ args w,(callFunc g args).run P w = .ok (.enter g args) w) (args:Array Value)
 (hop:oi.op = .call { callee := .value (.tmp t),args:=xs,argTypes:=ts }) (hf:a.eval (.tmp t) = .func (.func g) #[] lb) (hargs:xs.map a.eval=args)
 (h:Calls P g (args ++ lb) w fun e w'=>∃ v,e = .returned v∧wpList P ops Q rest (a.put N v) w'):wpList P ops Q (oi :: rest) a w:=by
 refine wpList_plain hg fun K hK => ?_
 have hrun:(execOp a.eval oi).run P w = .ok (.enter g (args ++ lb)) w:=by
  have he:=eg (args ++ lb) w
  unfold execOp
  simp only [hop,resolve,hf,Deferred.ofValue,hargs]
  simpa [invoke] using he
 unfold Oper.wp
 rw [hrun,Oper.upon_enter]
 refine h.mono fun e w'' hh => ?_
 obtain ⟨v,rfl,hk⟩:=hh
 subst hd;exact hK _ _ hk
mutual
def impl_square.l0 (F:Int→Int→Option Int):Nat→Int→List (List Int)→Int→Int→Option ((List (List Int)))
 | 0,_,_,_,_=>none
 | k+1,x0,x5,x10,x11=>if x11<x10 then (impl_square.l1 F k x0 x5 x11 (([]:List Int)) x10 x11 x0 0) else (some x5)
def impl_square.l1 (F:Int→Int→Option Int):Nat→Int→List (List Int)→Int→List Int→Int→Int→Int→Int→Option ((List (List Int)))
 | 0,_,_,_,_,_,_,_,_=>none
 | k+1,x0,x5,x6,x7,x10,x11,x15,x16=>if x16<x15 then ((F x6 x16).bind fun t203=>(if x7.length<17592186044416 then (impl_square.l1 F k x0 x5 x6 (x7 ++ [t203]) x10 x11 x15 (wrap64 (x16+1))) else (none))) else (if x5.length<5864062014805 then (impl_square.l0 F k x0 (x5 ++ [x7]) x10 (wrap64 (x11+1))) else (none))
end
def impl_square.f (F:Int→Int→Option Int) (k:Nat) (a0:Int):Option ((List (List Int))):=impl_square.l0 F k a0 (([]:List (List Int))) a0 0
theorem impl_square.calls (F:Int→Int→Option Int) (g:Nat) (lb:Array Value) (eg:∀ args w,(callFunc g args).run Tryz.prog w = .ok (.enter g args) w) (k:Nat) (a0:Int) (r:List (List Int)) (w:World) (hF:∀ (i j t:Int) (W:World),F i j=some t→Below w.heap.size w W→Calls Tryz.prog g (#[.int .i64 i,.int .i64 j] ++ lb) W fun e w'=>e = .returned (.int .i64 t)∧Below W.heap.size W w') (h:impl_square.f F k a0=some r) :
 Calls Tryz.prog 38 #[.int .i64 a0,.func (.func g) #[] lb] w fun e w'=>∃ v0_:Value,e = .returned (v0_)∧Kd.S (Kd.slice 3 (Kd.int .i64)) 25 w' w.heap.size (fun _=>True) v0_ r∧Below w.heap.size w w':=by
 have HF:=zad hF;have EG:=zad eg;clear hF eg;have HB:=zad (Below.refl w.heap.size w)
 have H:(impl_square.l0 F k a0 (([]:List (List Int))) a0 0)=some r:=h
 clear h;obtain ⟨y197,hy197⟩:∃ y_:List (List Int),y_=(([]:List (List Int))):=⟨_,rfl⟩
 replace H:(impl_square.l0 F k a0 y197 a0 0)=some r:=by first | (rw [hy197];with_reducible exact H) | (have H2_:=(zbd _ _).symm.trans H;rw [hy197];with_reducible exact H2_) | (have H2_:=(zbd _ _).symm.trans H;with_reducible exact H2_) | with_reducible exact H | (rw [hy197];exact H) | exact H
 have Ny197:=zad hy197;clear hy197;have H':=zad H
 clear H;go_enter Tryz.func38,Tryz.ntmps38
 go_wp2_with (first | ((with_reducible refine gate_dst (N:=9) rfl ?_);refine Kd.S_lit (Kd.slice 3 (Kd.int .i64)) _ 25 ?hg (N:=9) ?hd (xs:=([]:List (List Int))) (inner:=[]) (ok:=fun _=>True) (okp:=fun _=>True) ?hr ?hp (fun _ hk=>hk) trivial (Below.refl _ _) (zcf _) (taac) ?_;(case hd=>rfl);(case hg=>rfl);(case hr=>first | (go_simp;done) | (go_simp;rfl));(case hp=>exact (Reps.none _ _));intro v198 w3 ho4 hb hg_ hnew_;clear hg_ hnew_;(first | rw [← Ny197.out] at ho4 | (simp only [Int.reduceToNat] at ho4;rw [← Ny197.out] at ho4));have n0_:=zad (Kd.S_lower ho4 (zbk (taab)));have n1_:=zad (zbg (taab) hb);clear HB;have HO199:=n0_;have HB:=n1_;clear n0_ n1_ hb ho4))
 go_loopg [5,11] k (fun kq v5 v11 w'=>∃ (x5_1:List (List Int)) (x11_1:Int),v11 = .int .i64 x11_1∧Aside0 (impl_square.l0 F kq a0 x5_1 a0 x11_1=some r)∧Aside0 (kq≤k)∧Aside0 (Kd.S (Kd.slice 3 (Kd.int .i64)) 25 w' w.heap.size (fun _=>True) v5 x5_1)∧Aside0 (Below w.heap.size w w'))
 case atStart=>exact ⟨(y197),(0),(taad),H',⟨zcf _⟩,⟨by (with_reducible repeat (first | apply Kd.S_alloc | apply Kd.S_drewN | apply Kd.S_drew));exact HO199.out⟩,⟨taab⟩⟩
 case round =>
  clear H'
  try clear p2
  try clear c4
  obtain ⟨x5_1,x11_1,rfl,HA,HK1,HO_5,HB⟩:=hrel
  cases gk with
  | zero=>exact absurd HA.out (by simp [impl_square.l0])
  | succ k1 =>
   have H:=HA.out
   clear HA;simp only [impl_square.l0] at H
   by_cases c5:x11_1<a0
   ·rw [if_pos c5] at H
    have c5b0:decide (x11_1<a0)=true:=zba c5
    clear c5;obtain ⟨y200,hy200⟩:∃ y_:List Int,y_=(([]:List Int)):=⟨_,rfl⟩
    replace H:(impl_square.l1 F k1 a0 x5_1 x11_1 y200 a0 x11_1 a0 0)=some r:=by first | (rw [hy200];with_reducible exact H) | (have H2_:=(zbd _ _).symm.trans H;rw [hy200];with_reducible exact H2_) | (have H2_:=(zbd _ _).symm.trans H;with_reducible exact H2_) | with_reducible exact H | (rw [hy200];exact H) | exact H
    have Ny200:=zad hy200;clear hy200;have H':=zad H
    clear H;go_wp2_with (first | ((with_reducible refine gate_dst (N:=14) rfl ?_);refine Kd.R_lit (Kd.int .i64) _ 3 ?hg (N:=14) ?hd (xs:=([]:List Int)) (inner:=[]) (ok:=fun _=>True) (okp:=fun _=>True) ?hr ?hp (fun _ hk=>hk) trivial (Below.refl _ _) (zcf _) (taac) ?_;(case hd=>rfl);(case hg=>rfl);(case hr=>first | (go_simp;done) | (go_simp;rfl));(case hp=>exact (Reps.none _ _));intro v201 w6 ho7 hb hg_ hnew_;clear hg_ hnew_;(first | rw [← Ny200.out] at ho7 | (simp only [Int.reduceToNat] at ho7;rw [← Ny200.out] at ho7));have n0_:=zad (Kd.S_elder' (taaz) (zcd ho7) hb);have n1_:=zad (zbu ho7 (zbk (taab)));have n2_:=zad (zbg (taab) hb);clear HO_5 HB;have HO_5:=n0_;have HO202:=n1_;have HB:=n2_;clear n0_ n1_ n2_ hb ho7))
    go_loopg [7,16] k1 (fun kq v7 v16 w'=>∃ (x7_2:List Int) (x16_2:Int),v16 = .int .i64 x16_2∧Aside0 (impl_square.l1 F kq a0 x5_1 x11_1 x7_2 a0 x11_1 a0 x16_2=some r)∧Aside0 (kq≤k1)∧Aside0 (Kd.S (Kd.slice 3 (Kd.int .i64)) 25 w' w.heap.size (fun k_=>some k_≠(v7:Value).ownBlock) u5 x5_1)∧Aside0 (Kd.R (Kd.int .i64) 3 w' w.heap.size (fun _=>True) v7 x7_2)∧Aside0 (Below w.heap.size w w'))
    case atStart=>exact ⟨(y200),(0),(taad),H',⟨zcf _⟩,⟨tacp⟩,⟨by (with_reducible repeat (first | apply zai | apply zaj | apply zak));exact HO202.out⟩,⟨taab⟩⟩
    case round =>
     clear H'
     try clear p2
     try clear c4
     try clear c5
     try clear c5b0
     try clear p2
     obtain ⟨x7_2,x16_2,rfl,HA,HK2,HO_5,HO_7,HB⟩:=hrel
     cases gk with
     | zero=>exact absurd HA.out (by simp [impl_square.l1])
     | succ k2 =>
      have H:=HA.out
      clear HA;simp only [impl_square.l1] at H
      by_cases c8:x16_2<a0
      ·rw [if_pos c8] at H
       have c8b0:decide (x16_2<a0)=true:=zba c8
       clear c8;replace H:=zay.mp H;obtain ⟨t203,A90,H⟩:=H
       replace H:(if x7_2.length<17592186044416 then (impl_square.l1 F k2 a0 x5_1 x11_1 (x7_2 ++ [t203]) a0 x11_1 a0 (wrap64 (x16_2+1))) else (none))=some r:=H
       have A9:=zad A90;clear A90;by_cases c10:x7_2.length<17592186044416
       ·rw [if_pos c10] at H
        have LMc10:=zad c10;clear c10;obtain ⟨y204,hy204⟩:∃ y_:List Int,y_=(x7_2 ++ [t203]):=⟨_,rfl⟩
        replace H:(impl_square.l1 F k2 a0 x5_1 x11_1 y204 a0 x11_1 a0 (wrap64 (x16_2+1)))=some r:=by first | (rw [hy204];with_reducible exact H) | (have H2_:=(zbd _ _).symm.trans H;rw [hy204];with_reducible exact H2_) | (have H2_:=(zbd _ _).symm.trans H;with_reducible exact H2_) | with_reducible exact H | (rw [hy204];exact H) | exact H
        have Ny204:=zad hy204;clear hy204;have H':=zad H
        clear H;go_wp2_with (first | ((with_reducible refine gate_dst (N:=23) rfl ?_);refine goesF_ (some 23) rfl rfl 20 g lb EG.out #[.int .i64 x11_1,.int .i64 x16_2] rfl rfl (by (try simp only [zat,zau,zav]);first | done | rfl) ?_;(with_reducible refine (HF.out x11_1 x16_2 t203 _ A9.out ?side1).mono ?_);(case side1=>repeat (first | (with_reducible first | exact HB.out | apply zag | apply zae | apply zaf) | exact HB.out));rintro e w11 ⟨rfl,hb⟩;refine ⟨_,rfl,?_⟩;have n0_:=zad (Kd.S_below (taaz) hb);have n1_:=zad (zbt (taak) hb);have n2_:=zad (zbg (taab) hb);clear HO_5 HO_7 HB;have HO_5:=n0_;have HO_7:=n1_;have HB:=n2_;clear n0_ n1_ n2_;(try clear hb);(try clear hb2);(try clear hk);(try clear hi)) | ((with_reducible refine gate_builtin (b := .append) (xs:=#[.tmp 19,.tmp 24]) rfl ?_);at_builtin;refine Kd.R_append (Kd.int .i64) (w0:=w) w.heap.size rfl (.tmp 19) (.tmp 24) 25 3 (.int .i64 0) 8 rfl Tryz.underlying25 info3 rfl (by decide) (by omega) u7 x7_2 t203 [.int .i64 t203] (fun _=>True) (fun _=>False) rfl rfl ?aP (fun _ hk=>hk.elim) ?aF ?aO ?aB ?aS ?aL ?_;(case aP=>exact rfl);(case aB=>exact (taab));(case aF=>exact (fun _ _=>trivial));(case aO=>exact (taak));(case aS=>exact (zbk (taab)));(case aL=>have:=LMc10.out;omega);intro v205 w12 ho hb hg hat;rw [← Ny204.out] at ho;have n0_:=zad (Kd.S_after (ok:=(fun _=>True)) (by (with_reducible repeat (first | apply Kd.S_alloc | apply Kd.S_drewN | apply Kd.S_drew));exact Kd.S_mono HO_5.out (fun _ hk=>⟨trivial,hk⟩)) hg hat);have n1_:=zad (hb);have n2_:=zad (ho);clear HO_5 HB HO_7;have HO_5:=n0_;have HB:=n1_;have HO206:=n2_;clear n0_ n1_ n2_ ho hb hg hat))
        go_roundg k2
        case measure=>have:=HK1.out;have:=HK2.out;omega
        case rel=>exact ⟨(y204),(wrap64 (x16_2+1)),(taad),H',⟨taao⟩,⟨tacp⟩,⟨by (with_reducible repeat (first | apply zai | apply zaj | apply zak));exact HO206.out⟩,⟨taab⟩⟩
       ·rw [if_neg c10] at H
        exact absurd H (taac)
      ·rw [if_neg c8] at H
       have c8b0:decide (x16_2<a0)=false:=zbj c8
       clear c8;by_cases c13:x5_1.length<5864062014805
       ·rw [if_pos c13] at H
        have LMc13:=zad c13;clear c13;obtain ⟨y207,hy207⟩:∃ y_:List (List Int),y_=(x5_1 ++ [x7_2]):=⟨_,rfl⟩
        replace H:(impl_square.l0 F k2 a0 y207 a0 (wrap64 (x11_1+1)))=some r:=by first | (rw [hy207];with_reducible exact H) | (have H2_:=(zbd _ _).symm.trans H;rw [hy207];with_reducible exact H2_) | (have H2_:=(zbd _ _).symm.trans H;with_reducible exact H2_) | with_reducible exact H | (rw [hy207];exact H) | exact H
        have Ny207:=zad hy207;clear hy207;have H':=zad H
        clear H;obtain ⟨Ao15,co15,eo15⟩:=zbv HO_7.out
        subst eo15;go_wp2_with (first | ((with_reducible refine gate_builtin (b := .append) (xs:=#[.tmp 27,.tmp 29]) rfl ?_);at_builtin;refine Kd.S_append (Kd.slice 3 (Kd.int .i64)) (w0:=w) w.heap.size rfl (.tmp 27) (.tmp 29) 24 25 (.slice none 0 0) 24 rfl Tryz.underlying24 info25 rfl (by decide) (by omega) u5 x5_1 x7_2 [.slice Ao15 x7_2.length co15] (fun _=>True) (fun k_=>some k_=(.slice Ao15 x7_2.length co15:Value).ownBlock) rfl rfl ?aP (fun k_ hk_=>((zbq (ok':=fun k_=>((fun _=>True)) k_∧some k_≠(u5:Value).ownBlock) (Kd.R_apart' (HO_7.out) (Kd.S_typed HO_5.out) (by decide)) (fun k_ hk=>⟨trivial,hk.2⟩))).1 k_ hk_.symm) ?aF ?aO ?aB ?aS ?aL ?_;(case aP=>exact Kd.M_row (zbq (Kd.R_tight rfl (zbq (ok':=fun k_=>((fun _=>True)) k_∧some k_≠(u5:Value).ownBlock) (Kd.R_apart' (HO_7.out) (Kd.S_typed HO_5.out) (by decide)) (fun k_ hk=>⟨trivial,hk.2⟩))) (fun _ h_=>h_)));(case aB=>exact (taab));(case aF=>exact (fun _ _=>trivial));(case aO=>exact (by (with_reducible repeat (first | apply Kd.S_alloc | apply Kd.S_drewN | apply Kd.S_drew));exact Kd.S_mono HO_5.out (fun k_ hk=>⟨trivial,fun e_=>hk e_⟩)));(case aS=>exact (zbk (taab)));(case aL=>have:=LMc13.out;omega);intro v208 w14 ho hb hg hat;rw [← Ny207.out] at ho;have n0_:=zad (hb);have n1_:=zad (ho);clear HB HO_5 HO_7;have HB:=n0_;have HO209:=n1_;clear n0_ n1_ ho hb hg hat))
        go_roundg k2
        case measure=>have:=HK1.out;have:=HK2.out;omega
        case rel=>exact ⟨(y207),(wrap64 (x11_1+1)),(taad),H',⟨taao⟩,⟨by (with_reducible repeat (first | apply Kd.S_alloc | apply Kd.S_drewN | apply Kd.S_drew));exact HO209.out⟩,⟨taab⟩⟩
       ·rw [if_neg c13] at H
        exact absurd H (taac)
   ·rw [if_neg c5] at H
    have c5b0:decide (x11_1<a0)=false:=zbj c5
    clear c5;obtain rfl:=zbe H
    go_wp2
    go_ret
    exact ⟨_,taai,taaz,taab⟩
def giftE (i j s k r c:Int):Int:=if r=c then (if r=i then s - k else if r=j then s - k else s) else if r=i then (if c=j then k else if r=j then (if c=i then k else 0) else 0) else if r=j then (if c=i then k else 0) else 0
def impl_giftTable.f (q:Nat) (n i j s k:Int):Option (List (List Int)):=if 0≤s∧s≤1000000∧0≤k∧k≤1000000 then impl_square.f (fun r c=>some (giftE i j s k r c)) q n else none
theorem gift_bx {W W':World} {B:Nat} {v:Value} (hb:Below W.heap.size W W') (h:W.cell? ⟨B,0,none⟩=some v) (hB:B<W.heap.size):W'.cell? ⟨B,0,none⟩=some v:=(hb.cell (p:=⟨B,0,none⟩) hB).trans h
theorem gift_cell (i j s k r c:Int) (B0 B1 B2 B3:Nat) (W:World) (hs0:0≤s) (hs1:s≤1000000) (hk0:0≤k) (hk1:k≤1000000) (h0:W.cell? ⟨B0,0,none⟩=some (.int .i64 i)) (h1:W.cell? ⟨B1,0,none⟩=some (.int .i64 j)) (h2:W.cell? ⟨B2,0,none⟩=some (.int .i64 s)) (h3:W.cell? ⟨B3,0,none⟩=some (.int .i64 k)) :
 Calls Tryz.prog 67 #[.int .i64 r,.int .i64 c,.pointer (some ⟨B0,0,none⟩),.pointer (some ⟨B1,0,none⟩),.pointer (some ⟨B2,0,none⟩),.pointer (some ⟨B3,0,none⟩)] W fun e w'=>e = .returned (.int .i64 (giftE i j s k r c))∧Below W.heap.size W w':=by
 unfold giftE
 by_cases c0:r=c
 ·have d0:(r == c)=true:=beq_iff_eq.mpr c0
  rw [if_pos c0]
  clear c0;by_cases c1:r=i
  ·have d1:(r == i)=true:=beq_iff_eq.mpr c1
   rw [if_pos c1]
   clear c1;go_enter Tryz.func67,Tryz.ntmps67
   go_wp2
   go_ret
   exact ⟨rfl,tabh⟩
  ·have d1:(r == i)=false:=zbo.mpr c1
   rw [if_neg c1]
   clear c1;by_cases c2:r=j
   ·have d2:(r == j)=true:=beq_iff_eq.mpr c2
    rw [if_pos c2]
    clear c2;go_enter Tryz.func67,Tryz.ntmps67
    go_wp2
    go_ret
    exact ⟨rfl,tabh⟩
   ·have d2:(r == j)=false:=zbo.mpr c2
    rw [if_neg c2]
    clear c2;go_enter Tryz.func67,Tryz.ntmps67
    go_wp2
    go_ret
    exact ⟨rfl,tabh⟩
 ·have d0:(r == c)=false:=zbo.mpr c0
  rw [if_neg c0]
  clear c0;obtain ⟨q1,e1⟩:∃ q,q=(r == i):=⟨_,rfl⟩
  obtain ⟨q2,e2⟩:∃ q,q=(c == j):=⟨_,rfl⟩
  obtain ⟨q3,e3⟩:∃ q,q=(r == j):=⟨_,rfl⟩
  obtain ⟨q4,e4⟩:∃ q,q=(c == i):=⟨_,rfl⟩
  have E:=zad (show (if r=i then (if c=j then k else if r=j then (if c=i then k else 0) else 0) else if r=j then (if c=i then k else 0) else 0)=(if q1=true then (if q2=true then k else if q3=true then (if q4=true then k else 0) else 0) else if q3=true then (if q4=true then k else 0) else 0) by rw [e1,e2,e3,e4];simp only [beq_iff_eq])
  rw [E.out]
  cases q1 <;> cases q2 <;> cases q3 <;> cases q4
  all_goals
   have e1':=e1.symm
   have e2':=e2.symm
   have e3':=e3.symm
   have e4':=e4.symm
   clear e1 e2 e3 e4 E;go_enter Tryz.func67,Tryz.ntmps67
   go_wp2
   go_ret
   exact ⟨rfl,tabh⟩
theorem impl_giftTable.calls (q:Nat) (n i j s k:Int) (r:List (List Int)) (w:World) (h:impl_giftTable.f q n i j s k=some r) :
 Calls Tryz.prog 31 #[.int .i64 n,.int .i64 i,.int .i64 j,.int .i64 s,.int .i64 k] w fun e w'=>∃ v0_:Value,e = .returned (v0_)∧Kd.S (Kd.slice 3 (Kd.int .i64)) 25 w' w.heap.size (fun _=>True) v0_ r∧Below w.heap.size w w':=by
 unfold impl_giftTable.f at h
 split at h
 next hb =>
  obtain ⟨hs0,hs1,hk0,hk1⟩:=hb
  have H:=zad h;have EG:=zad (show ∀ args w,(callFunc 67 args).run Tryz.prog w = .ok (.enter 67 args) w from fun args w=>enters_ Tryz.func67 (by kernel_rfl) rfl args w)
  have HB:=zad (Below.refl w.heap.size w)
  clear h;go_enter Tryz.func31,Tryz.ntmps31
  go_wp2_with (go_at_call 38;(refine (impl_square.calls _ 67 #[.pointer (some ⟨w.heap.size,0,none⟩),.pointer (some ⟨w.heap.size+1,0,none⟩),.pointer (some ⟨w.heap.size+1+1,0,none⟩),.pointer (some ⟨w.heap.size+1+1+1,0,none⟩)] EG.out q n r _ ?side1 H.out).mono ?_);(case side1=>intro i' j' t W' hF hb;obtain rfl:=zbe hF;exact gift_cell i j s k i' j' w.heap.size (w.heap.size+1) (w.heap.size+1+1) (w.heap.size+1+1+1) W' hs0 hs1 hk0 hk1 (gift_bx hb (tabs) (tabt)) (gift_bx hb (tabs) (tabt)) (gift_bx hb (tabs) (tabt)) (gift_bx hb (tabs) (tabt)));rintro e w1 ⟨v1,rfl,ho,hb⟩;have HO:=zad (show Kd.S (Kd.slice 3 (Kd.int .i64)) 25 w1 w.heap.size (fun _=>True) v1 r from Kd.S_lower ho (zbk (taab)));have HB2:=zad (zbg (taab) hb);clear HB ho hb)
  go_ret
  exact ⟨_,rfl,HO.out,HB2.out⟩
 next=>cases h
def impl_checked.f (l0:List (List Int)):Option ((List (List Int)) × Bool):=(impl_IsSquare.f l0).bind fun t269=>(if t269=true then (some (l0,true)) else (some (([]:List (List Int)),false)))
theorem tab_bx {W W':World} {B:Nat} {v:Value} (hb:Below W.heap.size W W') (h:W.cell? ⟨B,0,none⟩=some v) (hB:B<W.heap.size):W'.cell? ⟨B,0,none⟩=some v:=(hb.cell (p:=⟨B,0,none⟩) hB).trans h
theorem tab_at {W:World} {A:Option Addr} {l:List (List Int)} (h:Kd.C (Kd.slice 3 (Kd.int .i64)) W A l.length l) (i j:Int) (p:0≤i) (q:i<(l.length:Int)) (p':0≤j) (q':j<((rd_L2 l i).length:Int)):∃ ad ad' c,A=some ad∧W.cell? (ad.add i.toNat)=some (.slice (some ad') (rd_L2 l i).length c)∧W.cell? (ad'.add j.toNat)=some (.int .i64 (rd (rd_L2 l i) j)):=by
 obtain ⟨ad,A0,c0,e,hx,_,hi⟩:=at_L2 h i p q
 obtain ⟨ad',e',hy⟩:=zca hi j p' q'
 subst e'
 exact ⟨ad,ad',c0,e,hx,hy⟩
theorem impl_checked.calls (P0_:Nat→Prop) (base:Nat) (A0:Option Addr) (c0:Nat) (l0:List (List Int)) (r1:List (List Int)) (r2:Bool) (w:World) (hs0:Kd.S (Kd.slice 3 (Kd.int .i64)) 25 w base P0_ (.slice A0 l0.length c0) l0) (h:impl_checked.f l0=some (r1,r2)) :
 Calls Tryz.prog 37 #[.slice A0 l0.length c0] w fun e w'=>∃ v0_:Value,e = .returned (.tuple #[v0_,.bool r2])∧Kd.S (Kd.slice 3 (Kd.int .i64)) 25 w' base P0_ v0_ r1∧Below w.heap.size w w':=by
 have HO0:=zad hs0;have HB:=zad (Below.refl w.heap.size w)
 have H:((impl_IsSquare.f l0).bind fun t269=>(if t269=true then (some (l0,true)) else (some (([]:List (List Int)),false))))=some (r1,r2):=h
 clear h hs0;replace H:=zay.mp H;obtain ⟨t269,A20,H⟩:=H
 replace H:(if t269=true then (some (l0,true)) else (some (([]:List (List Int)),false)))=some (r1,r2):=H
 have A2:=zad A20;clear A20;by_cases c3:t269=true
 ·subst c3
  have H1:(some (l0,true))=some (r1,r2):=by rw [if_pos rfl] at H;exact H
  clear H;have H:=H1;clear H1;simp only [zbl,zbp] at H
  obtain ⟨rfl,rfl⟩:=H
  go_enter Tryz.func37,Tryz.ntmps37
  go_wp2_with (go_at_call 20;(refine (impl_IsSquare.calls _ _ l0 true _ ?side1 ?side2 A2.out).mono ?_);(case side1=>exact (Kd.S_reads' HO0.out).2.2);(case side2=>exact (Kd.S_reads' HO0.out).2.1);rintro e w4 ⟨rfl,hb⟩;have n0_:=zad (Kd.S_below HO0.out hb);have n1_:=zad hb;clear HO0 HB hb;have HO0:=n0_;have HB:=n1_;clear n0_ n1_)
  go_ret2
  exact ⟨_,rfl,HO0.out,HB.out⟩
 ·replace c3:=zbi.mpr c3
  subst c3;have H1:(some (([]:List (List Int)),false))=some (r1,r2):=by rw [if_neg (show ¬ (false=true) by decide)] at H;exact H
  clear H;have H:=H1;clear H1;simp only [zbl,zbp] at H
  obtain ⟨rfl,rfl⟩:=H
  go_enter Tryz.func37,Tryz.ntmps37
  go_wp2_with (go_at_call 20;(refine (impl_IsSquare.calls _ _ l0 false _ ?side1 ?side2 A2.out).mono ?_);(case side1=>exact (Kd.S_reads' HO0.out).2.2);(case side2=>exact (Kd.S_reads' HO0.out).2.1);rintro e w4 ⟨rfl,hb⟩;have n1_:=zad hb;clear HO0 HB hb;have HB:=n1_;clear n1_)
  go_ret2
  exact ⟨_,rfl,Kd.S_nil _ _ _ _ _,HB.out⟩
end Go.Proofs.YtmfpgimblifleaaGreat.A
/-
 DERIVED: THE SHELF's CONTRACTS AT THIS DUMP,IN PLAIN WORDS (tools/lay-plain.mjs out of 'YtmfpgimblifleaaGreatShelfI.lean',which tools/lay-shelf.mjs wrote): THE SAME DECLARATIONS UNDER THE SAME NAMES: 'import','namespace','open','def','theorem' AND NOTHING ELSE: no command of the shelf's: FOR A HAND-IN. Each laying: the table of numbers ('.._ren') and one theorem,a field a fact of the dump's own or the kernel's comparison;each contract: ONE APPLICATION.
-/
namespace Go.Proofs
open Go.Shelf
def Tryz.insL_ren:Go.Shelf.Ren:=⟨fun | 20=>84 | n=>n,fun | 24=>3 | 22=>25 | 3=>3 | 25=>59 | 4=>4 | 0=>0 | n=>n,fun | n=>n⟩
theorem Tryz.insL:Go.Proofs.SlLaysF.n20 Tryz.prog Tryz.insL_ren:={
 mixed:=by kernel_rfl
 f20:=⟨Tryz.f84.name,by decide,Tryz.func84.trans (congrArg some (by kernel_rfl))⟩
 t0:=Tryz.underlying0
 a0:=Tryz.isAgg0
 z0:=Tryz.sizeOf0
 v0:=Tryz.zeroValue0
 t3:=Tryz.underlying3
 a3:=Tryz.isAgg3
 z3:=Tryz.sizeOf3
 v3:=Tryz.zeroValue3
 t4:=Tryz.underlying4
 a4:=Tryz.isAgg4
 z4:=Tryz.sizeOf4
 v4:=Tryz.zeroValue4
 t22:=Tryz.underlying25
 a22:=Tryz.isAgg25
 z22:=Tryz.sizeOf25
 v22:=Tryz.zeroValue25
 a24:=Tryz.isAgg3
 z24:=Tryz.sizeOf3
 t25:=Tryz.underlying59
 a25:=Tryz.isAgg59
 z25:=Tryz.sizeOf59
 v25:=Tryz.zeroValue59 }
end Go.Proofs

namespace Go.Proofs.YtmfpgimblifleaaGreat.A
open Go.RowKit Go.Proofs.YtmfpgimblifleaaGreatW.PrintWords Go.Proofs.YtmfpgimblifleaaGreatW.PrintLast Go.Proofs.YtmfpgimblifleaaGreatW.PrintMore
attribute [local go_sem] max2_int min2_int max_two min_two max_three min_three max_four min_four
section
open Go.Shelf Go.Lib Go.Sort
theorem ins_few {α:Type} [Inhabited α] (enc:α→Value) (hO:OneCell enc) (cf:α→α→Int) (g:Nat) (cb:Array Value) (blk off cap:Nat) (d:Array α) (w:World)
 (eg:∀ args w,(callFunc g args).run Tryz.prog w = .ok (.enter g args) w) (hcmp:CmpReads Tryz.prog g cb enc cf blk off d.size w) (hH:Holds enc w blk off d) (hsz:d.size≤12) :
 Calls Tryz.prog 84 #[.slice (some ⟨blk,off,none⟩) d.size cap,.int .i64 0,.int .i64 d.size,.func (.func g) #[] cb] w fun e w'=>e = .returned (.tuple #[])∧∃ n,w'=(putRow enc w blk off (Sort.insertionSort (ltOf cf) d 0 d.size)).drewN n:=by
 have HI:=Any.insertionSortCmpFunc_one Tryz.insL enc hO cf g cb blk off cap 0 d.size d w eg hcmp hH (Nat.zero_le _) (zcf _) (by omega)
 change Calls Tryz.prog 84 _ _ _ at HI
 exact HI
theorem stable_in (Q:Ending→World→Prop) (g:Nat) (cb:Array Value) (blk off cap n:Nat) (w:World) (hsz:n≤12)
 (hI:Calls Tryz.prog 84 #[.slice (some ⟨blk,off,none⟩) n cap,.int .i64 0,.int .i64 n,.func (.func g) #[] cb] w fun e w'=>e = .returned (.tuple #[])∧Q e w') :
 Calls Tryz.prog 81 #[.slice (some ⟨blk,off,none⟩) n cap,.int .i64 n,.func (.func g) #[] cb] w Q:=by
 have HS:=zad hI;have c20:¬ (20:Int)≤(n:Int):=by omega
 have c21:¬ (20:Int)<(n:Int):=by omega
 clear hI;go_enter Tryz.func81,Tryz.ntmps81
 go_wp2
 go_loopg [7,8] 0 (fun gg v7 v8 wr=>v7 = .int .i64 0∧v8 = .int .i64 20∧wr=w)
 case atStart=>exact ⟨rfl,rfl,rfl⟩
 case round =>
  obtain ⟨rfl,rfl,rfl⟩:=hrel
  go_wp2_with fail
  refine HS.out.mono ?_
  rintro e w2 ⟨rfl,hq⟩
  have HQ:=zad hq;clear hq;go_wp2
  go_loopg [6] 0 (fun gg v6 wr=>v6 = .int .i64 20∧wr=w2)
  case atStart=>exact ⟨rfl,rfl⟩
  case round =>
   obtain ⟨rfl,rfl⟩:=hrel
   go_wp2
   go_end0
   exact HQ.out
theorem stable_calls {α:Type} [Inhabited α] (enc:α→Value) (hO:OneCell enc) (cf:α→α→Int) (g:Nat) (cb:Array Value) (blk off cap:Nat) (d:Array α) (w:World)
 (eg:∀ args w,(callFunc g args).run Tryz.prog w = .ok (.enter g args) w) (hcmp:CmpReads Tryz.prog g cb enc cf blk off d.size w) (hH:Holds enc w blk off d) (hsz:d.size≤12) :
 Calls Tryz.prog 69 #[.slice (some ⟨blk,off,none⟩) d.size cap,.func (.func g) #[] cb] w fun e w'=>e = .returned (.tuple #[])∧∃ n,w'=(putRow enc w blk off (Sort.insertionSort (ltOf cf) d 0 d.size)).drewN n:=by
 have HS:=zad (stable_in (fun e w'=>e = .returned (.tuple #[])∧∃ n,w'=(putRow enc w blk off (Sort.insertionSort (ltOf cf) d 0 d.size)).drewN n) g cb blk off cap d.size w hsz ((ins_few enc hO cf g cb blk off cap d w eg hcmp hH hsz).mono (fun e w' h=>⟨h.1,h⟩)))
 clear hcmp hH hsz eg;go_enter Tryz.func69,Tryz.ntmps69
 go_wp2_with fail
 refine HS.out.mono ?_
 rintro e w2 ⟨rfl,hq⟩
 have HQ:=zad hq;clear hq;go_wp2
 go_end0
 exact ⟨rfl,HQ.out⟩
end
section
open Go.Shelf Go.Lib Go.Sort
def cfR (l:List Int) (m:Nat) (i j:Fin (m+1)):Int:=wrap64 (rd l (j.val:Int) - rd l (i.val:Int))
def encF (m:Nat) (i:Fin (m+1)):Value := .int .i64 (i.val:Int)
def ordA (l:List Int) (m:Nat):Array (Fin (m+1)):=Sort.insertionSort (ltOf (cfR l m)) (Array.ofFn (fun i:Fin (m+1)=>i)) 0 (m+1)
def ordL (l:List Int):List Int:=(ordA l (l.length - 1)).toList.map fun i=>(i.val:Int)
def idxL (n:Nat):List Int:=(List.range n).map fun (i:Nat)=>(i:Int)
def sortIdx (l o:List Int):Option (List Int):=if 1≤l.length∧l.length≤12∧o=idxL l.length then some (ordL l) else none
theorem size_insInner {α:Type} [Inhabited α] (lt:α→α→Bool) (a:Nat):∀ (j:Nat) (d:Array α),(insInner lt a j d).size=d.size
 | 0,d=>rfl
 | j+1,d=>by
  unfold insInner
  split
  ·rw [size_insInner lt a j,size_swp]
  ·rfl
theorem size_insOuter {α:Type} [Inhabited α] (lt:α→α→Bool) (a b:Nat):∀ (n i:Nat) (d:Array α),b - i=n→(insOuter lt a b i d).size=d.size
 | 0,i,d,h=>by rw [insOuter_stop _ _ _ _ _ (by omega)]
 | n+1,i,d,h=>by rw [insOuter_go _ _ _ _ _ (by omega),size_insOuter lt a b n (i+1) _ (by omega),size_insInner]
theorem rank_cmp (l0:List Int) (m:Nat) (hm:m+1=l0.length) (A0:Option Addr) (c0 B:Nat) (x y:Fin (m+1)) (W:World) (hbx:W.cell? ⟨B,0,none⟩=some (.slice A0 l0.length c0)) (hr:Kd.C (Kd.int .i64) W A0 l0.length l0) :
 Calls Tryz.prog 70 #[encF m x,encF m y,.pointer (some ⟨B,0,none⟩)] W fun e w'=>e = .returned (.int .i64 (cfR l0 m x y))∧∃ q,w'=W.drewN q:=by
 obtain ⟨x,hx⟩:=x
 obtain ⟨y,hy⟩:=y
 have p0:(0:Int)≤(x:Int):=by omega
 have p1:(x:Int)<(l0.length:Int):=by omega
 have p2:(0:Int)≤(y:Int):=by omega
 have p3:(y:Int)<(l0.length:Int):=by omega
 obtain ⟨ad,rfl,x0⟩:=zca hr (x:Int) p0 p1
 obtain ⟨ad',e,x1⟩:=zca hr (y:Int) p2 p3
 obtain rfl:=zbe e
 unfold encF cfR
 simp only
 replace p0:=eq_true p0
 replace p1:=eq_true p1
 replace p2:=eq_true p2
 replace p3:=eq_true p3
 clear hr hx hy hm e;generalize rd l0 (x:Int)=rx at *
 generalize rd l0 (y:Int)=ry at *
 rw [Int.toNat_natCast] at x0 x1
 go_enter Tryz.func70,Tryz.ntmps70
 go_wp2
 repeat (go_quiet (fail);try go_wp2)
 go_ret
 exact ⟨rfl,_,rfl⟩
theorem idx_enc (m:Nat):(Array.ofFn (fun i:Fin (m+1)=>i)).toList.map (encF m)=encs (Value.int .i64) (idxL (m+1)):=by
 unfold encs idxL
 apply List.ext_getElem?
 intro i
 by_cases hi:i<m+1
 ·simp [encF,hi,-List.ofFn_succ]
 ·rw [List.getElem?_eq_none (by simp;omega),List.getElem?_eq_none (by simp;omega)]
theorem ord_enc (m:Nat) (d:Array (Fin (m+1))):d.toList.map (encF m)=encs (Value.int .i64) (d.toList.map fun i=>(i.val:Int)):=by
 unfold encs
 rw [List.map_map]
 rfl
theorem sort_step (l0 o t:List Int) (hs:sortIdx l0 o=some t) (w1 W:World) (A0 Ap:Option Addr) (c0 c B:Nat) (P:Nat→Prop) (hb:Below w1.heap.size w1 W) (hr:Kd.C (Kd.int .i64) w1 A0 l0.length l0) (hbx:w1.cell? ⟨B,0,none⟩=some (.slice A0 l0.length c0)) (hR:Kd.R (Kd.int .i64) 3 W w1.heap.size P (.slice Ap o.length c) o) :
 Calls Tryz.prog 69 #[.slice Ap o.length c,.func (.func 70) #[] #[.pointer (some ⟨B,0,none⟩)]] W fun e w'=>e = .returned (.tuple #[])∧Kd.R (Kd.int .i64) 3 w' w1.heap.size P (.slice Ap t.length c) t∧t.length=o.length∧W.grownBy w' (Value.slice Ap o.length c).ownBlock∧Below w1.heap.size w1 w':=by
 unfold sortIdx at hs
 split at hs
 next hc =>
  obtain ⟨h1,h2,rfl⟩:=hc
  obtain rfl:=zbe hs
  clear hs;obtain ⟨m,hm⟩:∃ m,m+1=l0.length:=⟨l0.length - 1,by omega⟩
  have hB:B<w1.heap.size:=zaz w1 _ hbx
  have hlen:(idxL l0.length).length=m+1:=by unfold idxL;simp [hm]
  have hP:=hR.1
  have ho:=Kd.own_of_R hR
  rw [hlen] at ho hP ⊢
  obtain ⟨hlen',hcase⟩:=ho
  rcases hcase with ⟨_,h0⟩ | ⟨g,cap,cur,hv,hg,hh,hnc,hcm,hcs,htake⟩
  ·omega
  ·injection hv with hv1 hv2 hv3
   subst hv1;subst hv3;have hd:(Array.ofFn (fun i:Fin (m+1)=>i)).size=m+1:=by simp
   have hH:=holds_own (encF m) (Array.ofFn (fun i:Fin (m+1)=>i)) hh hnc hcs hd (by rw [htake,idx_enc,hm])
   have eg:∀ args w,(callFunc 70 args).run Tryz.prog w = .ok (.enter 70 args) w:=enters_of Tryz.func70 (by kernel_rfl) rfl
   have hS:=stable_calls (encF m) (fun _=>rfl) (cfR l0 m) 70 #[.pointer (some ⟨B,0,none⟩)] g 0 c (Array.ofFn (fun i:Fin (m+1)=>i)) W eg
    (fun k os dk hk x y=>by
     have hb2:=below_sorted (m:=k) (encF m) (off:=0) hb dk os hg
     exact rank_cmp l0 m hm A0 c0 B x y _ (tab_bx hb2 hbx hB) (Kd.C_below hr hb2)) hH (by rw [hd];omega)
   rw [hd] at hS
   refine hS.mono ?_
   rintro e w2 ⟨rfl,n,rfl⟩
   rw [← sortWorld_none]
   have hol:ordL l0=(ordA l0 m).toList.map fun i=>(i.val:Int):=by
    unfold ordL
    rw [show l0.length - 1=m by omega]
   have hsz:(ordA l0 m).size=m+1:=by
    unfold ordA Sort.insertionSort
    rw [size_insOuter _ _ _ _ _ _ rfl,hd]
   have htl:(ordL l0).length=m+1:=by rw [hol];simp [hsz]
   have hoo:=own_sorted (m:=n) (encF m) (ordA l0 m) #[] hg hh hnc hcm hcs hsz
   rw [ord_enc,← hol] at hoo
   rw [htl]
   refine ⟨rfl,Kd.R_of_own (by rw [htl];exact hoo) hP,rfl,?_,below_sorted (encF m) hb _ #[] hg⟩
   refine ⟨rfl,rfl,rfl,size_sorted _ _ _ _ _ _ _,fun k hk hne => ?_⟩
   rw [heap_sorted _ _ _ _ _ _ _ _ hk,if_neg (by rintro rfl;exact hne rfl)]
 next=>cases hs
end
mutual
def impl_ranks.l0 (S_:List Int→Option (List Int)):Nat→List Int→List Int→Int→Int→Option (List Int)
 | 0,_,_,_,_=>none
 | k+1,x3,x4,x13,x14=>if x14<x13 then (if x3.length<17592186044416 then (impl_ranks.l0 S_ k (x3 ++ [x14]) x4 x13 (wrap64 (x14+1))) else (none)) else ((S_ x3).bind fun t364=>(impl_ranks.l1 S_ k x4 t364 (t364.length:Int) 0))
def impl_ranks.l1 (S_:List Int→Option (List Int)):Nat→List Int→List Int→Int→Int→Option (List Int)
 | 0,_,_,_,_=>none
 | k+1,x4,x25,x26,x27=>if x27<x26 then (if 0≤x27 then (if x27<(x25.length:Int) then (if 0≤(rd x25 x27) then (if (rd x25 x27)<(x4.length:Int) then (impl_ranks.l1 S_ k (x4.set ((rd x25 x27):Int).toNat x27) x25 x26 (wrap64 (x27+1))) else (none)) else (none)) else (none)) else (none)) else (some x4)
end
def impl_ranks.f (k:Nat) (l0:List Int):Option (List Int):=if 0≤(l0.length:Int) then (if ((l0.length:Int):Int).toNat≤35184372088832 then (impl_ranks.l0 (sortIdx l0) k (([]:List Int)) (List.replicate ((l0.length:Int):Int).toNat 0) (l0.length:Int) 0) else (none)) else (none)
theorem impl_ranks.calls (k:Nat) (A0:Option Addr) (c0:Nat) (l0:List Int) (r:List Int) (w:World) (hr0:Kd.C (Kd.int .i64) w A0 l0.length l0) (hc0:l0.length≤c0) (h:impl_ranks.f k l0=some r) :
 Calls Tryz.prog 35 #[.slice A0 l0.length c0] w fun e w'=>∃ v0_:Value,e = .returned (v0_)∧Kd.R (Kd.int .i64) 3 w' w.heap.size (fun _=>True) v0_ r∧Below w.heap.size w w':=by
 have HR0:=zad hr0;have HC0:=zad hc0;clear hr0 hc0;have HB:=zad (Below.refl w.heap.size w)
 have H:(if 0≤(l0.length:Int) then (if ((l0.length:Int):Int).toNat≤35184372088832 then (impl_ranks.l0 (sortIdx l0) k (([]:List Int)) (List.replicate ((l0.length:Int):Int).toNat 0) (l0.length:Int) 0) else (none)) else (none))=some r:=h
 clear h;obtain ⟨y355,hy355⟩:∃ y_:List Int,y_=(([]:List Int)):=⟨_,rfl⟩
 replace H:(if 0≤(l0.length:Int) then (if ((l0.length:Int):Int).toNat≤35184372088832 then (impl_ranks.l0 (sortIdx l0) k y355 (List.replicate ((l0.length:Int):Int).toNat 0) (l0.length:Int) 0) else (none)) else (none))=some r:=by first | (rw [hy355];with_reducible exact H) | (have H2_:=(zbd _ _).symm.trans H;rw [hy355];with_reducible exact H2_) | (have H2_:=(zbd _ _).symm.trans H;with_reducible exact H2_) | with_reducible exact H | (rw [hy355];exact H) | exact H
 have Ny355:=zad hy355;clear hy355;by_cases c2:0≤(l0.length:Int)
 ·rw [if_pos c2] at H
  have c2b0:=eq_true c2;have c2b1:decide (0≤(l0.length:Int))=true:=zba c2
  clear c2;by_cases c3:((l0.length:Int):Int).toNat≤35184372088832
  ·rw [if_pos c3] at H
   have c3b0:=eq_true c3;have c3b1:decide (((l0.length:Int):Int).toNat≤35184372088832)=true:=zba c3
   clear c3;obtain ⟨y358,hy358⟩:∃ y_:List Int,y_=(List.replicate ((l0.length:Int):Int).toNat 0):=⟨_,rfl⟩
   replace H:(impl_ranks.l0 (sortIdx l0) k y355 y358 (l0.length:Int) 0)=some r:=by first | (rw [hy358];with_reducible exact H) | (have H2_:=(zbd _ _).symm.trans H;rw [hy358];with_reducible exact H2_) | (have H2_:=(zbd _ _).symm.trans H;with_reducible exact H2_) | with_reducible exact H | (rw [hy358];exact H) | exact H
   have Ny358:=zad hy358;clear hy358;have H':=zad H
   clear H;go_enter Tryz.func35,Tryz.ntmps35
   try go_wp2
   obtain ⟨B_,hB_⟩:∃ B_,B_=w.heap.size:=⟨_,rfl⟩
   have hb1:Below w.heap.size w (w.alloc (.cells #[.slice A0 l0.length c0] 25)):=zag HB.out _
   have hbx1:(w.alloc (.cells #[.slice A0 l0.length c0] 25)).cell? ⟨B_,0,none⟩=some (.slice A0 l0.length c0):=by rw [hB_];simp [go_sem]
   rw [← hB_]
   generalize w.alloc (.cells #[.slice A0 l0.length c0] 25)=wb at hb1 hbx1 ⊢
   have HR1:=zad (Kd.C_below HR0.out hb1)
   have HLT:=zad (zaz wb _ hbx1)
   have HBX:=zad hbx1;have HBW:=zad hb1;clear hbx1 hb1 hB_ HB HR0;have HB:=zad (Below.refl wb.heap.size wb)
   have n0_:=zad (zaf HB.out)
   clear HB;have HB:=n0_;clear n0_;refine start_ (n:=6) (S:=fun w'=>w'.cell? ⟨B_,0,none⟩=some (.slice A0 l0.length c0)) (ds:=[]) #[false,false,false,false,false,false] (by kernel_rfl) rfl rfl (tab_bx HB.out HBX.out HLT.out) (fun hHeld => ?_)
   generalize wb.drew=w4 at HB hHeld ⊢
   refine take_ (i:=1) (N:=some 9) (v := ?_) (a' := ?_) #[false,true,false,false,false,false] rfl rfl (by kernel_rfl) (fun _ _ _ h=>h) (Or.inl ⟨by rfl,?_⟩) hHeld ?_ ?_
   rotate_left
   ·intro w' s0
    go_simp;with_reducible rfl
   rotate_left
   ·simp only [Act.put,zaa,zab,zac,zbw,zbx]
    rfl
   refine pure_ (i:=2) (N:=some 10) (v := ?_) (a' := ?_) #[false,true,true,false,false,false] rfl rfl (by kernel_rfl) (fun _ _ _ h=>h) (Or.inl ⟨by rfl,?_⟩) ?_ ?_
   rotate_left
   ·intro w'
    go_simp;with_reducible rfl
   rotate_left
   ·simp only [Act.put,zaa,zab,zac,zbw,zbx]
    rfl
   refine join_ (σ:=Value × Value) 1 #[true,true,true,true,true,false] (fun s_=>[(8,s_.1),(11,s_.2),(3,s_.1)]) (fun s_ w'=>(Kd.R (Kd.int .i64) 3 w' wb.heap.size (fun k_=>some k_≠(s_.2:Value).ownBlock) s_.1 y355)∧(Kd.R (Kd.int .i64) 3 w' wb.heap.size (fun k_=>some k_≠(s_.1:Value).ownBlock) s_.2 y358)∧(Below wb.heap.size wb w')) ?_ ?_
   rotate_left
   ·intro hCont
    refine two_ (i:=0) (j:=3) (Ni:=some 8) (Nj:=some 11) #[true,true,true,false,false,false] #[false,true,true,true,false,false] rfl rfl rfl rfl (by kernel_rfl) (by decide) (by decide) (fun K hK => ?_) (fun K hK => ?_)
    ·skip
     refine Kd.R_lit_step (Kd.int .i64) _ 3 ?hg (N:=8) ?hd (xs:=([]:List Int)) (inner:=[]) (ok:=fun _=>True) (okp:=fun _=>True) ?hr ?hp (fun _ hk=>hk) trivial (Below.refl _ _) (zcf _) (taac) ?_;(case hd=>rfl);(case hg=>rfl);(case hr=>first | (go_simp;done) | (go_simp;rfl));(case hp=>exact (Reps.none _ _))
     intro v356 w5 ho6 hb hg_ hnew_
     clear hg_ hnew_;(first | rw [← Ny355.out] at ho6 | (simp only [Int.reduceToNat] at ho6;rw [← Ny355.out] at ho6))
     have n0_:=zad (zbu ho6 (zbk (taab)))
     have n1_:=zad (zbg (taab) hb)
     clear HB;have HO357:=n0_;have HB:=n1_;clear n0_ n1_ hb ho6;refine hK.out _ _ (tab_bx HB.out HBX.out HLT.out) (fun hHeld => ?_)
     clear hK K;refine norm_ (a' := ?_) ?_ ?_
     rotate_left
     ·show Act.put _ (some 8) _=_
      simp only [Act.put,zaa,zab,zac,zbw,zbx]
      rfl
     refine pure_ (i:=4) (N:=some 3) (v := ?_) (a' := ?_) #[true,true,true,false,true,false] rfl rfl (by kernel_rfl) (fun _ _ _ h=>h) (Or.inl ⟨by rfl,?_⟩) ?_ ?_
     rotate_left
     ·intro w'
      go_simp;with_reducible rfl
     rotate_left
     ·simp only [Act.put,zaa,zab,zac,zbw,zbx]
      rfl
     refine one_ (i:=3) (N:=some 11) #[true,true,true,true,true,false] rfl rfl (by kernel_rfl) (by decide) (fun K hK => ?_)
     refine Kd.R_make_step (Kd.int .i64) _ 3 (by rfl) (N:=11) rfl 25 _ _ rfl (l0.length:Int) rfl rfl Tryz.underlying25 (.int .i64 0) 8 info3 rfl (by decide) (by omega) 0 (ok:=fun _=>True) (okp:=fun _=>True) rfl (fun _ hk=>hk) trivial (zas (taaa)) (Nat.le_trans (Nat.mul_le_mul_right _ (zas (taaa):(l0.length:Int).toNat≤35184372088832)) (by omega)) (Below.refl _ _) (zcf _) ?_
     intro v359 w7 ho8 hb hg_ hnew_
     clear hg_ hnew_;(first | rw [← Ny358.out] at ho8 | (simp only [Int.reduceToNat] at ho8;rw [← Ny358.out] at ho8))
     have n0_:=zad (zcb (tacu) (zcd ho8) hb)
     have n1_:=zad (zbu (zcc ho8 (zce (tacu))) (zbk (taab)))
     have n2_:=zad (zbg (taab) hb)
     clear HO357 HB;have HO357:=n0_;have HO360:=n1_;have HB:=n2_;clear n0_ n1_ n2_ hb ho8;refine hK.out _ _ (tab_bx HB.out HBX.out HLT.out) (fun hHeld => ?_)
     clear hK K;refine norm_ (a' := ?_) ?_ ?_
     rotate_left
     ·show Act.put _ (some 11) _=_
      simp only [Act.put,zaa,zab,zac,zbw,zbx]
      rfl
     exact norm_ (tabm) (hCont (v356,v359) _ ⟨(taej),(taek),(taab)⟩)
    ·skip
     refine Kd.R_make_step (Kd.int .i64) _ 3 (by rfl) (N:=11) rfl 25 _ _ rfl (l0.length:Int) rfl rfl Tryz.underlying25 (.int .i64 0) 8 info3 rfl (by decide) (by omega) 0 (ok:=fun _=>True) (okp:=fun _=>True) rfl (fun _ hk=>hk) trivial (zas (taaa)) (Nat.le_trans (Nat.mul_le_mul_right _ (zas (taaa):(l0.length:Int).toNat≤35184372088832)) (by omega)) (Below.refl _ _) (zcf _) ?_
     intro v359 w5 ho6 hb hg_ hnew_
     clear hg_ hnew_;(first | rw [← Ny358.out] at ho6 | (simp only [Int.reduceToNat] at ho6;rw [← Ny358.out] at ho6))
     have n0_:=zad (zbu ho6 (zbk (taab)))
     have n1_:=zad (zbg (taab) hb)
     clear HB;have HO360:=n0_;have HB:=n1_;clear n0_ n1_ hb ho6;refine hK.out _ _ (tab_bx HB.out HBX.out HLT.out) (fun hHeld => ?_)
     clear hK K;refine norm_ (a' := ?_) ?_ ?_
     rotate_left
     ·show Act.put _ (some 11) _=_
      simp only [Act.put,zaa,zab,zac,zbw,zbx]
      rfl
     refine one_ (i:=0) (N:=some 8) #[true,true,true,true,false,false] rfl rfl (by kernel_rfl) (by decide) (fun K hK => ?_)
     refine Kd.R_lit_step (Kd.int .i64) _ 3 ?hg (N:=8) ?hd (xs:=([]:List Int)) (inner:=[]) (ok:=fun _=>True) (okp:=fun _=>True) ?hr ?hp (fun _ hk=>hk) trivial (Below.refl _ _) (zcf _) (taac) ?_;(case hd=>rfl);(case hg=>rfl);(case hr=>first | (go_simp;done) | (go_simp;rfl));(case hp=>exact (Reps.none _ _))
     intro v356 w7 ho8 hb hg_ hnew_
     clear hg_ hnew_;(first | rw [← Ny355.out] at ho8 | (simp only [Int.reduceToNat] at ho8;rw [← Ny355.out] at ho8))
     have n0_:=zad (zcb (tacv) (zcd ho8) hb)
     have n1_:=zad (zbu (zcc ho8 (zce (tacv))) (zbk (taab)))
     have n2_:=zad (zbg (taab) hb)
     clear HO360 HB;have HO360:=n0_;have HO357:=n1_;have HB:=n2_;clear n0_ n1_ n2_ hb ho8;refine hK.out _ _ (tab_bx HB.out HBX.out HLT.out) (fun hHeld => ?_)
     clear hK K;refine norm_ (a' := ?_) ?_ ?_
     rotate_left
     ·show Act.put _ (some 8) _=_
      simp only [Act.put,zaa,zab,zac,zbw,zbx]
      rfl
     refine pure_ (i:=4) (N:=some 3) (v := ?_) (a' := ?_) #[true,true,true,true,true,false] rfl rfl (by kernel_rfl) (fun _ _ _ h=>h) (Or.inl ⟨by rfl,?_⟩) ?_ ?_
     rotate_left
     ·intro w'
      go_simp;with_reducible rfl
     rotate_left
     ·simp only [Act.put,zaa,zab,zac,zbw,zbx]
      rfl
     exact norm_ (tabm) (hCont (v356,v359) _ ⟨(taej),(taek),(taab)⟩)
   rintro ⟨v356,v359⟩ w9 ⟨h0_,h1_,h2_⟩
   have n0_:Aside0 (Kd.R (Kd.int .i64) 3 w9 wb.heap.size (fun k_=>some k_≠(v359:Value).ownBlock) v356 y355):=⟨h0_⟩
   have n1_:Aside0 (Kd.R (Kd.int .i64) 3 w9 wb.heap.size (fun k_=>some k_≠(v356:Value).ownBlock) v359 y358):=⟨h1_⟩
   have n2_:Aside0 (Below wb.heap.size wb w9):=⟨h2_⟩
   clear HB h0_ h1_ h2_;have HO357:=n0_;have HO360:=n1_;have HB:=n2_;clear n0_ n1_ n2_;have hHeld:=tab_bx HB.out HBX.out HLT.out
   refine norm_ (a' := ?_) ?_ ?_
   rotate_left
   ·simp only [putAll,Act.put,zaa,zab,zac]
    rfl
   refine pure_ (i:=5) (N:=some 4) (v := ?_) (a' := ?_) #[true,true,true,true,true,true] rfl rfl (by kernel_rfl) (fun _ _ _ h=>h) (Or.inl ⟨by rfl,?_⟩) ?_ ?_
   rotate_left
   ·intro w'
    go_simp;with_reducible rfl
   rotate_left
   ·simp only [Act.put,zaa,zab,zac,zbw,zbx]
    rfl
   have x0:=tab_bx HB.out HBX.out HLT.out
   refine done_ (by kernel_rfl) ?_
   try go_wp2
   clear x0;go_loopg [3,14] k (fun kq v3 v14 w'=>∃ (x3_1:List Int) (x14_1:Int),v14 = .int .i64 x14_1∧Aside0 (impl_ranks.l0 (sortIdx l0) kq x3_1 y358 (l0.length:Int) x14_1=some r)∧Aside0 (kq≤k)∧Aside0 (Kd.R (Kd.int .i64) 3 w' wb.heap.size (fun k_=>some k_≠(v359:Value).ownBlock) v3 x3_1)∧Aside0 (Kd.R (Kd.int .i64) 3 w' wb.heap.size (fun k_=>some k_≠(v3:Value).ownBlock) v359 y358)∧Aside0 (Below wb.heap.size wb w'))
   case atStart=>exact ⟨(y355),(0),(taad),H',⟨zcf _⟩,⟨tacu⟩,⟨tacv⟩,⟨taab⟩⟩
   case round =>
    clear H'
    try clear c2
    try clear c2b0
    try clear c2b1
    try clear p2
    try clear c3
    try clear c3b0
    try clear c3b1
    obtain ⟨x3_1,x14_1,rfl,HA,HK1,HO_3,HO_4,HB⟩:=hrel
    cases gk with
    | zero=>exact absurd HA.out (by simp [impl_ranks.l0])
    | succ k1 =>
     have H:=HA.out
     clear HA;simp only [impl_ranks.l0] at H
     by_cases c10:x14_1<(l0.length:Int)
     ·rw [if_pos c10] at H
      have c10b0:decide (x14_1<(l0.length:Int))=true:=zba c10
      clear c10;by_cases c11:x3_1.length<17592186044416
      ·rw [if_pos c11] at H
       have LMc11:=zad c11;clear c11;obtain ⟨y361,hy361⟩:∃ y_:List Int,y_=(x3_1 ++ [x14_1]):=⟨_,rfl⟩
       replace H:(impl_ranks.l0 (sortIdx l0) k1 y361 y358 (l0.length:Int) (wrap64 (x14_1+1)))=some r:=by first | (rw [hy361];with_reducible exact H) | (have H2_:=(zbd _ _).symm.trans H;rw [hy361];with_reducible exact H2_) | (have H2_:=(zbd _ _).symm.trans H;with_reducible exact H2_) | with_reducible exact H | (rw [hy361];exact H) | exact H
       have Ny361:=zad hy361;clear hy361;have H':=zad H
       clear H;go_wp2_with (first | ((with_reducible refine gate_builtin (b := .append) (xs:=#[.tmp 17,.tmp 19]) rfl ?_);at_builtin;refine Kd.R_append (Kd.int .i64) (w0:=wb) wb.heap.size rfl (.tmp 17) (.tmp 19) 25 3 (.int .i64 0) 8 rfl Tryz.underlying25 info3 rfl (by decide) (by omega) u3 x3_1 x14_1 [.int .i64 x14_1] (fun k_=>some k_≠(v359:Value).ownBlock) (fun _=>False) rfl rfl ?aP (fun _ hk=>hk.elim) ?aF ?aO ?aB ?aS ?aL ?_;(case aP=>exact rfl);(case aB=>exact (taab));(case aF=>exact (fun k_ hk=>Kd.fresh' (zce (taca)) k_ hk));(case aO=>exact (taal));(case aS=>exact (zbk (taab)));(case aL=>have:=LMc11.out;omega);intro v362 w12 ho hb hg hat;rw [← Ny361.out] at ho;have n0_:=zad (Kd.R_after (ok:=(fun _=>True)) (by (with_reducible repeat (first | apply zai | apply zaj | apply zak));exact zbq HO_4.out (fun _ hk=>⟨trivial,hk⟩)) hg hat);have n1_:=zad (hb);have n2_:=zad (ho);clear HO_4 HB HO_3;have HO_4:=n0_;have HB:=n1_;have HO363:=n2_;clear n0_ n1_ n2_ ho hb hg hat))
       go_roundg k1
       case measure=>have:=HK1.out;omega
       case rel=>exact ⟨(y361),(wrap64 (x14_1+1)),(taad),H',⟨taaq⟩,⟨by (with_reducible repeat (first | apply zai | apply zaj | apply zak));exact HO363.out⟩,⟨by (with_reducible repeat (first | apply zai | apply zaj | apply zak));exact zbq HO_4.out (fun _ hk=>hk.2)⟩,⟨taab⟩⟩
      ·rw [if_neg c11] at H
       exact absurd H (taac)
     ·rw [if_neg c10] at H
      have c10b0:decide (x14_1<(l0.length:Int))=false:=zbj c10
      clear c10;replace H:=zay.mp H;obtain ⟨t364,A130,H⟩:=H
      replace H:(impl_ranks.l1 (sortIdx l0) k1 y358 t364 (t364.length:Int) 0)=some r:=H
      have A13:=zad A130;clear A130;have H':=zad H
      clear H;obtain ⟨Ao14,co14,eo14⟩:=zbv HO_3.out
      subst eo14;have e13:=A13.out
      go_wp2_with fail
      refine (sort_step l0 x3_1 t364 e13 wb _ A0 Ao14 c0 co14 B_ _ (taab) HR1.out HBX.out (taal)).mono ?_
      clear e13;rintro e w15 ⟨rfl,ho0,hlen,hgr,hb⟩
      have n1_:=zad (Kd.R_grown2 (taca) rfl hgr (fun k hk=>HO_3.out.1 k hk))
      rw [← hlen] at n1_
      simp only [← hlen]
      clear HO_3 HO_4 HB hgr hlen;have HO_4:=n1_;have HO366:=zad ho0;have HB:=zad hb;clear n1_ ho0 hb;go_wp2
      go_loopg [27] k1 (fun kq v27 w'=>∃ (x4_2:List Int) (x27_2:Int),v27 = .int .i64 x27_2∧Aside0 (impl_ranks.l1 (sortIdx l0) kq x4_2 t364 (t364.length:Int) x27_2=some r)∧Aside0 (kq≤k1)∧Aside0 (Kd.R (Kd.int .i64) 3 w' wb.heap.size (fun k_=>some k_≠((.slice Ao14 t364.length co14):Value).ownBlock) v359 x4_2)∧Aside0 (Kd.R (Kd.int .i64) 3 w' wb.heap.size (fun k_=>some k_≠(v359:Value).ownBlock) (.slice Ao14 t364.length co14) t364)∧Aside0 (Below wb.heap.size wb w'))
      case atStart=>exact ⟨(y358),(0),(taad),H',⟨zcf _⟩,⟨taca⟩,⟨by (with_reducible repeat (first | apply zai | apply zaj | apply zak));exact HO366.out⟩,⟨taab⟩⟩
      case round =>
       clear H'
       try clear c1
       try clear c2
       try clear c2b0
       try clear c2b1
       try clear p2
       try clear c3
       try clear c3b0
       try clear c3b1
       try clear c5
       try clear p6
       try clear c10
       try clear c10b0
       try clear c11
       try clear p2
       obtain ⟨x4_2,x27_2,rfl,HA,HK2,HO_4,HO_25,HB⟩:=hrel
       cases gk with
       | zero=>exact absurd HA.out (by simp [impl_ranks.l1])
       | succ k2 =>
        have H:=HA.out
        clear HA;simp only [impl_ranks.l1] at H
        by_cases c17:x27_2<(t364.length:Int)
        ·rw [if_pos c17] at H
         have c17b0:decide (x27_2<(t364.length:Int))=true:=zba c17
         clear c17;by_cases c18:0≤x27_2
         ·rw [if_pos c18] at H
          have c18b0:decide (0≤x27_2)=true:=zba c18
          clear c18;by_cases c19:x27_2<(t364.length:Int)
          ·rw [if_pos c19] at H
           have c19b0:decide (x27_2<(t364.length:Int))=true:=zba c19
           clear c19;by_cases c20:0≤(rd t364 x27_2)
           ·rw [if_pos c20] at H
            have c20b0:decide (0≤(rd t364 x27_2))=true:=zba c20
            clear c20;by_cases c21:(rd t364 x27_2)<(x4_2.length:Int)
            ·rw [if_pos c21] at H
             have c21b0:decide ((rd t364 x27_2)<(x4_2.length:Int))=true:=zba c21
             clear c21;obtain ⟨y368,hy368⟩:∃ y_:List Int,y_=(x4_2.set ((rd t364 x27_2):Int).toNat x27_2):=⟨_,rfl⟩
             replace H:(impl_ranks.l1 (sortIdx l0) k2 y368 t364 (t364.length:Int) (wrap64 (x27_2+1)))=some r:=by first | (rw [hy368];with_reducible exact H) | (have H2_:=(zbd _ _).symm.trans H;rw [hy368];with_reducible exact H2_) | (have H2_:=(zbd _ _).symm.trans H;with_reducible exact H2_) | with_reducible exact H | (rw [hy368];exact H) | exact H
             have Ny368:=zad hy368;clear hy368;have H':=zad H
             clear H;have p367:0≤(x27_2:Int):=zas (taaa)
             have q367:x27_2<(t364.length:Int):=zas (taaa)
             obtain ⟨ad367,e367,hx367_0⟩:=zca (zbf HO_25.out).2.2 x27_2 p367 q367
             cases e367
             replace p367:=eq_true p367
             replace q367:=eq_true q367
             have p22:0≤((rd t364 x27_2):Int):=zas (taaa)
             have q22:((rd t364 x27_2):Int)<((x4_2.length:Int):Int):=zas (taaa)
             obtain ⟨go22,co22,eo22,gb22,gl22,cl22,HG22⟩:=Kd.R_form HO_4.out (by omega)
             (first | cases eo22 | (injection eo22 with ea_ en_ ec_;(first | subst ea_ | (injection ea_ with ea_;subst ea_));subst ec_;clear en_))
             have GB22:=zad gb22;have GG22:=zad HG22;clear gb22 gl22 HG22;obtain ⟨hx22_0,hf22_0⟩:=Kd.R_celln 0 HO_4.out ((rd t364 x27_2):Int) p22 q22
             replace p22:=eq_true p22
             replace q22:=eq_true q22
             have HP23:=Kd.R_putg HO_4.out ((rd t364 x27_2):Int) x27_2
             go_wp2_with (first | ((with_reducible refine gate_store (t:=3) (p:=35) rfl ?_);refine store_event (t:=3) (p:=35) (v := ?vo_w24) (w1:=(wr.setCell ⟨go22,((rd t364 x27_2):Int).toNat,none⟩ (.int .i64 x27_2))) ?hg ?ho ?hn ?hr ?_;(case ho=>rfl);(case hg=>rfl);(case hn=>rfl);(case hr=>first | (go_simp;done) | (go_simp;rfl));intro w24 hw;have hg:wr.grownBy w24 (some go22):=(by rw [hw];exact HP23.2);have hp_:Kd.R (Kd.int .i64) 3 w24 wb.heap.size (fun k_=>some k_≠(.slice (some ad367) t364.length co14:Value).ownBlock) (.slice (some ⟨go22,0,none⟩) x4_2.length co22) y368:=(by rw [hw,Ny368.out];exact HP23.1);clear HP23;have n0_:=zad (hp_);have n1_:=zad (Kd.R_after (v:=(.slice (some ⟨go22,0,none⟩) x4_2.length co22)) (v1:=(.slice (some ⟨go22,0,none⟩) x4_2.length co22)) (ok:=(fun _=>True)) (by (with_reducible repeat (first | apply zai | apply zaj | apply zak));exact zbq HO_25.out (fun _ hk=>⟨trivial,hk⟩)) hg (.inl rfl));have n2_:=zad ((by rw [hw];exact zah (HB.out) GB22.out:Below wb.heap.size wb w24));clear HO_4 HO_25 HB;have HO_4:=n0_;have HO_25:=n1_;have HB:=n2_;clear n0_ n1_ n2_ hg hw hp_))
             go_roundg k2
             case measure=>have:=HK1.out;have:=HK2.out;omega
             case rel=>exact ⟨(y368),(wrap64 (x27_2+1)),(taad),H',⟨taao⟩,⟨taca⟩,⟨by (with_reducible repeat (first | apply zai | apply zaj | apply zak));exact zbq HO_25.out (fun _ hk=>hk.2)⟩,⟨taab⟩⟩
            ·rw [if_neg c21] at H
             exact absurd H (taac)
           ·rw [if_neg c20] at H
            exact absurd H (taac)
          ·rw [if_neg c19] at H
           exact absurd H (taac)
         ·rw [if_neg c18] at H
          exact absurd H (taac)
        ·rw [if_neg c17] at H
         have c17b0:decide (x27_2<(t364.length:Int))=false:=zbj c17
         clear c17;obtain rfl:=zbe H
         go_wp2
         go_ret
         exact ⟨_,rfl,zbu (zbq (taca) (fun _ hk=>trivial)) (zbk HBW.out),zbg HBW.out (taab)⟩
  ·rw [if_neg c3] at H
   exact absurd H (taac)
 ·rw [if_neg c2] at H
  exact absurd H (taac)
def timesG (l0 l1:List (List Int)) (i j:Int):Nat→Int→Int→Option Int
 | 0,_,s=>some s
 | n+1,k,s=>if 0≤i∧i<(l0.length:Int)∧0≤k∧k<((rd_L2 l0 i).length:Int)∧k<(l1.length:Int)∧0≤j∧j<((rd_L2 l1 k).length:Int) then timesG l0 l1 i j n (k+1) (wrap64 (s+wrap64 (rd (rd_L2 l0 i) k*rd (rd_L2 l1 k) j))) else none
def timesF (l0 l1:List (List Int)) (i j:Int):Option Int:=timesG l0 l1 i j l0.length 0 0
def impl_product.f (q:Nat) (l0 l1:List (List Int)):Option (List (List Int)):=if l0.length≤4611686018427387903 then impl_square.f (timesF l0 l1) q (l0.length:Int) else none
theorem times_cell (l0 l1:List (List Int)) (i j t:Int) (A0 A1:Option Addr) (c0 c1 B0 B1:Nat) (W:World) (hl:l0.length≤4611686018427387903) (hF:timesF l0 l1 i j=some t) (h0:W.cell? ⟨B0,0,none⟩=some (.slice A0 l0.length c0)) (h1:W.cell? ⟨B1,0,none⟩=some (.slice A1 l1.length c1)) (hr0:Kd.C (Kd.slice 3 (Kd.int .i64)) W A0 l0.length l0) (hr1:Kd.C (Kd.slice 3 (Kd.int .i64)) W A1 l1.length l1) :
 Calls Tryz.prog 68 #[.int .i64 i,.int .i64 j,.pointer (some ⟨B0,0,none⟩),.pointer (some ⟨B1,0,none⟩)] W fun e w'=>e = .returned (.int .i64 t)∧Below W.heap.size W w':=by
 have HF:=zad hF;have HR0:=zad hr0;have HR1:=zad hr1;have HB:=zad (Below.refl W.heap.size W)
 clear hF hr0 hr1;go_enter Tryz.func68,Tryz.ntmps68
 go_wp2
 go_loopg [7,11] l0.length (fun g v7 v11 wr=>∃ (k s:Int) (n:Nat),v7 = .int .i64 s∧v11 = .int .i64 k∧Aside0 (n≤g∧0≤k∧k+(n:Int)=(l0.length:Int))∧Aside0 (Below W.heap.size W wr)∧Aside0 (timesG l0 l1 i j n k s=some t))
 case atStart=>exact ⟨0,0,l0.length,rfl,rfl,⟨by omega⟩,⟨tabh⟩,⟨HF.out⟩⟩
 case round =>
  clear HB;obtain ⟨k,s,n,rfl,rfl,HN,HB,HA⟩:=hrel
  have g0:=(HB.out.cell (zaz W _ h0)).trans h0
  have g1:=(HB.out.cell (zaz W _ h1)).trans h1
  have ha:=HA.out
  cases n with
  | succ n =>
   have c0:decide (k<(l0.length:Int))=true:=zba (by have:=HN.out;omega)
   rw [timesG] at ha
   split at ha
   next hc =>
    obtain ⟨p0,p1,pk,p2,p3,p4,p5⟩:=hc
    obtain ⟨ad0,ad1,d0,rfl,x0,x1⟩:=tab_at (Kd.C_below HR0.out HB.out) i k p0 p1 pk p2
    obtain ⟨ad2,ad3,d1,rfl,x2,x3⟩:=tab_at (Kd.C_below HR1.out HB.out) k j pk p3 p4 p5
    have HA2:=zad ha;have q0:=eq_true p0;have q1:=eq_true p1;have q2:=eq_true p2;have q3:=eq_true p3;have q4:=eq_true p4;have q5:=eq_true p5;have qk:=eq_true pk;have HK:=zad (show wrap64 (k+1)=k+1 by unfold wrap64;have:=HN.out;omega)
    clear p0 p1 p2 p3 p4 p5 pk ha HA;go_wp2
    repeat (go_quiet (fail);try go_wp2)
    go_roundg n
    case measure=>have:=HN.out;omega
    case rel=>exact ⟨k+1,_,n,rfl,by first | rfl | exact congrArg (Value.int .i64) HK.out,⟨by have:=HN.out;omega⟩,⟨taab⟩,⟨HA2.out⟩⟩
   next=>cases ha
  | zero =>
   have c0:decide (k<(l0.length:Int))=false:=zbj (by have:=HN.out;omega)
   rw [timesG] at ha
   obtain rfl:=zbe ha
   clear ha HA HF;go_wp2
   go_ret
   exact ⟨rfl,taab⟩
theorem impl_product.calls (q:Nat) (A0:Option Addr) (c0:Nat) (l0:List (List Int)) (A1:Option Addr) (c1:Nat) (l1:List (List Int)) (r:List (List Int)) (w:World) (hr0:Kd.C (Kd.slice 3 (Kd.int .i64)) w A0 l0.length l0) (hc0:l0.length≤c0) (hr1:Kd.C (Kd.slice 3 (Kd.int .i64)) w A1 l1.length l1) (hc1:l1.length≤c1) (h:impl_product.f q l0 l1=some r) :
 Calls Tryz.prog 33 #[.slice A0 l0.length c0,.slice A1 l1.length c1] w fun e w'=>∃ v0_:Value,e = .returned (v0_)∧Kd.S (Kd.slice 3 (Kd.int .i64)) 25 (w') w.heap.size (fun _=>True) v0_ r∧Below w.heap.size w w':=by
 unfold impl_product.f at h
 split at h
 next hlen =>
  have HU:=zad h;have HR0:=zad hr0;have HR1:=zad hr1;have HL:=zad hlen;have HB:=zad (Below.refl w.heap.size w)
  have EG:=zad (show ∀ args w,(callFunc 68 args).run Tryz.prog w = .ok (.enter 68 args) w from fun args w=>enters_ Tryz.func68 (by kernel_rfl) rfl args w)
  clear h hr0 hr1 hc0 hc1 hlen;go_enter Tryz.func33,Tryz.ntmps33
  go_wp2_with (go_at_call 38;(refine (impl_square.calls _ 68 #[.pointer (some ⟨w.heap.size,0,none⟩),.pointer (some ⟨w.heap.size+1,0,none⟩)] EG.out q (l0.length:Int) r _ ?side1 HU.out).mono ?_);(case side1=>intro i' j' t W' hF hb;exact times_cell l0 l1 i' j' t A0 A1 c0 c1 w.heap.size (w.heap.size+1) W' HL.out hF (tab_bx hb (tabs) (tabt)) (tab_bx hb (tabs) (tabt)) (Kd.C_below HR0.out (zbg (taab) hb)) (Kd.C_below HR1.out (zbg (taab) hb)));rintro e w2 ⟨v1,rfl,ho,hb⟩;have HO:=zad (show Kd.S (Kd.slice 3 (Kd.int .i64)) 25 (w2) w.heap.size (fun _=>True) v1 r from Kd.S_lower ho (zbk (taab)));have HB2:=zad (zbg (taab) hb);clear HB ho hb;have HB:=HB2;clear HB2)
  go_ret
  exact ⟨_,rfl,HO.out,HB.out⟩
 next=>cases h
def BX (t:TypeId) (W:World) (B:Nat) (v:Value):Prop:=B<W.heap.size∧W.heap[B]? = some (.cells #[v] t (0,0))
theorem bx_new {t:TypeId} (W:World) (v:Value):BX t (W.alloc (.cells #[v] t)) W.heap.size v:=⟨taac,by show (W.heap.push _)[W.heap.size]? = _;simp⟩
theorem bx_cell {t:TypeId} {W:World} {B:Nat} {v:Value} (h:BX t W B v):W.cell? ⟨B,0,none⟩=some v:=by
 unfold World.cell?
 simp only
 rw [h.2]
 rfl
theorem bx_frozen {t:TypeId} {W:World} {B:Nat} {v:Value} (h:BX t W B v):W.frozen? ⟨B,0,none⟩=false:=by
 unfold World.frozen?
 simp only
 rw [h.2]
 rfl
theorem bx_below {t:TypeId} {W W':World} {B:Nat} {v:Value} (hb:Below W.heap.size W W') (h:BX t W B v):BX t W' B v:=⟨Nat.lt_of_lt_of_le h.1 hb.size,(hb.block B h.1).trans h.2⟩
theorem bx_set {t:TypeId} {W:World} {B:Nat} {v:Value} (h:BX t W B v) (u:Value):BX t (W.setCell ⟨B,0,none⟩ u) B u:=by
 refine ⟨by simpa [World.setCell] using h.1,?_⟩
 have h2:=h.2
 simp only [World.setCell]
 rw [Array.getElem?_modify,if_pos rfl,h2]
 rfl
theorem bx_grown {t:TypeId} (W:World) (B:Nat) (u:Value):W.grownBy (W.setCell ⟨B,0,none⟩ u) (some B):=⟨rfl,rfl,rfl,taac,fun i hi hne=>Below.heap_setCell W ⟨B,0,none⟩ u i (by intro e;exact hne (congrArg some e))⟩
theorem BX_drewN {t:TypeId} {W:World} {B:Nat} {v:Value} {n:Nat} (h:BX t W B v):BX t (W.drewN n) B v:=h
theorem BX_drew {t:TypeId} {W:World} {B:Nat} {v:Value} (h:BX t W B v):BX t W.drew B v:=h
def placeF (t:List (List Int)) (rw cl:List Int) (g i j:Int):Option Int:=if 0≤i∧i<(rw.length:Int)∧0≤j∧j<(cl.length:Int)∧0≤rd rw i∧rd rw i<(t.length:Int)∧0≤rd cl j∧rd cl j<((rd_L2 t (rd rw i)).length:Int)∧g≠0 then some (wrap64 (Int.tdiv (rd (rd_L2 t (rd rw i)) (rd cl j)) g)) else none
theorem place_cell (l0:List (List Int)) (rw cl:List Int) (g i j t:Int) (A0 A1 A2:Option Addr) (c0 c1 c2 B0 B1 B2 B3:Nat) (W:World) (hF:placeF l0 rw cl g i j=some t) (h0:W.cell? ⟨B0,0,none⟩=some (.slice A0 l0.length c0)) (h1:W.cell? ⟨B1,0,none⟩=some (.slice A1 rw.length c1)) (h2:W.cell? ⟨B2,0,none⟩=some (.slice A2 cl.length c2)) (h3:W.cell? ⟨B3,0,none⟩=some (.int .i64 g))
 (hr0:Kd.C (Kd.slice 3 (Kd.int .i64)) W A0 l0.length l0) (hr1:Kd.C (Kd.int .i64) W A1 rw.length rw) (hr2:Kd.C (Kd.int .i64) W A2 cl.length cl) :
 Calls Tryz.prog 39 #[.int .i64 i,.int .i64 j,.pointer (some ⟨B0,0,none⟩),.pointer (some ⟨B1,0,none⟩),.pointer (some ⟨B2,0,none⟩),.pointer (some ⟨B3,0,none⟩)] W fun e w'=>e = .returned (.int .i64 t)∧Below W.heap.size W w':=by
 unfold placeF at hF
 split at hF
 next hc =>
  obtain ⟨p0,p1,p2,p3,p4,p5,p6,p7,hg⟩:=hc
  obtain rfl:=zbe hF
  obtain ⟨adr,rfl,xr⟩:=zca hr1 i p0 p1
  obtain ⟨adc,rfl,xc⟩:=zca hr2 j p2 p3
  obtain ⟨ad0,ad1,d0,rfl,x0,x1⟩:=tab_at hr0 (rd rw i) (rd cl j) p4 p5 p6 p7
  have q0:=eq_true p0;have q1:=eq_true p1;have q2:=eq_true p2;have q3:=eq_true p3;have q4:=eq_true p4;have q5:=eq_true p5;have q6:=eq_true p6;have q7:=eq_true p7;have qg:(g == 0)=false:=zbo.mpr hg
  clear hr0 hr1 hr2 hF p0 p1 p2 p3 p4 p5 p6 p7;generalize rd (rd_L2 l0 (rd rw i)) (rd cl j)=x at *
  generalize (rd_L2 l0 (rd rw i)).length=n1 at *
  generalize rd rw i=ri at *
  generalize rd cl j=rj at *
  go_enter Tryz.func39,Tryz.ntmps39
  go_wp2
  repeat (go_quiet (fail);try go_wp2)
  go_ret
  exact ⟨rfl,tabh⟩
 next=>cases hF
mutual
def impl_TableForB.l0 (G_:Nat→List (List Int)→Int→Option (List (List Int))):Nat→List (List Int)→Int→List (List Int)→Int→Int→Option ((List (List Int)) × Bool)
 | 0,_,_,_,_,_=>none
 | k+1,x9,x15,x112,x113,x114=>if x114<x113 then (if 0≤x114 then (if x114<(x112.length:Int) then (impl_TableForB.l1 G_ k x9 x15 x112 x113 x114 (rd_L2 x112 x114) ((rd_L2 x112 x114).length:Int) 0) else (none)) else (none)) else ((G_ k x9 x15).bind fun t295=>((impl_checked.f t295).bind fun bt298=>(some (bt298.1,bt298.2))))
def impl_TableForB.l1 (G_:Nat→List (List Int)→Int→Option (List (List Int))):Nat→List (List Int)→Int→List (List Int)→Int→Int→List Int→Int→Int→Option ((List (List Int)) × Bool)
 | 0,_,_,_,_,_,_,_,_=>none
 | k+1,x9,x15,x112,x113,x114,x118,x119,x120=>if x120<x119 then (if 0≤x120 then (if x120<(x118.length:Int) then ((impl_divisor.f k x15 (rd x118 x120)).bind fun t304=>(impl_TableForB.l1 G_ k x9 t304 x112 x113 x114 x118 x119 (wrap64 (x120+1)))) else (none)) else (none)) else (impl_TableForB.l0 G_ k x9 x15 x112 x113 (wrap64 (x114+1)))
end
def impl_TableForB.f (k:Nat) (l0:List Int) (l1:List Int) (l2:List (List Int)) (a3:Int):Option ((List (List Int)) × Bool):=(impl_ranks.f k l0).bind fun t289=>((impl_ranks.f k l1).bind fun t292=>(impl_TableForB.l0 (fun q t g=>impl_square.f (placeF t t289 t292 g) q a3) k l2 0 l2 (l2.length:Int) 0))
mutual
def impl_TableFor.j0 (TB_:Nat→List (List Int)→Option ((List (List Int)) × Bool)):Nat→List Int→List Int→Bool→Option ((List (List Int)) × Bool)
 | 0,_,_,_=>none
 | k+1,x0,x1,x28=>if x28=true then (some (([]:List (List Int)),false)) else ((impl_ranking.f x1).bind fun t290=>((impl_ranking.f x0).bind fun t293=>((impl_giftTable.f k (x0.length:Int) (-1) (-1) 1 0).bind fun t296=>(impl_TableFor.l0 TB_ k (x0.length:Int) t290 t293 t296))))
def impl_TableFor.l0 (TB_:Nat→List (List Int)→Option ((List (List Int)) × Bool)):Nat→Int→List Int→List Int→List (List Int)→Option ((List (List Int)) × Bool)
 | 0,_,_,_,_=>none
 | k+1,x6,x7,x8,x9=>(slices_Equal_int_int.f k x7 x8).bind fun t299=>(if t299=true then (TB_ k x9) else (impl_TableFor.l1 TB_ k x6 x7 x8 x9 (wrap64 (x6 - 1))))
def impl_TableFor.l1 (TB_:Nat→List (List Int)→Option ((List (List Int)) × Bool)):Nat→Int→List Int→List Int→List (List Int)→Int→Option ((List (List Int)) × Bool)
 | 0,_,_,_,_,_=>none
 | k+1,x6,x7,x8,x9,x10=>if 0≤x10 then (if x10<(x7.length:Int) then (if x10<(x8.length:Int) then (if (rd x7 x10)≤(rd x8 x10) then (impl_TableFor.l1 TB_ k x6 x7 x8 x9 (wrap64 (x10 - 1))) else (impl_TableFor.l2 TB_ k x6 x7 x8 x9 x10 (wrap64 (x10+1)))) else (none)) else (none)) else (none)
def impl_TableFor.l2 (TB_:Nat→List (List Int)→Option ((List (List Int)) × Bool)):Nat→Int→List Int→List Int→List (List Int)→Int→Int→Option ((List (List Int)) × Bool)
 | 0,_,_,_,_,_,_=>none
 | k+1,x6,x7,x8,x9,x10,x11=>if 0≤x11 then (if x11<(x7.length:Int) then (if x11<(x8.length:Int) then (if (rd x7 x11)≥(rd x8 x11) then (impl_TableFor.l2 TB_ k x6 x7 x8 x9 x10 (wrap64 (x11+1))) else (if 0≤x10 then (if x10<(x7.length:Int) then (if x10<(x8.length:Int) then ((impl_giftTable.f k x6 x10 x11 (wrap64 ((rd x7 x10) - (rd x7 x11))) (mn (wrap64 ((rd x7 x10) - (rd x8 x10))) (wrap64 ((rd x8 x11) - (rd x7 x11))))).bind fun t314=>((impl_product.f k t314 x9).bind fun t317=>((impl_given.f x7 x10 x11 (mn (wrap64 ((rd x7 x10) - (rd x8 x10))) (wrap64 ((rd x8 x11) - (rd x7 x11))))).bind fun t320=>(impl_TableFor.l0 TB_ k x6 t320 x8 t317)))) else (none)) else (none)) else (none))) else (none)) else (none)) else (none)
end
def impl_TableFor.f (k:Nat) (l0:List Int) (l1:List Int):Option ((List (List Int)) × Bool):=(impl_isBetween.f k l0 l1).bind fun t289=>(if t289=true then (impl_TableFor.j0 (fun q t=>impl_TableForB.f q l0 l1 t (l0.length:Int)) k l0 l1 (decide ((l0.length:Int)>4))) else (impl_TableFor.j0 (fun q t=>impl_TableForB.f q l0 l1 t (l0.length:Int)) k l0 l1 true))
def impl_TableFor.T7:Bool × List (List Nat × List Nat):=(true,[([],[]),([],[]),([0,1],[0,1]),([2],[2]),([],[]),([],[]),([4,5],[4,5]),([6],[6]),([3,7],[3,7])])
def impl_TableFor.B7:List Nat:=[0,0,3,7,0,0,48,112,255]
theorem impl_TableFor.tab7:rtab .any (opsOf Tryz.f11 7)=impl_TableFor.T7:=by kernel_rfl
theorem impl_TableFor.bits7:waitsOk impl_TableFor.T7.2 impl_TableFor.B7=true:=by kernel_rfl
def impl_TableFor.T10:Bool × List (List Nat × List Nat):=(true,[([],[]),([],[]),([0,1],[0,1]),([2],[2]),([],[]),([],[]),([4,5],[4,5]),([6],[6]),([3,7],[3,7])])
def impl_TableFor.B10:List Nat:=[0,0,3,7,0,0,48,112,255]
theorem impl_TableFor.tab10:rtab .any (opsOf Tryz.f11 10)=impl_TableFor.T10:=by kernel_rfl
theorem impl_TableFor.bits10:waitsOk impl_TableFor.T10.2 impl_TableFor.B10=true:=by kernel_rfl
def impl_TableFor.T12:Bool × List (List Nat × List Nat):=(true,[([],[]),([],[]),([0,1],[0,1]),([2],[2]),([],[]),([],[]),([4,5],[4,5]),([6],[6]),([3,7],[3,7]),([],[]),([],[]),([9,10],[9,10]),([11],[11]),([],[]),([],[]),([13,14],[13,14]),([15],[15]),([12,16],[12,16]),([8,17],[8,17]),([18,0,1,2,3,4,5,6,7,8,9,10,11,12,13,14,15,16,17,18],[18])])
def impl_TableFor.B12:List Nat:=[0,0,3,7,0,0,48,112,255,0,0,1536,3584,0,0,24576,57344,130560,262143,524287]
theorem impl_TableFor.tab12:rtab .any (opsOf Tryz.f11 12)=impl_TableFor.T12:=by kernel_rfl
theorem impl_TableFor.bits12:waitsOk impl_TableFor.T12.2 impl_TableFor.B12=true:=by kernel_rfl
theorem impl_TableFor.calls (k:Nat) (A0:Option Addr) (c0:Nat) (l0:List Int) (A1:Option Addr) (c1:Nat) (l1:List Int) (r1:List (List Int)) (r2:Bool) (w:World) (hr0:Kd.C (Kd.int .i64) w A0 l0.length l0) (hc0:l0.length≤c0) (hr1:Kd.C (Kd.int .i64) w A1 l1.length l1) (hc1:l1.length≤c1) (h:impl_TableFor.f k l0 l1=some (r1,r2)) :
 Calls Tryz.prog 11 #[.slice A0 l0.length c0,.slice A1 l1.length c1] w fun e w'=>∃ v0_:Value,e = .returned (.tuple #[v0_,.bool r2])∧Kd.S (Kd.slice 3 (Kd.int .i64)) 25 w' w.heap.size (fun _=>True) v0_ r1∧Below w.heap.size w w':=by
 have hu41:=Tryz.underlying58
 have HR0:=zad hr0;have HC0:=zad hc0;clear hr0 hc0;have HR1:=zad hr1;have HC1:=zad hc1;clear hr1 hc1;have HB:=zad (Below.refl w.heap.size w)
 have H:((impl_isBetween.f k l0 l1).bind fun t289=>(if t289=true then (impl_TableFor.j0 (fun q t=>impl_TableForB.f q l0 l1 t (l0.length:Int)) k l0 l1 (decide ((l0.length:Int)>4))) else (impl_TableFor.j0 (fun q t=>impl_TableForB.f q l0 l1 t (l0.length:Int)) k l0 l1 true)))=some (r1,r2):=h
 clear h;have HC3:=zad H;clear H;go_enter Tryz.func11,Tryz.ntmps11
 go_upto_region 1 with (fail)
 go_cut [28] (fun v28 wc=>∃ (kq:Nat) (x28_2:Bool),v28 = .bool x28_2∧Aside0 (impl_TableFor.j0 (fun q t=>impl_TableForB.f q l0 l1 t (l0.length:Int)) kq l0 l1 x28_2=some (r1,r2))∧Aside0 (kq≤k)∧Aside0 (Below w.heap.size w wc))
 case first =>
  have H:=HC3.out
  clear HC3;replace H:=zay.mp H;obtain ⟨t289,A40,H⟩:=H
  replace H:(if t289=true then (impl_TableFor.j0 (fun q t=>impl_TableForB.f q l0 l1 t (l0.length:Int)) k l0 l1 (decide ((l0.length:Int)>4))) else (impl_TableFor.j0 (fun q t=>impl_TableForB.f q l0 l1 t (l0.length:Int)) k l0 l1 true))=some (r1,r2):=H
  have A4:=zad A40;clear A40;by_cases c5:t289=true
  ·subst c5
   have H1:(impl_TableFor.j0 (fun q t=>impl_TableForB.f q l0 l1 t (l0.length:Int)) k l0 l1 (decide ((l0.length:Int)>4)))=some (r1,r2):=by rw [if_pos rfl] at H;exact H
   clear H;have H:=H1;clear H1;have H':=zad H
   clear H;go_wp2_with (first | ((with_reducible refine zbh (f:=29) rfl ?_);refine zbn (some 22) rfl rfl Tryz.func29 (by kernel_rfl) rfl #[.slice A0 l0.length c0,.slice A1 l1.length c1] rfl (taae) ?_;(with_reducible refine (impl_isBetween.calls k _ _ l0 _ _ l1 true _ ?side1 ?side2 ?side3 ?side4 A4.out).mono ?_);(case side1=>exact tafm);(case side2=>exact HC0.out);(case side3=>exact tagc);(case side4=>exact HC1.out);rintro e w6 ⟨rfl,hb⟩;refine ⟨_,rfl,?_⟩;have n0_:=zad (zbg (taab) hb);clear HB;have HB:=n0_;clear n0_;(try clear hb);(try clear hb2);(try clear hk);(try clear hi)))
   go_meet
   case rel=>exact ⟨_,(decide ((l0.length:Int)>4)),(taad),H',⟨taas⟩,⟨taab⟩⟩
  ·replace c5:=zbi.mpr c5
   subst c5;have H1:(impl_TableFor.j0 (fun q t=>impl_TableForB.f q l0 l1 t (l0.length:Int)) k l0 l1 true)=some (r1,r2):=by rw [if_neg (show ¬ (false=true) by decide)] at H;exact H
   clear H;have H:=H1;clear H1;have H':=zad H
   clear H;go_wp2_with (first | ((with_reducible refine zbh (f:=29) rfl ?_);refine zbn (some 22) rfl rfl Tryz.func29 (by kernel_rfl) rfl #[.slice A0 l0.length c0,.slice A1 l1.length c1] rfl (taae) ?_;(with_reducible refine (impl_isBetween.calls k _ _ l0 _ _ l1 false _ ?side1 ?side2 ?side3 ?side4 A4.out).mono ?_);(case side1=>exact tafm);(case side2=>exact HC0.out);(case side3=>exact tagc);(case side4=>exact HC1.out);rintro e w7 ⟨rfl,hb⟩;refine ⟨_,rfl,?_⟩;have n0_:=zad (zbg (taab) hb);clear HB;have HB:=n0_;clear n0_;(try clear hb);(try clear hb2);(try clear hk);(try clear hi)))
   go_meet
   case rel=>exact ⟨_,(true),(taad),H',⟨taas⟩,⟨taab⟩⟩
 case rest =>
  clear HC3;try clear c1
  try clear c2
  try clear p2
  try clear c5
  try clear c6
  obtain ⟨kq,x28_2,rfl,HA,HJ2,HB⟩:=hcut
  cases kq with
  | zero=>exact absurd HA.out (by simp [impl_TableFor.j0])
  | succ kj2 =>
   have H:=HA.out
   clear HA;simp only [impl_TableFor.j0] at H
   by_cases c8:x28_2=true
   ·subst c8
    have H1:(some (([]:List (List Int)),false))=some (r1,r2):=by rw [if_pos rfl] at H;exact H
    clear H;have H:=H1;clear H1;simp only [zbl,zbp] at H
    obtain ⟨rfl,rfl⟩:=H
    go_wp2
    go_ret2
    exact ⟨_,taai,tabx,taab⟩
   ·replace c8:=zbi.mpr c8
    subst c8;have H1:((impl_ranking.f l1).bind fun t290=>((impl_ranking.f l0).bind fun t293=>((impl_giftTable.f kj2 (l0.length:Int) (-1) (-1) 1 0).bind fun t296=>(impl_TableFor.l0 (fun q t=>impl_TableForB.f q l0 l1 t (l0.length:Int)) kj2 (l0.length:Int) t290 t293 t296))))=some (r1,r2):=by rw [if_neg (show ¬ (false=true) by decide)] at H;exact H
    clear H;have H:=H1;clear H1;replace H:=zay.mp H;obtain ⟨t290,A90,H⟩:=H
    replace H:((impl_ranking.f l0).bind fun t293=>((impl_giftTable.f kj2 (l0.length:Int) (-1) (-1) 1 0).bind fun t296=>(impl_TableFor.l0 (fun q t=>impl_TableForB.f q l0 l1 t (l0.length:Int)) kj2 (l0.length:Int) t290 t293 t296)))=some (r1,r2):=H
    have A9:=zad A90;clear A90;replace H:=zay.mp H;obtain ⟨t293,A100,H⟩:=H
    replace H:((impl_giftTable.f kj2 (l0.length:Int) (-1) (-1) 1 0).bind fun t296=>(impl_TableFor.l0 (fun q t=>impl_TableForB.f q l0 l1 t (l0.length:Int)) kj2 (l0.length:Int) t290 t293 t296))=some (r1,r2):=H
    have A10:=zad A100;clear A100;replace H:=zay.mp H;obtain ⟨t296,A110,H⟩:=H
    replace H:(impl_TableFor.l0 (fun q t=>impl_TableForB.f q l0 l1 t (l0.length:Int)) kj2 (l0.length:Int) t290 t293 t296)=some (r1,r2):=H
    have A11:=zad A110;clear A110;have H':=zad H
    clear H;go_wp2_with (first | ((with_reducible refine zbh (f:=30) rfl ?_);refine zbn (some 32) rfl rfl Tryz.func30 (by kernel_rfl) rfl #[.slice A1 l1.length c1] rfl (taae) ?_;(with_reducible refine (impl_ranking.calls _ _ l1 t290 _ ?side1 ?side2 A9.out).mono ?_);(case side1=>repeat (first | exact (Kd.C_below HR1.out HB.out) | (with_reducible refine zal ?_ _) | (with_reducible refine zam ?_ _) | (with_reducible refine zan ?_)));(case side2=>exact HC1.out);rintro e w12 ⟨v291,rfl,ho0,hb⟩;refine ⟨_,rfl,?_⟩;have n0_:=zad (zbu ho0 (zbk (taab)));have n1_:=zad (zbg (taab) hb);clear HB;have HO292:=n0_;have HB:=n1_;clear n0_ n1_;(try clear hb);(try clear hb2);(try clear hk);(try clear hi);(try clear ho0)) | ((with_reducible refine zbh (f:=30) rfl ?_);refine zbn (some 34) rfl rfl Tryz.func30 (by kernel_rfl) rfl #[.slice A0 l0.length c0] rfl (taae) ?_;(with_reducible refine (impl_ranking.calls _ _ l0 t293 _ ?side1 ?side2 A10.out).mono ?_);(case side1=>repeat (first | exact (Kd.C_below HR0.out HB.out) | (with_reducible refine zal ?_ _) | (with_reducible refine zam ?_ _) | (with_reducible refine zan ?_)));(case side2=>exact HC0.out);rintro e w13 ⟨v294,rfl,ho0,hb⟩;refine ⟨_,rfl,?_⟩;have n0_:=zad (zcb (tabk) (zcd ho0) hb);have n1_:=zad (zbu (zcc ho0 (zce (tabk))) (zbk (taab)));have n2_:=zad (zbg (taab) hb);clear HO292 HB;have HO292:=n0_;have HO295:=n1_;have HB:=n2_;clear n0_ n1_ n2_;(try clear hb);(try clear hb2);(try clear hk);(try clear hi);(try clear ho0)) | ((with_reducible refine zbh (f:=31) rfl ?_);refine zbn (some 36) rfl rfl Tryz.func31 (by kernel_rfl) rfl #[.int .i64 (l0.length:Int),.int .i64 (-1),.int .i64 (-1),.int .i64 1,.int .i64 0] rfl (taae) ?_;(with_reducible refine (impl_giftTable.calls kj2 (l0.length:Int) (-1) (-1) 1 0 t296 _ A11.out).mono ?_);rintro e w14 ⟨v297,rfl,ho0,hb⟩;refine ⟨_,rfl,?_⟩;have n0_:=zad (zbt (tabk) hb);have n1_:=zad (zbt (tael) hb);have n2_:=zad (Kd.S_lower (Kd.S_new' (Kd.S_new' ho0 (zce (tabk))) (zce (tael))) (zbk (taab)));have n3_:=zad (zbg (taab) hb);clear HO292 HO295 HB;have HO292:=n0_;have HO295:=n1_;have HO298:=n2_;have HB:=n3_;clear n0_ n1_ n2_ n3_;(try clear hb);(try clear hb2);(try clear hk);(try clear hi);(try clear ho0);obtain ⟨Aog,cog,eog⟩:=Kd.S_slice HO298.out;subst eog))
    have hbx1:=bx_new (t:=24) w14 (.slice Aog t296.length cog)
    have HBN:=zad (zbk HB.out)
    have hbn1:=zag HB.out (.cells #[(.slice Aog t296.length cog)] 23)
    revert hbx1 HBN
    generalize w14.heap.size=B9
    intro hbx1 HBN
    have HBX:=zad hbx1;clear hbx1;go_loopg [7] kj2 (fun kq v7 w'=>∃ (x7_2:List Int) (x9_2:List (List Int)) (v9:Value),Aside0 (impl_TableFor.l0 (fun q t=>impl_TableForB.f q l0 l1 t (l0.length:Int)) kq (l0.length:Int) x7_2 t293 x9_2=some (r1,r2))∧Aside0 (kq≤kj2)∧Aside0 (Kd.R (Kd.int .i64) 3 w' w.heap.size (fun k_=>some k_≠(v294:Value).ownBlock) v7 x7_2)∧Aside0 (Kd.R (Kd.int .i64) 3 w' w.heap.size (fun k_=>some k_≠(v7:Value).ownBlock) v294 t293)∧Aside0 (Kd.S (Kd.slice 3 (Kd.int .i64)) 25 w' w.heap.size (fun k_=>some k_≠(v7:Value).ownBlock∧some k_≠(v294:Value).ownBlock) v9 x9_2)∧Aside0 (Below w.heap.size w w')∧Aside0 (BX 24 w' B9 v9))
    case atStart=>exact ⟨(t290),(t296),_,H',⟨zcf _⟩,⟨by (with_reducible repeat (first | apply zai | apply zaj | apply zak));exact zbq HO292.out (fun _ hk=>hk.2)⟩,⟨by (with_reducible repeat (first | apply zai | apply zaj | apply zak));exact zbq HO295.out (fun _ hk=>hk.2)⟩,⟨by (with_reducible repeat (first | apply Kd.S_alloc | apply Kd.S_drewN | apply Kd.S_drew));exact Kd.S_mono HO298.out (fun _ hk=>⟨hk.1.2,hk.2⟩)⟩,⟨taab⟩,HBX⟩
    case round =>
     clear H'
     try clear c1
     try clear c2
     try clear p2
     try clear c5
     try clear c6
     try clear c8
     try clear p2
     obtain ⟨x7_2,x9_2,u9,HA,HK2,HO_7,HO_8,HO_9,HB,HBX⟩:=hrel
     revert HO_7 HO_8 HO_9 HB HBX
     generalize wr=wq
     intro HO_7 HO_8 HO_9 HB HBX
     have HBR:=zad (Below.refl wq.heap.size wq)
     cases gk with
     | zero=>exact absurd HA.out (by simp [impl_TableFor.l0])
     | succ k2 =>
      have H:=HA.out
      clear HA;simp only [impl_TableFor.l0] at H
      replace H:=zay.mp H;obtain ⟨t299,A150,H⟩:=H
      replace H:(if t299=true then (impl_TableForB.f k2 l0 l1 x9_2 (l0.length:Int)) else (impl_TableFor.l1 (fun q t=>impl_TableForB.f q l0 l1 t (l0.length:Int)) k2 (l0.length:Int) x7_2 t293 x9_2 (wrap64 ((l0.length:Int) - 1))))=some (r1,r2):=H
      have A15:=zad A150;clear A150;by_cases c16:t299=true
      ·subst c16
       have H1:(impl_TableForB.f k2 l0 l1 x9_2 (l0.length:Int))=some (r1,r2):=by rw [if_pos rfl] at H;exact H
       clear H;have H:=H1;clear H1;replace H:=zay.mp H;obtain ⟨t289,A50,H⟩:=H
       replace H:=zay.mp H;obtain ⟨t292,A60,H⟩:=H
       have A5:=zad A50;have A6:=zad A60;clear A50 A60;have H':=zad H
       clear H;obtain ⟨Ao49,co49,eo49⟩:=Kd.S_slice HO_9.out
       subst eo49;obtain ⟨Ao18,co18,eo18⟩:=zbv HO_7.out
       subst eo18;obtain ⟨Ao19,co19,eo19⟩:=zbv HO_8.out
       subst eo19;have HT:=zad (Kd.S_reads' HO_9.out).2.2
       have HTC:=zad (Kd.S_reads' HO_9.out).2.1
       go_wp2_with fail
       refine (slices_Equal_int_int.calls k2 _ _ x7_2 _ _ t293 true _ ?s1 ?s2 ?s3 ?s4 A15.out).mono ?_
       case s1=>exact (zbf HO_7.out).2.2
       case s2=>exact (zbf HO_7.out).2.1
       case s3=>exact (zbf HO_8.out).2.2
       case s4=>exact (zbf HO_8.out).2.1
       rintro e w6 ⟨rfl,hb⟩
       have HBR:=zad (zbg HBR.out hb.below)
       have HB:=zad (zbg HB.out hb.below)
       clear HO_7 HO_8 HO_9 hb;go_wp2_with fail
       refine (impl_ranks.calls k2 _ _ l0 t289 _ ?s1 ?s2 A5.out).mono ?_
       case s1=>exact Kd.C_below HR0.out (taab)
       case s2=>exact HC0.out
       rintro e w7 ⟨v290,rfl,ho0,hb⟩
       have HBR:=zad (zbg (tabf) hb)
       have HB:=zad (zbg (taab) hb)
       obtain ⟨Ar,cr,er⟩:=zbv ho0
       subst er;have HRr:=zad (zbf ho0).2.2
       clear ho0 hb;go_wp2_with fail
       refine (impl_ranks.calls k2 _ _ l1 t292 _ ?s1 ?s2 A6.out).mono ?_
       case s1=>exact Kd.C_below HR1.out (taab)
       case s2=>exact HC1.out
       rintro e w8 ⟨v293,rfl,ho0,hb⟩
       have HBR:=zad (zbg (tabf) hb)
       have HB:=zad (zbg (taab) hb)
       have HR13:=zad (Kd.C_below HRr.out hb)
       obtain ⟨Ac,cc,ec⟩:=zbv ho0
       subst ec;have HR14:=zad (zbf ho0).2.2
       clear ho0 hb HRr;have hq3:=zag (zag HBR.out (.cells #[.slice Ar t289.length cr] 25)) (.cells #[.slice Ac t292.length cc] 25)
       have hw3:=zag (zag HB.out (.cells #[.slice Ar t289.length cr] 25)) (.cells #[.slice Ac t292.length cc] 25)
       have h83:=zag (zag (Below.refl w8.heap.size w8) (.cells #[.slice Ar t289.length cr] 25)) (.cells #[.slice Ac t292.length cc] 25)
       have X13:((w8.alloc (.cells #[.slice Ar t289.length cr] 25)).alloc (.cells #[.slice Ac t292.length cc] 25)).cell? ⟨w8.heap.size,0,none⟩=some (.slice Ar t289.length cr):=by simp [go_sem]
       have X14:((w8.alloc (.cells #[.slice Ar t289.length cr] 25)).alloc (.cells #[.slice Ac t292.length cc] 25)).cell? ⟨w8.heap.size+1,0,none⟩=some (.slice Ac t292.length cc):=by simp [go_sem]
       have e15:w8.heap.size+1+1=((w8.alloc (.cells #[.slice Ar t289.length cr] 25)).alloc (.cells #[.slice Ac t292.length cc] 25)).heap.size:=by simp
       have x9:=bx_cell (bx_below (zag hq3 (.cells #[.int .i64 0] 3)) HBX.out)
       have EE:=zad e15;have XX13:=zad X13;have XX14:=zad X14;clear e15 X13 X14;go_wp2
       clear x9;have hbx3:=bx_new (t:=3) ((w8.alloc (.cells #[.slice Ar t289.length cr] 25)).alloc (.cells #[.slice Ac t292.length cc] 25)) (.int .i64 0)
       have e15:=EE.out
       have X13:=XX13.out
       have X14:=XX14.out
       have X9:=bx_cell (bx_below hq3 HBX.out)
       have HR2:=zad (Kd.C_below HT.out hq3)
       have HC2:=HTC
       have HR13':=zad (Kd.C_below HR13.out h83)
       have HR14':=zad (Kd.C_below HR14.out h83)
       rw [e15]
       clear e15 EE XX13 XX14 HBX HBR HT HTC HR13 HR14 h83 hq3 HB;revert hbx3 X13 X14 X9 HR2 HR13' HR14' hw3
       generalize w8.heap.size=B13
       generalize B13+1=B14
       generalize (w8.alloc (.cells #[.slice Ar t289.length cr] 25)).alloc (.cells #[.slice Ac t292.length cc] 25)=ww
       intro hw3 hbx3 X13 X14 X9 HR2 HR13 HR14
       have HBW:=zad hw3;have HX9:=zad X9;have HX13:=zad X13;have HX14:=zad X14;have HX15:=zad hbx3;obtain ⟨B15,hB15⟩:∃ B15,B15=ww.heap.size:=⟨_,rfl⟩
       rw [← hB15] at HX15 ⊢
       have HBN:=zad (Nat.le_of_eq hB15.symm)
       clear hB15;have HB:=zad (Below.refl ww.heap.size ww)
       clear hw3 X9 X13 X14 hbx3;have EG:=zad (show ∀ args w,(callFunc 39 args).run Tryz.prog w = .ok (.enter 39 args) w from fun args w=>enters_ Tryz.func39 (by kernel_rfl) rfl args w)
       go_loopg [114] k2 (fun kq v114 w'=>∃ (x15_1:Int) (x114_1:Int),v114 = .int .i64 x114_1∧Aside0 (impl_TableForB.l0 (fun q t g=>impl_square.f (placeF t t289 t292 g) q (l0.length:Int)) kq x9_2 x15_1 x9_2 (x9_2.length:Int) x114_1=some (r1,r2))∧Aside0 (kq≤k2)∧Aside0 (Below ww.heap.size ww w')∧Aside0 (BX 3 w' B15 (.int .i64 x15_1)))
       case atStart=>exact ⟨(0),(0),(taad),H',⟨zcf _⟩,⟨taab⟩,⟨tacw⟩⟩
       case round =>
        clear H'
        try clear c1
        try clear co49
        try clear p2
        try clear c6
        obtain ⟨x15_1,x114_1,rfl,HA,HK1,HB,HX15⟩:=hrel
        cases gk with
        | zero=>exact absurd HA.out (by simp [impl_TableForB.l0])
        | succ k1 =>
         have H:=HA.out
         clear HA;simp only [impl_TableForB.l0] at H
         by_cases c9:x114_1<(x9_2.length:Int)
         ·rw [if_pos c9] at H
          have c9b0:decide (x114_1<(x9_2.length:Int))=true:=zba c9
          clear c9;by_cases c10:0≤x114_1
          ·rw [if_pos c10] at H
           have c10b0:decide (0≤x114_1)=true:=zba c10
           clear c10;by_cases c11:x114_1<(x9_2.length:Int)
           ·rw [if_pos c11] at H
            have c11b0:decide (x114_1<(x9_2.length:Int))=true:=zba c11
            clear c11;have H':=zad H
            clear H;have p302:0≤(x114_1:Int):=zas (taaa)
            have q302:x114_1<(x9_2.length:Int):=zas (taaa)
            obtain ⟨ad302,A302_0,c302_0,e302,hx302_0,hl302_0,hi302_0⟩:=at_L2 HR2.out x114_1 p302 q302
            cases e302
            replace hx302_0:=(HB.out.cell (zaz ww _ hx302_0)).trans hx302_0
            have HR302_0:=zad hi302_0;have HC302_0:=zad hl302_0;clear hi302_0 hl302_0;replace p302:=eq_true p302
            replace q302:=eq_true q302
            go_wp2
            go_loopg [120] k1 (fun kq v120 w'=>∃ (x15_2:Int) (x120_2:Int),v120 = .int .i64 x120_2∧Aside0 (impl_TableForB.l1 (fun q t g=>impl_square.f (placeF t t289 t292 g) q (l0.length:Int)) kq x9_2 x15_2 x9_2 (x9_2.length:Int) x114_1 (rd_L2 x9_2 x114_1) ((rd_L2 x9_2 x114_1).length:Int) x120_2=some (r1,r2))∧Aside0 (kq≤k1)∧Aside0 (Below ww.heap.size ww w')∧Aside0 (BX 3 w' B15 (.int .i64 x15_2)))
            case atStart=>exact ⟨(x15_1),(0),(taad),H',⟨zcf _⟩,⟨taab⟩,⟨tacw⟩⟩
            case round =>
             clear H'
             try clear c1
             try clear co49
             try clear p2
             try clear c3
             try clear p3
             try clear q3
             try clear hx3
             try clear c6
             try clear c9
             try clear c9b0
             try clear c10
             try clear c10b0
             try clear c11
             try clear c11b0
             try clear hx302_0
             try clear p2
             try clear p302
             try clear q302
             obtain ⟨x15_2,x120_2,rfl,HA,HK2,HB,HX15⟩:=hrel
             cases gk with
             | zero=>exact absurd HA.out (by simp [impl_TableForB.l1])
             | succ k2 =>
              have H:=HA.out
              clear HA;simp only [impl_TableForB.l1] at H
              by_cases c12:x120_2<((rd_L2 x9_2 x114_1).length:Int)
              ·rw [if_pos c12] at H
               have c12b0:decide (x120_2<((rd_L2 x9_2 x114_1).length:Int))=true:=zba c12
               clear c12;by_cases c13:0≤x120_2
               ·rw [if_pos c13] at H
                have c13b0:decide (0≤x120_2)=true:=zba c13
                clear c13;by_cases c14:x120_2<((rd_L2 x9_2 x114_1).length:Int)
                ·rw [if_pos c14] at H
                 have c14b0:decide (x120_2<((rd_L2 x9_2 x114_1).length:Int))=true:=zba c14
                 clear c14;replace H:=zay.mp H;obtain ⟨t304,A150,H⟩:=H
                 replace H:(impl_TableForB.l1 (fun q t g=>impl_square.f (placeF t t289 t292 g) q (l0.length:Int)) k2 x9_2 t304 x9_2 (x9_2.length:Int) x114_1 (rd_L2 x9_2 x114_1) ((rd_L2 x9_2 x114_1).length:Int) (wrap64 (x120_2+1)))=some (r1,r2):=H
                 have A15:=zad A150;clear A150;have H':=zad H
                 clear H;have p303:0≤(x120_2:Int):=zas (taaa)
                 have q303:x120_2<((rd_L2 x9_2 x114_1).length:Int):=zas (taaa)
                 obtain ⟨ad303,e303,hx303_0⟩:=zca HR302_0.out x120_2 p303 q303
                 cases e303
                 replace hx303_0:=(HB.out.cell (zaz ww _ hx303_0)).trans hx303_0
                 replace p303:=eq_true p303
                 replace q303:=eq_true q303
                 have x15:=bx_cell HX15.out;have f15:=bx_frozen HX15.out;go_wp2_with (first | ((with_reducible refine zbh (f:=36) rfl ?_);refine zbn (some 126) rfl rfl Tryz.func36 (by kernel_rfl) rfl #[.int .i64 x15_2,.int .i64 (rd (rd_L2 x9_2 x114_1) x120_2)] rfl (taae) ?_;(with_reducible refine (impl_divisor.calls k2 x15_2 (rd (rd_L2 x9_2 x114_1) x120_2) t304 _ A15.out).mono ?_);rintro e w' ⟨rfl,⟨nd,rfl⟩⟩;refine ⟨_,rfl,?_⟩))
                 go_roundg k2
                 case measure=>have:=HK1.out;have:=HK2.out;omega
                 case rel=>exact ⟨(t304),(wrap64 (x120_2+1)),(taad),H',⟨taao⟩,⟨by repeat (first | (with_reducible first | exact HB.out | apply zag | apply zae | apply zaf | refine zah ?_ HBN.out) | exact HB.out)⟩,⟨bx_set (by repeat (first | exact HX15.out | apply BX_drewN)) _⟩⟩
                ·rw [if_neg c14] at H
                 exact absurd H (taac)
               ·rw [if_neg c13] at H
                exact absurd H (taac)
              ·rw [if_neg c12] at H
               have c12b0:decide (x120_2<((rd_L2 x9_2 x114_1).length:Int))=false:=zbj c12
               clear c12;have H':=zad H
               clear H;go_wp2
               go_roundg k2
               case measure=>have:=HK1.out;have:=HK2.out;omega
               case rel=>exact ⟨(x15_2),(wrap64 (x114_1+1)),(taad),H',⟨taao⟩,⟨taab⟩,⟨tacw⟩⟩
           ·rw [if_neg c11] at H
            exact absurd H (taac)
          ·rw [if_neg c10] at H
           exact absurd H (taac)
         ·rw [if_neg c9] at H
          have c9b0:decide (x114_1<(x9_2.length:Int))=false:=zbj c9
          clear c9;replace H:=zay.mp H;obtain ⟨t295,A160,H⟩:=H
          replace H:((impl_checked.f t295).bind fun bt298=>(some (bt298.1,bt298.2)))=some (r1,r2):=H
          have A16:=zad A160;clear A160;replace H:=zay.mp H;obtain ⟨⟨t298,t299⟩,A170,H⟩:=H
          replace H:(some (t298,t299))=some (r1,r2):=H
          have A17:=zad A170;clear A170;simp only [zbl,zbp] at H
          obtain ⟨rfl,rfl⟩:=H
          go_wp2_with fail
          refine (impl_square.calls (placeF x9_2 t289 t292 x15_1) 39 #[.pointer (some ⟨B9,0,none⟩),.pointer (some ⟨B13,0,none⟩),.pointer (some ⟨B14,0,none⟩),.pointer (some ⟨B15,0,none⟩)] EG.out k1 (l0.length:Int) t295 _ ?side1 A16.out).mono ?_
          case side1 =>
           intro i' j' t' W' hF hb
           have hb':=zbg HB.out hb
           exact place_cell x9_2 t289 t292 x15_1 i' j' t' Ao49 Ar Ac co49 cr cc B9 B13 B14 B15 W' hF (tab_bx hb' HX9.out (zaz _ _ HX9.out)) (tab_bx hb' HX13.out (zaz _ _ HX13.out)) (tab_bx hb' HX14.out (zaz _ _ HX14.out)) (bx_cell (bx_below hb HX15.out)) (Kd.C_below HR2.out hb') (Kd.C_below HR13.out hb') (Kd.C_below HR14.out hb')
          rintro e w18 ⟨v296,rfl,ho0,hb⟩
          obtain ⟨Aos,cos,eos⟩:=Kd.S_slice ho0
          subst eos;have HO:=zad ho0;have HB2:=zad hb;clear ho0 hb;go_wp2_with fail
          refine (impl_checked.calls _ _ _ _ t295 t298 t299 _ HO.out A17.out).mono ?_
          rintro e w20 ⟨v300,rfl,ho1,hb3⟩
          have HO1:=zad ho1;have HB3:=zad hb3;clear ho1 hb3;go_wp2
          go_ret2
          exact ⟨_,rfl,Kd.S_lower (Kd.S_mono HO1.out (fun _ _=>trivial)) (zbk (zbg HBW.out HB.out)),zbg (zbg (zbg HBW.out HB.out) HB2.out) HB3.out⟩
      ·replace c16:=zbi.mpr c16
       subst c16;have H1:(impl_TableFor.l1 (fun q t=>impl_TableForB.f q l0 l1 t (l0.length:Int)) k2 (l0.length:Int) x7_2 t293 x9_2 (wrap64 ((l0.length:Int) - 1)))=some (r1,r2):=by rw [if_neg (show ¬ (false=true) by decide)] at H;exact H
       clear H;have H:=H1;clear H1;have H':=zad H
       clear H;obtain ⟨Ao22,co22,eo22⟩:=zbv HO_7.out
       subst eo22;obtain ⟨Ao23,co23,eo23⟩:=zbv HO_8.out
       subst eo23;go_wp2_with (first | ((with_reducible refine zbh (f:=32) rfl ?_);refine zbn (some 39) rfl rfl Tryz.func32 (by kernel_rfl) rfl #[.slice Ao22 x7_2.length co22,.slice Ao23 t293.length co23] rfl (taae) ?_;(with_reducible refine (slices_Equal_int_int.calls k2 _ _ x7_2 _ _ t293 false _ ?side1 ?side2 ?side3 ?side4 A15.out).mono ?_);(case side1=>exact tafn);(case side2=>exact tafo);(case side3=>exact tafr);(case side4=>exact (zbf HO_8.out).2.1);rintro e w' ⟨rfl,⟨nd,rfl⟩⟩;refine ⟨_,rfl,?_⟩))
       go_loopg [10] k2 (fun kq v10 w'=>∃ (x10_3:Int),v10 = .int .i64 x10_3∧Aside0 (impl_TableFor.l1 (fun q t=>impl_TableForB.f q l0 l1 t (l0.length:Int)) kq (l0.length:Int) x7_2 t293 x9_2 x10_3=some (r1,r2))∧Aside0 (kq≤k2)∧Aside0 (Kd.R (Kd.int .i64) 3 w' w.heap.size (fun k_=>some k_≠((.slice Ao23 t293.length co23):Value).ownBlock) (.slice Ao22 x7_2.length co22) x7_2)∧Aside0 (Kd.R (Kd.int .i64) 3 w' w.heap.size (fun k_=>some k_≠((.slice Ao22 x7_2.length co22):Value).ownBlock) (.slice Ao23 t293.length co23) t293)∧Aside0 (Kd.S (Kd.slice 3 (Kd.int .i64)) 25 w' w.heap.size (fun k_=>some k_≠((.slice Ao22 x7_2.length co22):Value).ownBlock∧some k_≠((.slice Ao23 t293.length co23):Value).ownBlock) u9 x9_2)∧Aside0 (Below w.heap.size w w')∧Aside0 (Below wq.heap.size wq w'))
       case atStart=>exact ⟨(wrap64 ((l0.length:Int) - 1)),(taad),H',⟨zcf _⟩,⟨taak⟩,⟨taap⟩,⟨taav⟩,⟨taab⟩,⟨tabf⟩⟩
       case round =>
        clear H'
        try clear c1
        try clear c2
        try clear p2
        try clear c3
        try clear c5
        try clear c6
        try clear p6
        try clear c8
        try clear c16
        try clear c22
        try clear c23
        try clear p2
        obtain ⟨x10_3,rfl,HA,HK3,HO_7,HO_8,HO_9,HB,HBR⟩:=hrel
        cases gk with
        | zero=>exact absurd HA.out (by simp [impl_TableFor.l1])
        | succ k3 =>
         have H:=HA.out
         clear HA;simp only [impl_TableFor.l1] at H
         by_cases c24:0≤x10_3
         ·rw [if_pos c24] at H
          have c24b0:decide (0≤x10_3)=true:=zba c24
          clear c24;by_cases c25:x10_3<(x7_2.length:Int)
          ·rw [if_pos c25] at H
           have c25b0:decide (x10_3<(x7_2.length:Int))=true:=zba c25
           clear c25;by_cases c26:x10_3<(t293.length:Int)
           ·rw [if_pos c26] at H
            have c26b0:decide (x10_3<(t293.length:Int))=true:=zba c26
            clear c26;by_cases c27:(rd x7_2 x10_3)≤(rd t293 x10_3)
            ·rw [if_pos c27] at H
             have c27b0:decide ((rd x7_2 x10_3)≤(rd t293 x10_3))=true:=zba c27
             clear c27;have H':=zad H
             clear H;try go_wp2
             have n0_:=zad (zak HO_7.out)
             have n1_:=zad (zak HO_8.out)
             have n2_:=zad (Kd.S_drew HO_9.out)
             have n3_:=zad (zaf HB.out);have HBR:=zad (zaf HBR.out)
             clear HO_7 HO_8 HO_9 HB;have HO_7:=n0_;have HO_8:=n1_;have HO_9:=n2_;have HB:=n3_;clear n0_ n1_ n2_ n3_;have p304:0≤(x10_3:Int):=zas (taaa)
             have q304:x10_3<(x7_2.length:Int):=zas (taaa)
             obtain ⟨ad304,e304,hx304_0⟩:=zca (zbf HO_7.out).2.2 x10_3 p304 q304
             cases e304
             replace p304:=eq_true p304
             replace q304:=eq_true q304
             have p305:0≤(x10_3:Int):=zas (taaa)
             have q305:x10_3<(t293.length:Int):=zas (taaa)
             obtain ⟨ad305,e305,hx305_0⟩:=zca (zbf HO_8.out).2.2 x10_3 p305 q305
             cases e305
             replace p305:=eq_true p305
             replace q305:=eq_true q305
             refine start_ (n:=9) (S:=fun w'=>w'.cell? (ad304.add (x10_3).toNat)=some (.int .i64 (rd x7_2 x10_3))∧w'.cell? (ad305.add (x10_3).toNat)=some (.int .i64 (rd t293 x10_3))) (ds:=[]) #[false,false,false,false,false,false,false,false,false] (by kernel_rfl) rfl rfl ⟨hx304_0,hx305_0⟩ (fun hHeld => ?_);refine with_tabW impl_TableFor.tab7 impl_TableFor.bits7 (fun HT_ HW_ => ?_)
             generalize wr.drew=w28 at HO_7 HO_8 HO_9 HB HBR hx304_0 hx305_0 hHeld ⊢
             refine pure_ (i:=0) (N:=some 43) (v := ?_) (a' := ?_) taho rfl rfl (zby HT_.out (by kernel_rfl)) (fun _ _ _ h=>h) (Or.inl ⟨by rfl,?_⟩) ?_ ?_
             rotate_left
             ·intro w'
              go_simp;with_reducible rfl
             rotate_left
             ·simp only [Act.put,zaa,zab,zac,zbw,zbx]
              rfl
             refine pure_ (i:=1) (N:=some 44) (v := ?_) (a' := ?_) tahp rfl rfl (zby HT_.out (by kernel_rfl)) (fun _ _ _ h=>h) (Or.inl ⟨by rfl,?_⟩) ?_ ?_
             rotate_left
             ·intro w'
              go_simp;with_reducible rfl
             rotate_left
             ·simp only [Act.put,zaa,zab,zac,zbw,zbx]
              rfl
             refine pure_ (i:=2) (N:=some 45) (v := ?_) (a' := ?_) tahq rfl rfl (zby HT_.out (by kernel_rfl)) (fun _ _ _ h=>h) (Or.inl ⟨by rfl,?_⟩) ?_ ?_
             rotate_left
             ·intro w'
              go_simp;with_reducible rfl
             rotate_left
             ·simp only [Act.put,zaa,zab,zac,zbw,zbx]
              rfl
             refine pure_ (i:=4) (N:=some 47) (v := ?_) (a' := ?_) tahr rfl rfl (zby HT_.out (by kernel_rfl)) (fun _ _ _ h=>h) (Or.inl ⟨by rfl,?_⟩) ?_ ?_
             rotate_left
             ·intro w'
              go_simp;with_reducible rfl
             rotate_left
             ·simp only [Act.put,zaa,zab,zac,zbw,zbx]
              rfl
             refine pure_ (i:=5) (N:=some 48) (v := ?_) (a' := ?_) tahs rfl rfl (zby HT_.out (by kernel_rfl)) (fun _ _ _ h=>h) (Or.inl ⟨by rfl,?_⟩) ?_ ?_
             rotate_left
             ·intro w'
              go_simp;with_reducible rfl
             rotate_left
             ·simp only [Act.put,zaa,zab,zac,zbw,zbx]
              rfl
             refine pure_ (i:=6) (N:=some 49) (v := ?_) (a' := ?_) taht rfl rfl (zby HT_.out (by kernel_rfl)) (fun _ _ _ h=>h) (Or.inl ⟨by rfl,?_⟩) ?_ ?_
             rotate_left
             ·intro w'
              go_simp;with_reducible rfl
             rotate_left
             ·simp only [Act.put,zaa,zab,zac,zbw,zbx]
              rfl
             refine take_ (i:=3) (N:=some 46) (v := ?_) (a' := ?_) tahu rfl rfl (zbz HT_.out HW_.out (by kernel_rfl)) (fun _ _ _ h=>h) (Or.inl ⟨by rfl,?_⟩) hHeld ?_ ?_
             rotate_left
             ·rintro w' ⟨s0,s1⟩
              go_simp;with_reducible rfl
             rotate_left
             ·simp only [Act.put,zaa,zab,zac,zbw,zbx]
              rfl
             refine take_ (i:=7) (N:=some 50) (v := ?_) (a' := ?_) tahv rfl rfl (zbz HT_.out HW_.out (by kernel_rfl)) (fun _ _ _ h=>h) (Or.inl ⟨by rfl,?_⟩) hHeld ?_ ?_
             rotate_left
             ·rintro w' ⟨s0,s1⟩
              go_simp;with_reducible rfl
             rotate_left
             ·simp only [Act.put,zaa,zab,zac,zbw,zbx]
              rfl
             refine pure_ (i:=8) (N:=some 51) (v := ?_) (a' := ?_) tahw rfl rfl (zby HT_.out (by kernel_rfl)) (fun _ _ _ h=>h) (Or.inl ⟨by rfl,?_⟩) ?_ ?_
             rotate_left
             ·intro w'
              go_simp;with_reducible rfl
             rotate_left
             ·simp only [Act.put,zaa,zab,zac,zbw,zbx]
              rfl
             refine done_ (done_of HT_.out (by kernel_rfl)) ?_
             try go_wp2
             go_roundg k3
             case measure=>have:=HJ2.out;have:=HK2.out;have:=HK3.out;omega
             case rel=>exact ⟨(wrap64 (x10_3 - 1)),(taad),H',⟨by have:=HJ2.out;have:=HK2.out;have:=HK3.out;omega⟩,⟨taak⟩,⟨taap⟩,⟨taav⟩,⟨taab⟩,⟨tabf⟩⟩
            ·rw [if_neg c27] at H
             have c27b0:decide ((rd x7_2 x10_3)≤(rd t293 x10_3))=false:=zbj c27
             clear c27;have H':=zad H
             clear H;try go_wp2
             have n0_:=zad (zak HO_7.out)
             have n1_:=zad (zak HO_8.out)
             have n2_:=zad (Kd.S_drew HO_9.out)
             have n3_:=zad (zaf HB.out);have HBR:=zad (zaf HBR.out)
             clear HO_7 HO_8 HO_9 HB;have HO_7:=n0_;have HO_8:=n1_;have HO_9:=n2_;have HB:=n3_;clear n0_ n1_ n2_ n3_;have p304:0≤(x10_3:Int):=zas (taaa)
             have q304:x10_3<(x7_2.length:Int):=zas (taaa)
             obtain ⟨ad304,e304,hx304_0⟩:=zca (zbf HO_7.out).2.2 x10_3 p304 q304
             cases e304
             replace p304:=eq_true p304
             replace q304:=eq_true q304
             have p305:0≤(x10_3:Int):=zas (taaa)
             have q305:x10_3<(t293.length:Int):=zas (taaa)
             obtain ⟨ad305,e305,hx305_0⟩:=zca (zbf HO_8.out).2.2 x10_3 p305 q305
             cases e305
             replace p305:=eq_true p305
             replace q305:=eq_true q305
             refine start_ (n:=9) (S:=fun w'=>w'.cell? (ad304.add (x10_3).toNat)=some (.int .i64 (rd x7_2 x10_3))∧w'.cell? (ad305.add (x10_3).toNat)=some (.int .i64 (rd t293 x10_3))) (ds:=[]) #[false,false,false,false,false,false,false,false,false] (by kernel_rfl) rfl rfl ⟨hx304_0,hx305_0⟩ (fun hHeld => ?_);refine with_tabW impl_TableFor.tab7 impl_TableFor.bits7 (fun HT_ HW_ => ?_)
             generalize wr.drew=w29 at HO_7 HO_8 HO_9 HB HBR hx304_0 hx305_0 hHeld ⊢
             refine pure_ (i:=0) (N:=some 43) (v := ?_) (a' := ?_) taho rfl rfl (zby HT_.out (by kernel_rfl)) (fun _ _ _ h=>h) (Or.inl ⟨by rfl,?_⟩) ?_ ?_
             rotate_left
             ·intro w'
              go_simp;with_reducible rfl
             rotate_left
             ·simp only [Act.put,zaa,zab,zac,zbw,zbx]
              rfl
             refine pure_ (i:=1) (N:=some 44) (v := ?_) (a' := ?_) tahp rfl rfl (zby HT_.out (by kernel_rfl)) (fun _ _ _ h=>h) (Or.inl ⟨by rfl,?_⟩) ?_ ?_
             rotate_left
             ·intro w'
              go_simp;with_reducible rfl
             rotate_left
             ·simp only [Act.put,zaa,zab,zac,zbw,zbx]
              rfl
             refine pure_ (i:=2) (N:=some 45) (v := ?_) (a' := ?_) tahq rfl rfl (zby HT_.out (by kernel_rfl)) (fun _ _ _ h=>h) (Or.inl ⟨by rfl,?_⟩) ?_ ?_
             rotate_left
             ·intro w'
              go_simp;with_reducible rfl
             rotate_left
             ·simp only [Act.put,zaa,zab,zac,zbw,zbx]
              rfl
             refine pure_ (i:=4) (N:=some 47) (v := ?_) (a' := ?_) tahr rfl rfl (zby HT_.out (by kernel_rfl)) (fun _ _ _ h=>h) (Or.inl ⟨by rfl,?_⟩) ?_ ?_
             rotate_left
             ·intro w'
              go_simp;with_reducible rfl
             rotate_left
             ·simp only [Act.put,zaa,zab,zac,zbw,zbx]
              rfl
             refine pure_ (i:=5) (N:=some 48) (v := ?_) (a' := ?_) tahs rfl rfl (zby HT_.out (by kernel_rfl)) (fun _ _ _ h=>h) (Or.inl ⟨by rfl,?_⟩) ?_ ?_
             rotate_left
             ·intro w'
              go_simp;with_reducible rfl
             rotate_left
             ·simp only [Act.put,zaa,zab,zac,zbw,zbx]
              rfl
             refine pure_ (i:=6) (N:=some 49) (v := ?_) (a' := ?_) taht rfl rfl (zby HT_.out (by kernel_rfl)) (fun _ _ _ h=>h) (Or.inl ⟨by rfl,?_⟩) ?_ ?_
             rotate_left
             ·intro w'
              go_simp;with_reducible rfl
             rotate_left
             ·simp only [Act.put,zaa,zab,zac,zbw,zbx]
              rfl
             refine take_ (i:=3) (N:=some 46) (v := ?_) (a' := ?_) tahu rfl rfl (zbz HT_.out HW_.out (by kernel_rfl)) (fun _ _ _ h=>h) (Or.inl ⟨by rfl,?_⟩) hHeld ?_ ?_
             rotate_left
             ·rintro w' ⟨s0,s1⟩
              go_simp;with_reducible rfl
             rotate_left
             ·simp only [Act.put,zaa,zab,zac,zbw,zbx]
              rfl
             refine take_ (i:=7) (N:=some 50) (v := ?_) (a' := ?_) tahv rfl rfl (zbz HT_.out HW_.out (by kernel_rfl)) (fun _ _ _ h=>h) (Or.inl ⟨by rfl,?_⟩) hHeld ?_ ?_
             rotate_left
             ·rintro w' ⟨s0,s1⟩
              go_simp;with_reducible rfl
             rotate_left
             ·simp only [Act.put,zaa,zab,zac,zbw,zbx]
              rfl
             refine pure_ (i:=8) (N:=some 51) (v := ?_) (a' := ?_) tahw rfl rfl (zby HT_.out (by kernel_rfl)) (fun _ _ _ h=>h) (Or.inl ⟨by rfl,?_⟩) ?_ ?_
             rotate_left
             ·intro w'
              go_simp;with_reducible rfl
             rotate_left
             ·simp only [Act.put,zaa,zab,zac,zbw,zbx]
              rfl
             refine done_ (done_of HT_.out (by kernel_rfl)) ?_
             try go_wp2
             go_loopg [11] k3 (fun kq v11 w'=>∃ (x11_4:Int),v11 = .int .i64 x11_4∧Aside0 (impl_TableFor.l2 (fun q t=>impl_TableForB.f q l0 l1 t (l0.length:Int)) kq (l0.length:Int) x7_2 t293 x9_2 x10_3 x11_4=some (r1,r2))∧Aside0 (kq≤k3)∧Aside0 (Kd.R (Kd.int .i64) 3 w' w.heap.size (fun k_=>some k_≠((.slice (some ad305) t293.length co23):Value).ownBlock) (.slice (some ad304) x7_2.length co22) x7_2)∧Aside0 (Kd.R (Kd.int .i64) 3 w' w.heap.size (fun k_=>some k_≠((.slice (some ad304) x7_2.length co22):Value).ownBlock) (.slice (some ad305) t293.length co23) t293)∧Aside0 (Kd.S (Kd.slice 3 (Kd.int .i64)) 25 w' w.heap.size (fun k_=>some k_≠((.slice (some ad304) x7_2.length co22):Value).ownBlock∧some k_≠((.slice (some ad305) t293.length co23):Value).ownBlock) u9 x9_2)∧Aside0 (Below w.heap.size w w')∧Aside0 (Below wq.heap.size wq w'))
             case atStart=>exact ⟨(wrap64 (x10_3+1)),(taad),H',⟨zcf _⟩,⟨taak⟩,⟨taap⟩,⟨taav⟩,⟨taab⟩,⟨tabf⟩⟩
             case round =>
              clear H'
              try clear c1
              try clear c2
              try clear p2
              try clear c3
              try clear p3
              try clear q3
              try clear hx3
              try clear c5
              try clear c6
              try clear p6
              try clear c8
              try clear c16
              try clear c22
              try clear c23
              try clear c24
              try clear c24b0
              try clear c25
              try clear c25b0
              try clear c26
              try clear c26b0
              try clear c27
              try clear c27b0
              try clear hx304_0
              try clear hx305_0
              try clear p2
              try clear p304
              try clear p305
              try clear p6
              try clear q304
              try clear q305
              obtain ⟨x11_4,rfl,HA,HK4,HO_7,HO_8,HO_9,HB,HBR⟩:=hrel
              cases gk with
              | zero=>exact absurd HA.out (by simp [impl_TableFor.l2])
              | succ k4 =>
               have H:=HA.out
               clear HA;simp only [impl_TableFor.l2] at H
               by_cases c30:0≤x11_4
               ·rw [if_pos c30] at H
                have c30b0:decide (0≤x11_4)=true:=zba c30
                clear c30;by_cases c31:x11_4<(x7_2.length:Int)
                ·rw [if_pos c31] at H
                 have c31b0:decide (x11_4<(x7_2.length:Int))=true:=zba c31
                 clear c31;by_cases c32:x11_4<(t293.length:Int)
                 ·rw [if_pos c32] at H
                  have c32b0:decide (x11_4<(t293.length:Int))=true:=zba c32
                  clear c32;by_cases c33:(rd x7_2 x11_4)≥(rd t293 x11_4)
                  ·rw [if_pos c33] at H
                   have c33b0:decide ((rd t293 x11_4)≤(rd x7_2 x11_4))=true:=zba c33
                   clear c33;have H':=zad H
                   clear H;try go_wp2
                   have n0_:=zad (zak HO_7.out)
                   have n1_:=zad (zak HO_8.out)
                   have n2_:=zad (Kd.S_drew HO_9.out)
                   have n3_:=zad (zaf HB.out);have HBR:=zad (zaf HBR.out)
                   clear HO_7 HO_8 HO_9 HB;have HO_7:=n0_;have HO_8:=n1_;have HO_9:=n2_;have HB:=n3_;clear n0_ n1_ n2_ n3_;have p306:0≤(x11_4:Int):=zas (taaa)
                   have q306:x11_4<(x7_2.length:Int):=zas (taaa)
                   obtain ⟨ad306,e306,hx306_0⟩:=zca (zbf HO_7.out).2.2 x11_4 p306 q306
                   obtain rfl:ad304=ad306:=(by injection e306)
                   replace p306:=eq_true p306
                   replace q306:=eq_true q306
                   have p307:0≤(x11_4:Int):=zas (taaa)
                   have q307:x11_4<(t293.length:Int):=zas (taaa)
                   obtain ⟨ad307,e307,hx307_0⟩:=zca (zbf HO_8.out).2.2 x11_4 p307 q307
                   obtain rfl:ad305=ad307:=(by injection e307)
                   replace p307:=eq_true p307
                   replace q307:=eq_true q307
                   refine start_ (n:=9) (S:=fun w'=>w'.cell? (ad304.add (x11_4).toNat)=some (.int .i64 (rd x7_2 x11_4))∧w'.cell? (ad305.add (x11_4).toNat)=some (.int .i64 (rd t293 x11_4))) (ds:=[]) #[false,false,false,false,false,false,false,false,false] (by kernel_rfl) rfl rfl ⟨hx306_0,hx307_0⟩ (fun hHeld => ?_);refine with_tabW impl_TableFor.tab10 impl_TableFor.bits10 (fun HT_ HW_ => ?_)
                   generalize wr.drew=w34 at HO_7 HO_8 HO_9 HB HBR hx306_0 hx307_0 hHeld ⊢
                   refine pure_ (i:=0) (N:=some 56) (v := ?_) (a' := ?_) taho rfl rfl (zby HT_.out (by kernel_rfl)) (fun _ _ _ h=>h) (Or.inl ⟨by rfl,?_⟩) ?_ ?_
                   rotate_left
                   ·intro w'
                    go_simp;with_reducible rfl
                   rotate_left
                   ·simp only [Act.put,zaa,zab,zac,zbw,zbx]
                    rfl
                   refine pure_ (i:=1) (N:=some 57) (v := ?_) (a' := ?_) tahp rfl rfl (zby HT_.out (by kernel_rfl)) (fun _ _ _ h=>h) (Or.inl ⟨by rfl,?_⟩) ?_ ?_
                   rotate_left
                   ·intro w'
                    go_simp;with_reducible rfl
                   rotate_left
                   ·simp only [Act.put,zaa,zab,zac,zbw,zbx]
                    rfl
                   refine pure_ (i:=2) (N:=some 58) (v := ?_) (a' := ?_) tahq rfl rfl (zby HT_.out (by kernel_rfl)) (fun _ _ _ h=>h) (Or.inl ⟨by rfl,?_⟩) ?_ ?_
                   rotate_left
                   ·intro w'
                    go_simp;with_reducible rfl
                   rotate_left
                   ·simp only [Act.put,zaa,zab,zac,zbw,zbx]
                    rfl
                   refine pure_ (i:=4) (N:=some 60) (v := ?_) (a' := ?_) tahr rfl rfl (zby HT_.out (by kernel_rfl)) (fun _ _ _ h=>h) (Or.inl ⟨by rfl,?_⟩) ?_ ?_
                   rotate_left
                   ·intro w'
                    go_simp;with_reducible rfl
                   rotate_left
                   ·simp only [Act.put,zaa,zab,zac,zbw,zbx]
                    rfl
                   refine pure_ (i:=5) (N:=some 61) (v := ?_) (a' := ?_) tahs rfl rfl (zby HT_.out (by kernel_rfl)) (fun _ _ _ h=>h) (Or.inl ⟨by rfl,?_⟩) ?_ ?_
                   rotate_left
                   ·intro w'
                    go_simp;with_reducible rfl
                   rotate_left
                   ·simp only [Act.put,zaa,zab,zac,zbw,zbx]
                    rfl
                   refine pure_ (i:=6) (N:=some 62) (v := ?_) (a' := ?_) taht rfl rfl (zby HT_.out (by kernel_rfl)) (fun _ _ _ h=>h) (Or.inl ⟨by rfl,?_⟩) ?_ ?_
                   rotate_left
                   ·intro w'
                    go_simp;with_reducible rfl
                   rotate_left
                   ·simp only [Act.put,zaa,zab,zac,zbw,zbx]
                    rfl
                   refine take_ (i:=3) (N:=some 59) (v := ?_) (a' := ?_) tahu rfl rfl (zbz HT_.out HW_.out (by kernel_rfl)) (fun _ _ _ h=>h) (Or.inl ⟨by rfl,?_⟩) hHeld ?_ ?_
                   rotate_left
                   ·rintro w' ⟨s0,s1⟩
                    go_simp;with_reducible rfl
                   rotate_left
                   ·simp only [Act.put,zaa,zab,zac,zbw,zbx]
                    rfl
                   refine take_ (i:=7) (N:=some 63) (v := ?_) (a' := ?_) tahv rfl rfl (zbz HT_.out HW_.out (by kernel_rfl)) (fun _ _ _ h=>h) (Or.inl ⟨by rfl,?_⟩) hHeld ?_ ?_
                   rotate_left
                   ·rintro w' ⟨s0,s1⟩
                    go_simp;with_reducible rfl
                   rotate_left
                   ·simp only [Act.put,zaa,zab,zac,zbw,zbx]
                    rfl
                   refine pure_ (i:=8) (N:=some 64) (v := ?_) (a' := ?_) tahw rfl rfl (zby HT_.out (by kernel_rfl)) (fun _ _ _ h=>h) (Or.inl ⟨by rfl,?_⟩) ?_ ?_
                   rotate_left
                   ·intro w'
                    go_simp;with_reducible rfl
                   rotate_left
                   ·simp only [Act.put,zaa,zab,zac,zbw,zbx]
                    rfl
                   refine done_ (done_of HT_.out (by kernel_rfl)) ?_
                   try go_wp2
                   go_roundg k4
                   case measure=>have:=HJ2.out;have:=HK2.out;have:=HK3.out;have:=HK4.out;omega
                   case rel=>exact ⟨(wrap64 (x11_4+1)),(taad),H',⟨taem⟩,⟨taak⟩,⟨taap⟩,⟨taav⟩,⟨taab⟩,⟨tabf⟩⟩
                  ·rw [if_neg c33] at H
                   have c33b0:decide ((rd t293 x11_4)≤(rd x7_2 x11_4))=false:=zbj c33
                   clear c33;by_cases c35:0≤x10_3
                   ·rw [if_pos c35] at H
                    have c35b0:decide (0≤x10_3)=true:=zba c35
                    clear c35;by_cases c36:x10_3<(x7_2.length:Int)
                    ·rw [if_pos c36] at H
                     have c36b0:decide (x10_3<(x7_2.length:Int))=true:=zba c36
                     clear c36;by_cases c37:x10_3<(t293.length:Int)
                     ·rw [if_pos c37] at H
                      have c37b0:decide (x10_3<(t293.length:Int))=true:=zba c37
                      clear c37;obtain ⟨ji38,hji38⟩:∃ j_:Int,(mn (wrap64 ((rd x7_2 x10_3) - (rd t293 x10_3))) (wrap64 ((rd t293 x11_4) - (rd x7_2 x11_4))))=j_:=⟨_,rfl⟩
                      replace H:((impl_giftTable.f k4 (l0.length:Int) x10_3 x11_4 (wrap64 ((rd x7_2 x10_3) - (rd x7_2 x11_4))) (ji38)).bind fun t314=>((impl_product.f k4 t314 x9_2).bind fun t317=>((impl_given.f x7_2 x10_3 x11_4 (ji38)).bind fun t320=>(impl_TableFor.l0 (fun q t=>impl_TableForB.f q l0 l1 t (l0.length:Int)) k4 (l0.length:Int) t320 t293 t317))))=some (r1,r2):=by first | (rw [hji38] at H;exact H) | (simp only [hji38] at H ⊢;exact H)
                      have hji38_:(if (wrap64 ((rd t293 x11_4) - (rd x7_2 x11_4)))<(wrap64 ((rd x7_2 x10_3) - (rd t293 x10_3))) then (wrap64 ((rd t293 x11_4) - (rd x7_2 x11_4))) else (wrap64 ((rd x7_2 x10_3) - (rd t293 x10_3))))=ji38:=hji38
                      replace H:=zay.mp H;obtain ⟨t314,A390,H⟩:=H
                      replace H:((impl_product.f k4 t314 x9_2).bind fun t317=>((impl_given.f x7_2 x10_3 x11_4 (ji38)).bind fun t320=>(impl_TableFor.l0 (fun q t=>impl_TableForB.f q l0 l1 t (l0.length:Int)) k4 (l0.length:Int) t320 t293 t317)))=some (r1,r2):=H
                      have A39:=zad A390;clear A390;replace H:=zay.mp H;obtain ⟨t317,A400,H⟩:=H
                      replace H:((impl_given.f x7_2 x10_3 x11_4 (ji38)).bind fun t320=>(impl_TableFor.l0 (fun q t=>impl_TableForB.f q l0 l1 t (l0.length:Int)) k4 (l0.length:Int) t320 t293 t317))=some (r1,r2):=H
                      have A40:=zad A400;clear A400;replace H:=zay.mp H;obtain ⟨t320,A410,H⟩:=H
                      replace H:(impl_TableFor.l0 (fun q t=>impl_TableForB.f q l0 l1 t (l0.length:Int)) k4 (l0.length:Int) t320 t293 t317)=some (r1,r2):=H
                      have A41:=zad A410;clear A410;have H':=zad H
                      clear H;try go_wp2
                      have n0_:=zad (zak HO_7.out)
                      have n1_:=zad (zak HO_8.out)
                      have n2_:=zad (Kd.S_drew HO_9.out)
                      have n3_:=zad (zaf HB.out);have HBR:=zad (zaf HBR.out)
                      clear HO_7 HO_8 HO_9 HB;have HO_7:=n0_;have HO_8:=n1_;have HO_9:=n2_;have HB:=n3_;clear n0_ n1_ n2_ n3_;have p306:0≤(x11_4:Int):=zas (taaa)
                      have q306:x11_4<(x7_2.length:Int):=zas (taaa)
                      obtain ⟨ad306,e306,hx306_0⟩:=zca (zbf HO_7.out).2.2 x11_4 p306 q306
                      obtain rfl:ad304=ad306:=(by injection e306)
                      replace p306:=eq_true p306
                      replace q306:=eq_true q306
                      have p307:0≤(x11_4:Int):=zas (taaa)
                      have q307:x11_4<(t293.length:Int):=zas (taaa)
                      obtain ⟨ad307,e307,hx307_0⟩:=zca (zbf HO_8.out).2.2 x11_4 p307 q307
                      obtain rfl:ad305=ad307:=(by injection e307)
                      replace p307:=eq_true p307
                      replace q307:=eq_true q307
                      refine start_ (n:=9) (S:=fun w'=>w'.cell? (ad304.add (x11_4).toNat)=some (.int .i64 (rd x7_2 x11_4))∧w'.cell? (ad305.add (x11_4).toNat)=some (.int .i64 (rd t293 x11_4))) (ds:=[]) #[false,false,false,false,false,false,false,false,false] (by kernel_rfl) rfl rfl ⟨hx306_0,hx307_0⟩ (fun hHeld => ?_);refine with_tabW impl_TableFor.tab10 impl_TableFor.bits10 (fun HT_ HW_ => ?_)
                      generalize wr.drew=w42 at HO_7 HO_8 HO_9 HB HBR hx306_0 hx307_0 hHeld ⊢
                      refine pure_ (i:=0) (N:=some 56) (v := ?_) (a' := ?_) taho rfl rfl (zby HT_.out (by kernel_rfl)) (fun _ _ _ h=>h) (Or.inl ⟨by rfl,?_⟩) ?_ ?_
                      rotate_left
                      ·intro w'
                       go_simp;with_reducible rfl
                      rotate_left
                      ·simp only [Act.put,zaa,zab,zac,zbw,zbx]
                       rfl
                      refine pure_ (i:=1) (N:=some 57) (v := ?_) (a' := ?_) tahp rfl rfl (zby HT_.out (by kernel_rfl)) (fun _ _ _ h=>h) (Or.inl ⟨by rfl,?_⟩) ?_ ?_
                      rotate_left
                      ·intro w'
                       go_simp;with_reducible rfl
                      rotate_left
                      ·simp only [Act.put,zaa,zab,zac,zbw,zbx]
                       rfl
                      refine pure_ (i:=2) (N:=some 58) (v := ?_) (a' := ?_) tahq rfl rfl (zby HT_.out (by kernel_rfl)) (fun _ _ _ h=>h) (Or.inl ⟨by rfl,?_⟩) ?_ ?_
                      rotate_left
                      ·intro w'
                       go_simp;with_reducible rfl
                      rotate_left
                      ·simp only [Act.put,zaa,zab,zac,zbw,zbx]
                       rfl
                      refine pure_ (i:=4) (N:=some 60) (v := ?_) (a' := ?_) tahr rfl rfl (zby HT_.out (by kernel_rfl)) (fun _ _ _ h=>h) (Or.inl ⟨by rfl,?_⟩) ?_ ?_
                      rotate_left
                      ·intro w'
                       go_simp;with_reducible rfl
                      rotate_left
                      ·simp only [Act.put,zaa,zab,zac,zbw,zbx]
                       rfl
                      refine pure_ (i:=5) (N:=some 61) (v := ?_) (a' := ?_) tahs rfl rfl (zby HT_.out (by kernel_rfl)) (fun _ _ _ h=>h) (Or.inl ⟨by rfl,?_⟩) ?_ ?_
                      rotate_left
                      ·intro w'
                       go_simp;with_reducible rfl
                      rotate_left
                      ·simp only [Act.put,zaa,zab,zac,zbw,zbx]
                       rfl
                      refine pure_ (i:=6) (N:=some 62) (v := ?_) (a' := ?_) taht rfl rfl (zby HT_.out (by kernel_rfl)) (fun _ _ _ h=>h) (Or.inl ⟨by rfl,?_⟩) ?_ ?_
                      rotate_left
                      ·intro w'
                       go_simp;with_reducible rfl
                      rotate_left
                      ·simp only [Act.put,zaa,zab,zac,zbw,zbx]
                       rfl
                      refine take_ (i:=3) (N:=some 59) (v := ?_) (a' := ?_) tahu rfl rfl (zbz HT_.out HW_.out (by kernel_rfl)) (fun _ _ _ h=>h) (Or.inl ⟨by rfl,?_⟩) hHeld ?_ ?_
                      rotate_left
                      ·rintro w' ⟨s0,s1⟩
                       go_simp;with_reducible rfl
                      rotate_left
                      ·simp only [Act.put,zaa,zab,zac,zbw,zbx]
                       rfl
                      refine take_ (i:=7) (N:=some 63) (v := ?_) (a' := ?_) tahv rfl rfl (zbz HT_.out HW_.out (by kernel_rfl)) (fun _ _ _ h=>h) (Or.inl ⟨by rfl,?_⟩) hHeld ?_ ?_
                      rotate_left
                      ·rintro w' ⟨s0,s1⟩
                       go_simp;with_reducible rfl
                      rotate_left
                      ·simp only [Act.put,zaa,zab,zac,zbw,zbx]
                       rfl
                      refine pure_ (i:=8) (N:=some 64) (v := ?_) (a' := ?_) tahw rfl rfl (zby HT_.out (by kernel_rfl)) (fun _ _ _ h=>h) (Or.inl ⟨by rfl,?_⟩) ?_ ?_
                      rotate_left
                      ·intro w'
                       go_simp;with_reducible rfl
                      rotate_left
                      ·simp only [Act.put,zaa,zab,zac,zbw,zbx]
                       rfl
                      refine done_ (done_of HT_.out (by kernel_rfl)) ?_
                      try go_wp2
                      have n0_:=zad (zak HO_7.out)
                      have n1_:=zad (zak HO_8.out)
                      have n2_:=zad (Kd.S_drew HO_9.out)
                      have n3_:=zad (zaf HB.out);have HBR:=zad (zaf HBR.out)
                      clear HO_7 HO_8 HO_9 HB;have HO_7:=n0_;have HO_8:=n1_;have HO_9:=n2_;have HB:=n3_;clear n0_ n1_ n2_ n3_;have p308:0≤(x10_3:Int):=zas (taaa)
                      have q308:x10_3<(x7_2.length:Int):=zas (taaa)
                      obtain ⟨ad308,e308,hx308_0⟩:=zca (zbf HO_7.out).2.2 x10_3 p308 q308
                      obtain rfl:ad304=ad308:=(by injection e308)
                      replace p308:=eq_true p308
                      replace q308:=eq_true q308
                      have p309:0≤(x10_3:Int):=zas (taaa)
                      have q309:x10_3<(t293.length:Int):=zas (taaa)
                      obtain ⟨ad309,e309,hx309_0⟩:=zca (zbf HO_8.out).2.2 x10_3 p309 q309
                      obtain rfl:ad305=ad309:=(by injection e309)
                      replace p309:=eq_true p309
                      replace q309:=eq_true q309
                      have p310:0≤(x11_4:Int):=zas (taaa)
                      have q310:x11_4<(t293.length:Int):=zas (taaa)
                      obtain ⟨ad310,e310,hx310_0⟩:=zca (zbf HO_8.out).2.2 x11_4 p310 q310
                      obtain rfl:ad305=ad310:=(by injection e310)
                      replace p310:=eq_true p310
                      replace q310:=eq_true q310
                      have p311:0≤(x11_4:Int):=zas (taaa)
                      have q311:x11_4<(x7_2.length:Int):=zas (taaa)
                      obtain ⟨ad311,e311,hx311_0⟩:=zca (zbf HO_7.out).2.2 x11_4 p311 q311
                      obtain rfl:ad304=ad311:=(by injection e311)
                      replace p311:=eq_true p311
                      replace q311:=eq_true q311
                      refine start_ (n:=20) (S:=fun w'=>w'.cell? (ad304.add (x10_3).toNat)=some (.int .i64 (rd x7_2 x10_3))∧w'.cell? (ad305.add (x10_3).toNat)=some (.int .i64 (rd t293 x10_3))∧w'.cell? (ad305.add (x11_4).toNat)=some (.int .i64 (rd t293 x11_4))∧w'.cell? (ad304.add (x11_4).toNat)=some (.int .i64 (rd x7_2 x11_4))) (ds:=[]) #[false,false,false,false,false,false,false,false,false,false,false,false,false,false,false,false,false,false,false,false] (by kernel_rfl) rfl rfl ⟨hx308_0,hx309_0,hx310_0,hx311_0⟩ (fun hHeld => ?_);refine with_tabW impl_TableFor.tab12 impl_TableFor.bits12 (fun HT_ HW_ => ?_)
                      generalize w42.drew=w43 at HO_7 HO_8 HO_9 HB HBR hx308_0 hx309_0 hx310_0 hx311_0 hHeld ⊢
                      refine pure_ (i:=0) (N:=some 67) (v := ?_) (a' := ?_) tagd rfl rfl (zby HT_.out (by kernel_rfl)) (fun _ _ _ h=>h) (Or.inl ⟨by rfl,?_⟩) ?_ ?_
                      rotate_left
                      ·intro w'
                       go_simp;with_reducible rfl
                      rotate_left
                      ·simp only [Act.put,zaa,zab,zac,zbw,zbx]
                       rfl
                      refine pure_ (i:=1) (N:=some 68) (v := ?_) (a' := ?_) tage rfl rfl (zby HT_.out (by kernel_rfl)) (fun _ _ _ h=>h) (Or.inl ⟨by rfl,?_⟩) ?_ ?_
                      rotate_left
                      ·intro w'
                       go_simp;with_reducible rfl
                      rotate_left
                      ·simp only [Act.put,zaa,zab,zac,zbw,zbx]
                       rfl
                      refine pure_ (i:=2) (N:=some 69) (v := ?_) (a' := ?_) tagf rfl rfl (zby HT_.out (by kernel_rfl)) (fun _ _ _ h=>h) (Or.inl ⟨by rfl,?_⟩) ?_ ?_
                      rotate_left
                      ·intro w'
                       go_simp;with_reducible rfl
                      rotate_left
                      ·simp only [Act.put,zaa,zab,zac,zbw,zbx]
                       rfl
                      refine pure_ (i:=4) (N:=some 71) (v := ?_) (a' := ?_) tahl rfl rfl (zby HT_.out (by kernel_rfl)) (fun _ _ _ h=>h) (Or.inl ⟨by rfl,?_⟩) ?_ ?_
                      rotate_left
                      ·intro w'
                       go_simp;with_reducible rfl
                      rotate_left
                      ·simp only [Act.put,zaa,zab,zac,zbw,zbx]
                       rfl
                      refine pure_ (i:=5) (N:=some 72) (v := ?_) (a' := ?_) tahm rfl rfl (zby HT_.out (by kernel_rfl)) (fun _ _ _ h=>h) (Or.inl ⟨by rfl,?_⟩) ?_ ?_
                      rotate_left
                      ·intro w'
                       go_simp;with_reducible rfl
                      rotate_left
                      ·simp only [Act.put,zaa,zab,zac,zbw,zbx]
                       rfl
                      refine pure_ (i:=6) (N:=some 73) (v := ?_) (a' := ?_) tahn rfl rfl (zby HT_.out (by kernel_rfl)) (fun _ _ _ h=>h) (Or.inl ⟨by rfl,?_⟩) ?_ ?_
                      rotate_left
                      ·intro w'
                       go_simp;with_reducible rfl
                      rotate_left
                      ·simp only [Act.put,zaa,zab,zac,zbw,zbx]
                       rfl
                      refine pure_ (i:=9) (N:=some 76) (v := ?_) (a' := ?_) #[true,true,true,false,true,true,true,false,false,true,false,false,false,false,false,false,false,false,false,false] rfl rfl (zby HT_.out (by kernel_rfl)) (fun _ _ _ h=>h) (Or.inl ⟨by rfl,?_⟩) ?_ ?_
                      rotate_left
                      ·intro w'
                       go_simp;with_reducible rfl
                      rotate_left
                      ·simp only [Act.put,zaa,zab,zac,zbw,zbx]
                       rfl
                      refine pure_ (i:=10) (N:=some 77) (v := ?_) (a' := ?_) #[true,true,true,false,true,true,true,false,false,true,true,false,false,false,false,false,false,false,false,false] rfl rfl (zby HT_.out (by kernel_rfl)) (fun _ _ _ h=>h) (Or.inl ⟨by rfl,?_⟩) ?_ ?_
                      rotate_left
                      ·intro w'
                       go_simp;with_reducible rfl
                      rotate_left
                      ·simp only [Act.put,zaa,zab,zac,zbw,zbx]
                       rfl
                      refine pure_ (i:=11) (N:=some 78) (v := ?_) (a' := ?_) #[true,true,true,false,true,true,true,false,false,true,true,true,false,false,false,false,false,false,false,false] rfl rfl (zby HT_.out (by kernel_rfl)) (fun _ _ _ h=>h) (Or.inl ⟨by rfl,?_⟩) ?_ ?_
                      rotate_left
                      ·intro w'
                       go_simp;with_reducible rfl
                      rotate_left
                      ·simp only [Act.put,zaa,zab,zac,zbw,zbx]
                       rfl
                      refine pure_ (i:=13) (N:=some 80) (v := ?_) (a' := ?_) #[true,true,true,false,true,true,true,false,false,true,true,true,false,true,false,false,false,false,false,false] rfl rfl (zby HT_.out (by kernel_rfl)) (fun _ _ _ h=>h) (Or.inl ⟨by rfl,?_⟩) ?_ ?_
                      rotate_left
                      ·intro w'
                       go_simp;with_reducible rfl
                      rotate_left
                      ·simp only [Act.put,zaa,zab,zac,zbw,zbx]
                       rfl
                      refine pure_ (i:=14) (N:=some 81) (v := ?_) (a' := ?_) #[true,true,true,false,true,true,true,false,false,true,true,true,false,true,true,false,false,false,false,false] rfl rfl (zby HT_.out (by kernel_rfl)) (fun _ _ _ h=>h) (Or.inl ⟨by rfl,?_⟩) ?_ ?_
                      rotate_left
                      ·intro w'
                       go_simp;with_reducible rfl
                      rotate_left
                      ·simp only [Act.put,zaa,zab,zac,zbw,zbx]
                       rfl
                      refine pure_ (i:=15) (N:=some 82) (v := ?_) (a' := ?_) #[true,true,true,false,true,true,true,false,false,true,true,true,false,true,true,true,false,false,false,false] rfl rfl (zby HT_.out (by kernel_rfl)) (fun _ _ _ h=>h) (Or.inl ⟨by rfl,?_⟩) ?_ ?_
                      rotate_left
                      ·intro w'
                       go_simp;with_reducible rfl
                      rotate_left
                      ·simp only [Act.put,zaa,zab,zac,zbw,zbx]
                       rfl
                      refine take_ (i:=3) (N:=some 70) (v := ?_) (a' := ?_) #[true,true,true,true,true,true,true,false,false,true,true,true,false,true,true,true,false,false,false,false] rfl rfl (zbz HT_.out HW_.out (by kernel_rfl)) (fun _ _ _ h=>h) (Or.inl ⟨by rfl,?_⟩) hHeld ?_ ?_
                      rotate_left
                      ·rintro w' ⟨s0,s1,s2,s3⟩
                       go_simp;with_reducible rfl
                      rotate_left
                      ·simp only [Act.put,zaa,zab,zac,zbw,zbx]
                       rfl
                      refine take_ (i:=7) (N:=some 74) (v := ?_) (a' := ?_) #[true,true,true,true,true,true,true,true,false,true,true,true,false,true,true,true,false,false,false,false] rfl rfl (zbz HT_.out HW_.out (by kernel_rfl)) (fun _ _ _ h=>h) (Or.inl ⟨by rfl,?_⟩) hHeld ?_ ?_
                      rotate_left
                      ·rintro w' ⟨s0,s1,s2,s3⟩
                       go_simp;with_reducible rfl
                      rotate_left
                      ·simp only [Act.put,zaa,zab,zac,zbw,zbx]
                       rfl
                      refine pure_ (i:=8) (N:=some 75) (v := ?_) (a' := ?_) #[true,true,true,true,true,true,true,true,true,true,true,true,false,true,true,true,false,false,false,false] rfl rfl (zby HT_.out (by kernel_rfl)) (fun _ _ _ h=>h) (Or.inl ⟨by rfl,?_⟩) ?_ ?_
                      rotate_left
                      ·intro w'
                       go_simp;with_reducible rfl
                      rotate_left
                      ·simp only [Act.put,zaa,zab,zac,zbw,zbx]
                       rfl
                      refine take_ (i:=12) (N:=some 79) (v := ?_) (a' := ?_) tags rfl rfl (zbz HT_.out HW_.out (by kernel_rfl)) (fun _ _ _ h=>h) (Or.inl ⟨by rfl,?_⟩) hHeld ?_ ?_
                      rotate_left
                      ·rintro w' ⟨s0,s1,s2,s3⟩
                       go_simp;with_reducible rfl
                      rotate_left
                      ·simp only [Act.put,zaa,zab,zac,zbw,zbx]
                       rfl
                      refine take_ (i:=16) (N:=some 83) (v := ?_) (a' := ?_) tagt rfl rfl (zbz HT_.out HW_.out (by kernel_rfl)) (fun _ _ _ h=>h) (Or.inl ⟨by rfl,?_⟩) hHeld ?_ ?_
                      rotate_left
                      ·rintro w' ⟨s0,s1,s2,s3⟩
                       go_simp;with_reducible rfl
                      rotate_left
                      ·simp only [Act.put,zaa,zab,zac,zbw,zbx]
                       rfl
                      refine pure_ (i:=17) (N:=some 84) (v := ?_) (a' := ?_) tagu rfl rfl (zby HT_.out (by kernel_rfl)) (fun _ _ _ h=>h) (Or.inl ⟨by rfl,?_⟩) ?_ ?_
                      rotate_left
                      ·intro w'
                       go_simp;with_reducible rfl
                      rotate_left
                      ·simp only [Act.put,zaa,zab,zac,zbw,zbx]
                       rfl
                      refine pure_ (i:=18) (N:=some 85) (v := ?_) (a' := ?_) tagv rfl rfl (zby HT_.out (by kernel_rfl)) (fun _ _ _ h=>h) (Or.inl ⟨by rfl,?_⟩) ?_ ?_
                      rotate_left
                      ·intro w'
                       go_simp;with_reducible rfl
                      rotate_left
                      ·simp only [Act.put,zaa,zab,zac,zbw,zbx]
                       rfl
                      refine pure_ (i:=19) (N:=some 12) (v := ?_) (a' := ?_) tagw rfl rfl (zby HT_.out (by kernel_rfl)) (fun _ _ _ h=>h) (Or.inl ⟨by rfl,?_⟩) ?_ ?_
                      rotate_left
                      ·intro w'
                       go_simp;with_reducible rfl
                      rotate_left
                      ·simp only [Act.put,zaa,zab,zac,zbw,zbx]
                       rfl
                      refine done_ (done_of HT_.out (by kernel_rfl)) ?_
                      try go_wp2
                      have n0_:=zad (zak HO_7.out)
                      have n1_:=zad (zak HO_8.out)
                      have n2_:=zad (Kd.S_drew HO_9.out)
                      have n3_:=zad (zaf HB.out);have HBR:=zad (zaf HBR.out)
                      clear HO_7 HO_8 HO_9 HB;have HO_7:=n0_;have HO_8:=n1_;have HO_9:=n2_;have HB:=n3_;clear n0_ n1_ n2_ n3_;have p312:0≤(x10_3:Int):=zas (taaa)
                      have q312:x10_3<(x7_2.length:Int):=zas (taaa)
                      obtain ⟨ad312,e312,hx312_0⟩:=zca (zbf HO_7.out).2.2 x10_3 p312 q312
                      obtain rfl:ad304=ad312:=(by injection e312)
                      replace p312:=eq_true p312
                      replace q312:=eq_true q312
                      have p313:0≤(x11_4:Int):=zas (taaa)
                      have q313:x11_4<(x7_2.length:Int):=zas (taaa)
                      obtain ⟨ad313,e313,hx313_0⟩:=zca (zbf HO_7.out).2.2 x11_4 p313 q313
                      obtain rfl:ad304=ad313:=(by injection e313)
                      replace p313:=eq_true p313
                      replace q313:=eq_true q313
                      refine start_ (n:=17) (S:=fun w'=>w'.cell? (ad304.add (x10_3).toNat)=some (.int .i64 (rd x7_2 x10_3))∧w'.cell? (ad304.add (x11_4).toNat)=some (.int .i64 (rd x7_2 x11_4))∧w'.cell? ⟨B9,0,none⟩=some u9) (ds:=[16]) #[false,false,false,false,false,false,false,false,false,false,false,false,false,false,false,false,false] (by kernel_rfl) rfl rfl ⟨hx312_0,hx313_0,bx_cell (bx_below HBR.out HBX.out)⟩ (fun hHeld => ?_)
                      generalize w43.drew=w44 at HO_7 HO_8 HO_9 HB HBR hx312_0 hx313_0 hHeld ⊢
                      refine pure_ (i:=0) (N:=some 86) (v := ?_) (a' := ?_) tagx rfl rfl (by kernel_rfl) (fun _ _ _ h=>h) (Or.inl ⟨by rfl,?_⟩) ?_ ?_
                      rotate_left
                      ·intro w'
                       go_simp;with_reducible rfl
                      rotate_left
                      ·simp only [Act.put,zaa,zab,zac,zbw,zbx]
                       rfl
                      refine pure_ (i:=1) (N:=some 87) (v := ?_) (a' := ?_) tagy rfl rfl (by kernel_rfl) (fun _ _ _ h=>h) (Or.inl ⟨by rfl,?_⟩) ?_ ?_
                      rotate_left
                      ·intro w'
                       go_simp;with_reducible rfl
                      rotate_left
                      ·simp only [Act.put,zaa,zab,zac,zbw,zbx]
                       rfl
                      refine pure_ (i:=2) (N:=some 88) (v := ?_) (a' := ?_) tagz rfl rfl (by kernel_rfl) (fun _ _ _ h=>h) (Or.inl ⟨by rfl,?_⟩) ?_ ?_
                      rotate_left
                      ·intro w'
                       go_simp;with_reducible rfl
                      rotate_left
                      ·simp only [Act.put,zaa,zab,zac,zbw,zbx]
                       rfl
                      refine pure_ (i:=3) (N:=some 89) (v := ?_) (a' := ?_) taha rfl rfl (by kernel_rfl) (fun _ _ _ h=>h) (Or.inl ⟨by rfl,?_⟩) ?_ ?_
                      rotate_left
                      ·intro w'
                       go_simp;with_reducible rfl
                      rotate_left
                      ·simp only [Act.put,zaa,zab,zac,zbw,zbx]
                       rfl
                      refine pure_ (i:=4) (N:=some 90) (v := ?_) (a' := ?_) tahb rfl rfl (by kernel_rfl) (fun _ _ _ h=>h) (Or.inl ⟨by rfl,?_⟩) ?_ ?_
                      rotate_left
                      ·intro w'
                       go_simp;with_reducible rfl
                      rotate_left
                      ·simp only [Act.put,zaa,zab,zac,zbw,zbx]
                       rfl
                      refine pure_ (i:=5) (N:=some 91) (v := ?_) (a' := ?_) tahc rfl rfl (by kernel_rfl) (fun _ _ _ h=>h) (Or.inl ⟨by rfl,?_⟩) ?_ ?_
                      rotate_left
                      ·intro w'
                       go_simp;with_reducible rfl
                      rotate_left
                      ·simp only [Act.put,zaa,zab,zac,zbw,zbx]
                       rfl
                      refine pure_ (i:=7) (N:=some 93) (v := ?_) (a' := ?_) tahd rfl rfl (by kernel_rfl) (fun _ _ _ h=>h) (Or.inl ⟨by rfl,?_⟩) ?_ ?_
                      rotate_left
                      ·intro w'
                       go_simp;with_reducible rfl
                      rotate_left
                      ·simp only [Act.put,zaa,zab,zac,zbw,zbx]
                       rfl
                      refine pure_ (i:=8) (N:=some 94) (v := ?_) (a' := ?_) tahe rfl rfl (by kernel_rfl) (fun _ _ _ h=>h) (Or.inl ⟨by rfl,?_⟩) ?_ ?_
                      rotate_left
                      ·intro w'
                       go_simp;with_reducible rfl
                      rotate_left
                      ·simp only [Act.put,zaa,zab,zac,zbw,zbx]
                       rfl
                      refine pure_ (i:=9) (N:=some 95) (v := ?_) (a' := ?_) tahf rfl rfl (by kernel_rfl) (fun _ _ _ h=>h) (Or.inl ⟨by rfl,?_⟩) ?_ ?_
                      rotate_left
                      ·intro w'
                       go_simp;with_reducible rfl
                      rotate_left
                      ·simp only [Act.put,zaa,zab,zac,zbw,zbx]
                       rfl
                      refine pure_ (i:=12) (N:=some 98) (v := ?_) (a' := ?_) tahg rfl rfl (by kernel_rfl) (fun _ _ _ h=>h) (Or.inl ⟨by rfl,?_⟩) ?_ ?_
                      rotate_left
                      ·intro w'
                       go_simp;with_reducible rfl
                      rotate_left
                      ·simp only [Act.put,zaa,zab,zac,zbw,zbx]
                       rfl
                      refine take_ (i:=14) (N:=some 100) (v := ?_) (a' := ?_) tahh rfl rfl (by kernel_rfl) (fun _ _ _ h=>h) (Or.inl ⟨by rfl,?_⟩) hHeld ?_ ?_
                      rotate_left
                      ·rintro w' ⟨s0,s1,s2⟩
                       go_simp;with_reducible rfl
                      rotate_left
                      ·simp only [Act.put,zaa,zab,zac,zbw,zbx]
                       rfl
                      refine take_ (i:=6) (N:=some 92) (v := ?_) (a' := ?_) tahi rfl rfl (by kernel_rfl) (fun _ _ _ h=>h) (Or.inl ⟨by rfl,?_⟩) hHeld ?_ ?_
                      rotate_left
                      ·rintro w' ⟨s0,s1,s2⟩
                       go_simp;with_reducible rfl
                      rotate_left
                      ·simp only [Act.put,zaa,zab,zac,zbw,zbx]
                       rfl
                      refine take_ (i:=10) (N:=some 96) (v := ?_) (a' := ?_) tahj rfl rfl (by kernel_rfl) (fun _ _ _ h=>h) (Or.inl ⟨by rfl,?_⟩) hHeld ?_ ?_
                      rotate_left
                      ·rintro w' ⟨s0,s1,s2⟩
                       go_simp;with_reducible rfl
                      rotate_left
                      ·simp only [Act.put,zaa,zab,zac,zbw,zbx]
                       rfl
                      refine pure_ (i:=11) (N:=some 97) (v := ?_) (a' := ?_) tahk rfl rfl (by kernel_rfl) (fun _ _ _ h=>h) (Or.inl ⟨by rfl,?_⟩) ?_ ?_
                      rotate_left
                      ·intro w'
                       go_simp;with_reducible rfl
                      rotate_left
                      ·simp only [Act.put,zaa,zab,zac,zbw,zbx]
                       rfl
                      refine one_ (i:=13) (N:=some 99) #[true,true,true,true,true,true,true,true,true,true,true,true,true,true,true,false,false] rfl rfl (by kernel_rfl) (by decide) (fun K hK => ?_)
                      refine goes_ Tryz.func31 (by kernel_rfl) rfl #[.int .i64 (l0.length:Int),.int .i64 x10_3,.int .i64 x11_4,.int .i64 (wrap64 ((rd x7_2 x10_3) - (rd x7_2 x11_4))),.int .i64 ji38] (by rfl) rfl rfl (taen) ?_
                      with_reducible refine (impl_giftTable.calls k4 (l0.length:Int) x10_3 x11_4 (wrap64 ((rd x7_2 x10_3) - (rd x7_2 x11_4))) ji38 t314 _ A39.out).mono ?_
                      rintro e w45 ⟨v315,rfl,ho0,hb⟩
                      have HS0_:=(hb.cell (zaz _ _ (hHeld.1))).trans (hHeld.1)
                      have HS1_:=(hb.cell (zaz _ _ (hHeld.2.1))).trans (hHeld.2.1)
                      have HS2_:=(hb.cell (zaz _ _ (hHeld.2.2))).trans (hHeld.2.2)
                      refine ⟨_,rfl,?_⟩
                      have n0_:=zad (zbt (taak) hb)
                      have n1_:=zad (zbt (taap) hb)
                      have n2_:=zad (Kd.S_elder' (taav) (Kd.S_base ho0) hb)
                      have n3_:=zad (Kd.S_lower (Kd.S_new' (Kd.S_new' (Kd.S_new' ho0 (zce (taak))) (zce (taap))) (Kd.S_lt (taav))) (zbk (taab)))
                      have n4_:=zad (zbg (taab) hb);have HBR:=zad (zbg (tabf) hb)
                      clear HO_7 HO_8 HO_9 HB;have HO_7:=n0_;have HO_8:=n1_;have HO_9:=n2_;have HO316:=n3_;have HB:=n4_;clear n0_ n1_ n2_ n3_ n4_;(try clear hb);(try clear hb2);(try clear hk);(try clear hi);(try clear ho0);obtain ⟨Ao46,co46,eo46⟩:=Kd.S_slice HO316.out
                      (first | subst eo46 | (injection eo46 with f1_ f2_ f3_;have f4_:=f1_.symm;have f5_:=f3_.symm;clear f1_ f2_ f3_;subst f4_;subst f5_))
                      obtain ⟨Ao47,co47,eo47⟩:=Kd.S_slice HO_9.out
                      (first | subst eo47 | (injection eo47 with f1_ f2_ f3_;have f4_:=f1_.symm;have f5_:=f3_.symm;clear f1_ f2_ f3_;subst f4_;subst f5_))
                      refine hK.out _ _ ⟨HS0_,HS1_,HS2_⟩ (fun hHeld => ?_)
                      clear hK K;refine norm_ (a' := ?_) ?_ ?_
                      rotate_left
                      ·show Act.put _ (some 99) _=_
                       simp only [Act.put,zaa,zab,zac,zbw,zbx]
                       rfl
                      refine one_ (i:=15) (N:=some 101) #[true,true,true,true,true,true,true,true,true,true,true,true,true,true,true,true,false] rfl rfl (by kernel_rfl) (by decide) (fun K hK => ?_)
                      refine goes_ Tryz.func33 (by kernel_rfl) rfl #[.slice Ao46 t314.length co46,.slice Ao47 x9_2.length co47] (by rfl) rfl rfl (taae) ?_
                      with_reducible refine (impl_product.calls k4 _ _ t314 _ _ x9_2 t317 _ ?side1 ?side2 ?side3 ?side4 A40.out).mono ?_
                      (case side1=>repeat (first | exact (Kd.S_reads' HO316.out).2.2 | (with_reducible refine zal ?_ _) | (with_reducible refine zam ?_ _) | (with_reducible refine zan ?_)))
                      (case side2=>exact (Kd.S_reads' HO316.out).2.1)
                      (case side3=>exact tagb)
                      (case side4=>exact (Kd.S_reads' HO_9.out).2.1)
                      rintro e w48 ⟨v318,rfl,ho0,hb⟩
                      have HS0_:=(hb.cell (zaz _ _ (hHeld.1))).trans (hHeld.1)
                      have HS1_:=(hb.cell (zaz _ _ (hHeld.2.1))).trans (hHeld.2.1)
                      have HS2_:=(hb.cell (zaz _ _ (hHeld.2.2))).trans (hHeld.2.2)
                      refine ⟨_,rfl,?_⟩
                      have n0_:=zad (zbt (taak) hb)
                      have n1_:=zad (zbt (taap) hb)
                      have n2_:=zad (Kd.S_elder' (taav) (Kd.S_base ho0) hb)
                      have n3_:=zad (Kd.S_elder' (tacx) (Kd.S_base ho0) hb)
                      have n4_:=zad (Kd.S_lower (Kd.S_new' (Kd.S_new' (Kd.S_new' (Kd.S_new' ho0 (zce (taak))) (zce (taap))) (Kd.S_lt (taav))) (Kd.S_lt (tacx))) (zbk (taab)))
                      have n5_:=zad (zbg (taab) hb);have HBR:=zad (zbg (tabf) hb)
                      clear HO_7 HO_8 HO_9 HO316 HB;have HO_7:=n0_;have HO_8:=n1_;have HO_9:=n2_;have HO316:=n3_;have HO319:=n4_;have HB:=n5_;clear n0_ n1_ n2_ n3_ n4_ n5_;(try clear hb);(try clear hb2);(try clear hk);(try clear hi);(try clear ho0);refine hK.out _ _ ⟨HS0_,HS1_,HS2_⟩ (fun hHeld => ?_)
                      clear hK K;refine norm_ (a' := ?_) ?_ ?_
                      rotate_left
                      ·show Act.put _ (some 101) _=_
                       simp only [Act.put,zaa,zab,zac,zbw,zbx]
                       rfl
                      obtain ⟨Aop,cop,eop⟩:=Kd.S_slice HO319.out
                      subst eop;have hbx2:=bx_below HBR.out HBX.out
                      have hf2:=bx_frozen hbx2;have hc2:=bx_cell hbx2;refine last_ (i:=16) (N:=none) #[true,true,true,true,true,true,true,true,true,true,true,true,true,true,true,true,true] rfl rfl (by kernel_rfl) (by decide) (fun K hK => ?_)
                      refine skip_ (w1 := ?_) (by rfl) rfl ?_ ?_
                      rotate_left
                      ·go_simp
                       rfl
                      refine hK.out _ _ ?_
                      clear hK K;refine done_ (by kernel_rfl) ?_
                      have hg:=bx_grown (t:=24) w48 B9 (.slice Aop t317.length cop)
                      have n0_:=zad (Kd.R_grown2 HO_7.out rfl hg (fun k hk=>by injection hk with hk;subst hk;exact Kd.R_ne HO_7.out hbx2.2 (by decide)))
                      have n1_:=zad (Kd.R_grown2 HO_8.out rfl hg (fun k hk=>by injection hk with hk;subst hk;exact Kd.R_ne HO_8.out hbx2.2 (by decide)))
                      have n2_:=zad (Kd.S_over' (v := .slice (some ⟨B9,0,none⟩) 0 0) (e':=24) HO319.out (fun k hk=>by injection hk with hk;subst hk;exact ⟨_,hbx2.2⟩) (by decide) hg)
                      have n3_:=zad (zah (j:=0) (v:=(.slice Aop t317.length cop)) HB.out HBN.out)
                      have n4_:=zad (bx_set hbx2 (.slice Aop t317.length cop))
                      have n5_:=zad (Kd.S_over' (v := .slice (some ⟨B9,0,none⟩) 0 0) (e':=24) HO_9.out (fun k hk=>by injection hk with hk;subst hk;exact ⟨_,hbx2.2⟩) (by decide) hg)
                      have n6_:=zad (Kd.S_over' (v := .slice (some ⟨B9,0,none⟩) 0 0) (e':=24) HO316.out (fun k hk=>by injection hk with hk;subst hk;exact ⟨_,hbx2.2⟩) (by decide) hg)
                      clear HO_7 HO_8 HO_9 HO316 HO319 HB HBX HBR hbx2 hf2 hc2 hg;generalize w48.setCell ⟨B9,0,none⟩ (.slice Aop t317.length cop)=wz at n0_ n1_ n2_ n3_ n4_ n5_ n6_ ⊢
                      have HO_7:=n0_;have HO_8:=n1_;have HO319:=n2_;have HB:=n3_;have HBX:=n4_;have HO_9:=n5_;have HO316:=n6_;have HBR:=zad (Below.refl wz.heap.size wz)
                      clear n0_ n1_ n2_ n3_ n4_ n5_ n6_;try go_wp2_with (first | ((with_reducible refine zbh (f:=34) rfl ?_);refine zbn (some 107) rfl rfl Tryz.func34 (by kernel_rfl) rfl #[.slice (some ad304) x7_2.length co22,.agg #[.int .i64 x10_3,.int .i64 x11_4,.int .i64 ji38]] rfl (taen) ?_;(with_reducible refine (impl_given.calls _ _ x7_2 x10_3 x11_4 ji38 t320 _ ?side1 ?side2 A41.out).mono ?_);(case side1=>exact tafn);(case side2=>exact tafo);rintro e w49 ⟨v321,rfl,ho0,hb⟩;refine ⟨_,rfl,?_⟩;have n0_:=zad (zcb (taak) (zcd ho0) hb);have n1_:=zad (zcb (taap) (zcd ho0) hb);have n2_:=zad (Kd.S_elder' (taav) (zcd ho0) hb);have n3_:=zad (Kd.S_elder' (tacx) (zcd ho0) hb);have n4_:=zad (Kd.S_elder' (by (with_reducible repeat (first | apply Kd.S_alloc | apply Kd.S_drewN | apply Kd.S_drew));exact HO319.out) (zcd ho0) hb);have n5_:=zad (zbu (zcc (zcc ho0 (zce (taak))) (zce (taap))) (zbk (taab)));have n6_:=zad (zbg (taab) hb);have HBR:=zad (zbg (tabf) hb);clear HO_7 HO_8 HO_9 HO316 HO319 HB;have HO_7:=n0_;have HO_8:=n1_;have HO_9:=n2_;have HO316:=n3_;have HO319:=n4_;have HO322:=n5_;have HB:=n6_;clear n0_ n1_ n2_ n3_ n4_ n5_ n6_;(try clear hb);(try clear hb2);(try clear hk);(try clear hi);(try clear ho0)))
                      go_roundg k4
                      case measure=>have:=HJ2.out;have:=HK2.out;have:=HK3.out;have:=HK4.out;omega
                      case rel=>exact ⟨(t320),(t317),_,H',⟨taem⟩,⟨by (with_reducible repeat (first | apply zai | apply zaj | apply zak));exact zbq HO322.out (fun _ hk=>hk.2)⟩,⟨by (with_reducible repeat (first | apply zai | apply zaj | apply zak));exact zbq HO_8.out (fun _ hk=>hk.2)⟩,⟨by (with_reducible repeat (first | apply Kd.S_alloc | apply Kd.S_drewN | apply Kd.S_drew));exact Kd.S_mono HO319.out (fun _ hk=>⟨hk.2,hk.1.1.1.2⟩)⟩,⟨taab⟩,⟨bx_below HBR.out HBX.out⟩⟩
                     ·rw [if_neg c37] at H
                      exact absurd H (taac)
                    ·rw [if_neg c36] at H
                     exact absurd H (taac)
                   ·rw [if_neg c35] at H
                    exact absurd H (taac)
                 ·rw [if_neg c32] at H
                  exact absurd H (taac)
                ·rw [if_neg c31] at H
                 exact absurd H (taac)
               ·rw [if_neg c30] at H
                exact absurd H (taac)
           ·rw [if_neg c26] at H
            exact absurd H (taac)
          ·rw [if_neg c25] at H
           exact absurd H (taac)
         ·rw [if_neg c24] at H
          exact absurd H (taac)
mutual
def laws_FnCarriedLists.j0:Nat→List Int→List Int→List Int→Bool→Bool→Option (Bool)
 | 0,_,_,_,_,_=>none
 | k+1,x1,x6,x7,x8,x53=>if x53=true then (some false) else (if x8=true then ((impl_IsMajorized.f k x7 x6).bind fun bt561=>(if bt561.2=true then (if bt561.1=true then (laws_FnCarriedLists.j1 k x1) else (some false)) else (some false))) else (laws_FnCarriedLists.j1 k x1))
def laws_FnCarriedLists.j1:Nat→List Int→Option (Bool)
 | 0,_=>none
 | k+1,x1=>(spec_DrawTableFor.f k x1).bind fun bt563=>((impl_TableFor.f k bt563.1 bt563.2).bind fun bt569=>((spec_TableFor.f k bt563.1 bt563.2).bind fun bt573=>(if (bt569.2 != bt573.2)=true then (laws_FnCarriedLists.j2 k bt563.1 bt563.2 bt569.1 bt569.2 true) else ((laws_yRows.f k bt569.1 bt573.1).bind fun t577=>(laws_FnCarriedLists.j2 k bt563.1 bt563.2 bt569.1 bt569.2 (!t577))))))
def laws_FnCarriedLists.j2:Nat→List Int→List Int→List (List Int)→Bool→Bool→Option (Bool)
 | 0,_,_,_,_,_=>none
 | k+1,x13,x14,x15,x16,x92=>if x92=true then (some false) else ((impl_IsMajorized.f k x13 x14).bind fun bt578=>(if bt578.2=true then (if (x13.length:Int)≤4 then (laws_FnCarriedLists.j3 k x13 x14 x15 x16 (x16 != bt578.1)) else (laws_FnCarriedLists.j3 k x13 x14 x15 x16 false)) else (laws_FnCarriedLists.j3 k x13 x14 x15 x16 false)))
def laws_FnCarriedLists.j3:Nat→List Int→List Int→List (List Int)→Bool→Bool→Option (Bool)
 | 0,_,_,_,_,_=>none
 | k+1,x13,x14,x15,x16,x109=>if x109=true then (some false) else (if x16=true then ((impl_CarryList.f k x15 x14).bind fun bt580=>((impl_EqualSum.f k x15).bind fun bt584=>(if bt580.2=true then ((laws_ySame.f k bt580.1 x13).bind fun t586=>(if t586=true then (if bt584.2=true then (some (decide (bt584.1>0))) else (some false)) else (some false))) else (some false)))) else (some true))
end
def laws_FnCarriedLists.f (k:Nat) (l0:List Int) (l1:List Int):Option (Bool):=(laws_big.f l0 l1).bind fun t545=>(if t545=true then (some true) else ((spec_DrawCarryList.f k l0).bind fun bt546=>((impl_CarryList.f k bt546.1 bt546.2).bind fun bt552=>((spec_CarryList.f k bt546.1 bt546.2).bind fun bt556=>(if (bt552.2 != bt556.2)=true then (laws_FnCarriedLists.j0 k l1 bt546.2 bt552.1 bt552.2 true) else ((laws_ySame.f k bt552.1 bt556.1).bind fun t560=>(laws_FnCarriedLists.j0 k l1 bt546.2 bt552.1 bt552.2 (!t560))))))))
theorem laws_FnCarriedLists.calls (k:Nat) (A0:Option Addr) (c0:Nat) (l0:List Int) (A1:Option Addr) (c1:Nat) (l1:List Int) (r:Bool) (w:World) (hr0:Kd.C (Kd.int .u8) w A0 l0.length l0) (hc0:l0.length≤c0) (hr1:Kd.C (Kd.int .u8) w A1 l1.length l1) (hc1:l1.length≤c1) (h:laws_FnCarriedLists.f k l0 l1=some r) :
 Calls Tryz.prog 3 #[.slice A0 l0.length c0,.slice A1 l1.length c1] w fun e w'=>e = .returned (.bool r)∧Below w.heap.size w w':=by
 have HR0:=zad hr0;have HC0:=zad hc0;clear hr0 hc0;have HR1:=zad hr1;have HC1:=zad hc1;clear hr1 hc1;have HB:=zad (Below.refl w.heap.size w)
 have H:((laws_big.f l0 l1).bind fun t545=>(if t545=true then (some true) else ((spec_DrawCarryList.f k l0).bind fun bt546=>((impl_CarryList.f k bt546.1 bt546.2).bind fun bt552=>((spec_CarryList.f k bt546.1 bt546.2).bind fun bt556=>(if (bt552.2 != bt556.2)=true then (laws_FnCarriedLists.j0 k l1 bt546.2 bt552.1 bt552.2 true) else ((laws_ySame.f k bt552.1 bt556.1).bind fun t560=>(laws_FnCarriedLists.j0 k l1 bt546.2 bt552.1 bt552.2 (!t560)))))))))=some r:=h
 clear h;replace H:=zay.mp H;obtain ⟨t545,A30,H⟩:=H
 replace H:(if t545=true then (some true) else ((spec_DrawCarryList.f k l0).bind fun bt546=>((impl_CarryList.f k bt546.1 bt546.2).bind fun bt552=>((spec_CarryList.f k bt546.1 bt546.2).bind fun bt556=>(if (bt552.2 != bt556.2)=true then (laws_FnCarriedLists.j0 k l1 bt546.2 bt552.1 bt552.2 true) else ((laws_ySame.f k bt552.1 bt556.1).bind fun t560=>(laws_FnCarriedLists.j0 k l1 bt546.2 bt552.1 bt552.2 (!t560))))))))=some r:=H
 have A3:=zad A30;clear A30;by_cases c4:t545=true
 ·subst c4
  have H1:(some true)=some r:=by rw [if_pos rfl] at H;exact H
  clear H;have H:=H1;clear H1;obtain rfl:=zbe H
  go_enter Tryz.func3,Tryz.ntmps3
  go_wp2_with (first | ((with_reducible refine zbh (f:=4) rfl ?_);refine zbn (some 27) rfl rfl Tryz.func4 (by kernel_rfl) rfl #[.slice A0 l0.length c0,.slice A1 l1.length c1] rfl (taae) ?_;(with_reducible refine (laws_big.calls _ _ l0 _ _ l1 true _ ?side1 ?side2 ?side3 ?side4 A3.out).mono ?_);(case side1=>exact tafl);(case side2=>exact HC0.out);(case side3=>exact tafp);(case side4=>exact HC1.out);rintro e w' ⟨rfl,⟨nd,rfl⟩⟩;refine ⟨_,rfl,?_⟩))
  go_ret
  exact ⟨taai,taab⟩
 ·replace c4:=zbi.mpr c4
  subst c4;have H1:((spec_DrawCarryList.f k l0).bind fun bt546=>((impl_CarryList.f k bt546.1 bt546.2).bind fun bt552=>((spec_CarryList.f k bt546.1 bt546.2).bind fun bt556=>(if (bt552.2 != bt556.2)=true then (laws_FnCarriedLists.j0 k l1 bt546.2 bt552.1 bt552.2 true) else ((laws_ySame.f k bt552.1 bt556.1).bind fun t560=>(laws_FnCarriedLists.j0 k l1 bt546.2 bt552.1 bt552.2 (!t560)))))))=some r:=by rw [if_neg (show ¬ (false=true) by decide)] at H;exact H
  clear H;have H:=H1;clear H1;replace H:=zay.mp H;obtain ⟨⟨t546,t549⟩,A50,H⟩:=H
  replace H:((impl_CarryList.f k t546 t549).bind fun bt552=>((spec_CarryList.f k t546 t549).bind fun bt556=>(if (bt552.2 != bt556.2)=true then (laws_FnCarriedLists.j0 k l1 t549 bt552.1 bt552.2 true) else ((laws_ySame.f k bt552.1 bt556.1).bind fun t560=>(laws_FnCarriedLists.j0 k l1 t549 bt552.1 bt552.2 (!t560))))))=some r:=H
  have A5:=zad A50;clear A50;replace H:=zay.mp H;obtain ⟨⟨t552,t553⟩,A60,H⟩:=H
  replace H:((spec_CarryList.f k t546 t549).bind fun bt556=>(if (t553 != bt556.2)=true then (laws_FnCarriedLists.j0 k l1 t549 t552 t553 true) else ((laws_ySame.f k t552 bt556.1).bind fun t560=>(laws_FnCarriedLists.j0 k l1 t549 t552 t553 (!t560)))))=some r:=H
  have A6:=zad A60;clear A60;replace H:=zay.mp H;obtain ⟨⟨t556,t557⟩,A70,H⟩:=H
  replace H:(if (t553 != t557)=true then (laws_FnCarriedLists.j0 k l1 t549 t552 t553 true) else ((laws_ySame.f k t552 t556).bind fun t560=>(laws_FnCarriedLists.j0 k l1 t549 t552 t553 (!t560))))=some r:=H
  have A7:=zad A70;clear A70;have HC8:=zad H;clear H;go_enter Tryz.func3,Tryz.ntmps3
  go_upto_region 6 with (first | ((with_reducible refine zbh (f:=4) rfl ?_);refine zbn (some 27) rfl rfl Tryz.func4 (by kernel_rfl) rfl #[.slice A0 l0.length c0,.slice A1 l1.length c1] rfl (taae) ?_;(with_reducible refine (laws_big.calls _ _ l0 _ _ l1 false _ ?side1 ?side2 ?side3 ?side4 A3.out).mono ?_);(case side1=>repeat (first | exact HR0.out | (with_reducible refine zal ?_ _) | (with_reducible refine zam ?_ _) | (with_reducible refine zan ?_)));(case side2=>exact HC0.out);(case side3=>repeat (first | exact HR1.out | (with_reducible refine zal ?_ _) | (with_reducible refine zam ?_ _) | (with_reducible refine zan ?_)));(case side4=>exact HC1.out);rintro e w' ⟨rfl,⟨nd,rfl⟩⟩;refine ⟨_,rfl,?_⟩) | ((with_reducible refine zbh (f:=5) rfl ?_);refine zbn (some 30) rfl rfl Tryz.func5 (by kernel_rfl) rfl #[.slice A0 l0.length c0] rfl (taae) ?_;(with_reducible refine (spec_DrawCarryList.calls k _ _ l0 t546 t549 _ ?side1 ?side2 A5.out).mono ?_);(case side1=>repeat (first | exact HR0.out | (with_reducible refine zal ?_ _) | (with_reducible refine zam ?_ _) | (with_reducible refine zan ?_)));(case side2=>exact HC0.out);rintro e w9 ⟨v547,v550,rfl,ho0,ho1,hb⟩;refine ⟨_,rfl,?_⟩;have n0_:=zad (Kd.V_lower (Kd.V_mono (ok':=fun k_=>some k_≠(v550:Value).ownBlock) ho0 (fun k_ hk_=>hk_.2)) (zbk (taab)));have n1_:=zad (zbu (zbq (ok':=fun k_=>True) ho1 (fun _ hk_=>trivial)) (zbk (taab)));have n2_:=zad (zbg (taab) hb);clear HB;have HO548:=n0_;have HO551:=n1_;have HB:=n2_;clear n0_ n1_ n2_;(try clear hb);(try clear hb2);(try clear hk);(try clear hi);(try clear ho0);(try clear ho1);obtain ⟨Ao10,co10,eo10⟩:=Kd.V_slice HO548.out;subst eo10;obtain ⟨Ao11,co11,eo11⟩:=zbv HO551.out;subst eo11) | ((with_reducible refine zbh (f:=6) rfl ?_);refine zbn (some 36) rfl rfl Tryz.func6 (by kernel_rfl) rfl #[.slice Ao10 t546.length co10,.slice Ao11 t549.length co11] rfl (taae) ?_;(with_reducible refine (impl_CarryList.calls k _ _ t546 _ _ t549 t552 t553 _ ?side1 ?side2 ?side3 ?side4 A6.out).mono ?_);(case side1=>repeat (first | exact (Kd.V_reads' HO548.out).2.2 | (with_reducible refine zal ?_ _) | (with_reducible refine zam ?_ _) | (with_reducible refine zan ?_)));(case side2=>exact (Kd.V_reads' HO548.out).2.1);(case side3=>repeat (first | exact (zbf HO551.out).2.2 | (with_reducible refine zal ?_ _) | (with_reducible refine zam ?_ _) | (with_reducible refine zan ?_)));(case side4=>exact (zbf HO551.out).2.1);rintro e w12 ⟨v554,rfl,ho0,hb⟩;refine ⟨_,rfl,?_⟩;have n0_:=zad (Kd.V_elder' (taeo) (zcd ho0) hb);have n1_:=zad (zcb (tack) (zcd ho0) hb);have n2_:=zad (zbu (zcc ho0 (zce (tack))) (zbk (taab)));have n3_:=zad (zbg (taab) hb);clear HO548 HO551 HB;have HO548:=n0_;have HO551:=n1_;have HO555:=n2_;have HB:=n3_;clear n0_ n1_ n2_ n3_;(try clear hb);(try clear hb2);(try clear hk);(try clear hi);(try clear ho0)) | ((with_reducible refine zbh (f:=7) rfl ?_);refine zbn (some 42) rfl rfl Tryz.func7 (by kernel_rfl) rfl #[.slice Ao10 t546.length co10,.slice Ao11 t549.length co11] rfl (taae) ?_;(with_reducible refine (spec_CarryList.calls k _ _ t546 _ _ t549 t556 t557 _ ?side1 ?side2 ?side3 ?side4 A7.out).mono ?_);(case side1=>repeat (first | exact (Kd.V_reads' HO548.out).2.2 | (with_reducible refine zal ?_ _) | (with_reducible refine zam ?_ _) | (with_reducible refine zan ?_)));(case side2=>exact (Kd.V_reads' HO548.out).2.1);(case side3=>repeat (first | exact (zbf HO551.out).2.2 | (with_reducible refine zal ?_ _) | (with_reducible refine zam ?_ _) | (with_reducible refine zan ?_)));(case side4=>exact (zbf HO551.out).2.1);rintro e w13 ⟨v558,rfl,ho0,hb⟩;refine ⟨_,rfl,?_⟩;have n0_:=zad (Kd.V_elder' (taeo) (zcd ho0) hb);have n1_:=zad (zcb (tack) (zcd ho0) hb);have n2_:=zad (zcb (taep) (zcd ho0) hb);have n3_:=zad (zbu (zcc (zcc ho0 (zce (tack))) (zce (taep))) (zbk (taab)));have n4_:=zad (zbg (taab) hb);clear HO548 HO551 HO555 HB;have HO548:=n0_;have HO551:=n1_;have HO555:=n2_;have HO559:=n3_;have HB:=n4_;clear n0_ n1_ n2_ n3_ n4_;(try clear hb);(try clear hb2);(try clear hk);(try clear hi);(try clear ho0)))
  (try simp only [Act.put,zaa,zab,zac])
  go_cut [53] (fun v53 wc=>∃ (kq:Nat) (x53_7:Bool),v53 = .bool x53_7∧Aside0 (laws_FnCarriedLists.j0 kq l1 t549 t552 t553 x53_7=some r)∧Aside0 (kq≤k)∧Aside0 (Kd.R (Kd.int .i64) 3 wc w.heap.size (fun k_=>some k_≠(v554:Value).ownBlock) (.slice Ao11 t549.length co11) t549)∧Aside0 (Kd.R (Kd.int .i64) 3 wc w.heap.size (fun k_=>some k_≠((.slice Ao11 t549.length co11):Value).ownBlock) v554 t552)∧Aside0 (Below w.heap.size w wc))
  case first=>as_aux_lemma =>
   have H:=HC8.out
   clear HC8;by_cases c14:(t553 != t557)=true
   ·rw [if_pos c14] at H
    have c14b0:(t553 != t557)=true:=c14
    (try (have c14b1:decide (t553=t557)=false:=by simpa using c14))
    (try (have c14b2:(t553 == t557)=false:=by simpa using c14))
    (try (have c14b3:¬ (t553=t557):=by simpa using c14))
    clear c14;(first | rw [c14b0] | (simp only [zbw,zbx];rw [c14b0]) | skip)
    have H':=zad H
    clear H;go_wp2
    go_meet
    case rel=>exact ⟨_,(true),(taad),H',⟨taas⟩,⟨taeq⟩,⟨taer⟩,⟨taab⟩⟩
   ·rw [if_neg c14] at H
    have c14b0:(t553 != t557)=false:=by simpa using c14
    (try (have c14b1:decide (t553=t557)=true:=by simpa using c14))
    (try (have c14b2:(t553 == t557)=true:=by simpa using c14))
    clear c14;(first | rw [c14b0] | (simp only [zbw,zbx];rw [c14b0]) | skip)
    replace H:=zay.mp H;obtain ⟨t560,A150,H⟩:=H
    replace H:(laws_FnCarriedLists.j0 k l1 t549 t552 t553 (!t560))=some r:=H
    have A15:=zad A150;clear A150;have H':=zad H
    clear H;obtain ⟨Ao16,co16,eo16⟩:=zbv HO555.out
    subst eo16;obtain ⟨Ao17,co17,eo17⟩:=zbv HO559.out
    subst eo17;go_wp2_with (first | (go_at_call 8;(with_reducible refine (laws_ySame.calls k _ _ t552 _ _ t556 t560 _ ?side1 ?side2 ?side3 ?side4 A15.out).mono ?_);(case side1=>repeat (first | exact (zbf HO555.out).2.2 | (with_reducible refine zal ?_ _) | (with_reducible refine zam ?_ _) | (with_reducible refine zan ?_)));(case side2=>exact (zbf HO555.out).2.1);(case side3=>repeat (first | exact (zbf HO559.out).2.2 | (with_reducible refine zal ?_ _) | (with_reducible refine zam ?_ _) | (with_reducible refine zan ?_)));(case side4=>exact (zbf HO559.out).2.1);rintro e w' ⟨rfl,⟨nd,rfl⟩⟩))
    go_meet
    case rel=>exact ⟨_,(!t560),(taad),H',⟨taas⟩,⟨taeq⟩,⟨taer⟩,⟨taab⟩⟩
  case rest=>as_aux_lemma =>
   clear HC8;try clear c1
   try clear p2
   try clear c3
   try clear c4
   try clear c5
   try clear c6
   try clear c7
   try clear c14
   try clear c14b0
   try clear c14b1
   try clear c14b2
   obtain ⟨kq,x53_7,rfl,HA,HJ7,HO_6,HO_7,HB⟩:=hcut
   cases kq with
   | zero=>exact absurd HA.out (by simp [laws_FnCarriedLists.j0])
   | succ kj7 =>
    have H:=HA.out
    clear HA;simp only [laws_FnCarriedLists.j0] at H
    by_cases c18:x53_7=true
    ·subst c18
     have H1:(some false)=some r:=by rw [if_pos rfl] at H;exact H
     clear H;have H:=H1;clear H1;obtain rfl:=zbe H
     go_wp2
     go_ret
     exact ⟨taai,taab⟩
    ·replace c18:=zbi.mpr c18
     subst c18;have H1:(if t553=true then ((impl_IsMajorized.f kj7 t552 t549).bind fun bt561=>(if bt561.2=true then (if bt561.1=true then (laws_FnCarriedLists.j1 kj7 l1) else (some false)) else (some false))) else (laws_FnCarriedLists.j1 kj7 l1))=some r:=by rw [if_neg (show ¬ (false=true) by decide)] at H;exact H
     clear H;have H:=H1;clear H1;have HC19:=zad H;clear H;go_upto_if 54 with (fail)
     go_cut [] (fun wc=>∃ (kq:Nat),Aside0 (laws_FnCarriedLists.j1 kq l1=some r)∧Aside0 (kq≤kj7)∧Aside0 (Below w.heap.size w wc))
     case first=>as_aux_lemma =>
      have H:=HC19.out
      clear HC19;by_cases c20:t553=true
      ·subst c20
       have H1:((impl_IsMajorized.f kj7 t552 t549).bind fun bt561=>(if bt561.2=true then (if bt561.1=true then (laws_FnCarriedLists.j1 kj7 l1) else (some false)) else (some false)))=some r:=by rw [if_pos rfl] at H;exact H
       clear H;have H:=H1;clear H1;replace H:=zay.mp H;obtain ⟨⟨t561,t562⟩,A210,H⟩:=H
       replace H:(if t562=true then (if t561=true then (laws_FnCarriedLists.j1 kj7 l1) else (some false)) else (some false))=some r:=H
       have A21:=zad A210;clear A210;by_cases c22:t562=true
       ·subst c22
        have H1:(if t561=true then (laws_FnCarriedLists.j1 kj7 l1) else (some false))=some r:=by rw [if_pos rfl] at H;exact H
        clear H;have H:=H1;clear H1;by_cases c23:t561=true
        ·subst c23
         have H1:(laws_FnCarriedLists.j1 kj7 l1)=some r:=by rw [if_pos rfl] at H;exact H
         clear H;have H:=H1;clear H1;have H':=zad H
         clear H;obtain ⟨Ao24,co24,eo24⟩:=zbv HO_7.out
         subst eo24;go_wp2_with (first | ((with_reducible refine zbh (f:=9) rfl ?_);refine zbn (some 58) rfl rfl Tryz.func9 (by kernel_rfl) rfl #[.slice Ao24 t552.length co24,.slice Ao11 t549.length co11] rfl (taae) ?_;(with_reducible refine (impl_IsMajorized.calls kj7 _ _ t552 _ _ t549 true true _ ?side1 ?side2 ?side3 ?side4 A21.out).mono ?_);(case side1=>exact tafn);(case side2=>exact tafo);(case side3=>exact taft);(case side4=>exact (zbf HO_6.out).2.1);rintro e w25 ⟨rfl,hb⟩;refine ⟨_,rfl,?_⟩;have n0_:=zad (zbt (taar) hb);have n1_:=zad (zbt (taak) hb);have n2_:=zad (zbg (taab) hb);clear HO_6 HO_7 HB;have HO_6:=n0_;have HO_7:=n1_;have HB:=n2_;clear n0_ n1_ n2_;(try clear hb);(try clear hb2);(try clear hk);(try clear hi)))
         go_meet
         case rel=>exact ⟨_,H',⟨by have:=HJ7.out;first | omega | exact zcf _⟩,⟨taab⟩⟩
        ·replace c23:=zbi.mpr c23
         subst c23;have H1:(some false)=some r:=by rw [if_neg (show ¬ (false=true) by decide)] at H;exact H
         clear H;have H:=H1;clear H1;obtain rfl:=zbe H
         obtain ⟨Ao26,co26,eo26⟩:=zbv HO_7.out
         subst eo26;go_wp2_with (first | ((with_reducible refine zbh (f:=9) rfl ?_);refine zbn (some 58) rfl rfl Tryz.func9 (by kernel_rfl) rfl #[.slice Ao26 t552.length co26,.slice Ao11 t549.length co11] rfl (taae) ?_;(with_reducible refine (impl_IsMajorized.calls kj7 _ _ t552 _ _ t549 false true _ ?side1 ?side2 ?side3 ?side4 A21.out).mono ?_);(case side1=>exact tafn);(case side2=>exact tafo);(case side3=>exact taft);(case side4=>exact (zbf HO_6.out).2.1);rintro e w27 ⟨rfl,hb⟩;refine ⟨_,rfl,?_⟩;have n0_:=zad (zbt (taar) hb);have n1_:=zad (zbt (taak) hb);have n2_:=zad (zbg (taab) hb);clear HO_6 HO_7 HB;have HO_6:=n0_;have HO_7:=n1_;have HB:=n2_;clear n0_ n1_ n2_;(try clear hb);(try clear hb2);(try clear hk);(try clear hi)))
         go_ret
         exact ⟨taai,taab⟩
       ·replace c22:=zbi.mpr c22
        subst c22;have H1:(some false)=some r:=by rw [if_neg (show ¬ (false=true) by decide)] at H;exact H
        clear H;have H:=H1;clear H1;obtain rfl:=zbe H
        obtain ⟨Ao28,co28,eo28⟩:=zbv HO_7.out
        subst eo28;go_wp2_with (first | ((with_reducible refine zbh (f:=9) rfl ?_);refine zbn (some 58) rfl rfl Tryz.func9 (by kernel_rfl) rfl #[.slice Ao28 t552.length co28,.slice Ao11 t549.length co11] rfl (taae) ?_;(with_reducible refine (impl_IsMajorized.calls kj7 _ _ t552 _ _ t549 t561 false _ ?side1 ?side2 ?side3 ?side4 A21.out).mono ?_);(case side1=>exact tafn);(case side2=>exact tafo);(case side3=>exact taft);(case side4=>exact (zbf HO_6.out).2.1);rintro e w29 ⟨rfl,hb⟩;refine ⟨_,rfl,?_⟩;have n0_:=zad (zbt (taar) hb);have n1_:=zad (zbt (taak) hb);have n2_:=zad (zbg (taab) hb);clear HO_6 HO_7 HB;have HO_6:=n0_;have HO_7:=n1_;have HB:=n2_;clear n0_ n1_ n2_;(try clear hb);(try clear hb2);(try clear hk);(try clear hi)))
        go_ret
        exact ⟨taai,taab⟩
      ·replace c20:=zbi.mpr c20
       subst c20;have H1:(laws_FnCarriedLists.j1 kj7 l1)=some r:=by rw [if_neg (show ¬ (false=true) by decide)] at H;exact H
       clear H;have H:=H1;clear H1;have H':=zad H
       clear H;go_wp2
       go_meet
       case rel=>exact ⟨_,H',⟨by have:=HJ7.out;first | omega | exact zcf _⟩,⟨taab⟩⟩
     case rest=>as_aux_lemma =>
      clear HC19;try clear c1
      try clear c2
      try clear p2
      try clear c3
      try clear c4
      try clear c5
      try clear c6
      try clear c7
      try clear c9
      try clear c14
      try clear c14b0
      try clear c14b1
      try clear c14b2
      try clear c18
      try clear c20
      try clear c22
      try clear c23
      try clear p2
      obtain ⟨kq,HA,HJ18,HB⟩:=hcut
      cases kq with
      | zero=>exact absurd HA.out (by simp [laws_FnCarriedLists.j1])
      | succ kj18 =>
       have H:=HA.out
       clear HA;simp only [laws_FnCarriedLists.j1] at H
       replace H:=zay.mp H;obtain ⟨⟨t563,t564⟩,A300,H⟩:=H
       replace H:((impl_TableFor.f kj18 t563 t564).bind fun bt569=>((spec_TableFor.f kj18 t563 t564).bind fun bt573=>(if (bt569.2 != bt573.2)=true then (laws_FnCarriedLists.j2 kj18 t563 t564 bt569.1 bt569.2 true) else ((laws_yRows.f kj18 bt569.1 bt573.1).bind fun t577=>(laws_FnCarriedLists.j2 kj18 t563 t564 bt569.1 bt569.2 (!t577))))))=some r:=H
       have A30:=zad A300;clear A300;replace H:=zay.mp H;obtain ⟨⟨t569,t570⟩,A310,H⟩:=H
       replace H:((spec_TableFor.f kj18 t563 t564).bind fun bt573=>(if (t570 != bt573.2)=true then (laws_FnCarriedLists.j2 kj18 t563 t564 t569 t570 true) else ((laws_yRows.f kj18 t569 bt573.1).bind fun t577=>(laws_FnCarriedLists.j2 kj18 t563 t564 t569 t570 (!t577)))))=some r:=H
       have A31:=zad A310;clear A310;replace H:=zay.mp H;obtain ⟨⟨t573,t576⟩,A320,H⟩:=H
       replace H:(if (t570 != t576)=true then (laws_FnCarriedLists.j2 kj18 t563 t564 t569 t570 true) else ((laws_yRows.f kj18 t569 t573).bind fun t577=>(laws_FnCarriedLists.j2 kj18 t563 t564 t569 t570 (!t577))))=some r:=H
       have A32:=zad A320;clear A320;have HC33:=zad H;clear H;go_upto_region 15 with (first | ((with_reducible refine zbh (f:=10) rfl ?_);refine zbn (some 69) rfl rfl Tryz.func10 (by kernel_rfl) rfl #[.slice A1 l1.length c1] rfl (taae) ?_;(with_reducible refine (spec_DrawTableFor.calls kj18 _ _ l1 t563 t564 _ ?side1 ?side2 A30.out).mono ?_);(case side1=>repeat (first | exact (Kd.C_below HR1.out HB.out) | (with_reducible refine zal ?_ _) | (with_reducible refine zam ?_ _) | (with_reducible refine zan ?_)));(case side2=>exact HC1.out);rintro e w34 ⟨v565,v567,rfl,ho0,ho1,hb⟩;refine ⟨_,rfl,?_⟩;have n0_:=zad (zbu ho0 (zbk (taab)));have n1_:=zad (zbu ho1 (zbk (taab)));have n2_:=zad (zbg (taab) hb);clear HB;have HO566:=n0_;have HO568:=n1_;have HB:=n2_;clear n0_ n1_ n2_;(try clear hb);(try clear hb2);(try clear hk);(try clear hi);(try clear ho0);(try clear ho1);obtain ⟨Ao35,co35,eo35⟩:=zbv HO566.out;subst eo35;obtain ⟨Ao36,co36,eo36⟩:=zbv HO568.out;subst eo36) | ((with_reducible refine zbh (f:=11) rfl ?_);refine zbn (some 75) rfl rfl Tryz.func11 (by kernel_rfl) rfl #[.slice Ao35 t563.length co35,.slice Ao36 t564.length co36] rfl (taae) ?_;(with_reducible refine (impl_TableFor.calls kj18 _ _ t563 _ _ t564 t569 t570 _ ?side1 ?side2 ?side3 ?side4 A31.out).mono ?_);(case side1=>repeat (first | exact (zbf HO566.out).2.2 | (with_reducible refine zal ?_ _) | (with_reducible refine zam ?_ _) | (with_reducible refine zan ?_)));(case side2=>exact (zbf HO566.out).2.1);(case side3=>repeat (first | exact (zbf HO568.out).2.2 | (with_reducible refine zal ?_ _) | (with_reducible refine zam ?_ _) | (with_reducible refine zan ?_)));(case side4=>exact (zbf HO568.out).2.1);rintro e w37 ⟨v571,rfl,ho0,hb⟩;refine ⟨_,rfl,?_⟩;have n0_:=zad (zbt (tabu) hb);have n1_:=zad (zbt (tabv) hb);have n2_:=zad (Kd.S_lower (Kd.S_new' (Kd.S_new' ho0 (zce (tabu))) (zce (tabv))) (zbk (taab)));have n3_:=zad (zbg (taab) hb);clear HO566 HO568 HB;have HO566:=n0_;have HO568:=n1_;have HO572:=n2_;have HB:=n3_;clear n0_ n1_ n2_ n3_;(try clear hb);(try clear hb2);(try clear hk);(try clear hi);(try clear ho0)) | ((with_reducible refine zbh (f:=12) rfl ?_);refine zbn (some 81) rfl rfl Tryz.func12 (by kernel_rfl) rfl #[.slice Ao35 t563.length co35,.slice Ao36 t564.length co36] rfl (taae) ?_;(with_reducible refine (spec_TableFor.calls kj18 _ _ t563 _ _ t564 t573 t576 _ ?side1 ?side2 ?side3 ?side4 A32.out).mono ?_);(case side1=>repeat (first | exact (zbf HO566.out).2.2 | (with_reducible refine zal ?_ _) | (with_reducible refine zam ?_ _) | (with_reducible refine zan ?_)));(case side2=>exact (zbf HO566.out).2.1);(case side3=>repeat (first | exact (zbf HO568.out).2.2 | (with_reducible refine zal ?_ _) | (with_reducible refine zam ?_ _) | (with_reducible refine zan ?_)));(case side4=>exact (zbf HO568.out).2.1);rintro e w38 ⟨v574,rfl,ho0,hb⟩;refine ⟨_,rfl,?_⟩;have n0_:=zad (zbt (tabu) hb);have n1_:=zad (zbt (tabv) hb);have n2_:=zad (Kd.S_below (taes) hb);have n3_:=zad (Kd.V_lower (Kd.V_mono (ok':=fun k_=>some k_≠(.slice Ao35 t563.length co35:Value).ownBlock∧some k_≠(.slice Ao36 t564.length co36:Value).ownBlock∧some k_≠(v571:Value).ownBlock) ho0 (fun k_ hk_=>⟨(Kd.fresh' (zce (tabu)) k_ hk_),(Kd.fresh' (zce (tabv)) k_ hk_),(Kd.fresh' (Kd.S_lt (taes)) k_ hk_)⟩)) (zbk (taab)));have n4_:=zad (zbg (taab) hb);clear HO566 HO568 HO572 HB;have HO566:=n0_;have HO568:=n1_;have HO572:=n2_;have HO575:=n3_;have HB:=n4_;clear n0_ n1_ n2_ n3_ n4_;(try clear hb);(try clear hb2);(try clear hk);(try clear hi);(try clear ho0)))
       (try simp only [Act.put,zaa,zab,zac])
       go_cut [92] (fun v92 wc=>∃ (kq:Nat) (x92_32:Bool),v92 = .bool x92_32∧Aside0 (laws_FnCarriedLists.j2 kq t563 t564 t569 t570 x92_32=some r)∧Aside0 (kq≤kj18)∧Aside0 (Kd.R (Kd.int .i64) 3 wc w.heap.size (fun k_=>some k_≠((.slice Ao36 t564.length co36):Value).ownBlock) (.slice Ao35 t563.length co35) t563)∧Aside0 (Kd.R (Kd.int .i64) 3 wc w.heap.size (fun k_=>some k_≠((.slice Ao35 t563.length co35):Value).ownBlock) (.slice Ao36 t564.length co36) t564)∧Aside0 (Kd.S (Kd.slice 3 (Kd.int .i64)) 25 wc w.heap.size (fun k_=>some k_≠((.slice Ao35 t563.length co35):Value).ownBlock∧some k_≠((.slice Ao36 t564.length co36):Value).ownBlock) v571 t569)∧Aside0 (Below w.heap.size w wc))
       case first=>as_aux_lemma =>
        have H:=HC33.out
        clear HC33;by_cases c39:(t570 != t576)=true
        ·rw [if_pos c39] at H
         have c39b0:(t570 != t576)=true:=c39
         (try (have c39b1:decide (t570=t576)=false:=by simpa using c39))
         (try (have c39b2:(t570 == t576)=false:=by simpa using c39))
         (try (have c39b3:¬ (t570=t576):=by simpa using c39))
         clear c39;(first | rw [c39b0] | (simp only [zbw,zbx];rw [c39b0]) | skip)
         have H':=zad H
         clear H;go_wp2
         go_meet
         case rel=>exact ⟨_,(true),(taad),H',⟨taet⟩,⟨tabu⟩,⟨tabv⟩,⟨taeu⟩,⟨taab⟩⟩
        ·rw [if_neg c39] at H
         have c39b0:(t570 != t576)=false:=by simpa using c39
         (try (have c39b1:decide (t570=t576)=true:=by simpa using c39))
         (try (have c39b2:(t570 == t576)=true:=by simpa using c39))
         clear c39;(first | rw [c39b0] | (simp only [zbw,zbx];rw [c39b0]) | skip)
         replace H:=zay.mp H;obtain ⟨t577,A400,H⟩:=H
         replace H:(laws_FnCarriedLists.j2 kj18 t563 t564 t569 t570 (!t577))=some r:=H
         have A40:=zad A400;clear A400;have H':=zad H
         clear H;obtain ⟨Ao41,co41,eo41⟩:=Kd.S_slice HO572.out
         subst eo41;obtain ⟨Ao42,co42,eo42⟩:=Kd.V_slice HO575.out
         subst eo42;go_wp2_with (first | (go_at_call 13;(with_reducible refine (laws_yRows.calls kj18 _ _ t569 _ _ t573 t577 _ ?side1 ?side2 ?side3 ?side4 A40.out).mono ?_);(case side1=>repeat (first | exact (Kd.S_reads' HO572.out).2.2 | (with_reducible refine zal ?_ _) | (with_reducible refine zam ?_ _) | (with_reducible refine zan ?_)));(case side2=>exact (Kd.S_reads' HO572.out).2.1);(case side3=>repeat (first | exact (Kd.V_reads' HO575.out).2.2 | (with_reducible refine zal ?_ _) | (with_reducible refine zam ?_ _) | (with_reducible refine zan ?_)));(case side4=>exact (Kd.V_reads' HO575.out).2.1);rintro e w' ⟨rfl,⟨nd,rfl⟩⟩))
         go_meet
         case rel=>exact ⟨_,(!t577),(taad),H',⟨taet⟩,⟨tabu⟩,⟨tabv⟩,⟨taeu⟩,⟨taab⟩⟩
       case rest=>as_aux_lemma =>
        clear HC33;try clear c1
        try clear c2
        try clear p2
        try clear c3
        try clear c4
        try clear c5
        try clear c6
        try clear c7
        try clear c9
        try clear c10
        try clear c11
        try clear c12
        try clear c14
        try clear c14b0
        try clear c14b1
        try clear c14b2
        try clear c18
        try clear c20
        try clear c22
        try clear c23
        try clear c39
        try clear c39b0
        try clear c39b1
        try clear c39b2
        try clear p2
        obtain ⟨kq,x92_32,rfl,HA,HJ32,HO_13,HO_14,HO_15,HB⟩:=hcut
        cases kq with
        | zero=>exact absurd HA.out (by simp [laws_FnCarriedLists.j2])
        | succ kj32 =>
         have H:=HA.out
         clear HA;simp only [laws_FnCarriedLists.j2] at H
         by_cases c43:x92_32=true
         ·subst c43
          have H1:(some false)=some r:=by rw [if_pos rfl] at H;exact H
          clear H;have H:=H1;clear H1;obtain rfl:=zbe H
          go_wp2
          go_ret
          exact ⟨taai,taab⟩
         ·replace c43:=zbi.mpr c43
          subst c43;have H1:((impl_IsMajorized.f kj32 t563 t564).bind fun bt578=>(if bt578.2=true then (if (t563.length:Int)≤4 then (laws_FnCarriedLists.j3 kj32 t563 t564 t569 t570 (t570 != bt578.1)) else (laws_FnCarriedLists.j3 kj32 t563 t564 t569 t570 false)) else (laws_FnCarriedLists.j3 kj32 t563 t564 t569 t570 false)))=some r:=by rw [if_neg (show ¬ (false=true) by decide)] at H;exact H
          clear H;have H:=H1;clear H1;replace H:=zay.mp H;obtain ⟨⟨t578,t579⟩,A440,H⟩:=H
          replace H:(if t579=true then (if (t563.length:Int)≤4 then (laws_FnCarriedLists.j3 kj32 t563 t564 t569 t570 (t570 != t578)) else (laws_FnCarriedLists.j3 kj32 t563 t564 t569 t570 false)) else (laws_FnCarriedLists.j3 kj32 t563 t564 t569 t570 false))=some r:=H
          have A44:=zad A440;clear A440;have HC45:=zad H;clear H;go_upto_region 18 with (first | ((with_reducible refine zbh (f:=9) rfl ?_);refine zbn (some 96) rfl rfl Tryz.func9 (by kernel_rfl) rfl #[.slice Ao35 t563.length co35,.slice Ao36 t564.length co36] rfl (taae) ?_;(with_reducible refine (impl_IsMajorized.calls kj32 _ _ t563 _ _ t564 t578 t579 _ ?side1 ?side2 ?side3 ?side4 A44.out).mono ?_);(case side1=>repeat (first | exact (zbf HO_13.out).2.2 | (with_reducible refine zal ?_ _) | (with_reducible refine zam ?_ _) | (with_reducible refine zan ?_)));(case side2=>exact (zbf HO_13.out).2.1);(case side3=>repeat (first | exact (zbf HO_14.out).2.2 | (with_reducible refine zal ?_ _) | (with_reducible refine zam ?_ _) | (with_reducible refine zan ?_)));(case side4=>exact (zbf HO_14.out).2.1);rintro e w46 ⟨rfl,hb⟩;refine ⟨_,rfl,?_⟩;have n0_:=zad (zbt (taat) hb);have n1_:=zad (zbt (taau) hb);have n2_:=zad (Kd.S_below (tabb) hb);have n3_:=zad (zbg (taab) hb);clear HO_13 HO_14 HO_15 HB;have HO_13:=n0_;have HO_14:=n1_;have HO_15:=n2_;have HB:=n3_;clear n0_ n1_ n2_ n3_;(try clear hb);(try clear hb2);(try clear hk);(try clear hi)))
          (try simp only [Act.put,zaa,zab,zac])
          go_cut [109] (fun v109 wc=>∃ (kq:Nat) (x109_44:Bool),v109 = .bool x109_44∧Aside0 (laws_FnCarriedLists.j3 kq t563 t564 t569 t570 x109_44=some r)∧Aside0 (kq≤kj32)∧Aside0 (Kd.R (Kd.int .i64) 3 wc w.heap.size (fun k_=>some k_≠((.slice Ao36 t564.length co36):Value).ownBlock) (.slice Ao35 t563.length co35) t563)∧Aside0 (Kd.R (Kd.int .i64) 3 wc w.heap.size (fun k_=>some k_≠((.slice Ao35 t563.length co35):Value).ownBlock) (.slice Ao36 t564.length co36) t564)∧Aside0 (Kd.S (Kd.slice 3 (Kd.int .i64)) 25 wc w.heap.size (fun k_=>some k_≠((.slice Ao35 t563.length co35):Value).ownBlock∧some k_≠((.slice Ao36 t564.length co36):Value).ownBlock) v571 t569)∧Aside0 (Below w.heap.size w wc))
          case first=>as_aux_lemma =>
           have H:=HC45.out
           clear HC45;by_cases c47:t579=true
           ·subst c47
            have H1:(if (t563.length:Int)≤4 then (laws_FnCarriedLists.j3 kj32 t563 t564 t569 t570 (t570 != t578)) else (laws_FnCarriedLists.j3 kj32 t563 t564 t569 t570 false))=some r:=by rw [if_pos rfl] at H;exact H
            clear H;have H:=H1;clear H1;by_cases c48:(t563.length:Int)≤4
            ·rw [if_pos c48] at H
             have c48b0:decide ((t563.length:Int)≤4)=true:=zba c48
             have c48b1:decide (t563.length≤4)=true:=zba (by omega)
             clear c48;(first | rw [c48b0] | (simp only [zbw,zbx];rw [c48b0]) | skip)
             have H':=zad H
             clear H;go_wp2
             go_meet
             case rel=>exact ⟨_,((t570 != t578)),(taad),H',⟨tacy⟩,⟨taat⟩,⟨taau⟩,⟨tabb⟩,⟨taab⟩⟩
            ·rw [if_neg c48] at H
             have c48b0:decide ((t563.length:Int)≤4)=false:=zbj c48
             have c48b1:decide (t563.length≤4)=false:=zbj (by omega)
             clear c48;(first | rw [c48b0] | (simp only [zbw,zbx];rw [c48b0]) | skip)
             have H':=zad H
             clear H;go_wp2
             go_meet
             case rel=>exact ⟨_,(false),(taad),H',⟨tacy⟩,⟨taat⟩,⟨taau⟩,⟨tabb⟩,⟨taab⟩⟩
           ·replace c47:=zbi.mpr c47
            subst c47;have H1:(laws_FnCarriedLists.j3 kj32 t563 t564 t569 t570 false)=some r:=by rw [if_neg (show ¬ (false=true) by decide)] at H;exact H
            clear H;have H:=H1;clear H1;have H':=zad H
            clear H;go_wp2
            go_meet
            case rel=>exact ⟨_,(false),(taad),H',⟨tacy⟩,⟨taat⟩,⟨taau⟩,⟨tabb⟩,⟨taab⟩⟩
          case rest=>as_aux_lemma =>
           clear HC45;try clear c1
           try clear c2
           try clear p2
           try clear c3
           try clear c4
           try clear c5
           try clear c6
           try clear c7
           try clear c9
           try clear c10
           try clear c11
           try clear c12
           try clear c14
           try clear c14b0
           try clear c14b1
           try clear c14b2
           try clear c18
           try clear c20
           try clear c22
           try clear c23
           try clear c39
           try clear c39b0
           try clear c39b1
           try clear c39b2
           try clear c43
           try clear c47
           try clear c48
           try clear c48b0
           try clear c48b1
           try clear p2
           obtain ⟨kq,x109_44,rfl,HA,HJ44,HO_13,HO_14,HO_15,HB⟩:=hcut
           cases kq with
           | zero=>exact absurd HA.out (by simp [laws_FnCarriedLists.j3])
           | succ kj44 =>
            have H:=HA.out
            clear HA;simp only [laws_FnCarriedLists.j3] at H
            by_cases c49:x109_44=true
            ·subst c49
             have H1:(some false)=some r:=by rw [if_pos rfl] at H;exact H
             clear H;have H:=H1;clear H1;obtain rfl:=zbe H
             go_wp2
             go_ret
             exact ⟨taai,taab⟩
            ·replace c49:=zbi.mpr c49
             subst c49;have H1:(if t570=true then ((impl_CarryList.f kj44 t569 t564).bind fun bt580=>((impl_EqualSum.f kj44 t569).bind fun bt584=>(if bt580.2=true then ((laws_ySame.f kj44 bt580.1 t563).bind fun t586=>(if t586=true then (if bt584.2=true then (some (decide (bt584.1>0))) else (some false)) else (some false))) else (some false)))) else (some true))=some r:=by rw [if_neg (show ¬ (false=true) by decide)] at H;exact H
             clear H;have H:=H1;clear H1;by_cases c50:t570=true
             ·subst c50
              have H1:((impl_CarryList.f kj44 t569 t564).bind fun bt580=>((impl_EqualSum.f kj44 t569).bind fun bt584=>(if bt580.2=true then ((laws_ySame.f kj44 bt580.1 t563).bind fun t586=>(if t586=true then (if bt584.2=true then (some (decide (bt584.1>0))) else (some false)) else (some false))) else (some false))))=some r:=by rw [if_pos rfl] at H;exact H
              clear H;have H:=H1;clear H1;replace H:=zay.mp H;obtain ⟨⟨t580,t581⟩,A510,H⟩:=H
              replace H:((impl_EqualSum.f kj44 t569).bind fun bt584=>(if t581=true then ((laws_ySame.f kj44 t580 t563).bind fun t586=>(if t586=true then (if bt584.2=true then (some (decide (bt584.1>0))) else (some false)) else (some false))) else (some false)))=some r:=H
              have A51:=zad A510;clear A510;replace H:=zay.mp H;obtain ⟨⟨t584,t585⟩,A520,H⟩:=H
              replace H:(if t581=true then ((laws_ySame.f kj44 t580 t563).bind fun t586=>(if t586=true then (if t585=true then (some (decide (t584>0))) else (some false)) else (some false))) else (some false))=some r:=H
              have A52:=zad A520;clear A520;by_cases c53:t581=true
              ·subst c53
               have H1:((laws_ySame.f kj44 t580 t563).bind fun t586=>(if t586=true then (if t585=true then (some (decide (t584>0))) else (some false)) else (some false)))=some r:=by rw [if_pos rfl] at H;exact H
               clear H;have H:=H1;clear H1;replace H:=zay.mp H;obtain ⟨t586,A540,H⟩:=H
               replace H:(if t586=true then (if t585=true then (some (decide (t584>0))) else (some false)) else (some false))=some r:=H
               have A54:=zad A540;clear A540;by_cases c55:t586=true
               ·subst c55
                have H1:(if t585=true then (some (decide (t584>0))) else (some false))=some r:=by rw [if_pos rfl] at H;exact H
                clear H;have H:=H1;clear H1;by_cases c56:t585=true
                ·subst c56
                 have H1:(some (decide (t584>0)))=some r:=by rw [if_pos rfl] at H;exact H
                 clear H;have H:=H1;clear H1;obtain rfl:=zbe H
                 obtain ⟨Ao57,co57,eo57⟩:=Kd.S_slice HO_15.out
                 subst eo57;go_wp2_with (first | ((with_reducible refine zbh (f:=6) rfl ?_);refine zbn (some 114) rfl rfl Tryz.func6 (by kernel_rfl) rfl #[.slice Ao57 t569.length co57,.slice Ao36 t564.length co36] rfl (taae) ?_;(with_reducible refine (impl_CarryList.calls kj44 _ _ t569 _ _ t564 t580 true _ ?side1 ?side2 ?side3 ?side4 A51.out).mono ?_);(case side1=>repeat (first | exact (Kd.S_reads' HO_15.out).2.2 | (with_reducible refine zal ?_ _) | (with_reducible refine zam ?_ _) | (with_reducible refine zan ?_)));(case side2=>exact (Kd.S_reads' HO_15.out).2.1);(case side3=>repeat (first | exact (zbf HO_14.out).2.2 | (with_reducible refine zal ?_ _) | (with_reducible refine zam ?_ _) | (with_reducible refine zan ?_)));(case side4=>exact (zbf HO_14.out).2.1);rintro e w58 ⟨v582,rfl,ho0,hb⟩;refine ⟨_,rfl,?_⟩;have n0_:=zad (zcb (taat) (zcd ho0) hb);have n1_:=zad (zcb (taau) (zcd ho0) hb);have n2_:=zad (Kd.S_elder' (tabb) (zcd ho0) hb);have n3_:=zad (zbu (zcc (zcc ho0 (zce (taat))) (zce (taau))) (zbk (taab)));have n4_:=zad (zbg (taab) hb);clear HO_13 HO_14 HO_15 HB;have HO_13:=n0_;have HO_14:=n1_;have HO_15:=n2_;have HO583:=n3_;have HB:=n4_;clear n0_ n1_ n2_ n3_ n4_;(try clear hb);(try clear hb2);(try clear hk);(try clear hi);(try clear ho0)) | ((with_reducible refine zbh (f:=14) rfl ?_);refine zbn (some 119) rfl rfl Tryz.func14 (by kernel_rfl) rfl #[.slice Ao57 t569.length co57] rfl (taae) ?_;(with_reducible refine (impl_EqualSum.calls kj44 _ _ t569 t584 true _ ?side1 ?side2 A52.out).mono ?_);(case side1=>repeat (first | exact (Kd.S_reads' HO_15.out).2.2 | (with_reducible refine zal ?_ _) | (with_reducible refine zam ?_ _) | (with_reducible refine zan ?_)));(case side2=>exact (Kd.S_reads' HO_15.out).2.1);rintro e w59 ⟨rfl,hb⟩;refine ⟨_,rfl,?_⟩;have n0_:=zad (zbt (taat) hb);have n1_:=zad (zbt (taau) hb);have n2_:=zad (Kd.S_below (tabb) hb);have n3_:=zad (zbt (tacl) hb);have n4_:=zad (zbg (taab) hb);clear HO_13 HO_14 HO_15 HO583 HB;have HO_13:=n0_;have HO_14:=n1_;have HO_15:=n2_;have HO583:=n3_;have HB:=n4_;clear n0_ n1_ n2_ n3_ n4_;(try clear hb);(try clear hb2);(try clear hk);(try clear hi);obtain ⟨Ao60,co60,eo60⟩:=zbv HO583.out;subst eo60) | (go_at_call 8;(with_reducible refine (laws_ySame.calls kj44 _ _ t580 _ _ t563 true _ ?side1 ?side2 ?side3 ?side4 A54.out).mono ?_);(case side1=>repeat (first | exact (zbf HO583.out).2.2 | (with_reducible refine zal ?_ _) | (with_reducible refine zam ?_ _) | (with_reducible refine zan ?_)));(case side2=>exact (zbf HO583.out).2.1);(case side3=>repeat (first | exact (zbf HO_13.out).2.2 | (with_reducible refine zal ?_ _) | (with_reducible refine zam ?_ _) | (with_reducible refine zan ?_)));(case side4=>exact (zbf HO_13.out).2.1);rintro e w' ⟨rfl,⟨nd,rfl⟩⟩))
                 go_ret
                 exact ⟨taai,taab⟩
                ·replace c56:=zbi.mpr c56
                 subst c56;have H1:(some false)=some r:=by rw [if_neg (show ¬ (false=true) by decide)] at H;exact H
                 clear H;have H:=H1;clear H1;obtain rfl:=zbe H
                 obtain ⟨Ao61,co61,eo61⟩:=Kd.S_slice HO_15.out
                 subst eo61;go_wp2_with (first | ((with_reducible refine zbh (f:=6) rfl ?_);refine zbn (some 114) rfl rfl Tryz.func6 (by kernel_rfl) rfl #[.slice Ao61 t569.length co61,.slice Ao36 t564.length co36] rfl (taae) ?_;(with_reducible refine (impl_CarryList.calls kj44 _ _ t569 _ _ t564 t580 true _ ?side1 ?side2 ?side3 ?side4 A51.out).mono ?_);(case side1=>repeat (first | exact (Kd.S_reads' HO_15.out).2.2 | (with_reducible refine zal ?_ _) | (with_reducible refine zam ?_ _) | (with_reducible refine zan ?_)));(case side2=>exact (Kd.S_reads' HO_15.out).2.1);(case side3=>repeat (first | exact (zbf HO_14.out).2.2 | (with_reducible refine zal ?_ _) | (with_reducible refine zam ?_ _) | (with_reducible refine zan ?_)));(case side4=>exact (zbf HO_14.out).2.1);rintro e w62 ⟨v582,rfl,ho0,hb⟩;refine ⟨_,rfl,?_⟩;have n0_:=zad (zcb (taat) (zcd ho0) hb);have n1_:=zad (zcb (taau) (zcd ho0) hb);have n2_:=zad (Kd.S_elder' (tabb) (zcd ho0) hb);have n3_:=zad (zbu (zcc (zcc ho0 (zce (taat))) (zce (taau))) (zbk (taab)));have n4_:=zad (zbg (taab) hb);clear HO_13 HO_14 HO_15 HB;have HO_13:=n0_;have HO_14:=n1_;have HO_15:=n2_;have HO583:=n3_;have HB:=n4_;clear n0_ n1_ n2_ n3_ n4_;(try clear hb);(try clear hb2);(try clear hk);(try clear hi);(try clear ho0)) | ((with_reducible refine zbh (f:=14) rfl ?_);refine zbn (some 119) rfl rfl Tryz.func14 (by kernel_rfl) rfl #[.slice Ao61 t569.length co61] rfl (taae) ?_;(with_reducible refine (impl_EqualSum.calls kj44 _ _ t569 t584 false _ ?side1 ?side2 A52.out).mono ?_);(case side1=>repeat (first | exact (Kd.S_reads' HO_15.out).2.2 | (with_reducible refine zal ?_ _) | (with_reducible refine zam ?_ _) | (with_reducible refine zan ?_)));(case side2=>exact (Kd.S_reads' HO_15.out).2.1);rintro e w63 ⟨rfl,hb⟩;refine ⟨_,rfl,?_⟩;have n0_:=zad (zbt (taat) hb);have n1_:=zad (zbt (taau) hb);have n2_:=zad (Kd.S_below (tabb) hb);have n3_:=zad (zbt (tacl) hb);have n4_:=zad (zbg (taab) hb);clear HO_13 HO_14 HO_15 HO583 HB;have HO_13:=n0_;have HO_14:=n1_;have HO_15:=n2_;have HO583:=n3_;have HB:=n4_;clear n0_ n1_ n2_ n3_ n4_;(try clear hb);(try clear hb2);(try clear hk);(try clear hi);obtain ⟨Ao64,co64,eo64⟩:=zbv HO583.out;subst eo64) | (go_at_call 8;(with_reducible refine (laws_ySame.calls kj44 _ _ t580 _ _ t563 true _ ?side1 ?side2 ?side3 ?side4 A54.out).mono ?_);(case side1=>repeat (first | exact (zbf HO583.out).2.2 | (with_reducible refine zal ?_ _) | (with_reducible refine zam ?_ _) | (with_reducible refine zan ?_)));(case side2=>exact (zbf HO583.out).2.1);(case side3=>repeat (first | exact (zbf HO_13.out).2.2 | (with_reducible refine zal ?_ _) | (with_reducible refine zam ?_ _) | (with_reducible refine zan ?_)));(case side4=>exact (zbf HO_13.out).2.1);rintro e w' ⟨rfl,⟨nd,rfl⟩⟩))
                 go_ret
                 exact ⟨taai,taab⟩
               ·replace c55:=zbi.mpr c55
                subst c55;have H1:(some false)=some r:=by rw [if_neg (show ¬ (false=true) by decide)] at H;exact H
                clear H;have H:=H1;clear H1;obtain rfl:=zbe H
                obtain ⟨Ao65,co65,eo65⟩:=Kd.S_slice HO_15.out
                subst eo65;go_wp2_with (first | ((with_reducible refine zbh (f:=6) rfl ?_);refine zbn (some 114) rfl rfl Tryz.func6 (by kernel_rfl) rfl #[.slice Ao65 t569.length co65,.slice Ao36 t564.length co36] rfl (taae) ?_;(with_reducible refine (impl_CarryList.calls kj44 _ _ t569 _ _ t564 t580 true _ ?side1 ?side2 ?side3 ?side4 A51.out).mono ?_);(case side1=>repeat (first | exact (Kd.S_reads' HO_15.out).2.2 | (with_reducible refine zal ?_ _) | (with_reducible refine zam ?_ _) | (with_reducible refine zan ?_)));(case side2=>exact (Kd.S_reads' HO_15.out).2.1);(case side3=>repeat (first | exact (zbf HO_14.out).2.2 | (with_reducible refine zal ?_ _) | (with_reducible refine zam ?_ _) | (with_reducible refine zan ?_)));(case side4=>exact (zbf HO_14.out).2.1);rintro e w66 ⟨v582,rfl,ho0,hb⟩;refine ⟨_,rfl,?_⟩;have n0_:=zad (zcb (taat) (zcd ho0) hb);have n1_:=zad (zcb (taau) (zcd ho0) hb);have n2_:=zad (Kd.S_elder' (tabb) (zcd ho0) hb);have n3_:=zad (zbu (zcc (zcc ho0 (zce (taat))) (zce (taau))) (zbk (taab)));have n4_:=zad (zbg (taab) hb);clear HO_13 HO_14 HO_15 HB;have HO_13:=n0_;have HO_14:=n1_;have HO_15:=n2_;have HO583:=n3_;have HB:=n4_;clear n0_ n1_ n2_ n3_ n4_;(try clear hb);(try clear hb2);(try clear hk);(try clear hi);(try clear ho0)) | ((with_reducible refine zbh (f:=14) rfl ?_);refine zbn (some 119) rfl rfl Tryz.func14 (by kernel_rfl) rfl #[.slice Ao65 t569.length co65] rfl (taae) ?_;(with_reducible refine (impl_EqualSum.calls kj44 _ _ t569 t584 t585 _ ?side1 ?side2 A52.out).mono ?_);(case side1=>repeat (first | exact (Kd.S_reads' HO_15.out).2.2 | (with_reducible refine zal ?_ _) | (with_reducible refine zam ?_ _) | (with_reducible refine zan ?_)));(case side2=>exact (Kd.S_reads' HO_15.out).2.1);rintro e w67 ⟨rfl,hb⟩;refine ⟨_,rfl,?_⟩;have n0_:=zad (zbt (taat) hb);have n1_:=zad (zbt (taau) hb);have n2_:=zad (Kd.S_below (tabb) hb);have n3_:=zad (zbt (tacl) hb);have n4_:=zad (zbg (taab) hb);clear HO_13 HO_14 HO_15 HO583 HB;have HO_13:=n0_;have HO_14:=n1_;have HO_15:=n2_;have HO583:=n3_;have HB:=n4_;clear n0_ n1_ n2_ n3_ n4_;(try clear hb);(try clear hb2);(try clear hk);(try clear hi);obtain ⟨Ao68,co68,eo68⟩:=zbv HO583.out;subst eo68) | (go_at_call 8;(with_reducible refine (laws_ySame.calls kj44 _ _ t580 _ _ t563 false _ ?side1 ?side2 ?side3 ?side4 A54.out).mono ?_);(case side1=>repeat (first | exact (zbf HO583.out).2.2 | (with_reducible refine zal ?_ _) | (with_reducible refine zam ?_ _) | (with_reducible refine zan ?_)));(case side2=>exact (zbf HO583.out).2.1);(case side3=>repeat (first | exact (zbf HO_13.out).2.2 | (with_reducible refine zal ?_ _) | (with_reducible refine zam ?_ _) | (with_reducible refine zan ?_)));(case side4=>exact (zbf HO_13.out).2.1);rintro e w' ⟨rfl,⟨nd,rfl⟩⟩))
                go_ret
                exact ⟨taai,taab⟩
              ·replace c53:=zbi.mpr c53
               subst c53;have H1:(some false)=some r:=by rw [if_neg (show ¬ (false=true) by decide)] at H;exact H
               clear H;have H:=H1;clear H1;obtain rfl:=zbe H
               obtain ⟨Ao69,co69,eo69⟩:=Kd.S_slice HO_15.out
               subst eo69;go_wp2_with (first | ((with_reducible refine zbh (f:=6) rfl ?_);refine zbn (some 114) rfl rfl Tryz.func6 (by kernel_rfl) rfl #[.slice Ao69 t569.length co69,.slice Ao36 t564.length co36] rfl (taae) ?_;(with_reducible refine (impl_CarryList.calls kj44 _ _ t569 _ _ t564 t580 false _ ?side1 ?side2 ?side3 ?side4 A51.out).mono ?_);(case side1=>repeat (first | exact (Kd.S_reads' HO_15.out).2.2 | (with_reducible refine zal ?_ _) | (with_reducible refine zam ?_ _) | (with_reducible refine zan ?_)));(case side2=>exact (Kd.S_reads' HO_15.out).2.1);(case side3=>repeat (first | exact (zbf HO_14.out).2.2 | (with_reducible refine zal ?_ _) | (with_reducible refine zam ?_ _) | (with_reducible refine zan ?_)));(case side4=>exact (zbf HO_14.out).2.1);rintro e w70 ⟨v582,rfl,ho0,hb⟩;refine ⟨_,rfl,?_⟩;have n0_:=zad (zcb (taat) (zcd ho0) hb);have n1_:=zad (zcb (taau) (zcd ho0) hb);have n2_:=zad (Kd.S_elder' (tabb) (zcd ho0) hb);have n3_:=zad (zbu (zcc (zcc ho0 (zce (taat))) (zce (taau))) (zbk (taab)));have n4_:=zad (zbg (taab) hb);clear HO_13 HO_14 HO_15 HB;have HO_13:=n0_;have HO_14:=n1_;have HO_15:=n2_;have HO583:=n3_;have HB:=n4_;clear n0_ n1_ n2_ n3_ n4_;(try clear hb);(try clear hb2);(try clear hk);(try clear hi);(try clear ho0)) | ((with_reducible refine zbh (f:=14) rfl ?_);refine zbn (some 119) rfl rfl Tryz.func14 (by kernel_rfl) rfl #[.slice Ao69 t569.length co69] rfl (taae) ?_;(with_reducible refine (impl_EqualSum.calls kj44 _ _ t569 t584 t585 _ ?side1 ?side2 A52.out).mono ?_);(case side1=>repeat (first | exact (Kd.S_reads' HO_15.out).2.2 | (with_reducible refine zal ?_ _) | (with_reducible refine zam ?_ _) | (with_reducible refine zan ?_)));(case side2=>exact (Kd.S_reads' HO_15.out).2.1);rintro e w71 ⟨rfl,hb⟩;refine ⟨_,rfl,?_⟩;have n0_:=zad (zbt (taat) hb);have n1_:=zad (zbt (taau) hb);have n2_:=zad (Kd.S_below (tabb) hb);have n3_:=zad (zbt (tacl) hb);have n4_:=zad (zbg (taab) hb);clear HO_13 HO_14 HO_15 HO583 HB;have HO_13:=n0_;have HO_14:=n1_;have HO_15:=n2_;have HO583:=n3_;have HB:=n4_;clear n0_ n1_ n2_ n3_ n4_;(try clear hb);(try clear hb2);(try clear hk);(try clear hi)))
               go_ret
               exact ⟨taai,taab⟩
             ·replace c50:=zbi.mpr c50
              subst c50;have H1:(some true)=some r:=by rw [if_neg (show ¬ (false=true) by decide)] at H;exact H
              clear H;have H:=H1;clear H1;obtain rfl:=zbe H
              go_wp2
              go_ret
              exact ⟨taai,taab⟩
def laws_FnCarriedLists.Pure:Prop:=∀ (l0:List Int) (l1:List Int),l0.length≤maxLen→l0.length*1≤140737488351232→(∀ x ∈ l0,(Lit.int .u8 x).wf=true)→l1.length≤maxLen→l1.length*1≤140737488351232→(∀ x ∈ l1,(Lit.int .u8 x).wf=true)→∃ k,laws_FnCarriedLists.f k l0 l1=some true
theorem laws_FnCarriedLists.walk (P:laws_FnCarriedLists.Pure) (a0:Option Addr) (len0 cap0:Nat) (z0:List Int) (a1:Option Addr) (len1 cap1:Nat) (z1:List Int) (w:World) (w0:(a0=none∧len0=0∧cap0=0∧z0=[])∨∃ x,a0=some x∧len0≤cap0∧cap0≤maxLen∧z0.length=cap0∧(∀ i,i<z0.length→w.cell? (x.add i)=some (.int .u8 (z0.getD i 0)))∧∀ n ∈ z0,(Lit.int .u8 n).wf=true) (y0:len0*1≤140737488351232) (w1:(a1=none∧len1=0∧cap1=0∧z1=[])∨∃ x,a1=some x∧len1≤cap1∧cap1≤maxLen∧z1.length=cap1∧(∀ i,i<z1.length→w.cell? (x.add i)=some (.int .u8 (z1.getD i 0)))∧∀ n ∈ z1,(Lit.int .u8 n).wf=true) (y1:len1*1≤140737488351232) :
 Calls Tryz.prog 3 #[.slice a0 len0 cap0,.slice a1 len1 cap1] w fun e w'=>e = .returned (.bool true)∧Below w.heap.size w w':=by
 obtain ⟨l0,rfl,hr0,hm0,hw0,hc0⟩:=ReadsInt.ofRowC w0
 obtain ⟨l1,rfl,hr1,hm1,hw1,hc1⟩:=ReadsInt.ofRowC w1
 obtain ⟨k,h⟩:=P l0 l1 hm0 y0 hw0 hm1 y1 hw1
 refine (laws_FnCarriedLists.calls k _ _ l0 _ _ l1 true w (Kd.C_of_reads (d:=(0:Int)) (h1:=fun _=>rfl) hr0) hc0 (Kd.C_of_reads (d:=(0:Int)) (h1:=fun _=>rfl) hr1) hc1 h).mono ?_
 rintro e w' ⟨rfl,hd⟩
 exact ⟨rfl,hd⟩
theorem foldl_add:∀ (l:List Int) (s:Int),l.foldl (fun s x=>s+x) s=s+l.sum
 | [],s=>by simp
 | x :: l,s=>by
  rw [List.foldl_cons,foldl_add l,List.sum_cons]
  omega

def totSS (l:List (List Int)):Nat:=(l.map List.length).sum
theorem rd_L1n {xs:List (List Int)} {i:Nat} (h:i<xs.length):rd_L2 xs (i:Int)=xs[i]:=by
 unfold rd_L2
 rw [Int.toNat_natCast,List.getD_eq_getElem?_getD,List.getElem?_eq_getElem h]
 rfl
theorem len_tot {l:List (List Int)} {x:List Int} (h:x ∈ l):x.length≤totSS l:=by
 induction l with
 | nil=>simp at h
 | cons y l ih =>
  simp only [totSS,zau,List.sum_cons] at *
  rcases List.mem_cons.1 h with rfl | h
  ·omega
  ·have:=ih h
   omega
end Go.Proofs.YtmfpgimblifleaaGreat.A
