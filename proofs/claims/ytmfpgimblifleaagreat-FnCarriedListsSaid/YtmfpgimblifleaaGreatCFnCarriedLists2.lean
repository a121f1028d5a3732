/- What the law FnCarriedLists reaches, part 2: Lean functions with the same answers as the Go functions, the proofs that the Go code comes to these answers, and lemmas about them; no condition beyond those that each theorem names. -/
import Derived.Test.YtmfpgimblifleaaGreatCFnCarriedListsw1
import Derived.Deep.RegionHeld3
import Derived.Test.YtmfpgimblifleaaGreatCFnCarriedLists1
set_option linter.unusedVariables false
set_option linter.unusedSimpArgs false
set_option maxHeartbeats 8000000
set_option maxRecDepth 100000
namespace Go.Proofs.YtmfpgimblifleaaGreat.A
open Go.RowKit Go.Proofs.YtmfpgimblifleaaGreatW.PrintWords Go.Proofs.YtmfpgimblifleaaGreatW.PrintLast Go.Proofs.YtmfpgimblifleaaGreatW.PrintMore
attribute [local go_sem] max2_int min2_int max_two min_two max_three min_three max_four min_four
mutual
def spec_l1Cur_placing.l0:Nat→Int→List Int→Int→List Int→Int→Int→Option (List Int × Int × Int)
 | 0,_,_,_,_,_,_=>none
 | k+1,x1,x5,x6,x1000,x1001,x1002=>if x6<x1 then ((spec_l1Cur_pick.f x1000 x1001 x1002 (wrap64 (x6+1))).bind fun bt261=>((some (([]:List Int):List Int)).bind fun y264=>(if 0≤bt261.1 then (if bt261.1≤(x5.length:Int) then ((some (x5.take (bt261.1:Int).toNat:List Int)).bind fun y267=>(if y264.length+y267.length<17592186044416 then ((some (y264 ++ y267:List Int)).bind fun y271=>(if y271.length<17592186044416 then ((some (y271 ++ [x6]:List Int)).bind fun y274=>((some (x5.drop (bt261.1:Int).toNat:List Int)).bind fun y277=>(if y274.length+y277.length<17592186044416 then (spec_l1Cur_placing.l0 k x1 (y274 ++ y277) (wrap64 (x6+1)) x1000 bt261.2.1 bt261.2.2) else (none)))) else (none))) else (none))) else (none)) else (none)))) else (if (x5.length:Int)>0 then ((spec_l1Cur_one.f x1000 x1001 x1002 25).bind fun bt284=>(spec_l1Cur_placing.j1 k x1 x5 bt284.1 x1000 bt284.2.1 bt284.2.2)) else (spec_l1Cur_placing.j1 k x1 x5 false x1000 x1001 x1002))
def spec_l1Cur_placing.j1:Nat→Int→List Int→Bool→List Int→Int→Int→Option (List Int × Int × Int)
 | 0,_,_,_,_,_,_=>none
 | k+1,x1,x5,x38,x1000,x1001,x1002=>if x38=true then ((spec_l1Cur_pick.f x1000 x1001 x1002 (x5.length:Int)).bind fun bt287=>((spec_l1Cur_among.f x1000 bt287.2.1 bt287.2.2 (([(-1),0,x1,4611686018427387904]:List Int))).bind fun bt293=>(if 0≤bt287.1 then (if bt287.1<(x5.length:Int) then (some ((x5.set (bt287.1:Int).toNat bt293.1),bt293.2.1,bt293.2.2)) else (none)) else (none)))) else (some (x5,x1001,x1002))
end
def spec_l1Cur_placing.f (k:Nat) (s0_0:List Int) (s0_1:Int) (s0_2:Int) (a1:Int):Option (List Int × Int × Int):=spec_l1Cur_placing.l0 k a1 ([]:List Int) 0 s0_0 s0_1 s0_2
theorem spec_l1Cur_placing.calls (k:Nat) (g:Nat) (s0_0:List Int) (s0_1:Int) (s0_2:Int) (a1:Int) (r1:List Int) (r2:Int) (r3:Int) (w0 w:World) (hI:IsS43 w0 w g s0_0 s0_1 s0_2) (hB:Below w0.heap.size w0 w) (h:spec_l1Cur_placing.f k s0_0 s0_1 s0_2 a1=some (r1,r2,r3)) :
 Calls Tryz.prog 74 #[.pointer (some ⟨g,0,none⟩),.int .i64 a1] w fun e w'=>∃ v0_:Value,e = .returned (v0_)∧Kd.R (Kd.int .i64) 3 w' w.heap.size (fun _=>True) v0_ r1∧IsS43 w0 w' g s0_0 r2 r3∧Below w0.heap.size w0 w'∧KeepBut w w' g none:=by
 have HI0:=zad hI;have HK:=zad (KeepBut.refl w g none)
 have HL:=zad hB.size;clear hI;have HW0:=zad hB.size;have HB:=zad hB;clear hB;have H:(spec_l1Cur_placing.l0 k a1 ([]:List Int) 0 s0_0 s0_1 s0_2)=some (r1,r2,r3):=h
 clear h;have H':=zad H
 clear H;go_enter Tryz.func74,Tryz.ntmps74
 go_wp2
 go_loopg [5,6] k (fun kq v5 v6 w'=>∃ (x5_1:List Int) (x6_1:Int) (x1001_1:Int) (x1002_1:Int),v6 = .int .i64 x6_1∧Aside0 (spec_l1Cur_placing.l0 kq a1 x5_1 x6_1 s0_0 x1001_1 x1002_1=some (r1,r2,r3))∧Aside0 (kq≤k)∧Aside0 (Kd.R (Kd.int .i64) 3 w' w.heap.size (fun _=>True) v5 x5_1)∧Aside0 (IsS43 w0 w' g s0_0 x1001_1 x1002_1)∧Aside0 (KeepBut w w' g none)∧Aside0 (Below w0.heap.size w0 w'))
 case atStart=>exact ⟨(([]:List Int)),(0),(s0_1),(s0_2),(taad),H',⟨zcf _⟩,⟨taax⟩,⟨taag⟩,⟨taaf⟩,⟨taaj⟩⟩
 case round =>
  clear H'
  try clear p2
  obtain ⟨x5_1,x6_1,x1001_1,x1002_1,rfl,HA,HK1,HO_5,HI0,HK,HB⟩:=hrel
  cases gk with
  | zero=>exact absurd HA.out (by simp [spec_l1Cur_placing.l0])
  | succ k1 =>
   have H:=HA.out
   clear HA;simp only [spec_l1Cur_placing.l0] at H
   by_cases c3:x6_1<a1
   ·rw [if_pos c3] at H
    have c3b0:decide (x6_1<a1)=true:=zba c3
    clear c3;replace H:=zay.mp H;obtain ⟨⟨t261,t262,t263⟩,A40,H⟩:=H
    replace H:((some (([]:List Int):List Int)).bind fun y264=>(if 0≤t261 then (if t261≤(x5_1.length:Int) then ((some (x5_1.take (t261:Int).toNat:List Int)).bind fun y267=>(if y264.length+y267.length<17592186044416 then ((some (y264 ++ y267:List Int)).bind fun y271=>(if y271.length<17592186044416 then ((some (y271 ++ [x6_1]:List Int)).bind fun y274=>((some (x5_1.drop (t261:Int).toNat:List Int)).bind fun y277=>(if y274.length+y277.length<17592186044416 then (spec_l1Cur_placing.l0 k1 a1 (y274 ++ y277) (wrap64 (x6_1+1)) s0_0 t262 t263) else (none)))) else (none))) else (none))) else (none)) else (none)))=some (r1,r2,r3):=H
    have A4:=zad A40;clear A40;obtain ⟨y264,hy264⟩:∃ y_:List Int,y_=(([]:List Int)):=⟨_,rfl⟩
    replace H:(if 0≤t261 then (if t261≤(x5_1.length:Int) then ((some (x5_1.take (t261:Int).toNat:List Int)).bind fun y267=>(if y264.length+y267.length<17592186044416 then ((some (y264 ++ y267:List Int)).bind fun y271=>(if y271.length<17592186044416 then ((some (y271 ++ [x6_1]:List Int)).bind fun y274=>((some (x5_1.drop (t261:Int).toNat:List Int)).bind fun y277=>(if y274.length+y277.length<17592186044416 then (spec_l1Cur_placing.l0 k1 a1 (y274 ++ y277) (wrap64 (x6_1+1)) s0_0 t262 t263) else (none)))) else (none))) else (none))) else (none)) else (none))=some (r1,r2,r3):=by first | (rw [hy264];with_reducible exact H) | (have H2_:=(zbd _ _).symm.trans H;rw [hy264];with_reducible exact H2_) | (have H2_:=(zbd _ _).symm.trans H;with_reducible exact H2_) | with_reducible exact H | (rw [hy264];exact H) | exact H
    have Ny264:=zad hy264;clear hy264;by_cases c5:0≤t261
    ·rw [if_pos c5] at H
     have c5b0:=eq_true c5;have c5b1:decide (0≤t261)=true:=zba c5
     clear c5;by_cases c6:t261≤(x5_1.length:Int)
     ·rw [if_pos c6] at H
      have c6b0:=eq_true c6;have c6b1:decide (t261≤(x5_1.length:Int))=true:=zba c6
      clear c6;obtain ⟨y267,hy267⟩:∃ y_:List Int,y_=(x5_1.take (t261:Int).toNat):=⟨_,rfl⟩
      replace H:(if y264.length+y267.length<17592186044416 then ((some (y264 ++ y267:List Int)).bind fun y271=>(if y271.length<17592186044416 then ((some (y271 ++ [x6_1]:List Int)).bind fun y274=>((some (x5_1.drop (t261:Int).toNat:List Int)).bind fun y277=>(if y274.length+y277.length<17592186044416 then (spec_l1Cur_placing.l0 k1 a1 (y274 ++ y277) (wrap64 (x6_1+1)) s0_0 t262 t263) else (none)))) else (none))) else (none))=some (r1,r2,r3):=by first | (rw [hy267];with_reducible exact H) | (have H2_:=(zbd _ _).symm.trans H;rw [hy267];with_reducible exact H2_) | (have H2_:=(zbd _ _).symm.trans H;with_reducible exact H2_) | with_reducible exact H | (rw [hy267];exact H) | exact H
      have Ny267:=zad hy267;clear hy267;by_cases c7:y264.length+y267.length<17592186044416
      ·rw [if_pos c7] at H
       have LMc7:=zad c7;clear c7;obtain ⟨y271,hy271⟩:∃ y_:List Int,y_=(y264 ++ y267):=⟨_,rfl⟩
       replace H:(if y271.length<17592186044416 then ((some (y271 ++ [x6_1]:List Int)).bind fun y274=>((some (x5_1.drop (t261:Int).toNat:List Int)).bind fun y277=>(if y274.length+y277.length<17592186044416 then (spec_l1Cur_placing.l0 k1 a1 (y274 ++ y277) (wrap64 (x6_1+1)) s0_0 t262 t263) else (none)))) else (none))=some (r1,r2,r3):=by first | (rw [hy271];with_reducible exact H) | (have H2_:=(zbd _ _).symm.trans H;rw [hy271];with_reducible exact H2_) | (have H2_:=(zbd _ _).symm.trans H;with_reducible exact H2_) | with_reducible exact H | (rw [hy271];exact H) | exact H
       have Ny271:=zad hy271;clear hy271;by_cases c8:y271.length<17592186044416
       ·rw [if_pos c8] at H
        have LMc8:=zad c8;clear c8;obtain ⟨y274,hy274⟩:∃ y_:List Int,y_=(y271 ++ [x6_1]):=⟨_,rfl⟩
        replace H:((some (x5_1.drop (t261:Int).toNat:List Int)).bind fun y277=>(if y274.length+y277.length<17592186044416 then (spec_l1Cur_placing.l0 k1 a1 (y274 ++ y277) (wrap64 (x6_1+1)) s0_0 t262 t263) else (none)))=some (r1,r2,r3):=by first | (rw [hy274];with_reducible exact H) | (have H2_:=(zbd _ _).symm.trans H;rw [hy274];with_reducible exact H2_) | (have H2_:=(zbd _ _).symm.trans H;with_reducible exact H2_) | with_reducible exact H | (rw [hy274];exact H) | exact H
        have Ny274:=zad hy274;clear hy274;have c9b0:=eq_true (zas (taaa):0≤t261)
        have c10b0:=eq_true (zas (taaa):t261≤(x5_1.length:Int))
        obtain ⟨y277,hy277⟩:∃ y_:List Int,y_=(x5_1.drop (t261:Int).toNat):=⟨_,rfl⟩
        replace H:(if y274.length+y277.length<17592186044416 then (spec_l1Cur_placing.l0 k1 a1 (y274 ++ y277) (wrap64 (x6_1+1)) s0_0 t262 t263) else (none))=some (r1,r2,r3):=by first | (rw [hy277];with_reducible exact H) | (have H2_:=(zbd _ _).symm.trans H;rw [hy277];with_reducible exact H2_) | (have H2_:=(zbd _ _).symm.trans H;with_reducible exact H2_) | with_reducible exact H | (rw [hy277];exact H) | exact H
        have Ny277:=zad hy277;clear hy277;by_cases c11:y274.length+y277.length<17592186044416
        ·rw [if_pos c11] at H
         have LMc11:=zad c11;clear c11;obtain ⟨y281,hy281⟩:∃ y_:List Int,y_=(y274 ++ y277):=⟨_,rfl⟩
         replace H:(spec_l1Cur_placing.l0 k1 a1 y281 (wrap64 (x6_1+1)) s0_0 t262 t263)=some (r1,r2,r3):=by first | (rw [hy281];with_reducible exact H) | (have H2_:=(zbd _ _).symm.trans H;rw [hy281];with_reducible exact H2_) | (have H2_:=(zbd _ _).symm.trans H;with_reducible exact H2_) | with_reducible exact H | (rw [hy281];exact H) | exact H
         have Ny281:=zad hy281;clear hy281;have H':=zad H
         clear H;go_wp2_with (first | ((with_reducible refine zbh (f:=18) rfl ?_);refine zbn (some 17) rfl rfl Tryz.func18 (by kernel_rfl) rfl #[.pointer (some ⟨g,0,none⟩),.int .i64 (wrap64 (x6_1+1))] rfl (taae) ?_;(with_reducible refine (zcn g s0_0 x1001_1 x1002_1 (wrap64 (x6_1+1)) t261 t262 t263 w0 _ ?side1 ?side2 A4.out).mono ?_);(case side1=>exact tafj);(case side2=>exact tafk);rintro e w12 ⟨rfl,hi,hb,hk⟩;refine ⟨_,rfl,?_⟩;have n0_:=zad (zbq (zbr (zcj (show IsS43 w0 _ g s0_0 x1001_1 x1002_1 from by exact tafh) (taam) (by decide)) hk (fun _ h=>h.2)) (fun _ h=>h.1));have n1_:=zad (zbs (taaf) hk (.inl rfl));have n2_:=zad (hb);have n3_:=zad (hi);clear HO_5 HK HB HI0;have HO_5:=n0_;have HK:=n1_;have HB:=n2_;have HI0:=n3_;clear n0_ n1_ n2_ n3_;(try clear hb);(try clear hb2);(try clear hk);(try clear hi)) | ((with_reducible refine gate_dst (N:=18) rfl ?_);refine Kd.R_lit (Kd.int .i64) _ 3 ?hg (N:=18) ?hd (xs:=([]:List Int)) (inner:=[]) (ok:=fun _=>True) (okp:=fun _=>True) ?hr ?hp (fun _ hk=>hk) trivial (Below.refl _ _) (zcf _) (taac) ?_;(case hd=>rfl);(case hg=>rfl);(case hr=>first | (go_simp;done) | (go_simp;rfl));(case hp=>exact (Reps.none _ _));intro v265 w13 ho14 hb hg_ hnew_;clear hg_ hnew_;(first | rw [← Ny264.out] at ho14 | (simp only [Int.reduceToNat] at ho14;rw [← Ny264.out] at ho14));have n0_:=zad (zcb (taam) (zcd ho14) hb);have n1_:=zad (zbu (zcc ho14 (zce (taam))) (keep_size (w:=w) (g:=g) (row:=none) (taaf)));have n2_:=zad (IsS43.below (taag) hb);have n3_:=zad (zbs (taaf) (KeepBut.of_below hb g none) (.inl rfl));have n4_:=zad (zbg (taaj) hb);clear HO_5 HI0 HK HB;have HO_5:=n0_;have HO266:=n1_;have HI0:=n2_;have HK:=n3_;have HB:=n4_;clear n0_ n1_ n2_ n3_ n4_ hb ho14;obtain ⟨Ao16,co16,eo16⟩:=zbv HO_5.out;subst eo16;have q15:(t261:Int)≤((x5_1.length:Int):Int):=zas (taaa);obtain ⟨i015,hi015,_,hsz15,_⟩:=info_parts info3;have hroom15:x5_1.length≤co16:=(zbf HO_5.out).2.1;have hC15:Kd.C (Kd.int .i64) _ Ao16 x5_1.length x5_1:=(zbf HO_5.out).2.2;have hcut15:=cut_to (P:=Tryz.prog) 25 3 .i64 Tryz.underlying25 hi015 Ao16 x5_1.length co16 t261 (zas (taaa)) q15 hroom15;have hr15:=Kd.C_take (m:=(t261:Int).toNat) hC15 (by omega);have hy15:y267.length=(t261:Int).toNat:=(by rw [Ny267.out,zax];omega);rw [← Ny267.out] at hr15;rw [← hy15] at hcut15;have HR270:=zad hr15;have HC270:=zad (show y267.length≤co16 from by omega);clear hr15 hC15 hroom15 hi015 hsz15;have KY15:=zad hy15;clear hy15;have KL15:=zad (show (t261:Int).toNat≤x5_1.length from by omega);replace q15:=eq_true q15) | ((with_reducible refine gate_builtin (b := .append) (xs:=#[.tmp 18,.tmp 21]) rfl ?_);at_builtin;refine Kd.R_append_rows (Kd.int .i64) w.heap.size rfl (.tmp 18) (.tmp 21) 25 3 (.int .i64 0) 8 rfl Tryz.underlying25 info3 rfl (by decide) (by omega) v265 y264 y267 _ _ _ (fun k_=>some k_≠(.slice Ao16 x5_1.length co16:Value).ownBlock) (fun _=>False) rfl rfl ?aO ?aR (fun _ _ h=>h) (fun _ h=>h.elim) ?aF (Below.refl _ _) ?aS ?aL ?_;(case aR=>repeat (first | exact (by repeat (first | (with_reducible exact HR270.out) | (with_reducible refine zal ?_ _) | (with_reducible refine zam ?_ _) | (with_reducible refine zan ?_) | exact HR270.out)) | (with_reducible refine zal ?_ _) | (with_reducible refine zam ?_ _) | (with_reducible refine zan ?_)));(case aF=>exact (fun k_ hk=>Kd.fresh' (zce (taam)) k_ hk));(case aO=>exact (by (with_reducible repeat (first | apply zai | apply zaj | apply zak));exact zbq HO266.out (fun _ hk=>hk.2)));(case aS=>exact (keep_size (w:=w) (g:=g) (row:=none) (taaf)));(case aL=>have:=LMc7.out;omega);intro v272 w17 ho hb hg hat;rw [← Ny271.out] at ho;have n0_:=zad (Kd.R_after (ok:=(fun _=>True)) (taam) hg hat);have n1_:=zad (IsS43.grown (taag) hg (IsS43.own_ne HI0.out HO266.out (by decide)));have n2_:=zad (below_weaken (taaj) HL.out hb);have n3_:=zad (zbs (taaf) (KeepBut.of_grown hg g) (Kd.R_base2 HO266.out));have n4_:=zad ((show Kd.C (Kd.int .i64) w17 Ao16 y267.length y267 from by exact tafb));have n5_:=zad (ho);clear HO_5 HI0 HB HK HR270 HO266;have HO_5:=n0_;have HI0:=n1_;have HB:=n2_;have HK:=n3_;have HR270:=n4_;have HO273:=n5_;clear n0_ n1_ n2_ n3_ n4_ n5_ ho hb hg hat) | ((with_reducible refine gate_builtin (b := .append) (xs:=#[.tmp 23,.tmp 25]) rfl ?_);at_builtin;refine Kd.R_append (Kd.int .i64) w.heap.size rfl (.tmp 23) (.tmp 25) 25 3 (.int .i64 0) 8 rfl Tryz.underlying25 info3 rfl (by decide) (by omega) v272 y271 x6_1 [.int .i64 x6_1] (fun k_=>some k_≠(.slice Ao16 x5_1.length co16:Value).ownBlock) (fun _=>False) rfl rfl ?aP (fun _ hk=>hk.elim) ?aF ?aO (Below.refl _ _) ?aS ?aL ?_;(case aP=>exact rfl);(case aF=>exact (fun k_ hk=>Kd.fresh' (zce (taam)) k_ hk));(case aO=>exact (by (with_reducible repeat (first | apply zai | apply zaj | apply zak));exact HO273.out));(case aS=>exact (keep_size (w:=w) (g:=g) (row:=none) (taaf)));(case aL=>have:=LMc8.out;omega);intro v275 w18 ho hb hg hat;rw [← Ny274.out] at ho;have n0_:=zad (Kd.R_after (ok:=(fun _=>True)) (taam) hg hat);have n1_:=zad (IsS43.grown (taag) hg (IsS43.own_ne HI0.out HO273.out (by decide)));have n2_:=zad (below_weaken (taaj) HL.out hb);have n3_:=zad (zbs (taaf) (KeepBut.of_grown hg g) (Kd.R_base2 HO273.out));have n4_:=zad ((show Kd.C (Kd.int .i64) w18 Ao16 y267.length y267 from by exact tafb));have n5_:=zad (ho);clear HO_5 HI0 HB HK HR270 HO273;have HO_5:=n0_;have HI0:=n1_;have HB:=n2_;have HK:=n3_;have HR270:=n4_;have HO276:=n5_;clear n0_ n1_ n2_ n3_ n4_ n5_ ho hb hg hat;have q19:(t261:Int)≤((x5_1.length:Int):Int):=zas (taaa);obtain ⟨i019,hi019,_,hsz19,_⟩:=info_parts info3;have hroom19:x5_1.length≤co16:=(zbf HO_5.out).2.1;have hC19:Kd.C (Kd.int .i64) _ Ao16 x5_1.length x5_1:=(zbf HO_5.out).2.2;have q019:(0:Int)≤(t261:Int):=zas (taaa);have hcut19:=cut_from (P:=Tryz.prog) 25 3 .i64 Tryz.underlying25 hi019 1 hsz19 Ao16 x5_1.length co16 t261 q019 q19;have hr19:=Kd.C_drop (m:=(t261:Int).toNat) (c:=co16) hC19 (by omega) hroom19;obtain ⟨A19,hA19⟩:∃ A1,A1=(if co16=(t261:Int).toNat then Ao16 else (Ao16:Option Addr).map (·.add ((t261:Int).toNat*1))):=⟨_,rfl⟩;obtain ⟨c19,hc19⟩:∃ c1,c1=co16 - (t261:Int).toNat:=⟨_,rfl⟩;have hy19:y277.length=x5_1.length - (t261:Int).toNat:=(by rw [Ny277.out,zaw] <;> omega);rw [show (x5_1).drop (t261:Int).toNat=y277 from Ny277.out.symm] at hr19;replace hr19:Kd.C (Kd.int .i64) _ A19 y277.length y277:=(by rw [hA19];exact hr19);rw [← hy19,← hA19,← hc19] at hcut19;have HR280:=zad hr19;have HC280:=zad (show y277.length≤c19 from by rw [hy19,hc19];exact Nat.sub_le_sub_right hroom19 _);clear hr19 hC19 hroom19 hi019 hsz19 hc19;have KY19:=zad hy19;have KA19:=zad hA19;clear hy19 hA19;have KL19:=zad (show (t261:Int).toNat≤x5_1.length from by omega);replace q19:=eq_true q19) | ((with_reducible refine gate_builtin (b := .append) (xs:=#[.tmp 27,.tmp 30]) rfl ?_);at_builtin;refine Kd.R_append_rows (Kd.int .i64) w.heap.size rfl (.tmp 27) (.tmp 30) 25 3 (.int .i64 0) 8 rfl Tryz.underlying25 info3 rfl (by decide) (by omega) v275 y274 y277 _ _ _ (fun k_=>some k_≠(.slice Ao16 x5_1.length co16:Value).ownBlock) (fun _=>False) rfl rfl ?aO ?aR (fun _ _ h=>h) (fun _ h=>h.elim) ?aF (Below.refl _ _) ?aS ?aL ?_;(case aR=>repeat (first | exact (by repeat (first | (with_reducible exact HR280.out) | (with_reducible refine zal ?_ _) | (with_reducible refine zam ?_ _) | (with_reducible refine zan ?_) | exact HR280.out)) | (with_reducible refine zal ?_ _) | (with_reducible refine zam ?_ _) | (with_reducible refine zan ?_)));(case aF=>exact (fun k_ hk=>Kd.fresh' (zce (taam)) k_ hk));(case aO=>exact (by (with_reducible repeat (first | apply zai | apply zaj | apply zak));exact HO276.out));(case aS=>exact (keep_size (w:=w) (g:=g) (row:=none) (taaf)));(case aL=>have:=LMc11.out;omega);intro v282 w20 ho hb hg hat;rw [← Ny281.out] at ho;have n0_:=zad (Kd.R_after (ok:=(fun _=>True)) (taam) hg hat);have n1_:=zad (IsS43.grown (taag) hg (IsS43.own_ne HI0.out HO276.out (by decide)));have n2_:=zad (below_weaken (taaj) HL.out hb);have n3_:=zad (zbs (taaf) (KeepBut.of_grown hg g) (Kd.R_base2 HO276.out));have n4_:=zad ((show Kd.C (Kd.int .i64) w20 Ao16 y267.length y267 from by exact tafb));have n5_:=zad ((show Kd.C (Kd.int .i64) w20 A19 y277.length y277 from by rw [Ny277.out,KA19.out];exact Kd.C_drop (m:=(t261:Int).toNat) (c:=co16) ((zbf (Kd.R_after (ok:=(fun _=>True)) (taam) hg hat)).2.2) KL19.out ((zbf (Kd.R_after (ok:=(fun _=>True)) (taam) hg hat)).2.1)));have n6_:=zad (ho);clear HO_5 HI0 HB HK HR270 HR280 HO276;have HO_5:=n0_;have HI0:=n1_;have HB:=n2_;have HK:=n3_;have HR270:=n4_;have HR280:=n5_;have HO283:=n6_;clear n0_ n1_ n2_ n3_ n4_ n5_ n6_ ho hb hg hat))
         go_roundg k1
         case measure=>have:=HK1.out;omega
         case rel=>exact ⟨(y281),(wrap64 (x6_1+1)),(t262),(t263),(taad),H',⟨taaq⟩,⟨by (with_reducible repeat (first | apply zai | apply zaj | apply zak));exact zbq HO283.out (fun _ hk=>trivial)⟩,⟨taag⟩,⟨taaf⟩,⟨taaj⟩⟩
        ·rw [if_neg c11] at H
         exact absurd H (taac)
       ·rw [if_neg c8] at H
        exact absurd H (taac)
      ·rw [if_neg c7] at H
       exact absurd H (taac)
     ·rw [if_neg c6] at H
      exact absurd H (taac)
    ·rw [if_neg c5] at H
     exact absurd H (taac)
   ·rw [if_neg c3] at H
    have c3b0:decide (x6_1<a1)=false:=zbj c3
    clear c3;have HC21:=zad H;clear H;go_upto_region 9 with (fail)
    go_cut [38] (fun v38 wc=>∃ (kq:Nat) (x38_20:Bool) (x1001_20:Int) (x1002_20:Int),v38 = .bool x38_20∧Aside0 (spec_l1Cur_placing.j1 kq a1 x5_1 x38_20 s0_0 x1001_20 x1002_20=some (r1,r2,r3))∧Aside0 (kq≤k1)∧Aside0 (Kd.R (Kd.int .i64) 3 wc w.heap.size (fun _=>True) u5 x5_1)∧Aside0 (IsS43 w0 wc g s0_0 x1001_20 x1002_20)∧Aside0 (KeepBut w wc g none)∧Aside0 (Below w0.heap.size w0 wc))
    case first =>
     have H:=HC21.out
     clear HC21;by_cases c22:(x5_1.length:Int)>0
     ·rw [if_pos c22] at H
      have c22b0:decide (0<(x5_1.length:Int))=true:=zba c22
      have c22b1:decide (0<x5_1.length)=true:=zba (by omega)
      clear c22;(first | rw [c22b0] | (simp only [zbw,zbx];rw [c22b0]) | skip)
      replace H:=zay.mp H;obtain ⟨⟨t284,t285,t286⟩,A230,H⟩:=H
      replace H:(spec_l1Cur_placing.j1 k1 a1 x5_1 t284 s0_0 t285 t286)=some (r1,r2,r3):=H
      have A23:=zad A230;clear A230;have H':=zad H
      clear H;obtain ⟨Ao24,co24,eo24⟩:=zbv HO_5.out
      subst eo24;go_wp2_with (first | (go_at_call 16;(with_reducible refine (spec_l1Cur_one.calls g s0_0 x1001_1 x1002_1 25 t284 t285 t286 w0 _ ?side1 ?side2 A23.out).mono ?_);(case side1=>exact tafj);(case side2=>exact tafk);rintro e w25 ⟨rfl,hi,hb,hk⟩;have n0_:=zad (zbq (zbr (zcj (show IsS43 w0 _ g s0_0 x1001_1 x1002_1 from by exact tafh) (taam) (by decide)) hk (fun _ h=>h.2)) (fun _ h=>h.1));have n1_:=zad (zbs (taaf) hk (.inl rfl));have n2_:=zad (hb);have n3_:=zad (hi);clear HO_5 HK HB HI0;have HO_5:=n0_;have HK:=n1_;have HB:=n2_;have HI0:=n3_;clear n0_ n1_ n2_ n3_;(try clear hb);(try clear hb2);(try clear hk);(try clear hi)))
      go_meet
      case rel=>exact ⟨_,(t284),(t285),(t286),(taad),H',⟨tabw⟩,⟨taam⟩,⟨taag⟩,⟨taaf⟩,⟨taaj⟩⟩
     ·rw [if_neg c22] at H
      have c22b0:decide (0<(x5_1.length:Int))=false:=zbj c22
      have c22b1:decide (0<x5_1.length)=false:=zbj (by omega)
      clear c22;(first | rw [c22b0] | (simp only [zbw,zbx];rw [c22b0]) | skip)
      have H':=zad H
      clear H;obtain ⟨Ao26,co26,eo26⟩:=zbv HO_5.out
      subst eo26;go_wp2
      go_meet
      case rel=>exact ⟨_,(false),(x1001_1),(x1002_1),(taad),H',⟨tabw⟩,⟨taam⟩,⟨taag⟩,⟨taaf⟩,⟨taaj⟩⟩
    case rest =>
     clear HC21;try clear c1
     try clear q1
     try clear c2
     try clear p2
     try clear c3
     try clear c3b0
     try clear c5
     try clear c5b0
     try clear c5b1
     try clear c6
     try clear c6b0
     try clear c6b1
     try clear p6
     try clear c7
     try clear c8
     try clear c9
     try clear c9b0
     try clear c10
     try clear c10b0
     try clear c11
     try clear q15
     try clear c18
     try clear c19
     try clear q19
     try clear c22
     try clear c22b0
     try clear c22b1
     try clear p2
     try clear q019
     try clear q15
     try clear q19
     obtain ⟨kq,x38_20,x1001_20,x1002_20,rfl,HA,HJ20,HO_5,HI0,HK,HB⟩:=hcut
     cases kq with
     | zero=>exact absurd HA.out (by simp [spec_l1Cur_placing.j1])
     | succ kj20 =>
      have H:=HA.out
      clear HA;simp only [spec_l1Cur_placing.j1] at H
      by_cases c27:x38_20=true
      ·subst c27
       have H1:((spec_l1Cur_pick.f s0_0 x1001_20 x1002_20 (x5_1.length:Int)).bind fun bt287=>((spec_l1Cur_among.f s0_0 bt287.2.1 bt287.2.2 (([(-1),0,a1,4611686018427387904]:List Int))).bind fun bt293=>(if 0≤bt287.1 then (if bt287.1<(x5_1.length:Int) then (some ((x5_1.set (bt287.1:Int).toNat bt293.1),bt293.2.1,bt293.2.2)) else (none)) else (none))))=some (r1,r2,r3):=by rw [if_pos rfl] at H;exact H
       clear H;have H:=H1;clear H1;replace H:=zay.mp H;obtain ⟨⟨t287,t288,t289⟩,A280,H⟩:=H
       replace H:((spec_l1Cur_among.f s0_0 t288 t289 (([(-1),0,a1,4611686018427387904]:List Int))).bind fun bt293=>(if 0≤t287 then (if t287<(x5_1.length:Int) then (some ((x5_1.set (t287:Int).toNat bt293.1),bt293.2.1,bt293.2.2)) else (none)) else (none)))=some (r1,r2,r3):=H
       have A28:=zad A280;clear A280;obtain ⟨y290,hy290⟩:∃ y_:List Int,y_=(([(-1),0,a1,4611686018427387904]:List Int)):=⟨_,rfl⟩
       replace H:((spec_l1Cur_among.f s0_0 t288 t289 y290).bind fun bt293=>(if 0≤t287 then (if t287<(x5_1.length:Int) then (some ((x5_1.set (t287:Int).toNat bt293.1),bt293.2.1,bt293.2.2)) else (none)) else (none)))=some (r1,r2,r3):=by first | (rw [hy290];with_reducible exact H) | (have H2_:=(zbd _ _).symm.trans H;rw [hy290];with_reducible exact H2_) | (have H2_:=(zbd _ _).symm.trans H;with_reducible exact H2_) | with_reducible exact H | (rw [hy290];exact H) | exact H
       have Ny290:=zad hy290;clear hy290;replace H:=zay.mp H;obtain ⟨⟨t293,t294,t295⟩,A290,H⟩:=H
       replace H:(if 0≤t287 then (if t287<(x5_1.length:Int) then (some ((x5_1.set (t287:Int).toNat t293),t294,t295)) else (none)) else (none))=some (r1,r2,r3):=H
       have A29:=zad A290;clear A290;by_cases c30:0≤t287
       ·rw [if_pos c30] at H
        have c30b0:decide (0≤t287)=true:=zba c30
        clear c30;by_cases c31:t287<(x5_1.length:Int)
        ·rw [if_pos c31] at H
         have c31b0:decide (t287<(x5_1.length:Int))=true:=zba c31
         clear c31;obtain ⟨y296,hy296⟩:∃ y_:List Int,y_=(x5_1.set (t287:Int).toNat t293):=⟨_,rfl⟩
         replace H:(some (y296,t294,t295))=some (r1,r2,r3):=by first | (rw [hy296];with_reducible exact H) | (have H2_:=(zbd _ _).symm.trans H;rw [hy296];with_reducible exact H2_) | (have H2_:=(zbd _ _).symm.trans H;with_reducible exact H2_) | with_reducible exact H | (rw [hy296];exact H) | exact H
         have Ny296:=zad hy296;clear hy296;simp only [zbl,zbp] at H
         obtain ⟨rfl,rfl,rfl⟩:=H
         obtain ⟨Ao33,co33,eo33⟩:=zbv HO_5.out
         subst eo33;go_wp2_with (first | ((with_reducible refine zbh (f:=18) rfl ?_);refine zbn (some 43) rfl rfl Tryz.func18 (by kernel_rfl) rfl #[.pointer (some ⟨g,0,none⟩),.int .i64 (x5_1.length:Int)] rfl (taae) ?_;(with_reducible refine (zcn g s0_0 x1001_20 x1002_20 (x5_1.length:Int) t287 t288 t289 w0 _ ?side1 ?side2 A28.out).mono ?_);(case side1=>repeat (first | (with_reducible first | exact HI0.out | apply zcg | apply zch | apply zci | apply zcl | apply zcm) | exact HI0.out));(case side2=>repeat (first | (with_reducible first | exact HB.out | apply zag | apply zae | apply zaf | refine zah ?_ (zck HI0.out)) | exact HB.out));rintro e w34 ⟨rfl,hi,hb,hk⟩;refine ⟨_,rfl,?_⟩;have n0_:=zad (zbq (zbr (zcj (show IsS43 w0 _ g s0_0 x1001_20 x1002_20 from by exact tafh) (taam) (by decide)) hk (fun _ h=>h.2)) (fun _ h=>h.1));have n1_:=zad (zbs (taaf) hk (.inl rfl));have n2_:=zad (hb);have n3_:=zad (hi);clear HO_5 HK HB HI0;have HO_5:=n0_;have HK:=n1_;have HB:=n2_;have HI0:=n3_;clear n0_ n1_ n2_ n3_;(try clear hb);(try clear hb2);(try clear hk);(try clear hi)) | ((with_reducible refine gate_dst (N:=46) rfl ?_);refine Kd.R_lit (Kd.int .i64) _ 3 ?hg (N:=46) ?hd (xs:=([(-1),0,a1,4611686018427387904]:List Int)) (inner:=[.int .i64 (-1),.int .i64 0,.int .i64 a1,.int .i64 4611686018427387904]) (ok:=fun _=>True) (okp:=fun _=>True) ?hr ?hp (fun _ hk=>hk) trivial (Below.refl _ _) (zcf _) (taac) ?_;(case hd=>rfl);(case hg=>rfl);(case hr=>first | (go_simp;done) | (go_simp;rfl));(case hp=>exact (Reps.one (show Kd.M (Kd.int .i64) _ _ _ (-1) [.int .i64 (-1)] from rfl) (Reps.one (show Kd.M (Kd.int .i64) _ _ _ 0 [.int .i64 0] from rfl) (Reps.one (show Kd.M (Kd.int .i64) _ _ _ a1 [.int .i64 a1] from rfl) (Reps.one (show Kd.M (Kd.int .i64) _ _ _ 4611686018427387904 [.int .i64 4611686018427387904] from rfl) (Reps.none _ _))))));intro v291 w35 ho36 hb hg_ hnew_;clear hg_ hnew_;(first | rw [← Ny290.out] at ho36 | (simp only [Int.reduceToNat] at ho36;rw [← Ny290.out] at ho36));have n0_:=zad (zcb (taam) (zcd ho36) hb);have n1_:=zad (zbu (zcc ho36 (zce (taam))) (keep_size (w:=w) (g:=g) (row:=none) (taaf)));have n2_:=zad (IsS43.below (taag) hb);have n3_:=zad (zbs (taaf) (KeepBut.of_below hb g none) (.inl rfl));have n4_:=zad (zbg (taaj) hb);clear HO_5 HI0 HK HB;have HO_5:=n0_;have HO292:=n1_;have HI0:=n2_;have HK:=n3_;have HB:=n4_;clear n0_ n1_ n2_ n3_ n4_ hb ho36;obtain ⟨Ao37,co37,eo37⟩:=zbv HO292.out;subst eo37) | ((with_reducible refine zbh (f:=19) rfl ?_);refine zbn (some 47) rfl rfl Tryz.func19 (by kernel_rfl) rfl #[.pointer (some ⟨g,0,none⟩),.slice Ao37 y290.length co37] rfl (taae) ?_;(with_reducible refine (spec_l1Cur_among.calls g s0_0 t288 t289 _ _ y290 t293 t294 t295 w0 _ ?side1 ?side2 ?side3 ?side4 ?side5 A29.out).mono ?_);(case side1=>repeat (first | (with_reducible first | exact HI0.out | apply zcg | apply zch | apply zci | apply zcl | apply zcm) | exact HI0.out));(case side2=>repeat (first | (with_reducible first | exact HB.out | apply zag | apply zae | apply zaf | refine zah ?_ (zck HI0.out)) | exact HB.out));(case side3=>repeat (first | exact (zbf HO292.out).2.2 | (with_reducible refine zal ?_ _) | (with_reducible refine zam ?_ _) | (with_reducible refine zan ?_)));(case side4=>exact (zbf HO292.out).2.1);(case side5=>exact far_slice (IsS43.own_ne HI0.out HO292.out (by decide)));rintro e w38 ⟨rfl,hi,hb,hk⟩;refine ⟨_,rfl,?_⟩;have n0_:=zad (zbq (zbr (zcj (show IsS43 w0 _ g s0_0 t288 t289 from by exact tafh) (taam) (by decide)) hk (fun _ h=>h.2)) (fun _ h=>h.1));have n1_:=zad (zbq (zbr (zcj (show IsS43 w0 _ g s0_0 t288 t289 from by exact tafh) (tabk) (by decide)) hk (fun _ h=>h.2)) (fun _ h=>h.1));have n2_:=zad (zbs (taaf) hk (.inl rfl));have n3_:=zad (hb);have n4_:=zad (hi);clear HO_5 HO292 HK HB HI0;have HO_5:=n0_;have HO292:=n1_;have HK:=n2_;have HB:=n3_;have HI0:=n4_;clear n0_ n1_ n2_ n3_ n4_;(try clear hb);(try clear hb2);(try clear hk);(try clear hi);have p32:0≤(t287:Int):=zas (taaa);have q32:(t287:Int)<((x5_1.length:Int):Int):=zas (taaa);obtain ⟨go32,co32,eo32,gb32,gl32,cl32,HG32⟩:=Kd.R_form HO_5.out (by omega);(first | cases eo32 | (injection eo32 with ea_ en_ ec_;(first | subst ea_ | (injection ea_ with ea_;subst ea_));subst ec_;clear en_));have GB32:=zad gb32;have GG32:=zad HG32;clear gb32 gl32 HG32;obtain ⟨hx32_0,hf32_0⟩:=Kd.R_celln 0 HO_5.out (t287:Int) p32 q32;replace p32:=eq_true p32;replace q32:=eq_true q32;have n_:=zad (zbq (ok':=(fun k_=>some k_≠(.slice Ao37 y290.length co37:Value).ownBlock)) HO_5.out (fun k_ hk=>hk.2));clear HO_5;have HO_5:=n_;clear n_;obtain ⟨hy39_,hz39_⟩:=Kd.R_celln 0 HO_5.out (t287:Int) (zas (taaa)) (zas (taaa));have HP39:=Kd.R_putg HO_5.out (t287:Int) t293) | ((with_reducible refine gate_store (t:=3) (p:=48) rfl ?_);refine store_event (t:=3) (p:=48) (v := ?vo_w40) (w1:=(w38.setCell ⟨go32,(t287:Int).toNat,none⟩ (.int .i64 t293))) ?hg ?ho ?hn ?hr ?_;(case ho=>rfl);(case hg=>rfl);(case hn=>rfl);(case hr=>first | (go_simp;done) | (go_simp;rfl));intro w40 hw;have hg:w38.grownBy w40 (some go32):=(by rw [hw];exact HP39.2);have hp_:Kd.R (Kd.int .i64) 3 w40 w.heap.size (fun k_=>some k_≠(.slice Ao37 y290.length co37:Value).ownBlock) (.slice (some ⟨go32,0,none⟩) x5_1.length co33) y296:=(by rw [hw,Ny296.out];exact HP39.1);clear HP39;have n0_:=zad (hp_);have n1_:=zad (IsS43.grown (taag) hg (IsS43.own_ne HI0.out HO_5.out (by decide)));have n2_:=zad (Kd.R_after (v:=(.slice (some ⟨go32,0,none⟩) x5_1.length co33)) (v1:=(.slice (some ⟨go32,0,none⟩) x5_1.length co33)) (ok:=(fun _=>True)) (tabk) hg (.inl rfl));have n3_:=zad ((by rw [hw];exact zah (HB.out) (Nat.le_trans HL.out GB32.out):Below w0.heap.size w0 w40));have n4_:=zad (zbs (taaf) (KeepBut.of_grown hg g) (Kd.R_base2 HO_5.out));clear HO_5 HI0 HO292 HB HK;have HO_5:=n0_;have HI0:=n1_;have HO292:=n2_;have HB:=n3_;have HK:=n4_;clear n0_ n1_ n2_ n3_ n4_ hg hw hp_))
         go_ret
         exact ⟨_,taai,by (with_reducible repeat (first | apply zai | apply zaj | apply zak));exact zbq HO_5.out (fun _ hk=>trivial),taag,taaj,taaf⟩
        ·rw [if_neg c31] at H
         exact absurd H (taac)
       ·rw [if_neg c30] at H
        exact absurd H (taac)
      ·replace c27:=zbi.mpr c27
       subst c27;have H1:(some (x5_1,x1001_20,x1002_20))=some (r1,r2,r3):=by rw [if_neg (show ¬ (false=true) by decide)] at H;exact H
       clear H;have H:=H1;clear H1;simp only [zbl,zbp] at H
       obtain ⟨rfl,rfl,rfl⟩:=H
       go_wp2
       go_ret
       exact ⟨_,taai,taam,taag,taaj,taaf⟩
def spec_l1Has.l0:Nat→Int→List Int→Int→Int→Option (Bool)
 | 0,_,_,_,_=>none
 | k+1,x1,x7,x8,x9=>if x9<x8 then (if 0≤x9 then (if x9<(x7.length:Int) then (if (rd x7 x9)=x1 then (some true) else (spec_l1Has.l0 k x1 x7 x8 (wrap64 (x9+1)))) else (none)) else (none)) else (some false)
def spec_l1Has.f (k:Nat) (l0:List Int) (a1:Int):Option (Bool):=spec_l1Has.l0 k a1 l0 (l0.length:Int) 0
theorem spec_l1Has.calls (k:Nat) (A0:Option Addr) (c0:Nat) (l0:List Int) (a1:Int) (r:Bool) (w:World) (hr0:Kd.C (Kd.int .i64) w A0 l0.length l0) (hc0:l0.length≤c0) (h:spec_l1Has.f k l0 a1=some r) :
 Calls Tryz.prog 83 #[.slice A0 l0.length c0,.int .i64 a1] w fun e w'=>e = .returned (.bool r)∧Drawn0 w w':=by
 have HR0:=zad hr0;have HC0:=zad hc0;clear hr0 hc0;have H:(spec_l1Has.l0 k a1 l0 (l0.length:Int) 0)=some r:=h
 clear h;have H':=zad H
 clear H;go_enter Tryz.func83,Tryz.ntmps83
 go_wp2
 go_loopg [9] k (fun kq v9 w'=>∃ (x9_1:Int),v9 = .int .i64 x9_1∧Aside0 (spec_l1Has.l0 kq a1 l0 (l0.length:Int) x9_1=some r)∧Aside0 (kq≤k)∧Drawn0 w w')
 case atStart=>exact ⟨(0),(taad),H',⟨zcf _⟩,taah⟩
 case round =>
  clear H'
  try clear p2
  obtain ⟨x9_1,rfl,HA,HK1,⟨m1,rfl⟩⟩:=hrel
  cases gk with
  | zero=>exact absurd HA.out (by simp [spec_l1Has.l0])
  | succ k1 =>
   have H:=HA.out
   clear HA;simp only [spec_l1Has.l0] at H
   by_cases c3:x9_1<(l0.length:Int)
   ·rw [if_pos c3] at H
    have c3b0:decide (x9_1<(l0.length:Int))=true:=zba c3
    clear c3;by_cases c4:0≤x9_1
    ·rw [if_pos c4] at H
     have c4b0:decide (0≤x9_1)=true:=zba c4
     clear c4;by_cases c5:x9_1<(l0.length:Int)
     ·rw [if_pos c5] at H
      have c5b0:decide (x9_1<(l0.length:Int))=true:=zba c5
      clear c5;by_cases c6:(rd l0 x9_1)=a1
      ·rw [if_pos c6] at H
       have c6b0:((rd l0 x9_1) == a1)=true:=beq_iff_eq.mpr c6
       have c6b1:((rd l0 x9_1) != a1)=false:=bne_eq_false_iff_eq.mpr c6
       clear c6;obtain rfl:=zbe H
       have p297:0≤(x9_1:Int):=zas (taaa)
       have q297:x9_1<(l0.length:Int):=zas (taaa)
       obtain ⟨ad297,e297,hx297_0⟩:=zca HR0.out x9_1 p297 q297
       cases e297
       replace p297:=eq_true p297
       replace q297:=eq_true q297
       go_wp2
       go_ret
       exact ⟨taad,taah⟩
      ·rw [if_neg c6] at H
       have c6b0:((rd l0 x9_1) == a1)=false:=zbo.mpr c6
       have c6b1:((rd l0 x9_1) != a1)=true:=bne_iff_ne.mpr c6
       have H':=zad H
       clear H;have p297:0≤(x9_1:Int):=zas (taaa)
       have q297:x9_1<(l0.length:Int):=zas (taaa)
       obtain ⟨ad297,e297,hx297_0⟩:=zca HR0.out x9_1 p297 q297
       cases e297
       replace p297:=eq_true p297
       replace q297:=eq_true q297
       go_wp2
       go_roundg k1
       case measure=>have:=HK1.out;omega
       case rel=>exact ⟨(wrap64 (x9_1+1)),(taad),H',⟨taaq⟩,taah⟩
     ·rw [if_neg c5] at H
      exact absurd H (taac)
    ·rw [if_neg c4] at H
     exact absurd H (taac)
   ·rw [if_neg c3] at H
    have c3b0:decide (x9_1<(l0.length:Int))=false:=zbj c3
    clear c3;obtain rfl:=zbe H
    go_wp2
    go_ret
    exact ⟨taad,taah⟩
def spec_doPlacing.l0:Nat→List Int→List Int→Int→Int→Option (Bool)
 | 0,_,_,_,_=>none
 | k+1,x0,x9,x10,x11=>if x11<x10 then (if 0≤x11 then (if x11<(x9.length:Int) then (if x11≤(x0.length:Int) then ((spec_l1Has.f k (x0.take (x11:Int).toNat) (rd x9 x11)).bind fun t301=>(if t301=true then (some false) else (spec_doPlacing.l0 k x0 x9 x10 (wrap64 (x11+1))))) else (none)) else (none)) else (none)) else ((spec_l1All.f k x0 0 (wrap64 ((x0.length:Int) - 1))).bind fun t302=>(some t302))
def spec_doPlacing.f (k:Nat) (l0:List Int):Option (Bool):=(spec_l1In.f (l0.length:Int) 1 6).bind fun t298=>(if t298=true then (spec_doPlacing.l0 k l0 l0 (l0.length:Int) 0) else (some false))
theorem spec_doPlacing.calls (k:Nat) (A0:Option Addr) (c0:Nat) (l0:List Int) (r:Bool) (w:World) (hr0:Kd.C (Kd.int .i64) w A0 l0.length l0) (hc0:l0.length≤c0) (h:spec_doPlacing.f k l0=some r) :
 Calls Tryz.prog 75 #[.slice A0 l0.length c0] w fun e w'=>e = .returned (.bool r)∧Drawn0 w w':=by
 have HR0:=zad hr0;have HC0:=zad hc0;clear hr0 hc0;have H:((spec_l1In.f (l0.length:Int) 1 6).bind fun t298=>(if t298=true then (spec_doPlacing.l0 k l0 l0 (l0.length:Int) 0) else (some false)))=some r:=h
 clear h;replace H:=zay.mp H;obtain ⟨t298,A20,H⟩:=H
 replace H:(if t298=true then (spec_doPlacing.l0 k l0 l0 (l0.length:Int) 0) else (some false))=some r:=H
 have A2:=zad A20;clear A20;by_cases c3:t298=true
 ·subst c3
  have H1:(spec_doPlacing.l0 k l0 l0 (l0.length:Int) 0)=some r:=by rw [if_pos rfl] at H;exact H
  clear H;have H:=H1;clear H1;have H':=zad H
  clear H;go_enter Tryz.func75,Tryz.ntmps75
  go_wp2_with (first | ((with_reducible refine zbh (f:=60) rfl ?_);refine zbn (some 7) rfl rfl Tryz.func60 (by kernel_rfl) rfl #[.int .i64 (l0.length:Int),.int .i64 1,.int .i64 6] rfl (taae) ?_;(with_reducible refine (spec_l1In.calls (l0.length:Int) 1 6 true _ A2.out).mono ?_);rintro e w' ⟨rfl,⟨nd,rfl⟩⟩;refine ⟨_,rfl,?_⟩))
  go_loopg [11] k (fun kq v11 w'=>∃ (x11_1:Int),v11 = .int .i64 x11_1∧Aside0 (spec_doPlacing.l0 kq l0 l0 (l0.length:Int) x11_1=some r)∧Aside0 (kq≤k)∧Drawn0 w w')
  case atStart=>exact ⟨(0),(taad),H',⟨zcf _⟩,taah⟩
  case round =>
   clear H'
   try clear p2
   try clear c3
   obtain ⟨x11_1,rfl,HA,HK1,⟨m1,rfl⟩⟩:=hrel
   cases gk with
   | zero=>exact absurd HA.out (by simp [spec_doPlacing.l0])
   | succ k1 =>
    have H:=HA.out
    clear HA;simp only [spec_doPlacing.l0] at H
    by_cases c4:x11_1<(l0.length:Int)
    ·rw [if_pos c4] at H
     have c4b0:decide (x11_1<(l0.length:Int))=true:=zba c4
     clear c4;by_cases c5:0≤x11_1
     ·rw [if_pos c5] at H
      have c5b0:decide (0≤x11_1)=true:=zba c5
      clear c5;by_cases c6:x11_1<(l0.length:Int)
      ·rw [if_pos c6] at H
       have c6b0:decide (x11_1<(l0.length:Int))=true:=zba c6
       clear c6;have c7b0:=eq_true (zas (taaa):0≤x11_1)
       by_cases c8:x11_1≤(l0.length:Int)
       ·rw [if_pos c8] at H
        have c8b0:=eq_true c8;have c8b1:decide (x11_1≤(l0.length:Int))=true:=zba c8
        clear c8;replace H:=zay.mp H;obtain ⟨t301,A90,H⟩:=H
        replace H:(if t301=true then (some false) else (spec_doPlacing.l0 k1 l0 l0 (l0.length:Int) (wrap64 (x11_1+1))))=some r:=H
        have A9:=zad A90;clear A90;by_cases c10:t301=true
        ·subst c10
         have H1:(some false)=some r:=by rw [if_pos rfl] at H;exact H
         clear H;have H:=H1;clear H1;obtain rfl:=zbe H
         have p299:0≤(x11_1:Int):=zas (taaa)
         have q299:x11_1<(l0.length:Int):=zas (taaa)
         obtain ⟨ad299,e299,hx299_0⟩:=zca HR0.out x11_1 p299 q299
         cases e299
         replace p299:=eq_true p299
         replace q299:=eq_true q299
         obtain ⟨i011,hi011,_,hsz11,_⟩:=info_parts info3
         obtain ⟨hcut11,hA11,hC11⟩:=print_take_of (P:=Tryz.prog) (Value.int .i64) 0 25 3 .i64 Tryz.underlying25 hi011 hsz11 (some ad299) c0 l0 x11_1 (zas (taaa)) (zas (taaa)) HC0.out
         have HR300:=zad (Kd.C_of_reads (h1:=fun _=>rfl) (hA11 _ (Kd.reads_of_C HR0.out)))
         have HC300:=zad hC11;clear hA11 hC11 hi011 hsz11;go_wp2_with (first | ((with_reducible refine zbh (f:=83) rfl ?_);refine zbn (some 20) rfl rfl Tryz.func83 (by kernel_rfl) rfl #[.slice (some ad299) (l0.take (x11_1:Int).toNat).length c0,.int .i64 (rd l0 x11_1)] rfl (tafd) ?_;(with_reducible refine (spec_l1Has.calls k1 _ _ (l0.take (x11_1:Int).toNat) (rd l0 x11_1) true _ ?side1 ?side2 A9.out).mono ?_);(case side1=>exact tafw);(case side2=>exact HC300.out);rintro e w' ⟨rfl,⟨nd,rfl⟩⟩;refine ⟨_,rfl,?_⟩))
         go_ret
         exact ⟨taad,taah⟩
        ·replace c10:=zbi.mpr c10
         subst c10;have H1:(spec_doPlacing.l0 k1 l0 l0 (l0.length:Int) (wrap64 (x11_1+1)))=some r:=by rw [if_neg (show ¬ (false=true) by decide)] at H;exact H
         clear H;have H:=H1;clear H1;have H':=zad H
         clear H;have p299:0≤(x11_1:Int):=zas (taaa)
         have q299:x11_1<(l0.length:Int):=zas (taaa)
         obtain ⟨ad299,e299,hx299_0⟩:=zca HR0.out x11_1 p299 q299
         cases e299
         replace p299:=eq_true p299
         replace q299:=eq_true q299
         obtain ⟨i012,hi012,_,hsz12,_⟩:=info_parts info3
         obtain ⟨hcut12,hA12,hC12⟩:=print_take_of (P:=Tryz.prog) (Value.int .i64) 0 25 3 .i64 Tryz.underlying25 hi012 hsz12 (some ad299) c0 l0 x11_1 (zas (taaa)) (zas (taaa)) HC0.out
         have HR300:=zad (Kd.C_of_reads (h1:=fun _=>rfl) (hA12 _ (Kd.reads_of_C HR0.out)))
         have HC300:=zad hC12;clear hA12 hC12 hi012 hsz12;go_wp2_with (first | ((with_reducible refine zbh (f:=83) rfl ?_);refine zbn (some 20) rfl rfl Tryz.func83 (by kernel_rfl) rfl #[.slice (some ad299) (l0.take (x11_1:Int).toNat).length c0,.int .i64 (rd l0 x11_1)] rfl (tafd) ?_;(with_reducible refine (spec_l1Has.calls k1 _ _ (l0.take (x11_1:Int).toNat) (rd l0 x11_1) false _ ?side1 ?side2 A9.out).mono ?_);(case side1=>exact tafw);(case side2=>exact HC300.out);rintro e w' ⟨rfl,⟨nd,rfl⟩⟩;refine ⟨_,rfl,?_⟩))
         go_roundg k1
         case measure=>have:=HK1.out;omega
         case rel=>exact ⟨(wrap64 (x11_1+1)),(taad),H',⟨taaq⟩,taah⟩
       ·rw [if_neg c8] at H
        exact absurd H (taac)
      ·rw [if_neg c6] at H
       exact absurd H (taac)
     ·rw [if_neg c5] at H
      exact absurd H (taac)
    ·rw [if_neg c4] at H
     have c4b0:decide (x11_1<(l0.length:Int))=false:=zbj c4
     clear c4;replace H:=zay.mp H;obtain ⟨t302,A130,H⟩:=H
     replace H:(some t302)=some r:=H
     have A13:=zad A130;clear A130;obtain rfl:=zbe H
     go_wp2_with (first | ((with_reducible refine zbh (f:=59) rfl ?_);refine zbn (some 26) rfl rfl Tryz.func59 (by kernel_rfl) rfl #[.slice A0 l0.length c0,.int .i64 0,.int .i64 (wrap64 ((l0.length:Int) - 1))] rfl (taae) ?_;(with_reducible refine (spec_l1All.calls k1 _ _ l0 0 (wrap64 ((l0.length:Int) - 1)) t302 _ ?side1 ?side2 A13.out).mono ?_);(case side1=>exact tafl);(case side2=>exact HC0.out);rintro e w' ⟨rfl,⟨nd,rfl⟩⟩;refine ⟨_,rfl,?_⟩))
     go_ret
     exact ⟨taad,taah⟩
 ·replace c3:=zbi.mpr c3
  subst c3;have H1:(some false)=some r:=by rw [if_neg (show ¬ (false=true) by decide)] at H;exact H
  clear H;have H:=H1;clear H1;obtain rfl:=zbe H
  go_enter Tryz.func75,Tryz.ntmps75
  go_wp2_with (first | ((with_reducible refine zbh (f:=60) rfl ?_);refine zbn (some 7) rfl rfl Tryz.func60 (by kernel_rfl) rfl #[.int .i64 (l0.length:Int),.int .i64 1,.int .i64 6] rfl (taae) ?_;(with_reducible refine (spec_l1In.calls (l0.length:Int) 1 6 false _ A2.out).mono ?_);rintro e w' ⟨rfl,⟨nd,rfl⟩⟩;refine ⟨_,rfl,?_⟩))
  go_ret
  exact ⟨taad,taah⟩
mutual
def spec_l1Cur_equal.l0:Nat→Int→List (List Int)→Int→List Int→Int→Int→Option ((List (List Int)) × Int × Int)
 | 0,_,_,_,_,_,_=>none
 | k+1,x1,x5,x6,x1000,x1001,x1002=>if x6>0 then ((spec_l1Cur_placing.f k x1000 x1001 x1002 x1).bind fun bt309=>((spec_doPlacing.f k bt309.1).bind fun t314=>(if t314=true then ((spec_l1Cur_pick.f x1000 bt309.2.1 bt309.2.2 3).bind fun bt315=>(spec_l1Cur_equal.l1 k x1 x5 x6 (wrap64 (1+bt315.1)) bt309.1 (bt309.1.length:Int) 0 x1000 bt315.2.1 bt315.2.2)) else (spec_l1Cur_equal.l0 k x1 x5 (wrap64 (x6 - 1)) x1000 bt309.2.1 bt309.2.2)))) else (some (x5,x1001,x1002))
def spec_l1Cur_equal.l1:Nat→Int→List (List Int)→Int→Int→List Int→Int→Int→List Int→Int→Int→Option ((List (List Int)) × Int × Int)
 | 0,_,_,_,_,_,_,_,_,_,_=>none
 | k+1,x1,x5,x6,x8,x27,x28,x29,x1000,x1001,x1002=>if x29<x28 then (if 0≤x29 then (if x29<(x27.length:Int) then (if x29<(x5.length:Int) then (if 0≤(rd x27 x29) then (if (rd x27 x29)<((rd_L2 x5 x29).length:Int) then (spec_l1Cur_equal.l1 k x1 (x5.set (x29:Int).toNat ((rd_L2 x5 x29).set ((rd x27 x29):Int).toNat (wrap64 ((rd (rd_L2 x5 x29) (rd x27 x29))+x8)))) x6 x8 x27 x28 (wrap64 (x29+1)) x1000 x1001 x1002) else (none)) else (none)) else (none)) else (none)) else (none)) else (spec_l1Cur_equal.l0 k x1 x5 (wrap64 (x6 - 1)) x1000 x1001 x1002)
end
def spec_l1Cur_equal.f (k:Nat) (s0_0:List Int) (s0_1:Int) (s0_2:Int) (a1:Int):Option ((List (List Int)) × Int × Int):=(spec_doEmpty.f k a1).bind fun t303=>((spec_l1Cur_pick.f s0_0 s0_1 s0_2 5).bind fun bt306=>(spec_l1Cur_equal.l0 k a1 t303 bt306.1 s0_0 bt306.2.1 bt306.2.2))
theorem spec_l1Cur_equal.calls (k:Nat) (g:Nat) (s0_0:List Int) (s0_1:Int) (s0_2:Int) (a1:Int) (r1:List (List Int)) (r2:Int) (r3:Int) (w0 w:World) (hI:IsS43 w0 w g s0_0 s0_1 s0_2) (hB:Below w0.heap.size w0 w) (h:spec_l1Cur_equal.f k s0_0 s0_1 s0_2 a1=some (r1,r2,r3)) :
 Calls Tryz.prog 50 #[.pointer (some ⟨g,0,none⟩),.int .i64 a1] w fun e w'=>∃ v0_:Value,e = .returned (v0_)∧Kd.S (Kd.slice 3 (Kd.int .i64)) 25 w' w.heap.size (fun _=>True) v0_ r1∧IsS43 w0 w' g s0_0 r2 r3∧Below w0.heap.size w0 w'∧KeepBut w w' g none:=by
 have HI0:=zad hI;have HK:=zad (KeepBut.refl w g none)
 have HL:=zad hB.size;clear hI;have HW0:=zad hB.size;have HB:=zad hB;clear hB;have H:((spec_doEmpty.f k a1).bind fun t303=>((spec_l1Cur_pick.f s0_0 s0_1 s0_2 5).bind fun bt306=>(spec_l1Cur_equal.l0 k a1 t303 bt306.1 s0_0 bt306.2.1 bt306.2.2)))=some (r1,r2,r3):=h
 clear h;replace H:=zay.mp H;obtain ⟨t303,A30,H⟩:=H
 replace H:((spec_l1Cur_pick.f s0_0 s0_1 s0_2 5).bind fun bt306=>(spec_l1Cur_equal.l0 k a1 t303 bt306.1 s0_0 bt306.2.1 bt306.2.2))=some (r1,r2,r3):=H
 have A3:=zad A30;clear A30;replace H:=zay.mp H;obtain ⟨⟨t306,t307,t308⟩,A40,H⟩:=H
 replace H:(spec_l1Cur_equal.l0 k a1 t303 t306 s0_0 t307 t308)=some (r1,r2,r3):=H
 have A4:=zad A40;clear A40;have H':=zad H
 clear H;go_enter Tryz.func50,Tryz.ntmps50
 go_wp2_with (first | ((with_reducible refine zbh (f:=42) rfl ?_);refine zbn (some 12) rfl rfl Tryz.func42 (by kernel_rfl) rfl #[.int .i64 a1] rfl (taae) ?_;(with_reducible refine (spec_doEmpty.calls k a1 t303 _ A3.out).mono ?_);rintro e w5 ⟨v304,rfl,ho0,hb⟩;refine ⟨_,rfl,?_⟩;have n0_:=zad (Kd.S_lower ho0 (keep_size (w:=w) (g:=g) (row:=none) (taaf)));have n1_:=zad (IsS43.below (taag) hb);have n2_:=zad (zbs (taaf) (KeepBut.of_below hb g none) (.inl rfl));have n3_:=zad (zbg (taaj) hb);clear HI0 HK HB;have HO305:=n0_;have HI0:=n1_;have HK:=n2_;have HB:=n3_;clear n0_ n1_ n2_ n3_;(try clear hb);(try clear hb2);(try clear hk);(try clear hi);(try clear ho0)) | ((with_reducible refine zbh (f:=18) rfl ?_);refine zbn (some 14) rfl rfl Tryz.func18 (by kernel_rfl) rfl #[.pointer (some ⟨g,0,none⟩),.int .i64 5] rfl (taae) ?_;(with_reducible refine (zcn g s0_0 s0_1 s0_2 5 t306 t307 t308 w0 _ ?side1 ?side2 A4.out).mono ?_);(case side1=>repeat (first | (with_reducible first | exact HI0.out | apply zcg | apply zch | apply zci | apply zcl | apply zcm) | exact HI0.out));(case side2=>repeat (first | (with_reducible first | exact HB.out | apply zag | apply zae | apply zaf | refine zah ?_ (zck HI0.out)) | exact HB.out));rintro e w6 ⟨rfl,hi,hb,hk⟩;refine ⟨_,rfl,?_⟩;have n0_:=zad (Kd.S_mono (Kd.S_keep (IsS43.apartS (show IsS43 w0 _ g s0_0 s0_1 s0_2 from by exact tafh) (tadh) (by decide)) hk (fun _ h=>h.2)) (fun _ h=>h.1));have n1_:=zad (zbs (taaf) hk (.inl rfl));have n2_:=zad (hb);have n3_:=zad (hi);clear HO305 HK HB HI0;have HO305:=n0_;have HK:=n1_;have HB:=n2_;have HI0:=n3_;clear n0_ n1_ n2_ n3_;(try clear hb);(try clear hb2);(try clear hk);(try clear hi)))
 go_loopg [6] k (fun kq v6 w'=>∃ (x5_1:List (List Int)) (x6_1:Int) (x1001_1:Int) (x1002_1:Int),v6 = .int .i64 x6_1∧Aside0 (spec_l1Cur_equal.l0 kq a1 x5_1 x6_1 s0_0 x1001_1 x1002_1=some (r1,r2,r3))∧Aside0 (kq≤k)∧Aside0 (Kd.S (Kd.slice 3 (Kd.int .i64)) 25 w' w.heap.size (fun _=>True) v304 x5_1)∧Aside0 (IsS43 w0 w' g s0_0 x1001_1 x1002_1)∧Aside0 (KeepBut w w' g none)∧Aside0 (Below w0.heap.size w0 w'))
 case atStart=>exact ⟨(t303),(t306),(t307),(t308),(taad),H',⟨zcf _⟩,⟨tadh⟩,⟨taag⟩,⟨taaf⟩,⟨taaj⟩⟩
 case round =>
  clear H'
  try clear c1
  try clear p2
  try clear c4
  try clear c5
  obtain ⟨x5_1,x6_1,x1001_1,x1002_1,rfl,HA,HK1,HO_5,HI0,HK,HB⟩:=hrel
  cases gk with
  | zero=>exact absurd HA.out (by simp [spec_l1Cur_equal.l0])
  | succ k1 =>
   have H:=HA.out
   clear HA;simp only [spec_l1Cur_equal.l0] at H
   by_cases c7:x6_1>0
   ·rw [if_pos c7] at H
    have c7b0:decide (0<x6_1)=true:=zba c7
    clear c7;replace H:=zay.mp H;obtain ⟨⟨t309,t312,t313⟩,A80,H⟩:=H
    replace H:((spec_doPlacing.f k1 t309).bind fun t314=>(if t314=true then ((spec_l1Cur_pick.f s0_0 t312 t313 3).bind fun bt315=>(spec_l1Cur_equal.l1 k1 a1 x5_1 x6_1 (wrap64 (1+bt315.1)) t309 (t309.length:Int) 0 s0_0 bt315.2.1 bt315.2.2)) else (spec_l1Cur_equal.l0 k1 a1 x5_1 (wrap64 (x6_1 - 1)) s0_0 t312 t313)))=some (r1,r2,r3):=H
    have A8:=zad A80;clear A80;replace H:=zay.mp H;obtain ⟨t314,A90,H⟩:=H
    replace H:(if t314=true then ((spec_l1Cur_pick.f s0_0 t312 t313 3).bind fun bt315=>(spec_l1Cur_equal.l1 k1 a1 x5_1 x6_1 (wrap64 (1+bt315.1)) t309 (t309.length:Int) 0 s0_0 bt315.2.1 bt315.2.2)) else (spec_l1Cur_equal.l0 k1 a1 x5_1 (wrap64 (x6_1 - 1)) s0_0 t312 t313))=some (r1,r2,r3):=H
    have A9:=zad A90;clear A90;by_cases c10:t314=true
    ·subst c10
     have H1:((spec_l1Cur_pick.f s0_0 t312 t313 3).bind fun bt315=>(spec_l1Cur_equal.l1 k1 a1 x5_1 x6_1 (wrap64 (1+bt315.1)) t309 (t309.length:Int) 0 s0_0 bt315.2.1 bt315.2.2))=some (r1,r2,r3):=by rw [if_pos rfl] at H;exact H
     clear H;have H:=H1;clear H1;replace H:=zay.mp H;obtain ⟨⟨t315,t316,t317⟩,A110,H⟩:=H
     replace H:(spec_l1Cur_equal.l1 k1 a1 x5_1 x6_1 (wrap64 (1+t315)) t309 (t309.length:Int) 0 s0_0 t316 t317)=some (r1,r2,r3):=H
     have A11:=zad A110;clear A110;have H':=zad H
     clear H;go_wp2_with (first | ((with_reducible refine zbh (f:=74) rfl ?_);refine zbn (some 21) rfl rfl Tryz.func74 (by kernel_rfl) rfl #[.pointer (some ⟨g,0,none⟩),.int .i64 a1] rfl (taae) ?_;(with_reducible refine (spec_l1Cur_placing.calls k1 g s0_0 x1001_1 x1002_1 a1 t309 t312 t313 w0 _ ?side1 ?side2 A8.out).mono ?_);(case side1=>repeat (first | (with_reducible first | exact HI0.out | apply zcg | apply zch | apply zci | apply zcl | apply zcm) | exact HI0.out));(case side2=>repeat (first | (with_reducible first | exact HB.out | apply zag | apply zae | apply zaf | refine zah ?_ (zck HI0.out)) | exact HB.out));rintro e w12 ⟨v310,rfl,ho0,hi,hb,hk⟩;refine ⟨_,rfl,?_⟩;have n0_:=zad (Kd.S_mono (Kd.S_told (Kd.S_oldK (IsS43.apartS (show IsS43 w0 _ g s0_0 x1001_1 x1002_1 from by exact tafh) (taaz) (by decide)) hk) (zcd ho0)) (fun _ h_=>h_.1));have n1_:=zad (zbu ho0 (keep_size (w:=w) (g:=g) (row:=none) (taaf)));have n2_:=zad (zbs (taaf) hk (.inl rfl));have n3_:=zad (hb);have n4_:=zad (hi);clear HO_5 HK HB HI0;have HO_5:=n0_;have HO311:=n1_;have HK:=n2_;have HB:=n3_;have HI0:=n4_;clear n0_ n1_ n2_ n3_ n4_;(try clear hb);(try clear hb2);(try clear hk);(try clear hi);(try clear ho0);obtain ⟨Ao13,co13,eo13⟩:=zbv HO311.out;subst eo13) | ((with_reducible refine zbh (f:=75) rfl ?_);refine zbn (some 23) rfl rfl Tryz.func75 (by kernel_rfl) rfl #[.slice Ao13 t309.length co13] rfl (taae) ?_;(with_reducible refine (spec_doPlacing.calls k1 _ _ t309 true _ ?side1 ?side2 A9.out).mono ?_);(case side1=>repeat (first | exact (zbf HO311.out).2.2 | (with_reducible refine zal ?_ _) | (with_reducible refine zam ?_ _) | (with_reducible refine zan ?_)));(case side2=>exact (zbf HO311.out).2.1);rintro e w' ⟨rfl,⟨nd,rfl⟩⟩;refine ⟨_,rfl,?_⟩) | ((with_reducible refine zbh (f:=18) rfl ?_);refine zbn (some 25) rfl rfl Tryz.func18 (by kernel_rfl) rfl #[.pointer (some ⟨g,0,none⟩),.int .i64 3] rfl (taae) ?_;(with_reducible refine (zcn g s0_0 t312 t313 3 t315 t316 t317 w0 _ ?side1 ?side2 A11.out).mono ?_);(case side1=>repeat (first | (with_reducible first | exact HI0.out | apply zcg | apply zch | apply zci | apply zcl | apply zcm) | exact HI0.out));(case side2=>repeat (first | (with_reducible first | exact HB.out | apply zag | apply zae | apply zaf | refine zah ?_ (zck HI0.out)) | exact HB.out));rintro e w14 ⟨rfl,hi,hb,hk⟩;refine ⟨_,rfl,?_⟩;have n0_:=zad (Kd.S_mono (Kd.S_keep (IsS43.apartS (show IsS43 w0 _ g s0_0 t312 t313 from by exact tafh) (taaz) (by decide)) hk (fun _ h=>h.2)) (fun _ h=>h.1));have n1_:=zad (zbq (zbr (zcj (show IsS43 w0 _ g s0_0 t312 t313 from by exact tafh) (tadi) (by decide)) hk (fun _ h=>h.2)) (fun _ h=>h.1));have n2_:=zad (zbs (taaf) hk (.inl rfl));have n3_:=zad (hb);have n4_:=zad (hi);clear HO_5 HO311 HK HB HI0;have HO_5:=n0_;have HO311:=n1_;have HK:=n2_;have HB:=n3_;have HI0:=n4_;clear n0_ n1_ n2_ n3_ n4_;(try clear hb);(try clear hb2);(try clear hk);(try clear hi)))
     go_loopg [29] k1 (fun kq v29 w'=>∃ (x5_2:List (List Int)) (x27_2:List Int) (x29_2:Int),v29 = .int .i64 x29_2∧Aside0 (spec_l1Cur_equal.l1 kq a1 x5_2 x6_1 (wrap64 (1+t315)) x27_2 (t309.length:Int) x29_2 s0_0 t316 t317=some (r1,r2,r3))∧Aside0 (kq≤k1)∧Aside0 (Kd.S (Kd.slice 3 (Kd.int .i64)) 25 w' w.heap.size (fun k_=>some k_≠((.slice Ao13 t309.length co13):Value).ownBlock) v304 x5_2)∧Aside0 (Kd.R (Kd.int .i64) 3 w' w.heap.size (fun _=>True) (.slice Ao13 t309.length co13) x27_2)∧Aside0 (IsS43 w0 w' g s0_0 t316 t317)∧Aside0 (KeepBut w w' g none)∧Aside0 (Below w0.heap.size w0 w'))
     case atStart=>exact ⟨(x5_1),(t309),(0),(taad),H',⟨zcf _⟩,⟨tacp⟩,⟨tadi⟩,⟨taag⟩,⟨taaf⟩,⟨taaj⟩⟩
     case round =>
      clear H'
      try clear c1
      try clear p2
      try clear c4
      try clear c5
      try clear p6
      try clear c7
      try clear c7b0
      try clear c10
      try clear p2
      obtain ⟨x5_2,x27_2,x29_2,rfl,HA,HK2,HO_5,HO_27,HI0,HK,HB⟩:=hrel
      have hl27_2:=(zbf HO_27.out).1
      rw [hl27_2] at HO_27
      (try simp only [hl27_2])
      (try simp only [hl27_2] at HO_5)
      cases gk with
      | zero=>exact absurd HA.out (by simp [spec_l1Cur_equal.l1])
      | succ k2 =>
       have H:=HA.out
       clear HA;simp only [spec_l1Cur_equal.l1] at H
       by_cases c15:x29_2<(t309.length:Int)
       ·rw [if_pos c15] at H
        have c15b0:decide (x29_2<(t309.length:Int))=true:=zba c15
        clear c15;by_cases c16:0≤x29_2
        ·rw [if_pos c16] at H
         have c16b0:decide (0≤x29_2)=true:=zba c16
         clear c16;by_cases c17:x29_2<(x27_2.length:Int)
         ·rw [if_pos c17] at H
          have c17b0:decide (x29_2<(x27_2.length:Int))=true:=zba c17
          clear c17;by_cases c18:x29_2<(x5_2.length:Int)
          ·rw [if_pos c18] at H
           have c18b0:decide (x29_2<(x5_2.length:Int))=true:=zba c18
           clear c18;by_cases c19:0≤(rd x27_2 x29_2)
           ·rw [if_pos c19] at H
            have c19b0:decide (0≤(rd x27_2 x29_2))=true:=zba c19
            clear c19;by_cases c20:(rd x27_2 x29_2)<((rd_L2 x5_2 x29_2).length:Int)
            ·rw [if_pos c20] at H
             have c20b0:decide ((rd x27_2 x29_2)<((rd_L2 x5_2 x29_2).length:Int))=true:=zba c20
             clear c20;obtain ⟨y321,hy321⟩:∃ y_:List Int,y_=((rd_L2 x5_2 x29_2).set ((rd x27_2 x29_2):Int).toNat (wrap64 ((rd (rd_L2 x5_2 x29_2) (rd x27_2 x29_2))+(wrap64 (1+t315))))):=⟨_,rfl⟩
             replace H:(spec_l1Cur_equal.l1 k2 a1 (x5_2.set (x29_2:Int).toNat y321) x6_1 (wrap64 (1+t315)) x27_2 (t309.length:Int) (wrap64 (x29_2+1)) s0_0 t316 t317)=some (r1,r2,r3):=by first | (rw [hy321];with_reducible exact H) | (have H2_:=(zbd _ _).symm.trans H;rw [hy321];with_reducible exact H2_) | (have H2_:=(zbd _ _).symm.trans H;with_reducible exact H2_) | with_reducible exact H | (rw [hy321];exact H) | exact H
             have Ny321:=zad hy321;clear hy321;obtain ⟨y323,hy323⟩:∃ y_:List (List Int),y_=(x5_2.set (x29_2:Int).toNat y321):=⟨_,rfl⟩
             replace H:(spec_l1Cur_equal.l1 k2 a1 y323 x6_1 (wrap64 (1+t315)) x27_2 (t309.length:Int) (wrap64 (x29_2+1)) s0_0 t316 t317)=some (r1,r2,r3):=by first | (rw [hy323];with_reducible exact H) | (have H2_:=(zbd _ _).symm.trans H;rw [hy323];with_reducible exact H2_) | (have H2_:=(zbd _ _).symm.trans H;with_reducible exact H2_) | with_reducible exact H | (rw [hy323];exact H) | exact H
             have Ny323:=zad hy323;clear hy323;have H':=zad H
             clear H;have p318:0≤(x29_2:Int):=zas (taaa)
             have q318:x29_2<(x27_2.length:Int):=zas (taaa)
             obtain ⟨ad318,e318,hx318_0⟩:=zca (zbf HO_27.out).2.2 x29_2 p318 q318
             cases e318
             replace p318:=eq_true p318
             replace q318:=eq_true q318
             obtain ⟨Ao22,co22,eo22⟩:=Kd.S_slice HO_5.out
             subst eo22;have p319:0≤(x29_2:Int):=zas (taaa)
             have q319:x29_2<(x5_2.length:Int):=zas (taaa)
             obtain ⟨ad319,A319_0,c319_0,e319,hx319_0,hl319_0,hi319_0⟩:=at_L2 (Kd.S_reads' HO_5.out).2.2 x29_2 p319 q319
             cases e319
             obtain ⟨ce319,hce319,hMe319,hcc319⟩:=Kd.S_get HO_5.out [] x29_2 p319 (by first | exact q319 | exact zas (taaa) | (have e_:=(Kd.S_reads' HO_5.out).1;omega))
             obtain ⟨ve319_0,rfl,ge319_0⟩:=hMe319
             have hv319_0:=hcc319 0 _ rfl
             rw [Nat.add_zero,show ((Kd.slice 3 (Kd.int .i64))).sz=1 from rfl,Nat.mul_one] at hv319_0
             replace hv319_0:=zbe (hv319_0.symm.trans hx319_0)
             rw [hv319_0] at ge319_0
             have HL319_0:=zad (show Kd.R (Kd.int .i64) 3 _ _ _ _ (rd_L2 x5_2 x29_2) from ge319_0)
             clear hv319_0 ge319_0;have HX319_0:=zad hx319_0;clear hcc319 hce319;have HR319_0:=zad hi319_0;have HC319_0:=zad hl319_0;clear hi319_0 hl319_0;replace p319:=eq_true p319
             replace q319:=eq_true q319
             have p320:0≤((rd x27_2 x29_2):Int):=zas (taaa)
             have q320:(rd x27_2 x29_2)<((rd_L2 x5_2 x29_2).length:Int):=zas (taaa)
             obtain ⟨ad320,e320,hx320_0⟩:=zca (by repeat (first | (with_reducible exact HR319_0.out) | (with_reducible refine zal ?_ _) | (with_reducible refine zam ?_ _) | (with_reducible refine zan ?_) | exact HR319_0.out)) (rd x27_2 x29_2) p320 q320
             cases e320
             replace p320:=eq_true p320
             replace q320:=eq_true q320
             have p21:0≤((rd x27_2 x29_2):Int):=zas (taaa)
             have q21:((rd x27_2 x29_2):Int)<(((rd_L2 x5_2 x29_2).length:Int):Int):=zas (taaa)
             obtain ⟨go21,co21,eo21,gb21,gl21,cl21,HG21⟩:=Kd.R_form HL319_0.out (by omega)
             (first | cases eo21 | (injection eo21 with ea_ en_ ec_;(first | subst ea_ | (injection ea_ with ea_;subst ea_));subst ec_;clear en_))
             have GB21:=zad gb21;have GG21:=zad HG21;clear gb21 gl21 HG21;(first | simp only [add_plain] at hx320_0 | skip)
             obtain ⟨hx21_0,hf21_0⟩:=Kd.R_celln 0 HL319_0.out ((rd x27_2 x29_2):Int) p21 q21
             replace p21:=eq_true p21
             replace q21:=eq_true q21
             have hq23:(x29_2:Int)<(x5_2.length:Int):=(by have h_:(x29_2:Int)<((x5_2.length:Int):Int):=zas (taaa);first | exact h_ | (have e_:=(Kd.S_reads' HO_5.out).1;omega) | simpa only [List.length_set,List.length_set] using h_)
             obtain ⟨oki23,ce23,hcl23,hM23,hcc23,hok23,hbk23⟩:=Kd.S_borrow HO_5.out [] (x29_2:Int) (zas (taaa)) (by first | exact hq23 | (have e_:=(Kd.S_reads' HO_5.out).1;omega))
             obtain ⟨ve23_0,rfl,ge23_0⟩:=hM23
             have hv23:=hcc23 0 _ rfl
             rw [Nat.add_zero,show ((Kd.slice 3 (Kd.int .i64))).sz=1 from rfl,Nat.mul_one] at hv23
             replace hv23:=zbe (hv23.symm.trans HX319_0.out)
             subst hv23;clear hcc23 hcl23;replace ge23_0:=(show Kd.R (Kd.int .i64) 3 _ _ _ _ (rd_L2 x5_2 x29_2) from ge23_0)
             have HP23:=Kd.R_putg ge23_0 ((rd x27_2 x29_2):Int) (wrap64 ((rd (rd_L2 x5_2 x29_2) (rd x27_2 x29_2))+(wrap64 (1+t315))))
             go_wp2_with (first | ((with_reducible refine gate_store (t:=3) (p:=43) rfl ?_);refine store_event (t:=3) (p:=43) (v := ?vo_w24) (w1:=(wr.setCell ⟨go21,((rd x27_2 x29_2):Int).toNat,none⟩ (.int .i64 (wrap64 ((rd (rd_L2 x5_2 x29_2) (rd x27_2 x29_2))+(wrap64 (1+t315))))))) ?hg ?ho ?hn ?hr ?_;(case ho=>rfl);(case hg=>rfl);(case hn=>rfl);(case hr=>first | (go_simp;done) | (go_simp;rfl));intro w24 hw;have hg:wr.grownBy w24 (some go21):=(by rw [hw];exact HP23.2);have hz_:Kd.R (Kd.int .i64) 3 w24 w.heap.size oki23 (.slice (some ⟨go21,0,none⟩) (rd_L2 x5_2 x29_2).length c319_0) y321:=(by rw [hw,Ny321.out];exact HP23.1);have hp_:Kd.S (Kd.slice 3 (Kd.int .i64)) 25 w24 w.heap.size (fun k_=>some k_≠(.slice (some ad318) x27_2.length co13:Value).ownBlock) (.slice (some ad319) x5_2.length co22) y323:=(by rw [Ny323.out];exact hbk23 hg (fun k_ e_=>by injection e_ with e_;subst e_;exact ge23_0.1 _ rfl) (Kd.M_row hz_));have hm_:=zbq hz_ hok23;clear HP23 hbk23;have n0_:=zad (hp_);have n1_:=zad (Kd.R_grown1 (by (with_reducible repeat (first | apply zai | apply zaj | apply zak));exact HO_27.out) rfl hg ((HL319_0.out.1 _ rfl).1));have n2_:=zad (IsS43.grown (taag) hg (IsS43.own_ne HI0.out HL319_0.out (by decide)));have n3_:=zad ((by rw [hw];exact zah (HB.out) (Nat.le_trans HL.out GB21.out):Below w0.heap.size w0 w24));have n4_:=zad (zbs (taaf) (KeepBut.of_grown hg g) (Kd.R_base2 HL319_0.out));have n5_:=zad (hm_);have n6_:=zad ((zbf hm_).2.1);clear HO_5 HO_27 HI0 HB HK HL319_0;have HO_5:=n0_;have HO_27:=n1_;have HI0:=n2_;have HB:=n3_;have HK:=n4_;have HL324:=n5_;have HC322:=n6_;clear n0_ n1_ n2_ n3_ n4_ n5_ n6_ hg hw hp_ hz_ hm_ hok23))
             (try simp only [← hl27_2])
             go_roundg k2
             case measure=>have:=HK1.out;have:=HK2.out;omega
             case rel=>exact ⟨(y323),(x27_2),(wrap64 (x29_2+1)),(taad),H',⟨taao⟩,⟨by (try simp only [hl27_2]);(with_reducible repeat (first | apply Kd.S_alloc | apply Kd.S_drewN | apply Kd.S_drew));exact HO_5.out⟩,⟨by (try simp only [hl27_2]);(with_reducible repeat (first | apply zai | apply zaj | apply zak));exact HO_27.out⟩,⟨taag⟩,⟨taaf⟩,⟨taaj⟩⟩
            ·rw [if_neg c20] at H
             exact absurd H (taac)
           ·rw [if_neg c19] at H
            exact absurd H (taac)
          ·rw [if_neg c18] at H
           exact absurd H (taac)
         ·rw [if_neg c17] at H
          exact absurd H (taac)
        ·rw [if_neg c16] at H
         exact absurd H (taac)
       ·rw [if_neg c15] at H
        have c15b0:decide (x29_2<(t309.length:Int))=false:=zbj c15
        clear c15;(try simp only [hl27_2] at c15b0)
        have H':=zad H
        clear H;go_wp2
        (try simp only [← hl27_2])
        go_roundg k2
        case measure=>have:=HK1.out;have:=HK2.out;omega
        case rel=>exact ⟨(x5_2),(wrap64 (x6_1 - 1)),(t316),(t317),(taad),H',⟨taao⟩,⟨by (try simp only [hl27_2]);(with_reducible repeat (first | apply Kd.S_alloc | apply Kd.S_drewN | apply Kd.S_drew));exact Kd.S_mono HO_5.out (fun _ hk=>trivial)⟩,⟨taag⟩,⟨taaf⟩,⟨taaj⟩⟩
    ·replace c10:=zbi.mpr c10
     subst c10;have H1:(spec_l1Cur_equal.l0 k1 a1 x5_1 (wrap64 (x6_1 - 1)) s0_0 t312 t313)=some (r1,r2,r3):=by rw [if_neg (show ¬ (false=true) by decide)] at H;exact H
     clear H;have H:=H1;clear H1;have H':=zad H
     clear H;go_wp2_with (first | ((with_reducible refine zbh (f:=74) rfl ?_);refine zbn (some 21) rfl rfl Tryz.func74 (by kernel_rfl) rfl #[.pointer (some ⟨g,0,none⟩),.int .i64 a1] rfl (taae) ?_;(with_reducible refine (spec_l1Cur_placing.calls k1 g s0_0 x1001_1 x1002_1 a1 t309 t312 t313 w0 _ ?side1 ?side2 A8.out).mono ?_);(case side1=>repeat (first | (with_reducible first | exact HI0.out | apply zcg | apply zch | apply zci | apply zcl | apply zcm) | exact HI0.out));(case side2=>repeat (first | (with_reducible first | exact HB.out | apply zag | apply zae | apply zaf | refine zah ?_ (zck HI0.out)) | exact HB.out));rintro e w25 ⟨v310,rfl,ho0,hi,hb,hk⟩;refine ⟨_,rfl,?_⟩;have n0_:=zad (Kd.S_mono (Kd.S_told (Kd.S_oldK (IsS43.apartS (show IsS43 w0 _ g s0_0 x1001_1 x1002_1 from by exact tafh) (taaz) (by decide)) hk) (zcd ho0)) (fun _ h_=>h_.1));have n1_:=zad (zbu ho0 (keep_size (w:=w) (g:=g) (row:=none) (taaf)));have n2_:=zad (zbs (taaf) hk (.inl rfl));have n3_:=zad (hb);have n4_:=zad (hi);clear HO_5 HK HB HI0;have HO_5:=n0_;have HO311:=n1_;have HK:=n2_;have HB:=n3_;have HI0:=n4_;clear n0_ n1_ n2_ n3_ n4_;(try clear hb);(try clear hb2);(try clear hk);(try clear hi);(try clear ho0);obtain ⟨Ao26,co26,eo26⟩:=zbv HO311.out;subst eo26) | ((with_reducible refine zbh (f:=75) rfl ?_);refine zbn (some 23) rfl rfl Tryz.func75 (by kernel_rfl) rfl #[.slice Ao26 t309.length co26] rfl (taae) ?_;(with_reducible refine (spec_doPlacing.calls k1 _ _ t309 false _ ?side1 ?side2 A9.out).mono ?_);(case side1=>repeat (first | exact (zbf HO311.out).2.2 | (with_reducible refine zal ?_ _) | (with_reducible refine zam ?_ _) | (with_reducible refine zan ?_)));(case side2=>exact (zbf HO311.out).2.1);rintro e w' ⟨rfl,⟨nd,rfl⟩⟩;refine ⟨_,rfl,?_⟩))
     go_roundg k1
     case measure=>have:=HK1.out;omega
     case rel=>exact ⟨(x5_1),(wrap64 (x6_1 - 1)),(t312),(t313),(taad),H',⟨taaq⟩,⟨by (with_reducible repeat (first | apply Kd.S_alloc | apply Kd.S_drewN | apply Kd.S_drew));exact Kd.S_mono HO_5.out (fun _ hk=>trivial)⟩,⟨taag⟩,⟨taaf⟩,⟨taaj⟩⟩
   ·rw [if_neg c7] at H
    have c7b0:decide (0<x6_1)=false:=zbj c7
    clear c7;simp only [zbl,zbp] at H
    obtain ⟨rfl,rfl,rfl⟩:=H
    go_wp2
    go_ret
    exact ⟨_,taai,taaz,taag,taaj,taaf⟩
theorem keep_cellA {W W1:World} {g:Nat} (hk:KeepBut W W1 g none) {p:Addr} {v:Value} (h:W.cell? p=some v) (hp:p.block≠g):W1.cell? p=some v:=by
 have hlt:=zaz W p h
 have e:=hk.2 p.block hlt hp (taac)
 unfold World.cell? at h ⊢
 rw [e]
 exact h
theorem keep_frozenA {W W1:World} {g:Nat} (hk:KeepBut W W1 g none) {p:Addr} {v:Value} (h:W.cell? p=some v) (hf:W.frozen? p=false) (hp:p.block≠g):W1.frozen? p=false:=by
 have hlt:=zaz W p h
 have e:=hk.2 p.block hlt hp (taac)
 unfold World.frozen? at hf ⊢
 rw [e]
 exact hf
theorem tri_keep {W W1:World} {g:Nat} (hk:KeepBut W W1 g none) {p q:Addr} {v u:Value} (h:W.cell? p=some v∧W.cell? q=some u∧W.frozen? q=false) (hp:p.block≠g) (hq:q.block≠g):W1.cell? p=some v∧W1.cell? q=some u∧W1.frozen? q=false :=
 ⟨keep_cellA hk h.1 hp,keep_cellA hk h.2.1 hq,keep_frozenA hk h.2.1 h.2.2 hq⟩
theorem tri_below {W W1:World} (hb:Below W.heap.size W W1) {p q:Addr} {v u:Value} (h:W.cell? p=some v∧W.cell? q=some u∧W.frozen? q=false):W1.cell? p=some v∧W1.cell? q=some u∧W1.frozen? q=false :=
 tri_keep (g:=W.heap.size+0) (KeepBut.of_below hb _ none) h (by have:=zaz W p h.1;omega) (by have:=zaz W q h.2.1;omega)
theorem holds_ex (q:Addr):∃ cq:World→Value,∀ (w':World) (v:Value),w'.cell? q=some v→w'.cell? q=some (cq w'):=⟨fun w'=>(w'.cell? q).getD (.int .i64 0),fun w' v h=>by show w'.cell? q=some ((w'.cell? q).getD (.int .i64 0));rw [h];rfl⟩
theorem tri_q {W:World} {p q:Addr} {v u:Value} {cq:World→Value} (hq:∀ (w':World) (v:Value),w'.cell? q=some v→w'.cell? q=some (cq w')) (h:W.cell? p=some v∧W.cell? q=some u∧W.frozen? q=false):W.cell? p=some v∧W.cell? q=some (cq W)∧W.frozen? q=false:=⟨h.1,hq W u h.2.1,h.2.2⟩
theorem tri_store {W:World} {p q:Addr} {v u x:Value} {cq:World→Value} (hq:∀ (w':World) (v:Value),w'.cell? q=some v→w'.cell? q=some (cq w')) (hpq:p.block≠q.block) (h:W.cell? p=some v∧W.cell? q=some u∧W.frozen? q=false):(W.setCell q x).cell? p=some v∧(W.setCell q x).cell? q=some (cq (W.setCell q x))∧(W.setCell q x).frozen? q=false :=
 ⟨(World.cell?_setCell_other W q p x (fun e=>hpq (by rw [e]))).trans h.1,hq _ x (World.cell?_setCell_same W q x h.2.1),by rw [World.frozen?_setCell];exact h.2.2⟩
theorem lit_C (W:World) (e:Nat) (xs:List Int) (hm:xs.length≤9223372036854775807):Kd.C (Kd.int .i64) (W.alloc (.cells (xs.map (Value.int .i64)).toArray e)) (some ⟨W.heap.size,0,none⟩) xs.length xs:=by
 have h:=own_lit W 0 e .i64 xs (Nat.zero_le _) hm
 obtain ⟨A,c,e1,h2⟩:=own_reads h
 injection e1 with e1 e2 e3
 subst e1;exact Kd.C_of_reads (d:=0) h2
theorem row_at {w W:World} {g:Nat} {ok:Nat→Prop} {A:Option Addr} {n c:Nat} {l:List (List Int)} (h:Kd.S (Kd.slice 3 (Kd.int .i64)) 25 W w.heap.size ok (.slice A n c) l) (i:Int) (h0:0≤i) (h1:i<(l.length:Int)) (j:Int) (k0:0≤j) (k1:j<((rd_L2 l i).length:Int)) (hg:some g≠(Value.slice A n c).ownBlock) (hg2:∀ {v:Value} {okv:Nat→Prop},Kd.R (Kd.int .i64) 3 W w.heap.size okv v (rd_L2 l i)→some g≠v.ownBlock) :
 ∃ (ad:Addr) (go cc:Nat),A=some ad∧(W.cell? (ad.add i.toNat)=some (.slice (some ⟨go,0,none⟩) (rd_L2 l i).length cc)∧W.cell? ⟨go,j.toNat,none⟩=some (.int .i64 (rd (rd_L2 l i) j))∧W.frozen? ⟨go,j.toNat,none⟩=false)∧w.heap.size≤go∧ad.block≠g∧go≠g∧ad.block≠go:=by
 obtain rfl:=(Kd.S_reads' h).1
 obtain ⟨ad,A0,c0,e,hx,hl,hi⟩:=at_L2 (Kd.S_reads' h).2.2 i h0 h1
 subst e;obtain ⟨ce,hce,hMe,hcc⟩:=Kd.S_get h [] i h0 h1
 obtain ⟨ve,rfl,ge⟩:=hMe
 have hv:=hcc 0 _ rfl
 rw [Nat.add_zero,show ((Kd.slice 3 (Kd.int .i64))).sz=1 from rfl,Nat.mul_one] at hv
 replace hv:=zbe (hv.symm.trans hx)
 rw [hv] at ge
 have HL:=(show Kd.R (Kd.int .i64) 3 _ _ _ _ (rd_L2 l i) from ge)
 obtain ⟨go,co,eo,gb,gl,cl,HG⟩:=Kd.R_form HL (by omega)
 injection eo with ea en ec
 subst ea;subst ec;obtain ⟨hx2,hf2⟩:=Kd.R_celln 0 HL j k0 k1
 refine ⟨ad,go,c0,rfl,⟨hx,hx2,hf2⟩,gb,fun e_=>hg (by simp [Value.ownBlock,e_]),fun e_=>hg2 HL (by simp [Value.ownBlock,e_]),fun e_ => ?_⟩
 obtain ⟨cs2,t2⟩:=Kd.S_typed h ad.block rfl
 rw [e_,HG] at t2
 injection t2 with t2
 injection t2 with _ t3
 exact absurd t3 (by decide)
def LitAt (W:World) (b:Nat) (xs:List Int) (g:Nat):Prop:=Kd.C (Kd.int .i64) W (some ⟨b,0,none⟩) xs.length xs∧b≠g
theorem lit_step {W W1:World} {b:Nat} {xs:List Int} {g:Nat} (hk:KeepBut W W1 g none) (h:LitAt W b xs g):LitAt W1 b xs g :=
 ⟨Kd.C_foot_now (g:=g) (w:=W) (fun W' hk'=>⟨h.1.1,h.1.2.1,fun hn=>by
  obtain ⟨ad,e,hc⟩:=h.1.2.2 hn
  cases e
  refine ⟨_,rfl,fun j p hj => ?_⟩
  obtain ⟨c,h1,h2,h3⟩:=hc j p hj
  refine ⟨c,h1,h2,fun i u hu => ?_⟩
  have:=h3 i u hu
  exact keep_cellA hk' this (by unfold Addr.add;split <;> exact h.2)⟩) hk,h.2⟩
theorem lit_keep {W W1:World} {g e:Nat} (xs:List Int) (hk:KeepBut (W.alloc (.cells (xs.map (Value.int .i64)).toArray e)) W1 g none) (hm:xs.length≤9223372036854775807) (hg:W.heap.size≠g):LitAt W1 W.heap.size xs g:=lit_step hk ⟨lit_C W e xs hm,hg⟩
theorem head_at {W:World} {base:Nat} {ok:Nat→Prop} {A:Option Addr} {n c:Nat} {l:List (List Int)} (h:Kd.S (Kd.slice 3 (Kd.int .i64)) 25 W base ok (.slice A n c) l) (hn:0<l.length) :
 ∃ (g:Nat) (A0:Option Addr) (c0:Nat),A=some ⟨g,0,none⟩∧W.cell? ⟨g,0,none⟩=some (.slice A0 (rd_L2 l 0).length c0)∧W.frozen? ⟨g,0,none⟩=false∧(rd_L2 l 0).length≤c0∧base≤g:=by
 obtain rfl:=(Kd.S_reads' h).1
 obtain ⟨g,cap,e,hb,hlt,cl,hc⟩:=Kd.S_form h hn
 injection e with e1 e2 e3
 subst e1;obtain ⟨ad,A0,c0,e,hx,hl,hi⟩:=at_L2 (Kd.S_reads' h).2.2 0 (Int.le_refl 0) (by omega)
 cases e
 exact ⟨g,A0,c0,rfl,hx,blk_frozen hc 0,hl,hb⟩
theorem cut_row {W:World} {base:Nat} {ok:Nat→Prop} {g n cap:Nat} {l:List (List Int)} (h:Kd.S (Kd.slice 3 (Kd.int .i64)) 25 W base ok (.slice (some ⟨g,0,none⟩) n cap) l) (hn:0<l.length) {A0:Option Addr} {c0:Nat} (hx:W.cell? ⟨g,0,none⟩=some (.slice A0 (rd_L2 l 0).length c0)) (hc:1≤(rd_L2 l 0).length) :
 Kd.V (Kd.slice 3 (Kd.int .i64)) 25 (W.setCell ⟨g,0,none⟩ (.slice (if c0=1 then A0 else A0.map (·.add 1)) ((rd_L2 l 0).length - 1) (c0 - 1))) base ok (.slice (some ⟨g,0,none⟩) n cap) (l.set 0 ((rd_L2 l 0).drop 1))∧W.grownBy (W.setCell ⟨g,0,none⟩ (.slice (if c0=1 then A0 else A0.map (·.add 1)) ((rd_L2 l 0).length - 1) (c0 - 1))) (some g):=by
 have hnn:=(Kd.S_reads' h).1
 have hN:=Kd.S_N h
 obtain ⟨cs,hcl,hFK,hcells,hfz⟩:=Kd.N_elem hN [] 0 (Int.le_refl 0) (by omega)
 obtain ⟨A1,c1,rfl,hl1,hF⟩:=Kd.FK_slice_open hFK
 have e:=hcells 0 _ rfl
 have e':(W.cell? ⟨g,0,none⟩)=some (.slice A1 (l.getD (0:Int).toNat []).length c1):=e
 rw [hx] at e'
 have e2:=zbe e'
 injection e2 with ea en ec
 subst ea;subst ec;have hrow:l.getD (0:Int).toNat []=rd_L2 l 0:=rfl
 rw [hrow] at hF hl1
 have hF2:Kd.F (Kd.int .i64) W (fun k=>ok k∧k≠g) (if c0=1 then A0 else A0.map (·.add 1)) ((rd_L2 l 0).drop 1).length ((rd_L2 l 0).drop 1):=Kd.F_imp hF (fun W' hC=>Kd.C_drop (m:=1) (c:=c0) hC hc hl1)
 have hlen:((rd_L2 l 0).drop 1).length=(rd_L2 l 0).length - 1:=zaw
 have hM:=Kd.FK_slice_mk (e:=3) (c:=c0 - 1) (by rw [hlen];exact Nat.sub_le_sub_right hl1 1) hF2
 rw [hlen] at hM
 obtain ⟨k1,k2⟩:=Kd.N_seg hN 0 (Int.le_refl 0) (by omega) (seg:=[.slice (if c0=1 then A0 else A0.map (·.add 1)) ((rd_L2 l 0).length - 1) (c0 - 1)]) (j:=0) hcl hcells (zcf 1) hM (fun k hk=>hk)
 have k3:=Kd.N_reads' k1
 obtain rfl:=k3.1
 exact ⟨⟨_,_,rfl,k3.2.1,Kd.N_F k1⟩,k2⟩
mutual
def spec_l1Cur_square.j2:Nat→Int→List (List Int)→List Int→Int→Int→Option ((List (List Int)) × Int × Int)
 | 0,_,_,_,_,_=>none
 | k+1,x3,x4,x1000,x1001,x1002=>(spec_l1Cur_pick.f x1000 x1001 x1002 16).bind fun bt315=>(if bt315.1=0 then ((spec_l1Cur_pick.f x1000 bt315.2.1 bt315.2.2 x3).bind fun bt318=>((spec_l1Cur_pick.f x1000 bt318.2.1 bt318.2.2 x3).bind fun bt321=>((spec_l1Cur_among.f x1000 bt321.2.1 bt321.2.2 (([(-1),0,1000000,1000001,4611686018427387904]:List Int))).bind fun bt327=>(if 0≤bt318.1 then (if bt318.1<(x4.length:Int) then (if 0≤bt321.1 then (if bt321.1<((rd_L2 x4 bt318.1).length:Int) then (some ((x4.set (bt318.1:Int).toNat ((rd_L2 x4 bt318.1).set (bt321.1:Int).toNat bt327.1)),bt327.2.1,bt327.2.2)) else (none)) else (none)) else (none)) else (none))))) else (if bt315.1=1 then (if 0≤x3 then (if (x3:Int).toNat≤35184372088832 then (if x4.length<5864062014805 then (some ((x4 ++ [(List.replicate (x3:Int).toNat 0)]),bt315.2.1,bt315.2.2)) else (none)) else (none)) else (none)) else (if bt315.1=2 then (if 0<(x4.length:Int) then (if 1≤((rd_L2 x4 0).length:Int) then (some ((x4.set 0 ((rd_L2 x4 0).drop 1)),bt315.2.1,bt315.2.2)) else (none)) else (none)) else (if bt315.1=3 then (some (([]:List (List Int)),bt315.2.1,bt315.2.2)) else (some (x4,bt315.2.1,bt315.2.2))))))
def spec_l1Cur_square.l0:Nat→Int→List (List Int)→Int→Int→List Int→Int→Int→Option ((List (List Int)) × Int × Int)
 | 0,_,_,_,_,_,_,_=>none
 | k+1,x3,x4,x15,x16,x1000,x1001,x1002=>if x16<x15 then (spec_l1Cur_square.l1 k x3 x4 x16 x15 x16 (x4.length:Int) 0 x1000 x1001 x1002) else (spec_l1Cur_square.j2 k x3 x4 x1000 x1001 x1002)
def spec_l1Cur_square.l1:Nat→Int→List (List Int)→Int→Int→Int→Int→Int→List Int→Int→Int→Option ((List (List Int)) × Int × Int)
 | 0,_,_,_,_,_,_,_,_,_,_=>none
 | k+1,x3,x4,x5,x15,x16,x20,x21,x1000,x1001,x1002=>if x21<x20 then ((spec_l1Cur_pick.f x1000 x1001 x1002 9).bind fun bt302=>((spec_l1Cur_among.f x1000 bt302.2.1 bt302.2.2 (([0,0,1,2,bt302.1]:List Int))).bind fun bt308=>(if 0≤x5 then (if x5<(x4.length:Int) then (if 0≤x21 then (if x21<((rd_L2 x4 x5).length:Int) then (spec_l1Cur_square.l1 k x3 (x4.set (x5:Int).toNat ((rd_L2 x4 x5).set (x21:Int).toNat bt308.1)) x5 x15 x16 x20 (wrap64 (x21+1)) x1000 bt308.2.1 bt308.2.2) else (none)) else (none)) else (none)) else (none)))) else (spec_l1Cur_square.l0 k x3 x4 x15 (wrap64 (x16+1)) x1000 x1001 x1002)
end
def spec_l1Cur_square.f (k:Nat) (s0_0:List Int) (s0_1:Int) (s0_2:Int):Option ((List (List Int)) × Int × Int):=(spec_l1Cur_side.f s0_0 s0_1 s0_2).bind fun bt291=>((spec_l1Cur_equal.f k s0_0 bt291.2.1 bt291.2.2 bt291.1).bind fun bt294=>((spec_l1Cur_one.f s0_0 bt294.2.1 bt294.2.2 3).bind fun bt299=>(if bt299.1=true then (spec_l1Cur_square.l0 k bt291.1 bt294.1 (bt294.1.length:Int) 0 s0_0 bt299.2.1 bt299.2.2) else (spec_l1Cur_square.j2 k bt291.1 bt294.1 s0_0 bt299.2.1 bt299.2.2))))
theorem spec_l1Cur_square.calls (k:Nat) (g:Nat) (s0_0:List Int) (s0_1:Int) (s0_2:Int) (r1:List (List Int)) (r2:Int) (r3:Int) (w0 w:World) (hI:IsS43 w0 w g s0_0 s0_1 s0_2) (hB:Below w0.heap.size w0 w) (h:spec_l1Cur_square.f k s0_0 s0_1 s0_2=some (r1,r2,r3)) :
 Calls Tryz.prog 15 #[.pointer (some ⟨g,0,none⟩)] w fun e w'=>∃ v0_:Value,e = .returned (v0_)∧Kd.V (Kd.slice 3 (Kd.int .i64)) 25 w' w.heap.size (fun k_=>w.heap.size≤k_) v0_ r1∧IsS43 w0 w' g s0_0 r2 r3∧Below w0.heap.size w0 w'∧KeepBut w w' g none:=by
 have HI0:=zad hI;have HK:=zad (KeepBut.refl w g none)
 have HL:=zad hB.size;clear hI;have HW0:=zad hB.size;have HB:=zad hB;clear hB;have H:((spec_l1Cur_side.f s0_0 s0_1 s0_2).bind fun bt291=>((spec_l1Cur_equal.f k s0_0 bt291.2.1 bt291.2.2 bt291.1).bind fun bt294=>((spec_l1Cur_one.f s0_0 bt294.2.1 bt294.2.2 3).bind fun bt299=>(if bt299.1=true then (spec_l1Cur_square.l0 k bt291.1 bt294.1 (bt294.1.length:Int) 0 s0_0 bt299.2.1 bt299.2.2) else (spec_l1Cur_square.j2 k bt291.1 bt294.1 s0_0 bt299.2.1 bt299.2.2)))))=some (r1,r2,r3):=h
 clear h;replace H:=zay.mp H;obtain ⟨⟨t291,t292,t293⟩,A20,H⟩:=H
 replace H:((spec_l1Cur_equal.f k s0_0 t292 t293 t291).bind fun bt294=>((spec_l1Cur_one.f s0_0 bt294.2.1 bt294.2.2 3).bind fun bt299=>(if bt299.1=true then (spec_l1Cur_square.l0 k t291 bt294.1 (bt294.1.length:Int) 0 s0_0 bt299.2.1 bt299.2.2) else (spec_l1Cur_square.j2 k t291 bt294.1 s0_0 bt299.2.1 bt299.2.2))))=some (r1,r2,r3):=H
 have A2:=zad A20;clear A20;replace H:=zay.mp H;obtain ⟨⟨t294,t297,t298⟩,A30,H⟩:=H
 replace H:((spec_l1Cur_one.f s0_0 t297 t298 3).bind fun bt299=>(if bt299.1=true then (spec_l1Cur_square.l0 k t291 t294 (t294.length:Int) 0 s0_0 bt299.2.1 bt299.2.2) else (spec_l1Cur_square.j2 k t291 t294 s0_0 bt299.2.1 bt299.2.2)))=some (r1,r2,r3):=H
 have A3:=zad A30;clear A30;replace H:=zay.mp H;obtain ⟨⟨t299,t300,t301⟩,A40,H⟩:=H
 replace H:(if t299=true then (spec_l1Cur_square.l0 k t291 t294 (t294.length:Int) 0 s0_0 t300 t301) else (spec_l1Cur_square.j2 k t291 t294 s0_0 t300 t301))=some (r1,r2,r3):=H
 have A4:=zad A40;clear A40;have HC5:=zad H;clear H;go_enter Tryz.func15,Tryz.ntmps15
 go_upto_if 13 with (first | ((with_reducible refine zbh (f:=49) rfl ?_);refine zbn (some 8) rfl rfl Tryz.func49 (by kernel_rfl) rfl #[.pointer (some ⟨g,0,none⟩)] rfl (taae) ?_;(with_reducible refine (spec_l1Cur_side.calls g s0_0 s0_1 s0_2 t291 t292 t293 w0 _ ?side1 ?side2 A2.out).mono ?_);(case side1=>repeat (first | (with_reducible first | exact HI0.out | apply zcg | apply zch | apply zci | apply zcl | apply zcm) | exact HI0.out));(case side2=>repeat (first | (with_reducible first | exact HB.out | apply zag | apply zae | apply zaf | refine zah ?_ (zck HI0.out)) | exact HB.out));rintro e w6 ⟨rfl,hi,hb,hk⟩;refine ⟨_,rfl,?_⟩;have n0_:=zad (zbs (taaf) hk (.inl rfl));have n1_:=zad (hb);have n2_:=zad (hi);clear HK HB HI0;have HK:=n0_;have HB:=n1_;have HI0:=n2_;clear n0_ n1_ n2_;(try clear hb);(try clear hb2);(try clear hk);(try clear hi)) | ((with_reducible refine zbh (f:=50) rfl ?_);refine zbn (some 11) rfl rfl Tryz.func50 (by kernel_rfl) rfl #[.pointer (some ⟨g,0,none⟩),.int .i64 t291] rfl (taae) ?_;(with_reducible refine (spec_l1Cur_equal.calls k g s0_0 t292 t293 t291 t294 t297 t298 w0 _ ?side1 ?side2 A3.out).mono ?_);(case side1=>repeat (first | (with_reducible first | exact HI0.out | apply zcg | apply zch | apply zci | apply zcl | apply zcm) | exact HI0.out));(case side2=>repeat (first | (with_reducible first | exact HB.out | apply zag | apply zae | apply zaf | refine zah ?_ (zck HI0.out)) | exact HB.out));rintro e w7 ⟨v295,rfl,ho0,hi,hb,hk⟩;refine ⟨_,rfl,?_⟩;have n0_:=zad (Kd.S_lower ho0 (keep_size (w:=w) (g:=g) (row:=none) (taaf)));have n1_:=zad (zbs (taaf) hk (.inl rfl));have n2_:=zad (hb);have n3_:=zad (hi);clear HK HB HI0;have HO296:=n0_;have HK:=n1_;have HB:=n2_;have HI0:=n3_;clear n0_ n1_ n2_ n3_;(try clear hb);(try clear hb2);(try clear hk);(try clear hi);(try clear ho0)) | ((with_reducible refine zbh (f:=16) rfl ?_);refine zbn (some 13) rfl rfl Tryz.func16 (by kernel_rfl) rfl #[.pointer (some ⟨g,0,none⟩),.int .i64 3] rfl (taae) ?_;(with_reducible refine (spec_l1Cur_one.calls g s0_0 t297 t298 3 t299 t300 t301 w0 _ ?side1 ?side2 A4.out).mono ?_);(case side1=>repeat (first | (with_reducible first | exact HI0.out | apply zcg | apply zch | apply zci | apply zcl | apply zcm) | exact HI0.out));(case side2=>repeat (first | (with_reducible first | exact HB.out | apply zag | apply zae | apply zaf | refine zah ?_ (zck HI0.out)) | exact HB.out));rintro e w8 ⟨rfl,hi,hb,hk⟩;refine ⟨_,rfl,?_⟩;have n0_:=zad (Kd.S_mono (Kd.S_keep (IsS43.apartS (show IsS43 w0 _ g s0_0 t297 t298 from by exact tafh) (tacq) (by decide)) hk (fun _ h=>h.2)) (fun _ h=>h.1));have n1_:=zad (zbs (taaf) hk (.inl rfl));have n2_:=zad (hb);have n3_:=zad (hi);clear HO296 HK HB HI0;have HO296:=n0_;have HK:=n1_;have HB:=n2_;have HI0:=n3_;clear n0_ n1_ n2_ n3_;(try clear hb);(try clear hb2);(try clear hk);(try clear hi)))
 (try simp only [Act.put,zaa,zab,zac])
 go_cut [] (fun wc=>∃ (kq:Nat) (x4_4:List (List Int)) (x1001_4:Int) (x1002_4:Int),Aside0 (spec_l1Cur_square.j2 kq t291 x4_4 s0_0 x1001_4 x1002_4=some (r1,r2,r3))∧Aside0 (kq≤k)∧Aside0 (Kd.S (Kd.slice 3 (Kd.int .i64)) 25 wc w.heap.size (fun _=>True) v295 x4_4)∧Aside0 (IsS43 w0 wc g s0_0 x1001_4 x1002_4)∧Aside0 (KeepBut w wc g none)∧Aside0 (Below w0.heap.size w0 wc))
 case first =>
  have H:=HC5.out
  clear HC5;by_cases c9:t299=true
  ·subst c9
   have H1:(spec_l1Cur_square.l0 k t291 t294 (t294.length:Int) 0 s0_0 t300 t301)=some (r1,r2,r3):=by rw [if_pos rfl] at H;exact H
   clear H;have H:=H1;clear H1;have H':=zad H
   clear H;obtain ⟨Ao10,co10,eo10⟩:=Kd.S_slice HO296.out
   subst eo10;go_wp2
   go_loopg [16] k (fun kq v16 w'=>∃ (x4_1:List (List Int)) (x16_1:Int) (x1001_1:Int) (x1002_1:Int),v16 = .int .i64 x16_1∧Aside0 (spec_l1Cur_square.l0 kq t291 x4_1 (t294.length:Int) x16_1 s0_0 x1001_1 x1002_1=some (r1,r2,r3))∧Aside0 (kq≤k)∧Aside0 (Kd.S (Kd.slice 3 (Kd.int .i64)) 25 w' w.heap.size (fun _=>True) (.slice Ao10 t294.length co10) x4_1)∧Aside0 (IsS43 w0 w' g s0_0 x1001_1 x1002_1)∧Aside0 (KeepBut w w' g none)∧Aside0 (Below w0.heap.size w0 w'))
   case atStart=>exact ⟨(t294),(0),(t300),(t301),(taad),H',⟨zcf _⟩,⟨tacq⟩,⟨taag⟩,⟨taaf⟩,⟨taaj⟩⟩
   case round =>
    clear H'
    try clear p2
    try clear c6
    try clear c7
    try clear c9
    obtain ⟨x4_1,x16_1,x1001_1,x1002_1,rfl,HA,HK1,HO_4,HI0,HK,HB⟩:=hrel
    have hl4_1:=(Kd.S_reads' HO_4.out).1
    rw [hl4_1] at HO_4
    (try simp only [hl4_1])
    cases gk with
    | zero=>exact absurd HA.out (by simp [spec_l1Cur_square.l0])
    | succ k1 =>
     have H:=HA.out
     clear HA;simp only [spec_l1Cur_square.l0] at H
     by_cases c11:x16_1<(t294.length:Int)
     ·rw [if_pos c11] at H
      have c11b0:decide (x16_1<(t294.length:Int))=true:=zba c11
      clear c11;(try simp only [hl4_1] at c11b0)
      (first | rw [c11b0] | (simp only [zbw,zbx];rw [c11b0]) | skip)
      have H':=zad H
      clear H;go_wp2
      go_loopg [21] k1 (fun kq v21 w'=>∃ (x4_2:List (List Int)) (x21_2:Int) (x1001_2:Int) (x1002_2:Int),v21 = .int .i64 x21_2∧Aside0 (spec_l1Cur_square.l1 kq t291 x4_2 x16_1 (t294.length:Int) x16_1 (x4_1.length:Int) x21_2 s0_0 x1001_2 x1002_2=some (r1,r2,r3))∧Aside0 (kq≤k1)∧Aside0 (Kd.S (Kd.slice 3 (Kd.int .i64)) 25 w' w.heap.size (fun _=>True) (.slice Ao10 x4_1.length co10) x4_2)∧Aside0 (IsS43 w0 w' g s0_0 x1001_2 x1002_2)∧Aside0 (KeepBut w w' g none)∧Aside0 (Below w0.heap.size w0 w'))
      case atStart=>exact ⟨(x4_1),(0),(x1001_1),(x1002_1),(taad),H',⟨zcf _⟩,⟨tadj⟩,⟨taag⟩,⟨taaf⟩,⟨taaj⟩⟩
      case round =>
       clear H'
       try clear c1
       try clear p2
       try clear c6
       try clear c7
       try clear c9
       try clear c11
       try clear c11b0
       try clear p2
       obtain ⟨x4_2,x21_2,x1001_2,x1002_2,rfl,HA,HK2,HO_4,HI0,HK,HB⟩:=hrel
       have hl4_2:=(Kd.S_reads' HO_4.out).1
       rw [hl4_2] at HO_4
       (try simp only [hl4_2])
       cases gk with
       | zero=>exact absurd HA.out (by simp [spec_l1Cur_square.l1])
       | succ k2 =>
        have H:=HA.out
        clear HA;simp only [spec_l1Cur_square.l1] at H
        by_cases c12:x21_2<(x4_1.length:Int)
        ·rw [if_pos c12] at H
         have c12b0:decide (x21_2<(x4_1.length:Int))=true:=zba c12
         clear c12;(try simp only [hl4_2] at c12b0)
         replace H:=zay.mp H;obtain ⟨⟨t302,t303,t304⟩,A130,H⟩:=H
         replace H:((spec_l1Cur_among.f s0_0 t303 t304 (([0,0,1,2,t302]:List Int))).bind fun bt308=>(if 0≤x16_1 then (if x16_1<(x4_2.length:Int) then (if 0≤x21_2 then (if x21_2<((rd_L2 x4_2 x16_1).length:Int) then (spec_l1Cur_square.l1 k2 t291 (x4_2.set (x16_1:Int).toNat ((rd_L2 x4_2 x16_1).set (x21_2:Int).toNat bt308.1)) x16_1 (t294.length:Int) x16_1 (x4_1.length:Int) (wrap64 (x21_2+1)) s0_0 bt308.2.1 bt308.2.2) else (none)) else (none)) else (none)) else (none)))=some (r1,r2,r3):=H
         have A13:=zad A130;clear A130;obtain ⟨y305,hy305⟩:∃ y_:List Int,y_=(([0,0,1,2,t302]:List Int)):=⟨_,rfl⟩
         replace H:((spec_l1Cur_among.f s0_0 t303 t304 y305).bind fun bt308=>(if 0≤x16_1 then (if x16_1<(x4_2.length:Int) then (if 0≤x21_2 then (if x21_2<((rd_L2 x4_2 x16_1).length:Int) then (spec_l1Cur_square.l1 k2 t291 (x4_2.set (x16_1:Int).toNat ((rd_L2 x4_2 x16_1).set (x21_2:Int).toNat bt308.1)) x16_1 (t294.length:Int) x16_1 (x4_1.length:Int) (wrap64 (x21_2+1)) s0_0 bt308.2.1 bt308.2.2) else (none)) else (none)) else (none)) else (none)))=some (r1,r2,r3):=by first | (rw [hy305];with_reducible exact H) | (have H2_:=(zbd _ _).symm.trans H;rw [hy305];with_reducible exact H2_) | (have H2_:=(zbd _ _).symm.trans H;with_reducible exact H2_) | with_reducible exact H | (rw [hy305];exact H) | exact H
         have Ny305:=zad hy305;clear hy305;replace H:=zay.mp H;obtain ⟨⟨t308,t309,t310⟩,A140,H⟩:=H
         replace H:(if 0≤x16_1 then (if x16_1<(x4_2.length:Int) then (if 0≤x21_2 then (if x21_2<((rd_L2 x4_2 x16_1).length:Int) then (spec_l1Cur_square.l1 k2 t291 (x4_2.set (x16_1:Int).toNat ((rd_L2 x4_2 x16_1).set (x21_2:Int).toNat t308)) x16_1 (t294.length:Int) x16_1 (x4_1.length:Int) (wrap64 (x21_2+1)) s0_0 t309 t310) else (none)) else (none)) else (none)) else (none))=some (r1,r2,r3):=H
         have A14:=zad A140;clear A140;by_cases c15:0≤x16_1
         ·rw [if_pos c15] at H
          have c15b0:decide (0≤x16_1)=true:=zba c15
          clear c15;by_cases c16:x16_1<(x4_2.length:Int)
          ·rw [if_pos c16] at H
           have c16b0:decide (x16_1<(x4_2.length:Int))=true:=zba c16
           clear c16;by_cases c17:0≤x21_2
           ·rw [if_pos c17] at H
            have c17b0:decide (0≤x21_2)=true:=zba c17
            clear c17;by_cases c18:x21_2<((rd_L2 x4_2 x16_1).length:Int)
            ·rw [if_pos c18] at H
             have c18b0:decide (x21_2<((rd_L2 x4_2 x16_1).length:Int))=true:=zba c18
             clear c18;obtain ⟨y312,hy312⟩:∃ y_:List Int,y_=((rd_L2 x4_2 x16_1).set (x21_2:Int).toNat t308):=⟨_,rfl⟩
             replace H:(spec_l1Cur_square.l1 k2 t291 (x4_2.set (x16_1:Int).toNat y312) x16_1 (t294.length:Int) x16_1 (x4_1.length:Int) (wrap64 (x21_2+1)) s0_0 t309 t310)=some (r1,r2,r3):=by first | (rw [hy312];with_reducible exact H) | (have H2_:=(zbd _ _).symm.trans H;rw [hy312];with_reducible exact H2_) | (have H2_:=(zbd _ _).symm.trans H;with_reducible exact H2_) | with_reducible exact H | (rw [hy312];exact H) | exact H
             have Ny312:=zad hy312;clear hy312;obtain ⟨y314,hy314⟩:∃ y_:List (List Int),y_=(x4_2.set (x16_1:Int).toNat y312):=⟨_,rfl⟩
             replace H:(spec_l1Cur_square.l1 k2 t291 y314 x16_1 (t294.length:Int) x16_1 (x4_1.length:Int) (wrap64 (x21_2+1)) s0_0 t309 t310)=some (r1,r2,r3):=by first | (rw [hy314];with_reducible exact H) | (have H2_:=(zbd _ _).symm.trans H;rw [hy314];with_reducible exact H2_) | (have H2_:=(zbd _ _).symm.trans H;with_reducible exact H2_) | with_reducible exact H | (rw [hy314];exact H) | exact H
             have Ny314:=zad hy314;clear hy314;have H':=zad H
             clear H;have p311:0≤(x16_1:Int):=zas (taaa)
             have q311:x16_1<(x4_2.length:Int):=zas (taaa)
             have p19:0≤(x21_2:Int):=zas (taaa)
             have q19:(x21_2:Int)<((rd_L2 x4_2 x16_1).length:Int):=zas (taaa)
             obtain ⟨ad311,go19,c311_0,e311,x0,gb19,hne,hne2,hne3⟩:=row_at HO_4.out x16_1 p311 q311 x21_2 p19 q19 (IsS43.own_neS HI0.out HO_4.out (by decide)) (fun hr=>IsS43.own_ne HI0.out hr (by decide))
             cases e311
             have hnb:(ad311.add x16_1.toNat).block≠g:=by unfold Addr.add;split <;> exact hne
             have hnc:(ad311.add x16_1.toNat).block≠go19:=by unfold Addr.add;split <;> exact hne3
             obtain ⟨cq,hcq⟩:=holds_ex ⟨go19,x21_2.toNat,none⟩
             replace x0:=tri_q hcq x0
             clear hne hne3;have GB19:=zad gb19;clear gb19;obtain rfl:=Ny305.out
             replace p311:=eq_true p311
             replace q311:=eq_true q311
             replace p19:=eq_true p19
             replace q19:=eq_true q19
             go_wp2
             go_region_held3 (fun w'=>w'.cell? (ad311.add x16_1.toNat)=some (.slice (some ⟨go19,0,none⟩) (rd_L2 x4_2 x16_1).length c311_0)∧w'.cell? ⟨go19,x21_2.toNat,none⟩=some (cq w')∧w'.frozen? ⟨go19,x21_2.toNat,none⟩=false) (first | exact x0 | exact tri_q hcq x0 | exact x9 | exact x10 | exact tri_q hcq (tri_below (zag (Below.refl _ _) _) x9) | exact tri_store hcq hnc x10 | (simp [go_sem];done)) (first | (go_at_call 18;(refine (zcn g s0_0 x1001_2 x1002_2 9 t302 t303 t304 w0 _ ?side1 ?side2 A13.out).mono ?_);(case side1=>repeat (first | (with_reducible first | exact HI0.out | apply zcg | apply zch | apply zci | apply zcl | apply zcm) | exact HI0.out));(case side2=>repeat (first | (with_reducible first | exact HB.out | apply zag | apply zae | apply zaf | refine zah ?_ (zck HI0.out)) | exact HB.out));rintro e w20 ⟨rfl,hi,hb,hk⟩;have x9:=tri_q hcq (tri_keep hk x0 hnb hne2);clear x0;have n0_:=zad (Kd.S_mono (Kd.S_keep (IsS43.apartS (show IsS43 w0 _ g s0_0 x1001_2 x1002_2 from by exact tafh) (taba) (by decide)) hk (fun _ h=>h.2)) (fun _ h=>h.1));have n1_:=zad (zbs (taaf) hk (.inl rfl));have n2_:=zad (hb);have n3_:=zad (hi);clear HO_4 HK HB HI0;have HO_4:=n0_;have HK:=n1_;have HB:=n2_;have HI0:=n3_;clear n0_ n1_ n2_ n3_;(try clear hb);(try clear hb2);(try clear hk);(try clear hi)) | (go_at_call 19;(refine (spec_l1Cur_among.calls g s0_0 t303 t304 _ _ [0,0,1,2,t302] t308 t309 t310 w0 _ ?side1 ?side2 ?side3 ?side4 ?side5 A14.out).mono ?_);(case side1=>repeat (first | (with_reducible first | exact HI0.out | apply zcg | apply zch | apply zci | apply zcl | apply zcm) | exact HI0.out));(case side2=>repeat (first | (with_reducible first | exact HB.out | apply zag | apply zae | apply zaf | refine zah ?_ (zck HI0.out)) | exact HB.out));(case side3=>exact lit_C _ _ [0,0,1,2,t302] (taac));(case side4=>exact zcf _);(case side5=>exact (by rintro ad_ h_ _;injection h_ with h_;subst h_;exact IsS43.fresh HI0.out _ (zcf _)));rintro e w24 ⟨rfl,hi,hb,hk⟩;have x10:=tri_q hcq (tri_keep hk (tri_below (zag (Below.refl _ _) _) x9) hnb hne2);clear x9;have n0_:=zad (Kd.S_mono (Kd.S_keep (IsS43.apartS (show IsS43 w0 _ g s0_0 t303 t304 from by exact tafh) (taba) (by decide)) hk (fun _ h=>h.2)) (fun _ h=>h.1));have n2_:=zad (zbs (taaf) hk (.inl rfl));have n3_:=zad (hb);have n4_:=zad (hi);clear HO_4 HK HB HI0;have HO_4:=n0_;have HK:=n2_;have HB:=n3_;have HI0:=n4_;clear n0_ n2_ n3_ n4_;(try clear hb);(try clear hb2);(try clear hk);(try clear hi)))
             obtain ⟨w26,hw⟩:∃ w26,w26=w24.setCell ⟨go19,x21_2.toNat,none⟩ (.int .i64 t308):=⟨_,rfl⟩
             rw [← hw]
             obtain ⟨oki25,ce25,hcl25,hM25,hcc25,hok25,hbk25⟩:=Kd.S_borrow HO_4.out [] (x16_1:Int) (of_eq_true p311) (of_eq_true q311)
             obtain ⟨ve25_0,rfl,ge25_0⟩:=hM25
             have hv25:=hcc25 0 _ rfl
             rw [Nat.add_zero,show ((Kd.slice 3 (Kd.int .i64))).sz=1 from rfl,Nat.mul_one] at hv25
             replace hv25:=zbe (hv25.symm.trans x10.1)
             subst hv25;clear hcc25 hcl25;replace ge25_0:=(show Kd.R (Kd.int .i64) 3 _ _ _ _ (rd_L2 x4_2 x16_1) from ge25_0)
             have HP25:=Kd.R_putg ge25_0 (x21_2:Int) t308
             have hg:w24.grownBy w26 (some go19):=(by rw [hw];exact HP25.2)
             have hz_:Kd.R (Kd.int .i64) 3 w26 w.heap.size oki25 (.slice (some ⟨go19,0,none⟩) (rd_L2 x4_2 x16_1).length c311_0) y312:=(by rw [hw,Ny312.out];exact HP25.1)
             have hp_:=zad (show Kd.S (Kd.slice 3 (Kd.int .i64)) 25 w26 w.heap.size _ (.slice (some ad311) x4_2.length co10) y314 from (by rw [Ny314.out];exact hbk25 hg (fun k_ e_=>by injection e_ with e_;subst e_;exact ge25_0.1 _ rfl) (Kd.M_row hz_)))
             have hi_:=zad (IsS43.grown HI0.out hg (fun e_=>hne2 (by injection e_ with e_;exact e_.symm)))
             have hb_:=zad ((by rw [hw];exact zah (HB.out) (Nat.le_trans HL.out GB19.out):Below w0.heap.size w0 w26))
             have hk_:=zad (zbs HK.out (KeepBut.of_grown hg g) (.inr ⟨go19,rfl,GB19.out⟩))
             clear HP25 hbk25 ge25_0 hok25 hz_ hg hw HO_4 HI0 HK HB x10 hcq hnb hnc hne2;have HO_4:=hp_
             have HI0:=hi_
             have HB:=hb_
             have HK:=hk_
             clear hp_ hi_ hb_ hk_;go_wp2
             (try simp only [← hl4_2])
             go_roundg k2
             case measure=>have:=HK1.out;have:=HK2.out;omega
             case rel=>exact ⟨(y314),(wrap64 (x21_2+1)),(t309),(t310),(taad),H',⟨taao⟩,⟨by (try simp only [hl4_1]);(try simp only [hl4_2]);(with_reducible repeat (first | apply Kd.S_alloc | apply Kd.S_drewN | apply Kd.S_drew));exact Kd.S_mono HO_4.out (fun _ hk=>trivial)⟩,⟨taag⟩,⟨taaf⟩,⟨taaj⟩⟩
            ·rw [if_neg c18] at H
             exact absurd H (taac)
           ·rw [if_neg c17] at H
            exact absurd H (taac)
          ·rw [if_neg c16] at H
           exact absurd H (taac)
         ·rw [if_neg c15] at H
          exact absurd H (taac)
        ·rw [if_neg c12] at H
         have c12b0:decide (x21_2<(x4_1.length:Int))=false:=zbj c12
         clear c12;(try simp only [hl4_2] at c12b0)
         have H':=zad H
         clear H;go_wp2
         (try simp only [← hl4_1,← hl4_2])
         go_roundg k2
         case measure=>have:=HK1.out;have:=HK2.out;omega
         case rel=>exact ⟨(x4_2),(wrap64 (x16_1+1)),(x1001_2),(x1002_2),(taad),H',⟨taao⟩,⟨by (try simp only [hl4_1]);(try simp only [hl4_2]);(with_reducible repeat (first | apply Kd.S_alloc | apply Kd.S_drewN | apply Kd.S_drew));exact HO_4.out⟩,⟨taag⟩,⟨taaf⟩,⟨taaj⟩⟩
     ·rw [if_neg c11] at H
      have c11b0:decide (x16_1<(t294.length:Int))=false:=zbj c11
      clear c11;(try simp only [hl4_1] at c11b0)
      (first | rw [c11b0] | (simp only [zbw,zbx];rw [c11b0]) | skip)
      have H':=zad H
      clear H;go_wp2
      (try simp only [← hl4_1])
      go_meet
      case rel=>exact ⟨_,(x4_1),(x1001_1),(x1002_1),H',⟨tabw⟩,⟨tadj⟩,⟨taag⟩,⟨taaf⟩,⟨taaj⟩⟩
  ·replace c9:=zbi.mpr c9
   subst c9;have H1:(spec_l1Cur_square.j2 k t291 t294 s0_0 t300 t301)=some (r1,r2,r3):=by rw [if_neg (show ¬ (false=true) by decide)] at H;exact H
   clear H;have H:=H1;clear H1;have H':=zad H
   clear H;go_wp2
   go_meet
   case rel=>exact ⟨_,(t294),(t300),(t301),H',⟨taas⟩,⟨tacq⟩,⟨taag⟩,⟨taaf⟩,⟨taaj⟩⟩
 case rest =>
  clear HC5;try clear c1
  try clear p1
  try clear q1
  try clear hx1
  try clear hf1
  try clear c2
  try clear p2
  try clear q2
  try clear c3
  try clear p3
  try clear q3
  try clear hx3
  try clear c6
  try clear p6
  try clear c7
  try clear c9
  try clear c11
  try clear c11b0
  try clear c12
  try clear c12b0
  try clear c15
  try clear c15b0
  try clear c16
  try clear c16b0
  try clear c17
  try clear c17b0
  try clear c18
  try clear c18b0
  try clear p19
  try clear q19
  try clear hx19
  try clear hf19
  try clear c25
  try clear q25
  try clear hx19_0
  try clear hx311_0
  try clear p19
  try clear p2
  try clear p311
  try clear q19
  try clear q311
  obtain ⟨kq,x4_4,x1001_4,x1002_4,HA,HJ4,HO_4,HI0,HK,HB⟩:=hcut
  cases kq with
  | zero=>exact absurd HA.out (by simp [spec_l1Cur_square.j2])
  | succ kj4 =>
   have H:=HA.out
   clear HA;simp only [spec_l1Cur_square.j2] at H
   replace H:=zay.mp H;obtain ⟨⟨t315,t316,t317⟩,A270,H⟩:=H
   replace H:(if t315=0 then ((spec_l1Cur_pick.f s0_0 t316 t317 t291).bind fun bt318=>((spec_l1Cur_pick.f s0_0 bt318.2.1 bt318.2.2 t291).bind fun bt321=>((spec_l1Cur_among.f s0_0 bt321.2.1 bt321.2.2 (([(-1),0,1000000,1000001,4611686018427387904]:List Int))).bind fun bt327=>(if 0≤bt318.1 then (if bt318.1<(x4_4.length:Int) then (if 0≤bt321.1 then (if bt321.1<((rd_L2 x4_4 bt318.1).length:Int) then (some ((x4_4.set (bt318.1:Int).toNat ((rd_L2 x4_4 bt318.1).set (bt321.1:Int).toNat bt327.1)),bt327.2.1,bt327.2.2)) else (none)) else (none)) else (none)) else (none))))) else (if t315=1 then (if 0≤t291 then (if (t291:Int).toNat≤35184372088832 then (if x4_4.length<5864062014805 then (some ((x4_4 ++ [(List.replicate (t291:Int).toNat 0)]),t316,t317)) else (none)) else (none)) else (none)) else (if t315=2 then (if 0<(x4_4.length:Int) then (if 1≤((rd_L2 x4_4 0).length:Int) then (some ((x4_4.set 0 ((rd_L2 x4_4 0).drop 1)),t316,t317)) else (none)) else (none)) else (if t315=3 then (some (([]:List (List Int)),t316,t317)) else (some (x4_4,t316,t317))))))=some (r1,r2,r3):=H
   have A27:=zad A270;clear A270;by_cases c28:t315=0
   ·rw [if_pos c28] at H
    have c28b0:(t315 == 0)=true:=beq_iff_eq.mpr c28
    have c28b1:(t315 != 0)=false:=bne_eq_false_iff_eq.mpr c28
    clear c28;replace H:=zay.mp H;obtain ⟨⟨t318,t319,t320⟩,A290,H⟩:=H
    replace H:((spec_l1Cur_pick.f s0_0 t319 t320 t291).bind fun bt321=>((spec_l1Cur_among.f s0_0 bt321.2.1 bt321.2.2 (([(-1),0,1000000,1000001,4611686018427387904]:List Int))).bind fun bt327=>(if 0≤t318 then (if t318<(x4_4.length:Int) then (if 0≤bt321.1 then (if bt321.1<((rd_L2 x4_4 t318).length:Int) then (some ((x4_4.set (t318:Int).toNat ((rd_L2 x4_4 t318).set (bt321.1:Int).toNat bt327.1)),bt327.2.1,bt327.2.2)) else (none)) else (none)) else (none)) else (none))))=some (r1,r2,r3):=H
    have A29:=zad A290;clear A290;replace H:=zay.mp H;obtain ⟨⟨t321,t322,t323⟩,A300,H⟩:=H
    replace H:((spec_l1Cur_among.f s0_0 t322 t323 (([(-1),0,1000000,1000001,4611686018427387904]:List Int))).bind fun bt327=>(if 0≤t318 then (if t318<(x4_4.length:Int) then (if 0≤t321 then (if t321<((rd_L2 x4_4 t318).length:Int) then (some ((x4_4.set (t318:Int).toNat ((rd_L2 x4_4 t318).set (t321:Int).toNat bt327.1)),bt327.2.1,bt327.2.2)) else (none)) else (none)) else (none)) else (none)))=some (r1,r2,r3):=H
    have A30:=zad A300;clear A300;obtain ⟨y324,hy324⟩:∃ y_:List Int,y_=(([(-1),0,1000000,1000001,4611686018427387904]:List Int)):=⟨_,rfl⟩
    replace H:((spec_l1Cur_among.f s0_0 t322 t323 y324).bind fun bt327=>(if 0≤t318 then (if t318<(x4_4.length:Int) then (if 0≤t321 then (if t321<((rd_L2 x4_4 t318).length:Int) then (some ((x4_4.set (t318:Int).toNat ((rd_L2 x4_4 t318).set (t321:Int).toNat bt327.1)),bt327.2.1,bt327.2.2)) else (none)) else (none)) else (none)) else (none)))=some (r1,r2,r3):=by first | (rw [hy324];with_reducible exact H) | (have H2_:=(zbd _ _).symm.trans H;rw [hy324];with_reducible exact H2_) | (have H2_:=(zbd _ _).symm.trans H;with_reducible exact H2_) | with_reducible exact H | (rw [hy324];exact H) | exact H
    have Ny324:=zad hy324;clear hy324;replace H:=zay.mp H;obtain ⟨⟨t327,t328,t329⟩,A310,H⟩:=H
    replace H:(if 0≤t318 then (if t318<(x4_4.length:Int) then (if 0≤t321 then (if t321<((rd_L2 x4_4 t318).length:Int) then (some ((x4_4.set (t318:Int).toNat ((rd_L2 x4_4 t318).set (t321:Int).toNat t327)),t328,t329)) else (none)) else (none)) else (none)) else (none))=some (r1,r2,r3):=H
    have A31:=zad A310;clear A310;by_cases c32:0≤t318
    ·rw [if_pos c32] at H
     have c32b0:decide (0≤t318)=true:=zba c32
     clear c32;by_cases c33:t318<(x4_4.length:Int)
     ·rw [if_pos c33] at H
      have c33b0:decide (t318<(x4_4.length:Int))=true:=zba c33
      clear c33;by_cases c34:0≤t321
      ·rw [if_pos c34] at H
       have c34b0:decide (0≤t321)=true:=zba c34
       clear c34;by_cases c35:t321<((rd_L2 x4_4 t318).length:Int)
       ·rw [if_pos c35] at H
        have c35b0:decide (t321<((rd_L2 x4_4 t318).length:Int))=true:=zba c35
        clear c35;obtain ⟨y331,hy331⟩:∃ y_:List Int,y_=((rd_L2 x4_4 t318).set (t321:Int).toNat t327):=⟨_,rfl⟩
        replace H:(some ((x4_4.set (t318:Int).toNat y331),t328,t329))=some (r1,r2,r3):=by first | (rw [hy331];with_reducible exact H) | (have H2_:=(zbd _ _).symm.trans H;rw [hy331];with_reducible exact H2_) | (have H2_:=(zbd _ _).symm.trans H;with_reducible exact H2_) | with_reducible exact H | (rw [hy331];exact H) | exact H
        have Ny331:=zad hy331;clear hy331;obtain ⟨y333,hy333⟩:∃ y_:List (List Int),y_=(x4_4.set (t318:Int).toNat y331):=⟨_,rfl⟩
        replace H:(some (y333,t328,t329))=some (r1,r2,r3):=by first | (rw [hy333];with_reducible exact H) | (have H2_:=(zbd _ _).symm.trans H;rw [hy333];with_reducible exact H2_) | (have H2_:=(zbd _ _).symm.trans H;with_reducible exact H2_) | with_reducible exact H | (rw [hy333];exact H) | exact H
        have Ny333:=zad hy333;clear hy333;simp only [zbl,zbp] at H
        obtain ⟨rfl,rfl,rfl⟩:=H
        obtain ⟨Ao4_,co4_,eo4_⟩:=Kd.S_slice HO_4.out
        subst eo4_;go_wp2_with ((with_reducible refine zbh (f:=18) rfl ?_);refine zbn (some 38) rfl rfl Tryz.func18 (by kernel_rfl) rfl #[.pointer (some ⟨g,0,none⟩),.int .i64 16] rfl (taae) ?_;(with_reducible refine (zcn g s0_0 x1001_4 x1002_4 16 t315 t316 t317 w0 _ ?side1 ?side2 A27.out).mono ?_);(case side1=>exact tafj);(case side2=>exact tafk);rintro e w37 ⟨rfl,hi,hb,hk⟩;refine ⟨_,rfl,?_⟩;have n0_:=zad (Kd.S_mono (Kd.S_keep (IsS43.apartS (show IsS43 w0 _ g s0_0 x1001_4 x1002_4 from by exact tafh) (taba) (by decide)) hk (fun _ h=>h.2)) (fun _ h=>h.1));have n1_:=zad (zbs (taaf) hk (.inl rfl));have n2_:=zad (hb);have n3_:=zad (hi);clear HO_4 HK HB HI0;have HO_4:=n0_;have HK:=n1_;have HB:=n2_;have HI0:=n3_;clear n0_ n1_ n2_ n3_;(try clear hb);(try clear hb2);(try clear hk);(try clear hi))
        have p311:0≤(t318:Int):=zas (taaa)
        have q311:t318<(x4_4.length:Int):=zas (taaa)
        have p19:0≤(t321:Int):=zas (taaa)
        have q19:(t321:Int)<((rd_L2 x4_4 t318).length:Int):=zas (taaa)
        obtain ⟨ad311,go19,c311_0,e311,x0,gb19,hne,hne2,hne3⟩:=row_at HO_4.out t318 p311 q311 t321 p19 q19 (IsS43.own_neS HI0.out HO_4.out (by decide)) (fun hr=>IsS43.own_ne HI0.out hr (by decide))
        cases e311
        have hnb:(ad311.add t318.toNat).block≠g:=by unfold Addr.add;split <;> exact hne
        have hnc:(ad311.add t318.toNat).block≠go19:=by unfold Addr.add;split <;> exact hne3
        obtain ⟨cq,hcq⟩:=holds_ex ⟨go19,t321.toNat,none⟩
        replace x0:=tri_q hcq x0
        clear hne hne3;have GB19:=zad gb19;clear gb19;obtain rfl:=Ny324.out
        replace p311:=eq_true p311
        replace q311:=eq_true q311
        replace p19:=eq_true p19
        replace q19:=eq_true q19
        go_region_held3 (fun w'=>(w'.cell? (ad311.add t318.toNat)=some (.slice (some ⟨go19,0,none⟩) (rd_L2 x4_4 t318).length c311_0)∧w'.cell? ⟨go19,t321.toNat,none⟩=some (cq w')∧w'.frozen? ⟨go19,t321.toNat,none⟩=false)) (first | exact x0 | exact tri_q hcq x0 | exact x8 | exact tri_q hcq x8 | exact x9 | exact tri_q hcq x9 | exact x10 | exact tri_q hcq (tri_below (zag (Below.refl _ _) _) x0) | exact tri_q hcq (tri_below (zag (Below.refl _ _) _) x8) | exact tri_q hcq (tri_below (zag (Below.refl _ _) _) x9) | exact tri_store hcq hnc x10 | (simp [go_sem];done)) (first | (go_at_call 18;(refine (zcn g s0_0 t316 t317 t291 t318 t319 t320 w0 _ ?side1 ?side2 A29.out).mono ?_);(case side1=>repeat (first | (with_reducible first | exact HI0.out | apply zcg | apply zch | apply zci | apply zcl | apply zcm) | exact HI0.out));(case side2=>repeat (first | (with_reducible first | exact HB.out | apply zag | apply zae | apply zaf | refine zah ?_ (zck HI0.out)) | exact HB.out));rintro e w20 ⟨rfl,hi,hb,hk⟩;(try (have zL:=lit_step hk zL0;clear zL0;have zL0:=zL;clear zL));(try (have zL0:=lit_keep [(-1),0,1000000,1000001,4611686018427387904] hk (taac) (IsS43.fresh HI0.out _ (zcf _))));have x8:(w20.cell? (ad311.add t318.toNat)=some (.slice (some ⟨go19,0,none⟩) (rd_L2 x4_4 t318).length c311_0)∧w20.cell? ⟨go19,t321.toNat,none⟩=some (cq w20)∧w20.frozen? ⟨go19,t321.toNat,none⟩=false):=(by first | exact tri_q hcq (tri_keep hk x0 hnb hne2) | exact tri_q hcq (tri_keep hk (tri_below (zag (Below.refl _ _) _) x0) hnb hne2));clear x0;have n0_:=zad (Kd.S_mono (Kd.S_keep (IsS43.apartS (show IsS43 w0 _ g s0_0 t316 t317 from by exact tafh) (taba) (by decide)) hk (fun _ h=>h.2)) (fun _ h=>h.1));have n1_:=zad (zbs (taaf) hk (.inl rfl));have n2_:=zad (hb);have n3_:=zad (hi);clear HO_4 HK HB HI0;have HO_4:=n0_;have HK:=n1_;have HB:=n2_;have HI0:=n3_;clear n0_ n1_ n2_ n3_;(try clear hb);(try clear hb2);(try clear hk);(try clear hi)) | (go_at_call 18;(refine (zcn g s0_0 t319 t320 t291 t321 t322 t323 w0 _ ?side1 ?side2 A30.out).mono ?_);(case side1=>repeat (first | (with_reducible first | exact HI0.out | apply zcg | apply zch | apply zci | apply zcl | apply zcm) | exact HI0.out));(case side2=>repeat (first | (with_reducible first | exact HB.out | apply zag | apply zae | apply zaf | refine zah ?_ (zck HI0.out)) | exact HB.out));rintro e w21 ⟨rfl,hi,hb,hk⟩;(try (have zL:=lit_step hk zL0;clear zL0;have zL0:=zL;clear zL));(try (have zL0:=lit_keep [(-1),0,1000000,1000001,4611686018427387904] hk (taac) (IsS43.fresh HI0.out _ (zcf _))));have x9:(w21.cell? (ad311.add t318.toNat)=some (.slice (some ⟨go19,0,none⟩) (rd_L2 x4_4 t318).length c311_0)∧w21.cell? ⟨go19,t321.toNat,none⟩=some (cq w21)∧w21.frozen? ⟨go19,t321.toNat,none⟩=false):=(by first | exact tri_q hcq (tri_keep hk x8 hnb hne2) | exact tri_q hcq (tri_keep hk (tri_below (zag (Below.refl _ _) _) x8) hnb hne2));clear x8;have n0_:=zad (Kd.S_mono (Kd.S_keep (IsS43.apartS (show IsS43 w0 _ g s0_0 t319 t320 from by exact tafh) (taba) (by decide)) hk (fun _ h=>h.2)) (fun _ h=>h.1));have n1_:=zad (zbs (taaf) hk (.inl rfl));have n2_:=zad (hb);have n3_:=zad (hi);clear HO_4 HK HB HI0;have HO_4:=n0_;have HK:=n1_;have HB:=n2_;have HI0:=n3_;clear n0_ n1_ n2_ n3_;(try clear hb);(try clear hb2);(try clear hk);(try clear hi)) | (go_at_call 19;(refine (spec_l1Cur_among.calls g s0_0 t322 t323 _ _ [(-1),0,1000000,1000001,4611686018427387904] t327 t328 t329 w0 _ ?side1 ?side2 ?side3 ?side4 ?side5 A31.out).mono ?_);(case side1=>repeat (first | (with_reducible first | exact HI0.out | apply zcg | apply zch | apply zci | apply zcl | apply zcm) | exact HI0.out));(case side2=>repeat (first | (with_reducible first | exact HB.out | apply zag | apply zae | apply zaf | refine zah ?_ (zck HI0.out)) | exact HB.out));(case side3=>first | exact lit_C _ _ [(-1),0,1000000,1000001,4611686018427387904] (taac) | exact zL0.1 | exact zam zL0.1 _);(case side4=>exact zcf _);(case side5=>exact (by rintro ad_ h_ _;injection h_ with h_;subst h_;first | exact IsS43.fresh HI0.out _ (zcf _) | exact zL0.2));rintro e w24 ⟨rfl,hi,hb,hk⟩;have x10:(w24.cell? (ad311.add t318.toNat)=some (.slice (some ⟨go19,0,none⟩) (rd_L2 x4_4 t318).length c311_0)∧w24.cell? ⟨go19,t321.toNat,none⟩=some (cq w24)∧w24.frozen? ⟨go19,t321.toNat,none⟩=false):=(by first | exact tri_q hcq (tri_keep hk x9 hnb hne2) | exact tri_q hcq (tri_keep hk (tri_below (zag (Below.refl _ _) _) x9) hnb hne2));clear x9;have n0_:=zad (Kd.S_mono (Kd.S_keep (IsS43.apartS (show IsS43 w0 _ g s0_0 t322 t323 from by exact tafh) (taba) (by decide)) hk (fun _ h=>h.2)) (fun _ h=>h.1));have n2_:=zad (zbs (taaf) hk (.inl rfl));have n3_:=zad (hb);have n4_:=zad (hi);clear HO_4 HK HB HI0;have HO_4:=n0_;have HK:=n2_;have HB:=n3_;have HI0:=n4_;clear n0_ n2_ n3_ n4_;(try clear hb);(try clear hb2);(try clear hk);(try clear hi)))
        all_goals (
         obtain ⟨w26,hw⟩:∃ w26,w26=w24.setCell ⟨go19,t321.toNat,none⟩ (.int .i64 t327):=⟨_,rfl⟩
         rw [← hw]
         obtain ⟨oki25,ce25,hcl25,hM25,hcc25,hok25,hbk25⟩:=Kd.S_borrow HO_4.out [] (t318:Int) (of_eq_true p311) (of_eq_true q311)
         obtain ⟨ve25_0,rfl,ge25_0⟩:=hM25
         have hv25:=hcc25 0 _ rfl
         rw [Nat.add_zero,show ((Kd.slice 3 (Kd.int .i64))).sz=1 from rfl,Nat.mul_one] at hv25
         replace hv25:=zbe (hv25.symm.trans x10.1)
         subst hv25;clear hcc25 hcl25;replace ge25_0:=(show Kd.R (Kd.int .i64) 3 _ _ _ _ (rd_L2 x4_4 t318) from ge25_0)
         have HP25:=Kd.R_putg ge25_0 (t321:Int) t327
         have hg:w24.grownBy w26 (some go19):=(by rw [hw];exact HP25.2)
         have hz_:Kd.R (Kd.int .i64) 3 w26 w.heap.size oki25 (.slice (some ⟨go19,0,none⟩) (rd_L2 x4_4 t318).length c311_0) y331:=(by rw [hw,Ny331.out];exact HP25.1)
         have hp_:=zad (show Kd.S (Kd.slice 3 (Kd.int .i64)) 25 w26 w.heap.size _ (.slice (some ad311) x4_4.length co4_) y333 from (by rw [Ny333.out];exact hbk25 hg (fun k_ e_=>by injection e_ with e_;subst e_;exact ge25_0.1 _ rfl) (Kd.M_row hz_)))
         have hi_:=zad (IsS43.grown HI0.out hg (fun e_=>hne2 (by injection e_ with e_;exact e_.symm)))
         have hb_:=zad ((by rw [hw];exact zah (HB.out) (Nat.le_trans HL.out GB19.out):Below w0.heap.size w0 w26))
         have hk_:=zad (zbs HK.out (KeepBut.of_grown hg g) (.inr ⟨go19,rfl,GB19.out⟩))
         clear HP25 hbk25 ge25_0 hok25 hz_ hg hw HO_4 HI0 HK HB x10 hcq hnb hnc hne2;go_wp2
         go_ret
         exact ⟨_,rfl,Kd.V_mono (Kd.S_V (Kd.S_bound hp_.out)) (fun _ hk=>hk.2.1),hi_.out,hb_.out,hk_.out⟩)
       ·rw [if_neg c35] at H
        exact absurd H (taac)
      ·rw [if_neg c34] at H
       exact absurd H (taac)
     ·rw [if_neg c33] at H
      exact absurd H (taac)
    ·rw [if_neg c32] at H
     exact absurd H (taac)
   ·rw [if_neg c28] at H
    have c28b0:(t315 == 0)=false:=zbo.mpr c28
    have c28b1:(t315 != 0)=true:=bne_iff_ne.mpr c28
    by_cases c47:t315=1
    ·rw [if_pos c47] at H
     have c47b0:(t315 == 1)=true:=beq_iff_eq.mpr c47
     have c47b1:(t315 != 1)=false:=bne_eq_false_iff_eq.mpr c47
     clear c47;by_cases c48:0≤t291
     ·rw [if_pos c48] at H
      have c48b0:=eq_true c48;have c48b1:decide (0≤t291)=true:=zba c48
      clear c48;by_cases c49:(t291:Int).toNat≤35184372088832
      ·rw [if_pos c49] at H
       have c49b0:=eq_true c49;have c49b1:decide ((t291:Int).toNat≤35184372088832)=true:=zba c49
       clear c49;obtain ⟨y334,hy334⟩:∃ y_:List Int,y_=(List.replicate (t291:Int).toNat 0):=⟨_,rfl⟩
       replace H:(if x4_4.length<5864062014805 then (some ((x4_4 ++ [y334]),t316,t317)) else (none))=some (r1,r2,r3):=by first | (rw [hy334];with_reducible exact H) | (have H2_:=(zbd _ _).symm.trans H;rw [hy334];with_reducible exact H2_) | (have H2_:=(zbd _ _).symm.trans H;with_reducible exact H2_) | with_reducible exact H | (rw [hy334];exact H) | exact H
       have Ny334:=zad hy334;clear hy334;by_cases c50:x4_4.length<5864062014805
       ·rw [if_pos c50] at H
        have LMc50:=zad c50;clear c50;obtain ⟨y337,hy337⟩:∃ y_:List (List Int),y_=(x4_4 ++ [y334]):=⟨_,rfl⟩
        replace H:(some (y337,t316,t317))=some (r1,r2,r3):=by first | (rw [hy337];with_reducible exact H) | (have H2_:=(zbd _ _).symm.trans H;rw [hy337];with_reducible exact H2_) | (have H2_:=(zbd _ _).symm.trans H;with_reducible exact H2_) | with_reducible exact H | (rw [hy337];exact H) | exact H
        have Ny337:=zad hy337;clear hy337;simp only [zbl,zbp] at H
        obtain ⟨rfl,rfl,rfl⟩:=H
        go_wp2_with (first | ((with_reducible refine zbh (f:=18) rfl ?_);refine zbn (some 38) rfl rfl Tryz.func18 (by kernel_rfl) rfl #[.pointer (some ⟨g,0,none⟩),.int .i64 16] rfl (taae) ?_;(with_reducible refine (zcn g s0_0 x1001_4 x1002_4 16 t315 t316 t317 w0 _ ?side1 ?side2 A27.out).mono ?_);(case side1=>exact tafj);(case side2=>exact tafk);rintro e w51 ⟨rfl,hi,hb,hk⟩;refine ⟨_,rfl,?_⟩;have n0_:=zad (Kd.S_mono (Kd.S_keep (IsS43.apartS (show IsS43 w0 _ g s0_0 x1001_4 x1002_4 from by exact tafh) (taba) (by decide)) hk (fun _ h=>h.2)) (fun _ h=>h.1));have n1_:=zad (zbs (taaf) hk (.inl rfl));have n2_:=zad (hb);have n3_:=zad (hi);clear HO_4 HK HB HI0;have HO_4:=n0_;have HK:=n1_;have HB:=n2_;have HI0:=n3_;clear n0_ n1_ n2_ n3_;(try clear hb);(try clear hb2);(try clear hk);(try clear hi)) | ((with_reducible refine gate_dst (N:=58) rfl ?_);refine Kd.R_make (Kd.int .i64) _ 3 rfl (N:=58) rfl 25 _ _ rfl t291 rfl rfl Tryz.underlying25 (.int .i64 0) 8 info3 rfl (by decide) (by omega) 0 (ok:=fun _=>True) (okp:=fun _=>True) rfl (fun _ hk=>hk) trivial (zas (taaa)) (Nat.le_trans (Nat.mul_le_mul_right _ (zas (taaa):t291.toNat≤35184372088832)) (by omega)) (Below.refl _ _) (zcf _) ?_;intro v335 w52 ho53 hb hg_ hnew_;clear hg_ hnew_;(first | rw [← Ny334.out] at ho53 | (simp only [Int.reduceToNat] at ho53;rw [← Ny334.out] at ho53));have n0_:=zad (Kd.S_elder' (taba) (zcd ho53) hb);have n1_:=zad (zbu ho53 (keep_size (w:=w) (g:=g) (row:=none) (taaf)));have n2_:=zad (IsS43.below (taag) hb);have n3_:=zad (zbs (taaf) (KeepBut.of_below hb g none) (.inl rfl));have n4_:=zad (zbg (taaj) hb);clear HO_4 HI0 HK HB;have HO_4:=n0_;have HO336:=n1_;have HI0:=n2_;have HK:=n3_;have HB:=n4_;clear n0_ n1_ n2_ n3_ n4_ hb ho53;obtain ⟨Ao55,co55,eo55⟩:=zbv HO336.out;subst eo55) | ((with_reducible refine gate_builtin (b := .append) (xs:=#[.tmp 56,.tmp 59]) rfl ?_);at_builtin;refine Kd.S_append (Kd.slice 3 (Kd.int .i64)) w.heap.size rfl (.tmp 56) (.tmp 59) 24 25 (.slice none 0 0) 24 rfl Tryz.underlying24 info25 rfl (by decide) (by omega) v295 x4_4 y334 [.slice Ao55 y334.length co55] (fun _=>True) (fun k_=>some k_=(.slice Ao55 y334.length co55:Value).ownBlock) rfl rfl ?aP (fun k_ hk_=>((zbq (ok':=fun k_=>((fun _=>True)) k_∧some k_≠(v295:Value).ownBlock) (Kd.R_apart' (HO336.out) (Kd.S_typed HO_4.out) (by decide)) (fun k_ hk=>⟨trivial,hk.2⟩))).1 k_ hk_.symm) ?aF ?aO (Below.refl _ _) ?aS ?aL ?_;(case aP=>exact Kd.M_row (zbq (Kd.R_tight rfl (zbq (ok':=fun k_=>((fun _=>True)) k_∧some k_≠(v295:Value).ownBlock) (Kd.R_apart' (HO336.out) (Kd.S_typed HO_4.out) (by decide)) (fun k_ hk=>⟨trivial,hk.2⟩))) (fun _ h_=>h_)));(case aF=>exact (fun _ _=>trivial));(case aO=>exact (by (with_reducible repeat (first | apply Kd.S_alloc | apply Kd.S_drewN | apply Kd.S_drew));exact Kd.S_mono HO_4.out (fun k_ hk=>⟨trivial,fun e_=>hk.2 e_⟩)));(case aS=>exact (keep_size (w:=w) (g:=g) (row:=none) (taaf)));(case aL=>have:=LMc50.out;omega);intro v338 w54 ho hb hg hat;rw [← Ny337.out] at ho;have n0_:=zad (IsS43.grown (taag) hg (IsS43.own_neS HI0.out HO_4.out (by decide)));have n1_:=zad (below_weaken (taaj) HL.out hb);have n2_:=zad (zbs (taaf) (KeepBut.of_grown hg g) (Kd.S_base2 HO_4.out));have n3_:=zad (ho);clear HI0 HB HK HO_4 HO336;have HI0:=n0_;have HB:=n1_;have HK:=n2_;have HO339:=n3_;clear n0_ n1_ n2_ n3_ ho hb hg hat))
        go_ret
        exact ⟨_,taai,by first | exact Kd.V_nil _ _ _ _ _ | exact Kd.V_mono (Kd.S_V (Kd.S_bound (show Kd.S _ _ _ w.heap.size (fun _=>True) _ _ from by (with_reducible repeat (first | apply Kd.S_alloc | apply Kd.S_drewN | apply Kd.S_drew));exact HO339.out))) (fun _ hk=>hk.2.1),taag,taaj,taaf⟩
       ·rw [if_neg c50] at H
        exact absurd H (taac)
      ·rw [if_neg c49] at H
       exact absurd H (taac)
     ·rw [if_neg c48] at H
      exact absurd H (taac)
    ·rw [if_neg c47] at H
     have c47b0:(t315 == 1)=false:=zbo.mpr c47
     have c47b1:(t315 != 1)=true:=bne_iff_ne.mpr c47
     by_cases c56:t315=2
     ·rw [if_pos c56] at H
      have c56b0:(t315 == 2)=true:=beq_iff_eq.mpr c56
      have c56b1:(t315 != 2)=false:=bne_eq_false_iff_eq.mpr c56
      clear c56;by_cases d1:0<(x4_4.length:Int)
      ·rw [if_pos d1] at H
       by_cases d2:1≤((rd_L2 x4_4 0).length:Int)
       ·rw [if_pos d2] at H
        simp only [zbl,zbp] at H
        obtain ⟨rfl,rfl,rfl⟩:=H
        obtain ⟨Ao4_,co4_,eo4_⟩:=Kd.S_slice HO_4.out
        subst eo4_;obtain ⟨i_,hi_,_,hsz_,_⟩:=info_parts info3
        go_wp2_with (first | ((with_reducible refine zbh (f:=18) rfl ?_);refine zbn (some 38) rfl rfl Tryz.func18 (by kernel_rfl) rfl #[.pointer (some ⟨g,0,none⟩),.int .i64 16] rfl (taae) ?_;(with_reducible refine (zcn g s0_0 x1001_4 x1002_4 16 t315 t316 t317 w0 _ ?side1 ?side2 A27.out).mono ?_);(case side1=>exact tafj);(case side2=>exact tafk);rintro e w57 ⟨rfl,hi,hb,hk⟩;refine ⟨_,rfl,?_⟩;have n0_:=zad (Kd.S_mono (Kd.S_keep (IsS43.apartS (show IsS43 w0 _ g s0_0 x1001_4 x1002_4 from by exact tafh) (taba) (by decide)) hk (fun _ h=>h.2)) (fun _ h=>h.1));have n1_:=zad (zbs (taaf) hk (.inl rfl));have n2_:=zad (hb);have n3_:=zad (hi);clear HO_4 HK HB HI0;have HO_4:=n0_;have HK:=n1_;have HB:=n2_;have HI0:=n3_;clear n0_ n1_ n2_ n3_;(try clear hb);(try clear hb2);(try clear hk);(try clear hi);obtain ⟨gw_,Aw_,cw_,ew_,hx0_,hf0_,hl0_,hgb_⟩:=head_at HO_4.out (by omega);cases ew_;have hcut_:=cut_from (P:=Tryz.prog) 25 3 .i64 Tryz.underlying25 hi_ 1 hsz_ Aw_ (rd_L2 x4_4 0).length cw_ 1 (by omega) d2;obtain ⟨Ac_,hAc_⟩:∃ A1,A1=(if cw_=(1:Int).toNat then Aw_ else Aw_.map (·.add ((1:Int).toNat*1))):=⟨_,rfl⟩;rw [← hAc_] at hcut_;have HAc_:=zad hAc_;clear hAc_;have HGB_:=zad hgb_;have HL0_:=zad hl0_;clear hgb_ hl0_))
        go_ret
        have hk1:=cut_row (Kd.S_bound HO_4.out) (by omega) hx0_ (by omega)
        rw [show (if cw_=1 then Aw_ else Aw_.map (·.add 1))=Ac_ from HAc_.out.symm] at hk1
        exact ⟨_,rfl,Kd.V_mono hk1.1 (fun _ hk=>hk.2.1),IsS43.grown HI0.out hk1.2 (IsS43.own_neS HI0.out HO_4.out (by decide)),zah HB.out (Nat.le_trans HL.out HGB_.out),zbs HK.out (KeepBut.of_grown hk1.2 g) (.inr ⟨gw_,rfl,HGB_.out⟩)⟩
       ·rw [if_neg d2] at H
        exact absurd H (taac)
      ·rw [if_neg d1] at H
       exact absurd H (taac)
     ·rw [if_neg c56] at H
      have c56b0:(t315 == 2)=false:=zbo.mpr c56
      have c56b1:(t315 != 2)=true:=bne_iff_ne.mpr c56
      by_cases c58:t315=3
      ·rw [if_pos c58] at H
       have c58b0:(t315 == 3)=true:=beq_iff_eq.mpr c58
       have c58b1:(t315 != 3)=false:=bne_eq_false_iff_eq.mpr c58
       clear c58;simp only [zbl,zbp] at H
       obtain ⟨rfl,rfl,rfl⟩:=H
       go_wp2_with (first | ((with_reducible refine zbh (f:=18) rfl ?_);refine zbn (some 38) rfl rfl Tryz.func18 (by kernel_rfl) rfl #[.pointer (some ⟨g,0,none⟩),.int .i64 16] rfl (taae) ?_;(with_reducible refine (zcn g s0_0 x1001_4 x1002_4 16 t315 t316 t317 w0 _ ?side1 ?side2 A27.out).mono ?_);(case side1=>exact tafj);(case side2=>exact tafk);rintro e w59 ⟨rfl,hi,hb,hk⟩;refine ⟨_,rfl,?_⟩;have n0_:=zad (Kd.S_mono (Kd.S_keep (IsS43.apartS (show IsS43 w0 _ g s0_0 x1001_4 x1002_4 from by exact tafh) (taba) (by decide)) hk (fun _ h=>h.2)) (fun _ h=>h.1));have n1_:=zad (zbs (taaf) hk (.inl rfl));have n2_:=zad (hb);have n3_:=zad (hi);clear HO_4 HK HB HI0;have HO_4:=n0_;have HK:=n1_;have HB:=n2_;have HI0:=n3_;clear n0_ n1_ n2_ n3_;(try clear hb);(try clear hb2);(try clear hk);(try clear hi)))
       go_ret
       exact ⟨_,taai,by first | exact Kd.V_nil _ _ _ _ _ | exact Kd.V_mono (Kd.S_V (Kd.S_bound (show Kd.S _ _ _ w.heap.size (fun _=>True) _ _ from by exact tabx))) (fun _ hk=>hk.2.1),taag,taaj,taaf⟩
      ·rw [if_neg c58] at H
       have c58b0:(t315 == 3)=false:=zbo.mpr c58
       have c58b1:(t315 != 3)=true:=bne_iff_ne.mpr c58
       simp only [zbl,zbp] at H
       obtain ⟨rfl,rfl,rfl⟩:=H
       go_wp2_with (first | ((with_reducible refine zbh (f:=18) rfl ?_);refine zbn (some 38) rfl rfl Tryz.func18 (by kernel_rfl) rfl #[.pointer (some ⟨g,0,none⟩),.int .i64 16] rfl (taae) ?_;(with_reducible refine (zcn g s0_0 x1001_4 x1002_4 16 t315 t316 t317 w0 _ ?side1 ?side2 A27.out).mono ?_);(case side1=>exact tafj);(case side2=>exact tafk);rintro e w60 ⟨rfl,hi,hb,hk⟩;refine ⟨_,rfl,?_⟩;have n0_:=zad (Kd.S_mono (Kd.S_keep (IsS43.apartS (show IsS43 w0 _ g s0_0 x1001_4 x1002_4 from by exact tafh) (taba) (by decide)) hk (fun _ h=>h.2)) (fun _ h=>h.1));have n1_:=zad (zbs (taaf) hk (.inl rfl));have n2_:=zad (hb);have n3_:=zad (hi);clear HO_4 HK HB HI0;have HO_4:=n0_;have HK:=n1_;have HB:=n2_;have HI0:=n3_;clear n0_ n1_ n2_ n3_;(try clear hb);(try clear hb2);(try clear hk);(try clear hi)))
       go_ret
       exact ⟨_,taai,by first | exact Kd.V_nil _ _ _ _ _ | exact Kd.V_mono (Kd.S_V (Kd.S_bound (show Kd.S _ _ _ w.heap.size (fun _=>True) _ _ from by exact taba))) (fun _ hk=>hk.2.1),taag,taaj,taaf⟩
def spec_liGood.f (k:Nat) (l0:List Int):Option (Bool):=(spec_l1In.f (l0.length:Int) 1 8).bind fun t103=>(if t103=true then ((spec_l1All.f k l0 0 60).bind fun t104=>(some t104)) else (some false))
theorem spec_liGood.calls (k:Nat) (A0:Option Addr) (c0:Nat) (l0:List Int) (r:Bool) (w:World) (hr0:Kd.C (Kd.int .i64) w A0 l0.length l0) (hc0:l0.length≤c0) (h:spec_liGood.f k l0=some r) :
 Calls Tryz.prog 25 #[.slice A0 l0.length c0] w fun e w'=>e = .returned (.bool r)∧Drawn0 w w':=by
 have HR0:=zad hr0;have HC0:=zad hc0;clear hr0 hc0;have H:((spec_l1In.f (l0.length:Int) 1 8).bind fun t103=>(if t103=true then ((spec_l1All.f k l0 0 60).bind fun t104=>(some t104)) else (some false)))=some r:=h
 clear h;replace H:=zay.mp H;obtain ⟨t103,A20,H⟩:=H
 replace H:(if t103=true then ((spec_l1All.f k l0 0 60).bind fun t104=>(some t104)) else (some false))=some r:=H
 have A2:=zad A20;clear A20;by_cases c3:t103=true
 ·subst c3
  have H1:((spec_l1All.f k l0 0 60).bind fun t104=>(some t104))=some r:=by rw [if_pos rfl] at H;exact H
  clear H;have H:=H1;clear H1;replace H:=zay.mp H;obtain ⟨t104,A40,H⟩:=H
  replace H:(some t104)=some r:=H
  have A4:=zad A40;clear A40;obtain rfl:=zbe H
  go_enter Tryz.func25,Tryz.ntmps25
  go_wp2_with (first | ((with_reducible refine zbh (f:=60) rfl ?_);refine zbn (some 5) rfl rfl Tryz.func60 (by kernel_rfl) rfl #[.int .i64 (l0.length:Int),.int .i64 1,.int .i64 8] rfl (taae) ?_;(with_reducible refine (spec_l1In.calls (l0.length:Int) 1 8 true _ A2.out).mono ?_);rintro e w' ⟨rfl,⟨nd,rfl⟩⟩;refine ⟨_,rfl,?_⟩) | (go_at_call 59;(with_reducible refine (spec_l1All.calls k _ _ l0 0 60 t104 _ ?side1 ?side2 A4.out).mono ?_);(case side1=>repeat (first | exact HR0.out | (with_reducible refine zal ?_ _) | (with_reducible refine zam ?_ _) | (with_reducible refine zan ?_)));(case side2=>exact HC0.out);rintro e w' ⟨rfl,⟨nd,rfl⟩⟩))
  go_ret
  exact ⟨taad,taah⟩
 ·replace c3:=zbi.mpr c3
  subst c3;have H1:(some false)=some r:=by rw [if_neg (show ¬ (false=true) by decide)] at H;exact H
  clear H;have H:=H1;clear H1;obtain rfl:=zbe H
  go_enter Tryz.func25,Tryz.ntmps25
  go_wp2_with (first | ((with_reducible refine zbh (f:=60) rfl ?_);refine zbn (some 5) rfl rfl Tryz.func60 (by kernel_rfl) rfl #[.int .i64 (l0.length:Int),.int .i64 1,.int .i64 8] rfl (taae) ?_;(with_reducible refine (spec_l1In.calls (l0.length:Int) 1 8 false _ A2.out).mono ?_);rintro e w' ⟨rfl,⟨nd,rfl⟩⟩;refine ⟨_,rfl,?_⟩))
  go_ret
  exact ⟨taad,taah⟩
def spec_liSum.l0:Nat→Int→List Int→Int→Int→Option (Int)
 | 0,_,_,_,_=>none
 | k+1,x3,x6,x7,x8=>if x8<x7 then (if 0≤x8 then (if x8<(x6.length:Int) then (spec_liSum.l0 k (wrap64 (x3+(rd x6 x8))) x6 x7 (wrap64 (x8+1))) else (none)) else (none)) else (some x3)
def spec_liSum.f (k:Nat) (l0:List Int):Option (Int):=spec_liSum.l0 k 0 l0 (l0.length:Int) 0
theorem spec_liSum.calls (k:Nat) (A0:Option Addr) (c0:Nat) (l0:List Int) (r:Int) (w:World) (hr0:Kd.C (Kd.int .i64) w A0 l0.length l0) (hc0:l0.length≤c0) (h:spec_liSum.f k l0=some r) :
 Calls Tryz.prog 61 #[.slice A0 l0.length c0] w fun e w'=>e = .returned (.int .i64 r)∧Drawn0 w w':=by
 have HR0:=zad hr0;have HC0:=zad hc0;clear hr0 hc0;have H:(spec_liSum.l0 k 0 l0 (l0.length:Int) 0)=some r:=h
 clear h;have H':=zad H
 clear H;go_enter Tryz.func61,Tryz.ntmps61
 go_wp2
 go_loopg [3,8] k (fun kq v3 v8 w'=>∃ (x3_1:Int) (x8_1:Int),v3 = .int .i64 x3_1∧v8 = .int .i64 x8_1∧Aside0 (spec_liSum.l0 kq x3_1 l0 (l0.length:Int) x8_1=some r)∧Aside0 (kq≤k)∧Drawn0 w w')
 case atStart=>exact ⟨(0),(0),(taad),(taad),H',⟨zcf _⟩,taah⟩
 case round =>
  clear H'
  obtain ⟨x3_1,x8_1,rfl,rfl,HA,HK1,⟨m1,rfl⟩⟩:=hrel
  cases gk with
  | zero=>exact absurd HA.out (by simp [spec_liSum.l0])
  | succ k1 =>
   have H:=HA.out
   clear HA;simp only [spec_liSum.l0] at H
   by_cases c2:x8_1<(l0.length:Int)
   ·rw [if_pos c2] at H
    have c2b0:decide (x8_1<(l0.length:Int))=true:=zba c2
    clear c2;by_cases c3:0≤x8_1
    ·rw [if_pos c3] at H
     have c3b0:decide (0≤x8_1)=true:=zba c3
     clear c3;by_cases c4:x8_1<(l0.length:Int)
     ·rw [if_pos c4] at H
      have c4b0:decide (x8_1<(l0.length:Int))=true:=zba c4
      clear c4;have H':=zad H
      clear H;have p105:0≤(x8_1:Int):=zas (taaa)
      have q105:x8_1<(l0.length:Int):=zas (taaa)
      obtain ⟨ad105,e105,hx105_0⟩:=zca HR0.out x8_1 p105 q105
      cases e105
      replace p105:=eq_true p105
      replace q105:=eq_true q105
      go_wp2
      go_roundg k1
      case measure=>have:=HK1.out;omega
      case rel=>exact ⟨(wrap64 (x3_1+(rd l0 x8_1))),(wrap64 (x8_1+1)),(taad),(taad),H',⟨taaq⟩,taah⟩
     ·rw [if_neg c4] at H
      exact absurd H (taac)
    ·rw [if_neg c3] at H
     exact absurd H (taac)
   ·rw [if_neg c2] at H
    have c2b0:decide (x8_1<(l0.length:Int))=false:=zbj c2
    clear c2;obtain rfl:=zbe H
    go_wp2
    go_ret
    exact ⟨taad,taah⟩
def spec_liFit.f (k:Nat) (l0:List Int) (l1:List Int):Option (Bool):=if (l0.length:Int)=(l1.length:Int) then ((spec_liSum.f k l0).bind fun t106=>((spec_liSum.f k l1).bind fun t107=>(some (t106 == t107)))) else (some false)
theorem spec_liFit.calls (k:Nat) (A0:Option Addr) (c0:Nat) (l0:List Int) (A1:Option Addr) (c1:Nat) (l1:List Int) (r:Bool) (w:World) (hr0:Kd.C (Kd.int .i64) w A0 l0.length l0) (hc0:l0.length≤c0) (hr1:Kd.C (Kd.int .i64) w A1 l1.length l1) (hc1:l1.length≤c1) (h:spec_liFit.f k l0 l1=some r) :
 Calls Tryz.prog 71 #[.slice A0 l0.length c0,.slice A1 l1.length c1] w fun e w'=>e = .returned (.bool r)∧Drawn0 w w':=by
 have HR0:=zad hr0;have HC0:=zad hc0;clear hr0 hc0;have HR1:=zad hr1;have HC1:=zad hc1;clear hr1 hc1;have H:(if (l0.length:Int)=(l1.length:Int) then ((spec_liSum.f k l0).bind fun t106=>((spec_liSum.f k l1).bind fun t107=>(some (t106 == t107)))) else (some false))=some r:=h
 clear h;by_cases c3:(l0.length:Int)=(l1.length:Int)
 ·rw [if_pos c3] at H
  have c3b0:((l0.length:Int) == (l1.length:Int))=true:=beq_iff_eq.mpr c3
  have c3b1:((l0.length:Int) != (l1.length:Int))=false:=bne_eq_false_iff_eq.mpr c3
  have c3b2:(l0.length == l1.length)=true:=by first | simpa using c3 | (simp at c3 ⊢;omega)
  clear c3;replace H:=zay.mp H;obtain ⟨t106,A40,H⟩:=H
  replace H:((spec_liSum.f k l1).bind fun t107=>(some (t106 == t107)))=some r:=H
  have A4:=zad A40;clear A40;replace H:=zay.mp H;obtain ⟨t107,A50,H⟩:=H
  replace H:(some (t106 == t107))=some r:=H
  have A5:=zad A50;clear A50;obtain rfl:=zbe H
  go_enter Tryz.func71,Tryz.ntmps71
  go_wp2_with (first | (go_at_call 61;(with_reducible refine (spec_liSum.calls k _ _ l0 t106 _ ?side1 ?side2 A4.out).mono ?_);(case side1=>repeat (first | exact HR0.out | (with_reducible refine zal ?_ _) | (with_reducible refine zam ?_ _) | (with_reducible refine zan ?_)));(case side2=>exact HC0.out);rintro e w' ⟨rfl,⟨nd,rfl⟩⟩) | (go_at_call 61;(with_reducible refine (spec_liSum.calls k _ _ l1 t107 _ ?side1 ?side2 A5.out).mono ?_);(case side1=>repeat (first | exact HR1.out | (with_reducible refine zal ?_ _) | (with_reducible refine zam ?_ _) | (with_reducible refine zan ?_)));(case side2=>exact HC1.out);rintro e w' ⟨rfl,⟨nd,rfl⟩⟩))
  go_ret
  exact ⟨taad,taah⟩
 ·rw [if_neg c3] at H
  have c3b0:((l0.length:Int) == (l1.length:Int))=false:=zbo.mpr c3
  have c3b1:((l0.length:Int) != (l1.length:Int))=true:=bne_iff_ne.mpr c3
  have c3b2:(l0.length == l1.length)=false:=by first | simpa using c3 | (simp at c3 ⊢;omega)
  obtain rfl:=zbe H
  go_enter Tryz.func71,Tryz.ntmps71
  go_wp2
  go_ret
  exact ⟨taad,taah⟩
mutual
def spec_liRank.l0:Nat→List Int→List Int→Int→Int→Option (List Int)
 | 0,_,_,_,_=>none
 | k+1,x3,x7,x8,x9=>if x9<x8 then (if 0≤x9 then (if x9<(x7.length:Int) then (spec_liRank.l1 k x3 (rd x7 x9) 0 x7 x8 x9) else (none)) else (none)) else (some x3)
def spec_liRank.l1:Nat→List Int→Int→Int→List Int→Int→Int→Option (List Int)
 | 0,_,_,_,_,_,_=>none
 | k+1,x3,x5,x6,x7,x8,x9=>if x6<(x3.length:Int) then (if 0≤x6 then (if (rd x3 x6)≥x5 then (spec_liRank.l1 k x3 x5 (wrap64 (x6+1)) x7 x8 x9) else (if x6≤(x3.length:Int) then ((spec_l1Own.f (x3.take (x6:Int).toNat)).bind fun t120=>((some (([x5]:List Int):List Int)).bind fun y123=>(if t120.length+y123.length<17592186044416 then ((some (t120 ++ y123:List Int)).bind fun y126=>((some (x3.drop (x6:Int).toNat:List Int)).bind fun y129=>(if y126.length+y129.length<17592186044416 then (spec_liRank.l0 k (y126 ++ y129) x7 x8 (wrap64 (x9+1))) else (none)))) else (none)))) else (none))) else (none)) else (if 0≤x6 then (if x6≤(x3.length:Int) then ((spec_l1Own.f (x3.take (x6:Int).toNat)).bind fun t140=>((some (([x5]:List Int):List Int)).bind fun y143=>(if t140.length+y143.length<17592186044416 then ((some (t140 ++ y143:List Int)).bind fun y146=>((some (x3.drop (x6:Int).toNat:List Int)).bind fun y149=>(if y146.length+y149.length<17592186044416 then (spec_liRank.l0 k (y146 ++ y149) x7 x8 (wrap64 (x9+1))) else (none)))) else (none)))) else (none)) else (none))
end
def spec_liRank.f (k:Nat) (l0:List Int):Option (List Int):=spec_liRank.l0 k ([]:List Int) l0 (l0.length:Int) 0
def spec_liRank.T8:Bool × List (List Nat × List Nat):=(true,[([],[]),([],[]),([0,1],[0,1]),([2],[2]),([],[]),([4],[4]),([3,5,3],[3,5]),([],[]),([],[]),([7,8],[7,8]),([6,9,6],[6,9]),([10,10,0,1,2,3,4,5,6,7,8,9,10],[0,7,10])])
def spec_liRank.B8:List Nat:=[0,0,3,7,0,16,63,0,0,384,1023,2047]
theorem spec_liRank.tab8:rtab .any (opsOf Tryz.f41 8)=spec_liRank.T8:=by kernel_rfl
theorem spec_liRank.bits8:waitsOk spec_liRank.T8.2 spec_liRank.B8=true:=by kernel_rfl
theorem spec_liRank.calls (k:Nat) (A0:Option Addr) (c0:Nat) (l0:List Int) (r:List Int) (w:World) (hr0:Kd.C (Kd.int .i64) w A0 l0.length l0) (hc0:l0.length≤c0) (h:spec_liRank.f k l0=some r) :
 Calls Tryz.prog 41 #[.slice A0 l0.length c0] w fun e w'=>∃ v0_:Value,e = .returned (v0_)∧Kd.R (Kd.int .i64) 3 w' w.heap.size (fun _=>True) v0_ r∧Below w.heap.size w w':=by
 have HR0:=zad hr0;have HC0:=zad hc0;clear hr0 hc0;have HB:=zad (Below.refl w.heap.size w)
 have H:(spec_liRank.l0 k ([]:List Int) l0 (l0.length:Int) 0)=some r:=h
 clear h;have H':=zad H
 clear H;go_enter Tryz.func41,Tryz.ntmps41
 go_wp2
 go_loopg [3,9] k (fun kq v3 v9 w'=>∃ (x3_1:List Int) (x9_1:Int),v9 = .int .i64 x9_1∧Aside0 (spec_liRank.l0 kq x3_1 l0 (l0.length:Int) x9_1=some r)∧Aside0 (kq≤k)∧Aside0 (Kd.R (Kd.int .i64) 3 w' w.heap.size (fun _=>True) v3 x3_1)∧Aside0 (Below w.heap.size w w'))
 case atStart=>exact ⟨(([]:List Int)),(0),(taad),H',⟨zcf _⟩,⟨taax⟩,⟨taab⟩⟩
 case round =>
  clear H'
  obtain ⟨x3_1,x9_1,rfl,HA,HK1,HO_3,HB⟩:=hrel
  cases gk with
  | zero=>exact absurd HA.out (by simp [spec_liRank.l0])
  | succ k1 =>
   have H:=HA.out
   clear HA;simp only [spec_liRank.l0] at H
   by_cases c2:x9_1<(l0.length:Int)
   ·rw [if_pos c2] at H
    have c2b0:decide (x9_1<(l0.length:Int))=true:=zba c2
    clear c2;by_cases c3:0≤x9_1
    ·rw [if_pos c3] at H
     have c3b0:decide (0≤x9_1)=true:=zba c3
     clear c3;by_cases c4:x9_1<(l0.length:Int)
     ·rw [if_pos c4] at H
      have c4b0:decide (x9_1<(l0.length:Int))=true:=zba c4
      clear c4;have H':=zad H
      clear H;have p114:0≤(x9_1:Int):=zas (taaa)
      have q114:x9_1<(l0.length:Int):=zas (taaa)
      obtain ⟨ad114,e114,hx114_0⟩:=zca HR0.out x9_1 p114 q114
      cases e114
      replace hx114_0:=(HB.out.cell (zaz w _ hx114_0)).trans hx114_0
      replace p114:=eq_true p114
      replace q114:=eq_true q114
      go_wp2
      go_loopg [6] k1 (fun kq v6 w'=>∃ (x6_2:Int),v6 = .int .i64 x6_2∧Aside0 (spec_liRank.l1 kq x3_1 (rd l0 x9_1) x6_2 l0 (l0.length:Int) x9_1=some r)∧Aside0 (kq≤k1)∧Aside0 (Kd.R (Kd.int .i64) 3 w' w.heap.size (fun _=>True) u3 x3_1)∧Aside0 (Below w.heap.size w w'))
      case atStart=>exact ⟨(0),(taad),H',⟨zcf _⟩,⟨taal⟩,⟨taab⟩⟩
      case round =>
       clear H'
       try clear p1
       try clear q1
       try clear hx1
       try clear c2
       try clear c2b0
       try clear p2
       try clear c3
       try clear c3b0
       try clear c4
       try clear c4b0
       try clear hx114_0
       try clear p114
       try clear q114
       obtain ⟨x6_2,rfl,HA,HK2,HO_3,HB⟩:=hrel
       cases gk with
       | zero=>exact absurd HA.out (by simp [spec_liRank.l1])
       | succ k2 =>
        have H:=HA.out
        clear HA;simp only [spec_liRank.l1] at H
        by_cases c5:x6_2<(x3_1.length:Int)
        ·rw [if_pos c5] at H
         have c5b0:decide (x6_2<(x3_1.length:Int))=true:=zba c5
         clear c5;by_cases c6:0≤x6_2
         ·rw [if_pos c6] at H
          have c6b0:decide (0≤x6_2)=true:=zba c6
          clear c6;by_cases c7:(rd x3_1 x6_2)≥(rd l0 x9_1)
          ·rw [if_pos c7] at H
           have c7b0:decide ((rd l0 x9_1)≤(rd x3_1 x6_2))=true:=zba c7
           clear c7;have H':=zad H
           clear H;obtain ⟨Ao8,co8,eo8⟩:=zbv HO_3.out
           subst eo8;have p115:0≤(x6_2:Int):=zas (taaa)
           have q115:x6_2<(x3_1.length:Int):=zas (taaa)
           obtain ⟨ad115,e115,hx115_0⟩:=zca (zbf HO_3.out).2.2 x6_2 p115 q115
           cases e115
           replace p115:=eq_true p115
           replace q115:=eq_true q115
           go_wp2
           go_roundg k2
           case measure=>have:=HK1.out;have:=HK2.out;omega
           case rel=>exact ⟨(wrap64 (x6_2+1)),(taad),H',⟨taao⟩,⟨taal⟩,⟨taab⟩⟩
          ·rw [if_neg c7] at H
           have c7b0:decide ((rd l0 x9_1)≤(rd x3_1 x6_2))=false:=zbj c7
           clear c7;have c9b0:=eq_true (zas (taaa):0≤x6_2)
           by_cases c10:x6_2≤(x3_1.length:Int)
           ·rw [if_pos c10] at H
            have c10b0:=eq_true c10;have c10b1:decide (x6_2≤(x3_1.length:Int))=true:=zba c10
            clear c10;obtain ⟨y116,hy116⟩:∃ y_:List Int,y_=(x3_1.take (x6_2:Int).toNat):=⟨_,rfl⟩
            replace H:((spec_l1Own.f y116).bind fun t120=>((some (([(rd l0 x9_1)]:List Int):List Int)).bind fun y123=>(if t120.length+y123.length<17592186044416 then ((some (t120 ++ y123:List Int)).bind fun y126=>((some (x3_1.drop (x6_2:Int).toNat:List Int)).bind fun y129=>(if y126.length+y129.length<17592186044416 then (spec_liRank.l0 k2 (y126 ++ y129) l0 (l0.length:Int) (wrap64 (x9_1+1))) else (none)))) else (none))))=some r:=by first | (rw [hy116];with_reducible exact H) | (have H2_:=(zbd _ _).symm.trans H;rw [hy116];with_reducible exact H2_) | (have H2_:=(zbd _ _).symm.trans H;with_reducible exact H2_) | with_reducible exact H | (rw [hy116];exact H) | exact H
            have Ny116:=zad hy116;clear hy116;replace H:=zay.mp H;obtain ⟨t120,A110,H⟩:=H
            replace H:((some (([(rd l0 x9_1)]:List Int):List Int)).bind fun y123=>(if t120.length+y123.length<17592186044416 then ((some (t120 ++ y123:List Int)).bind fun y126=>((some (x3_1.drop (x6_2:Int).toNat:List Int)).bind fun y129=>(if y126.length+y129.length<17592186044416 then (spec_liRank.l0 k2 (y126 ++ y129) l0 (l0.length:Int) (wrap64 (x9_1+1))) else (none)))) else (none)))=some r:=H
            have A11:=zad A110;clear A110;obtain ⟨y123,hy123⟩:∃ y_:List Int,y_=(([(rd l0 x9_1)]:List Int)):=⟨_,rfl⟩
            replace H:(if t120.length+y123.length<17592186044416 then ((some (t120 ++ y123:List Int)).bind fun y126=>((some (x3_1.drop (x6_2:Int).toNat:List Int)).bind fun y129=>(if y126.length+y129.length<17592186044416 then (spec_liRank.l0 k2 (y126 ++ y129) l0 (l0.length:Int) (wrap64 (x9_1+1))) else (none)))) else (none))=some r:=by first | (rw [hy123];with_reducible exact H) | (have H2_:=(zbd _ _).symm.trans H;rw [hy123];with_reducible exact H2_) | (have H2_:=(zbd _ _).symm.trans H;with_reducible exact H2_) | with_reducible exact H | (rw [hy123];exact H) | exact H
            have Ny123:=zad hy123;clear hy123;by_cases c12:t120.length+y123.length<17592186044416
            ·rw [if_pos c12] at H
             have LMc12:=zad c12;clear c12;obtain ⟨y126,hy126⟩:∃ y_:List Int,y_=(t120 ++ y123):=⟨_,rfl⟩
             replace H:((some (x3_1.drop (x6_2:Int).toNat:List Int)).bind fun y129=>(if y126.length+y129.length<17592186044416 then (spec_liRank.l0 k2 (y126 ++ y129) l0 (l0.length:Int) (wrap64 (x9_1+1))) else (none)))=some r:=by first | (rw [hy126];with_reducible exact H) | (have H2_:=(zbd _ _).symm.trans H;rw [hy126];with_reducible exact H2_) | (have H2_:=(zbd _ _).symm.trans H;with_reducible exact H2_) | with_reducible exact H | (rw [hy126];exact H) | exact H
             have Ny126:=zad hy126;clear hy126;have c13b0:=eq_true (zas (taaa):0≤x6_2)
             have c14b0:=eq_true (zas (taaa):x6_2≤(x3_1.length:Int))
             obtain ⟨y129,hy129⟩:∃ y_:List Int,y_=(x3_1.drop (x6_2:Int).toNat):=⟨_,rfl⟩
             replace H:(if y126.length+y129.length<17592186044416 then (spec_liRank.l0 k2 (y126 ++ y129) l0 (l0.length:Int) (wrap64 (x9_1+1))) else (none))=some r:=by first | (rw [hy129];with_reducible exact H) | (have H2_:=(zbd _ _).symm.trans H;rw [hy129];with_reducible exact H2_) | (have H2_:=(zbd _ _).symm.trans H;with_reducible exact H2_) | with_reducible exact H | (rw [hy129];exact H) | exact H
             have Ny129:=zad hy129;clear hy129;by_cases c15:y126.length+y129.length<17592186044416
             ·rw [if_pos c15] at H
              have LMc15:=zad c15;clear c15;obtain ⟨y133,hy133⟩:∃ y_:List Int,y_=(y126 ++ y129):=⟨_,rfl⟩
              replace H:(spec_liRank.l0 k2 y133 l0 (l0.length:Int) (wrap64 (x9_1+1)))=some r:=by first | (rw [hy133];with_reducible exact H) | (have H2_:=(zbd _ _).symm.trans H;rw [hy133];with_reducible exact H2_) | (have H2_:=(zbd _ _).symm.trans H;with_reducible exact H2_) | with_reducible exact H | (rw [hy133];exact H) | exact H
              have Ny133:=zad hy133;clear hy133;have H':=zad H
              clear H;obtain ⟨Ao16,co16,eo16⟩:=zbv HO_3.out
              subst eo16;have p115:0≤(x6_2:Int):=zas (taaa)
              have q115:x6_2<(x3_1.length:Int):=zas (taaa)
              obtain ⟨ad115,e115,hx115_0⟩:=zca (zbf HO_3.out).2.2 x6_2 p115 q115
              cases e115
              replace p115:=eq_true p115
              replace q115:=eq_true q115
              try go_wp2
              have n0_:=zad (zak HO_3.out)
              have n1_:=zad (zaf HB.out)
              clear HO_3 HB;have HO_3:=n0_;have HB:=n1_;clear n0_ n1_;have q18:(x6_2:Int)≤((x3_1.length:Int):Int):=zas (taaa)
              obtain ⟨i018,hi018,_,hsz18,_⟩:=info_parts info3
              have hroom18:x3_1.length≤co16:=(zbf HO_3.out).2.1
              have hC18:Kd.C (Kd.int .i64) _ (some ad115) x3_1.length x3_1:=(zbf HO_3.out).2.2
              have hcut18:=cut_to (P:=Tryz.prog) 25 3 .i64 Tryz.underlying25 hi018 (some ad115) x3_1.length co16 x6_2 (zas (taaa)) q18 hroom18
              have hr18:=Kd.C_take (m:=(x6_2:Int).toNat) hC18 (by omega)
              have hy18:y116.length=(x6_2:Int).toNat:=(by rw [Ny116.out,zax];omega)
              rw [← Ny116.out] at hr18
              rw [← hy18] at hcut18
              have HR119:=zad hr18;have HC119:=zad (show y116.length≤co16 from by omega)
              clear hr18 hC18 hroom18 hi018 hsz18;have KY18:=zad hy18;clear hy18;have KL18:=zad (show (x6_2:Int).toNat≤x3_1.length from by omega)
              replace q18:=eq_true q18
              have q19:(x6_2:Int)≤((x3_1.length:Int):Int):=zas (taaa)
              obtain ⟨i019,hi019,_,hsz19,_⟩:=info_parts info3
              have hroom19:x3_1.length≤co16:=(zbf HO_3.out).2.1
              have hC19:Kd.C (Kd.int .i64) _ (some ad115) x3_1.length x3_1:=(zbf HO_3.out).2.2
              have q019:(0:Int)≤(x6_2:Int):=zas (taaa)
              have hcut19:=cut_from (P:=Tryz.prog) 25 3 .i64 Tryz.underlying25 hi019 1 hsz19 (some ad115) x3_1.length co16 x6_2 q019 q19
              have hr19:=Kd.C_drop (m:=(x6_2:Int).toNat) (c:=co16) hC19 (by omega) hroom19
              obtain ⟨A19,hA19⟩:∃ A1,A1=(if co16=(x6_2:Int).toNat then (some ad115) else ((some ad115):Option Addr).map (·.add ((x6_2:Int).toNat*1))):=⟨_,rfl⟩
              obtain ⟨c19,hc19⟩:∃ c1,c1=co16 - (x6_2:Int).toNat:=⟨_,rfl⟩
              have hy19:y129.length=x3_1.length - (x6_2:Int).toNat:=(by rw [Ny129.out,zaw] <;> omega)
              rw [show (x3_1).drop (x6_2:Int).toNat=y129 from Ny129.out.symm] at hr19
              replace hr19:Kd.C (Kd.int .i64) _ A19 y129.length y129:=(by rw [hA19];exact hr19)
              rw [← hy19,← hA19,← hc19] at hcut19
              have HR132:=zad hr19;have HC132:=zad (show y129.length≤c19 from by rw [hy19,hc19];exact Nat.sub_le_sub_right hroom19 _)
              clear hr19 hC19 hroom19 hi019 hsz19 hc19;have KY19:=zad hy19;have KA19:=zad hA19;clear hy19 hA19;have KL19:=zad (show (x6_2:Int).toNat≤x3_1.length from by omega)
              replace q19:=eq_true q19
              refine start_ (n:=12) (S:=fun w'=>True) (ds:=[]) #[false,false,false,false,false,false,false,false,false,false,false,false] (by kernel_rfl) rfl rfl trivial (fun hHeld => ?_);refine with_tabW spec_liRank.tab8 spec_liRank.bits8 (fun HT_ HW_ => ?_)
              generalize wr.drew=w17 at HO_3 HB HR119 HR132 hHeld ⊢
              refine pure_ (i:=0) (N:=some 27) (v := ?_) (a' := ?_) #[true,false,false,false,false,false,false,false,false,false,false,false] rfl rfl (zby HT_.out (by kernel_rfl)) (fun _ _ _ h=>h) (Or.inl ⟨by rfl,?_⟩) ?_ ?_
              rotate_left
              ·intro w'
               go_simp;with_reducible rfl
              rotate_left
              ·simp only [Act.put,zaa,zab,zac,zbw,zbx]
               rfl
              refine pure_ (i:=1) (N:=some 28) (v := ?_) (a' := ?_) #[true,true,false,false,false,false,false,false,false,false,false,false] rfl rfl (zby HT_.out (by kernel_rfl)) (fun _ _ _ h=>h) (Or.inl ⟨by rfl,?_⟩) ?_ ?_
              rotate_left
              ·intro w'
               go_simp;with_reducible rfl
              rotate_left
              ·simp only [Act.put,zaa,zab,zac,zbw,zbx]
               rfl
              refine pure_ (i:=2) (N:=some 29) (v := ?_) (a' := ?_) #[true,true,true,false,false,false,false,false,false,false,false,false] rfl rfl (zby HT_.out (by kernel_rfl)) (fun _ _ _ h=>h) (Or.inl ⟨by rfl,?_⟩) ?_ ?_
              rotate_left
              ·intro w'
               go_simp;with_reducible rfl
              rotate_left
              ·simp only [Act.put,zaa,zab,zac,zbw,zbx]
               rfl
              refine pure_ (i:=4) (N:=some 31) (v := ?_) (a' := ?_) #[true,true,true,false,true,false,false,false,false,false,false,false] rfl rfl (zby HT_.out (by kernel_rfl)) (fun _ _ _ h=>h) (Or.inl ⟨by rfl,?_⟩) ?_ ?_
              rotate_left
              ·intro w'
               go_simp;with_reducible rfl
              rotate_left
              ·simp only [Act.put,zaa,zab,zac,zbw,zbx]
               rfl
              refine pure_ (i:=7) (N:=some 34) (v := ?_) (a' := ?_) #[true,true,true,false,true,false,false,true,false,false,false,false] rfl rfl (zby HT_.out (by kernel_rfl)) (fun _ _ _ h=>h) (Or.inl ⟨by rfl,?_⟩) ?_ ?_
              rotate_left
              ·intro w'
               go_simp;with_reducible rfl
              rotate_left
              ·simp only [Act.put,zaa,zab,zac,zbw,zbx]
               rfl
              refine pure_ (i:=8) (N:=some 35) (v := ?_) (a' := ?_) #[true,true,true,false,true,false,false,true,true,false,false,false] rfl rfl (zby HT_.out (by kernel_rfl)) (fun _ _ _ h=>h) (Or.inl ⟨by rfl,?_⟩) ?_ ?_
              rotate_left
              ·intro w'
               go_simp;with_reducible rfl
              rotate_left
              ·simp only [Act.put,zaa,zab,zac,zbw,zbx]
               rfl
              refine pure_ (i:=9) (N:=some 36) (v := ?_) (a' := ?_) #[true,true,true,false,true,false,false,true,true,true,false,false] rfl rfl (zby HT_.out (by kernel_rfl)) (fun _ _ _ h=>h) (Or.inl ⟨by rfl,?_⟩) ?_ ?_
              rotate_left
              ·intro w'
               go_simp;with_reducible rfl
              rotate_left
              ·simp only [Act.put,zaa,zab,zac,zbw,zbx]
               rfl
              refine join_ (σ:=Value × Value) 3 #[true,true,true,true,true,true,false,true,true,true,false,false] (fun s_=>[(30,s_.1),(32,s_.2)]) (fun s_ w'=>(Kd.R (Kd.int .i64) 3 w' w.heap.size (fun k_=>some k_≠(s_.2:Value).ownBlock∧some k_≠(.slice (some ad115) x3_1.length co16:Value).ownBlock) s_.1 t120)∧(Kd.R (Kd.int .i64) 3 w' w.heap.size (fun k_=>some k_≠(s_.1:Value).ownBlock∧some k_≠(.slice (some ad115) x3_1.length co16:Value).ownBlock) s_.2 y123)∧(Kd.R (Kd.int .i64) 3 w' w.heap.size (fun k_=>some k_≠(s_.1:Value).ownBlock∧some k_≠(s_.2:Value).ownBlock) (.slice (some ad115) x3_1.length co16) x3_1)∧(Below w.heap.size w w')) ?_ ?_
              rotate_left
              ·intro hCont
               refine two_ (i:=3) (j:=5) (Ni:=some 30) (Nj:=some 32) #[true,true,true,true,true,false,false,true,true,true,false,false] #[true,true,true,false,true,true,false,true,true,true,false,false] rfl rfl rfl rfl (two_of HT_.out (by kernel_rfl)) (by decide) (by decide) (fun K hK => ?_) (fun K hK => ?_)
               ·skip
                refine goes_ Tryz.func52 (by kernel_rfl) rfl #[.slice (some ad115) y116.length co16] (by rfl) rfl rfl (taae) ?_
                with_reducible refine (spec_l1Own.calls _ _ y116 t120 _ ?side1 ?side2 A11.out).mono ?_
                (case side1=>exact tafx)
                (case side2=>exact HC119.out)
                rintro e w20 ⟨v121,rfl,ho0,hb⟩
                refine ⟨_,rfl,?_⟩
                have n0_:=zad (zcb (taal) (zcd ho0) hb)
                have n1_:=zad (zbu (zcc ho0 (zce (taal))) (zbk (taab)))
                have n2_:=zad (Kd.C_below (tabl) hb)
                have n3_:=zad (Kd.C_below (tace) hb)
                have n4_:=zad (zbg (taab) hb)
                clear HO_3 HR119 HR132 HB;have HO_3:=n0_;have HO122:=n1_;have HR119:=n2_;have HR132:=n3_;have HB:=n4_;clear n0_ n1_ n2_ n3_ n4_;(try clear hb);(try clear hb2);(try clear hk);(try clear hi);(try clear ho0);refine hK.out _ _ trivial (fun hHeld => ?_)
                clear hK K;refine norm_ (a' := ?_) ?_ ?_
                rotate_left
                ·show Act.put _ (some 30) _=_
                 simp only [Act.put,zaa,zab,zac,zbw,zbx]
                 rfl
                refine one_ (i:=5) (N:=some 32) #[true,true,true,true,true,true,false,true,true,true,false,false] rfl rfl (one_of HT_.out (by kernel_rfl)) (by decide) (fun K hK => ?_)
                refine Kd.R_lit_step (Kd.int .i64) _ 3 ?hg (N:=32) ?hd (xs:=([(rd l0 x9_1)]:List Int)) (inner:=[.int .i64 (rd l0 x9_1)]) (ok:=fun _=>True) (okp:=fun _=>True) ?hr ?hp (fun _ hk=>hk) trivial (Below.refl _ _) (zcf _) (taac) ?_;(case hd=>rfl);(case hg=>rfl);(case hr=>first | (go_simp;done) | (go_simp;rfl));(case hp=>exact (Reps.one (show Kd.M (Kd.int .i64) _ _ _ (rd l0 x9_1) [.int .i64 (rd l0 x9_1)] from rfl) (Reps.none _ _)))
                intro v124 w21 ho22 hb hg_ hnew_
                clear hg_ hnew_;(first | rw [← Ny123.out] at ho22 | (simp only [Int.reduceToNat] at ho22;rw [← Ny123.out] at ho22))
                have n0_:=zad (zcb (taal) (zcd ho22) hb)
                have n1_:=zad (zcb (tadk) (zcd ho22) hb)
                have n2_:=zad (zbu (zcc (zcc ho22 (zce (taal))) (zce (tadk))) (zbk (taab)))
                have n3_:=zad (Kd.C_below (tabl) hb)
                have n4_:=zad (Kd.C_below (tace) hb)
                have n5_:=zad (zbg (taab) hb)
                clear HO_3 HO122 HR119 HR132 HB;have HO_3:=n0_;have HO122:=n1_;have HO125:=n2_;have HR119:=n3_;have HR132:=n4_;have HB:=n5_;clear n0_ n1_ n2_ n3_ n4_ n5_ hb ho22;refine hK.out _ _ trivial (fun hHeld => ?_)
                clear hK K;refine norm_ (a' := ?_) ?_ ?_
                rotate_left
                ·show Act.put _ (some 32) _=_
                 simp only [Act.put,zaa,zab,zac,zbw,zbx]
                 rfl
                exact norm_ (tabm) (hCont (v121,v124) _ ⟨(tadl),(tadm),(tadn),(taab)⟩)
               ·skip
                refine Kd.R_lit_step (Kd.int .i64) _ 3 ?hg (N:=32) ?hd (xs:=([(rd l0 x9_1)]:List Int)) (inner:=[.int .i64 (rd l0 x9_1)]) (ok:=fun _=>True) (okp:=fun _=>True) ?hr ?hp (fun _ hk=>hk) trivial (Below.refl _ _) (zcf _) (taac) ?_;(case hd=>rfl);(case hg=>rfl);(case hr=>first | (go_simp;done) | (go_simp;rfl));(case hp=>exact (Reps.one (show Kd.M (Kd.int .i64) _ _ _ (rd l0 x9_1) [.int .i64 (rd l0 x9_1)] from rfl) (Reps.none _ _)))
                intro v124 w20 ho21 hb hg_ hnew_
                clear hg_ hnew_;(first | rw [← Ny123.out] at ho21 | (simp only [Int.reduceToNat] at ho21;rw [← Ny123.out] at ho21))
                have n0_:=zad (zcb (taal) (zcd ho21) hb)
                have n1_:=zad (zbu (zcc ho21 (zce (taal))) (zbk (taab)))
                have n2_:=zad (Kd.C_below (tabl) hb)
                have n3_:=zad (Kd.C_below (tace) hb)
                have n4_:=zad (zbg (taab) hb)
                clear HO_3 HR119 HR132 HB;have HO_3:=n0_;have HO125:=n1_;have HR119:=n2_;have HR132:=n3_;have HB:=n4_;clear n0_ n1_ n2_ n3_ n4_ hb ho21;refine hK.out _ _ trivial (fun hHeld => ?_)
                clear hK K;refine norm_ (a' := ?_) ?_ ?_
                rotate_left
                ·show Act.put _ (some 32) _=_
                 simp only [Act.put,zaa,zab,zac,zbw,zbx]
                 rfl
                refine one_ (i:=3) (N:=some 30) #[true,true,true,true,true,true,false,true,true,true,false,false] rfl rfl (one_of HT_.out (by kernel_rfl)) (by decide) (fun K hK => ?_)
                refine goes_ Tryz.func52 (by kernel_rfl) rfl #[.slice (some ad115) y116.length co16] (by rfl) rfl rfl (taae) ?_
                with_reducible refine (spec_l1Own.calls _ _ y116 t120 _ ?side1 ?side2 A11.out).mono ?_
                (case side1=>exact tafx)
                (case side2=>exact HC119.out)
                rintro e w22 ⟨v121,rfl,ho0,hb⟩
                refine ⟨_,rfl,?_⟩
                have n0_:=zad (zcb (taal) (zcd ho0) hb)
                have n1_:=zad (zcb (taby) (zcd ho0) hb)
                have n2_:=zad (zbu (zcc (zcc ho0 (zce (taal))) (zce (taby))) (zbk (taab)))
                have n3_:=zad (Kd.C_below (tabl) hb)
                have n4_:=zad (Kd.C_below (tace) hb)
                have n5_:=zad (zbg (taab) hb)
                clear HO_3 HO125 HR119 HR132 HB;have HO_3:=n0_;have HO125:=n1_;have HO122:=n2_;have HR119:=n3_;have HR132:=n4_;have HB:=n5_;clear n0_ n1_ n2_ n3_ n4_ n5_;(try clear hb);(try clear hb2);(try clear hk);(try clear hi);(try clear ho0);refine hK.out _ _ trivial (fun hHeld => ?_)
                clear hK K;refine norm_ (a' := ?_) ?_ ?_
                rotate_left
                ·show Act.put _ (some 30) _=_
                 simp only [Act.put,zaa,zab,zac,zbw,zbx]
                 rfl
                exact norm_ (tabm) (hCont (v121,v124) _ ⟨(tadl),(tadm),(tado),(taab)⟩)
              rintro ⟨v121,v124⟩ w23 ⟨h0_,h1_,h2_,h3_⟩
              have n0_:Aside0 (Kd.R (Kd.int .i64) 3 w23 w.heap.size (fun k_=>some k_≠(v124:Value).ownBlock∧some k_≠(.slice (some ad115) x3_1.length co16:Value).ownBlock) v121 t120):=⟨h0_⟩
              have n1_:Aside0 (Kd.R (Kd.int .i64) 3 w23 w.heap.size (fun k_=>some k_≠(v121:Value).ownBlock∧some k_≠(.slice (some ad115) x3_1.length co16:Value).ownBlock) v124 y123):=⟨h1_⟩
              have n2_:Aside0 (Kd.R (Kd.int .i64) 3 w23 w.heap.size (fun k_=>some k_≠(v121:Value).ownBlock∧some k_≠(v124:Value).ownBlock) (.slice (some ad115) x3_1.length co16) x3_1):=⟨h2_⟩
              have n3_:Aside0 (Below w.heap.size w w23):=⟨h3_⟩
              clear HO_3 HB h0_ h1_ h2_ h3_;have HO122:=n0_;have HO125:=n1_;have HO_3:=n2_;have HB:=n3_;clear n0_ n1_ n2_ n3_;have hHeld:=trivial
              obtain ⟨Ao25,co25,eo25⟩:=zbv HO125.out
              (first | subst eo25 | (injection eo25 with f1_ f2_ f3_;have f4_:=f1_.symm;have f5_:=f3_.symm;clear f1_ f2_ f3_;subst f4_;subst f5_))
              refine norm_ (a' := ?_) ?_ ?_
              rotate_left
              ·simp only [putAll,Act.put,zaa,zab,zac]
               rfl
              refine one_ (i:=6) (N:=some 33) #[true,true,true,true,true,true,true,true,true,true,false,false] rfl rfl (one_of HT_.out (by kernel_rfl)) (by decide) (fun K hK => ?_)
              refine Kd.R_append_rows_step (Kd.int .i64) (w0:=w) w.heap.size (by rfl) (.tmp 30) (.tmp 32) 25 3 (.int .i64 0) 8 rfl Tryz.underlying25 info3 rfl (by decide) (by omega) v121 t120 y123 _ _ _ (fun k_=>some k_≠(.slice (some ad115) x3_1.length co16:Value).ownBlock∧some k_≠(.slice Ao25 y123.length co25:Value).ownBlock) (fun _=>False) rfl rfl ?aO ?aR (fun _ _ h=>h) (fun _ h=>h.elim) ?aF ?aB ?aS ?aL ?_
              (case aR=>repeat (first | exact (zbf HO125.out).2.2 | (with_reducible refine zal ?_ _) | (with_reducible refine zam ?_ _) | (with_reducible refine zan ?_)))
              (case aB=>exact (taab))
              (case aF=>exact (fun k_ hk=>⟨Kd.fresh' (zce (taal)) k_ hk,Kd.fresh' (zce (taby)) k_ hk⟩))
              (case aO=>exact (by (with_reducible repeat (first | apply zai | apply zaj | apply zak));exact zbq HO122.out (fun _ hk=>⟨hk.2,hk.1⟩)))
              (case aS=>exact (zbk (taab)))
              (case aL=>have:=LMc12.out;omega)
              intro v127 w24 ho hb hg hat
              rw [← Ny126.out] at ho
              have n0_:=zad (Kd.R_after (ok:=(fun k_=>some k_≠(.slice Ao25 y123.length co25:Value).ownBlock)) (tadp) hg hat)
              have n1_:=zad (Kd.R_after (ok:=(fun k_=>some k_≠(.slice (some ad115) x3_1.length co16:Value).ownBlock)) (by (with_reducible repeat (first | apply zai | apply zaj | apply zak));exact zbq HO125.out (fun _ hk=>⟨hk.2,hk.1⟩)) hg hat)
              have n2_:=zad (hb)
              have n3_:=zad (ho)
              clear HO_3 HO125 HB HO122;have HO_3:=n0_;have HO125:=n1_;have HB:=n2_;have HO128:=n3_;clear n0_ n1_ n2_ n3_ ho hb hg hat;refine hK.out _ _ trivial (fun hHeld => ?_)
              clear hK K;refine norm_ (a' := ?_) ?_ ?_
              rotate_left
              ·show Act.put _ (some 33) _=_
               simp only [Act.put,zaa,zab,zac,zbw,zbx]
               rfl
              refine one_ (i:=10) (N:=some 37) #[true,true,true,true,true,true,true,true,true,true,true,false] rfl rfl (one_of HT_.out (by kernel_rfl)) (by decide) (fun K hK => ?_)
              refine Kd.R_append_rows_step (Kd.int .i64) (w0:=w) w.heap.size (by rfl) (.tmp 33) (.tmp 36) 25 3 (.int .i64 0) 8 rfl Tryz.underlying25 info3 rfl (by decide) (by omega) v127 y126 y129 _ _ _ (fun k_=>some k_≠(.slice (some ad115) x3_1.length co16:Value).ownBlock∧some k_≠(.slice Ao25 y123.length co25:Value).ownBlock) (fun _=>False) rfl rfl ?aO ?aR (fun _ _ h=>h) (fun _ h=>h.elim) ?aF ?aB ?aS ?aL ?_
              (case aR=>repeat (first | exact (show Kd.C (Kd.int .i64) _ A19 y129.length y129 from by rw [Ny129.out,KA19.out];exact Kd.C_drop (m:=(x6_2:Int).toNat) (c:=co16) ((zbf HO_3.out).2.2) KL19.out ((zbf HO_3.out).2.1)) | (with_reducible refine zal ?_ _) | (with_reducible refine zam ?_ _) | (with_reducible refine zan ?_)))
              (case aB=>exact (taab))
              (case aF=>exact (fun k_ hk=>⟨Kd.fresh' (zce (taal)) k_ hk,Kd.fresh' (zce (taby)) k_ hk⟩))
              (case aO=>exact (by (with_reducible repeat (first | apply zai | apply zaj | apply zak));exact HO128.out))
              (case aS=>exact (zbk (taab)))
              (case aL=>have:=LMc15.out;omega)
              intro v134 w26 ho hb hg hat
              rw [← Ny133.out] at ho
              have n0_:=zad (Kd.R_after (ok:=(fun k_=>some k_≠(.slice Ao25 y123.length co25:Value).ownBlock)) (taal) hg hat)
              have n1_:=zad (Kd.R_after (ok:=(fun k_=>some k_≠(.slice (some ad115) x3_1.length co16:Value).ownBlock)) (taby) hg hat)
              have n2_:=zad (hb)
              have n3_:=zad (ho)
              clear HO_3 HO125 HB HO128;have HO_3:=n0_;have HO125:=n1_;have HB:=n2_;have HO135:=n3_;clear n0_ n1_ n2_ n3_ ho hb hg hat;refine hK.out _ _ trivial (fun hHeld => ?_)
              clear hK K;refine norm_ (a' := ?_) ?_ ?_
              rotate_left
              ·show Act.put _ (some 37) _=_
               simp only [Act.put,zaa,zab,zac,zbw,zbx]
               rfl
              refine pure_ (i:=11) (N:=some 3) (v := ?_) (a' := ?_) #[true,true,true,true,true,true,true,true,true,true,true,true] rfl rfl (zby HT_.out (by kernel_rfl)) (fun _ _ _ h=>h) (Or.inl ⟨by rfl,?_⟩) ?_ ?_
              rotate_left
              ·intro w'
               go_simp;with_reducible rfl
              rotate_left
              ·simp only [Act.put,zaa,zab,zac,zbw,zbx]
               rfl
              refine done_ (done_of HT_.out (by kernel_rfl)) ?_
              try go_wp2
              go_roundg k2
              case measure=>have:=HK1.out;have:=HK2.out;omega
              case rel=>exact ⟨(y133),(wrap64 (x9_1+1)),(taad),H',⟨taao⟩,⟨by (with_reducible repeat (first | apply zai | apply zaj | apply zak));exact zbq HO135.out (fun _ hk=>trivial)⟩,⟨taab⟩⟩
             ·rw [if_neg c15] at H
              exact absurd H (taac)
            ·rw [if_neg c12] at H
             exact absurd H (taac)
           ·rw [if_neg c10] at H
            exact absurd H (taac)
         ·rw [if_neg c6] at H
          exact absurd H (taac)
        ·rw [if_neg c5] at H
         have c5b0:decide (x6_2<(x3_1.length:Int))=false:=zbj c5
         clear c5;by_cases c27:0≤x6_2
         ·rw [if_pos c27] at H
          have c27b0:=eq_true c27;have c27b1:decide (0≤x6_2)=true:=zba c27
          clear c27;by_cases c28:x6_2≤(x3_1.length:Int)
          ·rw [if_pos c28] at H
           have c28b0:=eq_true c28;have c28b1:decide (x6_2≤(x3_1.length:Int))=true:=zba c28
           clear c28;obtain ⟨y136,hy136⟩:∃ y_:List Int,y_=(x3_1.take (x6_2:Int).toNat):=⟨_,rfl⟩
           replace H:((spec_l1Own.f y136).bind fun t140=>((some (([(rd l0 x9_1)]:List Int):List Int)).bind fun y143=>(if t140.length+y143.length<17592186044416 then ((some (t140 ++ y143:List Int)).bind fun y146=>((some (x3_1.drop (x6_2:Int).toNat:List Int)).bind fun y149=>(if y146.length+y149.length<17592186044416 then (spec_liRank.l0 k2 (y146 ++ y149) l0 (l0.length:Int) (wrap64 (x9_1+1))) else (none)))) else (none))))=some r:=by first | (rw [hy136];with_reducible exact H) | (have H2_:=(zbd _ _).symm.trans H;rw [hy136];with_reducible exact H2_) | (have H2_:=(zbd _ _).symm.trans H;with_reducible exact H2_) | with_reducible exact H | (rw [hy136];exact H) | exact H
           have Ny136:=zad hy136;clear hy136;replace H:=zay.mp H;obtain ⟨t140,A290,H⟩:=H
           replace H:((some (([(rd l0 x9_1)]:List Int):List Int)).bind fun y143=>(if t140.length+y143.length<17592186044416 then ((some (t140 ++ y143:List Int)).bind fun y146=>((some (x3_1.drop (x6_2:Int).toNat:List Int)).bind fun y149=>(if y146.length+y149.length<17592186044416 then (spec_liRank.l0 k2 (y146 ++ y149) l0 (l0.length:Int) (wrap64 (x9_1+1))) else (none)))) else (none)))=some r:=H
           have A29:=zad A290;clear A290;obtain ⟨y143,hy143⟩:∃ y_:List Int,y_=(([(rd l0 x9_1)]:List Int)):=⟨_,rfl⟩
           replace H:(if t140.length+y143.length<17592186044416 then ((some (t140 ++ y143:List Int)).bind fun y146=>((some (x3_1.drop (x6_2:Int).toNat:List Int)).bind fun y149=>(if y146.length+y149.length<17592186044416 then (spec_liRank.l0 k2 (y146 ++ y149) l0 (l0.length:Int) (wrap64 (x9_1+1))) else (none)))) else (none))=some r:=by first | (rw [hy143];with_reducible exact H) | (have H2_:=(zbd _ _).symm.trans H;rw [hy143];with_reducible exact H2_) | (have H2_:=(zbd _ _).symm.trans H;with_reducible exact H2_) | with_reducible exact H | (rw [hy143];exact H) | exact H
           have Ny143:=zad hy143;clear hy143;by_cases c30:t140.length+y143.length<17592186044416
           ·rw [if_pos c30] at H
            have LMc30:=zad c30;clear c30;obtain ⟨y146,hy146⟩:∃ y_:List Int,y_=(t140 ++ y143):=⟨_,rfl⟩
            replace H:((some (x3_1.drop (x6_2:Int).toNat:List Int)).bind fun y149=>(if y146.length+y149.length<17592186044416 then (spec_liRank.l0 k2 (y146 ++ y149) l0 (l0.length:Int) (wrap64 (x9_1+1))) else (none)))=some r:=by first | (rw [hy146];with_reducible exact H) | (have H2_:=(zbd _ _).symm.trans H;rw [hy146];with_reducible exact H2_) | (have H2_:=(zbd _ _).symm.trans H;with_reducible exact H2_) | with_reducible exact H | (rw [hy146];exact H) | exact H
            have Ny146:=zad hy146;clear hy146;have c31b0:=eq_true (zas (taaa):0≤x6_2)
            have c32b0:=eq_true (zas (taaa):x6_2≤(x3_1.length:Int))
            obtain ⟨y149,hy149⟩:∃ y_:List Int,y_=(x3_1.drop (x6_2:Int).toNat):=⟨_,rfl⟩
            replace H:(if y146.length+y149.length<17592186044416 then (spec_liRank.l0 k2 (y146 ++ y149) l0 (l0.length:Int) (wrap64 (x9_1+1))) else (none))=some r:=by first | (rw [hy149];with_reducible exact H) | (have H2_:=(zbd _ _).symm.trans H;rw [hy149];with_reducible exact H2_) | (have H2_:=(zbd _ _).symm.trans H;with_reducible exact H2_) | with_reducible exact H | (rw [hy149];exact H) | exact H
            have Ny149:=zad hy149;clear hy149;by_cases c33:y146.length+y149.length<17592186044416
            ·rw [if_pos c33] at H
             have LMc33:=zad c33;clear c33;obtain ⟨y153,hy153⟩:∃ y_:List Int,y_=(y146 ++ y149):=⟨_,rfl⟩
             replace H:(spec_liRank.l0 k2 y153 l0 (l0.length:Int) (wrap64 (x9_1+1)))=some r:=by first | (rw [hy153];with_reducible exact H) | (have H2_:=(zbd _ _).symm.trans H;rw [hy153];with_reducible exact H2_) | (have H2_:=(zbd _ _).symm.trans H;with_reducible exact H2_) | with_reducible exact H | (rw [hy153];exact H) | exact H
             have Ny153:=zad hy153;clear hy153;have H':=zad H
             clear H;obtain ⟨Ao34,co34,eo34⟩:=zbv HO_3.out
             subst eo34;try go_wp2
             have n0_:=zad (zak HO_3.out)
             have n1_:=zad (zaf HB.out)
             clear HO_3 HB;have HO_3:=n0_;have HB:=n1_;clear n0_ n1_;have q36:(x6_2:Int)≤((x3_1.length:Int):Int):=zas (taaa)
             obtain ⟨i036,hi036,_,hsz36,_⟩:=info_parts info3
             have hroom36:x3_1.length≤co34:=(zbf HO_3.out).2.1
             have hC36:Kd.C (Kd.int .i64) _ Ao34 x3_1.length x3_1:=(zbf HO_3.out).2.2
             have hcut36:=cut_to (P:=Tryz.prog) 25 3 .i64 Tryz.underlying25 hi036 Ao34 x3_1.length co34 x6_2 (zas (taaa)) q36 hroom36
             have hr36:=Kd.C_take (m:=(x6_2:Int).toNat) hC36 (by omega)
             have hy36:y136.length=(x6_2:Int).toNat:=(by rw [Ny136.out,zax];omega)
             rw [← Ny136.out] at hr36
             rw [← hy36] at hcut36
             have HR139:=zad hr36;have HC139:=zad (show y136.length≤co34 from by omega)
             clear hr36 hC36 hroom36 hi036 hsz36;have KY36:=zad hy36;clear hy36;have KL36:=zad (show (x6_2:Int).toNat≤x3_1.length from by omega)
             replace q36:=eq_true q36
             have q37:(x6_2:Int)≤((x3_1.length:Int):Int):=zas (taaa)
             obtain ⟨i037,hi037,_,hsz37,_⟩:=info_parts info3
             have hroom37:x3_1.length≤co34:=(zbf HO_3.out).2.1
             have hC37:Kd.C (Kd.int .i64) _ Ao34 x3_1.length x3_1:=(zbf HO_3.out).2.2
             have q037:(0:Int)≤(x6_2:Int):=zas (taaa)
             have hcut37:=cut_from (P:=Tryz.prog) 25 3 .i64 Tryz.underlying25 hi037 1 hsz37 Ao34 x3_1.length co34 x6_2 q037 q37
             have hr37:=Kd.C_drop (m:=(x6_2:Int).toNat) (c:=co34) hC37 (by omega) hroom37
             obtain ⟨A37,hA37⟩:∃ A1,A1=(if co34=(x6_2:Int).toNat then Ao34 else (Ao34:Option Addr).map (·.add ((x6_2:Int).toNat*1))):=⟨_,rfl⟩
             obtain ⟨c37,hc37⟩:∃ c1,c1=co34 - (x6_2:Int).toNat:=⟨_,rfl⟩
             have hy37:y149.length=x3_1.length - (x6_2:Int).toNat:=(by rw [Ny149.out,zaw] <;> omega)
             rw [show (x3_1).drop (x6_2:Int).toNat=y149 from Ny149.out.symm] at hr37
             replace hr37:Kd.C (Kd.int .i64) _ A37 y149.length y149:=(by rw [hA37];exact hr37)
             rw [← hy37,← hA37,← hc37] at hcut37
             have HR152:=zad hr37;have HC152:=zad (show y149.length≤c37 from by rw [hy37,hc37];exact Nat.sub_le_sub_right hroom37 _)
             clear hr37 hC37 hroom37 hi037 hsz37 hc37;have KY37:=zad hy37;have KA37:=zad hA37;clear hy37 hA37;have KL37:=zad (show (x6_2:Int).toNat≤x3_1.length from by omega)
             replace q37:=eq_true q37
             refine start_ (n:=12) (S:=fun w'=>True) (ds:=[]) #[false,false,false,false,false,false,false,false,false,false,false,false] (by kernel_rfl) rfl rfl trivial (fun hHeld => ?_);refine with_tabW spec_liRank.tab8 spec_liRank.bits8 (fun HT_ HW_ => ?_)
             generalize wr.drew=w35 at HO_3 HB HR139 HR152 hHeld ⊢
             refine pure_ (i:=0) (N:=some 27) (v := ?_) (a' := ?_) #[true,false,false,false,false,false,false,false,false,false,false,false] rfl rfl (zby HT_.out (by kernel_rfl)) (fun _ _ _ h=>h) (Or.inl ⟨by rfl,?_⟩) ?_ ?_
             rotate_left
             ·intro w'
              go_simp;with_reducible rfl
             rotate_left
             ·simp only [Act.put,zaa,zab,zac,zbw,zbx]
              rfl
             refine pure_ (i:=1) (N:=some 28) (v := ?_) (a' := ?_) #[true,true,false,false,false,false,false,false,false,false,false,false] rfl rfl (zby HT_.out (by kernel_rfl)) (fun _ _ _ h=>h) (Or.inl ⟨by rfl,?_⟩) ?_ ?_
             rotate_left
             ·intro w'
              go_simp;with_reducible rfl
             rotate_left
             ·simp only [Act.put,zaa,zab,zac,zbw,zbx]
              rfl
             refine pure_ (i:=2) (N:=some 29) (v := ?_) (a' := ?_) #[true,true,true,false,false,false,false,false,false,false,false,false] rfl rfl (zby HT_.out (by kernel_rfl)) (fun _ _ _ h=>h) (Or.inl ⟨by rfl,?_⟩) ?_ ?_
             rotate_left
             ·intro w'
              go_simp;with_reducible rfl
             rotate_left
             ·simp only [Act.put,zaa,zab,zac,zbw,zbx]
              rfl
             refine pure_ (i:=4) (N:=some 31) (v := ?_) (a' := ?_) #[true,true,true,false,true,false,false,false,false,false,false,false] rfl rfl (zby HT_.out (by kernel_rfl)) (fun _ _ _ h=>h) (Or.inl ⟨by rfl,?_⟩) ?_ ?_
             rotate_left
             ·intro w'
              go_simp;with_reducible rfl
             rotate_left
             ·simp only [Act.put,zaa,zab,zac,zbw,zbx]
              rfl
             refine pure_ (i:=7) (N:=some 34) (v := ?_) (a' := ?_) #[true,true,true,false,true,false,false,true,false,false,false,false] rfl rfl (zby HT_.out (by kernel_rfl)) (fun _ _ _ h=>h) (Or.inl ⟨by rfl,?_⟩) ?_ ?_
             rotate_left
             ·intro w'
              go_simp;with_reducible rfl
             rotate_left
             ·simp only [Act.put,zaa,zab,zac,zbw,zbx]
              rfl
             refine pure_ (i:=8) (N:=some 35) (v := ?_) (a' := ?_) #[true,true,true,false,true,false,false,true,true,false,false,false] rfl rfl (zby HT_.out (by kernel_rfl)) (fun _ _ _ h=>h) (Or.inl ⟨by rfl,?_⟩) ?_ ?_
             rotate_left
             ·intro w'
              go_simp;with_reducible rfl
             rotate_left
             ·simp only [Act.put,zaa,zab,zac,zbw,zbx]
              rfl
             refine pure_ (i:=9) (N:=some 36) (v := ?_) (a' := ?_) #[true,true,true,false,true,false,false,true,true,true,false,false] rfl rfl (zby HT_.out (by kernel_rfl)) (fun _ _ _ h=>h) (Or.inl ⟨by rfl,?_⟩) ?_ ?_
             rotate_left
             ·intro w'
              go_simp;with_reducible rfl
             rotate_left
             ·simp only [Act.put,zaa,zab,zac,zbw,zbx]
              rfl
             refine join_ (σ:=Value × Value) 3 #[true,true,true,true,true,true,false,true,true,true,false,false] (fun s_=>[(30,s_.1),(32,s_.2)]) (fun s_ w'=>(Kd.R (Kd.int .i64) 3 w' w.heap.size (fun k_=>some k_≠(s_.2:Value).ownBlock∧some k_≠(.slice Ao34 x3_1.length co34:Value).ownBlock) s_.1 t140)∧(Kd.R (Kd.int .i64) 3 w' w.heap.size (fun k_=>some k_≠(s_.1:Value).ownBlock∧some k_≠(.slice Ao34 x3_1.length co34:Value).ownBlock) s_.2 y143)∧(Kd.R (Kd.int .i64) 3 w' w.heap.size (fun k_=>some k_≠(s_.1:Value).ownBlock∧some k_≠(s_.2:Value).ownBlock) (.slice Ao34 x3_1.length co34) x3_1)∧(Below w.heap.size w w')) ?_ ?_
             rotate_left
             ·intro hCont
              refine two_ (i:=3) (j:=5) (Ni:=some 30) (Nj:=some 32) #[true,true,true,true,true,false,false,true,true,true,false,false] #[true,true,true,false,true,true,false,true,true,true,false,false] rfl rfl rfl rfl (two_of HT_.out (by kernel_rfl)) (by decide) (by decide) (fun K hK => ?_) (fun K hK => ?_)
              ·skip
               refine goes_ Tryz.func52 (by kernel_rfl) rfl #[.slice Ao34 y136.length co34] (by rfl) rfl rfl (taae) ?_
               with_reducible refine (spec_l1Own.calls _ _ y136 t140 _ ?side1 ?side2 A29.out).mono ?_
               (case side1=>exact tafy)
               (case side2=>exact HC139.out)
               rintro e w38 ⟨v141,rfl,ho0,hb⟩
               refine ⟨_,rfl,?_⟩
               have n0_:=zad (zcb (taal) (zcd ho0) hb)
               have n1_:=zad (zbu (zcc ho0 (zce (taal))) (zbk (taab)))
               have n2_:=zad (Kd.C_below (tabn) hb)
               have n3_:=zad (Kd.C_below (tacf) hb)
               have n4_:=zad (zbg (taab) hb)
               clear HO_3 HR139 HR152 HB;have HO_3:=n0_;have HO142:=n1_;have HR139:=n2_;have HR152:=n3_;have HB:=n4_;clear n0_ n1_ n2_ n3_ n4_;(try clear hb);(try clear hb2);(try clear hk);(try clear hi);(try clear ho0);refine hK.out _ _ trivial (fun hHeld => ?_)
               clear hK K;refine norm_ (a' := ?_) ?_ ?_
               rotate_left
               ·show Act.put _ (some 30) _=_
                simp only [Act.put,zaa,zab,zac,zbw,zbx]
                rfl
               refine one_ (i:=5) (N:=some 32) #[true,true,true,true,true,true,false,true,true,true,false,false] rfl rfl (one_of HT_.out (by kernel_rfl)) (by decide) (fun K hK => ?_)
               refine Kd.R_lit_step (Kd.int .i64) _ 3 ?hg (N:=32) ?hd (xs:=([(rd l0 x9_1)]:List Int)) (inner:=[.int .i64 (rd l0 x9_1)]) (ok:=fun _=>True) (okp:=fun _=>True) ?hr ?hp (fun _ hk=>hk) trivial (Below.refl _ _) (zcf _) (taac) ?_;(case hd=>rfl);(case hg=>rfl);(case hr=>first | (go_simp;done) | (go_simp;rfl));(case hp=>exact (Reps.one (show Kd.M (Kd.int .i64) _ _ _ (rd l0 x9_1) [.int .i64 (rd l0 x9_1)] from rfl) (Reps.none _ _)))
               intro v144 w39 ho40 hb hg_ hnew_
               clear hg_ hnew_;(first | rw [← Ny143.out] at ho40 | (simp only [Int.reduceToNat] at ho40;rw [← Ny143.out] at ho40))
               have n0_:=zad (zcb (taal) (zcd ho40) hb)
               have n1_:=zad (zcb (tadq) (zcd ho40) hb)
               have n2_:=zad (zbu (zcc (zcc ho40 (zce (taal))) (zce (tadq))) (zbk (taab)))
               have n3_:=zad (Kd.C_below (tabn) hb)
               have n4_:=zad (Kd.C_below (tacf) hb)
               have n5_:=zad (zbg (taab) hb)
               clear HO_3 HO142 HR139 HR152 HB;have HO_3:=n0_;have HO142:=n1_;have HO145:=n2_;have HR139:=n3_;have HR152:=n4_;have HB:=n5_;clear n0_ n1_ n2_ n3_ n4_ n5_ hb ho40;refine hK.out _ _ trivial (fun hHeld => ?_)
               clear hK K;refine norm_ (a' := ?_) ?_ ?_
               rotate_left
               ·show Act.put _ (some 32) _=_
                simp only [Act.put,zaa,zab,zac,zbw,zbx]
                rfl
               exact norm_ (tabm) (hCont (v141,v144) _ ⟨(tadr),(tads),(tadn),(taab)⟩)
              ·skip
               refine Kd.R_lit_step (Kd.int .i64) _ 3 ?hg (N:=32) ?hd (xs:=([(rd l0 x9_1)]:List Int)) (inner:=[.int .i64 (rd l0 x9_1)]) (ok:=fun _=>True) (okp:=fun _=>True) ?hr ?hp (fun _ hk=>hk) trivial (Below.refl _ _) (zcf _) (taac) ?_;(case hd=>rfl);(case hg=>rfl);(case hr=>first | (go_simp;done) | (go_simp;rfl));(case hp=>exact (Reps.one (show Kd.M (Kd.int .i64) _ _ _ (rd l0 x9_1) [.int .i64 (rd l0 x9_1)] from rfl) (Reps.none _ _)))
               intro v144 w38 ho39 hb hg_ hnew_
               clear hg_ hnew_;(first | rw [← Ny143.out] at ho39 | (simp only [Int.reduceToNat] at ho39;rw [← Ny143.out] at ho39))
               have n0_:=zad (zcb (taal) (zcd ho39) hb)
               have n1_:=zad (zbu (zcc ho39 (zce (taal))) (zbk (taab)))
               have n2_:=zad (Kd.C_below (tabn) hb)
               have n3_:=zad (Kd.C_below (tacf) hb)
               have n4_:=zad (zbg (taab) hb)
               clear HO_3 HR139 HR152 HB;have HO_3:=n0_;have HO145:=n1_;have HR139:=n2_;have HR152:=n3_;have HB:=n4_;clear n0_ n1_ n2_ n3_ n4_ hb ho39;refine hK.out _ _ trivial (fun hHeld => ?_)
               clear hK K;refine norm_ (a' := ?_) ?_ ?_
               rotate_left
               ·show Act.put _ (some 32) _=_
                simp only [Act.put,zaa,zab,zac,zbw,zbx]
                rfl
               refine one_ (i:=3) (N:=some 30) #[true,true,true,true,true,true,false,true,true,true,false,false] rfl rfl (one_of HT_.out (by kernel_rfl)) (by decide) (fun K hK => ?_)
               refine goes_ Tryz.func52 (by kernel_rfl) rfl #[.slice Ao34 y136.length co34] (by rfl) rfl rfl (taae) ?_
               with_reducible refine (spec_l1Own.calls _ _ y136 t140 _ ?side1 ?side2 A29.out).mono ?_
               (case side1=>exact tafy)
               (case side2=>exact HC139.out)
               rintro e w40 ⟨v141,rfl,ho0,hb⟩
               refine ⟨_,rfl,?_⟩
               have n0_:=zad (zcb (taal) (zcd ho0) hb)
               have n1_:=zad (zcb (tabz) (zcd ho0) hb)
               have n2_:=zad (zbu (zcc (zcc ho0 (zce (taal))) (zce (tabz))) (zbk (taab)))
               have n3_:=zad (Kd.C_below (tabn) hb)
               have n4_:=zad (Kd.C_below (tacf) hb)
               have n5_:=zad (zbg (taab) hb)
               clear HO_3 HO145 HR139 HR152 HB;have HO_3:=n0_;have HO145:=n1_;have HO142:=n2_;have HR139:=n3_;have HR152:=n4_;have HB:=n5_;clear n0_ n1_ n2_ n3_ n4_ n5_;(try clear hb);(try clear hb2);(try clear hk);(try clear hi);(try clear ho0);refine hK.out _ _ trivial (fun hHeld => ?_)
               clear hK K;refine norm_ (a' := ?_) ?_ ?_
               rotate_left
               ·show Act.put _ (some 30) _=_
                simp only [Act.put,zaa,zab,zac,zbw,zbx]
                rfl
               exact norm_ (tabm) (hCont (v141,v144) _ ⟨(tadr),(tads),(tado),(taab)⟩)
             rintro ⟨v141,v144⟩ w41 ⟨h0_,h1_,h2_,h3_⟩
             have n0_:Aside0 (Kd.R (Kd.int .i64) 3 w41 w.heap.size (fun k_=>some k_≠(v144:Value).ownBlock∧some k_≠(.slice Ao34 x3_1.length co34:Value).ownBlock) v141 t140):=⟨h0_⟩
             have n1_:Aside0 (Kd.R (Kd.int .i64) 3 w41 w.heap.size (fun k_=>some k_≠(v141:Value).ownBlock∧some k_≠(.slice Ao34 x3_1.length co34:Value).ownBlock) v144 y143):=⟨h1_⟩
             have n2_:Aside0 (Kd.R (Kd.int .i64) 3 w41 w.heap.size (fun k_=>some k_≠(v141:Value).ownBlock∧some k_≠(v144:Value).ownBlock) (.slice Ao34 x3_1.length co34) x3_1):=⟨h2_⟩
             have n3_:Aside0 (Below w.heap.size w w41):=⟨h3_⟩
             clear HO_3 HB h0_ h1_ h2_ h3_;have HO142:=n0_;have HO145:=n1_;have HO_3:=n2_;have HB:=n3_;clear n0_ n1_ n2_ n3_;have hHeld:=trivial
             obtain ⟨Ao43,co43,eo43⟩:=zbv HO145.out
             (first | subst eo43 | (injection eo43 with f1_ f2_ f3_;have f4_:=f1_.symm;have f5_:=f3_.symm;clear f1_ f2_ f3_;subst f4_;subst f5_))
             refine norm_ (a' := ?_) ?_ ?_
             rotate_left
             ·simp only [putAll,Act.put,zaa,zab,zac]
              rfl
             refine one_ (i:=6) (N:=some 33) #[true,true,true,true,true,true,true,true,true,true,false,false] rfl rfl (one_of HT_.out (by kernel_rfl)) (by decide) (fun K hK => ?_)
             refine Kd.R_append_rows_step (Kd.int .i64) (w0:=w) w.heap.size (by rfl) (.tmp 30) (.tmp 32) 25 3 (.int .i64 0) 8 rfl Tryz.underlying25 info3 rfl (by decide) (by omega) v141 t140 y143 _ _ _ (fun k_=>some k_≠(.slice Ao34 x3_1.length co34:Value).ownBlock∧some k_≠(.slice Ao43 y143.length co43:Value).ownBlock) (fun _=>False) rfl rfl ?aO ?aR (fun _ _ h=>h) (fun _ h=>h.elim) ?aF ?aB ?aS ?aL ?_
             (case aR=>repeat (first | exact (zbf HO145.out).2.2 | (with_reducible refine zal ?_ _) | (with_reducible refine zam ?_ _) | (with_reducible refine zan ?_)))
             (case aB=>exact (taab))
             (case aF=>exact (fun k_ hk=>⟨Kd.fresh' (zce (taal)) k_ hk,Kd.fresh' (zce (tabz)) k_ hk⟩))
             (case aO=>exact (by (with_reducible repeat (first | apply zai | apply zaj | apply zak));exact zbq HO142.out (fun _ hk=>⟨hk.2,hk.1⟩)))
             (case aS=>exact (zbk (taab)))
             (case aL=>have:=LMc30.out;omega)
             intro v147 w42 ho hb hg hat
             rw [← Ny146.out] at ho
             have n0_:=zad (Kd.R_after (ok:=(fun k_=>some k_≠(.slice Ao43 y143.length co43:Value).ownBlock)) (tadp) hg hat)
             have n1_:=zad (Kd.R_after (ok:=(fun k_=>some k_≠(.slice Ao34 x3_1.length co34:Value).ownBlock)) (by (with_reducible repeat (first | apply zai | apply zaj | apply zak));exact zbq HO145.out (fun _ hk=>⟨hk.2,hk.1⟩)) hg hat)
             have n2_:=zad (hb)
             have n3_:=zad (ho)
             clear HO_3 HO145 HB HO142;have HO_3:=n0_;have HO145:=n1_;have HB:=n2_;have HO148:=n3_;clear n0_ n1_ n2_ n3_ ho hb hg hat;refine hK.out _ _ trivial (fun hHeld => ?_)
             clear hK K;refine norm_ (a' := ?_) ?_ ?_
             rotate_left
             ·show Act.put _ (some 33) _=_
              simp only [Act.put,zaa,zab,zac,zbw,zbx]
              rfl
             refine one_ (i:=10) (N:=some 37) #[true,true,true,true,true,true,true,true,true,true,true,false] rfl rfl (one_of HT_.out (by kernel_rfl)) (by decide) (fun K hK => ?_)
             refine Kd.R_append_rows_step (Kd.int .i64) (w0:=w) w.heap.size (by rfl) (.tmp 33) (.tmp 36) 25 3 (.int .i64 0) 8 rfl Tryz.underlying25 info3 rfl (by decide) (by omega) v147 y146 y149 _ _ _ (fun k_=>some k_≠(.slice Ao34 x3_1.length co34:Value).ownBlock∧some k_≠(.slice Ao43 y143.length co43:Value).ownBlock) (fun _=>False) rfl rfl ?aO ?aR (fun _ _ h=>h) (fun _ h=>h.elim) ?aF ?aB ?aS ?aL ?_
             (case aR=>repeat (first | exact (show Kd.C (Kd.int .i64) _ A37 y149.length y149 from by rw [Ny149.out,KA37.out];exact Kd.C_drop (m:=(x6_2:Int).toNat) (c:=co34) ((zbf HO_3.out).2.2) KL37.out ((zbf HO_3.out).2.1)) | (with_reducible refine zal ?_ _) | (with_reducible refine zam ?_ _) | (with_reducible refine zan ?_)))
             (case aB=>exact (taab))
             (case aF=>exact (fun k_ hk=>⟨Kd.fresh' (zce (taal)) k_ hk,Kd.fresh' (zce (tabz)) k_ hk⟩))
             (case aO=>exact (by (with_reducible repeat (first | apply zai | apply zaj | apply zak));exact HO148.out))
             (case aS=>exact (zbk (taab)))
             (case aL=>have:=LMc33.out;omega)
             intro v154 w44 ho hb hg hat
             rw [← Ny153.out] at ho
             have n0_:=zad (Kd.R_after (ok:=(fun k_=>some k_≠(.slice Ao43 y143.length co43:Value).ownBlock)) (taal) hg hat)
             have n1_:=zad (Kd.R_after (ok:=(fun k_=>some k_≠(.slice Ao34 x3_1.length co34:Value).ownBlock)) (tabz) hg hat)
             have n2_:=zad (hb)
             have n3_:=zad (ho)
             clear HO_3 HO145 HB HO148;have HO_3:=n0_;have HO145:=n1_;have HB:=n2_;have HO155:=n3_;clear n0_ n1_ n2_ n3_ ho hb hg hat;refine hK.out _ _ trivial (fun hHeld => ?_)
             clear hK K;refine norm_ (a' := ?_) ?_ ?_
             rotate_left
             ·show Act.put _ (some 37) _=_
              simp only [Act.put,zaa,zab,zac,zbw,zbx]
              rfl
             refine pure_ (i:=11) (N:=some 3) (v := ?_) (a' := ?_) #[true,true,true,true,true,true,true,true,true,true,true,true] rfl rfl (zby HT_.out (by kernel_rfl)) (fun _ _ _ h=>h) (Or.inl ⟨by rfl,?_⟩) ?_ ?_
             rotate_left
             ·intro w'
              go_simp;with_reducible rfl
             rotate_left
             ·simp only [Act.put,zaa,zab,zac,zbw,zbx]
              rfl
             refine done_ (done_of HT_.out (by kernel_rfl)) ?_
             try go_wp2
             go_roundg k2
             case measure=>have:=HK1.out;have:=HK2.out;omega
             case rel=>exact ⟨(y153),(wrap64 (x9_1+1)),(taad),H',⟨taao⟩,⟨by (with_reducible repeat (first | apply zai | apply zaj | apply zak));exact zbq HO155.out (fun _ hk=>trivial)⟩,⟨taab⟩⟩
            ·rw [if_neg c33] at H
             exact absurd H (taac)
           ·rw [if_neg c30] at H
            exact absurd H (taac)
          ·rw [if_neg c28] at H
           exact absurd H (taac)
         ·rw [if_neg c27] at H
          exact absurd H (taac)
     ·rw [if_neg c4] at H
      exact absurd H (taac)
    ·rw [if_neg c3] at H
     exact absurd H (taac)
   ·rw [if_neg c2] at H
    have c2b0:decide (x9_1<(l0.length:Int))=false:=zbj c2
    clear c2;obtain rfl:=zbe H
    go_wp2
    go_ret
    exact ⟨_,taai,taal,taab⟩
def spec_liSums.l0:Nat→List Int→Int→List Int→Int→Int→Option (List Int)
 | 0,_,_,_,_,_=>none
 | k+1,x3,x4,x7,x8,x9=>if x9<x8 then (if 0≤x9 then (if x9<(x7.length:Int) then (if x3.length<17592186044416 then (spec_liSums.l0 k (x3 ++ [wrap64 (x4+(rd x7 x9))]) (wrap64 (x4+(rd x7 x9))) x7 x8 (wrap64 (x9+1))) else (none)) else (none)) else (none)) else (some x3)
def spec_liSums.f (k:Nat) (l0:List Int):Option (List Int):=spec_liSums.l0 k ([]:List Int) 0 l0 (l0.length:Int) 0
theorem spec_liSums.calls (k:Nat) (A0:Option Addr) (c0:Nat) (l0:List Int) (r:List Int) (w:World) (hr0:Kd.C (Kd.int .i64) w A0 l0.length l0) (hc0:l0.length≤c0) (h:spec_liSums.f k l0=some r) :
 Calls Tryz.prog 95 #[.slice A0 l0.length c0] w fun e w'=>∃ v0_:Value,e = .returned (v0_)∧Kd.R (Kd.int .i64) 3 w' w.heap.size (fun _=>True) v0_ r∧Below w.heap.size w w':=by
 have HR0:=zad hr0;have HC0:=zad hc0;clear hr0 hc0;have HB:=zad (Below.refl w.heap.size w)
 have H:(spec_liSums.l0 k ([]:List Int) 0 l0 (l0.length:Int) 0)=some r:=h
 clear h;have H':=zad H
 clear H;go_enter Tryz.func95,Tryz.ntmps95
 go_wp2
 go_loopg [3,4,9] k (fun kq v3 v4 v9 w'=>∃ (x3_1:List Int) (x4_1:Int) (x9_1:Int),v4 = .int .i64 x4_1∧v9 = .int .i64 x9_1∧Aside0 (spec_liSums.l0 kq x3_1 x4_1 l0 (l0.length:Int) x9_1=some r)∧Aside0 (kq≤k)∧Aside0 (Kd.R (Kd.int .i64) 3 w' w.heap.size (fun _=>True) v3 x3_1)∧Aside0 (Below w.heap.size w w'))
 case atStart=>exact ⟨(([]:List Int)),(0),(0),(taad),(taad),H',⟨zcf _⟩,⟨taax⟩,⟨taab⟩⟩
 case round =>
  clear H'
  obtain ⟨x3_1,x4_1,x9_1,rfl,rfl,HA,HK1,HO_3,HB⟩:=hrel
  cases gk with
  | zero=>exact absurd HA.out (by simp [spec_liSums.l0])
  | succ k1 =>
   have H:=HA.out
   clear HA;simp only [spec_liSums.l0] at H
   by_cases c2:x9_1<(l0.length:Int)
   ·rw [if_pos c2] at H
    have c2b0:decide (x9_1<(l0.length:Int))=true:=zba c2
    clear c2;by_cases c3:0≤x9_1
    ·rw [if_pos c3] at H
     have c3b0:decide (0≤x9_1)=true:=zba c3
     clear c3;by_cases c4:x9_1<(l0.length:Int)
     ·rw [if_pos c4] at H
      have c4b0:decide (x9_1<(l0.length:Int))=true:=zba c4
      clear c4;by_cases c5:x3_1.length<17592186044416
      ·rw [if_pos c5] at H
       have LMc5:=zad c5;clear c5;obtain ⟨y157,hy157⟩:∃ y_:List Int,y_=(x3_1 ++ [wrap64 (x4_1+(rd l0 x9_1))]):=⟨_,rfl⟩
       replace H:(spec_liSums.l0 k1 y157 (wrap64 (x4_1+(rd l0 x9_1))) l0 (l0.length:Int) (wrap64 (x9_1+1)))=some r:=by first | (rw [hy157];with_reducible exact H) | (have H2_:=(zbd _ _).symm.trans H;rw [hy157];with_reducible exact H2_) | (have H2_:=(zbd _ _).symm.trans H;with_reducible exact H2_) | with_reducible exact H | (rw [hy157];exact H) | exact H
       have Ny157:=zad hy157;clear hy157;have H':=zad H
       clear H;have p156:0≤(x9_1:Int):=zas (taaa)
       have q156:x9_1<(l0.length:Int):=zas (taaa)
       obtain ⟨ad156,e156,hx156_0⟩:=zca HR0.out x9_1 p156 q156
       cases e156
       replace hx156_0:=(HB.out.cell (zaz w _ hx156_0)).trans hx156_0
       replace p156:=eq_true p156
       replace q156:=eq_true q156
       go_wp2_with (first | ((with_reducible refine gate_builtin (b := .append) (xs:=#[.tmp 16,.tmp 18]) rfl ?_);at_builtin;refine Kd.R_append (Kd.int .i64) (w0:=w) w.heap.size rfl (.tmp 16) (.tmp 18) 25 3 (.int .i64 0) 8 rfl Tryz.underlying25 info3 rfl (by decide) (by omega) u3 x3_1 (wrap64 (x4_1+(rd l0 x9_1))) [.int .i64 (wrap64 (x4_1+(rd l0 x9_1)))] (fun _=>True) (fun _=>False) rfl rfl ?aP (fun _ hk=>hk.elim) ?aF ?aO ?aB ?aS ?aL ?_;(case aP=>exact rfl);(case aB=>exact (taab));(case aF=>exact (fun _ _=>trivial));(case aO=>exact (taal));(case aS=>exact (zbk (taab)));(case aL=>have:=LMc5.out;omega);intro v158 w6 ho hb hg hat;rw [← Ny157.out] at ho;have n0_:=zad (hb);have n1_:=zad (ho);clear HB HO_3;have HB:=n0_;have HO159:=n1_;clear n0_ n1_ ho hb hg hat))
       go_roundg k1
       case measure=>have:=HK1.out;omega
       case rel=>exact ⟨(y157),(wrap64 (x4_1+(rd l0 x9_1))),(wrap64 (x9_1+1)),(taad),(taad),H',⟨taaq⟩,⟨by (with_reducible repeat (first | apply zai | apply zaj | apply zak));exact HO159.out⟩,⟨taab⟩⟩
      ·rw [if_neg c5] at H
       exact absurd H (taac)
     ·rw [if_neg c4] at H
      exact absurd H (taac)
    ·rw [if_neg c3] at H
     exact absurd H (taac)
   ·rw [if_neg c2] at H
    have c2b0:decide (x9_1<(l0.length:Int))=false:=zbj c2
    clear c2;obtain rfl:=zbe H
    go_wp2
    go_ret
    exact ⟨_,taai,taal,taab⟩
def spec_liPartial.f (k:Nat) (l0:List Int):Option (List Int):=(spec_liRank.f k l0).bind fun t160=>((spec_liSums.f k t160).bind fun t163=>(some t163))
theorem spec_liPartial.calls (k:Nat) (A0:Option Addr) (c0:Nat) (l0:List Int) (r:List Int) (w:World) (hr0:Kd.C (Kd.int .i64) w A0 l0.length l0) (hc0:l0.length≤c0) (h:spec_liPartial.f k l0=some r) :
 Calls Tryz.prog 82 #[.slice A0 l0.length c0] w fun e w'=>∃ v0_:Value,e = .returned (v0_)∧Kd.R (Kd.int .i64) 3 w' w.heap.size (fun _=>True) v0_ r∧Below w.heap.size w w':=by
 have HR0:=zad hr0;have HC0:=zad hc0;clear hr0 hc0;have HB:=zad (Below.refl w.heap.size w)
 have H:((spec_liRank.f k l0).bind fun t160=>((spec_liSums.f k t160).bind fun t163=>(some t163)))=some r:=h
 clear h;replace H:=zay.mp H;obtain ⟨t160,A20,H⟩:=H
 replace H:((spec_liSums.f k t160).bind fun t163=>(some t163))=some r:=H
 have A2:=zad A20;clear A20;replace H:=zay.mp H;obtain ⟨t163,A30,H⟩:=H
 replace H:(some t163)=some r:=H
 have A3:=zad A30;clear A30;obtain rfl:=zbe H
 go_enter Tryz.func82,Tryz.ntmps82
 go_wp2_with (first | ((with_reducible refine zbh (f:=41) rfl ?_);refine zbn (some 4) rfl rfl Tryz.func41 (by kernel_rfl) rfl #[.slice A0 l0.length c0] rfl (taae) ?_;(with_reducible refine (spec_liRank.calls k _ _ l0 t160 _ ?side1 ?side2 A2.out).mono ?_);(case side1=>repeat (first | exact HR0.out | (with_reducible refine zal ?_ _) | (with_reducible refine zam ?_ _) | (with_reducible refine zan ?_)));(case side2=>exact HC0.out);rintro e w4 ⟨v161,rfl,ho0,hb⟩;refine ⟨_,rfl,?_⟩;have n0_:=zad (zbu ho0 (zbk (taab)));have n1_:=zad (zbg (taab) hb);clear HB;have HO162:=n0_;have HB:=n1_;clear n0_ n1_;(try clear hb);(try clear hb2);(try clear hk);(try clear hi);(try clear ho0);obtain ⟨Ao5,co5,eo5⟩:=zbv HO162.out;subst eo5) | ((with_reducible refine zbh (f:=95) rfl ?_);refine zbn (some 5) rfl rfl Tryz.func95 (by kernel_rfl) rfl #[.slice Ao5 t160.length co5] rfl (taae) ?_;(with_reducible refine (spec_liSums.calls k _ _ t160 t163 _ ?side1 ?side2 A3.out).mono ?_);(case side1=>repeat (first | exact (zbf HO162.out).2.2 | (with_reducible refine zal ?_ _) | (with_reducible refine zam ?_ _) | (with_reducible refine zan ?_)));(case side2=>exact (zbf HO162.out).2.1);rintro e w6 ⟨v164,rfl,ho0,hb⟩;refine ⟨_,rfl,?_⟩;have n0_:=zad (zcb (tadt) (zcd ho0) hb);have n1_:=zad (zbu (zcc ho0 (zce (tadt))) (zbk (taab)));have n2_:=zad (zbg (taab) hb);clear HO162 HB;have HO162:=n0_;have HO165:=n1_;have HB:=n2_;clear n0_ n1_ n2_;(try clear hb);(try clear hb2);(try clear hk);(try clear hi);(try clear ho0)))
 go_ret
 exact ⟨_,taai,by (with_reducible repeat (first | apply zai | apply zaj | apply zak));exact zbq HO165.out (fun _ hk=>trivial),taab⟩
def spec_liOver.l0:Nat→List Int→List Int→Int→Int→Option (Int)
 | 0,_,_,_,_=>none
 | k+1,x5,x6,x13,x14=>if x14<x13 then (if 0≤x14 then (if x14<(x5.length:Int) then (if x14<(x6.length:Int) then (if (rd x5 x14)>(rd x6 x14) then (some (wrap64 (x14+1))) else (spec_liOver.l0 k x5 x6 x13 (wrap64 (x14+1)))) else (none)) else (none)) else (none)) else (some 0)
def spec_liOver.f (k:Nat) (l0:List Int) (l1:List Int):Option (Int):=(spec_liPartial.f k l0).bind fun t166=>((spec_liPartial.f k l1).bind fun t169=>(spec_liOver.l0 k t166 t169 (t166.length:Int) 0))
theorem spec_liOver.calls (k:Nat) (A0:Option Addr) (c0:Nat) (l0:List Int) (A1:Option Addr) (c1:Nat) (l1:List Int) (r:Int) (w:World) (hr0:Kd.C (Kd.int .i64) w A0 l0.length l0) (hc0:l0.length≤c0) (hr1:Kd.C (Kd.int .i64) w A1 l1.length l1) (hc1:l1.length≤c1) (h:spec_liOver.f k l0 l1=some r) :
 Calls Tryz.prog 72 #[.slice A0 l0.length c0,.slice A1 l1.length c1] w fun e w'=>e = .returned (.int .i64 r)∧Below w.heap.size w w':=by
 have HR0:=zad hr0;have HC0:=zad hc0;clear hr0 hc0;have HR1:=zad hr1;have HC1:=zad hc1;clear hr1 hc1;have HB:=zad (Below.refl w.heap.size w)
 have H:((spec_liPartial.f k l0).bind fun t166=>((spec_liPartial.f k l1).bind fun t169=>(spec_liOver.l0 k t166 t169 (t166.length:Int) 0)))=some r:=h
 clear h;replace H:=zay.mp H;obtain ⟨t166,A30,H⟩:=H
 replace H:((spec_liPartial.f k l1).bind fun t169=>(spec_liOver.l0 k t166 t169 (t166.length:Int) 0))=some r:=H
 have A3:=zad A30;clear A30;replace H:=zay.mp H;obtain ⟨t169,A40,H⟩:=H
 replace H:(spec_liOver.l0 k t166 t169 (t166.length:Int) 0)=some r:=H
 have A4:=zad A40;clear A40;have H':=zad H
 clear H;go_enter Tryz.func72,Tryz.ntmps72
 go_wp2_with (first | (go_at_call 82;(with_reducible refine (spec_liPartial.calls k _ _ l0 t166 _ ?side1 ?side2 A3.out).mono ?_);(case side1=>repeat (first | exact HR0.out | (with_reducible refine zal ?_ _) | (with_reducible refine zam ?_ _) | (with_reducible refine zan ?_)));(case side2=>exact HC0.out);rintro e w5 ⟨v167,rfl,ho0,hb⟩;have n0_:=zad (zbu ho0 (zbk (taab)));have n1_:=zad (zbg (taab) hb);clear HB;have HO168:=n0_;have HB:=n1_;clear n0_ n1_;(try clear hb);(try clear hb2);(try clear hk);(try clear hi);(try clear ho0)) | (go_at_call 82;(with_reducible refine (spec_liPartial.calls k _ _ l1 t169 _ ?side1 ?side2 A4.out).mono ?_);(case side1=>repeat (first | exact (Kd.C_below HR1.out HB.out) | (with_reducible refine zal ?_ _) | (with_reducible refine zam ?_ _) | (with_reducible refine zan ?_)));(case side2=>exact HC1.out);rintro e w6 ⟨v170,rfl,ho0,hb⟩;have n0_:=zad (zcb (tabo) (zcd ho0) hb);have n1_:=zad (zbu (zcc ho0 (zce (tabo))) (zbk (taab)));have n2_:=zad (zbg (taab) hb);clear HO168 HB;have HO168:=n0_;have HO171:=n1_;have HB:=n2_;clear n0_ n1_ n2_;(try clear hb);(try clear hb2);(try clear hk);(try clear hi);(try clear ho0);obtain ⟨Ao7,co7,eo7⟩:=zbv HO168.out;subst eo7))
 repeat (go_quiet (first | (go_at_call 82;(with_reducible refine (spec_liPartial.calls k _ _ l0 t166 _ ?side1 ?side2 A3.out).mono ?_);(case side1=>repeat (first | exact HR0.out | (with_reducible refine zal ?_ _) | (with_reducible refine zam ?_ _) | (with_reducible refine zan ?_)));(case side2=>exact HC0.out);rintro e w5 ⟨v167,rfl,ho0,hb⟩;have n0_:=zad (zbu ho0 (zbk (taab)));have n1_:=zad (zbg (taab) hb);clear HB;have HO168:=n0_;have HB:=n1_;clear n0_ n1_;(try clear hb);(try clear hb2);(try clear hk);(try clear hi);(try clear ho0)) | (go_at_call 82;(with_reducible refine (spec_liPartial.calls k _ _ l1 t169 _ ?side1 ?side2 A4.out).mono ?_);(case side1=>repeat (first | exact (Kd.C_below HR1.out HB.out) | (with_reducible refine zal ?_ _) | (with_reducible refine zam ?_ _) | (with_reducible refine zan ?_)));(case side2=>exact HC1.out);rintro e w6 ⟨v170,rfl,ho0,hb⟩;have n0_:=zad (zcb (tabo) (zcd ho0) hb);have n1_:=zad (zbu (zcc ho0 (zce (tabo))) (zbk (taab)));have n2_:=zad (zbg (taab) hb);clear HO168 HB;have HO168:=n0_;have HO171:=n1_;have HB:=n2_;clear n0_ n1_ n2_;(try clear hb);(try clear hb2);(try clear hk);(try clear hi);(try clear ho0);obtain ⟨Ao7,co7,eo7⟩:=zbv HO168.out;subst eo7));try go_wp2_with (first | (go_at_call 82;(with_reducible refine (spec_liPartial.calls k _ _ l0 t166 _ ?side1 ?side2 A3.out).mono ?_);(case side1=>repeat (first | exact HR0.out | (with_reducible refine zal ?_ _) | (with_reducible refine zam ?_ _) | (with_reducible refine zan ?_)));(case side2=>exact HC0.out);rintro e w5 ⟨v167,rfl,ho0,hb⟩;have n0_:=zad (zbu ho0 (zbk (taab)));have n1_:=zad (zbg (taab) hb);clear HB;have HO168:=n0_;have HB:=n1_;clear n0_ n1_;(try clear hb);(try clear hb2);(try clear hk);(try clear hi);(try clear ho0)) | (go_at_call 82;(with_reducible refine (spec_liPartial.calls k _ _ l1 t169 _ ?side1 ?side2 A4.out).mono ?_);(case side1=>repeat (first | exact (Kd.C_below HR1.out HB.out) | (with_reducible refine zal ?_ _) | (with_reducible refine zam ?_ _) | (with_reducible refine zan ?_)));(case side2=>exact HC1.out);rintro e w6 ⟨v170,rfl,ho0,hb⟩;have n0_:=zad (zcb (tabo) (zcd ho0) hb);have n1_:=zad (zbu (zcc ho0 (zce (tabo))) (zbk (taab)));have n2_:=zad (zbg (taab) hb);clear HO168 HB;have HO168:=n0_;have HO171:=n1_;have HB:=n2_;clear n0_ n1_ n2_;(try clear hb);(try clear hb2);(try clear hk);(try clear hi);(try clear ho0);obtain ⟨Ao7,co7,eo7⟩:=zbv HO168.out;subst eo7)))
 go_loopg [14] k (fun kq v14 w'=>∃ (x14_1:Int),v14 = .int .i64 x14_1∧Aside0 (spec_liOver.l0 kq t166 t169 (t166.length:Int) x14_1=some r)∧Aside0 (kq≤k)∧Aside0 (Kd.R (Kd.int .i64) 3 w' w.heap.size (fun k_=>some k_≠(v170:Value).ownBlock) (.slice Ao7 t166.length co7) t166)∧Aside0 (Kd.R (Kd.int .i64) 3 w' w.heap.size (fun k_=>some k_≠((.slice Ao7 t166.length co7):Value).ownBlock) v170 t169)∧Aside0 (Below w.heap.size w w'))
 case atStart=>exact ⟨(0),(taad),H',⟨zcf _⟩,⟨by (with_reducible repeat (first | apply zai | apply zaj | apply zak));exact zbq HO168.out (fun _ hk=>hk.2)⟩,⟨by (with_reducible repeat (first | apply zai | apply zaj | apply zak));exact zbq HO171.out (fun _ hk=>hk.2)⟩,⟨taab⟩⟩
 case round =>
  clear H'
  try clear c1
  try clear p2
  try clear c7
  obtain ⟨x14_1,rfl,HA,HK1,HO_5,HO_6,HB⟩:=hrel
  cases gk with
  | zero=>exact absurd HA.out (by simp [spec_liOver.l0])
  | succ k1 =>
   have H:=HA.out
   clear HA;simp only [spec_liOver.l0] at H
   by_cases c8:x14_1<(t166.length:Int)
   ·rw [if_pos c8] at H
    have c8b0:decide (x14_1<(t166.length:Int))=true:=zba c8
    clear c8;by_cases c9:0≤x14_1
    ·rw [if_pos c9] at H
     have c9b0:decide (0≤x14_1)=true:=zba c9
     clear c9;by_cases c10:x14_1<(t166.length:Int)
     ·rw [if_pos c10] at H
      have c10b0:decide (x14_1<(t166.length:Int))=true:=zba c10
      clear c10;by_cases c11:x14_1<(t169.length:Int)
      ·rw [if_pos c11] at H
       have c11b0:decide (x14_1<(t169.length:Int))=true:=zba c11
       clear c11;by_cases c12:(rd t166 x14_1)>(rd t169 x14_1)
       ·rw [if_pos c12] at H
        have c12b0:decide ((rd t169 x14_1)<(rd t166 x14_1))=true:=zba c12
        clear c12;obtain rfl:=zbe H
        have p172:0≤(x14_1:Int):=zas (taaa)
        have q172:x14_1<(t166.length:Int):=zas (taaa)
        obtain ⟨ad172,e172,hx172_0⟩:=zca (zbf HO_5.out).2.2 x14_1 p172 q172
        cases e172
        replace p172:=eq_true p172
        replace q172:=eq_true q172
        obtain ⟨Ao13,co13,eo13⟩:=zbv HO_6.out
        subst eo13;have p173:0≤(x14_1:Int):=zas (taaa)
        have q173:x14_1<(t169.length:Int):=zas (taaa)
        obtain ⟨ad173,e173,hx173_0⟩:=zca (zbf HO_6.out).2.2 x14_1 p173 q173
        cases e173
        replace p173:=eq_true p173
        replace q173:=eq_true q173
        go_wp2
        repeat (go_quiet (fail);try go_wp2)
        go_ret
        exact ⟨taai,taab⟩
       ·rw [if_neg c12] at H
        have c12b0:decide ((rd t169 x14_1)<(rd t166 x14_1))=false:=zbj c12
        clear c12;have H':=zad H
        clear H;have p172:0≤(x14_1:Int):=zas (taaa)
        have q172:x14_1<(t166.length:Int):=zas (taaa)
        obtain ⟨ad172,e172,hx172_0⟩:=zca (zbf HO_5.out).2.2 x14_1 p172 q172
        cases e172
        replace p172:=eq_true p172
        replace q172:=eq_true q172
        obtain ⟨Ao14,co14,eo14⟩:=zbv HO_6.out
        subst eo14;have p173:0≤(x14_1:Int):=zas (taaa)
        have q173:x14_1<(t169.length:Int):=zas (taaa)
        obtain ⟨ad173,e173,hx173_0⟩:=zca (zbf HO_6.out).2.2 x14_1 p173 q173
        cases e173
        replace p173:=eq_true p173
        replace q173:=eq_true q173
        go_wp2
        repeat (go_quiet (fail);try go_wp2)
        go_roundg k1
        case measure=>have:=HK1.out;omega
        case rel=>exact ⟨(wrap64 (x14_1+1)),(taad),H',⟨taaq⟩,⟨taam⟩,⟨taar⟩,⟨taab⟩⟩
      ·rw [if_neg c11] at H
       exact absurd H (taac)
     ·rw [if_neg c10] at H
      exact absurd H (taac)
    ·rw [if_neg c9] at H
     exact absurd H (taac)
   ·rw [if_neg c8] at H
    have c8b0:decide (x14_1<(t166.length:Int))=false:=zbj c8
    clear c8;obtain rfl:=zbe H
    go_wp2
    repeat (go_quiet (fail);try go_wp2)
    go_ret
    exact ⟨taai,taab⟩
def spec_liBelow.f (k:Nat) (l0:List Int) (l1:List Int):Option (Bool):=(spec_liFit.f k l0 l1).bind fun t174=>(if t174=true then ((spec_liOver.f k l0 l1).bind fun t175=>(some (t175 == 0))) else (some false))
theorem spec_liBelow.calls (k:Nat) (A0:Option Addr) (c0:Nat) (l0:List Int) (A1:Option Addr) (c1:Nat) (l1:List Int) (r:Bool) (w:World) (hr0:Kd.C (Kd.int .i64) w A0 l0.length l0) (hc0:l0.length≤c0) (hr1:Kd.C (Kd.int .i64) w A1 l1.length l1) (hc1:l1.length≤c1) (h:spec_liBelow.f k l0 l1=some r) :
 Calls Tryz.prog 40 #[.slice A0 l0.length c0,.slice A1 l1.length c1] w fun e w'=>e = .returned (.bool r)∧Below w.heap.size w w':=by
 have HR0:=zad hr0;have HC0:=zad hc0;clear hr0 hc0;have HR1:=zad hr1;have HC1:=zad hc1;clear hr1 hc1;have HB:=zad (Below.refl w.heap.size w)
 have H:((spec_liFit.f k l0 l1).bind fun t174=>(if t174=true then ((spec_liOver.f k l0 l1).bind fun t175=>(some (t175 == 0))) else (some false)))=some r:=h
 clear h;replace H:=zay.mp H;obtain ⟨t174,A30,H⟩:=H
 replace H:(if t174=true then ((spec_liOver.f k l0 l1).bind fun t175=>(some (t175 == 0))) else (some false))=some r:=H
 have A3:=zad A30;clear A30;by_cases c4:t174=true
 ·subst c4
  have H1:((spec_liOver.f k l0 l1).bind fun t175=>(some (t175 == 0)))=some r:=by rw [if_pos rfl] at H;exact H
  clear H;have H:=H1;clear H1;replace H:=zay.mp H;obtain ⟨t175,A50,H⟩:=H
  replace H:(some (t175 == 0))=some r:=H
  have A5:=zad A50;clear A50;obtain rfl:=zbe H
  go_enter Tryz.func40,Tryz.ntmps40
  go_wp2_with (first | ((with_reducible refine zbh (f:=71) rfl ?_);refine zbn (some 7) rfl rfl Tryz.func71 (by kernel_rfl) rfl #[.slice A0 l0.length c0,.slice A1 l1.length c1] rfl (taae) ?_;(with_reducible refine (spec_liFit.calls k _ _ l0 _ _ l1 true _ ?side1 ?side2 ?side3 ?side4 A3.out).mono ?_);(case side1=>repeat (first | exact HR0.out | (with_reducible refine zal ?_ _) | (with_reducible refine zam ?_ _) | (with_reducible refine zan ?_)));(case side2=>exact HC0.out);(case side3=>repeat (first | exact HR1.out | (with_reducible refine zal ?_ _) | (with_reducible refine zam ?_ _) | (with_reducible refine zan ?_)));(case side4=>exact HC1.out);rintro e w' ⟨rfl,⟨nd,rfl⟩⟩;refine ⟨_,rfl,?_⟩) | (go_at_call 72;(with_reducible refine (spec_liOver.calls k _ _ l0 _ _ l1 t175 _ ?side1 ?side2 ?side3 ?side4 A5.out).mono ?_);(case side1=>repeat (first | exact HR0.out | (with_reducible refine zal ?_ _) | (with_reducible refine zam ?_ _) | (with_reducible refine zan ?_)));(case side2=>exact HC0.out);(case side3=>repeat (first | exact HR1.out | (with_reducible refine zal ?_ _) | (with_reducible refine zam ?_ _) | (with_reducible refine zan ?_)));(case side4=>exact HC1.out);rintro e w6 ⟨rfl,hb⟩;have n0_:=zad (zbg (taab) hb);clear HB;have HB:=n0_;clear n0_;(try clear hb);(try clear hb2);(try clear hk);(try clear hi)))
  go_ret
  exact ⟨taai,taab⟩
 ·replace c4:=zbi.mpr c4
  subst c4;have H1:(some false)=some r:=by rw [if_neg (show ¬ (false=true) by decide)] at H;exact H
  clear H;have H:=H1;clear H1;obtain rfl:=zbe H
  go_enter Tryz.func40,Tryz.ntmps40
  go_wp2_with (first | ((with_reducible refine zbh (f:=71) rfl ?_);refine zbn (some 7) rfl rfl Tryz.func71 (by kernel_rfl) rfl #[.slice A0 l0.length c0,.slice A1 l1.length c1] rfl (taae) ?_;(with_reducible refine (spec_liFit.calls k _ _ l0 _ _ l1 false _ ?side1 ?side2 ?side3 ?side4 A3.out).mono ?_);(case side1=>exact tafl);(case side2=>exact HC0.out);(case side3=>exact tafp);(case side4=>exact HC1.out);rintro e w' ⟨rfl,⟨nd,rfl⟩⟩;refine ⟨_,rfl,?_⟩))
  go_ret
  exact ⟨taai,taab⟩
def spec_l1Least.f (a0:Int) (a1:Int):Option (Int):=if a0<a1 then (some a0) else (some a1)
theorem spec_l1Least.calls (a0:Int) (a1:Int) (r:Int) (w:World) (h:spec_l1Least.f a0 a1=some r) :
 Calls Tryz.prog 73 #[.int .i64 a0,.int .i64 a1] w fun e w'=>e = .returned (.int .i64 r)∧Drawn0 w w':=by
 have H:(if a0<a1 then (some a0) else (some a1))=some r:=h
 clear h;by_cases c3:a0<a1
 ·rw [if_pos c3] at H
  have c3b0:decide (a0<a1)=true:=zba c3
  clear c3;obtain rfl:=zbe H
  go_enter Tryz.func73,Tryz.ntmps73
  go_wp2
  go_ret
  exact ⟨taad,taah⟩
 ·rw [if_neg c3] at H
  have c3b0:decide (a0<a1)=false:=zbj c3
  clear c3;obtain rfl:=zbe H
  go_enter Tryz.func73,Tryz.ntmps73
  go_wp2
  go_ret
  exact ⟨taad,taah⟩
mutual
def spec_doStep.l0:Nat→List Int→List Int→Int→Int→Int→Option (Int × Int × Int × Bool)
 | 0,_,_,_,_,_=>none
 | k+1,x0,x1,x8,x12,x13=>if x13<x12 then (if 0≤x13 then (if x13<(x0.length:Int) then (if x13<(x1.length:Int) then (if (rd x0 x13)>(rd x1 x13) then (spec_doStep.l0 k x0 x1 x13 x12 (wrap64 (x13+1))) else (spec_doStep.l0 k x0 x1 x8 x12 (wrap64 (x13+1)))) else (none)) else (none)) else (none)) else (if x8<0 then (some (0,0,0,false)) else (spec_doStep.l1 k x0 x1 x8 (wrap64 (x8+1))))
def spec_doStep.l1:Nat→List Int→List Int→Int→Int→Option (Int × Int × Int × Bool)
 | 0,_,_,_,_=>none
 | k+1,x0,x1,x8,x10=>if 0≤x10 then (if x10<(x0.length:Int) then (if x10<(x1.length:Int) then (if (rd x0 x10)≥(rd x1 x10) then (spec_doStep.l1 k x0 x1 x8 (wrap64 (x10+1))) else (if 0≤x8 then (if x8<(x0.length:Int) then (if x8<(x1.length:Int) then ((spec_l1Least.f (wrap64 ((rd x0 x8) - (rd x1 x8))) (wrap64 ((rd x1 x10) - (rd x0 x10)))).bind fun t190=>(some (x8,x10,t190,true))) else (none)) else (none)) else (none))) else (none)) else (none)) else (none)
end
def spec_doStep.f (k:Nat) (l0:List Int) (l1:List Int):Option (Int × Int × Int × Bool):=spec_doStep.l0 k l0 l1 (-1) (l0.length:Int) 0
theorem spec_doStep.calls (k:Nat) (A0:Option Addr) (c0:Nat) (l0:List Int) (A1:Option Addr) (c1:Nat) (l1:List Int) (r1:Int) (r2:Int) (r3:Int) (r4:Bool) (w:World) (hr0:Kd.C (Kd.int .i64) w A0 l0.length l0) (hc0:l0.length≤c0) (hr1:Kd.C (Kd.int .i64) w A1 l1.length l1) (hc1:l1.length≤c1) (h:spec_doStep.f k l0 l1=some (r1,r2,r3,r4)) :
 Calls Tryz.prog 43 #[.slice A0 l0.length c0,.slice A1 l1.length c1] w fun e w'=>e = .returned (.tuple #[.int .i64 r1,.int .i64 r2,.int .i64 r3,.bool r4])∧Drawn0 w w':=by
 have HR0:=zad hr0;have HC0:=zad hc0;clear hr0 hc0;have HR1:=zad hr1;have HC1:=zad hc1;clear hr1 hc1;have H:(spec_doStep.l0 k l0 l1 (-1) (l0.length:Int) 0)=some (r1,r2,r3,r4):=h
 clear h;have H':=zad H
 clear H;go_enter Tryz.func43,Tryz.ntmps43
 go_wp2
 repeat (go_quiet (fail);try go_wp2)
 go_loopg [8,13] k (fun kq v8 v13 w'=>∃ (x8_1:Int) (x13_1:Int),v8 = .int .i64 x8_1∧v13 = .int .i64 x13_1∧Aside0 (spec_doStep.l0 kq l0 l1 x8_1 (l0.length:Int) x13_1=some (r1,r2,r3,r4))∧Aside0 (kq≤k)∧Drawn0 w w')
 case atStart=>exact ⟨((-1)),(0),(taad),(taad),H',⟨zcf _⟩,taah⟩
 case round =>
  clear H'
  try clear c1
  try clear p2
  obtain ⟨x8_1,x13_1,rfl,rfl,HA,HK1,⟨m1,rfl⟩⟩:=hrel
  cases gk with
  | zero=>exact absurd HA.out (by simp [spec_doStep.l0])
  | succ k1 =>
   have H:=HA.out
   clear HA;simp only [spec_doStep.l0] at H
   by_cases c3:x13_1<(l0.length:Int)
   ·rw [if_pos c3] at H
    have c3b0:decide (x13_1<(l0.length:Int))=true:=zba c3
    clear c3;by_cases c4:0≤x13_1
    ·rw [if_pos c4] at H
     have c4b0:decide (0≤x13_1)=true:=zba c4
     clear c4;by_cases c5:x13_1<(l0.length:Int)
     ·rw [if_pos c5] at H
      have c5b0:decide (x13_1<(l0.length:Int))=true:=zba c5
      clear c5;by_cases c6:x13_1<(l1.length:Int)
      ·rw [if_pos c6] at H
       have c6b0:decide (x13_1<(l1.length:Int))=true:=zba c6
       clear c6;by_cases c7:(rd l0 x13_1)>(rd l1 x13_1)
       ·rw [if_pos c7] at H
        have c7b0:decide ((rd l1 x13_1)<(rd l0 x13_1))=true:=zba c7
        clear c7;have H':=zad H
        clear H;have p182:0≤(x13_1:Int):=zas (taaa)
        have q182:x13_1<(l0.length:Int):=zas (taaa)
        obtain ⟨ad182,e182,hx182_0⟩:=zca HR0.out x13_1 p182 q182
        cases e182
        replace p182:=eq_true p182
        replace q182:=eq_true q182
        have p183:0≤(x13_1:Int):=zas (taaa)
        have q183:x13_1<(l1.length:Int):=zas (taaa)
        obtain ⟨ad183,e183,hx183_0⟩:=zca HR1.out x13_1 p183 q183
        cases e183
        replace p183:=eq_true p183
        replace q183:=eq_true q183
        go_wp2
        repeat (go_quiet (fail);try go_wp2)
        go_roundg k1
        case measure=>have:=HK1.out;omega
        case rel=>exact ⟨(x13_1),(wrap64 (x13_1+1)),(taad),(taad),H',⟨taaq⟩,taah⟩
       ·rw [if_neg c7] at H
        have c7b0:decide ((rd l1 x13_1)<(rd l0 x13_1))=false:=zbj c7
        clear c7;have H':=zad H
        clear H;have p182:0≤(x13_1:Int):=zas (taaa)
        have q182:x13_1<(l0.length:Int):=zas (taaa)
        obtain ⟨ad182,e182,hx182_0⟩:=zca HR0.out x13_1 p182 q182
        cases e182
        replace p182:=eq_true p182
        replace q182:=eq_true q182
        have p183:0≤(x13_1:Int):=zas (taaa)
        have q183:x13_1<(l1.length:Int):=zas (taaa)
        obtain ⟨ad183,e183,hx183_0⟩:=zca HR1.out x13_1 p183 q183
        cases e183
        replace p183:=eq_true p183
        replace q183:=eq_true q183
        go_wp2
        repeat (go_quiet (fail);try go_wp2)
        go_roundg k1
        case measure=>have:=HK1.out;omega
        case rel=>exact ⟨(x8_1),(wrap64 (x13_1+1)),(taad),(taad),H',⟨taaq⟩,taah⟩
      ·rw [if_neg c6] at H
       exact absurd H (taac)
     ·rw [if_neg c5] at H
      exact absurd H (taac)
    ·rw [if_neg c4] at H
     exact absurd H (taac)
   ·rw [if_neg c3] at H
    have c3b0:decide (x13_1<(l0.length:Int))=false:=zbj c3
    clear c3;by_cases c8:x8_1<0
    ·rw [if_pos c8] at H
     have c8b0:decide (x8_1<0)=true:=zba c8
     clear c8;simp only [zbl,zbp] at H
     obtain ⟨rfl,rfl,rfl,rfl⟩:=H
     go_wp2
     repeat (go_quiet (fail);try go_wp2)
     refine bodyPost_ret (results_list (rs:=[.tmp 4,.tmp 5,.tmp 6,.tmp 7]) rfl (taac) (.tmp (.tmp (.tmp (.tmp .nil))))) rfl ?_
     exact ⟨taad,taah⟩
    ·rw [if_neg c8] at H
     have c8b0:decide (x8_1<0)=false:=zbj c8
     clear c8;have H':=zad H
     clear H;go_wp2
     repeat (go_quiet (fail);try go_wp2)
     go_loopg [10] k1 (fun kq v10 w'=>∃ (x10_2:Int),v10 = .int .i64 x10_2∧Aside0 (spec_doStep.l1 kq l0 l1 x8_1 x10_2=some (r1,r2,r3,r4))∧Aside0 (kq≤k1)∧Drawn0 w w')
     case atStart=>exact ⟨(wrap64 (x8_1+1)),(taad),H',⟨zcf _⟩,taah⟩
     case round =>
      clear H'
      try clear c1
      try clear p1
      try clear q1
      try clear hx1
      try clear p2
      try clear c3
      try clear c3b0
      try clear c4
      try clear c4b0
      try clear c5
      try clear c5b0
      try clear c6
      try clear c6b0
      try clear p6
      try clear c7
      try clear c7b0
      try clear c8
      try clear c8b0
      try clear hx182_0
      try clear hx183_0
      try clear p182
      try clear p183
      try clear p2
      try clear q182
      try clear q183
      obtain ⟨x10_2,rfl,HA,HK2,⟨m2,rfl⟩⟩:=hrel
      cases gk with
      | zero=>exact absurd HA.out (by simp [spec_doStep.l1])
      | succ k2 =>
       have H:=HA.out
       clear HA;simp only [spec_doStep.l1] at H
       by_cases c9:0≤x10_2
       ·rw [if_pos c9] at H
        have c9b0:decide (0≤x10_2)=true:=zba c9
        clear c9;by_cases c10:x10_2<(l0.length:Int)
        ·rw [if_pos c10] at H
         have c10b0:decide (x10_2<(l0.length:Int))=true:=zba c10
         clear c10;by_cases c11:x10_2<(l1.length:Int)
         ·rw [if_pos c11] at H
          have c11b0:decide (x10_2<(l1.length:Int))=true:=zba c11
          clear c11;by_cases c12:(rd l0 x10_2)≥(rd l1 x10_2)
          ·rw [if_pos c12] at H
           have c12b0:decide ((rd l1 x10_2)≤(rd l0 x10_2))=true:=zba c12
           clear c12;have H':=zad H
           clear H;have p184:0≤(x10_2:Int):=zas (taaa)
           have q184:x10_2<(l0.length:Int):=zas (taaa)
           obtain ⟨ad184,e184,hx184_0⟩:=zca HR0.out x10_2 p184 q184
           cases e184
           replace p184:=eq_true p184
           replace q184:=eq_true q184
           have p185:0≤(x10_2:Int):=zas (taaa)
           have q185:x10_2<(l1.length:Int):=zas (taaa)
           obtain ⟨ad185,e185,hx185_0⟩:=zca HR1.out x10_2 p185 q185
           cases e185
           replace p185:=eq_true p185
           replace q185:=eq_true q185
           go_wp2
           repeat (go_quiet (fail);try go_wp2)
           go_roundg k2
           case measure=>have:=HK1.out;have:=HK2.out;omega
           case rel=>exact ⟨(wrap64 (x10_2+1)),(taad),H',⟨taao⟩,taah⟩
          ·rw [if_neg c12] at H
           have c12b0:decide ((rd l1 x10_2)≤(rd l0 x10_2))=false:=zbj c12
           clear c12;by_cases c13:0≤x8_1
           ·rw [if_pos c13] at H
            have c13b0:decide (0≤x8_1)=true:=zba c13
            clear c13;by_cases c14:x8_1<(l0.length:Int)
            ·rw [if_pos c14] at H
             have c14b0:decide (x8_1<(l0.length:Int))=true:=zba c14
             clear c14;by_cases c15:x8_1<(l1.length:Int)
             ·rw [if_pos c15] at H
              have c15b0:decide (x8_1<(l1.length:Int))=true:=zba c15
              clear c15;replace H:=zay.mp H;obtain ⟨t190,A160,H⟩:=H
              replace H:(some (x8_1,x10_2,t190,true))=some (r1,r2,r3,r4):=H
              have A16:=zad A160;clear A160;simp only [zbl,zbp] at H
              obtain ⟨rfl,rfl,rfl,rfl⟩:=H
              have p184:0≤(x10_2:Int):=zas (taaa)
              have q184:x10_2<(l0.length:Int):=zas (taaa)
              obtain ⟨ad184,e184,hx184_0⟩:=zca HR0.out x10_2 p184 q184
              cases e184
              replace p184:=eq_true p184
              replace q184:=eq_true q184
              have p185:0≤(x10_2:Int):=zas (taaa)
              have q185:x10_2<(l1.length:Int):=zas (taaa)
              obtain ⟨ad185,e185,hx185_0⟩:=zca HR1.out x10_2 p185 q185
              cases e185
              replace p185:=eq_true p185
              replace q185:=eq_true q185
              have p186:0≤(x8_1:Int):=zas (taaa)
              have q186:x8_1<(l0.length:Int):=zas (taaa)
              obtain ⟨ad186,e186,hx186_0⟩:=zca HR0.out x8_1 p186 q186
              obtain rfl:ad184=ad186:=(by injection e186)
              replace p186:=eq_true p186
              replace q186:=eq_true q186
              have p187:0≤(x8_1:Int):=zas (taaa)
              have q187:x8_1<(l1.length:Int):=zas (taaa)
              obtain ⟨ad187,e187,hx187_0⟩:=zca HR1.out x8_1 p187 q187
              obtain rfl:ad185=ad187:=(by injection e187)
              replace p187:=eq_true p187
              replace q187:=eq_true q187
              have p188:0≤(x10_2:Int):=zas (taaa)
              have q188:x10_2<(l1.length:Int):=zas (taaa)
              obtain ⟨ad188,e188,hx188_0⟩:=zca HR1.out x10_2 p188 q188
              obtain rfl:ad185=ad188:=(by injection e188)
              replace p188:=eq_true p188
              replace q188:=eq_true q188
              have p189:0≤(x10_2:Int):=zas (taaa)
              have q189:x10_2<(l0.length:Int):=zas (taaa)
              obtain ⟨ad189,e189,hx189_0⟩:=zca HR0.out x10_2 p189 q189
              obtain rfl:ad184=ad189:=(by injection e189)
              replace p189:=eq_true p189
              replace q189:=eq_true q189
              go_wp2_with (first | (go_at_call 73;(with_reducible refine (spec_l1Least.calls (wrap64 ((rd l0 x8_1) - (rd l1 x8_1))) (wrap64 ((rd l1 x10_2) - (rd l0 x10_2))) t190 _ A16.out).mono ?_);rintro e w' ⟨rfl,⟨nd,rfl⟩⟩;(try first | exact ⟨rfl,_,World.drewN_drewN _ _ _⟩ | exact ⟨rfl,_,Eq.trans (World.drewN_drewN _ _ _) (congrArg (World.drewN _) (Nat.add_assoc _ _ _))⟩)))
              repeat (go_quiet (first | (go_at_call 73;(with_reducible refine (spec_l1Least.calls (wrap64 ((rd l0 x8_1) - (rd l1 x8_1))) (wrap64 ((rd l1 x10_2) - (rd l0 x10_2))) t190 _ A16.out).mono ?_);rintro e w' ⟨rfl,⟨nd,rfl⟩⟩;(try first | exact ⟨rfl,_,World.drewN_drewN _ _ _⟩ | exact ⟨rfl,_,Eq.trans (World.drewN_drewN _ _ _) (congrArg (World.drewN _) (Nat.add_assoc _ _ _))⟩)));try go_wp2_with (first | (go_at_call 73;(with_reducible refine (spec_l1Least.calls (wrap64 ((rd l0 x8_1) - (rd l1 x8_1))) (wrap64 ((rd l1 x10_2) - (rd l0 x10_2))) t190 _ A16.out).mono ?_);rintro e w' ⟨rfl,⟨nd,rfl⟩⟩;(try first | exact ⟨rfl,_,World.drewN_drewN _ _ _⟩ | exact ⟨rfl,_,Eq.trans (World.drewN_drewN _ _ _) (congrArg (World.drewN _) (Nat.add_assoc _ _ _))⟩))))
              refine bodyPost_ret (results_list (rs:=[.tmp 4,.tmp 5,.tmp 6,.tmp 7]) rfl (taac) (.tmp (.tmp (.tmp (.tmp .nil))))) rfl ?_
              exact ⟨taad,taah⟩
             ·rw [if_neg c15] at H
              exact absurd H (taac)
            ·rw [if_neg c14] at H
             exact absurd H (taac)
           ·rw [if_neg c13] at H
            exact absurd H (taac)
         ·rw [if_neg c11] at H
          exact absurd H (taac)
        ·rw [if_neg c10] at H
         exact absurd H (taac)
       ·rw [if_neg c9] at H
        exact absurd H (taac)
mutual
def spec_doTimes.l0:Nat→List (List Int)→List (List Int)→List (List Int)→Int→Int→Option ((List (List Int)))
 | 0,_,_,_,_,_=>none
 | k+1,x0,x1,x5,x13,x14=>if x14<x13 then (spec_doTimes.l1 k x0 x1 x5 x14 x13 x14 (x0.length:Int) 0) else (some x5)
def spec_doTimes.l1:Nat→List (List Int)→List (List Int)→List (List Int)→Int→Int→Int→Int→Int→Option ((List (List Int)))
 | 0,_,_,_,_,_,_,_,_=>none
 | k+1,x0,x1,x5,x6,x13,x14,x18,x19=>if x19<x18 then (spec_doTimes.l2 k x0 x1 x5 x6 x19 x13 x14 x18 x19 (x0.length:Int) 0) else (spec_doTimes.l0 k x0 x1 x5 x13 (wrap64 (x14+1)))
def spec_doTimes.l2:Nat→List (List Int)→List (List Int)→List (List Int)→Int→Int→Int→Int→Int→Int→Int→Int→Option ((List (List Int)))
 | 0,_,_,_,_,_,_,_,_,_,_,_=>none
 | k+1,x0,x1,x5,x6,x7,x13,x14,x18,x19,x23,x24=>if x24<x23 then (if 0≤x6 then (if x6<(x5.length:Int) then (if 0≤x7 then (if x7<((rd_L2 x5 x6).length:Int) then (if x6<(x0.length:Int) then (if 0≤x24 then (if x24<((rd_L2 x0 x6).length:Int) then (if x24<(x1.length:Int) then (if x7<((rd_L2 x1 x24).length:Int) then (spec_doTimes.l2 k x0 x1 (x5.set (x6:Int).toNat ((rd_L2 x5 x6).set (x7:Int).toNat (wrap64 ((rd (rd_L2 x5 x6) x7)+(wrap64 ((rd (rd_L2 x0 x6) x24)*(rd (rd_L2 x1 x24) x7))))))) x6 x7 x13 x14 x18 x19 x23 (wrap64 (x24+1))) else (none)) else (none)) else (none)) else (none)) else (none)) else (none)) else (none)) else (none)) else (none)) else (spec_doTimes.l1 k x0 x1 x5 x6 x13 x14 x18 (wrap64 (x19+1)))
end
def spec_doTimes.f (k:Nat) (l0:List (List Int)) (l1:List (List Int)):Option ((List (List Int))):=(spec_doEmpty.f k (l0.length:Int)).bind fun t191=>(spec_doTimes.l0 k l0 l1 t191 (l0.length:Int) 0)
def spec_doTimes.T11:Bool × List (List Nat × List Nat):=(true,[([],[]),([],[]),([0,1],[0,1]),([2],[2]),([],[]),([3,4],[3,4]),([5],[5]),([],[]),([],[]),([7,8],[7,8]),([9],[9]),([],[]),([10,11],[10,11]),([12],[12]),([],[]),([],[]),([14,15],[14,15]),([16],[16]),([],[]),([17,18],[17,18]),([19],[19]),([13,20],[13,20]),([6,21],[6,21]),([3,4,0,1,2,3,4,5,6,7,8,9,10,11,12,13,14,15,16,17,18,19,20,21,22],[3,4]),([23,22,0,1,2,3,4,5,6,7,8,9,10,11,12,13,14,15,16,17,18,19,20,21,22],[22,23])])
def spec_doTimes.B11:List Nat:=[0,0,3,7,0,31,63,0,0,384,896,0,3968,8064,0,0,49152,114688,0,507904,1032192,2097024,4194303,8388607,16777215]
theorem spec_doTimes.tab11:rtab .any (opsOf Tryz.f44 11)=spec_doTimes.T11:=by kernel_rfl
theorem spec_doTimes.bits11:waitsOk spec_doTimes.T11.2 spec_doTimes.B11=true:=by kernel_rfl
theorem spec_doTimes.calls (k:Nat) (A0:Option Addr) (c0:Nat) (l0:List (List Int)) (A1:Option Addr) (c1:Nat) (l1:List (List Int)) (r:List (List Int)) (w:World) (hr0:Kd.C (Kd.slice 3 (Kd.int .i64)) w A0 l0.length l0) (hc0:l0.length≤c0) (hr1:Kd.C (Kd.slice 3 (Kd.int .i64)) w A1 l1.length l1) (hc1:l1.length≤c1) (h:spec_doTimes.f k l0 l1=some r) :
 Calls Tryz.prog 44 #[.slice A0 l0.length c0,.slice A1 l1.length c1] w fun e w'=>∃ v0_:Value,e = .returned (v0_)∧Kd.S (Kd.slice 3 (Kd.int .i64)) 25 w' w.heap.size (fun _=>True) v0_ r∧Below w.heap.size w w':=by
 have HR0:=zad hr0;have HC0:=zad hc0;clear hr0 hc0;have HR1:=zad hr1;have HC1:=zad hc1;clear hr1 hc1;have HB:=zad (Below.refl w.heap.size w)
 have H:((spec_doEmpty.f k (l0.length:Int)).bind fun t191=>(spec_doTimes.l0 k l0 l1 t191 (l0.length:Int) 0))=some r:=h
 clear h;replace H:=zay.mp H;obtain ⟨t191,A30,H⟩:=H
 replace H:(spec_doTimes.l0 k l0 l1 t191 (l0.length:Int) 0)=some r:=H
 have A3:=zad A30;clear A30;have H':=zad H
 clear H;go_enter Tryz.func44,Tryz.ntmps44
 go_wp2_with (first | ((with_reducible refine zbh (f:=42) rfl ?_);refine zbn (some 11) rfl rfl Tryz.func42 (by kernel_rfl) rfl #[.int .i64 (l0.length:Int)] rfl (taae) ?_;(with_reducible refine (spec_doEmpty.calls k (l0.length:Int) t191 _ A3.out).mono ?_);rintro e w4 ⟨v192,rfl,ho0,hb⟩;refine ⟨_,rfl,?_⟩;have n0_:=zad (Kd.S_lower ho0 (zbk (taab)));have n1_:=zad (zbg (taab) hb);clear HB;have HO193:=n0_;have HB:=n1_;clear n0_ n1_;(try clear hb);(try clear hb2);(try clear hk);(try clear hi);(try clear ho0)))
 go_loopg [14] k (fun kq v14 w'=>∃ (x5_1:List (List Int)) (x14_1:Int),v14 = .int .i64 x14_1∧Aside0 (spec_doTimes.l0 kq l0 l1 x5_1 (l0.length:Int) x14_1=some r)∧Aside0 (kq≤k)∧Aside0 (Kd.S (Kd.slice 3 (Kd.int .i64)) 25 w' w.heap.size (fun _=>True) v192 x5_1)∧Aside0 (Below w.heap.size w w'))
 case atStart=>exact ⟨(t191),(0),(taad),H',⟨zcf _⟩,⟨by (with_reducible repeat (first | apply Kd.S_alloc | apply Kd.S_drewN | apply Kd.S_drew));exact HO193.out⟩,⟨taab⟩⟩
 case round =>
  clear H'
  try clear c1
  try clear p2
  try clear c4
  obtain ⟨x5_1,x14_1,rfl,HA,HK1,HO_5,HB⟩:=hrel
  cases gk with
  | zero=>exact absurd HA.out (by simp [spec_doTimes.l0])
  | succ k1 =>
   have H:=HA.out
   clear HA;simp only [spec_doTimes.l0] at H
   by_cases c5:x14_1<(l0.length:Int)
   ·rw [if_pos c5] at H
    have c5b0:decide (x14_1<(l0.length:Int))=true:=zba c5
    clear c5;have H':=zad H
    clear H;go_wp2
    go_loopg [19] k1 (fun kq v19 w'=>∃ (x5_2:List (List Int)) (x19_2:Int),v19 = .int .i64 x19_2∧Aside0 (spec_doTimes.l1 kq l0 l1 x5_2 x14_1 (l0.length:Int) x14_1 (l0.length:Int) x19_2=some r)∧Aside0 (kq≤k1)∧Aside0 (Kd.S (Kd.slice 3 (Kd.int .i64)) 25 w' w.heap.size (fun _=>True) v192 x5_2)∧Aside0 (Below w.heap.size w w'))
    case atStart=>exact ⟨(x5_1),(0),(taad),H',⟨zcf _⟩,⟨taaz⟩,⟨taab⟩⟩
    case round =>
     clear H'
     try clear c1
     try clear p2
     try clear c4
     try clear c5
     try clear c5b0
     try clear p2
     obtain ⟨x5_2,x19_2,rfl,HA,HK2,HO_5,HB⟩:=hrel
     cases gk with
     | zero=>exact absurd HA.out (by simp [spec_doTimes.l1])
     | succ k2 =>
      have H:=HA.out
      clear HA;simp only [spec_doTimes.l1] at H
      by_cases c6:x19_2<(l0.length:Int)
      ·rw [if_pos c6] at H
       have c6b0:decide (x19_2<(l0.length:Int))=true:=zba c6
       clear c6;have H':=zad H
       clear H;go_wp2
       go_loopg [24] k2 (fun kq v24 w'=>∃ (x5_3:List (List Int)) (x24_3:Int),v24 = .int .i64 x24_3∧Aside0 (spec_doTimes.l2 kq l0 l1 x5_3 x14_1 x19_2 (l0.length:Int) x14_1 (l0.length:Int) x19_2 (l0.length:Int) x24_3=some r)∧Aside0 (kq≤k2)∧Aside0 (Kd.S (Kd.slice 3 (Kd.int .i64)) 25 w' w.heap.size (fun _=>True) v192 x5_3)∧Aside0 (Below w.heap.size w w'))
       case atStart=>exact ⟨(x5_2),(0),(taad),H',⟨zcf _⟩,⟨taaz⟩,⟨taab⟩⟩
       case round =>
        clear H'
        try clear c1
        try clear p2
        try clear c4
        try clear c5
        try clear c5b0
        try clear c6
        try clear c6b0
        try clear p2
        obtain ⟨x5_3,x24_3,rfl,HA,HK3,HO_5,HB⟩:=hrel
        cases gk with
        | zero=>exact absurd HA.out (by simp [spec_doTimes.l2])
        | succ k3 =>
         have H:=HA.out
         clear HA;simp only [spec_doTimes.l2] at H
         by_cases c7:x24_3<(l0.length:Int)
         ·rw [if_pos c7] at H
          have c7b0:decide (x24_3<(l0.length:Int))=true:=zba c7
          clear c7;by_cases c8:0≤x14_1
          ·rw [if_pos c8] at H
           have c8b0:decide (0≤x14_1)=true:=zba c8
           clear c8;by_cases c9:x14_1<(x5_3.length:Int)
           ·rw [if_pos c9] at H
            have c9b0:decide (x14_1<(x5_3.length:Int))=true:=zba c9
            clear c9;by_cases c10:0≤x19_2
            ·rw [if_pos c10] at H
             have c10b0:decide (0≤x19_2)=true:=zba c10
             clear c10;by_cases c11:x19_2<((rd_L2 x5_3 x14_1).length:Int)
             ·rw [if_pos c11] at H
              have c11b0:decide (x19_2<((rd_L2 x5_3 x14_1).length:Int))=true:=zba c11
              clear c11;by_cases c12:x14_1<(l0.length:Int)
              ·rw [if_pos c12] at H
               have c12b0:decide (x14_1<(l0.length:Int))=true:=zba c12
               clear c12;by_cases c13:0≤x24_3
               ·rw [if_pos c13] at H
                have c13b0:decide (0≤x24_3)=true:=zba c13
                clear c13;by_cases c14:x24_3<((rd_L2 l0 x14_1).length:Int)
                ·rw [if_pos c14] at H
                 have c14b0:decide (x24_3<((rd_L2 l0 x14_1).length:Int))=true:=zba c14
                 clear c14;by_cases c15:x24_3<(l1.length:Int)
                 ·rw [if_pos c15] at H
                  have c15b0:decide (x24_3<(l1.length:Int))=true:=zba c15
                  clear c15;by_cases c16:x19_2<((rd_L2 l1 x24_3).length:Int)
                  ·rw [if_pos c16] at H
                   have c16b0:decide (x19_2<((rd_L2 l1 x24_3).length:Int))=true:=zba c16
                   clear c16;obtain ⟨y200,hy200⟩:∃ y_:List Int,y_=((rd_L2 x5_3 x14_1).set (x19_2:Int).toNat (wrap64 ((rd (rd_L2 x5_3 x14_1) x19_2)+(wrap64 ((rd (rd_L2 l0 x14_1) x24_3)*(rd (rd_L2 l1 x24_3) x19_2)))))):=⟨_,rfl⟩
                   replace H:(spec_doTimes.l2 k3 l0 l1 (x5_3.set (x14_1:Int).toNat y200) x14_1 x19_2 (l0.length:Int) x14_1 (l0.length:Int) x19_2 (l0.length:Int) (wrap64 (x24_3+1)))=some r:=by first | (rw [hy200];with_reducible exact H) | (have H2_:=(zbd _ _).symm.trans H;rw [hy200];with_reducible exact H2_) | (have H2_:=(zbd _ _).symm.trans H;with_reducible exact H2_) | with_reducible exact H | (rw [hy200];exact H) | exact H
                   have Ny200:=zad hy200;clear hy200;obtain ⟨y202,hy202⟩:∃ y_:List (List Int),y_=(x5_3.set (x14_1:Int).toNat y200):=⟨_,rfl⟩
                   replace H:(spec_doTimes.l2 k3 l0 l1 y202 x14_1 x19_2 (l0.length:Int) x14_1 (l0.length:Int) x19_2 (l0.length:Int) (wrap64 (x24_3+1)))=some r:=by first | (rw [hy202];with_reducible exact H) | (have H2_:=(zbd _ _).symm.trans H;rw [hy202];with_reducible exact H2_) | (have H2_:=(zbd _ _).symm.trans H;with_reducible exact H2_) | with_reducible exact H | (rw [hy202];exact H) | exact H
                   have Ny202:=zad hy202;clear hy202;have H':=zad H
                   clear H;try go_wp2
                   have n0_:=zad (Kd.S_drew HO_5.out)
                   have n1_:=zad (zaf HB.out)
                   clear HO_5 HB;have HO_5:=n0_;have HB:=n1_;clear n0_ n1_;obtain ⟨Ao19,co19,eo19⟩:=Kd.S_slice HO_5.out
                   (first | subst eo19 | (injection eo19 with f1_ f2_ f3_;have f4_:=f1_.symm;have f5_:=f3_.symm;clear f1_ f2_ f3_;subst f4_;subst f5_))
                   have p194:0≤(x14_1:Int):=zas (taaa)
                   have q194:x14_1<(x5_3.length:Int):=zas (taaa)
                   obtain ⟨ad194,A194_0,c194_0,e194,hx194_0,hl194_0,hi194_0⟩:=at_L2 (Kd.S_reads' HO_5.out).2.2 x14_1 p194 q194
                   cases e194
                   obtain ⟨ce194,hce194,hMe194,hcc194⟩:=Kd.S_get HO_5.out [] x14_1 p194 (by first | exact q194 | exact zas (taaa) | (have e_:=(Kd.S_reads' HO_5.out).1;omega))
                   obtain ⟨ve194_0,rfl,ge194_0⟩:=hMe194
                   have hv194_0:=hcc194 0 _ rfl
                   rw [Nat.add_zero,show ((Kd.slice 3 (Kd.int .i64))).sz=1 from rfl,Nat.mul_one] at hv194_0
                   replace hv194_0:=zbe (hv194_0.symm.trans hx194_0)
                   rw [hv194_0] at ge194_0
                   have HL194_0:=zad (show Kd.R (Kd.int .i64) 3 _ _ _ _ (rd_L2 x5_3 x14_1) from ge194_0)
                   clear hv194_0 ge194_0;have HX194_0:=zad hx194_0;clear hcc194 hce194;have HR194_0:=zad hi194_0;have HC194_0:=zad hl194_0;clear hi194_0 hl194_0;replace p194:=eq_true p194
                   replace q194:=eq_true q194
                   have p195:0≤(x19_2:Int):=zas (taaa)
                   have q195:x19_2<((rd_L2 x5_3 x14_1).length:Int):=zas (taaa)
                   obtain ⟨ad195,e195,hx195_0⟩:=zca (by repeat (first | (with_reducible exact HR194_0.out) | (with_reducible refine zal ?_ _) | (with_reducible refine zam ?_ _) | (with_reducible refine zan ?_) | exact HR194_0.out)) x19_2 p195 q195
                   cases e195
                   replace p195:=eq_true p195
                   replace q195:=eq_true q195
                   have p196:0≤(x14_1:Int):=zas (taaa)
                   have q196:x14_1<(l0.length:Int):=zas (taaa)
                   obtain ⟨ad196,A196_0,c196_0,e196,hx196_0,hl196_0,hi196_0⟩:=at_L2 HR0.out x14_1 p196 q196
                   have hw196_0:=hx196_0
                   cases e196
                   replace hx196_0:=(HB.out.cell (zaz w _ hx196_0)).trans hx196_0
                   have HR196_0:=zad hi196_0;have HC196_0:=zad hl196_0;clear hi196_0 hl196_0;replace p196:=eq_true p196
                   replace q196:=eq_true q196
                   have p197:0≤(x24_3:Int):=zas (taaa)
                   have q197:x24_3<((rd_L2 l0 x14_1).length:Int):=zas (taaa)
                   obtain ⟨ad197,e197,hx197_0⟩:=zca HR196_0.out x24_3 p197 q197
                   have hw197_0:=hx197_0
                   cases e197
                   replace hx197_0:=(HB.out.cell (zaz w _ hx197_0)).trans hx197_0
                   replace p197:=eq_true p197
                   replace q197:=eq_true q197
                   have p198:0≤(x24_3:Int):=zas (taaa)
                   have q198:x24_3<(l1.length:Int):=zas (taaa)
                   obtain ⟨ad198,A198_0,c198_0,e198,hx198_0,hl198_0,hi198_0⟩:=at_L2 HR1.out x24_3 p198 q198
                   have hw198_0:=hx198_0
                   cases e198
                   replace hx198_0:=(HB.out.cell (zaz w _ hx198_0)).trans hx198_0
                   have HR198_0:=zad hi198_0;have HC198_0:=zad hl198_0;clear hi198_0 hl198_0;replace p198:=eq_true p198
                   replace q198:=eq_true q198
                   have p199:0≤(x19_2:Int):=zas (taaa)
                   have q199:x19_2<((rd_L2 l1 x24_3).length:Int):=zas (taaa)
                   obtain ⟨ad199,e199,hx199_0⟩:=zca HR198_0.out x19_2 p199 q199
                   have hw199_0:=hx199_0
                   cases e199
                   replace hx199_0:=(HB.out.cell (zaz w _ hx199_0)).trans hx199_0
                   replace p199:=eq_true p199
                   replace q199:=eq_true q199
                   have p17:0≤(x19_2:Int):=zas (taaa)
                   have q17:(x19_2:Int)<(((rd_L2 x5_3 x14_1).length:Int):Int):=zas (taaa)
                   obtain ⟨go17,co17,eo17,gb17,gl17,cl17,HG17⟩:=Kd.R_form HL194_0.out (by omega)
                   (first | cases eo17 | (injection eo17 with ea_ en_ ec_;(first | subst ea_ | (injection ea_ with ea_;subst ea_));subst ec_;clear en_))
                   have GB17:=zad gb17;have GG17:=zad HG17;clear gb17 gl17 HG17;(first | simp only [add_plain] at hx195_0 | skip)
                   obtain ⟨hx17_0,hf17_0⟩:=Kd.R_celln 0 HL194_0.out (x19_2:Int) p17 q17
                   replace p17:=eq_true p17
                   replace q17:=eq_true q17
                   have hq20:(x14_1:Int)<(x5_3.length:Int):=(by have h_:(x14_1:Int)<((x5_3.length:Int):Int):=zas (taaa);first | exact h_ | (have e_:=(Kd.S_reads' HO_5.out).1;omega) | simpa only [List.length_set,List.length_set] using h_)
                   obtain ⟨oki20,ce20,hcl20,hM20,hcc20,hok20,hbk20⟩:=Kd.S_borrow HO_5.out [] (x14_1:Int) (zas (taaa)) (by first | exact hq20 | (have e_:=(Kd.S_reads' HO_5.out).1;omega))
                   obtain ⟨ve20_0,rfl,ge20_0⟩:=hM20
                   have hv20:=hcc20 0 _ rfl
                   rw [Nat.add_zero,show ((Kd.slice 3 (Kd.int .i64))).sz=1 from rfl,Nat.mul_one] at hv20
                   replace hv20:=zbe (hv20.symm.trans HX194_0.out)
                   subst hv20;clear hcc20 hcl20;replace ge20_0:=(show Kd.R (Kd.int .i64) 3 _ _ _ _ (rd_L2 x5_3 x14_1) from ge20_0)
                   have HP20:=Kd.R_putg ge20_0 (x19_2:Int) (wrap64 ((rd (rd_L2 x5_3 x14_1) x19_2)+(wrap64 ((rd (rd_L2 l0 x14_1) x24_3)*(rd (rd_L2 l1 x24_3) x19_2)))))
                   rw [← Ny200.out] at HP20
                   have HS20:=hbk20 HP20.2 (fun k_ e_=>by injection e_ with e_;subst e_;exact ge20_0.1 _ rfl) (x':=y200) (Kd.M_row HP20.1)
                   rw [← Ny202.out] at HS20
                   have HQ20:=zad HS20;clear HP20 HS20 hbk20 hok20;refine start_ (n:=25) (S:=fun w'=>w'.cell? (ad194.add (x14_1).toNat)=some (.slice (some ⟨go17,0,none⟩) (rd_L2 x5_3 x14_1).length c194_0)∧w'.cell? ⟨go17,(x19_2).toNat,none⟩=some (.int .i64 (rd (rd_L2 x5_3 x14_1) x19_2))∧w'.cell? (ad196.add (x14_1).toNat)=some (.slice (some ad197) (rd_L2 l0 x14_1).length c196_0)∧w'.cell? (ad197.add (x24_3).toNat)=some (.int .i64 (rd (rd_L2 l0 x14_1) x24_3))∧w'.cell? (ad198.add (x24_3).toNat)=some (.slice (some ad199) (rd_L2 l1 x24_3).length c198_0)∧w'.cell? (ad199.add (x19_2).toNat)=some (.int .i64 (rd (rd_L2 l1 x24_3) x19_2))) (ds:=[24]) #[false,false,false,false,false,false,false,false,false,false,false,false,false,false,false,false,false,false,false,false,false,false,false,false,false] (by kernel_rfl) rfl rfl ⟨hx194_0,hx195_0,((HB.out.cell (zaz w _ hw196_0)).trans hw196_0),((HB.out.cell (zaz w _ hw197_0)).trans hw197_0),((HB.out.cell (zaz w _ hw198_0)).trans hw198_0),((HB.out.cell (zaz w _ hw199_0)).trans hw199_0)⟩ (fun hHeld => ?_);refine with_tabW spec_doTimes.tab11 spec_doTimes.bits11 (fun HT_ HW_ => ?_)
                   generalize wr.drew=w18 at HO_5 HB GG17 HL194_0 HQ20 HR194_0 HR196_0 HR198_0 HX194_0 hf17_0 hx17_0 hx194_0 hx195_0 hx196_0 hx197_0 hx198_0 hx199_0 hHeld ⊢
                   refine pure_ (i:=0) (N:=some 27) (v := ?_) (a' := ?_) #[true,false,false,false,false,false,false,false,false,false,false,false,false,false,false,false,false,false,false,false,false,false,false,false,false] rfl rfl (zby HT_.out (by kernel_rfl)) (fun _ _ _ h=>h) (Or.inl ⟨by rfl,?_⟩) ?_ ?_
                   rotate_left
                   ·intro w'
                    go_simp;with_reducible rfl
                   rotate_left
                   ·simp only [Act.put,zaa,zab,zac,zbw,zbx]
                    rfl
                   refine pure_ (i:=1) (N:=some 28) (v := ?_) (a' := ?_) #[true,true,false,false,false,false,false,false,false,false,false,false,false,false,false,false,false,false,false,false,false,false,false,false,false] rfl rfl (zby HT_.out (by kernel_rfl)) (fun _ _ _ h=>h) (Or.inl ⟨by rfl,?_⟩) ?_ ?_
                   rotate_left
                   ·intro w'
                    go_simp;with_reducible rfl
                   rotate_left
                   ·simp only [Act.put,zaa,zab,zac,zbw,zbx]
                    rfl
                   refine pure_ (i:=2) (N:=some 29) (v := ?_) (a' := ?_) #[true,true,true,false,false,false,false,false,false,false,false,false,false,false,false,false,false,false,false,false,false,false,false,false,false] rfl rfl (zby HT_.out (by kernel_rfl)) (fun _ _ _ h=>h) (Or.inl ⟨by rfl,?_⟩) ?_ ?_
                   rotate_left
                   ·intro w'
                    go_simp;with_reducible rfl
                   rotate_left
                   ·simp only [Act.put,zaa,zab,zac,zbw,zbx]
                    rfl
                   refine pure_ (i:=4) (N:=some 31) (v := ?_) (a' := ?_) #[true,true,true,false,true,false,false,false,false,false,false,false,false,false,false,false,false,false,false,false,false,false,false,false,false] rfl rfl (zby HT_.out (by kernel_rfl)) (fun _ _ _ h=>h) (Or.inl ⟨by rfl,?_⟩) ?_ ?_
                   rotate_left
                   ·intro w'
                    go_simp;with_reducible rfl
                   rotate_left
                   ·simp only [Act.put,zaa,zab,zac,zbw,zbx]
                    rfl
                   refine pure_ (i:=7) (N:=some 34) (v := ?_) (a' := ?_) #[true,true,true,false,true,false,false,true,false,false,false,false,false,false,false,false,false,false,false,false,false,false,false,false,false] rfl rfl (zby HT_.out (by kernel_rfl)) (fun _ _ _ h=>h) (Or.inl ⟨by rfl,?_⟩) ?_ ?_
                   rotate_left
                   ·intro w'
                    go_simp;with_reducible rfl
                   rotate_left
                   ·simp only [Act.put,zaa,zab,zac,zbw,zbx]
                    rfl
                   refine pure_ (i:=8) (N:=some 35) (v := ?_) (a' := ?_) #[true,true,true,false,true,false,false,true,true,false,false,false,false,false,false,false,false,false,false,false,false,false,false,false,false] rfl rfl (zby HT_.out (by kernel_rfl)) (fun _ _ _ h=>h) (Or.inl ⟨by rfl,?_⟩) ?_ ?_
                   rotate_left
                   ·intro w'
                    go_simp;with_reducible rfl
                   rotate_left
                   ·simp only [Act.put,zaa,zab,zac,zbw,zbx]
                    rfl
                   refine pure_ (i:=9) (N:=some 36) (v := ?_) (a' := ?_) #[true,true,true,false,true,false,false,true,true,true,false,false,false,false,false,false,false,false,false,false,false,false,false,false,false] rfl rfl (zby HT_.out (by kernel_rfl)) (fun _ _ _ h=>h) (Or.inl ⟨by rfl,?_⟩) ?_ ?_
                   rotate_left
                   ·intro w'
                    go_simp;with_reducible rfl
                   rotate_left
                   ·simp only [Act.put,zaa,zab,zac,zbw,zbx]
                    rfl
                   refine pure_ (i:=11) (N:=some 38) (v := ?_) (a' := ?_) #[true,true,true,false,true,false,false,true,true,true,false,true,false,false,false,false,false,false,false,false,false,false,false,false,false] rfl rfl (zby HT_.out (by kernel_rfl)) (fun _ _ _ h=>h) (Or.inl ⟨by rfl,?_⟩) ?_ ?_
                   rotate_left
                   ·intro w'
                    go_simp;with_reducible rfl
                   rotate_left
                   ·simp only [Act.put,zaa,zab,zac,zbw,zbx]
                    rfl
                   refine pure_ (i:=14) (N:=some 41) (v := ?_) (a' := ?_) #[true,true,true,false,true,false,false,true,true,true,false,true,false,false,true,false,false,false,false,false,false,false,false,false,false] rfl rfl (zby HT_.out (by kernel_rfl)) (fun _ _ _ h=>h) (Or.inl ⟨by rfl,?_⟩) ?_ ?_
                   rotate_left
                   ·intro w'
                    go_simp;with_reducible rfl
                   rotate_left
                   ·simp only [Act.put,zaa,zab,zac,zbw,zbx]
                    rfl
                   refine pure_ (i:=15) (N:=some 42) (v := ?_) (a' := ?_) #[true,true,true,false,true,false,false,true,true,true,false,true,false,false,true,true,false,false,false,false,false,false,false,false,false] rfl rfl (zby HT_.out (by kernel_rfl)) (fun _ _ _ h=>h) (Or.inl ⟨by rfl,?_⟩) ?_ ?_
                   rotate_left
                   ·intro w'
                    go_simp;with_reducible rfl
                   rotate_left
                   ·simp only [Act.put,zaa,zab,zac,zbw,zbx]
                    rfl
                   refine pure_ (i:=16) (N:=some 43) (v := ?_) (a' := ?_) #[true,true,true,false,true,false,false,true,true,true,false,true,false,false,true,true,true,false,false,false,false,false,false,false,false] rfl rfl (zby HT_.out (by kernel_rfl)) (fun _ _ _ h=>h) (Or.inl ⟨by rfl,?_⟩) ?_ ?_
                   rotate_left
                   ·intro w'
                    go_simp;with_reducible rfl
                   rotate_left
                   ·simp only [Act.put,zaa,zab,zac,zbw,zbx]
                    rfl
                   refine pure_ (i:=18) (N:=some 45) (v := ?_) (a' := ?_) #[true,true,true,false,true,false,false,true,true,true,false,true,false,false,true,true,true,false,true,false,false,false,false,false,false] rfl rfl (zby HT_.out (by kernel_rfl)) (fun _ _ _ h=>h) (Or.inl ⟨by rfl,?_⟩) ?_ ?_
                   rotate_left
                   ·intro w'
                    go_simp;with_reducible rfl
                   rotate_left
                   ·simp only [Act.put,zaa,zab,zac,zbw,zbx]
                    rfl
                   refine take_ (i:=3) (N:=some 30) (v := ?_) (a' := ?_) #[true,true,true,true,true,false,false,true,true,true,false,true,false,false,true,true,true,false,true,false,false,false,false,false,false] rfl rfl (zbz HT_.out HW_.out (by kernel_rfl)) (fun _ _ _ h=>h) (Or.inl ⟨by rfl,?_⟩) hHeld ?_ ?_
                   rotate_left
                   ·rintro w' ⟨s0,s1,s2,s3,s4,s5⟩
                    go_simp;with_reducible rfl
                   rotate_left
                   ·simp only [Act.put,zaa,zab,zac,zbw,zbx]
                    rfl
                   refine pure_ (i:=5) (N:=some 32) (v := ?_) (a' := ?_) #[true,true,true,true,true,true,false,true,true,true,false,true,false,false,true,true,true,false,true,false,false,false,false,false,false] rfl rfl (zby HT_.out (by kernel_rfl)) (fun _ _ _ h=>h) (Or.inl ⟨by rfl,?_⟩) ?_ ?_
                   rotate_left
                   ·intro w'
                    go_simp;with_reducible rfl
                   rotate_left
                   ·simp only [Act.put,zaa,zab,zac,zbw,zbx]
                    rfl
                   refine take_ (i:=6) (N:=some 33) (v := ?_) (a' := ?_) #[true,true,true,true,true,true,true,true,true,true,false,true,false,false,true,true,true,false,true,false,false,false,false,false,false] rfl rfl (zbz HT_.out HW_.out (by kernel_rfl)) (fun _ _ _ h=>h) (Or.inl ⟨by rfl,?_⟩) hHeld ?_ ?_
                   rotate_left
                   ·rintro w' ⟨s0,s1,s2,s3,s4,s5⟩
                    go_simp;with_reducible rfl
                   rotate_left
                   ·simp only [Act.put,zaa,zab,zac,zbw,zbx]
                    rfl
                   refine take_ (i:=10) (N:=some 37) (v := ?_) (a' := ?_) #[true,true,true,true,true,true,true,true,true,true,true,true,false,false,true,true,true,false,true,false,false,false,false,false,false] rfl rfl (zbz HT_.out HW_.out (by kernel_rfl)) (fun _ _ _ h=>h) (Or.inl ⟨by rfl,?_⟩) hHeld ?_ ?_
                   rotate_left
                   ·rintro w' ⟨s0,s1,s2,s3,s4,s5⟩
                    go_simp;with_reducible rfl
                   rotate_left
                   ·simp only [Act.put,zaa,zab,zac,zbw,zbx]
                    rfl
                   refine pure_ (i:=12) (N:=some 39) (v := ?_) (a' := ?_) #[true,true,true,true,true,true,true,true,true,true,true,true,true,false,true,true,true,false,true,false,false,false,false,false,false] rfl rfl (zby HT_.out (by kernel_rfl)) (fun _ _ _ h=>h) (Or.inl ⟨by rfl,?_⟩) ?_ ?_
                   rotate_left
                   ·intro w'
                    go_simp;with_reducible rfl
                   rotate_left
                   ·simp only [Act.put,zaa,zab,zac,zbw,zbx]
                    rfl
                   refine take_ (i:=13) (N:=some 40) (v := ?_) (a' := ?_) #[true,true,true,true,true,true,true,true,true,true,true,true,true,true,true,true,true,false,true,false,false,false,false,false,false] rfl rfl (zbz HT_.out HW_.out (by kernel_rfl)) (fun _ _ _ h=>h) (Or.inl ⟨by rfl,?_⟩) hHeld ?_ ?_
                   rotate_left
                   ·rintro w' ⟨s0,s1,s2,s3,s4,s5⟩
                    go_simp;with_reducible rfl
                   rotate_left
                   ·simp only [Act.put,zaa,zab,zac,zbw,zbx]
                    rfl
                   refine take_ (i:=17) (N:=some 44) (v := ?_) (a' := ?_) #[true,true,true,true,true,true,true,true,true,true,true,true,true,true,true,true,true,true,true,false,false,false,false,false,false] rfl rfl (zbz HT_.out HW_.out (by kernel_rfl)) (fun _ _ _ h=>h) (Or.inl ⟨by rfl,?_⟩) hHeld ?_ ?_
                   rotate_left
                   ·rintro w' ⟨s0,s1,s2,s3,s4,s5⟩
                    go_simp;with_reducible rfl
                   rotate_left
                   ·simp only [Act.put,zaa,zab,zac,zbw,zbx]
                    rfl
                   refine pure_ (i:=19) (N:=some 46) (v := ?_) (a' := ?_) #[true,true,true,true,true,true,true,true,true,true,true,true,true,true,true,true,true,true,true,true,false,false,false,false,false] rfl rfl (zby HT_.out (by kernel_rfl)) (fun _ _ _ h=>h) (Or.inl ⟨by rfl,?_⟩) ?_ ?_
                   rotate_left
                   ·intro w'
                    go_simp;with_reducible rfl
                   rotate_left
                   ·simp only [Act.put,zaa,zab,zac,zbw,zbx]
                    rfl
                   refine take_ (i:=20) (N:=some 47) (v := ?_) (a' := ?_) #[true,true,true,true,true,true,true,true,true,true,true,true,true,true,true,true,true,true,true,true,true,false,false,false,false] rfl rfl (zbz HT_.out HW_.out (by kernel_rfl)) (fun _ _ _ h=>h) (Or.inl ⟨by rfl,?_⟩) hHeld ?_ ?_
                   rotate_left
                   ·rintro w' ⟨s0,s1,s2,s3,s4,s5⟩
                    go_simp;with_reducible rfl
                   rotate_left
                   ·simp only [Act.put,zaa,zab,zac,zbw,zbx]
                    rfl
                   refine pure_ (i:=21) (N:=some 48) (v := ?_) (a' := ?_) #[true,true,true,true,true,true,true,true,true,true,true,true,true,true,true,true,true,true,true,true,true,true,false,false,false] rfl rfl (zby HT_.out (by kernel_rfl)) (fun _ _ _ h=>h) (Or.inl ⟨by rfl,?_⟩) ?_ ?_
                   rotate_left
                   ·intro w'
                    go_simp;with_reducible rfl
                   rotate_left
                   ·simp only [Act.put,zaa,zab,zac,zbw,zbx]
                    rfl
                   refine pure_ (i:=22) (N:=some 49) (v := ?_) (a' := ?_) #[true,true,true,true,true,true,true,true,true,true,true,true,true,true,true,true,true,true,true,true,true,true,true,false,false] rfl rfl (zby HT_.out (by kernel_rfl)) (fun _ _ _ h=>h) (Or.inl ⟨by rfl,?_⟩) ?_ ?_
                   rotate_left
                   ·intro w'
                    go_simp;with_reducible rfl
                   rotate_left
                   ·simp only [Act.put,zaa,zab,zac,zbw,zbx]
                    rfl
                   refine pure_ (i:=23) (N:=some 50) (v := ?_) (a' := ?_) #[true,true,true,true,true,true,true,true,true,true,true,true,true,true,true,true,true,true,true,true,true,true,true,true,false] rfl rfl (zby HT_.out (by kernel_rfl)) (fun _ _ _ h=>h) (Or.inl ⟨by rfl,?_⟩) ?_ ?_
                   rotate_left
                   ·intro w'
                    go_simp;with_reducible rfl
                   rotate_left
                   ·simp only [Act.put,zaa,zab,zac,zbw,zbx]
                    rfl
                   refine last_ (i:=24) (N:=none) #[true,true,true,true,true,true,true,true,true,true,true,true,true,true,true,true,true,true,true,true,true,true,true,true,true] rfl rfl (one_of HT_.out (by kernel_rfl)) (by decide) (fun K hK => ?_)
                   refine skip_ (w1 := ?_) (by rfl) rfl ?_ ?_
                   rotate_left
                   ·go_simp
                    rfl
                   refine hK.out _ _ ?_
                   clear hK K;refine done_ (done_of HT_.out (by kernel_rfl)) ?_
                   try go_wp2
                   go_roundg k3
                   case measure=>have:=HK1.out;have:=HK2.out;have:=HK3.out;omega
                   case rel=>exact ⟨(y202),(wrap64 (x24_3+1)),(taad),H',⟨tacg⟩,⟨by (with_reducible repeat (first | apply Kd.S_alloc | apply Kd.S_drewN | apply Kd.S_drew));exact HQ20.out⟩,⟨by repeat (first | (with_reducible first | exact HB.out | apply zag | apply zae | apply zaf | refine zah ?_ GB17.out) | exact HB.out)⟩⟩
                  ·rw [if_neg c16] at H
                   exact absurd H (taac)
                 ·rw [if_neg c15] at H
                  exact absurd H (taac)
                ·rw [if_neg c14] at H
                 exact absurd H (taac)
               ·rw [if_neg c13] at H
                exact absurd H (taac)
              ·rw [if_neg c12] at H
               exact absurd H (taac)
             ·rw [if_neg c11] at H
              exact absurd H (taac)
            ·rw [if_neg c10] at H
             exact absurd H (taac)
           ·rw [if_neg c9] at H
            exact absurd H (taac)
          ·rw [if_neg c8] at H
           exact absurd H (taac)
         ·rw [if_neg c7] at H
          have c7b0:decide (x24_3<(l0.length:Int))=false:=zbj c7
          clear c7;have H':=zad H
          clear H;go_wp2
          go_roundg k3
          case measure=>have:=HK1.out;have:=HK2.out;have:=HK3.out;omega
          case rel=>exact ⟨(x5_3),(wrap64 (x19_2+1)),(taad),H',⟨tacg⟩,⟨taaz⟩,⟨taab⟩⟩
      ·rw [if_neg c6] at H
       have c6b0:decide (x19_2<(l0.length:Int))=false:=zbj c6
       clear c6;have H':=zad H
       clear H;go_wp2
       go_roundg k2
       case measure=>have:=HK1.out;have:=HK2.out;omega
       case rel=>exact ⟨(x5_2),(wrap64 (x14_1+1)),(taad),H',⟨taao⟩,⟨taaz⟩,⟨taab⟩⟩
   ·rw [if_neg c5] at H
    have c5b0:decide (x14_1<(l0.length:Int))=false:=zbj c5
    clear c5;obtain rfl:=zbe H
    go_wp2
    go_ret
    exact ⟨_,taai,taaz,taab⟩
end Go.Proofs.YtmfpgimblifleaaGreat.A
