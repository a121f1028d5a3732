/- What the law FnCarriedLists reaches, part 3: Lean functions with the same answers as the Go functions, the proofs that the Go code comes to these answers, and lemmas about them; no condition beyond those that each theorem names. -/
import Derived.Test.YtmfpgimblifleaaGreatCFnCarriedListsw1
import Derived.Lib.SliceRun
import Derived.Shelf.SlSortCmp.NoneTotal
import Derived.Test.YtmfpgimblifleaaGreatCFnCarriedLists1
import Derived.Test.YtmfpgimblifleaaGreatCFnCarriedLists2
set_option linter.unusedVariables false
set_option linter.unusedSimpArgs false
set_option maxHeartbeats 8000000
set_option maxRecDepth 100000
namespace Go.Proofs.YtmfpgimblifleaaGreat.A
open Go.RowKit Go.Proofs.YtmfpgimblifleaaGreatW.PrintWords Go.Proofs.YtmfpgimblifleaaGreatW.PrintLast Go.Proofs.YtmfpgimblifleaaGreatW.PrintMore
attribute [local go_sem] max2_int min2_int max_two min_two max_three min_three max_four min_four
def spec_doGift.l0:Nat→Int→Int→Int→Int→Int→List (List Int)→Int→Option ((List (List Int)))
 | 0,_,_,_,_,_,_,_=>none
 | k+1,x0,x1,x2,x3,x4,x11,x12=>if x12<x0 then (if 0≤x12 then (if x12<(x11.length:Int) then (if x12<((rd_L2 x11 x12).length:Int) then (spec_doGift.l0 k x0 x1 x2 x3 x4 (x11.set (x12:Int).toNat ((rd_L2 x11 x12).set (x12:Int).toNat x3)) (wrap64 (x12+1))) else (none)) else (none)) else (none)) else (if 0≤x1 then (if x1<(x11.length:Int) then (if x1<((rd_L2 x11 x1).length:Int) then ((some (x11.set (x1:Int).toNat ((rd_L2 x11 x1).set (x1:Int).toNat (wrap64 (x3 - x4))):List (List Int))).bind fun y213=>(if 0≤x2 then (if x2<(x11.length:Int) then (if x2<((rd_L2 y213 x2).length:Int) then ((some (y213.set (x2:Int).toNat ((rd_L2 y213 x2).set (x2:Int).toNat (wrap64 (x3 - x4))):List (List Int))).bind fun y217=>(if x2<((rd_L2 y217 x1).length:Int) then ((some (y217.set (x1:Int).toNat ((rd_L2 y217 x1).set (x2:Int).toNat x4):List (List Int))).bind fun y221=>(if x1<((rd_L2 y221 x2).length:Int) then (some (y221.set (x2:Int).toNat ((rd_L2 y221 x2).set (x1:Int).toNat x4))) else (none))) else (none))) else (none)) else (none)) else (none))) else (none)) else (none)) else (none))
def spec_doGift.f (k:Nat) (a0:Int) (a1:Int) (a2:Int) (a3:Int) (a4:Int):Option ((List (List Int))):=(spec_doEmpty.f k a0).bind fun t203=>(spec_doGift.l0 k a0 a1 a2 a3 a4 t203 0)
theorem spec_doGift.calls (k:Nat) (a0:Int) (a1:Int) (a2:Int) (a3:Int) (a4:Int) (r:List (List Int)) (w:World) (h:spec_doGift.f k a0 a1 a2 a3 a4=some r) :
 Calls Tryz.prog 45 #[.int .i64 a0,.int .i64 a1,.int .i64 a2,.int .i64 a3,.int .i64 a4] w fun e w'=>∃ v0_:Value,e = .returned (v0_)∧Kd.S (Kd.slice 3 (Kd.int .i64)) 25 w' w.heap.size (fun _=>True) v0_ r∧Below w.heap.size w w':=by
 have HB:=zad (Below.refl w.heap.size w)
 have H:((spec_doEmpty.f k a0).bind fun t203=>(spec_doGift.l0 k a0 a1 a2 a3 a4 t203 0))=some r:=h
 clear h;replace H:=zay.mp H;obtain ⟨t203,A60,H⟩:=H
 replace H:(spec_doGift.l0 k a0 a1 a2 a3 a4 t203 0)=some r:=H
 have A6:=zad A60;clear A60;have H':=zad H
 clear H;go_enter Tryz.func45,Tryz.ntmps45
 go_wp2_with (first | ((with_reducible refine zbh (f:=42) rfl ?_);refine zbn (some 14) rfl rfl Tryz.func42 (by kernel_rfl) rfl #[.int .i64 a0] rfl (taae) ?_;(with_reducible refine (spec_doEmpty.calls k a0 t203 _ A6.out).mono ?_);rintro e w7 ⟨v204,rfl,ho0,hb⟩;refine ⟨_,rfl,?_⟩;have n0_:=zad (Kd.S_lower ho0 (zbk (taab)));have n1_:=zad (zbg (taab) hb);clear HB;have HO205:=n0_;have HB:=n1_;clear n0_ n1_;(try clear hb);(try clear hb2);(try clear hk);(try clear hi);(try clear ho0)))
 go_loopg [12] k (fun kq v12 w'=>∃ (x11_1:List (List Int)) (x12_1:Int),v12 = .int .i64 x12_1∧Aside0 (spec_doGift.l0 kq a0 a1 a2 a3 a4 x11_1 x12_1=some r)∧Aside0 (kq≤k)∧Aside0 (Kd.S (Kd.slice 3 (Kd.int .i64)) 25 w' w.heap.size (fun _=>True) v204 x11_1)∧Aside0 (Below w.heap.size w w'))
 case atStart=>exact ⟨(t203),(0),(taad),H',⟨zcf _⟩,⟨by (with_reducible repeat (first | apply Kd.S_alloc | apply Kd.S_drewN | apply Kd.S_drew));exact HO205.out⟩,⟨taab⟩⟩
 case round =>
  clear H'
  try clear p2
  try clear c4
  obtain ⟨x11_1,x12_1,rfl,HA,HK1,HO_11,HB⟩:=hrel
  cases gk with
  | zero=>exact absurd HA.out (by simp [spec_doGift.l0])
  | succ k1 =>
   have H:=HA.out
   clear HA;simp only [spec_doGift.l0] at H
   by_cases c8:x12_1<a0
   ·rw [if_pos c8] at H
    have c8b0:decide (x12_1<a0)=true:=zba c8
    clear c8;by_cases c9:0≤x12_1
    ·rw [if_pos c9] at H
     have c9b0:decide (0≤x12_1)=true:=zba c9
     clear c9;by_cases c10:x12_1<(x11_1.length:Int)
     ·rw [if_pos c10] at H
      have c10b0:decide (x12_1<(x11_1.length:Int))=true:=zba c10
      clear c10;by_cases c11:x12_1<((rd_L2 x11_1 x12_1).length:Int)
      ·rw [if_pos c11] at H
       have c11b0:decide (x12_1<((rd_L2 x11_1 x12_1).length:Int))=true:=zba c11
       clear c11;obtain ⟨y207,hy207⟩:∃ y_:List Int,y_=((rd_L2 x11_1 x12_1).set (x12_1:Int).toNat a3):=⟨_,rfl⟩
       replace H:(spec_doGift.l0 k1 a0 a1 a2 a3 a4 (x11_1.set (x12_1:Int).toNat y207) (wrap64 (x12_1+1)))=some r:=by first | (rw [hy207];with_reducible exact H) | (have H2_:=(zbd _ _).symm.trans H;rw [hy207];with_reducible exact H2_) | (have H2_:=(zbd _ _).symm.trans H;with_reducible exact H2_) | with_reducible exact H | (rw [hy207];exact H) | exact H
       have Ny207:=zad hy207;clear hy207;obtain ⟨y209,hy209⟩:∃ y_:List (List Int),y_=(x11_1.set (x12_1:Int).toNat y207):=⟨_,rfl⟩
       replace H:(spec_doGift.l0 k1 a0 a1 a2 a3 a4 y209 (wrap64 (x12_1+1)))=some r:=by first | (rw [hy209];with_reducible exact H) | (have H2_:=(zbd _ _).symm.trans H;rw [hy209];with_reducible exact H2_) | (have H2_:=(zbd _ _).symm.trans H;with_reducible exact H2_) | with_reducible exact H | (rw [hy209];exact H) | exact H
       have Ny209:=zad hy209;clear hy209;have H':=zad H
       clear H;obtain ⟨Ao13,co13,eo13⟩:=Kd.S_slice HO_11.out
       subst eo13;have p206:0≤(x12_1:Int):=zas (taaa)
       have q206:x12_1<(x11_1.length:Int):=zas (taaa)
       obtain ⟨ad206,A206_0,c206_0,e206,hx206_0,hl206_0,hi206_0⟩:=at_L2 (Kd.S_reads' HO_11.out).2.2 x12_1 p206 q206
       cases e206
       obtain ⟨ce206,hce206,hMe206,hcc206⟩:=Kd.S_get HO_11.out [] x12_1 p206 (by first | exact q206 | exact zas (taaa) | (have e_:=(Kd.S_reads' HO_11.out).1;omega))
       obtain ⟨ve206_0,rfl,ge206_0⟩:=hMe206
       have hv206_0:=hcc206 0 _ rfl
       rw [Nat.add_zero,show ((Kd.slice 3 (Kd.int .i64))).sz=1 from rfl,Nat.mul_one] at hv206_0
       replace hv206_0:=zbe (hv206_0.symm.trans hx206_0)
       rw [hv206_0] at ge206_0
       have HL206_0:=zad (show Kd.R (Kd.int .i64) 3 _ _ _ _ (rd_L2 x11_1 x12_1) from ge206_0)
       clear hv206_0 ge206_0;have HX206_0:=zad hx206_0;clear hcc206 hce206;have HR206_0:=zad hi206_0;have HC206_0:=zad hl206_0;clear hi206_0 hl206_0;replace p206:=eq_true p206
       replace q206:=eq_true q206
       have p12:0≤(x12_1:Int):=zas (taaa)
       have q12:(x12_1:Int)<(((rd_L2 x11_1 x12_1).length:Int):Int):=zas (taaa)
       obtain ⟨go12,co12,eo12,gb12,gl12,cl12,HG12⟩:=Kd.R_form HL206_0.out (by omega)
       (first | cases eo12 | (injection eo12 with ea_ en_ ec_;(first | subst ea_ | (injection ea_ with ea_;subst ea_));subst ec_;clear en_))
       have GB12:=zad gb12;have GG12:=zad HG12;clear gb12 gl12 HG12;obtain ⟨hx12_0,hf12_0⟩:=Kd.R_celln 0 HL206_0.out (x12_1:Int) p12 q12
       replace p12:=eq_true p12
       replace q12:=eq_true q12
       have hq14:(x12_1:Int)<(x11_1.length:Int):=(by have h_:(x12_1:Int)<((x11_1.length:Int):Int):=zas (taaa);first | exact h_ | (have e_:=(Kd.S_reads' HO_11.out).1;omega) | simpa only [List.length_set,List.length_set] using h_)
       obtain ⟨oki14,ce14,hcl14,hM14,hcc14,hok14,hbk14⟩:=Kd.S_borrow HO_11.out [] (x12_1:Int) (zas (taaa)) (by first | exact hq14 | (have e_:=(Kd.S_reads' HO_11.out).1;omega))
       obtain ⟨ve14_0,rfl,ge14_0⟩:=hM14
       have hv14:=hcc14 0 _ rfl
       rw [Nat.add_zero,show ((Kd.slice 3 (Kd.int .i64))).sz=1 from rfl,Nat.mul_one] at hv14
       replace hv14:=zbe (hv14.symm.trans HX206_0.out)
       subst hv14;clear hcc14 hcl14;replace ge14_0:=(show Kd.R (Kd.int .i64) 3 _ _ _ _ (rd_L2 x11_1 x12_1) from ge14_0)
       have HP14:=Kd.R_putg ge14_0 (x12_1:Int) a3
       go_wp2_with (first | ((with_reducible refine gate_store (t:=3) (p:=26) rfl ?_);refine store_event (t:=3) (p:=26) (v := ?vo_w15) (w1:=(wr.setCell ⟨go12,(x12_1:Int).toNat,none⟩ (.int .i64 a3))) ?hg ?ho ?hn ?hr ?_;(case ho=>rfl);(case hg=>rfl);(case hn=>rfl);(case hr=>first | (go_simp;done) | (go_simp;rfl));intro w15 hw;have hg:wr.grownBy w15 (some go12):=(by rw [hw];exact HP14.2);have hz_:Kd.R (Kd.int .i64) 3 w15 w.heap.size oki14 (.slice (some ⟨go12,0,none⟩) (rd_L2 x11_1 x12_1).length c206_0) y207:=(by rw [hw,Ny207.out];exact HP14.1);have hp_:Kd.S (Kd.slice 3 (Kd.int .i64)) 25 w15 w.heap.size (fun _=>True) (.slice (some ad206) x11_1.length co13) y209:=(by rw [Ny209.out];exact hbk14 hg (fun k_ e_=>by injection e_ with e_;subst e_;exact ge14_0.1 _ rfl) (Kd.M_row hz_));have hm_:=zbq hz_ hok14;clear HP14 hbk14;have n0_:=zad (hp_);have n1_:=zad ((by rw [hw];exact zah (HB.out) GB12.out:Below w.heap.size w w15));have n2_:=zad (hm_);have n3_:=zad ((zbf hm_).2.1);clear HO_11 HB HL206_0;have HO_11:=n0_;have HB:=n1_;have HL226:=n2_;have HC208:=n3_;clear n0_ n1_ n2_ n3_ hg hw hp_ hz_ hm_ hok14))
       go_roundg k1
       case measure=>have:=HK1.out;omega
       case rel=>exact ⟨(y209),(wrap64 (x12_1+1)),(taad),H',⟨taaq⟩,⟨tadu⟩,⟨taab⟩⟩
      ·rw [if_neg c11] at H
       exact absurd H (taac)
     ·rw [if_neg c10] at H
      exact absurd H (taac)
    ·rw [if_neg c9] at H
     exact absurd H (taac)
   ·rw [if_neg c8] at H
    have c8b0:decide (x12_1<a0)=false:=zbj c8
    clear c8;by_cases c16:0≤a1
    ·rw [if_pos c16] at H
     have c16b0:decide (0≤a1)=true:=zba c16
     clear c16;by_cases c17:a1<(x11_1.length:Int)
     ·rw [if_pos c17] at H
      have c17b0:decide (a1<(x11_1.length:Int))=true:=zba c17
      clear c17;by_cases c18:a1<((rd_L2 x11_1 a1).length:Int)
      ·rw [if_pos c18] at H
       have c18b0:decide (a1<((rd_L2 x11_1 a1).length:Int))=true:=zba c18
       clear c18;obtain ⟨y211,hy211⟩:∃ y_:List Int,y_=((rd_L2 x11_1 a1).set (a1:Int).toNat (wrap64 (a3 - a4))):=⟨_,rfl⟩
       replace H:((some (x11_1.set (a1:Int).toNat y211:List (List Int))).bind fun y213=>(if 0≤a2 then (if a2<(x11_1.length:Int) then (if a2<((rd_L2 y213 a2).length:Int) then ((some (y213.set (a2:Int).toNat ((rd_L2 y213 a2).set (a2:Int).toNat (wrap64 (a3 - a4))):List (List Int))).bind fun y217=>(if a2<((rd_L2 y217 a1).length:Int) then ((some (y217.set (a1:Int).toNat ((rd_L2 y217 a1).set (a2:Int).toNat a4):List (List Int))).bind fun y221=>(if a1<((rd_L2 y221 a2).length:Int) then (some (y221.set (a2:Int).toNat ((rd_L2 y221 a2).set (a1:Int).toNat a4))) else (none))) else (none))) else (none)) else (none)) else (none)))=some r:=by first | (rw [hy211];with_reducible exact H) | (have H2_:=(zbd _ _).symm.trans H;rw [hy211];with_reducible exact H2_) | (have H2_:=(zbd _ _).symm.trans H;with_reducible exact H2_) | with_reducible exact H | (rw [hy211];exact H) | exact H
       have Ny211:=zad hy211;clear hy211;obtain ⟨y213,hy213⟩:∃ y_:List (List Int),y_=(x11_1.set (a1:Int).toNat y211):=⟨_,rfl⟩
       replace H:(if 0≤a2 then (if a2<(x11_1.length:Int) then (if a2<((rd_L2 y213 a2).length:Int) then ((some (y213.set (a2:Int).toNat ((rd_L2 y213 a2).set (a2:Int).toNat (wrap64 (a3 - a4))):List (List Int))).bind fun y217=>(if a2<((rd_L2 y217 a1).length:Int) then ((some (y217.set (a1:Int).toNat ((rd_L2 y217 a1).set (a2:Int).toNat a4):List (List Int))).bind fun y221=>(if a1<((rd_L2 y221 a2).length:Int) then (some (y221.set (a2:Int).toNat ((rd_L2 y221 a2).set (a1:Int).toNat a4))) else (none))) else (none))) else (none)) else (none)) else (none))=some r:=by first | (rw [hy213];with_reducible exact H) | (have H2_:=(zbd _ _).symm.trans H;rw [hy213];with_reducible exact H2_) | (have H2_:=(zbd _ _).symm.trans H;with_reducible exact H2_) | with_reducible exact H | (rw [hy213];exact H) | exact H
       have Ny213:=zad hy213;clear hy213;by_cases c20:0≤a2
       ·rw [if_pos c20] at H
        have c20b0:decide (0≤a2)=true:=zba c20
        clear c20;by_cases c21:a2<(x11_1.length:Int)
        ·rw [if_pos c21] at H
         have c21b0:decide (a2<(x11_1.length:Int))=true:=zba c21
         clear c21;by_cases c22:a2<((rd_L2 y213 a2).length:Int)
         ·rw [if_pos c22] at H
          have c22b0:decide (a2<((rd_L2 y213 a2).length:Int))=true:=zba c22
          clear c22;obtain ⟨y215,hy215⟩:∃ y_:List Int,y_=((rd_L2 y213 a2).set (a2:Int).toNat (wrap64 (a3 - a4))):=⟨_,rfl⟩
          replace H:((some (y213.set (a2:Int).toNat y215:List (List Int))).bind fun y217=>(if a2<((rd_L2 y217 a1).length:Int) then ((some (y217.set (a1:Int).toNat ((rd_L2 y217 a1).set (a2:Int).toNat a4):List (List Int))).bind fun y221=>(if a1<((rd_L2 y221 a2).length:Int) then (some (y221.set (a2:Int).toNat ((rd_L2 y221 a2).set (a1:Int).toNat a4))) else (none))) else (none)))=some r:=by first | (rw [hy215];with_reducible exact H) | (have H2_:=(zbd _ _).symm.trans H;rw [hy215];with_reducible exact H2_) | (have H2_:=(zbd _ _).symm.trans H;with_reducible exact H2_) | with_reducible exact H | (rw [hy215];exact H) | exact H
          have Ny215:=zad hy215;clear hy215;obtain ⟨y217,hy217⟩:∃ y_:List (List Int),y_=(y213.set (a2:Int).toNat y215):=⟨_,rfl⟩
          replace H:(if a2<((rd_L2 y217 a1).length:Int) then ((some (y217.set (a1:Int).toNat ((rd_L2 y217 a1).set (a2:Int).toNat a4):List (List Int))).bind fun y221=>(if a1<((rd_L2 y221 a2).length:Int) then (some (y221.set (a2:Int).toNat ((rd_L2 y221 a2).set (a1:Int).toNat a4))) else (none))) else (none))=some r:=by first | (rw [hy217];with_reducible exact H) | (have H2_:=(zbd _ _).symm.trans H;rw [hy217];with_reducible exact H2_) | (have H2_:=(zbd _ _).symm.trans H;with_reducible exact H2_) | with_reducible exact H | (rw [hy217];exact H) | exact H
          have Ny217:=zad hy217;clear hy217;by_cases c24:a2<((rd_L2 y217 a1).length:Int)
          ·rw [if_pos c24] at H
           have c24b0:decide (a2<((rd_L2 y217 a1).length:Int))=true:=zba c24
           clear c24;obtain ⟨y219,hy219⟩:∃ y_:List Int,y_=((rd_L2 y217 a1).set (a2:Int).toNat a4):=⟨_,rfl⟩
           replace H:((some (y217.set (a1:Int).toNat y219:List (List Int))).bind fun y221=>(if a1<((rd_L2 y221 a2).length:Int) then (some (y221.set (a2:Int).toNat ((rd_L2 y221 a2).set (a1:Int).toNat a4))) else (none)))=some r:=by first | (rw [hy219];with_reducible exact H) | (have H2_:=(zbd _ _).symm.trans H;rw [hy219];with_reducible exact H2_) | (have H2_:=(zbd _ _).symm.trans H;with_reducible exact H2_) | with_reducible exact H | (rw [hy219];exact H) | exact H
           have Ny219:=zad hy219;clear hy219;obtain ⟨y221,hy221⟩:∃ y_:List (List Int),y_=(y217.set (a1:Int).toNat y219):=⟨_,rfl⟩
           replace H:(if a1<((rd_L2 y221 a2).length:Int) then (some (y221.set (a2:Int).toNat ((rd_L2 y221 a2).set (a1:Int).toNat a4))) else (none))=some r:=by first | (rw [hy221];with_reducible exact H) | (have H2_:=(zbd _ _).symm.trans H;rw [hy221];with_reducible exact H2_) | (have H2_:=(zbd _ _).symm.trans H;with_reducible exact H2_) | with_reducible exact H | (rw [hy221];exact H) | exact H
           have Ny221:=zad hy221;clear hy221;by_cases c26:a1<((rd_L2 y221 a2).length:Int)
           ·rw [if_pos c26] at H
            have c26b0:decide (a1<((rd_L2 y221 a2).length:Int))=true:=zba c26
            clear c26;obtain ⟨y223,hy223⟩:∃ y_:List Int,y_=((rd_L2 y221 a2).set (a1:Int).toNat a4):=⟨_,rfl⟩
            replace H:(some (y221.set (a2:Int).toNat y223))=some r:=by first | (rw [hy223];with_reducible exact H) | (have H2_:=(zbd _ _).symm.trans H;rw [hy223];with_reducible exact H2_) | (have H2_:=(zbd _ _).symm.trans H;with_reducible exact H2_) | with_reducible exact H | (rw [hy223];exact H) | exact H
            have Ny223:=zad hy223;clear hy223;obtain ⟨y225,hy225⟩:∃ y_:List (List Int),y_=(y221.set (a2:Int).toNat y223):=⟨_,rfl⟩
            replace H:(some y225)=some r:=by first | (rw [hy225];with_reducible exact H) | (have H2_:=(zbd _ _).symm.trans H;rw [hy225];with_reducible exact H2_) | (have H2_:=(zbd _ _).symm.trans H;with_reducible exact H2_) | with_reducible exact H | (rw [hy225];exact H) | exact H
            have Ny225:=zad hy225;clear hy225;obtain rfl:=zbe H
            obtain ⟨Ao28,co28,eo28⟩:=Kd.S_slice HO_11.out
            subst eo28;have p210:0≤(a1:Int):=zas (taaa)
            have q210:a1<(x11_1.length:Int):=zas (taaa)
            obtain ⟨ad210,A210_0,c210_0,e210,hx210_0,hl210_0,hi210_0⟩:=at_L2 (Kd.S_reads' HO_11.out).2.2 a1 p210 q210
            cases e210
            obtain ⟨ce210,hce210,hMe210,hcc210⟩:=Kd.S_get HO_11.out [] a1 p210 (by first | exact q210 | exact zas (taaa) | (have e_:=(Kd.S_reads' HO_11.out).1;omega))
            obtain ⟨ve210_0,rfl,ge210_0⟩:=hMe210
            have hv210_0:=hcc210 0 _ rfl
            rw [Nat.add_zero,show ((Kd.slice 3 (Kd.int .i64))).sz=1 from rfl,Nat.mul_one] at hv210_0
            replace hv210_0:=zbe (hv210_0.symm.trans hx210_0)
            rw [hv210_0] at ge210_0
            have HL210_0:=zad (show Kd.R (Kd.int .i64) 3 _ _ _ _ (rd_L2 x11_1 a1) from ge210_0)
            clear hv210_0 ge210_0;have HX210_0:=zad hx210_0;clear hcc210 hce210;have HR210_0:=zad hi210_0;have HC210_0:=zad hl210_0;clear hi210_0 hl210_0;replace p210:=eq_true p210
            replace q210:=eq_true q210
            have p19:0≤(a1:Int):=zas (taaa)
            have q19:(a1:Int)<(((rd_L2 x11_1 a1).length:Int):Int):=zas (taaa)
            obtain ⟨go19,co19,eo19,gb19,gl19,cl19,HG19⟩:=Kd.R_form HL210_0.out (by omega)
            (first | cases eo19 | (injection eo19 with ea_ en_ ec_;(first | subst ea_ | (injection ea_ with ea_;subst ea_));subst ec_;clear en_))
            have GB19:=zad gb19;have GG19:=zad HG19;clear gb19 gl19 HG19;obtain ⟨hx19_0,hf19_0⟩:=Kd.R_celln 0 HL210_0.out (a1:Int) p19 q19
            replace p19:=eq_true p19
            replace q19:=eq_true q19
            have hq29:(a1:Int)<(x11_1.length:Int):=(by have h_:(a1:Int)<((x11_1.length:Int):Int):=zas (taaa);first | exact h_ | (have e_:=(Kd.S_reads' HO_11.out).1;omega) | simpa only [List.length_set,List.length_set] using h_)
            obtain ⟨oki29,ce29,hcl29,hM29,hcc29,hok29,hbk29⟩:=Kd.S_borrow HO_11.out [] (a1:Int) (zas (taaa)) (by first | exact hq29 | (have e_:=(Kd.S_reads' HO_11.out).1;omega))
            obtain ⟨ve29_0,rfl,ge29_0⟩:=hM29
            have hv29:=hcc29 0 _ rfl
            rw [Nat.add_zero,show ((Kd.slice 3 (Kd.int .i64))).sz=1 from rfl,Nat.mul_one] at hv29
            replace hv29:=zbe (hv29.symm.trans HX210_0.out)
            subst hv29;clear hcc29 hcl29;replace ge29_0:=(show Kd.R (Kd.int .i64) 3 _ _ _ _ (rd_L2 x11_1 a1) from ge29_0)
            have HP29:=Kd.R_putg ge29_0 (a1:Int) (wrap64 (a3 - a4))
            go_wp2_with (first | ((with_reducible refine gate_store (t:=3) (p:=35) rfl ?_);refine store_event (t:=3) (p:=35) (v := ?vo_w30) (w1:=(wr.setCell ⟨go19,(a1:Int).toNat,none⟩ (.int .i64 (wrap64 (a3 - a4))))) ?hg ?ho ?hn ?hr ?_;(case ho=>rfl);(case hg=>rfl);(case hn=>rfl);(case hr=>first | (go_simp;done) | (go_simp;rfl));intro w30 hw;have hg:wr.grownBy w30 (some go19):=(by rw [hw];exact HP29.2);have hz_:Kd.R (Kd.int .i64) 3 w30 w.heap.size oki29 (.slice (some ⟨go19,0,none⟩) (rd_L2 x11_1 a1).length c210_0) y211:=(by rw [hw,Ny211.out];exact HP29.1);have hp_:Kd.S (Kd.slice 3 (Kd.int .i64)) 25 w30 w.heap.size (fun _=>True) (.slice (some ad210) x11_1.length co28) y213:=(by rw [Ny213.out];exact hbk29 hg (fun k_ e_=>by injection e_ with e_;subst e_;exact ge29_0.1 _ rfl) (Kd.M_row hz_));have hm_:=zbq hz_ hok29;clear HP29 hbk29;have n0_:=zad (hp_);have n1_:=zad ((by rw [hw];exact zah (HB.out) GB19.out:Below w.heap.size w w30));have n2_:=zad (hm_);have n3_:=zad ((zbf hm_).2.1);clear HO_11 HB HL210_0;have HO_11:=n0_;have HB:=n1_;have HL227:=n2_;have HC212:=n3_;clear n0_ n1_ n2_ n3_ hg hw hp_ hz_ hm_ hok29;have p214:0≤(a2:Int):=zas (taaa);have q214:a2<(y213.length:Int):=(by have h_:(a2:Int)<((x11_1.length:Int):Int):=zas (taaa);first | (have e_:=(Kd.S_reads' HO_11.out).1;omega) | simpa only [Ny213.out,List.length_set] using h_);have ql214:((a2:Int)<((x11_1.length:Int):Int))=True:=eq_true (zas (taaa));obtain ⟨ad214,A214_0,c214_0,e214,hx214_0,hl214_0,hi214_0⟩:=at_L2 (Kd.S_reads' HO_11.out).2.2 a2 p214 q214;obtain rfl:ad210=ad214:=(by injection e214);obtain ⟨ce214,hce214,hMe214,hcc214⟩:=Kd.S_get HO_11.out [] a2 p214 (by first | exact q214 | exact zas (taaa) | (have e_:=(Kd.S_reads' HO_11.out).1;omega));obtain ⟨ve214_0,rfl,ge214_0⟩:=hMe214;have hv214_0:=hcc214 0 _ rfl;rw [Nat.add_zero,show ((Kd.slice 3 (Kd.int .i64))).sz=1 from rfl,Nat.mul_one] at hv214_0;replace hv214_0:=zbe (hv214_0.symm.trans hx214_0);rw [hv214_0] at ge214_0;have HL214_0:=zad (show Kd.R (Kd.int .i64) 3 _ _ _ _ (rd_L2 y213 a2) from ge214_0);clear hv214_0 ge214_0;have HX214_0:=zad hx214_0;clear hcc214 hce214;have HR214_0:=zad hi214_0;have HC214_0:=zad hl214_0;clear hi214_0 hl214_0;replace p214:=eq_true p214;replace q214:=eq_true q214;have p23:0≤(a2:Int):=zas (taaa);have q23:(a2:Int)<(((rd_L2 y213 a2).length:Int):Int):=zas (taaa);obtain ⟨go23,co23,eo23,gb23,gl23,cl23,HG23⟩:=Kd.R_form HL214_0.out (by omega);(first | cases eo23 | (injection eo23 with ea_ en_ ec_;(first | subst ea_ | (injection ea_ with ea_;subst ea_));subst ec_;clear en_));have GB23:=zad gb23;have GG23:=zad HG23;clear gb23 gl23 HG23;obtain ⟨hx23_0,hf23_0⟩:=Kd.R_celln 0 HL214_0.out (a2:Int) p23 q23;replace p23:=eq_true p23;replace q23:=eq_true q23;have hq31:(a2:Int)<(y213.length:Int):=(by have h_:(a2:Int)<((x11_1.length:Int):Int):=zas (taaa);first | exact h_ | (have e_:=(Kd.S_reads' HO_11.out).1;omega) | simpa only [Ny213.out,List.length_set] using h_);obtain ⟨oki31,ce31,hcl31,hM31,hcc31,hok31,hbk31⟩:=Kd.S_borrow HO_11.out [] (a2:Int) (zas (taaa)) (by first | exact hq31 | (have e_:=(Kd.S_reads' HO_11.out).1;omega));obtain ⟨ve31_0,rfl,ge31_0⟩:=hM31;have hv31:=hcc31 0 _ rfl;rw [Nat.add_zero,show ((Kd.slice 3 (Kd.int .i64))).sz=1 from rfl,Nat.mul_one] at hv31;replace hv31:=zbe (hv31.symm.trans HX214_0.out);subst hv31;clear hcc31 hcl31;replace ge31_0:=(show Kd.R (Kd.int .i64) 3 _ _ _ _ (rd_L2 y213 a2) from ge31_0);have HP31:=Kd.R_putg ge31_0 (a2:Int) (wrap64 (a3 - a4))) | ((with_reducible refine gate_store (t:=3) (p:=44) rfl ?_);refine store_event (t:=3) (p:=44) (v := ?vo_w32) (w1:=(w30.setCell ⟨go23,(a2:Int).toNat,none⟩ (.int .i64 (wrap64 (a3 - a4))))) ?hg ?ho ?hn ?hr ?_;(case ho=>rfl);(case hg=>rfl);(case hn=>rfl);(case hr=>first | (go_simp;done) | (go_simp;rfl));intro w32 hw;have hg:w30.grownBy w32 (some go23):=(by rw [hw];exact HP31.2);have hz_:Kd.R (Kd.int .i64) 3 w32 w.heap.size oki31 (.slice (some ⟨go23,0,none⟩) (rd_L2 y213 a2).length c214_0) y215:=(by rw [hw,Ny215.out];exact HP31.1);have hp_:Kd.S (Kd.slice 3 (Kd.int .i64)) 25 w32 w.heap.size (fun _=>True) (.slice (some ad210) x11_1.length co28) y217:=(by rw [Ny217.out];exact hbk31 hg (fun k_ e_=>by injection e_ with e_;subst e_;exact ge31_0.1 _ rfl) (Kd.M_row hz_));have hm_:=zbq hz_ hok31;clear HP31 hbk31;have n0_:=zad (hp_);have n1_:=zad ((by rw [hw];exact zah (HB.out) GB23.out:Below w.heap.size w w32));have n2_:=zad (hm_);have n3_:=zad ((zbf hm_).2.1);clear HO_11 HB HL227 HL214_0;have HO_11:=n0_;have HB:=n1_;have HL228:=n2_;have HC216:=n3_;clear n0_ n1_ n2_ n3_ hg hw hp_ hz_ hm_ hok31;have p218:0≤(a1:Int):=zas (taaa);have q218:a1<(y217.length:Int):=(by have h_:(a1:Int)<((x11_1.length:Int):Int):=zas (taaa);first | (have e_:=(Kd.S_reads' HO_11.out).1;omega) | simpa only [Ny213.out,Ny217.out,List.length_set] using h_);have ql218:((a1:Int)<((x11_1.length:Int):Int))=True:=eq_true (zas (taaa));obtain ⟨ad218,A218_0,c218_0,e218,hx218_0,hl218_0,hi218_0⟩:=at_L2 (Kd.S_reads' HO_11.out).2.2 a1 p218 q218;obtain rfl:ad210=ad218:=(by injection e218);obtain ⟨ce218,hce218,hMe218,hcc218⟩:=Kd.S_get HO_11.out [] a1 p218 (by first | exact q218 | exact zas (taaa) | (have e_:=(Kd.S_reads' HO_11.out).1;omega));obtain ⟨ve218_0,rfl,ge218_0⟩:=hMe218;have hv218_0:=hcc218 0 _ rfl;rw [Nat.add_zero,show ((Kd.slice 3 (Kd.int .i64))).sz=1 from rfl,Nat.mul_one] at hv218_0;replace hv218_0:=zbe (hv218_0.symm.trans hx218_0);rw [hv218_0] at ge218_0;have HL218_0:=zad (show Kd.R (Kd.int .i64) 3 _ _ _ _ (rd_L2 y217 a1) from ge218_0);clear hv218_0 ge218_0;have HX218_0:=zad hx218_0;clear hcc218 hce218;have HR218_0:=zad hi218_0;have HC218_0:=zad hl218_0;clear hi218_0 hl218_0;replace p218:=eq_true p218;replace q218:=eq_true q218;have p25:0≤(a2:Int):=zas (taaa);have q25:(a2:Int)<(((rd_L2 y217 a1).length:Int):Int):=zas (taaa);obtain ⟨go25,co25,eo25,gb25,gl25,cl25,HG25⟩:=Kd.R_form HL218_0.out (by omega);(first | cases eo25 | (injection eo25 with ea_ en_ ec_;(first | subst ea_ | (injection ea_ with ea_;subst ea_));subst ec_;clear en_));have GB25:=zad gb25;have GG25:=zad HG25;clear gb25 gl25 HG25;obtain ⟨hx25_0,hf25_0⟩:=Kd.R_celln 0 HL218_0.out (a2:Int) p25 q25;replace p25:=eq_true p25;replace q25:=eq_true q25;have hq33:(a1:Int)<(y217.length:Int):=(by have h_:(a1:Int)<((x11_1.length:Int):Int):=zas (taaa);first | exact h_ | (have e_:=(Kd.S_reads' HO_11.out).1;omega) | simpa only [Ny213.out,Ny217.out,List.length_set] using h_);obtain ⟨oki33,ce33,hcl33,hM33,hcc33,hok33,hbk33⟩:=Kd.S_borrow HO_11.out [] (a1:Int) (zas (taaa)) (by first | exact hq33 | (have e_:=(Kd.S_reads' HO_11.out).1;omega));obtain ⟨ve33_0,rfl,ge33_0⟩:=hM33;have hv33:=hcc33 0 _ rfl;rw [Nat.add_zero,show ((Kd.slice 3 (Kd.int .i64))).sz=1 from rfl,Nat.mul_one] at hv33;replace hv33:=zbe (hv33.symm.trans HX218_0.out);subst hv33;clear hcc33 hcl33;replace ge33_0:=(show Kd.R (Kd.int .i64) 3 _ _ _ _ (rd_L2 y217 a1) from ge33_0);have HP33:=Kd.R_putg ge33_0 (a2:Int) a4) | ((with_reducible refine gate_store (t:=3) (p:=51) rfl ?_);refine store_event (t:=3) (p:=51) (v := ?vo_w34) (w1:=(w32.setCell ⟨go25,(a2:Int).toNat,none⟩ (.int .i64 a4))) ?hg ?ho ?hn ?hr ?_;(case ho=>rfl);(case hg=>rfl);(case hn=>rfl);(case hr=>first | (go_simp;done) | (go_simp;rfl));intro w34 hw;have hg:w32.grownBy w34 (some go25):=(by rw [hw];exact HP33.2);have hz_:Kd.R (Kd.int .i64) 3 w34 w.heap.size oki33 (.slice (some ⟨go25,0,none⟩) (rd_L2 y217 a1).length c218_0) y219:=(by rw [hw,Ny219.out];exact HP33.1);have hp_:Kd.S (Kd.slice 3 (Kd.int .i64)) 25 w34 w.heap.size (fun _=>True) (.slice (some ad210) x11_1.length co28) y221:=(by rw [Ny221.out];exact hbk33 hg (fun k_ e_=>by injection e_ with e_;subst e_;exact ge33_0.1 _ rfl) (Kd.M_row hz_));have hm_:=zbq hz_ hok33;clear HP33 hbk33;have n0_:=zad (hp_);have n1_:=zad ((by rw [hw];exact zah (HB.out) GB25.out:Below w.heap.size w w34));have n2_:=zad (hm_);have n3_:=zad ((zbf hm_).2.1);clear HO_11 HB HL228 HL218_0;have HO_11:=n0_;have HB:=n1_;have HL229:=n2_;have HC220:=n3_;clear n0_ n1_ n2_ n3_ hg hw hp_ hz_ hm_ hok33;have p222:0≤(a2:Int):=zas (taaa);have q222:a2<(y221.length:Int):=(by have h_:(a2:Int)<((x11_1.length:Int):Int):=zas (taaa);first | (have e_:=(Kd.S_reads' HO_11.out).1;omega) | simpa only [Ny213.out,Ny217.out,Ny221.out,List.length_set] using h_);have ql222:((a2:Int)<((x11_1.length:Int):Int))=True:=eq_true (zas (taaa));obtain ⟨ad222,A222_0,c222_0,e222,hx222_0,hl222_0,hi222_0⟩:=at_L2 (Kd.S_reads' HO_11.out).2.2 a2 p222 q222;obtain rfl:ad210=ad222:=(by injection e222);obtain ⟨ce222,hce222,hMe222,hcc222⟩:=Kd.S_get HO_11.out [] a2 p222 (by first | exact q222 | exact zas (taaa) | (have e_:=(Kd.S_reads' HO_11.out).1;omega));obtain ⟨ve222_0,rfl,ge222_0⟩:=hMe222;have hv222_0:=hcc222 0 _ rfl;rw [Nat.add_zero,show ((Kd.slice 3 (Kd.int .i64))).sz=1 from rfl,Nat.mul_one] at hv222_0;replace hv222_0:=zbe (hv222_0.symm.trans hx222_0);rw [hv222_0] at ge222_0;have HL222_0:=zad (show Kd.R (Kd.int .i64) 3 _ _ _ _ (rd_L2 y221 a2) from ge222_0);clear hv222_0 ge222_0;have HX222_0:=zad hx222_0;clear hcc222 hce222;have HR222_0:=zad hi222_0;have HC222_0:=zad hl222_0;clear hi222_0 hl222_0;replace p222:=eq_true p222;replace q222:=eq_true q222;have p27:0≤(a1:Int):=zas (taaa);have q27:(a1:Int)<(((rd_L2 y221 a2).length:Int):Int):=zas (taaa);obtain ⟨go27,co27,eo27,gb27,gl27,cl27,HG27⟩:=Kd.R_form HL222_0.out (by omega);(first | cases eo27 | (injection eo27 with ea_ en_ ec_;(first | subst ea_ | (injection ea_ with ea_;subst ea_));subst ec_;clear en_));have GB27:=zad gb27;have GG27:=zad HG27;clear gb27 gl27 HG27;obtain ⟨hx27_0,hf27_0⟩:=Kd.R_celln 0 HL222_0.out (a1:Int) p27 q27;replace p27:=eq_true p27;replace q27:=eq_true q27;have hq35:(a2:Int)<(y221.length:Int):=(by have h_:(a2:Int)<((x11_1.length:Int):Int):=zas (taaa);first | exact h_ | (have e_:=(Kd.S_reads' HO_11.out).1;omega) | simpa only [Ny213.out,Ny217.out,Ny221.out,List.length_set] using h_);obtain ⟨oki35,ce35,hcl35,hM35,hcc35,hok35,hbk35⟩:=Kd.S_borrow HO_11.out [] (a2:Int) (zas (taaa)) (by first | exact hq35 | (have e_:=(Kd.S_reads' HO_11.out).1;omega));obtain ⟨ve35_0,rfl,ge35_0⟩:=hM35;have hv35:=hcc35 0 _ rfl;rw [Nat.add_zero,show ((Kd.slice 3 (Kd.int .i64))).sz=1 from rfl,Nat.mul_one] at hv35;replace hv35:=zbe (hv35.symm.trans HX222_0.out);subst hv35;clear hcc35 hcl35;replace ge35_0:=(show Kd.R (Kd.int .i64) 3 _ _ _ _ (rd_L2 y221 a2) from ge35_0);have HP35:=Kd.R_putg ge35_0 (a1:Int) a4) | ((with_reducible refine gate_store (t:=3) (p:=58) rfl ?_);refine store_event (t:=3) (p:=58) (v := ?vo_w36) (w1:=(w34.setCell ⟨go27,(a1:Int).toNat,none⟩ (.int .i64 a4))) ?hg ?ho ?hn ?hr ?_;(case ho=>rfl);(case hg=>rfl);(case hn=>rfl);(case hr=>first | (go_simp;done) | (go_simp;rfl));intro w36 hw;have hg:w34.grownBy w36 (some go27):=(by rw [hw];exact HP35.2);have hz_:Kd.R (Kd.int .i64) 3 w36 w.heap.size oki35 (.slice (some ⟨go27,0,none⟩) (rd_L2 y221 a2).length c222_0) y223:=(by rw [hw,Ny223.out];exact HP35.1);have hp_:Kd.S (Kd.slice 3 (Kd.int .i64)) 25 w36 w.heap.size (fun _=>True) (.slice (some ad210) x11_1.length co28) y225:=(by rw [Ny225.out];exact hbk35 hg (fun k_ e_=>by injection e_ with e_;subst e_;exact ge35_0.1 _ rfl) (Kd.M_row hz_));have hm_:=zbq hz_ hok35;clear HP35 hbk35;have n0_:=zad (hp_);have n1_:=zad ((by rw [hw];exact zah (HB.out) GB27.out:Below w.heap.size w w36));have n2_:=zad (hm_);have n3_:=zad ((zbf hm_).2.1);clear HO_11 HB HL229 HL222_0;have HO_11:=n0_;have HB:=n1_;have HL230:=n2_;have HC224:=n3_;clear n0_ n1_ n2_ n3_ hg hw hp_ hz_ hm_ hok35))
            go_ret
            exact ⟨_,taai,tadu,taab⟩
           ·rw [if_neg c26] at H
            exact absurd H (taac)
          ·rw [if_neg c24] at H
           exact absurd H (taac)
         ·rw [if_neg c22] at H
          exact absurd H (taac)
        ·rw [if_neg c21] at H
         exact absurd H (taac)
       ·rw [if_neg c20] at H
        exact absurd H (taac)
      ·rw [if_neg c18] at H
       exact absurd H (taac)
     ·rw [if_neg c17] at H
      exact absurd H (taac)
    ·rw [if_neg c16] at H
     exact absurd H (taac)
mutual
def spec_doPlaces.l0:Nat→List Int→List Int→List Int→Int→Int→Option (List Int)
 | 0,_,_,_,_,_=>none
 | k+1,x0,x3,x9,x10,x11=>if x11<x10 then (if 0≤x11 then (if x11<(x9.length:Int) then (spec_doPlaces.l1 k x0 x3 x11 (rd x9 x11) 0 x9 x10 x11 x0 (x0.length:Int) 0) else (none)) else (none)) else (some x3)
def spec_doPlaces.l1:Nat→List Int→List Int→Int→Int→Int→List Int→Int→Int→List Int→Int→Int→Option (List Int)
 | 0,_,_,_,_,_,_,_,_,_,_,_=>none
 | k+1,x0,x3,x4,x5,x6,x9,x10,x11,x16,x17,x18=>if x18<x17 then (if 0≤x18 then (if x18<(x16.length:Int) then (if (rd x16 x18)>x5 then (spec_doPlaces.l1 k x0 x3 x4 x5 (wrap64 (x6+1)) x9 x10 x11 x16 x17 (wrap64 (x18+1))) else (if (rd x16 x18)=x5 then (if x18<x4 then (spec_doPlaces.l1 k x0 x3 x4 x5 (wrap64 (x6+1)) x9 x10 x11 x16 x17 (wrap64 (x18+1))) else (spec_doPlaces.l1 k x0 x3 x4 x5 x6 x9 x10 x11 x16 x17 (wrap64 (x18+1)))) else (spec_doPlaces.l1 k x0 x3 x4 x5 x6 x9 x10 x11 x16 x17 (wrap64 (x18+1))))) else (none)) else (none)) else (if x3.length<17592186044416 then (spec_doPlaces.l0 k x0 (x3 ++ [x6]) x9 x10 (wrap64 (x11+1))) else (none))
end
def spec_doPlaces.f (k:Nat) (l0:List Int):Option (List Int):=spec_doPlaces.l0 k l0 ([]:List Int) l0 (l0.length:Int) 0
theorem spec_doPlaces.calls (k:Nat) (A0:Option Addr) (c0:Nat) (l0:List Int) (r:List Int) (w:World) (hr0:Kd.C (Kd.int .i64) w A0 l0.length l0) (hc0:l0.length≤c0) (h:spec_doPlaces.f k l0=some r) :
 Calls Tryz.prog 46 #[.slice A0 l0.length c0] w fun e w'=>∃ v0_:Value,e = .returned (v0_)∧Kd.R (Kd.int .i64) 3 w' w.heap.size (fun _=>True) v0_ r∧Below w.heap.size w w':=by
 have HR0:=zad hr0;have HC0:=zad hc0;clear hr0 hc0;have HB:=zad (Below.refl w.heap.size w)
 have H:(spec_doPlaces.l0 k l0 ([]:List Int) l0 (l0.length:Int) 0)=some r:=h
 clear h;have H':=zad H
 clear H;go_enter Tryz.func46,Tryz.ntmps46
 go_wp2
 go_loopg [3,11] k (fun kq v3 v11 w'=>∃ (x3_1:List Int) (x11_1:Int),v11 = .int .i64 x11_1∧Aside0 (spec_doPlaces.l0 kq l0 x3_1 l0 (l0.length:Int) x11_1=some r)∧Aside0 (kq≤k)∧Aside0 (Kd.R (Kd.int .i64) 3 w' w.heap.size (fun _=>True) v3 x3_1)∧Aside0 (Below w.heap.size w w'))
 case atStart=>exact ⟨(([]:List Int)),(0),(taad),H',⟨zcf _⟩,⟨taax⟩,⟨taab⟩⟩
 case round =>
  clear H'
  obtain ⟨x3_1,x11_1,rfl,HA,HK1,HO_3,HB⟩:=hrel
  cases gk with
  | zero=>exact absurd HA.out (by simp [spec_doPlaces.l0])
  | succ k1 =>
   have H:=HA.out
   clear HA;simp only [spec_doPlaces.l0] at H
   by_cases c2:x11_1<(l0.length:Int)
   ·rw [if_pos c2] at H
    have c2b0:decide (x11_1<(l0.length:Int))=true:=zba c2
    clear c2;by_cases c3:0≤x11_1
    ·rw [if_pos c3] at H
     have c3b0:decide (0≤x11_1)=true:=zba c3
     clear c3;by_cases c4:x11_1<(l0.length:Int)
     ·rw [if_pos c4] at H
      have c4b0:decide (x11_1<(l0.length:Int))=true:=zba c4
      clear c4;have H':=zad H
      clear H;have p231:0≤(x11_1:Int):=zas (taaa)
      have q231:x11_1<(l0.length:Int):=zas (taaa)
      obtain ⟨ad231,e231,hx231_0⟩:=zca HR0.out x11_1 p231 q231
      cases e231
      replace hx231_0:=(HB.out.cell (zaz w _ hx231_0)).trans hx231_0
      replace p231:=eq_true p231
      replace q231:=eq_true q231
      go_wp2
      go_loopg [6,18] k1 (fun kq v6 v18 w'=>∃ (x6_2:Int) (x18_2:Int),v6 = .int .i64 x6_2∧v18 = .int .i64 x18_2∧Aside0 (spec_doPlaces.l1 kq l0 x3_1 x11_1 (rd l0 x11_1) x6_2 l0 (l0.length:Int) x11_1 l0 (l0.length:Int) x18_2=some r)∧Aside0 (kq≤k1)∧Aside0 (Kd.R (Kd.int .i64) 3 w' w.heap.size (fun _=>True) u3 x3_1)∧Aside0 (Below w.heap.size w w'))
      case atStart=>exact ⟨(0),(0),(taad),(taad),H',⟨zcf _⟩,⟨taal⟩,⟨taab⟩⟩
      case round =>
       clear H'
       try clear c2
       try clear c2b0
       try clear p2
       try clear q2
       try clear hx2
       try clear c3
       try clear c3b0
       try clear c4
       try clear c4b0
       try clear hx231_0
       try clear p231
       try clear q231
       obtain ⟨x6_2,x18_2,rfl,rfl,HA,HK2,HO_3,HB⟩:=hrel
       cases gk with
       | zero=>exact absurd HA.out (by simp [spec_doPlaces.l1])
       | succ k2 =>
        have H:=HA.out
        clear HA;simp only [spec_doPlaces.l1] at H
        by_cases c5:x18_2<(l0.length:Int)
        ·rw [if_pos c5] at H
         have c5b0:decide (x18_2<(l0.length:Int))=true:=zba c5
         clear c5;by_cases c6:0≤x18_2
         ·rw [if_pos c6] at H
          have c6b0:decide (0≤x18_2)=true:=zba c6
          clear c6;by_cases c7:x18_2<(l0.length:Int)
          ·rw [if_pos c7] at H
           have c7b0:decide (x18_2<(l0.length:Int))=true:=zba c7
           clear c7;by_cases c8:(rd l0 x18_2)>(rd l0 x11_1)
           ·rw [if_pos c8] at H
            have c8b0:decide ((rd l0 x11_1)<(rd l0 x18_2))=true:=zba c8
            clear c8;have H':=zad H
            clear H;have p232:0≤(x18_2:Int):=zas (taaa)
            have q232:x18_2<(l0.length:Int):=zas (taaa)
            obtain ⟨ad232,e232,hx232_0⟩:=zca HR0.out x18_2 p232 q232
            obtain rfl:ad231=ad232:=(by injection e232)
            replace hx232_0:=(HB.out.cell (zaz w _ hx232_0)).trans hx232_0
            replace p232:=eq_true p232
            replace q232:=eq_true q232
            go_wp2
            go_roundg k2
            case measure=>have:=HK1.out;have:=HK2.out;omega
            case rel=>exact ⟨(wrap64 (x6_2+1)),(wrap64 (x18_2+1)),(taad),(taad),H',⟨taao⟩,⟨taal⟩,⟨taab⟩⟩
           ·rw [if_neg c8] at H
            have c8b0:decide ((rd l0 x11_1)<(rd l0 x18_2))=false:=zbj c8
            clear c8;by_cases c9:(rd l0 x18_2)=(rd l0 x11_1)
            ·rw [if_pos c9] at H
             have c9b0:((rd l0 x18_2) == (rd l0 x11_1))=true:=beq_iff_eq.mpr c9
             have c9b1:((rd l0 x18_2) != (rd l0 x11_1))=false:=bne_eq_false_iff_eq.mpr c9
             clear c9;by_cases c10:x18_2<x11_1
             ·rw [if_pos c10] at H
              have c10b0:decide (x18_2<x11_1)=true:=zba c10
              clear c10;have H':=zad H
              clear H;have p232:0≤(x18_2:Int):=zas (taaa)
              have q232:x18_2<(l0.length:Int):=zas (taaa)
              obtain ⟨ad232,e232,hx232_0⟩:=zca HR0.out x18_2 p232 q232
              obtain rfl:ad231=ad232:=(by injection e232)
              replace hx232_0:=(HB.out.cell (zaz w _ hx232_0)).trans hx232_0
              replace p232:=eq_true p232
              replace q232:=eq_true q232
              go_wp2
              go_roundg k2
              case measure=>have:=HK1.out;have:=HK2.out;omega
              case rel=>exact ⟨(wrap64 (x6_2+1)),(wrap64 (x18_2+1)),(taad),(taad),H',⟨taao⟩,⟨taal⟩,⟨taab⟩⟩
             ·rw [if_neg c10] at H
              have c10b0:decide (x18_2<x11_1)=false:=zbj c10
              clear c10;have H':=zad H
              clear H;have p232:0≤(x18_2:Int):=zas (taaa)
              have q232:x18_2<(l0.length:Int):=zas (taaa)
              obtain ⟨ad232,e232,hx232_0⟩:=zca HR0.out x18_2 p232 q232
              obtain rfl:ad231=ad232:=(by injection e232)
              replace hx232_0:=(HB.out.cell (zaz w _ hx232_0)).trans hx232_0
              replace p232:=eq_true p232
              replace q232:=eq_true q232
              go_wp2
              go_roundg k2
              case measure=>have:=HK1.out;have:=HK2.out;omega
              case rel=>exact ⟨(x6_2),(wrap64 (x18_2+1)),(taad),(taad),H',⟨taao⟩,⟨taal⟩,⟨taab⟩⟩
            ·rw [if_neg c9] at H
             have c9b0:((rd l0 x18_2) == (rd l0 x11_1))=false:=zbo.mpr c9
             have c9b1:((rd l0 x18_2) != (rd l0 x11_1))=true:=bne_iff_ne.mpr c9
             have H':=zad H
             clear H;have p232:0≤(x18_2:Int):=zas (taaa)
             have q232:x18_2<(l0.length:Int):=zas (taaa)
             obtain ⟨ad232,e232,hx232_0⟩:=zca HR0.out x18_2 p232 q232
             obtain rfl:ad231=ad232:=(by injection e232)
             replace hx232_0:=(HB.out.cell (zaz w _ hx232_0)).trans hx232_0
             replace p232:=eq_true p232
             replace q232:=eq_true q232
             go_wp2
             go_roundg k2
             case measure=>have:=HK1.out;have:=HK2.out;omega
             case rel=>exact ⟨(x6_2),(wrap64 (x18_2+1)),(taad),(taad),H',⟨taao⟩,⟨taal⟩,⟨taab⟩⟩
          ·rw [if_neg c7] at H
           exact absurd H (taac)
         ·rw [if_neg c6] at H
          exact absurd H (taac)
        ·rw [if_neg c5] at H
         have c5b0:decide (x18_2<(l0.length:Int))=false:=zbj c5
         clear c5;by_cases c11:x3_1.length<17592186044416
         ·rw [if_pos c11] at H
          have LMc11:=zad c11;clear c11;obtain ⟨y233,hy233⟩:∃ y_:List Int,y_=(x3_1 ++ [x6_2]):=⟨_,rfl⟩
          replace H:(spec_doPlaces.l0 k2 l0 y233 l0 (l0.length:Int) (wrap64 (x11_1+1)))=some r:=by first | (rw [hy233];with_reducible exact H) | (have H2_:=(zbd _ _).symm.trans H;rw [hy233];with_reducible exact H2_) | (have H2_:=(zbd _ _).symm.trans H;with_reducible exact H2_) | with_reducible exact H | (rw [hy233];exact H) | exact H
          have Ny233:=zad hy233;clear hy233;have H':=zad H
          clear H;go_wp2_with (first | ((with_reducible refine gate_builtin (b := .append) (xs:=#[.tmp 39,.tmp 41]) rfl ?_);at_builtin;refine Kd.R_append (Kd.int .i64) (w0:=w) w.heap.size rfl (.tmp 39) (.tmp 41) 25 3 (.int .i64 0) 8 rfl Tryz.underlying25 info3 rfl (by decide) (by omega) u3 x3_1 x6_2 [.int .i64 x6_2] (fun _=>True) (fun _=>False) rfl rfl ?aP (fun _ hk=>hk.elim) ?aF ?aO ?aB ?aS ?aL ?_;(case aP=>exact rfl);(case aB=>exact (taab));(case aF=>exact (fun _ _=>trivial));(case aO=>exact (taal));(case aS=>exact (zbk (taab)));(case aL=>have:=LMc11.out;omega);intro v234 w12 ho hb hg hat;rw [← Ny233.out] at ho;have n0_:=zad (hb);have n1_:=zad (ho);clear HB HO_3;have HB:=n0_;have HO235:=n1_;clear n0_ n1_ ho hb hg hat))
          go_roundg k2
          case measure=>have:=HK1.out;have:=HK2.out;omega
          case rel=>exact ⟨(y233),(wrap64 (x11_1+1)),(taad),H',⟨taao⟩,⟨by (with_reducible repeat (first | apply zai | apply zaj | apply zak));exact HO235.out⟩,⟨taab⟩⟩
         ·rw [if_neg c11] at H
          exact absurd H (taac)
     ·rw [if_neg c4] at H
      exact absurd H (taac)
    ·rw [if_neg c3] at H
     exact absurd H (taac)
   ·rw [if_neg c2] at H
    have c2b0:decide (x11_1<(l0.length:Int))=false:=zbj c2
    clear c2;obtain rfl:=zbe H
    go_wp2
    go_ret
    exact ⟨_,taai,taal,taab⟩
def spec_doGcd.f:Nat→Int→Int→Option (Int)
 | 0,_,_=>none
 | k+1,a0,a1=>if a1=0 then (some a0) else ((spec_doGcd.f k a1 (Int.tmod a0 a1)).bind fun t236=>(some t236))
theorem spec_doGcd.calls (k:Nat):∀ (a0:Int) (a1:Int) (r:Int) (w:World) (h:spec_doGcd.f k a0 a1=some r),
 Calls Tryz.prog 47 #[.int .i64 a0,.int .i64 a1] w fun e w'=>e = .returned (.int .i64 r)∧Drawn0 w w':=by
 induction k using Nat.strongRecOn with
 | _ k ih =>
 intro a0 a1 r w h
 cases k with
 | zero=>exact absurd h (by simp [spec_doGcd.f])
 | succ k =>
 simp only [spec_doGcd.f] at h
 have H:(if a1=0 then (some a0) else ((spec_doGcd.f k a1 (Int.tmod a0 a1)).bind fun t236=>(some t236)))=some r:=h
 clear h;by_cases c3:a1=0
 ·rw [if_pos c3] at H
  have c3b0:(a1 == 0)=true:=beq_iff_eq.mpr c3
  have c3b1:(a1 != 0)=false:=bne_eq_false_iff_eq.mpr c3
  clear c3;obtain rfl:=zbe H
  go_enter Tryz.func47,Tryz.ntmps47
  go_wp2
  go_ret
  exact ⟨taad,taah⟩
 ·rw [if_neg c3] at H
  have c3b0:(a1 == 0)=false:=zbo.mpr c3
  have c3b1:(a1 != 0)=true:=bne_iff_ne.mpr c3
  replace H:=zay.mp H;obtain ⟨t236,A40,H⟩:=H
  replace H:(some t236)=some r:=H
  have A4:=zad A40;clear A40;obtain rfl:=zbe H
  go_enter Tryz.func47,Tryz.ntmps47
  go_wp2_with (first | ((with_reducible refine zbh (f:=47) rfl ?_);refine zbn (some 12) rfl rfl Tryz.func47 (by kernel_rfl) rfl #[.int .i64 a1,.int .i64 (Int.tmod a0 a1)] rfl (taae) ?_;(with_reducible refine (ih k (by omega) a1 (Int.tmod a0 a1) t236 _ A4.out).mono ?_);rintro e w' ⟨rfl,⟨nd,rfl⟩⟩;refine ⟨_,rfl,?_⟩))
  go_ret
  exact ⟨taad,taah⟩
def spec_doGood.l0:Nat→List (List Int)→List (List Int)→Int→Int→Option (Bool)
 | 0,_,_,_,_=>none
 | k+1,x0,x5,x6,x7=>if x7<x6 then (if 0≤x7 then (if x7<(x5.length:Int) then (if ((rd_L2 x5 x7).length:Int)=(x0.length:Int) then ((spec_l1All.f k (rd_L2 x5 x7) 0 1000000).bind fun t238=>(if t238=true then (spec_doGood.l0 k x0 x5 x6 (wrap64 (x7+1))) else (some false))) else (some false)) else (none)) else (none)) else ((spec_l1In.f (x0.length:Int) 1 6).bind fun t239=>(some t239))
def spec_doGood.f (k:Nat) (l0:List (List Int)):Option (Bool):=spec_doGood.l0 k l0 l0 (l0.length:Int) 0
theorem spec_doGood.calls (k:Nat) (A0:Option Addr) (c0:Nat) (l0:List (List Int)) (r:Bool) (w:World) (hr0:Kd.C (Kd.slice 3 (Kd.int .i64)) w A0 l0.length l0) (hc0:l0.length≤c0) (h:spec_doGood.f k l0=some r) :
 Calls Tryz.prog 23 #[.slice A0 l0.length c0] w fun e w'=>e = .returned (.bool r)∧Drawn0 w w':=by
 have HR0:=zad hr0;have HC0:=zad hc0;clear hr0 hc0;have H:(spec_doGood.l0 k l0 l0 (l0.length:Int) 0)=some r:=h
 clear h;have H':=zad H
 clear H;go_enter Tryz.func23,Tryz.ntmps23
 go_wp2
 go_loopg [7] k (fun kq v7 w'=>∃ (x7_1:Int),v7 = .int .i64 x7_1∧Aside0 (spec_doGood.l0 kq l0 l0 (l0.length:Int) x7_1=some r)∧Aside0 (kq≤k)∧Drawn0 w w')
 case atStart=>exact ⟨(0),(taad),H',⟨zcf _⟩,taah⟩
 case round =>
  clear H'
  obtain ⟨x7_1,rfl,HA,HK1,⟨m1,rfl⟩⟩:=hrel
  cases gk with
  | zero=>exact absurd HA.out (by simp [spec_doGood.l0])
  | succ k1 =>
   have H:=HA.out
   clear HA;simp only [spec_doGood.l0] at H
   by_cases c2:x7_1<(l0.length:Int)
   ·rw [if_pos c2] at H
    have c2b0:decide (x7_1<(l0.length:Int))=true:=zba c2
    clear c2;by_cases c3:0≤x7_1
    ·rw [if_pos c3] at H
     have c3b0:decide (0≤x7_1)=true:=zba c3
     clear c3;by_cases c4:x7_1<(l0.length:Int)
     ·rw [if_pos c4] at H
      have c4b0:decide (x7_1<(l0.length:Int))=true:=zba c4
      clear c4;by_cases c5:((rd_L2 l0 x7_1).length:Int)=(l0.length:Int)
      ·rw [if_pos c5] at H
       have c5b0:(((rd_L2 l0 x7_1).length:Int) == (l0.length:Int))=true:=beq_iff_eq.mpr c5
       have c5b1:(((rd_L2 l0 x7_1).length:Int) != (l0.length:Int))=false:=bne_eq_false_iff_eq.mpr c5
       have c5b2:((rd_L2 l0 x7_1).length == l0.length)=true:=by first | simpa using c5 | (simp at c5 ⊢;omega)
       clear c5;replace H:=zay.mp H;obtain ⟨t238,A60,H⟩:=H
       replace H:(if t238=true then (spec_doGood.l0 k1 l0 l0 (l0.length:Int) (wrap64 (x7_1+1))) else (some false))=some r:=H
       have A6:=zad A60;clear A60;by_cases c7:t238=true
       ·subst c7
        have H1:(spec_doGood.l0 k1 l0 l0 (l0.length:Int) (wrap64 (x7_1+1)))=some r:=by rw [if_pos rfl] at H;exact H
        clear H;have H:=H1;clear H1;have H':=zad H
        clear H;have p237:0≤(x7_1:Int):=zas (taaa)
        have q237:x7_1<(l0.length:Int):=zas (taaa)
        obtain ⟨ad237,A237_0,c237_0,e237,hx237_0,hl237_0,hi237_0⟩:=at_L2 HR0.out x7_1 p237 q237
        cases e237
        have HR237_0:=zad hi237_0;have HC237_0:=zad hl237_0;clear hi237_0 hl237_0;replace p237:=eq_true p237
        replace q237:=eq_true q237
        go_wp2_with (first | (go_at_call 59;(with_reducible refine (spec_l1All.calls k1 _ _ (rd_L2 l0 x7_1) 0 1000000 true _ ?side1 ?side2 A6.out).mono ?_);(case side1=>exact tafz);(case side2=>exact HC237_0.out);rintro e w' ⟨rfl,⟨nd,rfl⟩⟩))
        go_roundg k1
        case measure=>have:=HK1.out;omega
        case rel=>exact ⟨(wrap64 (x7_1+1)),(taad),H',⟨taaq⟩,taah⟩
       ·replace c7:=zbi.mpr c7
        subst c7;have H1:(some false)=some r:=by rw [if_neg (show ¬ (false=true) by decide)] at H;exact H
        clear H;have H:=H1;clear H1;obtain rfl:=zbe H
        have p237:0≤(x7_1:Int):=zas (taaa)
        have q237:x7_1<(l0.length:Int):=zas (taaa)
        obtain ⟨ad237,A237_0,c237_0,e237,hx237_0,hl237_0,hi237_0⟩:=at_L2 HR0.out x7_1 p237 q237
        cases e237
        have HR237_0:=zad hi237_0;have HC237_0:=zad hl237_0;clear hi237_0 hl237_0;replace p237:=eq_true p237
        replace q237:=eq_true q237
        go_wp2_with (first | (go_at_call 59;(with_reducible refine (spec_l1All.calls k1 _ _ (rd_L2 l0 x7_1) 0 1000000 false _ ?side1 ?side2 A6.out).mono ?_);(case side1=>exact tafz);(case side2=>exact HC237_0.out);rintro e w' ⟨rfl,⟨nd,rfl⟩⟩))
        go_ret
        exact ⟨taad,taah⟩
      ·rw [if_neg c5] at H
       have c5b0:(((rd_L2 l0 x7_1).length:Int) == (l0.length:Int))=false:=zbo.mpr c5
       have c5b1:(((rd_L2 l0 x7_1).length:Int) != (l0.length:Int))=true:=bne_iff_ne.mpr c5
       have c5b2:((rd_L2 l0 x7_1).length == l0.length)=false:=by first | simpa using c5 | (simp at c5 ⊢;omega)
       obtain rfl:=zbe H
       have p237:0≤(x7_1:Int):=zas (taaa)
       have q237:x7_1<(l0.length:Int):=zas (taaa)
       obtain ⟨ad237,A237_0,c237_0,e237,hx237_0,hl237_0,hi237_0⟩:=at_L2 HR0.out x7_1 p237 q237
       cases e237
       have HR237_0:=zad hi237_0;have HC237_0:=zad hl237_0;clear hi237_0 hl237_0;replace p237:=eq_true p237
       replace q237:=eq_true q237
       go_wp2
       go_ret
       exact ⟨taad,taah⟩
     ·rw [if_neg c4] at H
      exact absurd H (taac)
    ·rw [if_neg c3] at H
     exact absurd H (taac)
   ·rw [if_neg c2] at H
    have c2b0:decide (x7_1<(l0.length:Int))=false:=zbj c2
    clear c2;replace H:=zay.mp H;obtain ⟨t239,A80,H⟩:=H
    replace H:(some t239)=some r:=H
    have A8:=zad A80;clear A80;obtain rfl:=zbe H
    go_wp2_with (first | ((with_reducible refine zbh (f:=60) rfl ?_);refine zbn (some 24) rfl rfl Tryz.func60 (by kernel_rfl) rfl #[.int .i64 (l0.length:Int),.int .i64 1,.int .i64 6] rfl (taae) ?_;(with_reducible refine (spec_l1In.calls (l0.length:Int) 1 6 t239 _ A8.out).mono ?_);rintro e w' ⟨rfl,⟨nd,rfl⟩⟩;refine ⟨_,rfl,?_⟩))
    go_ret
    exact ⟨taad,taah⟩
def spec_doIf.f (k:Nat) (l0:List (List Int)):Option ((List (List Int)) × Bool):=(spec_doGood.f k l0).bind fun t240=>(if t240=true then (some (l0,true)) else (some (([]:List (List Int)),false)))
theorem spec_doIf.calls (k:Nat) (P0_:Nat→Prop) (A0:Option Addr) (c0:Nat) (l0:List (List Int)) (r1:List (List Int)) (r2:Bool) (w:World) (hs0:Kd.V (Kd.slice 3 (Kd.int .i64)) 25 w w.heap.size (fun k_=>P0_ k_) (.slice A0 l0.length c0) l0) (h:spec_doIf.f k l0=some (r1,r2)) :
 Calls Tryz.prog 48 #[.slice A0 l0.length c0] w fun e w'=>∃ v0_:Value,e = .returned (.tuple #[v0_,.bool r2])∧Kd.V (Kd.slice 3 (Kd.int .i64)) 25 w' w.heap.size (fun k_=>(P0_ k_∨w.heap.size≤k_)) v0_ r1∧Below w.heap.size w w':=by
 have HO0:=zad (show Kd.V (Kd.slice 3 (Kd.int .i64)) 25 w w.heap.size (fun k_=>(P0_ k_∨w.heap.size≤k_)) (.slice A0 l0.length c0) l0 from Kd.V_mono hs0 (fun k_ hk => .inl hk))
 have HB:=zad (Below.refl w.heap.size w)
 have H:((spec_doGood.f k l0).bind fun t240=>(if t240=true then (some (l0,true)) else (some (([]:List (List Int)),false))))=some (r1,r2):=h
 clear h;replace H:=zay.mp H;obtain ⟨t240,A20,H⟩:=H
 replace H:(if t240=true then (some (l0,true)) else (some (([]:List (List Int)),false)))=some (r1,r2):=H
 have A2:=zad A20;clear A20;by_cases c3:t240=true
 ·subst c3
  have H1:(some (l0,true))=some (r1,r2):=by rw [if_pos rfl] at H;exact H
  clear H;have H:=H1;clear H1;simp only [zbl,zbp] at H
  obtain ⟨rfl,rfl⟩:=H
  go_enter Tryz.func48,Tryz.ntmps48
  go_wp2_with (first | ((with_reducible refine zbh (f:=23) rfl ?_);refine zbn (some 5) rfl rfl Tryz.func23 (by kernel_rfl) rfl #[.slice A0 l0.length c0] rfl (taae) ?_;(with_reducible refine (spec_doGood.calls k _ _ l0 true _ ?side1 ?side2 A2.out).mono ?_);(case side1=>exact taga);(case side2=>exact (Kd.V_reads' HO0.out).2.1);rintro e w' ⟨rfl,⟨nd,rfl⟩⟩;refine ⟨_,rfl,?_⟩))
  go_ret2
  exact ⟨_,taai,by (with_reducible repeat (first | apply zbb | apply zbc | apply Kd.V_drew));exact HO0.out,taab⟩
 ·replace c3:=zbi.mpr c3
  subst c3;have H1:(some (([]:List (List Int)),false))=some (r1,r2):=by rw [if_neg (show ¬ (false=true) by decide)] at H;exact H
  clear H;have H:=H1;clear H1;simp only [zbl,zbp] at H
  obtain ⟨rfl,rfl⟩:=H
  go_enter Tryz.func48,Tryz.ntmps48
  go_wp2_with (first | ((with_reducible refine zbh (f:=23) rfl ?_);refine zbn (some 5) rfl rfl Tryz.func23 (by kernel_rfl) rfl #[.slice A0 l0.length c0] rfl (taae) ?_;(with_reducible refine (spec_doGood.calls k _ _ l0 false _ ?side1 ?side2 A2.out).mono ?_);(case side1=>exact taga);(case side2=>exact (Kd.V_reads' HO0.out).2.1);rintro e w' ⟨rfl,⟨nd,rfl⟩⟩;refine ⟨_,rfl,?_⟩))
  go_ret2
  exact ⟨_,taai,(by first | exact Kd.V_nil _ _ _ _ _ | exact Kd.V_mono (Kd.S_V (tabx)) (fun k_ hk=>by first | exact ⟨(.inr (hk.1)),hk.2⟩ | exact (.inr (hk)))),taab⟩
mutual
def spec_TableForB.l0:Nat→List (List Int)→List Int→List Int→List (List Int)→Int→Int→Int→Option ((List (List Int)) × Bool)
 | 0,_,_,_,_,_,_,_=>none
 | k+1,x9,x15,x16,x17,x18,x116,x117=>if x117<x116 then (spec_TableForB.l1 k x9 x15 x16 x17 x18 x117 x116 x117 (x17.length:Int) 0) else (spec_TableForB.l2 k x17 x18 (x17.length:Int) 0)
def spec_TableForB.l1:Nat→List (List Int)→List Int→List Int→List (List Int)→Int→Int→Int→Int→Int→Int→Option ((List (List Int)) × Bool)
 | 0,_,_,_,_,_,_,_,_,_,_=>none
 | k+1,x9,x15,x16,x17,x18,x19,x116,x117,x121,x122=>if x122<x121 then (if 0≤x19 then (if x19<(x17.length:Int) then (if x19<(x15.length:Int) then (if 0≤(rd x15 x19) then (if (rd x15 x19)<(x9.length:Int) then (if 0≤x122 then (if x122<(x16.length:Int) then (if 0≤(rd x16 x122) then (if (rd x16 x122)<((rd_L2 x9 (rd x15 x19)).length:Int) then (if x122<((rd_L2 x17 x19).length:Int) then ((some (x17.set (x19:Int).toNat ((rd_L2 x17 x19).set (x122:Int).toNat (rd (rd_L2 x9 (rd x15 x19)) (rd x16 x122))):List (List Int))).bind fun y257=>(if x122<((rd_L2 y257 x19).length:Int) then ((spec_doGcd.f k x18 (rd (rd_L2 y257 x19) x122)).bind fun t260=>(spec_TableForB.l1 k x9 x15 x16 y257 t260 x19 x116 x117 x121 (wrap64 (x122+1)))) else (none))) else (none)) else (none)) else (none)) else (none)) else (none)) else (none)) else (none)) else (none)) else (none)) else (none)) else (spec_TableForB.l0 k x9 x15 x16 x17 x18 x116 (wrap64 (x117+1)))
def spec_TableForB.l2:Nat→List (List Int)→Int→Int→Int→Option ((List (List Int)) × Bool)
 | 0,_,_,_,_=>none
 | k+1,x17,x18,x156,x157=>if x157<x156 then (spec_TableForB.l3 k x17 x18 x157 x156 x157 (x17.length:Int) 0) else ((spec_doIf.f k x17).bind fun bt261=>(some (bt261.1,bt261.2)))
def spec_TableForB.l3:Nat→List (List Int)→Int→Int→Int→Int→Int→Int→Option ((List (List Int)) × Bool)
 | 0,_,_,_,_,_,_,_=>none
 | k+1,x17,x18,x21,x156,x157,x161,x162=>if x162<x161 then (if 0≤x21 then (if x21<(x17.length:Int) then (if 0≤x162 then (if x162<((rd_L2 x17 x21).length:Int) then (if x18=0 then (none) else (spec_TableForB.l3 k (x17.set (x21:Int).toNat ((rd_L2 x17 x21).set (x162:Int).toNat (wrap64 (Int.tdiv (rd (rd_L2 x17 x21) x162) x18)))) x18 x21 x156 x157 x161 (wrap64 (x162+1)))) else (none)) else (none)) else (none)) else (none)) else (spec_TableForB.l2 k x17 x18 x156 (wrap64 (x157+1)))
end
def spec_TableForB.f (k:Nat) (l0:List Int) (l1:List Int) (l2:List (List Int)) (a3:Int):Option ((List (List Int)) × Bool):=(spec_doPlaces.f k l0).bind fun t241=>((spec_doPlaces.f k l1).bind fun t244=>((spec_doEmpty.f k a3).bind fun t247=>(spec_TableForB.l0 k l2 t241 t244 t247 0 (t247.length:Int) 0)))
def spec_TableForB.T26:Bool × List (List Nat × List Nat):=(true,[([],[]),([],[]),([0,1],[0,1]),([2],[2]),([],[]),([],[]),([],[]),([],[]),([6,7],[6,7]),([8],[8]),([5,9],[5,9]),([10],[10]),([],[]),([],[]),([12,13],[12,13]),([14],[14]),([11,15],[11,15]),([16],[16]),([3,4,0,1,2,3,4,5,6,7,8,9,10,11,12,13,14,15,16,17],[3,4]),([18,17,0,1,2,3,4,5,6,7,8,9,10,11,12,13,14,15,16,17],[17,18])])
def spec_TableForB.B26:List Nat:=[0,0,3,7,0,0,0,0,192,448,992,2016,0,0,12288,28672,65504,131040,262143,524287]
theorem spec_TableForB.tab26:rtab .any (opsOf Tryz.f12 26)=spec_TableForB.T26:=by kernel_rfl
theorem spec_TableForB.bits26:waitsOk spec_TableForB.T26.2 spec_TableForB.B26=true:=by kernel_rfl
mutual
def spec_TableFor.j0 (TB_:Nat→List (List Int)→Option ((List (List Int)) × Bool)):Nat→List Int→List Int→Bool→Option ((List (List Int)) × Bool)
 | 0,_,_,_=>none
 | k+1,x0,x1,x41=>if x41=true then (some (([]:List (List Int)),false)) else ((spec_liRank.f k x1).bind fun t244=>((spec_liRank.f k x0).bind fun t247=>((spec_doEmpty.f k (x0.length:Int)).bind fun t250=>(spec_TableFor.l0 TB_ k (x0.length:Int) t244 t247 t250 (t250.length:Int) 0))))
def spec_TableFor.l0 (TB_:Nat→List (List Int)→Option ((List (List Int)) × Bool)):Nat→Int→List Int→List Int→List (List Int)→Int→Int→Option ((List (List Int)) × Bool)
 | 0,_,_,_,_,_,_=>none
 | k+1,x6,x7,x8,x9,x51,x52=>if x52<x51 then (if 0≤x52 then (if x52<(x9.length:Int) then (if x52<((rd_L2 x9 x52).length:Int) then (spec_TableFor.l0 TB_ k x6 x7 x8 (x9.set (x52:Int).toNat ((rd_L2 x9 x52).set (x52:Int).toNat 1)) x51 (wrap64 (x52+1))) else (none)) else (none)) else (none)) else ((spec_doStep.f k x7 x8).bind fun bt257=>(spec_TableFor.l1 TB_ k x6 x7 x8 x9 bt257.1 bt257.2.1 bt257.2.2.1 bt257.2.2.2))
def spec_TableFor.l1 (TB_:Nat→List (List Int)→Option ((List (List Int)) × Bool)):Nat→Int→List Int→List Int→List (List Int)→Int→Int→Int→Bool→Option ((List (List Int)) × Bool)
 | 0,_,_,_,_,_,_,_,_=>none
 | k+1,x6,x7,x8,x9,x11,x12,x13,x14=>if x14=true then (if 0≤x11 then (if x11<(x7.length:Int) then (if 0≤x12 then (if x12<(x7.length:Int) then ((spec_doGift.f k x6 x11 x12 (wrap64 ((rd x7 x11) - (rd x7 x12))) x13).bind fun t263=>((spec_doTimes.f k t263 x9).bind fun t266=>((some (x7.set (x11:Int).toNat (wrap64 ((rd x7 x11) - x13)):List Int)).bind fun y270=>((some (y270.set (x12:Int).toNat (wrap64 ((rd y270 x12)+x13)):List Int)).bind fun y272=>((spec_doStep.f k y272 x8).bind fun bt273=>(spec_TableFor.l1 TB_ k x6 y272 x8 t266 bt273.1 bt273.2.1 bt273.2.2.1 bt273.2.2.2)))))) else (none)) else (none)) else (none)) else (none)) else (TB_ k x9)
end
def spec_TableFor.f (k:Nat) (l0:List Int) (l1:List Int):Option ((List (List Int)) × Bool):=(spec_liGood.f k l0).bind fun t241=>(if t241=true then ((spec_liGood.f k l1).bind fun t242=>(if t242=true then (if (l0.length:Int)>4 then (spec_TableFor.j0 (fun q t=>spec_TableForB.f q l0 l1 t (l0.length:Int)) k l0 l1 true) else ((spec_liBelow.f k l0 l1).bind fun t243=>(spec_TableFor.j0 (fun q t=>spec_TableForB.f q l0 l1 t (l0.length:Int)) k l0 l1 (!t243)))) else (spec_TableFor.j0 (fun q t=>spec_TableForB.f q l0 l1 t (l0.length:Int)) k l0 l1 true))) else (spec_TableFor.j0 (fun q t=>spec_TableForB.f q l0 l1 t (l0.length:Int)) k l0 l1 true))
def spec_TableFor.T14:Bool × List (List Nat × List Nat):=(true,[([],[]),([],[]),([],[]),([],[]),([],[]),([3,4],[3,4]),([5],[5]),([],[]),([],[]),([7,8],[7,8]),([9],[9]),([6,10],[6,10]),([],[]),([0,1,2,11,12],[0,1,2,11,12]),([],[]),([13,14,13],[13,14]),([15,15,0,1,2,3,4,5,6,7,8,9,10,11,12,13,14,15],[14,15])])
def spec_TableFor.B14:List Nat:=[0,0,0,0,0,24,56,0,0,384,896,2040,0,8191,0,32767,65535]
theorem spec_TableFor.tab14:rtab .any (opsOf Tryz.f12 14)=spec_TableFor.T14:=by kernel_rfl
theorem spec_TableFor.bits14:waitsOk spec_TableFor.T14.2 spec_TableFor.B14=true:=by kernel_rfl
theorem spec_TableFor.calls (k:Nat) (A0:Option Addr) (c0:Nat) (l0:List Int) (A1:Option Addr) (c1:Nat) (l1:List Int) (r1:List (List Int)) (r2:Bool) (w:World) (hr0:Kd.C (Kd.int .i64) w A0 l0.length l0) (hc0:l0.length≤c0) (hr1:Kd.C (Kd.int .i64) w A1 l1.length l1) (hc1:l1.length≤c1) (h:spec_TableFor.f k l0 l1=some (r1,r2)) :
 Calls Tryz.prog 12 #[.slice A0 l0.length c0,.slice A1 l1.length c1] w fun e w'=>∃ v0_:Value,e = .returned (.tuple #[v0_,.bool r2])∧Kd.V (Kd.slice 3 (Kd.int .i64)) 25 w' w.heap.size (fun k_=>(w.heap.size≤k_)) v0_ r1∧Below w.heap.size w w':=by
 have HR0:=zad hr0;have HC0:=zad hc0;clear hr0 hc0;have HR1:=zad hr1;have HC1:=zad hc1;clear hr1 hc1;have HB:=zad (Below.refl w.heap.size w)
 have H:((spec_liGood.f k l0).bind fun t241=>(if t241=true then ((spec_liGood.f k l1).bind fun t242=>(if t242=true then (if (l0.length:Int)>4 then (spec_TableFor.j0 (fun q t=>spec_TableForB.f q l0 l1 t (l0.length:Int)) k l0 l1 true) else ((spec_liBelow.f k l0 l1).bind fun t243=>(spec_TableFor.j0 (fun q t=>spec_TableForB.f q l0 l1 t (l0.length:Int)) k l0 l1 (!t243)))) else (spec_TableFor.j0 (fun q t=>spec_TableForB.f q l0 l1 t (l0.length:Int)) k l0 l1 true))) else (spec_TableFor.j0 (fun q t=>spec_TableForB.f q l0 l1 t (l0.length:Int)) k l0 l1 true)))=some (r1,r2):=h
 clear h;have HC3:=zad H;clear H;go_enter Tryz.func12,Tryz.ntmps12
 go_upto_region 1 with (fail)
 go_cut [41] (fun v41 wc=>∃ (kq:Nat) (x41_2:Bool),v41 = .bool x41_2∧Aside0 (spec_TableFor.j0 (fun q t=>spec_TableForB.f q l0 l1 t (l0.length:Int)) kq l0 l1 x41_2=some (r1,r2))∧Aside0 (kq≤k)∧Aside0 (Below w.heap.size w wc))
 case first =>
  have H:=HC3.out
  clear HC3;replace H:=zay.mp H;obtain ⟨t241,A40,H⟩:=H
  replace H:(if t241=true then ((spec_liGood.f k l1).bind fun t242=>(if t242=true then (if (l0.length:Int)>4 then (spec_TableFor.j0 (fun q t=>spec_TableForB.f q l0 l1 t (l0.length:Int)) k l0 l1 true) else ((spec_liBelow.f k l0 l1).bind fun t243=>(spec_TableFor.j0 (fun q t=>spec_TableForB.f q l0 l1 t (l0.length:Int)) k l0 l1 (!t243)))) else (spec_TableFor.j0 (fun q t=>spec_TableForB.f q l0 l1 t (l0.length:Int)) k l0 l1 true))) else (spec_TableFor.j0 (fun q t=>spec_TableForB.f q l0 l1 t (l0.length:Int)) k l0 l1 true))=some (r1,r2):=H
  have A4:=zad A40;clear A40;by_cases c5:t241=true
  ·subst c5
   have H1:((spec_liGood.f k l1).bind fun t242=>(if t242=true then (if (l0.length:Int)>4 then (spec_TableFor.j0 (fun q t=>spec_TableForB.f q l0 l1 t (l0.length:Int)) k l0 l1 true) else ((spec_liBelow.f k l0 l1).bind fun t243=>(spec_TableFor.j0 (fun q t=>spec_TableForB.f q l0 l1 t (l0.length:Int)) k l0 l1 (!t243)))) else (spec_TableFor.j0 (fun q t=>spec_TableForB.f q l0 l1 t (l0.length:Int)) k l0 l1 true)))=some (r1,r2):=by rw [if_pos rfl] at H;exact H
   clear H;have H:=H1;clear H1;replace H:=zay.mp H;obtain ⟨t242,A60,H⟩:=H
   replace H:(if t242=true then (if (l0.length:Int)>4 then (spec_TableFor.j0 (fun q t=>spec_TableForB.f q l0 l1 t (l0.length:Int)) k l0 l1 true) else ((spec_liBelow.f k l0 l1).bind fun t243=>(spec_TableFor.j0 (fun q t=>spec_TableForB.f q l0 l1 t (l0.length:Int)) k l0 l1 (!t243)))) else (spec_TableFor.j0 (fun q t=>spec_TableForB.f q l0 l1 t (l0.length:Int)) k l0 l1 true))=some (r1,r2):=H
   have A6:=zad A60;clear A60;by_cases c7:t242=true
   ·subst c7
    have H1:(if (l0.length:Int)>4 then (spec_TableFor.j0 (fun q t=>spec_TableForB.f q l0 l1 t (l0.length:Int)) k l0 l1 true) else ((spec_liBelow.f k l0 l1).bind fun t243=>(spec_TableFor.j0 (fun q t=>spec_TableForB.f q l0 l1 t (l0.length:Int)) k l0 l1 (!t243))))=some (r1,r2):=by rw [if_pos rfl] at H;exact H
    clear H;have H:=H1;clear H1;by_cases c8:(l0.length:Int)>4
    ·rw [if_pos c8] at H
     have c8b0:decide (4<(l0.length:Int))=true:=zba c8
     have c8b1:decide (4<l0.length)=true:=zba (by omega)
     clear c8;(first | rw [c8b0] | (simp only [zbw,zbx];rw [c8b0]) | skip)
     have H':=zad H
     clear H;go_wp2_with (first | ((with_reducible refine zbh (f:=25) rfl ?_);refine zbn (some 24) rfl rfl Tryz.func25 (by kernel_rfl) rfl #[.slice A0 l0.length c0] rfl (taae) ?_;(with_reducible refine (spec_liGood.calls k _ _ l0 true _ ?side1 ?side2 A4.out).mono ?_);(case side1=>repeat (first | exact (Kd.C_below HR0.out HB.out) | (with_reducible refine zal ?_ _) | (with_reducible refine zam ?_ _) | (with_reducible refine zan ?_)));(case side2=>exact HC0.out);rintro e w' ⟨rfl,⟨nd,rfl⟩⟩;refine ⟨_,rfl,?_⟩) | (go_at_call 25;(with_reducible refine (spec_liGood.calls k _ _ l1 true _ ?side1 ?side2 A6.out).mono ?_);(case side1=>repeat (first | exact (Kd.C_below HR1.out (taab)) | (with_reducible refine zal ?_ _) | (with_reducible refine zam ?_ _) | (with_reducible refine zan ?_)));(case side2=>exact HC1.out);rintro e w' ⟨rfl,⟨nd,rfl⟩⟩))
     go_meet
     case rel=>exact ⟨_,(true),(taad),H',⟨taas⟩,⟨taab⟩⟩
    ·rw [if_neg c8] at H
     have c8b0:decide (4<(l0.length:Int))=false:=zbj c8
     have c8b1:decide (4<l0.length)=false:=zbj (by omega)
     clear c8;(first | rw [c8b0] | (simp only [zbw,zbx];rw [c8b0]) | skip)
     replace H:=zay.mp H;obtain ⟨t243,A90,H⟩:=H
     replace H:(spec_TableFor.j0 (fun q t=>spec_TableForB.f q l0 l1 t (l0.length:Int)) k l0 l1 (!t243))=some (r1,r2):=H
     have A9:=zad A90;clear A90;have H':=zad H
     clear H;go_wp2_with (first | ((with_reducible refine zbh (f:=25) rfl ?_);refine zbn (some 24) rfl rfl Tryz.func25 (by kernel_rfl) rfl #[.slice A0 l0.length c0] rfl (taae) ?_;(with_reducible refine (spec_liGood.calls k _ _ l0 true _ ?side1 ?side2 A4.out).mono ?_);(case side1=>repeat (first | exact (Kd.C_below HR0.out HB.out) | (with_reducible refine zal ?_ _) | (with_reducible refine zam ?_ _) | (with_reducible refine zan ?_)));(case side2=>exact HC0.out);rintro e w' ⟨rfl,⟨nd,rfl⟩⟩;refine ⟨_,rfl,?_⟩) | (go_at_call 25;(with_reducible refine (spec_liGood.calls k _ _ l1 true _ ?side1 ?side2 A6.out).mono ?_);(case side1=>repeat (first | exact (Kd.C_below HR1.out (taab)) | (with_reducible refine zal ?_ _) | (with_reducible refine zam ?_ _) | (with_reducible refine zan ?_)));(case side2=>exact HC1.out);rintro e w' ⟨rfl,⟨nd,rfl⟩⟩) | (go_at_call 40;(with_reducible refine (spec_liBelow.calls k _ _ l0 _ _ l1 t243 _ ?side1 ?side2 ?side3 ?side4 A9.out).mono ?_);(case side1=>repeat (first | exact (Kd.C_below HR0.out (taab)) | (with_reducible refine zal ?_ _) | (with_reducible refine zam ?_ _) | (with_reducible refine zan ?_)));(case side2=>exact HC0.out);(case side3=>repeat (first | exact (Kd.C_below HR1.out (taab)) | (with_reducible refine zal ?_ _) | (with_reducible refine zam ?_ _) | (with_reducible refine zan ?_)));(case side4=>exact HC1.out);rintro e w10 ⟨rfl,hb⟩;have n0_:=zad (zbg (taab) hb);clear HB;have HB:=n0_;clear n0_;(try clear hb);(try clear hb2);(try clear hk);(try clear hi)))
     go_meet
     case rel=>exact ⟨_,(!t243),(taad),H',⟨taas⟩,⟨taab⟩⟩
   ·replace c7:=zbi.mpr c7
    subst c7;have H1:(spec_TableFor.j0 (fun q t=>spec_TableForB.f q l0 l1 t (l0.length:Int)) k l0 l1 true)=some (r1,r2):=by rw [if_neg (show ¬ (false=true) by decide)] at H;exact H
    clear H;have H:=H1;clear H1;have H':=zad H
    clear H;go_wp2_with (first | ((with_reducible refine zbh (f:=25) rfl ?_);refine zbn (some 24) rfl rfl Tryz.func25 (by kernel_rfl) rfl #[.slice A0 l0.length c0] rfl (taae) ?_;(with_reducible refine (spec_liGood.calls k _ _ l0 true _ ?side1 ?side2 A4.out).mono ?_);(case side1=>repeat (first | exact (Kd.C_below HR0.out HB.out) | (with_reducible refine zal ?_ _) | (with_reducible refine zam ?_ _) | (with_reducible refine zan ?_)));(case side2=>exact HC0.out);rintro e w' ⟨rfl,⟨nd,rfl⟩⟩;refine ⟨_,rfl,?_⟩) | (go_at_call 25;(with_reducible refine (spec_liGood.calls k _ _ l1 false _ ?side1 ?side2 A6.out).mono ?_);(case side1=>repeat (first | exact (Kd.C_below HR1.out (taab)) | (with_reducible refine zal ?_ _) | (with_reducible refine zam ?_ _) | (with_reducible refine zan ?_)));(case side2=>exact HC1.out);rintro e w' ⟨rfl,⟨nd,rfl⟩⟩))
    go_meet
    case rel=>exact ⟨_,(true),(taad),H',⟨taas⟩,⟨taab⟩⟩
  ·replace c5:=zbi.mpr c5
   subst c5;have H1:(spec_TableFor.j0 (fun q t=>spec_TableForB.f q l0 l1 t (l0.length:Int)) k l0 l1 true)=some (r1,r2):=by rw [if_neg (show ¬ (false=true) by decide)] at H;exact H
   clear H;have H:=H1;clear H1;have H':=zad H
   clear H;go_wp2_with (first | ((with_reducible refine zbh (f:=25) rfl ?_);refine zbn (some 24) rfl rfl Tryz.func25 (by kernel_rfl) rfl #[.slice A0 l0.length c0] rfl (taae) ?_;(with_reducible refine (spec_liGood.calls k _ _ l0 false _ ?side1 ?side2 A4.out).mono ?_);(case side1=>exact tafm);(case side2=>exact HC0.out);rintro e w' ⟨rfl,⟨nd,rfl⟩⟩;refine ⟨_,rfl,?_⟩))
   go_meet
   case rel=>exact ⟨_,(true),(taad),H',⟨taas⟩,⟨taab⟩⟩
 case rest =>
  clear HC3;try clear c1
  try clear p2
  try clear c4
  try clear c5
  try clear c7
  try clear c8
  try clear c8b0
  try clear c8b1
  obtain ⟨kq,x41_2,rfl,HA,HJ2,HB⟩:=hcut
  cases kq with
  | zero=>exact absurd HA.out (by simp [spec_TableFor.j0])
  | succ kj2 =>
   have H:=HA.out
   clear HA;simp only [spec_TableFor.j0] at H
   by_cases c11:x41_2=true
   ·subst c11
    have H1:(some (([]:List (List Int)),false))=some (r1,r2):=by rw [if_pos rfl] at H;exact H
    clear H;have H:=H1;clear H1;simp only [zbl,zbp] at H
    obtain ⟨rfl,rfl⟩:=H
    go_wp2
    go_ret2
    exact ⟨_,taai,(by first | exact Kd.V_nil _ _ _ _ _ | exact Kd.S_V (tabx)),taab⟩
   ·replace c11:=zbi.mpr c11
    subst c11;have H1:((spec_liRank.f kj2 l1).bind fun t244=>((spec_liRank.f kj2 l0).bind fun t247=>((spec_doEmpty.f kj2 (l0.length:Int)).bind fun t250=>(spec_TableFor.l0 (fun q t=>spec_TableForB.f q l0 l1 t (l0.length:Int)) kj2 (l0.length:Int) t244 t247 t250 (t250.length:Int) 0))))=some (r1,r2):=by rw [if_neg (show ¬ (false=true) by decide)] at H;exact H
    clear H;have H:=H1;clear H1;replace H:=zay.mp H;obtain ⟨t244,A120,H⟩:=H
    replace H:((spec_liRank.f kj2 l0).bind fun t247=>((spec_doEmpty.f kj2 (l0.length:Int)).bind fun t250=>(spec_TableFor.l0 (fun q t=>spec_TableForB.f q l0 l1 t (l0.length:Int)) kj2 (l0.length:Int) t244 t247 t250 (t250.length:Int) 0)))=some (r1,r2):=H
    have A12:=zad A120;clear A120;replace H:=zay.mp H;obtain ⟨t247,A130,H⟩:=H
    replace H:((spec_doEmpty.f kj2 (l0.length:Int)).bind fun t250=>(spec_TableFor.l0 (fun q t=>spec_TableForB.f q l0 l1 t (l0.length:Int)) kj2 (l0.length:Int) t244 t247 t250 (t250.length:Int) 0))=some (r1,r2):=H
    have A13:=zad A130;clear A130;replace H:=zay.mp H;obtain ⟨t250,A140,H⟩:=H
    replace H:(spec_TableFor.l0 (fun q t=>spec_TableForB.f q l0 l1 t (l0.length:Int)) kj2 (l0.length:Int) t244 t247 t250 (t250.length:Int) 0)=some (r1,r2):=H
    have A14:=zad A140;clear A140;have H':=zad H
    clear H;go_wp2_with (first | ((with_reducible refine zbh (f:=41) rfl ?_);refine zbn (some 45) rfl rfl Tryz.func41 (by kernel_rfl) rfl #[.slice A1 l1.length c1] rfl (taae) ?_;(with_reducible refine (spec_liRank.calls kj2 _ _ l1 t244 _ ?side1 ?side2 A12.out).mono ?_);(case side1=>repeat (first | exact (Kd.C_below HR1.out HB.out) | (with_reducible refine zal ?_ _) | (with_reducible refine zam ?_ _) | (with_reducible refine zan ?_)));(case side2=>exact HC1.out);rintro e w15 ⟨v245,rfl,ho0,hb⟩;refine ⟨_,rfl,?_⟩;have n0_:=zad (zbu (Kd.R_newM (M:=fun k_=>(w.heap.size≤k_)) ho0 (zbk (taab)) (fun k_ h_=>h_)) (zbk (taab)));have n1_:=zad (zbg (taab) hb);clear HB;have HO246:=n0_;have HB:=n1_;clear n0_ n1_;(try clear hb);(try clear hb2);(try clear hk);(try clear hi);(try clear ho0)) | ((with_reducible refine zbh (f:=41) rfl ?_);refine zbn (some 47) rfl rfl Tryz.func41 (by kernel_rfl) rfl #[.slice A0 l0.length c0] rfl (taae) ?_;(with_reducible refine (spec_liRank.calls kj2 _ _ l0 t247 _ ?side1 ?side2 A13.out).mono ?_);(case side1=>repeat (first | exact (Kd.C_below HR0.out HB.out) | (with_reducible refine zal ?_ _) | (with_reducible refine zam ?_ _) | (with_reducible refine zan ?_)));(case side2=>exact HC0.out);rintro e w16 ⟨v248,rfl,ho0,hb⟩;refine ⟨_,rfl,?_⟩;have n0_:=zad (zcb (tabp) (zcd ho0) hb);have n1_:=zad (zbu (zcc (Kd.R_newM (M:=fun k_=>(w.heap.size≤k_)) ho0 (zbk (taab)) (fun k_ h_=>h_)) (zce (tabp))) (zbk (taab)));have n2_:=zad (zbg (taab) hb);clear HO246 HB;have HO246:=n0_;have HO249:=n1_;have HB:=n2_;clear n0_ n1_ n2_;(try clear hb);(try clear hb2);(try clear hk);(try clear hi);(try clear ho0)) | ((with_reducible refine zbh (f:=42) rfl ?_);refine zbn (some 49) rfl rfl Tryz.func42 (by kernel_rfl) rfl #[.int .i64 (l0.length:Int)] rfl (taae) ?_;(with_reducible refine (spec_doEmpty.calls kj2 (l0.length:Int) t250 _ A14.out).mono ?_);rintro e w17 ⟨v251,rfl,ho0,hb⟩;refine ⟨_,rfl,?_⟩;have n0_:=zad (zbt (tabp) hb);have n1_:=zad (zbt (tadv) hb);have n2_:=zad (Kd.S_lower (Kd.S_new' (Kd.S_new' (Kd.S_newM (M:=fun k_=>(w.heap.size≤k_)) ho0 (zbk (taab)) (fun k_ h_=>h_)) (zce (tabp))) (zce (tadv))) (zbk (taab)));have n3_:=zad (zbg (taab) hb);clear HO246 HO249 HB;have HO246:=n0_;have HO249:=n1_;have HO252:=n2_;have HB:=n3_;clear n0_ n1_ n2_ n3_;(try clear hb);(try clear hb2);(try clear hk);(try clear hi);(try clear ho0);obtain ⟨Ao18,co18,eo18⟩:=Kd.S_slice HO252.out;subst eo18))
    go_loopg [52] kj2 (fun kq v52 w'=>∃ (x7_2:List Int) (x8_2:List Int) (x9_2:List (List Int)) (x52_2:Int),v52 = .int .i64 x52_2∧Aside0 (spec_TableFor.l0 (fun q t=>spec_TableForB.f q l0 l1 t (l0.length:Int)) kq (l0.length:Int) x7_2 x8_2 x9_2 (t250.length:Int) x52_2=some (r1,r2))∧Aside0 (kq≤kj2)∧Aside0 (Kd.R (Kd.int .i64) 3 w' w.heap.size (fun k_=>(w.heap.size≤k_)∧some k_≠(v248:Value).ownBlock) v245 x7_2)∧Aside0 (Kd.R (Kd.int .i64) 3 w' w.heap.size (fun k_=>(w.heap.size≤k_)∧some k_≠(v245:Value).ownBlock) v248 x8_2)∧Aside0 (Kd.S (Kd.slice 3 (Kd.int .i64)) 25 w' w.heap.size (fun k_=>(w.heap.size≤k_)∧some k_≠(v245:Value).ownBlock∧some k_≠(v248:Value).ownBlock) (.slice Ao18 t250.length co18) x9_2)∧Aside0 (Below w.heap.size w w'))
    case atStart=>exact ⟨(t244),(t247),(t250),(0),(taad),H',⟨zcf _⟩,⟨tadw⟩,⟨by (with_reducible repeat (first | apply zai | apply zaj | apply zak));exact zbq HO249.out (fun _ hk=>⟨hk.1.1,hk.2⟩)⟩,⟨by (with_reducible repeat (first | apply Kd.S_alloc | apply Kd.S_drewN | apply Kd.S_drew));exact Kd.S_mono HO252.out (fun _ hk=>⟨hk.1.1.1,⟨hk.1.2,hk.2⟩⟩)⟩,⟨taab⟩⟩
    case round =>
     clear H'
     try clear c1
     try clear p2
     try clear c4
     try clear c5
     try clear c7
     try clear c8
     try clear c8b0
     try clear c8b1
     try clear c11
     try clear c12
     try clear c14
     try clear c15
     try clear p2
     obtain ⟨x7_2,x8_2,x9_2,x52_2,rfl,HA,HK2,HO_7,HO_8,HO_9,HB⟩:=hrel
     have hl9_2:=(Kd.S_reads' HO_9.out).1
     rw [hl9_2] at HO_9
     (try simp only [hl9_2])
     (try simp only [hl9_2] at HO_7)
     (try simp only [hl9_2] at HO_8)
     cases gk with
     | zero=>exact absurd HA.out (by simp [spec_TableFor.l0])
     | succ k2 =>
      have H:=HA.out
      clear HA;simp only [spec_TableFor.l0] at H
      by_cases c19:x52_2<(t250.length:Int)
      ·rw [if_pos c19] at H
       have c19b0:decide (x52_2<(t250.length:Int))=true:=zba c19
       have c19b0_:=c19b0
       (try rw [hl9_2] at c19b0_)
       clear c19;by_cases c20:0≤x52_2
       ·rw [if_pos c20] at H
        have c20b0:decide (0≤x52_2)=true:=zba c20
        clear c20;by_cases c21:x52_2<(x9_2.length:Int)
        ·rw [if_pos c21] at H
         have c21b0:decide (x52_2<(x9_2.length:Int))=true:=zba c21
         have c21b0_:=c21b0
         (try rw [hl9_2] at c21b0_)
         clear c21;by_cases c22:x52_2<((rd_L2 x9_2 x52_2).length:Int)
         ·rw [if_pos c22] at H
          have c22b0:decide (x52_2<((rd_L2 x9_2 x52_2).length:Int))=true:=zba c22
          clear c22;obtain ⟨y254,hy254⟩:∃ y_:List Int,y_=((rd_L2 x9_2 x52_2).set (x52_2:Int).toNat 1):=⟨_,rfl⟩
          replace H:(spec_TableFor.l0 (fun q t=>spec_TableForB.f q l0 l1 t (l0.length:Int)) k2 (l0.length:Int) x7_2 x8_2 (x9_2.set (x52_2:Int).toNat y254) (t250.length:Int) (wrap64 (x52_2+1)))=some (r1,r2):=by first | (rw [hy254];with_reducible exact H) | (have H2_:=(zbd _ _).symm.trans H;rw [hy254];with_reducible exact H2_) | (have H2_:=(zbd _ _).symm.trans H;with_reducible exact H2_) | with_reducible exact H | (rw [hy254];exact H) | exact H
          have Ny254:=zad hy254;clear hy254;obtain ⟨y256,hy256⟩:∃ y_:List (List Int),y_=(x9_2.set (x52_2:Int).toNat y254):=⟨_,rfl⟩
          replace H:(spec_TableFor.l0 (fun q t=>spec_TableForB.f q l0 l1 t (l0.length:Int)) k2 (l0.length:Int) x7_2 x8_2 y256 (t250.length:Int) (wrap64 (x52_2+1)))=some (r1,r2):=by first | (rw [hy256];with_reducible exact H) | (have H2_:=(zbd _ _).symm.trans H;rw [hy256];with_reducible exact H2_) | (have H2_:=(zbd _ _).symm.trans H;with_reducible exact H2_) | with_reducible exact H | (rw [hy256];exact H) | exact H
          have Ny256:=zad hy256;clear hy256;have H':=zad H
          clear H;have p253:0≤(x52_2:Int):=zas (taaa)
          have q253:x52_2<(x9_2.length:Int):=zas (taaa)
          obtain ⟨ad253,A253_0,c253_0,e253,hx253_0,hl253_0,hi253_0⟩:=at_L2 (Kd.S_reads' HO_9.out).2.2 x52_2 p253 q253
          cases e253
          obtain ⟨ce253,hce253,hMe253,hcc253⟩:=Kd.S_get HO_9.out [] x52_2 p253 (by first | exact q253 | exact zas (taaa) | (have e_:=(Kd.S_reads' HO_9.out).1;omega))
          obtain ⟨ve253_0,rfl,ge253_0⟩:=hMe253
          have hv253_0:=hcc253 0 _ rfl
          rw [Nat.add_zero,show ((Kd.slice 3 (Kd.int .i64))).sz=1 from rfl,Nat.mul_one] at hv253_0
          replace hv253_0:=zbe (hv253_0.symm.trans hx253_0)
          rw [hv253_0] at ge253_0
          have HL253_0:=zad (show Kd.R (Kd.int .i64) 3 _ _ _ _ (rd_L2 x9_2 x52_2) from ge253_0)
          clear hv253_0 ge253_0;have HX253_0:=zad hx253_0;clear hcc253 hce253;have HR253_0:=zad hi253_0;have HC253_0:=zad hl253_0;clear hi253_0 hl253_0;replace p253:=eq_true p253
          replace q253:=eq_true q253
          have p23:0≤(x52_2:Int):=zas (taaa)
          have q23:(x52_2:Int)<(((rd_L2 x9_2 x52_2).length:Int):Int):=zas (taaa)
          obtain ⟨go23,co23,eo23,gb23,gl23,cl23,HG23⟩:=Kd.R_form HL253_0.out (by omega)
          (first | cases eo23 | (injection eo23 with ea_ en_ ec_;(first | subst ea_ | (injection ea_ with ea_;subst ea_));subst ec_;clear en_))
          have GB23:=zad gb23;have GG23:=zad HG23;clear gb23 gl23 HG23;obtain ⟨hx23_0,hf23_0⟩:=Kd.R_celln 0 HL253_0.out (x52_2:Int) p23 q23
          replace p23:=eq_true p23
          replace q23:=eq_true q23
          have hq24:(x52_2:Int)<(x9_2.length:Int):=(by have h_:(x52_2:Int)<((x9_2.length:Int):Int):=zas (taaa);first | exact h_ | (have e_:=(Kd.S_reads' HO_9.out).1;omega) | simpa only [List.length_set,List.length_set] using h_)
          obtain ⟨oki24,ce24,hcl24,hM24,hcc24,hok24,hbk24⟩:=Kd.S_borrow HO_9.out [] (x52_2:Int) (zas (taaa)) (by first | exact hq24 | (have e_:=(Kd.S_reads' HO_9.out).1;omega))
          obtain ⟨ve24_0,rfl,ge24_0⟩:=hM24
          have hv24:=hcc24 0 _ rfl
          rw [Nat.add_zero,show ((Kd.slice 3 (Kd.int .i64))).sz=1 from rfl,Nat.mul_one] at hv24
          replace hv24:=zbe (hv24.symm.trans HX253_0.out)
          subst hv24;clear hcc24 hcl24;replace ge24_0:=(show Kd.R (Kd.int .i64) 3 _ _ _ _ (rd_L2 x9_2 x52_2) from ge24_0)
          have HP24:=Kd.R_putg ge24_0 (x52_2:Int) 1
          go_wp2_with (first | ((with_reducible refine gate_store (t:=3) (p:=60) rfl ?_);refine store_event (t:=3) (p:=60) (v := ?vo_w25) (w1:=(wr.setCell ⟨go23,(x52_2:Int).toNat,none⟩ (.int .i64 1))) ?hg ?ho ?hn ?hr ?_;(case ho=>rfl);(case hg=>rfl);(case hn=>rfl);(case hr=>first | (go_simp;done) | (go_simp;rfl));intro w25 hw;have hg:wr.grownBy w25 (some go23):=(by rw [hw];exact HP24.2);have hz_:Kd.R (Kd.int .i64) 3 w25 w.heap.size oki24 (.slice (some ⟨go23,0,none⟩) (rd_L2 x9_2 x52_2).length c253_0) y254:=(by rw [hw,Ny254.out];exact HP24.1);have hp_:Kd.S (Kd.slice 3 (Kd.int .i64)) 25 w25 w.heap.size (fun k_=>(w.heap.size≤k_)∧some k_≠(v245:Value).ownBlock∧some k_≠(v248:Value).ownBlock) (.slice (some ad253) x9_2.length co18) y256:=(by rw [Ny256.out];exact hbk24 hg (fun k_ e_=>by injection e_ with e_;subst e_;exact ge24_0.1 _ rfl) (Kd.M_row hz_));have hm_:=zbq hz_ hok24;clear HP24 hbk24;have n0_:=zad (Kd.R_grown1 (taak) rfl hg ((HL253_0.out.1 _ rfl).1.2.1));have n1_:=zad (Kd.R_grown1 (taap) rfl hg ((HL253_0.out.1 _ rfl).1.2.2));have n2_:=zad (hp_);have n3_:=zad ((by rw [hw];exact zah (HB.out) GB23.out:Below w.heap.size w w25));have n4_:=zad (hm_);have n5_:=zad ((zbf hm_).2.1);clear HO_7 HO_8 HO_9 HB HL253_0;have HO_7:=n0_;have HO_8:=n1_;have HO_9:=n2_;have HB:=n3_;have HL281:=n4_;have HC255:=n5_;clear n0_ n1_ n2_ n3_ n4_ n5_ hg hw hp_ hz_ hm_ hok24))
          (try simp only [← hl9_2])
          go_roundg k2
          case measure=>have:=HJ2.out;have:=HK2.out;omega
          case rel=>exact ⟨(x7_2),(x8_2),(y256),(wrap64 (x52_2+1)),(taad),H',⟨by have:=HJ2.out;have:=HK2.out;omega⟩,⟨tadx⟩,⟨tady⟩,⟨tadz⟩,⟨taab⟩⟩
         ·rw [if_neg c22] at H
          exact absurd H (taac)
        ·rw [if_neg c21] at H
         exact absurd H (taac)
       ·rw [if_neg c20] at H
        exact absurd H (taac)
      ·rw [if_neg c19] at H
       have c19b0:decide (x52_2<(t250.length:Int))=false:=zbj c19
       (try rw [hl9_2] at c19b0)
       clear c19;replace H:=zay.mp H;obtain ⟨⟨t257,t258,t259,t260⟩,A260,H⟩:=H
       replace H:(spec_TableFor.l1 (fun q t=>spec_TableForB.f q l0 l1 t (l0.length:Int)) k2 (l0.length:Int) x7_2 x8_2 x9_2 t257 t258 t259 t260)=some (r1,r2):=H
       have A26:=zad A260;clear A260;have H':=zad H
       clear H;obtain ⟨Ao27,co27,eo27⟩:=zbv HO_7.out
       subst eo27;obtain ⟨Ao28,co28,eo28⟩:=zbv HO_8.out
       subst eo28;go_wp2_with (first | ((with_reducible refine zbh (f:=43) rfl ?_);refine zbn (some 65) rfl rfl Tryz.func43 (by kernel_rfl) rfl #[.slice Ao27 x7_2.length co27,.slice Ao28 x8_2.length co28] rfl (taae) ?_;(with_reducible refine (spec_doStep.calls k2 _ _ x7_2 _ _ x8_2 t257 t258 t259 t260 _ ?side1 ?side2 ?side3 ?side4 A26.out).mono ?_);(case side1=>exact tafn);(case side2=>exact tafo);(case side3=>exact tafr);(case side4=>exact (zbf HO_8.out).2.1);rintro e w' ⟨rfl,⟨nd,rfl⟩⟩;refine ⟨_,rfl,?_⟩))
       go_loopg [9,11,12,13,14] k2 (fun kq v9 v11 v12 v13 v14 w'=>∃ (x7_3:List Int) (x9_3:List (List Int)) (x11_3:Int) (x12_3:Int) (x13_3:Int) (x14_3:Bool),v11 = .int .i64 x11_3∧v12 = .int .i64 x12_3∧v13 = .int .i64 x13_3∧v14 = .bool x14_3∧Aside0 (spec_TableFor.l1 (fun q t=>spec_TableForB.f q l0 l1 t (l0.length:Int)) kq (l0.length:Int) x7_3 x8_2 x9_3 x11_3 x12_3 x13_3 x14_3=some (r1,r2))∧Aside0 (kq≤k2)∧Aside0 (Kd.R (Kd.int .i64) 3 w' w.heap.size (fun k_=>(w.heap.size≤k_)∧some k_≠((.slice Ao28 x8_2.length co28):Value).ownBlock) (.slice Ao27 x7_2.length co27) x7_3)∧Aside0 (Kd.R (Kd.int .i64) 3 w' w.heap.size (fun k_=>(w.heap.size≤k_)∧some k_≠((.slice Ao27 x7_2.length co27):Value).ownBlock) (.slice Ao28 x8_2.length co28) x8_2)∧Aside0 (Kd.S (Kd.slice 3 (Kd.int .i64)) 25 w' w.heap.size (fun k_=>(w.heap.size≤k_)∧some k_≠((.slice Ao27 x7_2.length co27):Value).ownBlock∧some k_≠((.slice Ao28 x8_2.length co28):Value).ownBlock) v9 x9_3)∧Aside0 (Below w.heap.size w w'))
       case atStart=>exact ⟨(x7_2),(x9_2),(t257),(t258),(t259),(t260),(taad),(taad),(taad),(taad),H',⟨zcf _⟩,⟨tadx⟩,⟨tady⟩,⟨tadz⟩,⟨taab⟩⟩
       case round =>
        clear H'
        try clear c1
        try clear c2
        try clear p2
        try clear q2
        try clear hx2
        try clear hf2
        try clear c4
        try clear c5
        try clear p6
        try clear c7
        try clear c8
        try clear c8b0
        try clear c8b1
        try clear c11
        try clear c12
        try clear c14
        try clear c15
        try clear c16
        try clear c19
        try clear c19b0
        try clear c20
        try clear c20b0
        try clear c21
        try clear c21b0
        try clear c22
        try clear c22b0
        try clear p23
        try clear q23
        try clear hx23
        try clear hf23
        try clear c24
        try clear q24
        try clear c25
        try clear p25
        try clear q25
        try clear hx25
        try clear hx23_0
        try clear hx253_0
        try clear p2
        try clear p23
        try clear p253
        try clear q23
        try clear q253
        obtain ⟨x7_3,x9_3,x11_3,x12_3,x13_3,x14_3,rfl,rfl,rfl,rfl,HA,HK3,HO_7,HO_8,HO_9,HB⟩:=hrel
        have hl7_3:=(zbf HO_7.out).1
        rw [hl7_3] at HO_7
        (try simp only [hl7_3])
        (try simp only [hl7_3] at HO_8)
        (try simp only [hl7_3] at HO_9)
        cases gk with
        | zero=>exact absurd HA.out (by simp [spec_TableFor.l1])
        | succ k3 =>
         have H:=HA.out
         clear HA;simp only [spec_TableFor.l1] at H
         by_cases c29:x14_3=true
         ·subst c29
          have H1:(if 0≤x11_3 then (if x11_3<(x7_3.length:Int) then (if 0≤x12_3 then (if x12_3<(x7_3.length:Int) then ((spec_doGift.f k3 (l0.length:Int) x11_3 x12_3 (wrap64 ((rd x7_3 x11_3) - (rd x7_3 x12_3))) x13_3).bind fun t263=>((spec_doTimes.f k3 t263 x9_3).bind fun t266=>((some (x7_3.set (x11_3:Int).toNat (wrap64 ((rd x7_3 x11_3) - x13_3)):List Int)).bind fun y270=>((some (y270.set (x12_3:Int).toNat (wrap64 ((rd y270 x12_3)+x13_3)):List Int)).bind fun y272=>((spec_doStep.f k3 y272 x8_2).bind fun bt273=>(spec_TableFor.l1 (fun q t=>spec_TableForB.f q l0 l1 t (l0.length:Int)) k3 (l0.length:Int) y272 x8_2 t266 bt273.1 bt273.2.1 bt273.2.2.1 bt273.2.2.2)))))) else (none)) else (none)) else (none)) else (none))=some (r1,r2):=by rw [if_pos rfl] at H;exact H
          clear H;have H:=H1;clear H1;by_cases c30:0≤x11_3
          ·rw [if_pos c30] at H
           have c30b0:decide (0≤x11_3)=true:=zba c30
           clear c30;by_cases c31:x11_3<(x7_3.length:Int)
           ·rw [if_pos c31] at H
            have c31b0:decide (x11_3<(x7_3.length:Int))=true:=zba c31
            have c31b0_:=c31b0
            (try rw [hl9_2] at c31b0_)
            clear c31;by_cases c32:0≤x12_3
            ·rw [if_pos c32] at H
             have c32b0:decide (0≤x12_3)=true:=zba c32
             clear c32;by_cases c33:x12_3<(x7_3.length:Int)
             ·rw [if_pos c33] at H
              have c33b0:decide (x12_3<(x7_3.length:Int))=true:=zba c33
              have c33b0_:=c33b0
              (try rw [hl9_2] at c33b0_)
              clear c33;replace H:=zay.mp H;obtain ⟨t263,A340,H⟩:=H
              replace H:((spec_doTimes.f k3 t263 x9_3).bind fun t266=>((some (x7_3.set (x11_3:Int).toNat (wrap64 ((rd x7_3 x11_3) - x13_3)):List Int)).bind fun y270=>((some (y270.set (x12_3:Int).toNat (wrap64 ((rd y270 x12_3)+x13_3)):List Int)).bind fun y272=>((spec_doStep.f k3 y272 x8_2).bind fun bt273=>(spec_TableFor.l1 (fun q t=>spec_TableForB.f q l0 l1 t (l0.length:Int)) k3 (l0.length:Int) y272 x8_2 t266 bt273.1 bt273.2.1 bt273.2.2.1 bt273.2.2.2)))))=some (r1,r2):=H
              have A34:=zad A340;clear A340;replace H:=zay.mp H;obtain ⟨t266,A350,H⟩:=H
              replace H:((some (x7_3.set (x11_3:Int).toNat (wrap64 ((rd x7_3 x11_3) - x13_3)):List Int)).bind fun y270=>((some (y270.set (x12_3:Int).toNat (wrap64 ((rd y270 x12_3)+x13_3)):List Int)).bind fun y272=>((spec_doStep.f k3 y272 x8_2).bind fun bt273=>(spec_TableFor.l1 (fun q t=>spec_TableForB.f q l0 l1 t (l0.length:Int)) k3 (l0.length:Int) y272 x8_2 t266 bt273.1 bt273.2.1 bt273.2.2.1 bt273.2.2.2))))=some (r1,r2):=H
              have A35:=zad A350;clear A350;obtain ⟨y270,hy270⟩:∃ y_:List Int,y_=(x7_3.set (x11_3:Int).toNat (wrap64 ((rd x7_3 x11_3) - x13_3))):=⟨_,rfl⟩
              replace H:((some (y270.set (x12_3:Int).toNat (wrap64 ((rd y270 x12_3)+x13_3)):List Int)).bind fun y272=>((spec_doStep.f k3 y272 x8_2).bind fun bt273=>(spec_TableFor.l1 (fun q t=>spec_TableForB.f q l0 l1 t (l0.length:Int)) k3 (l0.length:Int) y272 x8_2 t266 bt273.1 bt273.2.1 bt273.2.2.1 bt273.2.2.2)))=some (r1,r2):=by first | (rw [hy270];with_reducible exact H) | (have H2_:=(zbd _ _).symm.trans H;rw [hy270];with_reducible exact H2_) | (have H2_:=(zbd _ _).symm.trans H;with_reducible exact H2_) | with_reducible exact H | (rw [hy270];exact H) | exact H
              have Ny270:=zad hy270;clear hy270;obtain ⟨y272,hy272⟩:∃ y_:List Int,y_=(y270.set (x12_3:Int).toNat (wrap64 ((rd y270 x12_3)+x13_3))):=⟨_,rfl⟩
              replace H:((spec_doStep.f k3 y272 x8_2).bind fun bt273=>(spec_TableFor.l1 (fun q t=>spec_TableForB.f q l0 l1 t (l0.length:Int)) k3 (l0.length:Int) y272 x8_2 t266 bt273.1 bt273.2.1 bt273.2.2.1 bt273.2.2.2))=some (r1,r2):=by first | (rw [hy272];with_reducible exact H) | (have H2_:=(zbd _ _).symm.trans H;rw [hy272];with_reducible exact H2_) | (have H2_:=(zbd _ _).symm.trans H;with_reducible exact H2_) | with_reducible exact H | (rw [hy272];exact H) | exact H
              have Ny272:=zad hy272;clear hy272;replace H:=zay.mp H;obtain ⟨⟨t273,t274,t275,t276⟩,A380,H⟩:=H
              replace H:(spec_TableFor.l1 (fun q t=>spec_TableForB.f q l0 l1 t (l0.length:Int)) k3 (l0.length:Int) y272 x8_2 t266 t273 t274 t275 t276)=some (r1,r2):=H
              have A38:=zad A380;clear A380;have H':=zad H
              clear H;try go_wp2
              have n0_:=zad (zak HO_7.out)
              have n1_:=zad (zak HO_8.out)
              have n2_:=zad (Kd.S_drew HO_9.out)
              have n3_:=zad (zaf HB.out)
              clear HO_7 HO_8 HO_9 HB;have HO_7:=n0_;have HO_8:=n1_;have HO_9:=n2_;have HB:=n3_;clear n0_ n1_ n2_ n3_;have p261:0≤(x11_3:Int):=zas (taaa)
              have q261:x11_3<(x7_3.length:Int):=zas (taaa)
              obtain ⟨ad261,e261,hx261_0⟩:=zca (zbf HO_7.out).2.2 x11_3 p261 q261
              cases e261
              replace p261:=eq_true p261
              replace q261:=eq_true q261
              have p262:0≤(x12_3:Int):=zas (taaa)
              have q262:x12_3<(x7_3.length:Int):=zas (taaa)
              obtain ⟨ad262,e262,hx262_0⟩:=zca (zbf HO_7.out).2.2 x12_3 p262 q262
              obtain rfl:ad261=ad262:=(by injection e262)
              replace p262:=eq_true p262
              replace q262:=eq_true q262
              refine start_ (n:=17) (S:=fun w'=>w'.cell? (ad261.add (x11_3).toNat)=some (.int .i64 (rd x7_3 x11_3))∧w'.cell? (ad261.add (x12_3).toNat)=some (.int .i64 (rd x7_3 x12_3))) (ds:=[]) #[false,false,false,false,false,false,false,false,false,false,false,false,false,false,false,false,false] (by kernel_rfl) rfl rfl ⟨hx261_0,hx262_0⟩ (fun hHeld => ?_);refine with_tabW spec_TableFor.tab14 spec_TableFor.bits14 (fun HT_ HW_ => ?_)
              generalize wr.drew=w39 at HO_7 HO_8 HO_9 HB hx261_0 hx262_0 hHeld ⊢
              refine pure_ (i:=0) (N:=some 79) (v := ?_) (a' := ?_) tagx rfl rfl (zby HT_.out (by kernel_rfl)) (fun _ _ _ h=>h) (Or.inl ⟨by rfl,?_⟩) ?_ ?_
              rotate_left
              ·intro w'
               go_simp;with_reducible rfl
              rotate_left
              ·simp only [Act.put,zaa,zab,zac,zbw,zbx]
               rfl
              refine pure_ (i:=1) (N:=some 80) (v := ?_) (a' := ?_) tagy rfl rfl (zby HT_.out (by kernel_rfl)) (fun _ _ _ h=>h) (Or.inl ⟨by rfl,?_⟩) ?_ ?_
              rotate_left
              ·intro w'
               go_simp;with_reducible rfl
              rotate_left
              ·simp only [Act.put,zaa,zab,zac,zbw,zbx]
               rfl
              refine pure_ (i:=2) (N:=some 81) (v := ?_) (a' := ?_) tagz rfl rfl (zby HT_.out (by kernel_rfl)) (fun _ _ _ h=>h) (Or.inl ⟨by rfl,?_⟩) ?_ ?_
              rotate_left
              ·intro w'
               go_simp;with_reducible rfl
              rotate_left
              ·simp only [Act.put,zaa,zab,zac,zbw,zbx]
               rfl
              refine pure_ (i:=3) (N:=some 82) (v := ?_) (a' := ?_) taha rfl rfl (zby HT_.out (by kernel_rfl)) (fun _ _ _ h=>h) (Or.inl ⟨by rfl,?_⟩) ?_ ?_
              rotate_left
              ·intro w'
               go_simp;with_reducible rfl
              rotate_left
              ·simp only [Act.put,zaa,zab,zac,zbw,zbx]
               rfl
              refine pure_ (i:=4) (N:=some 83) (v := ?_) (a' := ?_) tahb rfl rfl (zby HT_.out (by kernel_rfl)) (fun _ _ _ h=>h) (Or.inl ⟨by rfl,?_⟩) ?_ ?_
              rotate_left
              ·intro w'
               go_simp;with_reducible rfl
              rotate_left
              ·simp only [Act.put,zaa,zab,zac,zbw,zbx]
               rfl
              refine pure_ (i:=5) (N:=some 84) (v := ?_) (a' := ?_) tahc rfl rfl (zby HT_.out (by kernel_rfl)) (fun _ _ _ h=>h) (Or.inl ⟨by rfl,?_⟩) ?_ ?_
              rotate_left
              ·intro w'
               go_simp;with_reducible rfl
              rotate_left
              ·simp only [Act.put,zaa,zab,zac,zbw,zbx]
               rfl
              refine pure_ (i:=7) (N:=some 86) (v := ?_) (a' := ?_) tahd rfl rfl (zby HT_.out (by kernel_rfl)) (fun _ _ _ h=>h) (Or.inl ⟨by rfl,?_⟩) ?_ ?_
              rotate_left
              ·intro w'
               go_simp;with_reducible rfl
              rotate_left
              ·simp only [Act.put,zaa,zab,zac,zbw,zbx]
               rfl
              refine pure_ (i:=8) (N:=some 87) (v := ?_) (a' := ?_) tahe rfl rfl (zby HT_.out (by kernel_rfl)) (fun _ _ _ h=>h) (Or.inl ⟨by rfl,?_⟩) ?_ ?_
              rotate_left
              ·intro w'
               go_simp;with_reducible rfl
              rotate_left
              ·simp only [Act.put,zaa,zab,zac,zbw,zbx]
               rfl
              refine pure_ (i:=9) (N:=some 88) (v := ?_) (a' := ?_) tahf rfl rfl (zby HT_.out (by kernel_rfl)) (fun _ _ _ h=>h) (Or.inl ⟨by rfl,?_⟩) ?_ ?_
              rotate_left
              ·intro w'
               go_simp;with_reducible rfl
              rotate_left
              ·simp only [Act.put,zaa,zab,zac,zbw,zbx]
               rfl
              refine pure_ (i:=12) (N:=some 91) (v := ?_) (a' := ?_) tahg rfl rfl (zby HT_.out (by kernel_rfl)) (fun _ _ _ h=>h) (Or.inl ⟨by rfl,?_⟩) ?_ ?_
              rotate_left
              ·intro w'
               go_simp;with_reducible rfl
              rotate_left
              ·simp only [Act.put,zaa,zab,zac,zbw,zbx]
               rfl
              refine pure_ (i:=14) (N:=some 93) (v := ?_) (a' := ?_) tahh rfl rfl (zby HT_.out (by kernel_rfl)) (fun _ _ _ h=>h) (Or.inl ⟨by rfl,?_⟩) ?_ ?_
              rotate_left
              ·intro w'
               go_simp;with_reducible rfl
              rotate_left
              ·simp only [Act.put,zaa,zab,zac,zbw,zbx]
               rfl
              refine take_ (i:=6) (N:=some 85) (v := ?_) (a' := ?_) tahi rfl rfl (zbz HT_.out HW_.out (by kernel_rfl)) (fun _ _ _ h=>h) (Or.inl ⟨by rfl,?_⟩) hHeld ?_ ?_
              rotate_left
              ·rintro w' ⟨s0,s1⟩
               go_simp;with_reducible rfl
              rotate_left
              ·simp only [Act.put,zaa,zab,zac,zbw,zbx]
               rfl
              refine take_ (i:=10) (N:=some 89) (v := ?_) (a' := ?_) tahj rfl rfl (zbz HT_.out HW_.out (by kernel_rfl)) (fun _ _ _ h=>h) (Or.inl ⟨by rfl,?_⟩) hHeld ?_ ?_
              rotate_left
              ·rintro w' ⟨s0,s1⟩
               go_simp;with_reducible rfl
              rotate_left
              ·simp only [Act.put,zaa,zab,zac,zbw,zbx]
               rfl
              refine pure_ (i:=11) (N:=some 90) (v := ?_) (a' := ?_) tahk rfl rfl (zby HT_.out (by kernel_rfl)) (fun _ _ _ h=>h) (Or.inl ⟨by rfl,?_⟩) ?_ ?_
              rotate_left
              ·intro w'
               go_simp;with_reducible rfl
              rotate_left
              ·simp only [Act.put,zaa,zab,zac,zbw,zbx]
               rfl
              refine one_ (i:=13) (N:=some 92) #[true,true,true,true,true,true,true,true,true,true,true,true,true,true,true,false,false] rfl rfl (one_of HT_.out (by kernel_rfl)) (by decide) (fun K hK => ?_)
              refine goes_ Tryz.func45 (by kernel_rfl) rfl #[.int .i64 (l0.length:Int),.int .i64 x11_3,.int .i64 x12_3,.int .i64 (wrap64 ((rd x7_3 x11_3) - (rd x7_3 x12_3))),.int .i64 x13_3] (by rfl) rfl rfl (taae) ?_
              with_reducible refine (spec_doGift.calls k3 (l0.length:Int) x11_3 x12_3 (wrap64 ((rd x7_3 x11_3) - (rd x7_3 x12_3))) x13_3 t263 _ A34.out).mono ?_
              rintro e w40 ⟨v264,rfl,ho0,hb⟩
              have HS0_:=(hb.cell (zaz _ _ (hHeld.1))).trans (hHeld.1)
              have HS1_:=(hb.cell (zaz _ _ (hHeld.2))).trans (hHeld.2)
              refine ⟨_,rfl,?_⟩
              have n0_:=zad (zbt (taak) hb)
              have n1_:=zad (zbt (taap) hb)
              have n2_:=zad (Kd.S_elder' (taav) (Kd.S_base ho0) hb)
              have n3_:=zad (Kd.S_lower (Kd.S_new' (Kd.S_new' (Kd.S_new' (Kd.S_newM (M:=fun k_=>(w.heap.size≤k_)) ho0 (zbk (taab)) (fun k_ h_=>h_)) (zce (taak))) (zce (taap))) (Kd.S_lt (taav))) (zbk (taab)))
              have n4_:=zad (zbg (taab) hb)
              clear HO_7 HO_8 HO_9 HB;have HO_7:=n0_;have HO_8:=n1_;have HO_9:=n2_;have HO265:=n3_;have HB:=n4_;clear n0_ n1_ n2_ n3_ n4_;(try clear hb);(try clear hb2);(try clear hk);(try clear hi);(try clear ho0);obtain ⟨Ao41,co41,eo41⟩:=Kd.S_slice HO265.out
              (first | subst eo41 | (injection eo41 with f1_ f2_ f3_;have f4_:=f1_.symm;have f5_:=f3_.symm;clear f1_ f2_ f3_;subst f4_;subst f5_))
              obtain ⟨Ao42,co42,eo42⟩:=Kd.S_slice HO_9.out
              (first | subst eo42 | (injection eo42 with f1_ f2_ f3_;have f4_:=f1_.symm;have f5_:=f3_.symm;clear f1_ f2_ f3_;subst f4_;subst f5_))
              refine hK.out _ _ ⟨HS0_,HS1_⟩ (fun hHeld => ?_)
              clear hK K;refine norm_ (a' := ?_) ?_ ?_
              rotate_left
              ·show Act.put _ (some 92) _=_
               simp only [Act.put,zaa,zab,zac,zbw,zbx]
               rfl
              refine one_ (i:=15) (N:=some 94) #[true,true,true,true,true,true,true,true,true,true,true,true,true,true,true,true,false] rfl rfl (one_of HT_.out (by kernel_rfl)) (by decide) (fun K hK => ?_)
              refine goes_ Tryz.func44 (by kernel_rfl) rfl #[.slice Ao41 t263.length co41,.slice Ao42 x9_3.length co42] (by rfl) rfl rfl (taae) ?_
              with_reducible refine (spec_doTimes.calls k3 _ _ t263 _ _ x9_3 t266 _ ?side1 ?side2 ?side3 ?side4 A35.out).mono ?_
              (case side1=>repeat (first | exact (Kd.S_reads' HO265.out).2.2 | (with_reducible refine zal ?_ _) | (with_reducible refine zam ?_ _) | (with_reducible refine zan ?_)))
              (case side2=>exact (Kd.S_reads' HO265.out).2.1)
              (case side3=>exact tagb)
              (case side4=>exact (Kd.S_reads' HO_9.out).2.1)
              rintro e w43 ⟨v267,rfl,ho0,hb⟩
              have HS0_:=(hb.cell (zaz _ _ (hHeld.1))).trans (hHeld.1)
              have HS1_:=(hb.cell (zaz _ _ (hHeld.2))).trans (hHeld.2)
              refine ⟨_,rfl,?_⟩
              have n0_:=zad (zbt (taak) hb)
              have n1_:=zad (zbt (taap) hb)
              have n2_:=zad (Kd.S_elder' (taav) (Kd.S_base ho0) hb)
              have n3_:=zad (Kd.S_elder' (tacr) (Kd.S_base ho0) hb)
              have n4_:=zad (Kd.S_lower (Kd.S_new' (Kd.S_new' (Kd.S_new' (Kd.S_new' (Kd.S_newM (M:=fun k_=>(w.heap.size≤k_)) ho0 (zbk (taab)) (fun k_ h_=>h_)) (zce (taak))) (zce (taap))) (Kd.S_lt (taav))) (Kd.S_lt (tacr))) (zbk (taab)))
              have n5_:=zad (zbg (taab) hb)
              clear HO_7 HO_8 HO_9 HO265 HB;have HO_7:=n0_;have HO_8:=n1_;have HO_9:=n2_;have HO265:=n3_;have HO268:=n4_;have HB:=n5_;clear n0_ n1_ n2_ n3_ n4_ n5_;(try clear hb);(try clear hb2);(try clear hk);(try clear hi);(try clear ho0);refine hK.out _ _ ⟨HS0_,HS1_⟩ (fun hHeld => ?_)
              clear hK K;refine norm_ (a' := ?_) ?_ ?_
              rotate_left
              ·show Act.put _ (some 94) _=_
               simp only [Act.put,zaa,zab,zac,zbw,zbx]
               rfl
              refine pure_ (i:=16) (N:=some 9) (v := ?_) (a' := ?_) #[true,true,true,true,true,true,true,true,true,true,true,true,true,true,true,true,true] rfl rfl (zby HT_.out (by kernel_rfl)) (fun _ _ _ h=>h) (Or.inl ⟨by rfl,?_⟩) ?_ ?_
              rotate_left
              ·intro w'
               go_simp;with_reducible rfl
              rotate_left
              ·simp only [Act.put,zaa,zab,zac,zbw,zbx]
               rfl
              refine done_ (done_of HT_.out (by kernel_rfl)) ?_
              have p269:0≤(x11_3:Int):=zas (taaa)
              have q269:x11_3<(x7_3.length:Int):=zas (taaa)
              obtain ⟨ad269,e269,hx269_0⟩:=zca (zbf HO_7.out).2.2 x11_3 p269 q269
              obtain rfl:ad261=ad269:=(by injection e269)
              replace p269:=eq_true p269
              replace q269:=eq_true q269
              have p36:0≤(x11_3:Int):=zas (taaa)
              have q36:(x11_3:Int)<((x7_3.length:Int):Int):=zas (taaa)
              obtain ⟨go36,co36,eo36,gb36,gl36,cl36,HG36⟩:=Kd.R_form HO_7.out (by omega)
              (first | cases eo36 | (injection eo36 with ea_ en_ ec_;(first | subst ea_ | (injection ea_ with ea_;subst ea_));subst ec_;clear en_))
              have GB36:=zad gb36;have GG36:=zad HG36;clear gb36 gl36 HG36;(first | simp only [add_plain] at hx261_0 | skip)
              (first | simp only [add_plain] at hx262_0 | skip)
              (first | simp only [add_plain] at hx269_0 | skip)
              obtain ⟨hx36_0,hf36_0⟩:=Kd.R_celln 0 HO_7.out (x11_3:Int) p36 q36
              replace p36:=eq_true p36
              replace q36:=eq_true q36
              obtain ⟨hy44_,hz44_⟩:=Kd.R_celln 0 HO_7.out (x11_3:Int) (zas (taaa)) (zas (taaa))
              have HP44:=Kd.R_putg HO_7.out (x11_3:Int) (wrap64 ((rd x7_3 x11_3) - x13_3))
              try go_wp2_with (first | ((with_reducible refine gate_store (t:=3) (p:=101) rfl ?_);refine store_event (t:=3) (p:=101) (v := ?vo_w45) (w1:=(w43.setCell ⟨go36,(x11_3:Int).toNat,none⟩ (.int .i64 (wrap64 ((rd x7_3 x11_3) - x13_3))))) ?hg ?ho ?hn ?hr ?_;(case ho=>rfl);(case hg=>rfl);(case hn=>rfl);(case hr=>first | (go_simp;done) | (go_simp;rfl));intro w45 hw;have hg:w43.grownBy w45 (some go36):=(by rw [hw];exact HP44.2);have hp_:Kd.R (Kd.int .i64) 3 w45 w.heap.size (fun k_=>(w.heap.size≤k_)∧some k_≠(.slice Ao28 x8_2.length co28:Value).ownBlock) (.slice (some ⟨go36,0,none⟩) x7_3.length co27) y270:=(by rw [hw,Ny270.out];exact HP44.1);clear HP44;have n0_:=zad (hp_);have n1_:=zad (Kd.R_after (v:=(.slice (some ⟨go36,0,none⟩) x7_3.length co27)) (v1:=(.slice (some ⟨go36,0,none⟩) x7_3.length co27)) (ok:=(fun k_=>(w.heap.size≤k_))) (taap) hg (.inl rfl));have n2_:=zad (Kd.S_after (v:=(.slice (some ⟨go36,0,none⟩) x7_3.length co27)) (v1:=(.slice (some ⟨go36,0,none⟩) x7_3.length co27)) (ok:=(fun k_=>(w.heap.size≤k_)∧some k_≠(.slice Ao28 x8_2.length co28:Value).ownBlock∧some k_≠(.slice Ao41 t263.length co41:Value).ownBlock∧some k_≠(v267:Value).ownBlock)) (by (with_reducible repeat (first | apply Kd.S_alloc | apply Kd.S_drewN | apply Kd.S_drew));exact Kd.S_mono HO_9.out (fun _ hk=>⟨⟨hk.1.1.1,⟨hk.1.1.2.2,⟨hk.1.2,hk.2⟩⟩⟩,hk.1.1.2.1⟩)) hg (.inl rfl));have n3_:=zad (Kd.S_after (v:=(.slice (some ⟨go36,0,none⟩) x7_3.length co27)) (v1:=(.slice (some ⟨go36,0,none⟩) x7_3.length co27)) (ok:=(fun k_=>(w.heap.size≤k_)∧some k_≠(.slice Ao28 x8_2.length co28:Value).ownBlock∧some k_≠(.slice Ao42 x9_3.length co42:Value).ownBlock∧some k_≠(v267:Value).ownBlock)) (by (with_reducible repeat (first | apply Kd.S_alloc | apply Kd.S_drewN | apply Kd.S_drew));exact Kd.S_mono HO265.out (fun _ hk=>⟨⟨hk.1.1.1.1.1,⟨hk.1.1.2,⟨hk.1.2,hk.2⟩⟩⟩,hk.1.1.1.2⟩)) hg (.inl rfl));have n4_:=zad (Kd.S_after (v:=(.slice (some ⟨go36,0,none⟩) x7_3.length co27)) (v1:=(.slice (some ⟨go36,0,none⟩) x7_3.length co27)) (ok:=(fun k_=>(w.heap.size≤k_)∧some k_≠(.slice Ao28 x8_2.length co28:Value).ownBlock∧some k_≠(.slice Ao42 x9_3.length co42:Value).ownBlock∧some k_≠(.slice Ao41 t263.length co41:Value).ownBlock)) (by (with_reducible repeat (first | apply Kd.S_alloc | apply Kd.S_drewN | apply Kd.S_drew));exact Kd.S_mono HO268.out (fun _ hk=>⟨⟨hk.1.1.1.1.1,⟨hk.1.1.2,⟨hk.1.2,hk.2⟩⟩⟩,hk.1.1.1.2⟩)) hg (.inl rfl));have n5_:=zad ((by rw [hw];exact zah (HB.out) GB36.out:Below w.heap.size w w45));clear HO_7 HO_8 HO_9 HO265 HO268 HB;have HO_7:=n0_;have HO_8:=n1_;have HO_9:=n2_;have HO265:=n3_;have HO268:=n4_;have HB:=n5_;clear n0_ n1_ n2_ n3_ n4_ n5_ hg hw hp_;have p271:0≤(x12_3:Int):=zas (taaa);have q271:x12_3<(y270.length:Int):=(by have h_:(x12_3:Int)<((x7_3.length:Int):Int):=zas (taaa);first | (have e_:=(zbf HO_7.out).1;omega) | simpa only [Ny270.out,List.length_set] using h_);have ql271:((x12_3:Int)<((x7_3.length:Int):Int))=True:=eq_true (zas (taaa));obtain ⟨ad271,e271,hx271_0⟩:=zca (zbf HO_7.out).2.2 x12_3 p271 q271;obtain rfl:(⟨go36,0,none⟩:Addr)=ad271:=(by injection e271);(first | simp only [add_plain] at hx271_0 | simp only [add_at] at hx271_0 | simp only [Addr.add,Nat.zero_add] at hx271_0 | skip);replace p271:=eq_true p271;replace q271:=eq_true q271;have p37:0≤(x12_3:Int):=zas (taaa);have q37:(x12_3:Int)<((x7_3.length:Int):Int):=zas (taaa);obtain ⟨hx37_0,hf37_0⟩:=Kd.R_celln 0 HO_7.out (x12_3:Int) p37 q37;replace p37:=eq_true p37;replace q37:=eq_true q37;obtain ⟨hy46_,hz46_⟩:=Kd.R_celln 0 HO_7.out (x12_3:Int) (zas (taaa)) (zas (taaa));have HP46:=Kd.R_putg HO_7.out (x12_3:Int) (wrap64 ((rd y270 x12_3)+x13_3))) | ((with_reducible refine gate_store (t:=3) (p:=108) rfl ?_);refine store_event (t:=3) (p:=108) (v := ?vo_w47) (w1:=(w45.setCell ⟨go36,(x12_3:Int).toNat,none⟩ (.int .i64 (wrap64 ((rd y270 x12_3)+x13_3))))) ?hg ?ho ?hn ?hr ?_;(case ho=>rfl);(case hg=>rfl);(case hn=>rfl);(case hr=>first | (go_simp;done) | (go_simp;rfl));intro w47 hw;have hg:w45.grownBy w47 (some go36):=(by rw [hw];exact HP46.2);have hp_:Kd.R (Kd.int .i64) 3 w47 w.heap.size (fun k_=>(w.heap.size≤k_)∧some k_≠(.slice Ao28 x8_2.length co28:Value).ownBlock) (.slice (some ⟨go36,0,none⟩) x7_3.length co27) y272:=(by rw [hw,Ny272.out];exact HP46.1);clear HP46;have n0_:=zad (hp_);have n1_:=zad (Kd.R_after (v:=(.slice (some ⟨go36,0,none⟩) x7_3.length co27)) (v1:=(.slice (some ⟨go36,0,none⟩) x7_3.length co27)) (ok:=(fun k_=>(w.heap.size≤k_))) (taap) hg (.inl rfl));have n2_:=zad (Kd.S_after (v:=(.slice (some ⟨go36,0,none⟩) x7_3.length co27)) (v1:=(.slice (some ⟨go36,0,none⟩) x7_3.length co27)) (ok:=(fun k_=>(w.heap.size≤k_)∧some k_≠(.slice Ao28 x8_2.length co28:Value).ownBlock∧some k_≠(.slice Ao41 t263.length co41:Value).ownBlock∧some k_≠(v267:Value).ownBlock)) (taav) hg (.inl rfl));have n3_:=zad (Kd.S_after (v:=(.slice (some ⟨go36,0,none⟩) x7_3.length co27)) (v1:=(.slice (some ⟨go36,0,none⟩) x7_3.length co27)) (ok:=(fun k_=>(w.heap.size≤k_)∧some k_≠(.slice Ao28 x8_2.length co28:Value).ownBlock∧some k_≠(.slice Ao42 x9_3.length co42:Value).ownBlock∧some k_≠(v267:Value).ownBlock)) (tacr) hg (.inl rfl));have n4_:=zad (Kd.S_after (v:=(.slice (some ⟨go36,0,none⟩) x7_3.length co27)) (v1:=(.slice (some ⟨go36,0,none⟩) x7_3.length co27)) (ok:=(fun k_=>(w.heap.size≤k_)∧some k_≠(.slice Ao28 x8_2.length co28:Value).ownBlock∧some k_≠(.slice Ao42 x9_3.length co42:Value).ownBlock∧some k_≠(.slice Ao41 t263.length co41:Value).ownBlock)) (by (with_reducible repeat (first | apply Kd.S_alloc | apply Kd.S_drewN | apply Kd.S_drew));exact HO268.out) hg (.inl rfl));have n5_:=zad ((by rw [hw];exact zah (HB.out) GB36.out:Below w.heap.size w w47));clear HO_7 HO_8 HO_9 HO265 HO268 HB;have HO_7:=n0_;have HO_8:=n1_;have HO_9:=n2_;have HO265:=n3_;have HO268:=n4_;have HB:=n5_;clear n0_ n1_ n2_ n3_ n4_ n5_ hg hw hp_) | ((with_reducible refine zbh (f:=43) rfl ?_);refine zbn (some 74) rfl rfl Tryz.func43 (by kernel_rfl) rfl #[.slice (some ⟨go36,0,none⟩) y272.length co27,.slice Ao28 x8_2.length co28] rfl (by (try simp only [zat,zau,zav]);first | done | (rw [show y272.length=x7_3.length from (zbf HO_7.out).1.symm] <;> rfl) | rfl | (simp only [zaw,zax];rfl)) ?_;(with_reducible refine (spec_doStep.calls k3 _ _ y272 _ _ x8_2 t273 t274 t275 t276 _ ?side1 ?side2 ?side3 ?side4 A38.out).mono ?_);(case side1=>exact tafn);(case side2=>rw [show y272.length=x7_3.length from (zbf HO_7.out).1.symm];exact (zbf HO_7.out).2.1);(case side3=>exact tafr);(case side4=>exact (zbf HO_8.out).2.1);rintro e w' ⟨rfl,⟨nd,rfl⟩⟩;refine ⟨_,rfl,?_⟩))
              (try simp only [← hl7_3])
              go_roundg k3
              case measure=>have:=HJ2.out;have:=HK2.out;have:=HK3.out;omega
              case rel=>exact ⟨(y272),(t266),(t273),(t274),(t275),(t276),(taad),(taad),(taad),(taad),H',⟨by have:=HJ2.out;have:=HK2.out;have:=HK3.out;omega⟩,⟨by (try simp only [hl9_2]);(try simp only [hl7_3]);(with_reducible repeat (first | apply zai | apply zaj | apply zak));exact HO_7.out⟩,⟨by (try simp only [hl9_2]);(try simp only [hl7_3]);(with_reducible repeat (first | apply zai | apply zaj | apply zak));exact HO_8.out⟩,⟨by (try simp only [hl9_2]);(try simp only [hl7_3]);(with_reducible repeat (first | apply Kd.S_alloc | apply Kd.S_drewN | apply Kd.S_drew));exact Kd.S_mono HO268.out (fun _ hk=>⟨hk.1.1,⟨hk.2,hk.1.2.1⟩⟩)⟩,⟨taab⟩⟩
             ·rw [if_neg c33] at H
              exact absurd H (taac)
            ·rw [if_neg c32] at H
             exact absurd H (taac)
           ·rw [if_neg c31] at H
            exact absurd H (taac)
          ·rw [if_neg c30] at H
           exact absurd H (taac)
         ·replace c29:=zbi.mpr c29
          subst c29;have H1:(spec_TableForB.f k3 l0 l1 x9_3 (l0.length:Int))=some (r1,r2):=by rw [if_neg (show ¬ (false=true) by decide)] at H;exact H
          clear H;have H:=H1;clear H1;obtain ⟨Ao49,co49,eo49⟩:=Kd.S_slice HO_9.out
          subst eo49;have HRa:=zad (Kd.C_below HR0.out HB.out)
          have HRb:=zad (Kd.C_below HR1.out HB.out)
          have HR2:=zad (Kd.S_reads' HO_9.out).2.2
          have HC2:=zad (Kd.S_reads' HO_9.out).2.1
          clear HO_7 HO_8 HO_9 HR0 HR1;revert HB HRa HRb HR2
          generalize wr=wb
          intro HBW HR0 HR1 HR2
          have HB:=zad (Below.refl wb.heap.size wb)
          have H:((spec_doPlaces.f k3 l0).bind fun t241=>((spec_doPlaces.f k3 l1).bind fun t244=>((spec_doEmpty.f k3 (l0.length:Int)).bind fun t247=>(spec_TableForB.l0 k3 x9_3 t241 t244 t247 0 (t247.length:Int) 0))))=some (r1,r2):=H
          replace H:=zay.mp H;obtain ⟨t241,A50,H⟩:=H
          replace H:((spec_doPlaces.f k3 l1).bind fun t244=>((spec_doEmpty.f k3 (l0.length:Int)).bind fun t247=>(spec_TableForB.l0 k3 x9_3 t241 t244 t247 0 (t247.length:Int) 0)))=some (r1,r2):=H
          have A5:=zad A50;clear A50;replace H:=zay.mp H;obtain ⟨t244,A60,H⟩:=H
          replace H:((spec_doEmpty.f k3 (l0.length:Int)).bind fun t247=>(spec_TableForB.l0 k3 x9_3 t241 t244 t247 0 (t247.length:Int) 0))=some (r1,r2):=H
          have A6:=zad A60;clear A60;replace H:=zay.mp H;obtain ⟨t247,A70,H⟩:=H
          replace H:(spec_TableForB.l0 k3 x9_3 t241 t244 t247 0 (t247.length:Int) 0)=some (r1,r2):=H
          have A7:=zad A70;clear A70;have H':=zad H
          clear H;go_wp2_with (first | ((with_reducible refine zbh (f:=46) rfl ?_);refine zbn (some 110) rfl rfl Tryz.func46 (by kernel_rfl) rfl #[.slice A0 l0.length c0] rfl (taae) ?_;(with_reducible refine (spec_doPlaces.calls k3 _ _ l0 t241 _ ?side1 ?side2 A5.out).mono ?_);(case side1=>repeat (first | exact HR0.out | (with_reducible refine zal ?_ _) | (with_reducible refine zam ?_ _) | (with_reducible refine zan ?_)));(case side2=>exact HC0.out);rintro e w8 ⟨v242,rfl,ho0,hb⟩;refine ⟨_,rfl,?_⟩;have n0_:=zad (zbu (Kd.R_newM (M:=fun k_=>(wb.heap.size≤k_)) ho0 (zbk (taab)) (fun k_ h_=>h_)) (zbk (taab)));have n1_:=zad (zbg (taab) hb);clear HB;have HO243:=n0_;have HB:=n1_;clear n0_ n1_;(try clear hb);(try clear hb2);(try clear hk);(try clear hi);(try clear ho0)) | ((with_reducible refine zbh (f:=46) rfl ?_);refine zbn (some 112) rfl rfl Tryz.func46 (by kernel_rfl) rfl #[.slice A1 l1.length c1] rfl (taae) ?_;(with_reducible refine (spec_doPlaces.calls k3 _ _ l1 t244 _ ?side1 ?side2 A6.out).mono ?_);(case side1=>repeat (first | exact (Kd.C_below HR1.out HB.out) | (with_reducible refine zal ?_ _) | (with_reducible refine zam ?_ _) | (with_reducible refine zan ?_)));(case side2=>exact HC1.out);rintro e w9 ⟨v245,rfl,ho0,hb⟩;refine ⟨_,rfl,?_⟩;have n0_:=zad (zcb (tach) (zcd ho0) hb);have n1_:=zad (zbu (zcc (Kd.R_newM (M:=fun k_=>(wb.heap.size≤k_)) ho0 (zbk (taab)) (fun k_ h_=>h_)) (zce (tach))) (zbk (taab)));have n2_:=zad (zbg (taab) hb);clear HO243 HB;have HO243:=n0_;have HO246:=n1_;have HB:=n2_;clear n0_ n1_ n2_;(try clear hb);(try clear hb2);(try clear hk);(try clear hi);(try clear ho0)) | ((with_reducible refine zbh (f:=42) rfl ?_);refine zbn (some 114) rfl rfl Tryz.func42 (by kernel_rfl) rfl #[.int .i64 (l0.length:Int)] rfl (taae) ?_;(with_reducible refine (spec_doEmpty.calls k3 (l0.length:Int) t247 _ A7.out).mono ?_);rintro e w10 ⟨v248,rfl,ho0,hb⟩;refine ⟨_,rfl,?_⟩;have n0_:=zad (zbt (tach) hb);have n1_:=zad (zbt (tabp) hb);have n2_:=zad (Kd.S_lower (Kd.S_new' (Kd.S_new' (Kd.S_newM (M:=fun k_=>(wb.heap.size≤k_)) ho0 (zbk (taab)) (fun k_ h_=>h_)) (zce (tach))) (zce (tabp))) (zbk (taab)));have n3_:=zad (zbg (taab) hb);clear HO243 HO246 HB;have HO243:=n0_;have HO246:=n1_;have HO249:=n2_;have HB:=n3_;clear n0_ n1_ n2_ n3_;(try clear hb);(try clear hb2);(try clear hk);(try clear hi);(try clear ho0);obtain ⟨Ao11,co11,eo11⟩:=Kd.S_slice HO249.out;subst eo11))
          go_loopg [18,117] k3 (fun kq v18 v117 w'=>∃ (x15_1:List Int) (x16_1:List Int) (x17_1:List (List Int)) (x18_1:Int) (x117_1:Int),v18 = .int .i64 x18_1∧v117 = .int .i64 x117_1∧Aside0 (spec_TableForB.l0 kq x9_3 x15_1 x16_1 x17_1 x18_1 (t247.length:Int) x117_1=some (r1,r2))∧Aside0 (kq≤k3)∧Aside0 (Kd.R (Kd.int .i64) 3 w' wb.heap.size (fun k_=>(wb.heap.size≤k_)∧some k_≠(v245:Value).ownBlock) v242 x15_1)∧Aside0 (Kd.R (Kd.int .i64) 3 w' wb.heap.size (fun k_=>(wb.heap.size≤k_)∧some k_≠(v242:Value).ownBlock) v245 x16_1)∧Aside0 (Kd.S (Kd.slice 3 (Kd.int .i64)) 25 w' wb.heap.size (fun k_=>(wb.heap.size≤k_)∧some k_≠(v242:Value).ownBlock∧some k_≠(v245:Value).ownBlock) (.slice Ao11 t247.length co11) x17_1)∧Aside0 (Below wb.heap.size wb w'))
          case atStart=>exact ⟨(t241),(t244),(t247),(0),(0),(taad),(taad),H',⟨zcf _⟩,⟨by (with_reducible repeat (first | apply zai | apply zaj | apply zak));exact zbq HO243.out (fun _ hk=>⟨hk.1.1,hk.2⟩)⟩,⟨tadw⟩,⟨by (with_reducible repeat (first | apply Kd.S_alloc | apply Kd.S_drewN | apply Kd.S_drew));exact Kd.S_mono HO249.out (fun _ hk=>⟨hk.1.1.1,⟨hk.1.2,hk.2⟩⟩)⟩,⟨taab⟩⟩
          case round =>
           clear H'
           try clear c1
           try clear co49
           try clear p2
           try clear c4
           obtain ⟨x15_1,x16_1,x17_1,x18_1,x117_1,rfl,rfl,HA,HK1,HO_15,HO_16,HO_17,HB⟩:=hrel
           have hl17_1:=(Kd.S_reads' HO_17.out).1
           rw [hl17_1] at HO_17
           (try simp only [hl17_1])
           (try simp only [hl17_1] at HO_15)
           (try simp only [hl17_1] at HO_16)
           cases gk with
           | zero=>exact absurd HA.out (by simp [spec_TableForB.l0])
           | succ k1 =>
            have H:=HA.out
            clear HA;simp only [spec_TableForB.l0] at H
            by_cases c12:x117_1<(t247.length:Int)
            ·rw [if_pos c12] at H
             have c12b0:decide (x117_1<(t247.length:Int))=true:=zba c12
             have c12b0_:=c12b0
             (try rw [hl17_1] at c12b0_)
             (try rw [hl9_2] at c12b0_)
             clear c12;have H':=zad H
             clear H;go_wp2
             go_loopg [18,122] k1 (fun kq v18 v122 w'=>∃ (x15_2:List Int) (x16_2:List Int) (x17_2:List (List Int)) (x18_2:Int) (x122_2:Int),v18 = .int .i64 x18_2∧v122 = .int .i64 x122_2∧Aside0 (spec_TableForB.l1 kq x9_3 x15_2 x16_2 x17_2 x18_2 x117_1 (t247.length:Int) x117_1 (x17_1.length:Int) x122_2=some (r1,r2))∧Aside0 (kq≤k1)∧Aside0 (Kd.R (Kd.int .i64) 3 w' wb.heap.size (fun k_=>(wb.heap.size≤k_)∧some k_≠(v245:Value).ownBlock) v242 x15_2)∧Aside0 (Kd.R (Kd.int .i64) 3 w' wb.heap.size (fun k_=>(wb.heap.size≤k_)∧some k_≠(v242:Value).ownBlock) v245 x16_2)∧Aside0 (Kd.S (Kd.slice 3 (Kd.int .i64)) 25 w' wb.heap.size (fun k_=>(wb.heap.size≤k_)∧some k_≠(v242:Value).ownBlock∧some k_≠(v245:Value).ownBlock) (.slice Ao11 x17_1.length co11) x17_2)∧Aside0 (Below wb.heap.size wb w'))
             case atStart=>exact ⟨(x15_1),(x16_1),(x17_1),(x18_1),(0),(taad),(taad),H',⟨zcf _⟩,⟨by (try simp only [hl17_1]);(with_reducible repeat (first | apply zai | apply zaj | apply zak));exact HO_15.out⟩,⟨by (try simp only [hl17_1]);(with_reducible repeat (first | apply zai | apply zaj | apply zak));exact HO_16.out⟩,⟨by (try simp only [hl17_1]);(with_reducible repeat (first | apply Kd.S_alloc | apply Kd.S_drewN | apply Kd.S_drew));exact HO_17.out⟩,⟨taab⟩⟩
             case round =>
              clear H'
              try clear c1
              try clear co49
              try clear p2
              try clear c4
              try clear c12
              try clear c12b0
              try clear p2
              obtain ⟨x15_2,x16_2,x17_2,x18_2,x122_2,rfl,rfl,HA,HK2,HO_15,HO_16,HO_17,HB⟩:=hrel
              have hl17_2:=(Kd.S_reads' HO_17.out).1
              rw [hl17_2] at HO_17
              (try simp only [hl17_2])
              (try simp only [hl17_2] at HO_15)
              (try simp only [hl17_2] at HO_16)
              cases gk with
              | zero=>exact absurd HA.out (by simp [spec_TableForB.l1])
              | succ k2 =>
               have H:=HA.out
               clear HA;simp only [spec_TableForB.l1] at H
               by_cases c13:x122_2<(x17_1.length:Int)
               ·rw [if_pos c13] at H
                have c13b0:decide (x122_2<(x17_1.length:Int))=true:=zba c13
                have c13b0_:=c13b0
                (try rw [hl17_2] at c13b0_)
                (try rw [hl17_1] at c13b0_)
                (try rw [hl9_2] at c13b0_)
                clear c13;by_cases c14:0≤x117_1
                ·rw [if_pos c14] at H
                 have c14b0:decide (0≤x117_1)=true:=zba c14
                 clear c14;by_cases c15:x117_1<(x17_2.length:Int)
                 ·rw [if_pos c15] at H
                  have c15b0:decide (x117_1<(x17_2.length:Int))=true:=zba c15
                  have c15b0_:=c15b0
                  (try rw [hl17_2] at c15b0_)
                  (try rw [hl17_1] at c15b0_)
                  (try rw [hl9_2] at c15b0_)
                  clear c15;by_cases c16:x117_1<(x15_2.length:Int)
                  ·rw [if_pos c16] at H
                   have c16b0:decide (x117_1<(x15_2.length:Int))=true:=zba c16
                   have c16b0_:=c16b0
                   (try rw [hl17_2] at c16b0_)
                   (try rw [hl17_1] at c16b0_)
                   (try rw [hl9_2] at c16b0_)
                   clear c16;by_cases c17:0≤(rd x15_2 x117_1)
                   ·rw [if_pos c17] at H
                    have c17b0:decide (0≤(rd x15_2 x117_1))=true:=zba c17
                    clear c17;by_cases c18:(rd x15_2 x117_1)<(x9_3.length:Int)
                    ·rw [if_pos c18] at H
                     have c18b0:decide ((rd x15_2 x117_1)<(x9_3.length:Int))=true:=zba c18
                     clear c18;by_cases c19:0≤x122_2
                     ·rw [if_pos c19] at H
                      have c19b0:decide (0≤x122_2)=true:=zba c19
                      clear c19;by_cases c20:x122_2<(x16_2.length:Int)
                      ·rw [if_pos c20] at H
                       have c20b0:decide (x122_2<(x16_2.length:Int))=true:=zba c20
                       have c20b0_:=c20b0
                       (try rw [hl17_2] at c20b0_)
                       (try rw [hl17_1] at c20b0_)
                       (try rw [hl9_2] at c20b0_)
                       clear c20;by_cases c21:0≤(rd x16_2 x122_2)
                       ·rw [if_pos c21] at H
                        have c21b0:decide (0≤(rd x16_2 x122_2))=true:=zba c21
                        clear c21;by_cases c22:(rd x16_2 x122_2)<((rd_L2 x9_3 (rd x15_2 x117_1)).length:Int)
                        ·rw [if_pos c22] at H
                         have c22b0:decide ((rd x16_2 x122_2)<((rd_L2 x9_3 (rd x15_2 x117_1)).length:Int))=true:=zba c22
                         clear c22;by_cases c23:x122_2<((rd_L2 x17_2 x117_1).length:Int)
                         ·rw [if_pos c23] at H
                          have c23b0:decide (x122_2<((rd_L2 x17_2 x117_1).length:Int))=true:=zba c23
                          clear c23;obtain ⟨y255,hy255⟩:∃ y_:List Int,y_=((rd_L2 x17_2 x117_1).set (x122_2:Int).toNat (rd (rd_L2 x9_3 (rd x15_2 x117_1)) (rd x16_2 x122_2))):=⟨_,rfl⟩
                          replace H:((some (x17_2.set (x117_1:Int).toNat y255:List (List Int))).bind fun y257=>(if x122_2<((rd_L2 y257 x117_1).length:Int) then ((spec_doGcd.f k2 x18_2 (rd (rd_L2 y257 x117_1) x122_2)).bind fun t260=>(spec_TableForB.l1 k2 x9_3 x15_2 x16_2 y257 t260 x117_1 (t247.length:Int) x117_1 (x17_1.length:Int) (wrap64 (x122_2+1)))) else (none)))=some (r1,r2):=by first | (rw [hy255];with_reducible exact H) | (have H2_:=(zbd _ _).symm.trans H;rw [hy255];with_reducible exact H2_) | (have H2_:=(zbd _ _).symm.trans H;with_reducible exact H2_) | with_reducible exact H | (rw [hy255];exact H) | exact H
                          have Ny255:=zad hy255;clear hy255;obtain ⟨y257,hy257⟩:∃ y_:List (List Int),y_=(x17_2.set (x117_1:Int).toNat y255):=⟨_,rfl⟩
                          replace H:(if x122_2<((rd_L2 y257 x117_1).length:Int) then ((spec_doGcd.f k2 x18_2 (rd (rd_L2 y257 x117_1) x122_2)).bind fun t260=>(spec_TableForB.l1 k2 x9_3 x15_2 x16_2 y257 t260 x117_1 (t247.length:Int) x117_1 (x17_1.length:Int) (wrap64 (x122_2+1)))) else (none))=some (r1,r2):=by first | (rw [hy257];with_reducible exact H) | (have H2_:=(zbd _ _).symm.trans H;rw [hy257];with_reducible exact H2_) | (have H2_:=(zbd _ _).symm.trans H;with_reducible exact H2_) | with_reducible exact H | (rw [hy257];exact H) | exact H
                          have Ny257:=zad hy257;clear hy257;by_cases c25:x122_2<((rd_L2 y257 x117_1).length:Int)
                          ·rw [if_pos c25] at H
                           have c25b0:decide (x122_2<((rd_L2 y257 x117_1).length:Int))=true:=zba c25
                           clear c25;replace H:=zay.mp H;obtain ⟨t260,A260,H⟩:=H
                           replace H:(spec_TableForB.l1 k2 x9_3 x15_2 x16_2 y257 t260 x117_1 (t247.length:Int) x117_1 (x17_1.length:Int) (wrap64 (x122_2+1)))=some (r1,r2):=H
                           have A26:=zad A260;clear A260;have H':=zad H
                           clear H;try go_wp2
                           have n0_:=zad (zak HO_15.out)
                           have n1_:=zad (zak HO_16.out)
                           have n2_:=zad (Kd.S_drew HO_17.out)
                           have n3_:=zad (zaf HB.out)
                           clear HO_15 HO_16 HO_17 HB;have HO_15:=n0_;have HO_16:=n1_;have HO_17:=n2_;have HB:=n3_;clear n0_ n1_ n2_ n3_;have p250:0≤(x117_1:Int):=zas (taaa)
                           have q250:x117_1<(x17_2.length:Int):=zas (taaa)
                           obtain ⟨ad250,A250_0,c250_0,e250,hx250_0,hl250_0,hi250_0⟩:=at_L2 (Kd.S_reads' HO_17.out).2.2 x117_1 p250 q250
                           cases e250
                           obtain ⟨ce250,hce250,hMe250,hcc250⟩:=Kd.S_get HO_17.out [] x117_1 p250 (by first | exact q250 | exact zas (taaa) | (have e_:=(Kd.S_reads' HO_17.out).1;omega))
                           obtain ⟨ve250_0,rfl,ge250_0⟩:=hMe250
                           have hv250_0:=hcc250 0 _ rfl
                           rw [Nat.add_zero,show ((Kd.slice 3 (Kd.int .i64))).sz=1 from rfl,Nat.mul_one] at hv250_0
                           replace hv250_0:=zbe (hv250_0.symm.trans hx250_0)
                           rw [hv250_0] at ge250_0
                           have HL250_0:=zad (show Kd.R (Kd.int .i64) 3 _ _ _ _ (rd_L2 x17_2 x117_1) from ge250_0)
                           clear hv250_0 ge250_0;have HX250_0:=zad hx250_0;clear hcc250 hce250;have HR250_0:=zad hi250_0;have HC250_0:=zad hl250_0;clear hi250_0 hl250_0;replace p250:=eq_true p250
                           replace q250:=eq_true q250
                           obtain ⟨Ao28,co28,eo28⟩:=zbv HO_15.out
                           (first | subst eo28 | (injection eo28 with f1_ f2_ f3_;have f4_:=f1_.symm;have f5_:=f3_.symm;clear f1_ f2_ f3_;subst f4_;subst f5_))
                           have p251:0≤(x117_1:Int):=zas (taaa)
                           have q251:x117_1<(x15_2.length:Int):=zas (taaa)
                           obtain ⟨ad251,e251,hx251_0⟩:=zca (zbf HO_15.out).2.2 x117_1 p251 q251
                           cases e251
                           replace p251:=eq_true p251
                           replace q251:=eq_true q251
                           have p252:0≤((rd x15_2 x117_1):Int):=zas (taaa)
                           have q252:(rd x15_2 x117_1)<(x9_3.length:Int):=zas (taaa)
                           obtain ⟨ad252,A252_0,c252_0,e252,hx252_0,hl252_0,hi252_0⟩:=at_L2 HR2.out (rd x15_2 x117_1) p252 q252
                           have hw252_0:=hx252_0
                           cases e252
                           replace hx252_0:=(HB.out.cell (zaz wb _ hx252_0)).trans hx252_0
                           have HR252_0:=zad hi252_0;have HC252_0:=zad hl252_0;clear hi252_0 hl252_0;replace p252:=eq_true p252
                           replace q252:=eq_true q252
                           obtain ⟨Ao29,co29,eo29⟩:=zbv HO_16.out
                           (first | subst eo29 | (injection eo29 with f1_ f2_ f3_;have f4_:=f1_.symm;have f5_:=f3_.symm;clear f1_ f2_ f3_;subst f4_;subst f5_))
                           have p253:0≤(x122_2:Int):=zas (taaa)
                           have q253:x122_2<(x16_2.length:Int):=zas (taaa)
                           obtain ⟨ad253,e253,hx253_0⟩:=zca (zbf HO_16.out).2.2 x122_2 p253 q253
                           cases e253
                           replace p253:=eq_true p253
                           replace q253:=eq_true q253
                           have p254:0≤((rd x16_2 x122_2):Int):=zas (taaa)
                           have q254:(rd x16_2 x122_2)<((rd_L2 x9_3 (rd x15_2 x117_1)).length:Int):=zas (taaa)
                           obtain ⟨ad254,e254,hx254_0⟩:=zca HR252_0.out (rd x16_2 x122_2) p254 q254
                           have hw254_0:=hx254_0
                           cases e254
                           replace hx254_0:=(HB.out.cell (zaz wb _ hx254_0)).trans hx254_0
                           replace p254:=eq_true p254
                           replace q254:=eq_true q254
                           have p24:0≤(x122_2:Int):=zas (taaa)
                           have q24:(x122_2:Int)<(((rd_L2 x17_2 x117_1).length:Int):Int):=zas (taaa)
                           obtain ⟨go24,co24,eo24,gb24,gl24,cl24,HG24⟩:=Kd.R_form HL250_0.out (by omega)
                           (first | cases eo24 | (injection eo24 with ea_ en_ ec_;(first | subst ea_ | (injection ea_ with ea_;subst ea_));subst ec_;clear en_))
                           have GB24:=zad gb24;have GG24:=zad HG24;clear gb24 gl24 HG24;obtain ⟨hx24_0,hf24_0⟩:=Kd.R_celln 0 HL250_0.out (x122_2:Int) p24 q24
                           replace p24:=eq_true p24
                           replace q24:=eq_true q24
                           have hq30:(x117_1:Int)<(x17_2.length:Int):=(by have h_:(x117_1:Int)<((x17_2.length:Int):Int):=zas (taaa);first | exact h_ | (have e_:=(Kd.S_reads' HO_17.out).1;omega) | simpa only [List.length_set,List.length_set] using h_)
                           obtain ⟨oki30,ce30,hcl30,hM30,hcc30,hok30,hbk30⟩:=Kd.S_borrow HO_17.out [] (x117_1:Int) (zas (taaa)) (by first | exact hq30 | (have e_:=(Kd.S_reads' HO_17.out).1;omega))
                           obtain ⟨ve30_0,rfl,ge30_0⟩:=hM30
                           have hv30:=hcc30 0 _ rfl
                           rw [Nat.add_zero,show ((Kd.slice 3 (Kd.int .i64))).sz=1 from rfl,Nat.mul_one] at hv30
                           replace hv30:=zbe (hv30.symm.trans HX250_0.out)
                           subst hv30;clear hcc30 hcl30;replace ge30_0:=(show Kd.R (Kd.int .i64) 3 _ _ _ _ (rd_L2 x17_2 x117_1) from ge30_0)
                           have HP30:=Kd.R_putg ge30_0 (x122_2:Int) (rd (rd_L2 x9_3 (rd x15_2 x117_1)) (rd x16_2 x122_2))
                           rw [← Ny255.out] at HP30
                           have HS30:=hbk30 HP30.2 (fun k_ e_=>by injection e_ with e_;subst e_;exact ge30_0.1 _ rfl) (x':=y255) (Kd.M_row HP30.1)
                           rw [← Ny257.out] at HS30
                           have HQ30:=zad HS30;clear HP30 HS30 hbk30 hok30;refine start_ (n:=20) (S:=fun w'=>w'.cell? (ad250.add (x117_1).toNat)=some (.slice (some ⟨go24,0,none⟩) (rd_L2 x17_2 x117_1).length c250_0)∧w'.cell? (ad251.add (x117_1).toNat)=some (.int .i64 (rd x15_2 x117_1))∧w'.cell? (ad252.add ((rd x15_2 x117_1)).toNat)=some (.slice (some ad254) (rd_L2 x9_3 (rd x15_2 x117_1)).length c252_0)∧w'.cell? (ad253.add (x122_2).toNat)=some (.int .i64 (rd x16_2 x122_2))∧w'.cell? (ad254.add ((rd x16_2 x122_2)).toNat)=some (.int .i64 (rd (rd_L2 x9_3 (rd x15_2 x117_1)) (rd x16_2 x122_2)))) (ds:=[19]) #[false,false,false,false,false,false,false,false,false,false,false,false,false,false,false,false,false,false,false,false] (by kernel_rfl) rfl rfl ⟨hx250_0,hx251_0,((HB.out.cell (zaz wb _ hw252_0)).trans hw252_0),hx253_0,((HB.out.cell (zaz wb _ hw254_0)).trans hw254_0)⟩ (fun hHeld => ?_);refine with_tabW spec_TableForB.tab26 spec_TableForB.bits26 (fun HT_ HW_ => ?_)
                           generalize wr.drew=w27 at HO_15 HO_16 HO_17 HB GG24 HL250_0 HQ30 HR250_0 HR252_0 HX250_0 hf24_0 hx24_0 hx250_0 hx251_0 hx252_0 hx253_0 hx254_0 hHeld ⊢
                           refine pure_ (i:=0) (N:=some 125) (v := ?_) (a' := ?_) tagd rfl rfl (zby HT_.out (by kernel_rfl)) (fun _ _ _ h=>h) (Or.inl ⟨by rfl,?_⟩) ?_ ?_
                           rotate_left
                           ·intro w'
                            go_simp;with_reducible rfl
                           rotate_left
                           ·simp only [Act.put,zaa,zab,zac,zbw,zbx]
                            rfl
                           refine pure_ (i:=1) (N:=some 126) (v := ?_) (a' := ?_) tage rfl rfl (zby HT_.out (by kernel_rfl)) (fun _ _ _ h=>h) (Or.inl ⟨by rfl,?_⟩) ?_ ?_
                           rotate_left
                           ·intro w'
                            go_simp;with_reducible rfl
                           rotate_left
                           ·simp only [Act.put,zaa,zab,zac,zbw,zbx]
                            rfl
                           refine pure_ (i:=2) (N:=some 127) (v := ?_) (a' := ?_) tagf rfl rfl (zby HT_.out (by kernel_rfl)) (fun _ _ _ h=>h) (Or.inl ⟨by rfl,?_⟩) ?_ ?_
                           rotate_left
                           ·intro w'
                            go_simp;with_reducible rfl
                           rotate_left
                           ·simp only [Act.put,zaa,zab,zac,zbw,zbx]
                            rfl
                           refine pure_ (i:=4) (N:=some 129) (v := ?_) (a' := ?_) tahl rfl rfl (zby HT_.out (by kernel_rfl)) (fun _ _ _ h=>h) (Or.inl ⟨by rfl,?_⟩) ?_ ?_
                           rotate_left
                           ·intro w'
                            go_simp;with_reducible rfl
                           rotate_left
                           ·simp only [Act.put,zaa,zab,zac,zbw,zbx]
                            rfl
                           refine pure_ (i:=5) (N:=some 130) (v := ?_) (a' := ?_) tahm rfl rfl (zby HT_.out (by kernel_rfl)) (fun _ _ _ h=>h) (Or.inl ⟨by rfl,?_⟩) ?_ ?_
                           rotate_left
                           ·intro w'
                            go_simp;with_reducible rfl
                           rotate_left
                           ·simp only [Act.put,zaa,zab,zac,zbw,zbx]
                            rfl
                           refine pure_ (i:=6) (N:=some 131) (v := ?_) (a' := ?_) tahn rfl rfl (zby HT_.out (by kernel_rfl)) (fun _ _ _ h=>h) (Or.inl ⟨by rfl,?_⟩) ?_ ?_
                           rotate_left
                           ·intro w'
                            go_simp;with_reducible rfl
                           rotate_left
                           ·simp only [Act.put,zaa,zab,zac,zbw,zbx]
                            rfl
                           refine pure_ (i:=7) (N:=some 132) (v := ?_) (a' := ?_) #[true,true,true,false,true,true,true,true,false,false,false,false,false,false,false,false,false,false,false,false] rfl rfl (zby HT_.out (by kernel_rfl)) (fun _ _ _ h=>h) (Or.inl ⟨by rfl,?_⟩) ?_ ?_
                           rotate_left
                           ·intro w'
                            go_simp;with_reducible rfl
                           rotate_left
                           ·simp only [Act.put,zaa,zab,zac,zbw,zbx]
                            rfl
                           refine pure_ (i:=8) (N:=some 133) (v := ?_) (a' := ?_) #[true,true,true,false,true,true,true,true,true,false,false,false,false,false,false,false,false,false,false,false] rfl rfl (zby HT_.out (by kernel_rfl)) (fun _ _ _ h=>h) (Or.inl ⟨by rfl,?_⟩) ?_ ?_
                           rotate_left
                           ·intro w'
                            go_simp;with_reducible rfl
                           rotate_left
                           ·simp only [Act.put,zaa,zab,zac,zbw,zbx]
                            rfl
                           refine pure_ (i:=12) (N:=some 137) (v := ?_) (a' := ?_) #[true,true,true,false,true,true,true,true,true,false,false,false,true,false,false,false,false,false,false,false] rfl rfl (zby HT_.out (by kernel_rfl)) (fun _ _ _ h=>h) (Or.inl ⟨by rfl,?_⟩) ?_ ?_
                           rotate_left
                           ·intro w'
                            go_simp;with_reducible rfl
                           rotate_left
                           ·simp only [Act.put,zaa,zab,zac,zbw,zbx]
                            rfl
                           refine pure_ (i:=13) (N:=some 138) (v := ?_) (a' := ?_) #[true,true,true,false,true,true,true,true,true,false,false,false,true,true,false,false,false,false,false,false] rfl rfl (zby HT_.out (by kernel_rfl)) (fun _ _ _ h=>h) (Or.inl ⟨by rfl,?_⟩) ?_ ?_
                           rotate_left
                           ·intro w'
                            go_simp;with_reducible rfl
                           rotate_left
                           ·simp only [Act.put,zaa,zab,zac,zbw,zbx]
                            rfl
                           refine pure_ (i:=14) (N:=some 139) (v := ?_) (a' := ?_) #[true,true,true,false,true,true,true,true,true,false,false,false,true,true,true,false,false,false,false,false] rfl rfl (zby HT_.out (by kernel_rfl)) (fun _ _ _ h=>h) (Or.inl ⟨by rfl,?_⟩) ?_ ?_
                           rotate_left
                           ·intro w'
                            go_simp;with_reducible rfl
                           rotate_left
                           ·simp only [Act.put,zaa,zab,zac,zbw,zbx]
                            rfl
                           refine take_ (i:=3) (N:=some 128) (v := ?_) (a' := ?_) #[true,true,true,true,true,true,true,true,true,false,false,false,true,true,true,false,false,false,false,false] rfl rfl (zbz HT_.out HW_.out (by kernel_rfl)) (fun _ _ _ h=>h) (Or.inl ⟨by rfl,?_⟩) hHeld ?_ ?_
                           rotate_left
                           ·rintro w' ⟨s0,s1,s2,s3,s4⟩
                            go_simp;with_reducible rfl
                           rotate_left
                           ·simp only [Act.put,zaa,zab,zac,zbw,zbx]
                            rfl
                           refine take_ (i:=9) (N:=some 134) (v := ?_) (a' := ?_) #[true,true,true,true,true,true,true,true,true,true,false,false,true,true,true,false,false,false,false,false] rfl rfl (zbz HT_.out HW_.out (by kernel_rfl)) (fun _ _ _ h=>h) (Or.inl ⟨by rfl,?_⟩) hHeld ?_ ?_
                           rotate_left
                           ·rintro w' ⟨s0,s1,s2,s3,s4⟩
                            go_simp;with_reducible rfl
                           rotate_left
                           ·simp only [Act.put,zaa,zab,zac,zbw,zbx]
                            rfl
                           refine pure_ (i:=10) (N:=some 135) (v := ?_) (a' := ?_) #[true,true,true,true,true,true,true,true,true,true,true,false,true,true,true,false,false,false,false,false] rfl rfl (zby HT_.out (by kernel_rfl)) (fun _ _ _ h=>h) (Or.inl ⟨by rfl,?_⟩) ?_ ?_
                           rotate_left
                           ·intro w'
                            go_simp;with_reducible rfl
                           rotate_left
                           ·simp only [Act.put,zaa,zab,zac,zbw,zbx]
                            rfl
                           refine take_ (i:=11) (N:=some 136) (v := ?_) (a' := ?_) tagr rfl rfl (zbz HT_.out HW_.out (by kernel_rfl)) (fun _ _ _ h=>h) (Or.inl ⟨by rfl,?_⟩) hHeld ?_ ?_
                           rotate_left
                           ·rintro w' ⟨s0,s1,s2,s3,s4⟩
                            go_simp;with_reducible rfl
                           rotate_left
                           ·simp only [Act.put,zaa,zab,zac,zbw,zbx]
                            rfl
                           refine take_ (i:=15) (N:=some 140) (v := ?_) (a' := ?_) tags rfl rfl (zbz HT_.out HW_.out (by kernel_rfl)) (fun _ _ _ h=>h) (Or.inl ⟨by rfl,?_⟩) hHeld ?_ ?_
                           rotate_left
                           ·rintro w' ⟨s0,s1,s2,s3,s4⟩
                            go_simp;with_reducible rfl
                           rotate_left
                           ·simp only [Act.put,zaa,zab,zac,zbw,zbx]
                            rfl
                           refine pure_ (i:=16) (N:=some 141) (v := ?_) (a' := ?_) tagt rfl rfl (zby HT_.out (by kernel_rfl)) (fun _ _ _ h=>h) (Or.inl ⟨by rfl,?_⟩) ?_ ?_
                           rotate_left
                           ·intro w'
                            go_simp;with_reducible rfl
                           rotate_left
                           ·simp only [Act.put,zaa,zab,zac,zbw,zbx]
                            rfl
                           refine take_ (i:=17) (N:=some 142) (v := ?_) (a' := ?_) tagu rfl rfl (zbz HT_.out HW_.out (by kernel_rfl)) (fun _ _ _ h=>h) (Or.inl ⟨by rfl,?_⟩) hHeld ?_ ?_
                           rotate_left
                           ·rintro w' ⟨s0,s1,s2,s3,s4⟩
                            go_simp;with_reducible rfl
                           rotate_left
                           ·simp only [Act.put,zaa,zab,zac,zbw,zbx]
                            rfl
                           refine pure_ (i:=18) (N:=some 143) (v := ?_) (a' := ?_) tagv rfl rfl (zby HT_.out (by kernel_rfl)) (fun _ _ _ h=>h) (Or.inl ⟨by rfl,?_⟩) ?_ ?_
                           rotate_left
                           ·intro w'
                            go_simp;with_reducible rfl
                           rotate_left
                           ·simp only [Act.put,zaa,zab,zac,zbw,zbx]
                            rfl
                           refine last_ (i:=19) (N:=none) #[true,true,true,true,true,true,true,true,true,true,true,true,true,true,true,true,true,true,true,true] rfl rfl (one_of HT_.out (by kernel_rfl)) (by decide) (fun K hK => ?_)
                           refine skip_ (w1 := ?_) (by rfl) rfl ?_ ?_
                           rotate_left
                           ·go_simp
                            rfl
                           refine hK.out _ _ ?_
                           clear hK K;refine done_ (done_of HT_.out (by kernel_rfl)) ?_
                           have n0_:Aside0 (Kd.R (Kd.int .i64) 3 (w27.setCell ⟨go24,(x122_2:Int).toNat,none⟩ (.int .i64 (rd (rd_L2 x9_3 (rd x15_2 x117_1)) (rd x16_2 x122_2)))) wb.heap.size (fun k_=>(wb.heap.size≤k_)∧some k_≠(.slice (some ad253) x16_2.length co29:Value).ownBlock) (.slice (some ad251) x15_2.length co28) x15_2):=⟨by (with_reducible repeat (first | apply zai | apply zaj | apply zak));exact zbq (Kd.R_far (p:=⟨go24,(x122_2:Int).toNat,none⟩) (Kd.R_far1 HO_15.out rfl ((HL250_0.out.1 _ rfl).1.2.1)) (fun _ hk=>hk.2) (.int .i64 (rd (rd_L2 x9_3 (rd x15_2 x117_1)) (rd x16_2 x122_2)))) (fun _ hk=>⟨hk.1.1,hk.1.2⟩)⟩
                           have n1_:Aside0 (Kd.R (Kd.int .i64) 3 (w27.setCell ⟨go24,(x122_2:Int).toNat,none⟩ (.int .i64 (rd (rd_L2 x9_3 (rd x15_2 x117_1)) (rd x16_2 x122_2)))) wb.heap.size (fun k_=>(wb.heap.size≤k_)∧some k_≠(.slice (some ad251) x15_2.length co28:Value).ownBlock) (.slice (some ad253) x16_2.length co29) x16_2):=⟨by (with_reducible repeat (first | apply zai | apply zaj | apply zak));exact zbq (Kd.R_far (p:=⟨go24,(x122_2:Int).toNat,none⟩) (Kd.R_far1 HO_16.out rfl ((HL250_0.out.1 _ rfl).1.2.2)) (fun _ hk=>hk.2) (.int .i64 (rd (rd_L2 x9_3 (rd x15_2 x117_1)) (rd x16_2 x122_2)))) (fun _ hk=>⟨hk.1.1,hk.1.2⟩)⟩
                           have n2_:Aside0 (Kd.S (Kd.slice 3 (Kd.int .i64)) 25 (w27.setCell ⟨go24,(x122_2:Int).toNat,none⟩ (.int .i64 (rd (rd_L2 x9_3 (rd x15_2 x117_1)) (rd x16_2 x122_2)))) wb.heap.size (fun k_=>(wb.heap.size≤k_)∧some k_≠(.slice (some ad251) x15_2.length co28:Value).ownBlock∧some k_≠(.slice (some ad253) x16_2.length co29:Value).ownBlock) (.slice (some ad250) x17_2.length co11) y257):=⟨by (with_reducible repeat (first | apply Kd.S_alloc | apply Kd.S_drewN | apply Kd.S_drew));exact HQ30.out⟩
                           have n3_:Aside0 (Below wb.heap.size wb (w27.setCell ⟨go24,(x122_2:Int).toNat,none⟩ (.int .i64 (rd (rd_L2 x9_3 (rd x15_2 x117_1)) (rd x16_2 x122_2))))):=⟨by repeat (first | (with_reducible first | exact HB.out | apply zag | apply zae | apply zaf | refine zah ?_ GB24.out) | exact HB.out)⟩
                           (try clear HO_15);(try clear HO_16);(try clear HO_17);(try clear HB);generalize (w27.setCell ⟨go24,(x122_2:Int).toNat,none⟩ (.int .i64 (rd (rd_L2 x9_3 (rd x15_2 x117_1)) (rd x16_2 x122_2))))=w32 at n0_ n1_ n2_ n3_ ⊢
                           have HO_15:=n0_;have HO_16:=n1_;have HO_17:=n2_;have HB:=n3_;clear n0_ n1_ n2_ n3_;have p258:0≤(x117_1:Int):=zas (taaa)
                           have q258:x117_1<(y257.length:Int):=(by have h_:(x117_1:Int)<((x17_2.length:Int):Int):=zas (taaa);first | (have e_:=(Kd.S_reads' HO_17.out).1;omega) | simpa only [Ny257.out,List.length_set] using h_)
                           have ql258:((x117_1:Int)<((x17_2.length:Int):Int))=True:=eq_true (zas (taaa))
                           obtain ⟨ad258,A258_0,c258_0,e258,hx258_0,hl258_0,hi258_0⟩:=at_L2 (Kd.S_reads' HO_17.out).2.2 x117_1 p258 q258
                           obtain rfl:ad250=ad258:=(by injection e258)
                           obtain ⟨ce258,hce258,hMe258,hcc258⟩:=Kd.S_get HO_17.out [] x117_1 p258 (by first | exact q258 | exact zas (taaa) | (have e_:=(Kd.S_reads' HO_17.out).1;omega))
                           obtain ⟨ve258_0,rfl,ge258_0⟩:=hMe258
                           have hv258_0:=hcc258 0 _ rfl
                           rw [Nat.add_zero,show ((Kd.slice 3 (Kd.int .i64))).sz=1 from rfl,Nat.mul_one] at hv258_0
                           replace hv258_0:=zbe (hv258_0.symm.trans hx258_0)
                           rw [hv258_0] at ge258_0
                           have HL258_0:=zad (show Kd.R (Kd.int .i64) 3 _ _ _ _ (rd_L2 y257 x117_1) from ge258_0)
                           clear hv258_0 ge258_0;have HX258_0:=zad hx258_0;clear hcc258 hce258;have HR258_0:=zad hi258_0;have HC258_0:=zad hl258_0;clear hi258_0 hl258_0;replace p258:=eq_true p258
                           replace q258:=eq_true q258
                           have p259:0≤(x122_2:Int):=zas (taaa)
                           have q259:x122_2<((rd_L2 y257 x117_1).length:Int):=zas (taaa)
                           obtain ⟨ad259,e259,hx259_0⟩:=zca (by repeat (first | (with_reducible exact HR258_0.out) | (with_reducible refine zal ?_ _) | (with_reducible refine zam ?_ _) | (with_reducible refine zan ?_) | exact HR258_0.out)) x122_2 p259 q259
                           cases e259
                           replace p259:=eq_true p259
                           replace q259:=eq_true q259
                           try go_wp2_with (first | ((with_reducible refine zbh (f:=47) rfl ?_);refine zbn (some 152) rfl rfl Tryz.func47 (by kernel_rfl) rfl #[.int .i64 x18_2,.int .i64 (rd (rd_L2 y257 x117_1) x122_2)] rfl (taae) ?_;(with_reducible refine (spec_doGcd.calls k2 x18_2 (rd (rd_L2 y257 x117_1) x122_2) t260 _ A26.out).mono ?_);rintro e w' ⟨rfl,⟨nd,rfl⟩⟩;refine ⟨_,rfl,?_⟩))
                           (try simp only [← hl17_2])
                           go_roundg k2
                           case measure=>have:=HK1.out;have:=HK2.out;omega
                           case rel=>exact ⟨(x15_2),(x16_2),(y257),(t260),(wrap64 (x122_2+1)),(taad),(taad),H',⟨taao⟩,⟨taea⟩,⟨taeb⟩,⟨tacs⟩,⟨taab⟩⟩
                          ·rw [if_neg c25] at H
                           exact absurd H (taac)
                         ·rw [if_neg c23] at H
                          exact absurd H (taac)
                        ·rw [if_neg c22] at H
                         exact absurd H (taac)
                       ·rw [if_neg c21] at H
                        exact absurd H (taac)
                      ·rw [if_neg c20] at H
                       exact absurd H (taac)
                     ·rw [if_neg c19] at H
                      exact absurd H (taac)
                    ·rw [if_neg c18] at H
                     exact absurd H (taac)
                   ·rw [if_neg c17] at H
                    exact absurd H (taac)
                  ·rw [if_neg c16] at H
                   exact absurd H (taac)
                 ·rw [if_neg c15] at H
                  exact absurd H (taac)
                ·rw [if_neg c14] at H
                 exact absurd H (taac)
               ·rw [if_neg c13] at H
                have c13b0:decide (x122_2<(x17_1.length:Int))=false:=zbj c13
                (try rw [hl17_2] at c13b0)
                (try rw [hl17_1] at c13b0)
                (try rw [hl9_2] at c13b0)
                clear c13;have H':=zad H
                clear H;go_wp2
                (try simp only [← hl17_1,← hl17_2])
                go_roundg k2
                case measure=>have:=HK1.out;have:=HK2.out;omega
                case rel=>exact ⟨(x15_2),(x16_2),(x17_2),(x18_2),(wrap64 (x117_1+1)),(taad),(taad),H',⟨taao⟩,⟨taea⟩,⟨taeb⟩,⟨tacs⟩,⟨taab⟩⟩
            ·rw [if_neg c12] at H
             have c12b0:decide (x117_1<(t247.length:Int))=false:=zbj c12
             (try rw [hl17_2] at c12b0)
             (try rw [hl17_1] at c12b0)
             (try rw [hl9_2] at c12b0)
             clear c12;have H':=zad H
             clear H;go_wp2
             go_loopg [157] k1 (fun kq v157 w'=>∃ (x17_2:List (List Int)) (x157_2:Int),v157 = .int .i64 x157_2∧Aside0 (spec_TableForB.l2 kq x17_2 x18_1 (x17_1.length:Int) x157_2=some (r1,r2))∧Aside0 (kq≤k1)∧Aside0 (Kd.S (Kd.slice 3 (Kd.int .i64)) 25 w' wb.heap.size (fun k_=>(wb.heap.size≤k_)) (.slice Ao11 x17_1.length co11) x17_2)∧Aside0 (Below wb.heap.size wb w'))
             case atStart=>exact ⟨(x17_1),(0),(taad),H',⟨zcf _⟩,⟨by (try simp only [hl17_1]);(with_reducible repeat (first | apply Kd.S_alloc | apply Kd.S_drewN | apply Kd.S_drew));exact Kd.S_mono HO_17.out (fun _ hk=>hk.1)⟩,⟨taab⟩⟩
             case round =>
              clear H'
              try clear c1
              try clear co49
              try clear p2
              try clear q2
              try clear hx2
              try clear c3
              try clear q3
              try clear c4
              try clear p6
              try clear c12
              try clear c12b0
              try clear c13
              try clear c13b0
              try clear c14
              try clear c14b0
              try clear c15
              try clear c15b0
              try clear c16
              try clear c16b0
              try clear c17
              try clear c17b0
              try clear c18
              try clear c18b0
              try clear c19
              try clear c19b0
              try clear c20
              try clear c20b0
              try clear c21
              try clear c21b0
              try clear c22
              try clear c22b0
              try clear c23
              try clear c23b0
              try clear p24
              try clear q24
              try clear hx24
              try clear hf24
              try clear c25
              try clear c25b0
              try clear p25
              try clear q25
              try clear hx25
              try clear c30
              try clear q30
              try clear hx24_0
              try clear hx250_0
              try clear hx251_0
              try clear hx252_0
              try clear hx253_0
              try clear hx254_0
              try clear hx258_0
              try clear hx259_0
              try clear p2
              try clear p24
              try clear p250
              try clear p251
              try clear p252
              try clear p253
              try clear p254
              try clear p258
              try clear p259
              try clear q24
              try clear q250
              try clear q251
              try clear q252
              try clear q253
              try clear q254
              try clear q258
              try clear q259
              obtain ⟨x17_2,x157_2,rfl,HA,HK2,HO_17,HB⟩:=hrel
              have hl17_2:=(Kd.S_reads' HO_17.out).1
              rw [hl17_2] at HO_17
              (try simp only [hl17_2])
              cases gk with
              | zero=>exact absurd HA.out (by simp [spec_TableForB.l2])
              | succ k2 =>
               have H:=HA.out
               clear HA;simp only [spec_TableForB.l2] at H
               by_cases c33:x157_2<(x17_1.length:Int)
               ·rw [if_pos c33] at H
                have c33b0:decide (x157_2<(x17_1.length:Int))=true:=zba c33
                have c33b0_:=c33b0
                (try rw [hl17_2] at c33b0_)
                (try rw [hl17_2] at c33b0_)
                (try rw [hl17_1] at c33b0_)
                (try rw [hl9_2] at c33b0_)
                clear c33;have H':=zad H
                clear H;go_wp2
                go_loopg [162] k2 (fun kq v162 w'=>∃ (x17_3:List (List Int)) (x162_3:Int),v162 = .int .i64 x162_3∧Aside0 (spec_TableForB.l3 kq x17_3 x18_1 x157_2 (x17_1.length:Int) x157_2 (x17_2.length:Int) x162_3=some (r1,r2))∧Aside0 (kq≤k2)∧Aside0 (Kd.S (Kd.slice 3 (Kd.int .i64)) 25 w' wb.heap.size (fun k_=>(wb.heap.size≤k_)) (.slice Ao11 x17_2.length co11) x17_3)∧Aside0 (Below wb.heap.size wb w'))
                case atStart=>exact ⟨(x17_2),(0),(taad),H',⟨zcf _⟩,⟨tacs⟩,⟨taab⟩⟩
                case round =>
                 clear H'
                 try clear c1
                 try clear co49
                 try clear p2
                 try clear q2
                 try clear hx2
                 try clear c3
                 try clear q3
                 try clear c4
                 try clear p6
                 try clear c12
                 try clear c12b0
                 try clear c13
                 try clear c13b0
                 try clear c14
                 try clear c14b0
                 try clear c15
                 try clear c15b0
                 try clear c16
                 try clear c16b0
                 try clear c17
                 try clear c17b0
                 try clear c18
                 try clear c18b0
                 try clear c19
                 try clear c19b0
                 try clear c20
                 try clear c20b0
                 try clear c21
                 try clear c21b0
                 try clear c22
                 try clear c22b0
                 try clear c23
                 try clear c23b0
                 try clear p24
                 try clear q24
                 try clear hx24
                 try clear hf24
                 try clear c25
                 try clear c25b0
                 try clear p25
                 try clear q25
                 try clear hx25
                 try clear c30
                 try clear q30
                 try clear c33
                 try clear c33b0
                 try clear hx24_0
                 try clear hx250_0
                 try clear hx251_0
                 try clear hx252_0
                 try clear hx253_0
                 try clear hx254_0
                 try clear hx258_0
                 try clear hx259_0
                 try clear p2
                 try clear p24
                 try clear p25
                 try clear p250
                 try clear p251
                 try clear p252
                 try clear p253
                 try clear p254
                 try clear p258
                 try clear p259
                 try clear p6
                 try clear q2
                 try clear q24
                 try clear q25
                 try clear q250
                 try clear q251
                 try clear q252
                 try clear q253
                 try clear q254
                 try clear q258
                 try clear q259
                 try clear q3
                 try clear q30
                 obtain ⟨x17_3,x162_3,rfl,HA,HK3,HO_17,HB⟩:=hrel
                 have hl17_3:=(Kd.S_reads' HO_17.out).1
                 rw [hl17_3] at HO_17
                 (try simp only [hl17_3])
                 cases gk with
                 | zero=>exact absurd HA.out (by simp [spec_TableForB.l3])
                 | succ k3 =>
                  have H:=HA.out
                  clear HA;simp only [spec_TableForB.l3] at H
                  by_cases c34:x162_3<(x17_2.length:Int)
                  ·rw [if_pos c34] at H
                   have c34b0:decide (x162_3<(x17_2.length:Int))=true:=zba c34
                   have c34b0_:=c34b0
                   (try rw [hl17_3] at c34b0_)
                   (try rw [hl17_2] at c34b0_)
                   (try rw [hl17_2] at c34b0_)
                   (try rw [hl17_1] at c34b0_)
                   (try rw [hl9_2] at c34b0_)
                   clear c34;by_cases c35:0≤x157_2
                   ·rw [if_pos c35] at H
                    have c35b0:decide (0≤x157_2)=true:=zba c35
                    clear c35;by_cases c36:x157_2<(x17_3.length:Int)
                    ·rw [if_pos c36] at H
                     have c36b0:decide (x157_2<(x17_3.length:Int))=true:=zba c36
                     have c36b0_:=c36b0
                     (try rw [hl17_3] at c36b0_)
                     (try rw [hl17_2] at c36b0_)
                     (try rw [hl17_2] at c36b0_)
                     (try rw [hl17_1] at c36b0_)
                     (try rw [hl9_2] at c36b0_)
                     clear c36;by_cases c37:0≤x162_3
                     ·rw [if_pos c37] at H
                      have c37b0:decide (0≤x162_3)=true:=zba c37
                      clear c37;by_cases c38:x162_3<((rd_L2 x17_3 x157_2).length:Int)
                      ·rw [if_pos c38] at H
                       have c38b0:decide (x162_3<((rd_L2 x17_3 x157_2).length:Int))=true:=zba c38
                       clear c38;by_cases c39:x18_1=0
                       ·rw [if_pos c39] at H
                        exact absurd H (taac)
                       ·rw [if_neg c39] at H
                        have c39b0:(x18_1 == 0)=false:=zbo.mpr c39
                        have c39b1:(x18_1 != 0)=true:=bne_iff_ne.mpr c39
                        obtain ⟨y267,hy267⟩:∃ y_:List Int,y_=((rd_L2 x17_3 x157_2).set (x162_3:Int).toNat (wrap64 (Int.tdiv (rd (rd_L2 x17_3 x157_2) x162_3) x18_1))):=⟨_,rfl⟩
                        replace H:(spec_TableForB.l3 k3 (x17_3.set (x157_2:Int).toNat y267) x18_1 x157_2 (x17_1.length:Int) x157_2 (x17_2.length:Int) (wrap64 (x162_3+1)))=some (r1,r2):=by first | (rw [hy267];with_reducible exact H) | (have H2_:=(zbd _ _).symm.trans H;rw [hy267];with_reducible exact H2_) | (have H2_:=(zbd _ _).symm.trans H;with_reducible exact H2_) | with_reducible exact H | (rw [hy267];exact H) | exact H
                        have Ny267:=zad hy267;clear hy267;obtain ⟨y269,hy269⟩:∃ y_:List (List Int),y_=(x17_3.set (x157_2:Int).toNat y267):=⟨_,rfl⟩
                        replace H:(spec_TableForB.l3 k3 y269 x18_1 x157_2 (x17_1.length:Int) x157_2 (x17_2.length:Int) (wrap64 (x162_3+1)))=some (r1,r2):=by first | (rw [hy269];with_reducible exact H) | (have H2_:=(zbd _ _).symm.trans H;rw [hy269];with_reducible exact H2_) | (have H2_:=(zbd _ _).symm.trans H;with_reducible exact H2_) | with_reducible exact H | (rw [hy269];exact H) | exact H
                        have Ny269:=zad hy269;clear hy269;have H':=zad H
                        clear H;have p265:0≤(x157_2:Int):=zas (taaa)
                        have q265:x157_2<(x17_3.length:Int):=zas (taaa)
                        obtain ⟨ad265,A265_0,c265_0,e265,hx265_0,hl265_0,hi265_0⟩:=at_L2 (Kd.S_reads' HO_17.out).2.2 x157_2 p265 q265
                        cases e265
                        obtain ⟨ce265,hce265,hMe265,hcc265⟩:=Kd.S_get HO_17.out [] x157_2 p265 (by first | exact q265 | exact zas (taaa) | (have e_:=(Kd.S_reads' HO_17.out).1;omega))
                        obtain ⟨ve265_0,rfl,ge265_0⟩:=hMe265
                        have hv265_0:=hcc265 0 _ rfl
                        rw [Nat.add_zero,show ((Kd.slice 3 (Kd.int .i64))).sz=1 from rfl,Nat.mul_one] at hv265_0
                        replace hv265_0:=zbe (hv265_0.symm.trans hx265_0)
                        rw [hv265_0] at ge265_0
                        have HL265_0:=zad (show Kd.R (Kd.int .i64) 3 _ _ _ _ (rd_L2 x17_3 x157_2) from ge265_0)
                        clear hv265_0 ge265_0;have HX265_0:=zad hx265_0;clear hcc265 hce265;have HR265_0:=zad hi265_0;have HC265_0:=zad hl265_0;clear hi265_0 hl265_0;replace p265:=eq_true p265
                        replace q265:=eq_true q265
                        have p266:0≤(x162_3:Int):=zas (taaa)
                        have q266:x162_3<((rd_L2 x17_3 x157_2).length:Int):=zas (taaa)
                        obtain ⟨ad266,e266,hx266_0⟩:=zca (by repeat (first | (with_reducible exact HR265_0.out) | (with_reducible refine zal ?_ _) | (with_reducible refine zam ?_ _) | (with_reducible refine zan ?_) | exact HR265_0.out)) x162_3 p266 q266
                        cases e266
                        replace p266:=eq_true p266
                        replace q266:=eq_true q266
                        have p40:0≤(x162_3:Int):=zas (taaa)
                        have q40:(x162_3:Int)<(((rd_L2 x17_3 x157_2).length:Int):Int):=zas (taaa)
                        obtain ⟨go40,co40,eo40,gb40,gl40,cl40,HG40⟩:=Kd.R_form HL265_0.out (by omega)
                        (first | cases eo40 | (injection eo40 with ea_ en_ ec_;(first | subst ea_ | (injection ea_ with ea_;subst ea_));subst ec_;clear en_))
                        have GB40:=zad gb40;have GG40:=zad HG40;clear gb40 gl40 HG40;(first | simp only [add_plain] at hx266_0 | skip)
                        obtain ⟨hx40_0,hf40_0⟩:=Kd.R_celln 0 HL265_0.out (x162_3:Int) p40 q40
                        replace p40:=eq_true p40
                        replace q40:=eq_true q40
                        have hq41:(x157_2:Int)<(x17_3.length:Int):=(by have h_:(x157_2:Int)<((x17_3.length:Int):Int):=zas (taaa);first | exact h_ | (have e_:=(Kd.S_reads' HO_17.out).1;omega) | simpa only [List.length_set,List.length_set] using h_)
                        obtain ⟨oki41,ce41,hcl41,hM41,hcc41,hok41,hbk41⟩:=Kd.S_borrow HO_17.out [] (x157_2:Int) (zas (taaa)) (by first | exact hq41 | (have e_:=(Kd.S_reads' HO_17.out).1;omega))
                        obtain ⟨ve41_0,rfl,ge41_0⟩:=hM41
                        have hv41:=hcc41 0 _ rfl
                        rw [Nat.add_zero,show ((Kd.slice 3 (Kd.int .i64))).sz=1 from rfl,Nat.mul_one] at hv41
                        replace hv41:=zbe (hv41.symm.trans HX265_0.out)
                        subst hv41;clear hcc41 hcl41;replace ge41_0:=(show Kd.R (Kd.int .i64) 3 _ _ _ _ (rd_L2 x17_3 x157_2) from ge41_0)
                        have HP41:=Kd.R_putg ge41_0 (x162_3:Int) (wrap64 (Int.tdiv (rd (rd_L2 x17_3 x157_2) x162_3) x18_1))
                        go_wp2_with (first | ((with_reducible refine gate_store (t:=3) (p:=174) rfl ?_);refine store_event (t:=3) (p:=174) (v := ?vo_w42) (w1:=(wr.setCell ⟨go40,(x162_3:Int).toNat,none⟩ (.int .i64 (wrap64 (Int.tdiv (rd (rd_L2 x17_3 x157_2) x162_3) x18_1))))) ?hg ?ho ?hn ?hr ?_;(case ho=>rfl);(case hg=>rfl);(case hn=>rfl);(case hr=>first | (go_simp;done) | (go_simp;rfl));intro w42 hw;have hg:wr.grownBy w42 (some go40):=(by rw [hw];exact HP41.2);have hz_:Kd.R (Kd.int .i64) 3 w42 wb.heap.size oki41 (.slice (some ⟨go40,0,none⟩) (rd_L2 x17_3 x157_2).length c265_0) y267:=(by rw [hw,Ny267.out];exact HP41.1);have hp_:Kd.S (Kd.slice 3 (Kd.int .i64)) 25 w42 wb.heap.size (fun k_=>(wb.heap.size≤k_)) (.slice (some ad265) x17_3.length co11) y269:=(by rw [Ny269.out];exact hbk41 hg (fun k_ e_=>by injection e_ with e_;subst e_;exact ge41_0.1 _ rfl) (Kd.M_row hz_));have hm_:=zbq hz_ hok41;clear HP41 hbk41;have n0_:=zad (hp_);have n1_:=zad ((by rw [hw];exact zah (HB.out) GB40.out:Below wb.heap.size wb w42));have n2_:=zad (hm_);have n3_:=zad ((zbf hm_).2.1);clear HO_17 HB HL265_0;have HO_17:=n0_;have HB:=n1_;have HL270:=n2_;have HC268:=n3_;clear n0_ n1_ n2_ n3_ hg hw hp_ hz_ hm_ hok41))
                        (try simp only [← hl17_3])
                        go_roundg k3
                        case measure=>have:=HK1.out;have:=HK2.out;have:=HK3.out;omega
                        case rel=>exact ⟨(y269),(wrap64 (x162_3+1)),(taad),H',⟨tacg⟩,⟨taec⟩,⟨taab⟩⟩
                      ·rw [if_neg c38] at H
                       exact absurd H (taac)
                     ·rw [if_neg c37] at H
                      exact absurd H (taac)
                    ·rw [if_neg c36] at H
                     exact absurd H (taac)
                   ·rw [if_neg c35] at H
                    exact absurd H (taac)
                  ·rw [if_neg c34] at H
                   have c34b0:decide (x162_3<(x17_2.length:Int))=false:=zbj c34
                   (try rw [hl17_3] at c34b0)
                   (try rw [hl17_2] at c34b0)
                   (try rw [hl17_2] at c34b0)
                   (try rw [hl17_1] at c34b0)
                   (try rw [hl9_2] at c34b0)
                   clear c34;have H':=zad H
                   clear H;go_wp2
                   (try simp only [← hl17_2,← hl17_3])
                   go_roundg k3
                   case measure=>have:=HK1.out;have:=HK2.out;have:=HK3.out;omega
                   case rel=>exact ⟨(x17_3),(wrap64 (x157_2+1)),(taad),H',⟨tacg⟩,⟨taec⟩,⟨taab⟩⟩
               ·rw [if_neg c33] at H
                have c33b0:decide (x157_2<(x17_1.length:Int))=false:=zbj c33
                (try rw [hl17_3] at c33b0)
                (try rw [hl17_2] at c33b0)
                (try rw [hl17_2] at c33b0)
                (try rw [hl17_1] at c33b0)
                (try rw [hl9_2] at c33b0)
                clear c33;replace H:=zay.mp H;obtain ⟨⟨t261,t264⟩,A430,H⟩:=H
                replace H:(some (t261,t264))=some (r1,r2):=H
                have A43:=zad A430;clear A430;simp only [zbl,zbp] at H
                obtain ⟨rfl,rfl⟩:=H
                go_wp2_with (first | ((with_reducible refine zbh (f:=48) rfl ?_);refine zbn (some 178) rfl rfl Tryz.func48 (by kernel_rfl) rfl #[.slice Ao11 x17_2.length co11] rfl (taae) ?_;(with_reducible refine (spec_doIf.calls k2 (fun k_=>(wb.heap.size≤k_)) _ _ x17_2 t261 t264 _ ?side1 A43.out).mono ?_);(case side1=>exact Kd.S_V (HO_17.out));rintro e w44 ⟨v262,rfl,ho0,hb⟩;refine ⟨_,rfl,?_⟩;have n0_:=zad (Kd.S_below (by (with_reducible repeat (first | apply Kd.S_alloc | apply Kd.S_drewN | apply Kd.S_drew));exact HO_17.out) hb);have n1_:=zad (Kd.V_lower (Kd.V_mono (ok':=fun k_=>(wb.heap.size≤k_)) ho0 (fun k_ hk_=>Or.elim hk_ (fun hs_=>hs_) (fun hn_=>(Nat.le_trans (zbk (taab)) hn_)))) (zbk (taab)));have n2_:=zad (zbg (taab) hb);clear HO_17 HB;have HO_17:=n0_;have HO263:=n1_;have HB:=n2_;clear n0_ n1_ n2_;(try clear hb);(try clear hb2);(try clear hk);(try clear hi);(try clear ho0)))
                go_ret2
                exact ⟨_,rfl,Kd.V_lower (Kd.V_mono (by (with_reducible repeat (first | apply zbb | apply zbc | apply Kd.V_drew));exact HO263.out) (fun _ hk=>Nat.le_trans (zbk HBW.out) (by first | exact hk | exact hk.1))) (zbk HBW.out),zbg HBW.out (taab)⟩
mutual
def spec_DrawCarryList.j0:Nat→List (List Int)→List Int→Int→Int→Option ((List (List Int)) × List Int)
 | 0,_,_,_,_=>none
 | k+1,x5,x403000,x403001,x403002=>spec_DrawCarryList.l0 k x5 ([]:List Int) (x5.length:Int) 0 x403000 x403001 x403002
def spec_DrawCarryList.l0:Nat→List (List Int)→List Int→Int→Int→List Int→Int→Int→Option ((List (List Int)) × List Int)
 | 0,_,_,_,_,_,_,_=>none
 | k+1,x5,x10,x33,x34,x403000,x403001,x403002=>if x34<x33 then ((spec_l1Cur_pick.f x403000 x403001 x403002 7).bind fun bt423=>((spec_l1Cur_among.f x403000 bt423.2.1 bt423.2.2 (([1,2,6]:List Int))).bind fun bt429=>(if x10.length<17592186044416 then (spec_DrawCarryList.l0 k x5 (x10 ++ [wrap64 (bt423.1*bt429.1)]) x33 (wrap64 (x34+1)) x403000 bt429.2.1 bt429.2.2) else (none)))) else (some (x5,x10))
end
def spec_DrawCarryList.f (k:Nat) (l0:List Int):Option ((List (List Int)) × List Int):=(spec_l1Cur_square.f k l0 0 0).bind fun bt403=>((spec_l1Cur_one.f l0 bt403.2.1 bt403.2.2 3).bind fun bt408=>(if bt408.1=true then ((spec_l1Cur_fitting.f k l0 bt408.2.1 bt408.2.2 4).bind fun bt411=>((spec_TableFor.f k bt411.1 bt411.2.1).bind fun bt419=>(if bt419.2=true then (some (bt419.1,bt411.2.1)) else (spec_DrawCarryList.j0 k bt403.1 l0 bt411.2.2.1 bt411.2.2.2)))) else (spec_DrawCarryList.j0 k bt403.1 l0 bt408.2.1 bt408.2.2)))
theorem spec_DrawCarryList.calls (k:Nat) (A0:Option Addr) (c0:Nat) (l0:List Int) (r1:List (List Int)) (r2:List Int) (w:World) (hr0:Kd.C (Kd.int .u8) w A0 l0.length l0) (hc0:l0.length≤c0) (h:spec_DrawCarryList.f k l0=some (r1,r2)) :
 Calls Tryz.prog 5 #[.slice A0 l0.length c0] w fun e w'=>∃ v0_ v1_:Value,e = .returned (.tuple #[v0_,v1_])∧Kd.V (Kd.slice 3 (Kd.int .i64)) 25 w' w.heap.size (fun k_=>(w.heap.size≤k_)∧some k_≠(v1_:Value).ownBlock) v0_ r1∧Kd.R (Kd.int .i64) 3 w' w.heap.size (fun k_=>(w.heap.size≤k_)) v1_ r2∧Below w.heap.size w w':=by
 have hu43:=Tryz.underlying43
 have HR0:=zad hr0;have HC0:=zad hc0;clear hr0 hc0;have HB:=zad (Below.refl w.heap.size w)
 have H:((spec_l1Cur_square.f k l0 0 0).bind fun bt403=>((spec_l1Cur_one.f l0 bt403.2.1 bt403.2.2 3).bind fun bt408=>(if bt408.1=true then ((spec_l1Cur_fitting.f k l0 bt408.2.1 bt408.2.2 4).bind fun bt411=>((spec_TableFor.f k bt411.1 bt411.2.1).bind fun bt419=>(if bt419.2=true then (some (bt419.1,bt411.2.1)) else (spec_DrawCarryList.j0 k bt403.1 l0 bt411.2.2.1 bt411.2.2.2)))) else (spec_DrawCarryList.j0 k bt403.1 l0 bt408.2.1 bt408.2.2))))=some (r1,r2):=h
 clear h;replace H:=zay.mp H;obtain ⟨⟨t403,t406,t407⟩,A20,H⟩:=H
 replace H:((spec_l1Cur_one.f l0 t406 t407 3).bind fun bt408=>(if bt408.1=true then ((spec_l1Cur_fitting.f k l0 bt408.2.1 bt408.2.2 4).bind fun bt411=>((spec_TableFor.f k bt411.1 bt411.2.1).bind fun bt419=>(if bt419.2=true then (some (bt419.1,bt411.2.1)) else (spec_DrawCarryList.j0 k t403 l0 bt411.2.2.1 bt411.2.2.2)))) else (spec_DrawCarryList.j0 k t403 l0 bt408.2.1 bt408.2.2)))=some (r1,r2):=H
 have A2:=zad A20;clear A20;replace H:=zay.mp H;obtain ⟨⟨t408,t409,t410⟩,A30,H⟩:=H
 replace H:(if t408=true then ((spec_l1Cur_fitting.f k l0 t409 t410 4).bind fun bt411=>((spec_TableFor.f k bt411.1 bt411.2.1).bind fun bt419=>(if bt419.2=true then (some (bt419.1,bt411.2.1)) else (spec_DrawCarryList.j0 k t403 l0 bt411.2.2.1 bt411.2.2.2)))) else (spec_DrawCarryList.j0 k t403 l0 t409 t410))=some (r1,r2):=H
 have A3:=zad A30;clear A30;have HC4:=zad H;clear H;go_enter Tryz.func5,Tryz.ntmps5
 go_upto_if 17 with (first | ((with_reducible refine gate_dst (N:=13) rfl ?_);refine box_event ?hg (N:=13) ?hd (cs:=#[.slice A0 l0.length c0,.int .i64 0,.int .u64 0]) (t:=43) ?hr ?_;(case hd=>rfl);(case hg=>rfl);(case hr=>first | (go_simp;done) | (go_simp;rfl));intro gb402 hg w5 hbox hb;have n0_:=zad (zbg (taab) hb);have n1_:=zad ((show IsS43 w w5 gb402 l0 0 0 from ⟨_,_,hbox,(tafa),HR0.out⟩));clear HB;have HB:=n0_;have HI402:=n1_;clear n0_ n1_ hb hbox hg) | ((with_reducible refine zbh (f:=15) rfl ?_);refine zbn (some 15) rfl rfl Tryz.func15 (by kernel_rfl) rfl #[.pointer (some ⟨gb402,0,none⟩)] rfl (taae) ?_;(with_reducible refine (spec_l1Cur_square.calls k gb402 l0 0 0 t403 t406 t407 w _ ?side1 ?side2 A2.out).mono ?_);(case side1=>repeat (first | (with_reducible first | exact HI402.out | apply zcg | apply zch | apply zci | apply zcl | apply zcm) | exact HI402.out));(case side2=>repeat (first | (with_reducible first | exact HB.out | apply zag | apply zae | apply zaf | refine zah ?_ (zck HI402.out)) | exact HB.out));rintro e w6 ⟨v404,rfl,ho0,hi,hb,hk⟩;refine ⟨_,rfl,?_⟩;have n0_:=zad (Kd.V_lower (Kd.V_mono (ok':=fun k_=>(w.heap.size≤k_)∧k_≠gb402) ho0 (fun k_ hk_=>⟨(Nat.le_trans (zbk (taan)) hk_),(IsS43.fresh (taaw) k_ hk_)⟩)) (zbk (taan)));have n1_:=zad (hb);have n2_:=zad (hi);clear HB HI402;have HO405:=n0_;have HB:=n1_;have HI402:=n2_;clear n0_ n1_ n2_;(try clear hb);(try clear hb2);(try clear hk);(try clear hi);(try clear ho0)) | ((with_reducible refine zbh (f:=16) rfl ?_);refine zbn (some 17) rfl rfl Tryz.func16 (by kernel_rfl) rfl #[.pointer (some ⟨gb402,0,none⟩),.int .i64 3] rfl (taae) ?_;(with_reducible refine (spec_l1Cur_one.calls gb402 l0 t406 t407 3 t408 t409 t410 w _ ?side1 ?side2 A3.out).mono ?_);(case side1=>repeat (first | (with_reducible first | exact HI402.out | apply zcg | apply zch | apply zci | apply zcl | apply zcm) | exact HI402.out));(case side2=>repeat (first | (with_reducible first | exact HB.out | apply zag | apply zae | apply zaf | refine zah ?_ (zck HI402.out)) | exact HB.out));rintro e w7 ⟨rfl,hi,hb,hk⟩;refine ⟨_,rfl,?_⟩;have n0_:=zad (Kd.V_mono (Kd.V_keep (Kd.V_mono (ok:=fun k_=>(((w.heap.size≤k_))∧k_≠gb402)) (tabq) (fun k_ hk_=>(⟨hk_,hk_.2⟩:_∧k_≠gb402))) hk (fun _ h=>h.2)) (fun _ h=>h.1));have n1_:=zad (hb);have n2_:=zad (hi);clear HO405 HB HI402;have HO405:=n0_;have HB:=n1_;have HI402:=n2_;clear n0_ n1_ n2_;(try clear hb);(try clear hb2);(try clear hk);(try clear hi)))
 (try simp only [Act.put,zaa,zab,zac])
 go_cut [] (fun wc=>∃ (kq:Nat) (x403001_3:Int) (x403002_3:Int),Aside0 (spec_DrawCarryList.j0 kq t403 l0 x403001_3 x403002_3=some (r1,r2))∧Aside0 (kq≤k)∧Aside0 (Kd.V (Kd.slice 3 (Kd.int .i64)) 25 wc w.heap.size (fun k_=>(w.heap.size≤k_)∧k_≠gb402) v404 t403)∧Aside0 (IsS43 w wc gb402 l0 x403001_3 x403002_3)∧Aside0 (Below w.heap.size w wc))
 case first =>
  have H:=HC4.out
  clear HC4;by_cases c8:t408=true
  ·subst c8
   have H1:((spec_l1Cur_fitting.f k l0 t409 t410 4).bind fun bt411=>((spec_TableFor.f k bt411.1 bt411.2.1).bind fun bt419=>(if bt419.2=true then (some (bt419.1,bt411.2.1)) else (spec_DrawCarryList.j0 k t403 l0 bt411.2.2.1 bt411.2.2.2))))=some (r1,r2):=by rw [if_pos rfl] at H;exact H
   clear H;have H:=H1;clear H1;replace H:=zay.mp H;obtain ⟨⟨t411,t414,t417,t418⟩,A90,H⟩:=H
   replace H:((spec_TableFor.f k t411 t414).bind fun bt419=>(if bt419.2=true then (some (bt419.1,t414)) else (spec_DrawCarryList.j0 k t403 l0 t417 t418)))=some (r1,r2):=H
   have A9:=zad A90;clear A90;replace H:=zay.mp H;obtain ⟨⟨t419,t422⟩,A100,H⟩:=H
   replace H:(if t422=true then (some (t419,t414)) else (spec_DrawCarryList.j0 k t403 l0 t417 t418))=some (r1,r2):=H
   have A10:=zad A100;clear A100;by_cases c11:t422=true
   ·subst c11
    have H1:(some (t419,t414))=some (r1,r2):=by rw [if_pos rfl] at H;exact H
    clear H;have H:=H1;clear H1;simp only [zbl,zbp] at H
    obtain ⟨rfl,rfl⟩:=H
    go_wp2_with (first | ((with_reducible refine zbh (f:=17) rfl ?_);refine zbn (some 20) rfl rfl Tryz.func17 (by kernel_rfl) rfl #[.pointer (some ⟨gb402,0,none⟩),.int .i64 4] rfl (taae) ?_;(with_reducible refine (spec_l1Cur_fitting.calls k gb402 l0 t409 t410 4 t411 t414 t417 t418 w _ ?side1 ?side2 A9.out).mono ?_);(case side1=>repeat (first | (with_reducible first | exact HI402.out | apply zcg | apply zch | apply zci | apply zcl | apply zcm) | exact HI402.out));(case side2=>repeat (first | (with_reducible first | exact HB.out | apply zag | apply zae | apply zaf | refine zah ?_ (zck HI402.out)) | exact HB.out));rintro e w12 ⟨v412,v415,rfl,ho0,ho1,hi,hb,hk⟩;refine ⟨_,rfl,?_⟩;have n0_:=zad (Kd.V_mono (Kd.V_told (Kd.V_told (Kd.V_oldK (Kd.V_mono (ok:=fun k_=>(((w.heap.size≤k_))∧k_≠gb402)) (tabq) (fun k_ hk_=>(⟨hk_,hk_.2⟩:_∧k_≠gb402))) hk) (zcd ho0)) (zcd ho1)) (fun _ h_=>h_.1));have n1_:=zad (zbu (Kd.R_newM (M:=fun k_=>(w.heap.size≤k_)) ho0 (zbk (taan)) (fun k_ h_=>h_)) (zbk (taan)));have n2_:=zad (zbu (Kd.R_newM (M:=fun k_=>(w.heap.size≤k_)) ho1 (zbk (taan)) (fun k_ h_=>h_)) (zbk (taan)));have n3_:=zad (hb);have n4_:=zad (hi);clear HO405 HB HI402;have HO405:=n0_;have HO413:=n1_;have HO416:=n2_;have HB:=n3_;have HI402:=n4_;clear n0_ n1_ n2_ n3_ n4_;(try clear hb);(try clear hb2);(try clear hk);(try clear hi);(try clear ho0);(try clear ho1);obtain ⟨Ao13,co13,eo13⟩:=zbv HO413.out;subst eo13;obtain ⟨Ao14,co14,eo14⟩:=zbv HO416.out;subst eo14) | ((with_reducible refine zbh (f:=12) rfl ?_);refine zbn (some 26) rfl rfl Tryz.func12 (by kernel_rfl) rfl #[.slice Ao13 t411.length co13,.slice Ao14 t414.length co14] rfl (taae) ?_;(with_reducible refine (spec_TableFor.calls k _ _ t411 _ _ t414 t419 true _ ?side1 ?side2 ?side3 ?side4 A10.out).mono ?_);(case side1=>repeat (first | exact (zbf HO413.out).2.2 | (with_reducible refine zal ?_ _) | (with_reducible refine zam ?_ _) | (with_reducible refine zan ?_)));(case side2=>exact (zbf HO413.out).2.1);(case side3=>repeat (first | exact (zbf HO416.out).2.2 | (with_reducible refine zal ?_ _) | (with_reducible refine zam ?_ _) | (with_reducible refine zan ?_)));(case side4=>exact (zbf HO416.out).2.1);rintro e w15 ⟨v420,rfl,ho0,hb⟩;refine ⟨_,rfl,?_⟩;have n0_:=zad (Kd.V_below (tabq) hb);have n1_:=zad (zbt (taci) hb);have n2_:=zad (zbt (tacj) hb);have n3_:=zad (Kd.V_lower (Kd.V_mono (ok':=fun k_=>(w.heap.size≤k_)∧some k_≠(.slice Ao13 t411.length co13:Value).ownBlock∧some k_≠(.slice Ao14 t414.length co14:Value).ownBlock∧k_≠gb402) ho0 (fun k_ hk_=>⟨(Nat.le_trans (zbk (taan)) hk_),(Kd.fresh' (zce (taci)) k_ hk_),(Kd.fresh' (zce (tacj)) k_ hk_),(IsS43.fresh (taaw) k_ hk_)⟩)) (zbk (taan)));have n4_:=zad (IsS43.below (taaw) hb);have n5_:=zad (zbg (taan) hb);clear HO405 HO413 HO416 HI402 HB;have HO405:=n0_;have HO413:=n1_;have HO416:=n2_;have HO421:=n3_;have HI402:=n4_;have HB:=n5_;clear n0_ n1_ n2_ n3_ n4_ n5_;(try clear hb);(try clear hb2);(try clear hk);(try clear hi);(try clear ho0)))
    go_ret2
    exact ⟨_,_,taai,by (with_reducible repeat (first | apply zbb | apply zbc | apply Kd.V_drew));exact Kd.V_mono HO421.out (fun _ hk=>⟨hk.1,hk.2.2.1⟩),by (with_reducible repeat (first | apply zai | apply zaj | apply zak));exact zbq HO416.out (fun _ hk=>hk.1),taan⟩
   ·replace c11:=zbi.mpr c11
    subst c11;have H1:(spec_DrawCarryList.j0 k t403 l0 t417 t418)=some (r1,r2):=by rw [if_neg (show ¬ (false=true) by decide)] at H;exact H
    clear H;have H:=H1;clear H1;have H':=zad H
    clear H;go_wp2_with (first | ((with_reducible refine zbh (f:=17) rfl ?_);refine zbn (some 20) rfl rfl Tryz.func17 (by kernel_rfl) rfl #[.pointer (some ⟨gb402,0,none⟩),.int .i64 4] rfl (taae) ?_;(with_reducible refine (spec_l1Cur_fitting.calls k gb402 l0 t409 t410 4 t411 t414 t417 t418 w _ ?side1 ?side2 A9.out).mono ?_);(case side1=>repeat (first | (with_reducible first | exact HI402.out | apply zcg | apply zch | apply zci | apply zcl | apply zcm) | exact HI402.out));(case side2=>repeat (first | (with_reducible first | exact HB.out | apply zag | apply zae | apply zaf | refine zah ?_ (zck HI402.out)) | exact HB.out));rintro e w16 ⟨v412,v415,rfl,ho0,ho1,hi,hb,hk⟩;refine ⟨_,rfl,?_⟩;have n0_:=zad (Kd.V_mono (Kd.V_told (Kd.V_told (Kd.V_oldK (Kd.V_mono (ok:=fun k_=>(((w.heap.size≤k_))∧k_≠gb402)) (tabq) (fun k_ hk_=>(⟨hk_,hk_.2⟩:_∧k_≠gb402))) hk) (zcd ho0)) (zcd ho1)) (fun _ h_=>h_.1));have n1_:=zad (zbu (Kd.R_newM (M:=fun k_=>(w.heap.size≤k_)) ho0 (zbk (taan)) (fun k_ h_=>h_)) (zbk (taan)));have n2_:=zad (zbu (Kd.R_newM (M:=fun k_=>(w.heap.size≤k_)) ho1 (zbk (taan)) (fun k_ h_=>h_)) (zbk (taan)));have n3_:=zad (hb);have n4_:=zad (hi);clear HO405 HB HI402;have HO405:=n0_;have HO413:=n1_;have HO416:=n2_;have HB:=n3_;have HI402:=n4_;clear n0_ n1_ n2_ n3_ n4_;(try clear hb);(try clear hb2);(try clear hk);(try clear hi);(try clear ho0);(try clear ho1);obtain ⟨Ao17,co17,eo17⟩:=zbv HO413.out;subst eo17;obtain ⟨Ao18,co18,eo18⟩:=zbv HO416.out;subst eo18) | ((with_reducible refine zbh (f:=12) rfl ?_);refine zbn (some 26) rfl rfl Tryz.func12 (by kernel_rfl) rfl #[.slice Ao17 t411.length co17,.slice Ao18 t414.length co18] rfl (taae) ?_;(with_reducible refine (spec_TableFor.calls k _ _ t411 _ _ t414 t419 false _ ?side1 ?side2 ?side3 ?side4 A10.out).mono ?_);(case side1=>repeat (first | exact (zbf HO413.out).2.2 | (with_reducible refine zal ?_ _) | (with_reducible refine zam ?_ _) | (with_reducible refine zan ?_)));(case side2=>exact (zbf HO413.out).2.1);(case side3=>repeat (first | exact (zbf HO416.out).2.2 | (with_reducible refine zal ?_ _) | (with_reducible refine zam ?_ _) | (with_reducible refine zan ?_)));(case side4=>exact (zbf HO416.out).2.1);rintro e w19 ⟨v420,rfl,ho0,hb⟩;refine ⟨_,rfl,?_⟩;have n0_:=zad (Kd.V_below (tabq) hb);have n1_:=zad (zbt (taci) hb);have n2_:=zad (zbt (tacj) hb);have n3_:=zad (Kd.V_lower (Kd.V_mono (ok':=fun k_=>(w.heap.size≤k_)∧some k_≠(.slice Ao17 t411.length co17:Value).ownBlock∧some k_≠(.slice Ao18 t414.length co18:Value).ownBlock∧k_≠gb402) ho0 (fun k_ hk_=>⟨(Nat.le_trans (zbk (taan)) hk_),(Kd.fresh' (zce (taci)) k_ hk_),(Kd.fresh' (zce (tacj)) k_ hk_),(IsS43.fresh (taaw) k_ hk_)⟩)) (zbk (taan)));have n4_:=zad (IsS43.below (taaw) hb);have n5_:=zad (zbg (taan) hb);clear HO405 HO413 HO416 HI402 HB;have HO405:=n0_;have HO413:=n1_;have HO416:=n2_;have HO421:=n3_;have HI402:=n4_;have HB:=n5_;clear n0_ n1_ n2_ n3_ n4_ n5_;(try clear hb);(try clear hb2);(try clear hk);(try clear hi);(try clear ho0)))
    go_meet
    case rel=>exact ⟨_,(t417),(t418),H',⟨taas⟩,⟨by (with_reducible repeat (first | apply zbb | apply zbc | apply Kd.V_drew));exact Kd.V_mono HO405.out (fun _ hk=>⟨hk.1.1.1,hk.1.1.2⟩)⟩,⟨taaw⟩,⟨taan⟩⟩
  ·replace c8:=zbi.mpr c8
   subst c8;have H1:(spec_DrawCarryList.j0 k t403 l0 t409 t410)=some (r1,r2):=by rw [if_neg (show ¬ (false=true) by decide)] at H;exact H
   clear H;have H:=H1;clear H1;have H':=zad H
   clear H;go_wp2
   go_meet
   case rel=>exact ⟨_,(t409),(t410),H',⟨taas⟩,⟨tabq⟩,⟨taaw⟩,⟨taan⟩⟩
 case rest =>
  clear HC4;try clear c1
  try clear p2
  try clear c5
  try clear c8
  try clear c11
  try clear c12
  try clear c15
  try clear c16
  try clear c17
  obtain ⟨kq,x403001_3,x403002_3,HA,HJ3,HO_5,HI402,HB⟩:=hcut
  cases kq with
  | zero=>exact absurd HA.out (by simp [spec_DrawCarryList.j0])
  | succ kj3 =>
   have H:=HA.out
   clear HA;simp only [spec_DrawCarryList.j0] at H
   have H':=zad H
   clear H;obtain ⟨Ao20,co20,eo20⟩:=Kd.V_slice HO_5.out
   subst eo20;go_wp2
   go_loopg [10,34] kj3 (fun kq v10 v34 w'=>∃ (x10_2:List Int) (x34_2:Int) (x403001_2:Int) (x403002_2:Int),v34 = .int .i64 x34_2∧Aside0 (spec_DrawCarryList.l0 kq t403 x10_2 (t403.length:Int) x34_2 l0 x403001_2 x403002_2=some (r1,r2))∧Aside0 (kq≤kj3)∧Aside0 (Kd.V (Kd.slice 3 (Kd.int .i64)) 25 w' w.heap.size (fun k_=>(w.heap.size≤k_)∧some k_≠(v10:Value).ownBlock∧k_≠gb402) (.slice Ao20 t403.length co20) t403)∧Aside0 (Kd.R (Kd.int .i64) 3 w' w.heap.size (fun k_=>(w.heap.size≤k_)) v10 x10_2)∧Aside0 (IsS43 w w' gb402 l0 x403001_2 x403002_2)∧Aside0 (Below w.heap.size w w'))
   case atStart=>exact ⟨(([]:List Int)),(0),(x403001_3),(x403002_3),(taad),H',⟨zcf _⟩,⟨by (with_reducible repeat (first | apply zbb | apply zbc | apply Kd.V_drew));exact Kd.V_mono HO_5.out (fun _ hk=>⟨hk.1,⟨(by simp [Value.ownBlock]),hk.2⟩⟩)⟩,⟨taax⟩,⟨taaw⟩,⟨taan⟩⟩
   case round =>
    clear H'
    try clear c1
    try clear p2
    try clear c5
    try clear c8
    try clear c11
    try clear c12
    try clear c15
    try clear c16
    try clear c17
    try clear p2
    obtain ⟨x10_2,x34_2,x403001_2,x403002_2,rfl,HA,HK2,HO_5,HO_10,HI402,HB⟩:=hrel
    cases gk with
    | zero=>exact absurd HA.out (by simp [spec_DrawCarryList.l0])
    | succ k2 =>
     have H:=HA.out
     clear HA;simp only [spec_DrawCarryList.l0] at H
     by_cases c21:x34_2<(t403.length:Int)
     ·rw [if_pos c21] at H
      have c21b0:decide (x34_2<(t403.length:Int))=true:=zba c21
      clear c21;replace H:=zay.mp H;obtain ⟨⟨t423,t424,t425⟩,A220,H⟩:=H
      replace H:((spec_l1Cur_among.f l0 t424 t425 (([1,2,6]:List Int))).bind fun bt429=>(if x10_2.length<17592186044416 then (spec_DrawCarryList.l0 k2 t403 (x10_2 ++ [wrap64 (t423*bt429.1)]) (t403.length:Int) (wrap64 (x34_2+1)) l0 bt429.2.1 bt429.2.2) else (none)))=some (r1,r2):=H
      have A22:=zad A220;clear A220;obtain ⟨y426,hy426⟩:∃ y_:List Int,y_=(([1,2,6]:List Int)):=⟨_,rfl⟩
      replace H:((spec_l1Cur_among.f l0 t424 t425 y426).bind fun bt429=>(if x10_2.length<17592186044416 then (spec_DrawCarryList.l0 k2 t403 (x10_2 ++ [wrap64 (t423*bt429.1)]) (t403.length:Int) (wrap64 (x34_2+1)) l0 bt429.2.1 bt429.2.2) else (none)))=some (r1,r2):=by first | (rw [hy426];with_reducible exact H) | (have H2_:=(zbd _ _).symm.trans H;rw [hy426];with_reducible exact H2_) | (have H2_:=(zbd _ _).symm.trans H;with_reducible exact H2_) | with_reducible exact H | (rw [hy426];exact H) | exact H
      have Ny426:=zad hy426;clear hy426;replace H:=zay.mp H;obtain ⟨⟨t429,t430,t431⟩,A230,H⟩:=H
      replace H:(if x10_2.length<17592186044416 then (spec_DrawCarryList.l0 k2 t403 (x10_2 ++ [wrap64 (t423*t429)]) (t403.length:Int) (wrap64 (x34_2+1)) l0 t430 t431) else (none))=some (r1,r2):=H
      have A23:=zad A230;clear A230;by_cases c24:x10_2.length<17592186044416
      ·rw [if_pos c24] at H
       have LMc24:=zad c24;clear c24;obtain ⟨y432,hy432⟩:∃ y_:List Int,y_=(x10_2 ++ [wrap64 (t423*t429)]):=⟨_,rfl⟩
       replace H:(spec_DrawCarryList.l0 k2 t403 y432 (t403.length:Int) (wrap64 (x34_2+1)) l0 t430 t431)=some (r1,r2):=by first | (rw [hy432];with_reducible exact H) | (have H2_:=(zbd _ _).symm.trans H;rw [hy432];with_reducible exact H2_) | (have H2_:=(zbd _ _).symm.trans H;with_reducible exact H2_) | with_reducible exact H | (rw [hy432];exact H) | exact H
       have Ny432:=zad hy432;clear hy432;have H':=zad H
       clear H;go_wp2_with (first | ((with_reducible refine zbh (f:=18) rfl ?_);refine zbn (some 38) rfl rfl Tryz.func18 (by kernel_rfl) rfl #[.pointer (some ⟨gb402,0,none⟩),.int .i64 7] rfl (taae) ?_;(with_reducible refine (zcn gb402 l0 x403001_2 x403002_2 7 t423 t424 t425 w _ ?side1 ?side2 A22.out).mono ?_);(case side1=>repeat (first | (with_reducible first | exact HI402.out | apply zcg | apply zch | apply zci | apply zcl | apply zcm) | exact HI402.out));(case side2=>repeat (first | (with_reducible first | exact HB.out | apply zag | apply zae | apply zaf | refine zah ?_ (zck HI402.out)) | exact HB.out));rintro e w25 ⟨rfl,hi,hb,hk⟩;refine ⟨_,rfl,?_⟩;have n0_:=zad (Kd.V_mono (Kd.V_keep (Kd.V_mono (ok:=fun k_=>(((w.heap.size≤k_))∧(some k_≠(u10:Value).ownBlock∧k_≠gb402))) (tact) (fun k_ hk_=>(⟨hk_,hk_.2.2⟩:_∧k_≠gb402))) hk (fun _ h=>h.2)) (fun _ h=>h.1));have n1_:=zad (zbq (zbr (zcj (show IsS43 w _ gb402 l0 x403001_2 x403002_2 from by exact taaw) (tabr) (by decide)) hk (fun _ h=>h.2)) (fun _ h=>h.1));have n2_:=zad (hb);have n3_:=zad (hi);clear HO_5 HO_10 HB HI402;have HO_5:=n0_;have HO_10:=n1_;have HB:=n2_;have HI402:=n3_;clear n0_ n1_ n2_ n3_;(try clear hb);(try clear hb2);(try clear hk);(try clear hi)) | ((with_reducible refine gate_dst (N:=40) rfl ?_);refine Kd.R_lit (Kd.int .i64) _ 3 ?hg (N:=40) ?hd (xs:=([1,2,6]:List Int)) (inner:=[.int .i64 1,.int .i64 2,.int .i64 6]) (ok:=fun _=>True) (okp:=fun _=>True) ?hr ?hp (fun _ hk=>hk) trivial (Below.refl _ _) (zcf _) (taac) ?_;(case hd=>rfl);(case hg=>rfl);(case hr=>first | (go_simp;done) | (go_simp;rfl));(case hp=>exact (Reps.one (show Kd.M (Kd.int .i64) _ _ _ 1 [.int .i64 1] from rfl) (Reps.one (show Kd.M (Kd.int .i64) _ _ _ 2 [.int .i64 2] from rfl) (Reps.one (show Kd.M (Kd.int .i64) _ _ _ 6 [.int .i64 6] from rfl) (Reps.none _ _)))));intro v427 w26 ho27 hb hg_ hnew_;clear hg_ hnew_;(first | rw [← Ny426.out] at ho27 | (simp only [Int.reduceToNat] at ho27;rw [← Ny426.out] at ho27));have n0_:=zad (Kd.V_elder' (tact) (zcd ho27) hb);have n1_:=zad (zcb (tabr) (zcd ho27) hb);have n2_:=zad (zbu (zcc (Kd.R_newM (M:=fun k_=>(w.heap.size≤k_)) ho27 (zbk (taan)) (fun k_ h_=>h_)) (zce (tabr))) (zbk (taan)));have n3_:=zad (IsS43.below (taaw) hb);have n4_:=zad (zbg (taan) hb);clear HO_5 HO_10 HI402 HB;have HO_5:=n0_;have HO_10:=n1_;have HO428:=n2_;have HI402:=n3_;have HB:=n4_;clear n0_ n1_ n2_ n3_ n4_ hb ho27;obtain ⟨Ao28,co28,eo28⟩:=zbv HO428.out;subst eo28) | ((with_reducible refine zbh (f:=19) rfl ?_);refine zbn (some 41) rfl rfl Tryz.func19 (by kernel_rfl) rfl #[.pointer (some ⟨gb402,0,none⟩),.slice Ao28 y426.length co28] rfl (taae) ?_;(with_reducible refine (spec_l1Cur_among.calls gb402 l0 t424 t425 _ _ y426 t429 t430 t431 w _ ?side1 ?side2 ?side3 ?side4 ?side5 A23.out).mono ?_);(case side1=>repeat (first | (with_reducible first | exact HI402.out | apply zcg | apply zch | apply zci | apply zcl | apply zcm) | exact HI402.out));(case side2=>repeat (first | (with_reducible first | exact HB.out | apply zag | apply zae | apply zaf | refine zah ?_ (zck HI402.out)) | exact HB.out));(case side3=>repeat (first | exact (zbf HO428.out).2.2 | (with_reducible refine zal ?_ _) | (with_reducible refine zam ?_ _) | (with_reducible refine zan ?_)));(case side4=>exact (zbf HO428.out).2.1);(case side5=>exact far_slice (IsS43.own_ne HI402.out HO428.out (by decide)));rintro e w29 ⟨rfl,hi,hb,hk⟩;refine ⟨_,rfl,?_⟩;have n0_:=zad (Kd.V_mono (Kd.V_keep (Kd.V_mono (ok:=fun k_=>((((w.heap.size≤k_))∧(some k_≠(u10:Value).ownBlock∧k_≠gb402))∧some k_≠(.slice Ao28 y426.length co28:Value).ownBlock)) (tact) (fun k_ hk_=>(⟨hk_,hk_.1.2.2⟩:_∧k_≠gb402))) hk (fun _ h=>h.2)) (fun _ h=>h.1));have n1_:=zad (zbq (zbr (zcj (show IsS43 w _ gb402 l0 t424 t425 from by exact taaw) (tabr) (by decide)) hk (fun _ h=>h.2)) (fun _ h=>h.1));have n2_:=zad (zbq (zbr (zcj (show IsS43 w _ gb402 l0 t424 t425 from by exact taaw) (taed) (by decide)) hk (fun _ h=>h.2)) (fun _ h=>h.1));have n3_:=zad (hb);have n4_:=zad (hi);clear HO_5 HO_10 HO428 HB HI402;have HO_5:=n0_;have HO_10:=n1_;have HO428:=n2_;have HB:=n3_;have HI402:=n4_;clear n0_ n1_ n2_ n3_ n4_;(try clear hb);(try clear hb2);(try clear hk);(try clear hi)) | ((with_reducible refine gate_builtin (b := .append) (xs:=#[.tmp 36,.tmp 43]) rfl ?_);at_builtin;refine Kd.R_append (Kd.int .i64) (w0:=w) w.heap.size rfl (.tmp 36) (.tmp 43) 25 3 (.int .i64 0) 8 rfl Tryz.underlying25 info3 rfl (by decide) (by omega) u10 x10_2 (wrap64 (t423*t429)) [.int .i64 (wrap64 (t423*t429))] (fun k_=>(w.heap.size≤k_)∧some k_≠(.slice Ao28 y426.length co28:Value).ownBlock) (fun _=>False) rfl rfl ?aP (fun _ hk=>hk.elim) ?aF ?aO ?aB ?aS ?aL ?_;(case aP=>exact rfl);(case aB=>exact (taan));(case aF=>exact (fun k_ hk=>⟨(Nat.le_trans (zbk (taan)) hk),Kd.fresh' (zce (taed)) k_ hk⟩));(case aO=>exact (tabr));(case aS=>exact (zbk (taan)));(case aL=>have:=LMc24.out;omega);intro v433 w30 ho hb hg hat;rw [← Ny432.out] at ho;have n0_:=zad (Kd.V_afterv (ok:=(fun k_=>(w.heap.size≤k_)∧some k_≠(.slice Ao28 y426.length co28:Value).ownBlock∧k_≠gb402)) (by (with_reducible repeat (first | apply zbb | apply zbc | apply Kd.V_drew));exact Kd.V_mono HO_5.out (fun _ hk=>⟨⟨hk.1.1,⟨hk.2,hk.1.2.2⟩⟩,hk.1.2.1⟩)) hg hat);have n1_:=zad (IsS43.grown (taaw) hg (IsS43.own_ne HI402.out HO_10.out (by decide)));have n2_:=zad (Kd.R_after (ok:=(fun k_=>(w.heap.size≤k_))) (by (with_reducible repeat (first | apply zai | apply zaj | apply zak));exact zbq HO428.out (fun _ hk=>⟨hk.1.1,hk.2⟩)) hg hat);have n3_:=zad (hb);have n4_:=zad (ho);clear HO_5 HI402 HO428 HB HO_10;have HO_5:=n0_;have HI402:=n1_;have HO428:=n2_;have HB:=n3_;have HO434:=n4_;clear n0_ n1_ n2_ n3_ n4_ ho hb hg hat))
       go_roundg k2
       case measure=>have:=HJ3.out;have:=HK2.out;omega
       case rel=>exact ⟨(y432),(wrap64 (x34_2+1)),(t430),(t431),(taad),H',⟨by have:=HJ3.out;have:=HK2.out;omega⟩,⟨by (with_reducible repeat (first | apply zbb | apply zbc | apply Kd.V_drew));exact Kd.V_mono HO_5.out (fun _ hk=>⟨hk.1.1,⟨hk.2,hk.1.2.2⟩⟩)⟩,⟨by (with_reducible repeat (first | apply zai | apply zaj | apply zak));exact zbq HO434.out (fun _ hk=>hk.1)⟩,⟨taaw⟩,⟨taan⟩⟩
      ·rw [if_neg c24] at H
       exact absurd H (taac)
     ·rw [if_neg c21] at H
      have c21b0:decide (x34_2<(t403.length:Int))=false:=zbj c21
      clear c21;simp only [zbl,zbp] at H
      obtain ⟨rfl,rfl⟩:=H
      go_wp2
      go_ret2
      exact ⟨_,_,taai,by (with_reducible repeat (first | apply zbb | apply zbc | apply Kd.V_drew));exact Kd.V_mono HO_5.out (fun _ hk=>⟨hk.1,hk.2.1⟩),tabr,taan⟩
def impl_IsList.f (k:Nat) (l0:List Int):Option (Bool):=(impl_within.f (l0.length:Int) 1 8).bind fun t437=>(if t437=true then ((impl_allWithin.f k l0 0 60).bind fun t438=>(some t438)) else (some false))
theorem impl_IsList.calls (k:Nat) (A0:Option Addr) (c0:Nat) (l0:List Int) (r:Bool) (w:World) (hr0:Kd.C (Kd.int .i64) w A0 l0.length l0) (hc0:l0.length≤c0) (h:impl_IsList.f k l0=some r) :
 Calls Tryz.prog 21 #[.slice A0 l0.length c0] w fun e w'=>e = .returned (.bool r)∧Drawn0 w w':=by
 have HR0:=zad hr0;have HC0:=zad hc0;clear hr0 hc0;have H:((impl_within.f (l0.length:Int) 1 8).bind fun t437=>(if t437=true then ((impl_allWithin.f k l0 0 60).bind fun t438=>(some t438)) else (some false)))=some r:=h
 clear h;replace H:=zay.mp H;obtain ⟨t437,A20,H⟩:=H
 replace H:(if t437=true then ((impl_allWithin.f k l0 0 60).bind fun t438=>(some t438)) else (some false))=some r:=H
 have A2:=zad A20;clear A20;by_cases c3:t437=true
 ·subst c3
  have H1:((impl_allWithin.f k l0 0 60).bind fun t438=>(some t438))=some r:=by rw [if_pos rfl] at H;exact H
  clear H;have H:=H1;clear H1;replace H:=zay.mp H;obtain ⟨t438,A40,H⟩:=H
  replace H:(some t438)=some r:=H
  have A4:=zad A40;clear A40;obtain rfl:=zbe H
  go_enter Tryz.func21,Tryz.ntmps21
  go_wp2_with (first | ((with_reducible refine zbh (f:=54) rfl ?_);refine zbn (some 5) rfl rfl Tryz.func54 (by kernel_rfl) rfl #[.int .i64 (l0.length:Int),.int .i64 1,.int .i64 8] rfl (taae) ?_;(with_reducible refine (impl_within.calls (l0.length:Int) 1 8 true _ A2.out).mono ?_);rintro e w' ⟨rfl,⟨nd,rfl⟩⟩;refine ⟨_,rfl,?_⟩) | (go_at_call 57;(with_reducible refine (impl_allWithin.calls k _ _ l0 0 60 t438 _ ?side1 ?side2 A4.out).mono ?_);(case side1=>repeat (first | exact HR0.out | (with_reducible refine zal ?_ _) | (with_reducible refine zam ?_ _) | (with_reducible refine zan ?_)));(case side2=>exact HC0.out);rintro e w' ⟨rfl,⟨nd,rfl⟩⟩))
  go_ret
  exact ⟨taad,taah⟩
 ·replace c3:=zbi.mpr c3
  subst c3;have H1:(some false)=some r:=by rw [if_neg (show ¬ (false=true) by decide)] at H;exact H
  clear H;have H:=H1;clear H1;obtain rfl:=zbe H
  go_enter Tryz.func21,Tryz.ntmps21
  go_wp2_with (first | ((with_reducible refine zbh (f:=54) rfl ?_);refine zbn (some 5) rfl rfl Tryz.func54 (by kernel_rfl) rfl #[.int .i64 (l0.length:Int),.int .i64 1,.int .i64 8] rfl (taae) ?_;(with_reducible refine (impl_within.calls (l0.length:Int) 1 8 false _ A2.out).mono ?_);rintro e w' ⟨rfl,⟨nd,rfl⟩⟩;refine ⟨_,rfl,?_⟩))
  go_ret
  exact ⟨taad,taah⟩
mutual
def impl_CarryList.j0:Nat→List (List Int)→List Int→Bool→Option (List Int × Bool)
 | 0,_,_,_=>none
 | k+1,x0,x1,x28=>if x28=true then (some (([]:List Int),false)) else ((impl_equalSum.f k x0).bind fun bt448=>(if bt448.2=true then (impl_CarryList.j1 k x0 x1 bt448.1 (bt448.1 == 0)) else (impl_CarryList.j1 k x0 x1 bt448.1 true)))
def impl_CarryList.j1:Nat→List (List Int)→List Int→Int→Bool→Option (List Int × Bool)
 | 0,_,_,_,_=>none
 | k+1,x0,x1,x6,x39=>if x39=true then (some (([]:List Int),false)) else (impl_CarryList.l0 k x1 x6 (([]:List Int)) x0 (x0.length:Int) 0)
def impl_CarryList.l0:Nat→List Int→Int→List Int→List (List Int)→Int→Int→Option (List Int × Bool)
 | 0,_,_,_,_,_,_=>none
 | k+1,x1,x6,x8,x41,x42,x43=>if x43<x42 then (if 0≤x43 then (if x43<(x41.length:Int) then (impl_CarryList.l1 k x1 x6 x8 0 x41 x42 x43 (rd_L2 x41 x43) ((rd_L2 x41 x43).length:Int) 0) else (none)) else (none)) else (some (x8,true))
def impl_CarryList.l1:Nat→List Int→Int→List Int→Int→List (List Int)→Int→Int→List Int→Int→Int→Option (List Int × Bool)
 | 0,_,_,_,_,_,_,_,_,_,_=>none
 | k+1,x1,x6,x8,x11,x41,x42,x43,x47,x48,x49=>if x49<x48 then (if 0≤x49 then (if x49<(x47.length:Int) then (if x49<(x1.length:Int) then (impl_CarryList.l1 k x1 x6 x8 (wrap64 (x11+(wrap64 ((rd x47 x49)*(rd x1 x49))))) x41 x42 x43 x47 x48 (wrap64 (x49+1))) else (none)) else (none)) else (none)) else (if x6=0 then (none) else (if (Int.tmod x11 x6)=0 then (if x8.length<17592186044416 then (impl_CarryList.l0 k x1 x6 (x8 ++ [wrap64 (Int.tdiv x11 x6)]) x41 x42 (wrap64 (x43+1))) else (none)) else (some (([]:List Int),false))))
end
def impl_CarryList.f (k:Nat) (l0:List (List Int)) (l1:List Int):Option (List Int × Bool):=(impl_IsSquare.f l0).bind fun t446=>(if t446=true then ((impl_IsList.f k l1).bind fun t447=>(if t447=true then (impl_CarryList.j0 k l0 l1 ((l0.length:Int) != (l1.length:Int))) else (impl_CarryList.j0 k l0 l1 true))) else (impl_CarryList.j0 k l0 l1 true))
theorem impl_CarryList.calls (k:Nat) (A0:Option Addr) (c0:Nat) (l0:List (List Int)) (A1:Option Addr) (c1:Nat) (l1:List Int) (r1:List Int) (r2:Bool) (w:World) (hr0:Kd.C (Kd.slice 3 (Kd.int .i64)) w A0 l0.length l0) (hc0:l0.length≤c0) (hr1:Kd.C (Kd.int .i64) w A1 l1.length l1) (hc1:l1.length≤c1) (h:impl_CarryList.f k l0 l1=some (r1,r2)) :
 Calls Tryz.prog 6 #[.slice A0 l0.length c0,.slice A1 l1.length c1] w fun e w'=>∃ v0_:Value,e = .returned (.tuple #[v0_,.bool r2])∧Kd.R (Kd.int .i64) 3 w' w.heap.size (fun _=>True) v0_ r1∧Below w.heap.size w w':=by
 have HR0:=zad hr0;have HC0:=zad hc0;clear hr0 hc0;have HR1:=zad hr1;have HC1:=zad hc1;clear hr1 hc1;have HB:=zad (Below.refl w.heap.size w)
 have H:((impl_IsSquare.f l0).bind fun t446=>(if t446=true then ((impl_IsList.f k l1).bind fun t447=>(if t447=true then (impl_CarryList.j0 k l0 l1 ((l0.length:Int) != (l1.length:Int))) else (impl_CarryList.j0 k l0 l1 true))) else (impl_CarryList.j0 k l0 l1 true)))=some (r1,r2):=h
 clear h;have HC3:=zad H;clear H;go_enter Tryz.func6,Tryz.ntmps6
 go_upto_region 1 with (fail)
 go_cut [28] (fun v28 wc=>∃ (kq:Nat) (x28_2:Bool),v28 = .bool x28_2∧Aside0 (impl_CarryList.j0 kq l0 l1 x28_2=some (r1,r2))∧Aside0 (kq≤k)∧Aside0 (Below w.heap.size w wc))
 case first =>
  have H:=HC3.out
  clear HC3;replace H:=zay.mp H;obtain ⟨t446,A40,H⟩:=H
  replace H:(if t446=true then ((impl_IsList.f k l1).bind fun t447=>(if t447=true then (impl_CarryList.j0 k l0 l1 ((l0.length:Int) != (l1.length:Int))) else (impl_CarryList.j0 k l0 l1 true))) else (impl_CarryList.j0 k l0 l1 true))=some (r1,r2):=H
  have A4:=zad A40;clear A40;by_cases c5:t446=true
  ·subst c5
   have H1:((impl_IsList.f k l1).bind fun t447=>(if t447=true then (impl_CarryList.j0 k l0 l1 ((l0.length:Int) != (l1.length:Int))) else (impl_CarryList.j0 k l0 l1 true)))=some (r1,r2):=by rw [if_pos rfl] at H;exact H
   clear H;have H:=H1;clear H1;replace H:=zay.mp H;obtain ⟨t447,A60,H⟩:=H
   replace H:(if t447=true then (impl_CarryList.j0 k l0 l1 ((l0.length:Int) != (l1.length:Int))) else (impl_CarryList.j0 k l0 l1 true))=some (r1,r2):=H
   have A6:=zad A60;clear A60;by_cases c7:t447=true
   ·subst c7
    have H1:(impl_CarryList.j0 k l0 l1 ((l0.length:Int) != (l1.length:Int)))=some (r1,r2):=by rw [if_pos rfl] at H;exact H
    clear H;have H:=H1;clear H1;have H':=zad H
    clear H;go_wp2_with (first | ((with_reducible refine zbh (f:=20) rfl ?_);refine zbn (some 15) rfl rfl Tryz.func20 (by kernel_rfl) rfl #[.slice A0 l0.length c0] rfl (taae) ?_;(with_reducible refine (impl_IsSquare.calls _ _ l0 true _ ?side1 ?side2 A4.out).mono ?_);(case side1=>repeat (first | exact (Kd.C_below HR0.out HB.out) | (with_reducible refine zal ?_ _) | (with_reducible refine zam ?_ _) | (with_reducible refine zan ?_)));(case side2=>exact HC0.out);rintro e w8 ⟨rfl,hb⟩;refine ⟨_,rfl,?_⟩;have n0_:=zad (zbg (taab) hb);clear HB;have HB:=n0_;clear n0_;(try clear hb);(try clear hb2);(try clear hk);(try clear hi)) | (go_at_call 21;(with_reducible refine (impl_IsList.calls k _ _ l1 true _ ?side1 ?side2 A6.out).mono ?_);(case side1=>repeat (first | exact (Kd.C_below HR1.out HB.out) | (with_reducible refine zal ?_ _) | (with_reducible refine zam ?_ _) | (with_reducible refine zan ?_)));(case side2=>exact HC1.out);rintro e w' ⟨rfl,⟨nd,rfl⟩⟩))
    go_meet
    case rel=>exact ⟨_,(((l0.length:Int) != (l1.length:Int))),(taad),H',⟨taas⟩,⟨taab⟩⟩
   ·replace c7:=zbi.mpr c7
    subst c7;have H1:(impl_CarryList.j0 k l0 l1 true)=some (r1,r2):=by rw [if_neg (show ¬ (false=true) by decide)] at H;exact H
    clear H;have H:=H1;clear H1;have H':=zad H
    clear H;go_wp2_with (first | ((with_reducible refine zbh (f:=20) rfl ?_);refine zbn (some 15) rfl rfl Tryz.func20 (by kernel_rfl) rfl #[.slice A0 l0.length c0] rfl (taae) ?_;(with_reducible refine (impl_IsSquare.calls _ _ l0 true _ ?side1 ?side2 A4.out).mono ?_);(case side1=>repeat (first | exact (Kd.C_below HR0.out HB.out) | (with_reducible refine zal ?_ _) | (with_reducible refine zam ?_ _) | (with_reducible refine zan ?_)));(case side2=>exact HC0.out);rintro e w9 ⟨rfl,hb⟩;refine ⟨_,rfl,?_⟩;have n0_:=zad (zbg (taab) hb);clear HB;have HB:=n0_;clear n0_;(try clear hb);(try clear hb2);(try clear hk);(try clear hi)) | (go_at_call 21;(with_reducible refine (impl_IsList.calls k _ _ l1 false _ ?side1 ?side2 A6.out).mono ?_);(case side1=>repeat (first | exact (Kd.C_below HR1.out HB.out) | (with_reducible refine zal ?_ _) | (with_reducible refine zam ?_ _) | (with_reducible refine zan ?_)));(case side2=>exact HC1.out);rintro e w' ⟨rfl,⟨nd,rfl⟩⟩))
    go_meet
    case rel=>exact ⟨_,(true),(taad),H',⟨taas⟩,⟨taab⟩⟩
  ·replace c5:=zbi.mpr c5
   subst c5;have H1:(impl_CarryList.j0 k l0 l1 true)=some (r1,r2):=by rw [if_neg (show ¬ (false=true) by decide)] at H;exact H
   clear H;have H:=H1;clear H1;have H':=zad H
   clear H;go_wp2_with (first | ((with_reducible refine zbh (f:=20) rfl ?_);refine zbn (some 15) rfl rfl Tryz.func20 (by kernel_rfl) rfl #[.slice A0 l0.length c0] rfl (taae) ?_;(with_reducible refine (impl_IsSquare.calls _ _ l0 false _ ?side1 ?side2 A4.out).mono ?_);(case side1=>exact tafm);(case side2=>exact HC0.out);rintro e w10 ⟨rfl,hb⟩;refine ⟨_,rfl,?_⟩;have n0_:=zad (zbg (taab) hb);clear HB;have HB:=n0_;clear n0_;(try clear hb);(try clear hb2);(try clear hk);(try clear hi)))
   go_meet
   case rel=>exact ⟨_,(true),(taad),H',⟨taas⟩,⟨taab⟩⟩
 case rest =>
  clear HC3;try clear c1
  try clear c2
  try clear p2
  try clear c5
  try clear c6
  try clear c7
  obtain ⟨kq,x28_2,rfl,HA,HJ2,HB⟩:=hcut
  cases kq with
  | zero=>exact absurd HA.out (by simp [impl_CarryList.j0])
  | succ kj2 =>
   have H:=HA.out
   clear HA;simp only [impl_CarryList.j0] at H
   by_cases c11:x28_2=true
   ·subst c11
    have H1:(some (([]:List Int),false))=some (r1,r2):=by rw [if_pos rfl] at H;exact H
    clear H;have H:=H1;clear H1;simp only [zbl,zbp] at H
    obtain ⟨rfl,rfl⟩:=H
    go_wp2
    go_ret2
    exact ⟨_,taai,taax,taab⟩
   ·replace c11:=zbi.mpr c11
    subst c11;have H1:((impl_equalSum.f kj2 l0).bind fun bt448=>(if bt448.2=true then (impl_CarryList.j1 kj2 l0 l1 bt448.1 (bt448.1 == 0)) else (impl_CarryList.j1 kj2 l0 l1 bt448.1 true)))=some (r1,r2):=by rw [if_neg (show ¬ (false=true) by decide)] at H;exact H
    clear H;have H:=H1;clear H1;replace H:=zay.mp H;obtain ⟨⟨t448,t449⟩,A120,H⟩:=H
    replace H:(if t449=true then (impl_CarryList.j1 kj2 l0 l1 t448 (t448 == 0)) else (impl_CarryList.j1 kj2 l0 l1 t448 true))=some (r1,r2):=H
    have A12:=zad A120;clear A120;have HC13:=zad H;clear H;go_upto_region 4 with (first | ((with_reducible refine zbh (f:=22) rfl ?_);refine zbn (some 31) rfl rfl Tryz.func22 (by kernel_rfl) rfl #[.slice A0 l0.length c0] rfl (taae) ?_;(with_reducible refine (impl_equalSum.calls kj2 _ _ l0 t448 t449 _ ?side1 ?side2 A12.out).mono ?_);(case side1=>exact tafm);(case side2=>exact HC0.out);rintro e w' ⟨rfl,⟨nd,rfl⟩⟩;refine ⟨_,rfl,?_⟩))
    (try simp only [Act.put,zaa,zab,zac])
    go_cut [39] (fun v39 wc=>∃ (kq:Nat) (x39_12:Bool),v39 = .bool x39_12∧Aside0 (impl_CarryList.j1 kq l0 l1 t448 x39_12=some (r1,r2))∧Aside0 (kq≤kj2)∧Aside0 (Below w.heap.size w wc))
    case first =>
     have H:=HC13.out
     clear HC13;by_cases c14:t449=true
     ·subst c14
      have H1:(impl_CarryList.j1 kj2 l0 l1 t448 (t448 == 0))=some (r1,r2):=by rw [if_pos rfl] at H;exact H
      clear H;have H:=H1;clear H1;have H':=zad H
      clear H;go_wp2
      go_meet
      case rel=>exact ⟨_,((t448 == 0)),(taad),H',⟨by have:=HJ2.out;first | omega | exact zcf _⟩,⟨taab⟩⟩
     ·replace c14:=zbi.mpr c14
      subst c14;have H1:(impl_CarryList.j1 kj2 l0 l1 t448 true)=some (r1,r2):=by rw [if_neg (show ¬ (false=true) by decide)] at H;exact H
      clear H;have H:=H1;clear H1;have H':=zad H
      clear H;go_wp2
      go_meet
      case rel=>exact ⟨_,(true),(taad),H',⟨by have:=HJ2.out;first | omega | exact zcf _⟩,⟨taab⟩⟩
    case rest =>
     clear HC13;try clear c1
     try clear c2
     try clear p2
     try clear c5
     try clear c6
     try clear c7
     try clear c11
     try clear c14
     try clear p2
     obtain ⟨kq,x39_12,rfl,HA,HJ12,HB⟩:=hcut
     cases kq with
     | zero=>exact absurd HA.out (by simp [impl_CarryList.j1])
     | succ kj12 =>
      have H:=HA.out
      clear HA;simp only [impl_CarryList.j1] at H
      by_cases c15:x39_12=true
      ·subst c15
       have H1:(some (([]:List Int),false))=some (r1,r2):=by rw [if_pos rfl] at H;exact H
       clear H;have H:=H1;clear H1;simp only [zbl,zbp] at H
       obtain ⟨rfl,rfl⟩:=H
       go_wp2
       go_ret2
       exact ⟨_,taai,taax,taab⟩
      ·replace c15:=zbi.mpr c15
       subst c15;have H1:(impl_CarryList.l0 kj12 l1 t448 (([]:List Int)) l0 (l0.length:Int) 0)=some (r1,r2):=by rw [if_neg (show ¬ (false=true) by decide)] at H;exact H
       clear H;have H:=H1;clear H1;obtain ⟨y450,hy450⟩:∃ y_:List Int,y_=(([]:List Int)):=⟨_,rfl⟩
       replace H:(impl_CarryList.l0 kj12 l1 t448 y450 l0 (l0.length:Int) 0)=some (r1,r2):=by first | (rw [hy450];with_reducible exact H) | (have H2_:=(zbd _ _).symm.trans H;rw [hy450];with_reducible exact H2_) | (have H2_:=(zbd _ _).symm.trans H;with_reducible exact H2_) | with_reducible exact H | (rw [hy450];exact H) | exact H
       have Ny450:=zad hy450;clear hy450;have H':=zad H
       clear H;go_wp2_with (first | ((with_reducible refine gate_dst (N:=40) rfl ?_);(try (refine gate_guard (by rfl) ?_;dsimp only));refine Kd.R_lit (Kd.int .i64) _ 3 ?hg (N:=40) ?hd (xs:=([]:List Int)) (inner:=[]) (ok:=fun _=>True) (okp:=fun _=>True) ?hr ?hp (fun _ hk=>hk) trivial (Below.refl _ _) (zcf _) (taac) ?_;(case hd=>rfl);(case hg=>rfl);(case hr=>first | (go_simp;done) | (go_simp;rfl));(case hp=>exact (Reps.none _ _));intro v451 w16 ho17 hb hg_ hnew_;clear hg_ hnew_;(first | rw [← Ny450.out] at ho17 | (simp only [Int.reduceToNat] at ho17;rw [← Ny450.out] at ho17));have n0_:=zad (zbu ho17 (zbk (taab)));have n1_:=zad (zbg (taab) hb);clear HB;have HO452:=n0_;have HB:=n1_;clear n0_ n1_ hb ho17))
       go_loopg [8,43] kj12 (fun kq v8 v43 w'=>∃ (x8_3:List Int) (x43_3:Int),v43 = .int .i64 x43_3∧Aside0 (impl_CarryList.l0 kq l1 t448 x8_3 l0 (l0.length:Int) x43_3=some (r1,r2))∧Aside0 (kq≤kj12)∧Aside0 (Kd.R (Kd.int .i64) 3 w' w.heap.size (fun _=>True) v8 x8_3)∧Aside0 (Below w.heap.size w w'))
       case atStart=>exact ⟨(y450),(0),(taad),H',⟨zcf _⟩,⟨by (with_reducible repeat (first | apply zai | apply zaj | apply zak));exact HO452.out⟩,⟨taab⟩⟩
       case round =>
        clear H'
        try clear c1
        try clear c2
        try clear p2
        try clear c5
        try clear c6
        try clear c7
        try clear c11
        try clear c14
        try clear c15
        try clear p2
        obtain ⟨x8_3,x43_3,rfl,HA,HK3,HO_8,HB⟩:=hrel
        cases gk with
        | zero=>exact absurd HA.out (by simp [impl_CarryList.l0])
        | succ k3 =>
         have H:=HA.out
         clear HA;simp only [impl_CarryList.l0] at H
         by_cases c18:x43_3<(l0.length:Int)
         ·rw [if_pos c18] at H
          have c18b0:decide (x43_3<(l0.length:Int))=true:=zba c18
          clear c18;by_cases c19:0≤x43_3
          ·rw [if_pos c19] at H
           have c19b0:decide (0≤x43_3)=true:=zba c19
           clear c19;by_cases c20:x43_3<(l0.length:Int)
           ·rw [if_pos c20] at H
            have c20b0:decide (x43_3<(l0.length:Int))=true:=zba c20
            clear c20;have H':=zad H
            clear H;have p453:0≤(x43_3:Int):=zas (taaa)
            have q453:x43_3<(l0.length:Int):=zas (taaa)
            obtain ⟨ad453,A453_0,c453_0,e453,hx453_0,hl453_0,hi453_0⟩:=at_L2 HR0.out x43_3 p453 q453
            cases e453
            replace hx453_0:=(HB.out.cell (zaz w _ hx453_0)).trans hx453_0
            have HR453_0:=zad hi453_0;have HC453_0:=zad hl453_0;clear hi453_0 hl453_0;replace p453:=eq_true p453
            replace q453:=eq_true q453
            go_wp2
            go_loopg [11,49] k3 (fun kq v11 v49 w'=>∃ (x11_4:Int) (x49_4:Int),v11 = .int .i64 x11_4∧v49 = .int .i64 x49_4∧Aside0 (impl_CarryList.l1 kq l1 t448 x8_3 x11_4 l0 (l0.length:Int) x43_3 (rd_L2 l0 x43_3) ((rd_L2 l0 x43_3).length:Int) x49_4=some (r1,r2))∧Aside0 (kq≤k3)∧Aside0 (Kd.R (Kd.int .i64) 3 w' w.heap.size (fun _=>True) u8 x8_3)∧Aside0 (Below w.heap.size w w'))
            case atStart=>exact ⟨(0),(0),(taad),(taad),H',⟨zcf _⟩,⟨taap⟩,⟨taab⟩⟩
            case round =>
             clear H'
             try clear c1
             try clear c2
             try clear p2
             try clear c4
             try clear p4
             try clear q4
             try clear hx4
             try clear c5
             try clear c6
             try clear c7
             try clear c11
             try clear c14
             try clear c15
             try clear c18
             try clear c18b0
             try clear c19
             try clear c19b0
             try clear c20
             try clear c20b0
             try clear hx453_0
             try clear p2
             try clear p453
             try clear q453
             obtain ⟨x11_4,x49_4,rfl,rfl,HA,HK4,HO_8,HB⟩:=hrel
             cases gk with
             | zero=>exact absurd HA.out (by simp [impl_CarryList.l1])
             | succ k4 =>
              have H:=HA.out
              clear HA;simp only [impl_CarryList.l1] at H
              by_cases c21:x49_4<((rd_L2 l0 x43_3).length:Int)
              ·rw [if_pos c21] at H
               have c21b0:decide (x49_4<((rd_L2 l0 x43_3).length:Int))=true:=zba c21
               clear c21;by_cases c22:0≤x49_4
               ·rw [if_pos c22] at H
                have c22b0:decide (0≤x49_4)=true:=zba c22
                clear c22;by_cases c23:x49_4<((rd_L2 l0 x43_3).length:Int)
                ·rw [if_pos c23] at H
                 have c23b0:decide (x49_4<((rd_L2 l0 x43_3).length:Int))=true:=zba c23
                 clear c23;by_cases c24:x49_4<(l1.length:Int)
                 ·rw [if_pos c24] at H
                  have c24b0:decide (x49_4<(l1.length:Int))=true:=zba c24
                  clear c24;have H':=zad H
                  clear H;have p454:0≤(x49_4:Int):=zas (taaa)
                  have q454:x49_4<((rd_L2 l0 x43_3).length:Int):=zas (taaa)
                  obtain ⟨ad454,e454,hx454_0⟩:=zca HR453_0.out x49_4 p454 q454
                  cases e454
                  replace hx454_0:=(HB.out.cell (zaz w _ hx454_0)).trans hx454_0
                  replace p454:=eq_true p454
                  replace q454:=eq_true q454
                  have p455:0≤(x49_4:Int):=zas (taaa)
                  have q455:x49_4<(l1.length:Int):=zas (taaa)
                  obtain ⟨ad455,e455,hx455_0⟩:=zca HR1.out x49_4 p455 q455
                  cases e455
                  replace hx455_0:=(HB.out.cell (zaz w _ hx455_0)).trans hx455_0
                  replace p455:=eq_true p455
                  replace q455:=eq_true q455
                  go_wp2
                  go_roundg k4
                  case measure=>have:=HJ2.out;have:=HJ12.out;have:=HK3.out;have:=HK4.out;omega
                  case rel=>exact ⟨(wrap64 (x11_4+(wrap64 ((rd (rd_L2 l0 x43_3) x49_4)*(rd l1 x49_4))))),(wrap64 (x49_4+1)),(taad),(taad),H',⟨taee⟩,⟨taap⟩,⟨taab⟩⟩
                 ·rw [if_neg c24] at H
                  exact absurd H (taac)
                ·rw [if_neg c23] at H
                 exact absurd H (taac)
               ·rw [if_neg c22] at H
                exact absurd H (taac)
              ·rw [if_neg c21] at H
               have c21b0:decide (x49_4<((rd_L2 l0 x43_3).length:Int))=false:=zbj c21
               clear c21;by_cases c25:t448=0
               ·rw [if_pos c25] at H
                exact absurd H (taac)
               ·rw [if_neg c25] at H
                have c25b0:(t448 == 0)=false:=zbo.mpr c25
                have c25b1:(t448 != 0)=true:=bne_iff_ne.mpr c25
                by_cases c26:(Int.tmod x11_4 t448)=0
                ·rw [if_pos c26] at H
                 have c26b0:((Int.tmod x11_4 t448) == 0)=true:=beq_iff_eq.mpr c26
                 have c26b1:((Int.tmod x11_4 t448) != 0)=false:=bne_eq_false_iff_eq.mpr c26
                 clear c26;by_cases c27:x8_3.length<17592186044416
                 ·rw [if_pos c27] at H
                  have LMc27:=zad c27;clear c27;obtain ⟨y456,hy456⟩:∃ y_:List Int,y_=(x8_3 ++ [wrap64 (Int.tdiv x11_4 t448)]):=⟨_,rfl⟩
                  replace H:(impl_CarryList.l0 k4 l1 t448 y456 l0 (l0.length:Int) (wrap64 (x43_3+1)))=some (r1,r2):=by first | (rw [hy456];with_reducible exact H) | (have H2_:=(zbd _ _).symm.trans H;rw [hy456];with_reducible exact H2_) | (have H2_:=(zbd _ _).symm.trans H;with_reducible exact H2_) | with_reducible exact H | (rw [hy456];exact H) | exact H
                  have Ny456:=zad hy456;clear hy456;have H':=zad H
                  clear H;go_wp2_with (first | ((with_reducible refine gate_builtin (b := .append) (xs:=#[.tmp 67,.tmp 71]) rfl ?_);(try (refine gate_guard (by rfl) ?_;dsimp only));at_builtin;refine Kd.R_append (Kd.int .i64) (w0:=w) w.heap.size rfl (.tmp 67) (.tmp 71) 25 3 (.int .i64 0) 8 rfl Tryz.underlying25 info3 rfl (by decide) (by omega) u8 x8_3 (wrap64 (Int.tdiv x11_4 t448)) [.int .i64 (wrap64 (Int.tdiv x11_4 t448))] (fun _=>True) (fun _=>False) rfl rfl ?aP (fun _ hk=>hk.elim) ?aF ?aO ?aB ?aS ?aL ?_;(case aP=>exact rfl);(case aB=>exact (taab));(case aF=>exact (fun _ _=>trivial));(case aO=>exact (taap));(case aS=>exact (zbk (taab)));(case aL=>have:=LMc27.out;omega);intro v457 w28 ho hb hg hat;rw [← Ny456.out] at ho;have n0_:=zad (hb);have n1_:=zad (ho);clear HB HO_8;have HB:=n0_;have HO458:=n1_;clear n0_ n1_ ho hb hg hat))
                  go_roundg k4
                  case measure=>have:=HJ2.out;have:=HJ12.out;have:=HK3.out;have:=HK4.out;omega
                  case rel=>exact ⟨(y456),(wrap64 (x43_3+1)),(taad),H',⟨taee⟩,⟨by (with_reducible repeat (first | apply zai | apply zaj | apply zak));exact HO458.out⟩,⟨taab⟩⟩
                 ·rw [if_neg c27] at H
                  exact absurd H (taac)
                ·rw [if_neg c26] at H
                 have c26b0:((Int.tmod x11_4 t448) == 0)=false:=zbo.mpr c26
                 have c26b1:((Int.tmod x11_4 t448) != 0)=true:=bne_iff_ne.mpr c26
                 simp only [zbl,zbp] at H
                 obtain ⟨rfl,rfl⟩:=H
                 go_wp2
                 go_ret2
                 exact ⟨_,taai,taax,taab⟩
           ·rw [if_neg c20] at H
            exact absurd H (taac)
          ·rw [if_neg c19] at H
           exact absurd H (taac)
         ·rw [if_neg c18] at H
          have c18b0:decide (x43_3<(l0.length:Int))=false:=zbj c18
          clear c18;simp only [zbl,zbp] at H
          obtain ⟨rfl,rfl⟩:=H
          go_wp2
          go_ret2
          exact ⟨_,taai,taap,taab⟩
mutual
def spec_doSum.l0:Nat→List (List Int)→Int→List (List Int)→Int→Int→Option (Int)
 | 0,_,_,_,_,_=>none
 | k+1,x0,x3,x13,x14,x15=>if x15<x14 then (if 0≤x15 then (if x15<(x13.length:Int) then (spec_doSum.l1 k x0 x3 x15 (rd_L2 x13 x15) 0 x13 x14 x15 x0 (x0.length:Int) 0) else (none)) else (none)) else (some x3)
def spec_doSum.l1:Nat→List (List Int)→Int→Int→List Int→Int→List (List Int)→Int→Int→List (List Int)→Int→Int→Option (Int)
 | 0,_,_,_,_,_,_,_,_,_,_,_=>none
 | k+1,x0,x3,x4,x5,x6,x13,x14,x15,x20,x21,x22=>if x22<x21 then (if 0≤x22 then (if x22<(x20.length:Int) then (if 0≤x4 then (if x4<((rd_L2 x20 x22).length:Int) then (spec_doSum.l1 k x0 x3 x4 x5 (wrap64 (x6+(rd (rd_L2 x20 x22) x4))) x13 x14 x15 x20 x21 (wrap64 (x22+1))) else (none)) else (none)) else (none)) else (none)) else ((spec_liSum.f k x5).bind fun t464=>(if t464=x3 then (if x6=x3 then (spec_doSum.l0 k x0 x3 x13 x14 (wrap64 (x15+1))) else (some (-1))) else (some (-1))))
end
def spec_doSum.f (k:Nat) (l0:List (List Int)):Option (Int):=if 0<(l0.length:Int) then ((spec_liSum.f k (rd_L2 l0 0)).bind fun t460=>(spec_doSum.l0 k l0 t460 l0 (l0.length:Int) 0)) else (none)
theorem spec_doSum.calls (k:Nat) (A0:Option Addr) (c0:Nat) (l0:List (List Int)) (r:Int) (w:World) (hr0:Kd.C (Kd.slice 3 (Kd.int .i64)) w A0 l0.length l0) (hc0:l0.length≤c0) (h:spec_doSum.f k l0=some r) :
 Calls Tryz.prog 24 #[.slice A0 l0.length c0] w fun e w'=>e = .returned (.int .i64 r)∧Drawn0 w w':=by
 have HR0:=zad hr0;have HC0:=zad hc0;clear hr0 hc0;have H:(if 0<(l0.length:Int) then ((spec_liSum.f k (rd_L2 l0 0)).bind fun t460=>(spec_doSum.l0 k l0 t460 l0 (l0.length:Int) 0)) else (none))=some r:=h
 clear h;by_cases c2:0<(l0.length:Int)
 ·rw [if_pos c2] at H
  have c2b0:decide (0<(l0.length:Int))=true:=zba c2
  have c2b1:decide (0<l0.length)=true:=zba (by omega)
  clear c2;replace H:=zay.mp H;obtain ⟨t460,A30,H⟩:=H
  replace H:(spec_doSum.l0 k l0 t460 l0 (l0.length:Int) 0)=some r:=H
  have A3:=zad A30;clear A30;have H':=zad H
  clear H;have p459:0≤(0:Int):=(by omega)
  have q459:0<(l0.length:Int):=zas (taaa)
  obtain ⟨ad459,A459_0,c459_0,e459,hx459_0,hl459_0,hi459_0⟩:=at_L2 HR0.out 0 p459 q459
  cases e459
  have qi459:(0<l0.length)=True:=eq_true (by omega)
  (try rw [show ((0:Int)).toNat=0 from rfl] at hx459_0)
  (try rw [Addr.add_zero'] at hx459_0)
  have HR459_0:=zad hi459_0;have HC459_0:=zad hl459_0;clear hi459_0 hl459_0;replace p459:=eq_true p459
  replace q459:=eq_true q459
  go_enter Tryz.func24,Tryz.ntmps24
  go_wp2_with (first | ((with_reducible refine zbh (f:=61) rfl ?_);refine zbn (some 12) rfl rfl Tryz.func61 (by kernel_rfl) rfl #[.slice A459_0 (rd_L2 l0 0).length c459_0] rfl (taae) ?_;(with_reducible refine (spec_liSum.calls k _ _ (rd_L2 l0 0) t460 _ ?side1 ?side2 A3.out).mono ?_);(case side1=>repeat (first | exact HR459_0.out | (with_reducible refine zal ?_ _) | (with_reducible refine zam ?_ _) | (with_reducible refine zan ?_)));(case side2=>exact HC459_0.out);rintro e w' ⟨rfl,⟨nd,rfl⟩⟩;refine ⟨_,rfl,?_⟩))
  go_loopg [15] k (fun kq v15 w'=>∃ (x15_1:Int),v15 = .int .i64 x15_1∧Aside0 (spec_doSum.l0 kq l0 t460 l0 (l0.length:Int) x15_1=some r)∧Aside0 (kq≤k)∧Drawn0 w w')
  case atStart=>exact ⟨(0),(taad),H',⟨zcf _⟩,taah⟩
  case round =>
   clear H'
   try clear c2
   try clear c2b0
   try clear c2b1
   try clear p2
   try clear hx459_0
   try clear p459
   try clear q459
   obtain ⟨x15_1,rfl,HA,HK1,⟨m1,rfl⟩⟩:=hrel
   cases gk with
   | zero=>exact absurd HA.out (by simp [spec_doSum.l0])
   | succ k1 =>
    have H:=HA.out
    clear HA;simp only [spec_doSum.l0] at H
    by_cases c4:x15_1<(l0.length:Int)
    ·rw [if_pos c4] at H
     have c4b0:decide (x15_1<(l0.length:Int))=true:=zba c4
     clear c4;by_cases c5:0≤x15_1
     ·rw [if_pos c5] at H
      have c5b0:decide (0≤x15_1)=true:=zba c5
      clear c5;by_cases c6:x15_1<(l0.length:Int)
      ·rw [if_pos c6] at H
       have c6b0:decide (x15_1<(l0.length:Int))=true:=zba c6
       clear c6;have H':=zad H
       clear H;have p461:0≤(x15_1:Int):=zas (taaa)
       have q461:x15_1<(l0.length:Int):=zas (taaa)
       obtain ⟨ad461,A461_0,c461_0,e461,hx461_0,hl461_0,hi461_0⟩:=at_L2 HR0.out x15_1 p461 q461
       obtain rfl:ad459=ad461:=(by injection e461)
       have HR461_0:=zad hi461_0;have HC461_0:=zad hl461_0;clear hi461_0 hl461_0;replace p461:=eq_true p461
       replace q461:=eq_true q461
       go_wp2
       go_loopg [6,22] k1 (fun kq v6 v22 w'=>∃ (x6_2:Int) (x22_2:Int),v6 = .int .i64 x6_2∧v22 = .int .i64 x22_2∧Aside0 (spec_doSum.l1 kq l0 t460 x15_1 (rd_L2 l0 x15_1) x6_2 l0 (l0.length:Int) x15_1 l0 (l0.length:Int) x22_2=some r)∧Aside0 (kq≤k1)∧Drawn0 w w')
       case atStart=>exact ⟨(0),(0),(taad),(taad),H',⟨zcf _⟩,taah⟩
       case round =>
        clear H'
        try clear c2
        try clear c2b0
        try clear c2b1
        try clear p2
        try clear c4
        try clear c4b0
        try clear p4
        try clear q4
        try clear hx4
        try clear qi4
        try clear c5
        try clear c5b0
        try clear c6
        try clear c6b0
        try clear hx459_0
        try clear hx461_0
        try clear p2
        try clear p459
        try clear p461
        try clear q459
        try clear q461
        obtain ⟨x6_2,x22_2,rfl,rfl,HA,HK2,⟨m2,rfl⟩⟩:=hrel
        cases gk with
        | zero=>exact absurd HA.out (by simp [spec_doSum.l1])
        | succ k2 =>
         have H:=HA.out
         clear HA;simp only [spec_doSum.l1] at H
         by_cases c7:x22_2<(l0.length:Int)
         ·rw [if_pos c7] at H
          have c7b0:decide (x22_2<(l0.length:Int))=true:=zba c7
          clear c7;by_cases c8:0≤x22_2
          ·rw [if_pos c8] at H
           have c8b0:decide (0≤x22_2)=true:=zba c8
           clear c8;by_cases c9:x22_2<(l0.length:Int)
           ·rw [if_pos c9] at H
            have c9b0:decide (x22_2<(l0.length:Int))=true:=zba c9
            clear c9;by_cases c10:0≤x15_1
            ·rw [if_pos c10] at H
             have c10b0:decide (0≤x15_1)=true:=zba c10
             clear c10;by_cases c11:x15_1<((rd_L2 l0 x22_2).length:Int)
             ·rw [if_pos c11] at H
              have c11b0:decide (x15_1<((rd_L2 l0 x22_2).length:Int))=true:=zba c11
              clear c11;have H':=zad H
              clear H;have p462:0≤(x22_2:Int):=zas (taaa)
              have q462:x22_2<(l0.length:Int):=zas (taaa)
              obtain ⟨ad462,A462_0,c462_0,e462,hx462_0,hl462_0,hi462_0⟩:=at_L2 HR0.out x22_2 p462 q462
              obtain rfl:ad459=ad462:=(by injection e462)
              have HR462_0:=zad hi462_0;have HC462_0:=zad hl462_0;clear hi462_0 hl462_0;replace p462:=eq_true p462
              replace q462:=eq_true q462
              have p463:0≤(x15_1:Int):=zas (taaa)
              have q463:x15_1<((rd_L2 l0 x22_2).length:Int):=zas (taaa)
              obtain ⟨ad463,e463,hx463_0⟩:=zca HR462_0.out x15_1 p463 q463
              cases e463
              replace p463:=eq_true p463
              replace q463:=eq_true q463
              go_wp2
              go_roundg k2
              case measure=>have:=HK1.out;have:=HK2.out;omega
              case rel=>exact ⟨(wrap64 (x6_2+(rd (rd_L2 l0 x22_2) x15_1))),(wrap64 (x22_2+1)),(taad),(taad),H',⟨taao⟩,taah⟩
             ·rw [if_neg c11] at H
              exact absurd H (taac)
            ·rw [if_neg c10] at H
             exact absurd H (taac)
           ·rw [if_neg c9] at H
            exact absurd H (taac)
          ·rw [if_neg c8] at H
           exact absurd H (taac)
         ·rw [if_neg c7] at H
          have c7b0:decide (x22_2<(l0.length:Int))=false:=zbj c7
          clear c7;replace H:=zay.mp H;obtain ⟨t464,A120,H⟩:=H
          replace H:(if t464=t460 then (if x6_2=t460 then (spec_doSum.l0 k2 l0 t460 l0 (l0.length:Int) (wrap64 (x15_1+1))) else (some (-1))) else (some (-1)))=some r:=H
          have A12:=zad A120;clear A120;by_cases c13:t464=t460
          ·rw [if_pos c13] at H
           have c13b0:(t464 == t460)=true:=beq_iff_eq.mpr c13
           have c13b1:(t464 != t460)=false:=bne_eq_false_iff_eq.mpr c13
           clear c13;by_cases c14:x6_2=t460
           ·rw [if_pos c14] at H
            have c14b0:(x6_2 == t460)=true:=beq_iff_eq.mpr c14
            have c14b1:(x6_2 != t460)=false:=bne_eq_false_iff_eq.mpr c14
            clear c14;have H':=zad H
            clear H;go_wp2_with (first | ((with_reducible refine zbh (f:=61) rfl ?_);refine zbn (some 34) rfl rfl Tryz.func61 (by kernel_rfl) rfl #[.slice A461_0 (rd_L2 l0 x15_1).length c461_0] rfl (taae) ?_;(with_reducible refine (spec_liSum.calls k2 _ _ (rd_L2 l0 x15_1) t464 _ ?side1 ?side2 A12.out).mono ?_);(case side1=>exact tafs);(case side2=>exact HC461_0.out);rintro e w' ⟨rfl,⟨nd,rfl⟩⟩;refine ⟨_,rfl,?_⟩))
            go_roundg k2
            case measure=>have:=HK1.out;have:=HK2.out;omega
            case rel=>exact ⟨(wrap64 (x15_1+1)),(taad),H',⟨taao⟩,taah⟩
           ·rw [if_neg c14] at H
            have c14b0:(x6_2 == t460)=false:=zbo.mpr c14
            have c14b1:(x6_2 != t460)=true:=bne_iff_ne.mpr c14
            obtain rfl:=zbe H
            go_wp2_with (first | ((with_reducible refine zbh (f:=61) rfl ?_);refine zbn (some 34) rfl rfl Tryz.func61 (by kernel_rfl) rfl #[.slice A461_0 (rd_L2 l0 x15_1).length c461_0] rfl (taae) ?_;(with_reducible refine (spec_liSum.calls k2 _ _ (rd_L2 l0 x15_1) t464 _ ?side1 ?side2 A12.out).mono ?_);(case side1=>exact tafs);(case side2=>exact HC461_0.out);rintro e w' ⟨rfl,⟨nd,rfl⟩⟩;refine ⟨_,rfl,?_⟩))
            go_ret
            exact ⟨taad,taah⟩
          ·rw [if_neg c13] at H
           have c13b0:(t464 == t460)=false:=zbo.mpr c13
           have c13b1:(t464 != t460)=true:=bne_iff_ne.mpr c13
           obtain rfl:=zbe H
           go_wp2_with (first | ((with_reducible refine zbh (f:=61) rfl ?_);refine zbn (some 34) rfl rfl Tryz.func61 (by kernel_rfl) rfl #[.slice A461_0 (rd_L2 l0 x15_1).length c461_0] rfl (taae) ?_;(with_reducible refine (spec_liSum.calls k2 _ _ (rd_L2 l0 x15_1) t464 _ ?side1 ?side2 A12.out).mono ?_);(case side1=>exact tafs);(case side2=>exact HC461_0.out);rintro e w' ⟨rfl,⟨nd,rfl⟩⟩;refine ⟨_,rfl,?_⟩))
           go_ret
           exact ⟨taad,taah⟩
      ·rw [if_neg c6] at H
       exact absurd H (taac)
     ·rw [if_neg c5] at H
      exact absurd H (taac)
    ·rw [if_neg c4] at H
     have c4b0:decide (x15_1<(l0.length:Int))=false:=zbj c4
     clear c4;obtain rfl:=zbe H
     go_wp2
     go_ret
     exact ⟨taad,taah⟩
 ·rw [if_neg c2] at H
  exact absurd H (taac)
mutual
def spec_doCarry.l0:Nat→List Int→Int→List Int→List (List Int)→Int→Int→Option (List Int × Bool)
 | 0,_,_,_,_,_,_=>none
 | k+1,x1,x2,x8,x14,x15,x16=>if x16<x15 then (if 0≤x16 then (if x16<(x14.length:Int) then (spec_doCarry.l1 k x1 x2 x8 0 x14 x15 x16 (rd_L2 x14 x16) ((rd_L2 x14 x16).length:Int) 0) else (none)) else (none)) else (some (x8,true))
def spec_doCarry.l1:Nat→List Int→Int→List Int→Int→List (List Int)→Int→Int→List Int→Int→Int→Option (List Int × Bool)
 | 0,_,_,_,_,_,_,_,_,_,_=>none
 | k+1,x1,x2,x8,x11,x14,x15,x16,x20,x21,x22=>if x22<x21 then (if 0≤x22 then (if x22<(x20.length:Int) then (if x22<(x1.length:Int) then (spec_doCarry.l1 k x1 x2 x8 (wrap64 (x11+(wrap64 ((rd x20 x22)*(rd x1 x22))))) x14 x15 x16 x20 x21 (wrap64 (x22+1))) else (none)) else (none)) else (none)) else (if x2=0 then (none) else (if (Int.tmod x11 x2)=0 then (if x8.length<17592186044416 then (spec_doCarry.l0 k x1 x2 (x8 ++ [wrap64 (Int.tdiv x11 x2)]) x14 x15 (wrap64 (x16+1))) else (none)) else (some (([]:List Int),false))))
end
def spec_doCarry.f (k:Nat) (l0:List (List Int)) (l1:List Int) (a2:Int):Option (List Int × Bool):=spec_doCarry.l0 k l1 a2 ([]:List Int) l0 (l0.length:Int) 0
theorem spec_doCarry.calls (k:Nat) (A0:Option Addr) (c0:Nat) (l0:List (List Int)) (A1:Option Addr) (c1:Nat) (l1:List Int) (a2:Int) (r1:List Int) (r2:Bool) (w:World) (hr0:Kd.C (Kd.slice 3 (Kd.int .i64)) w A0 l0.length l0) (hc0:l0.length≤c0) (hr1:Kd.C (Kd.int .i64) w A1 l1.length l1) (hc1:l1.length≤c1) (h:spec_doCarry.f k l0 l1 a2=some (r1,r2)) :
 Calls Tryz.prog 26 #[.slice A0 l0.length c0,.slice A1 l1.length c1,.int .i64 a2] w fun e w'=>∃ v0_:Value,e = .returned (.tuple #[v0_,.bool r2])∧Kd.R (Kd.int .i64) 3 w' w.heap.size (fun _=>True) v0_ r1∧Below w.heap.size w w':=by
 have HR0:=zad hr0;have HC0:=zad hc0;clear hr0 hc0;have HR1:=zad hr1;have HC1:=zad hc1;clear hr1 hc1;have HB:=zad (Below.refl w.heap.size w)
 have H:(spec_doCarry.l0 k l1 a2 ([]:List Int) l0 (l0.length:Int) 0)=some (r1,r2):=h
 clear h;have H':=zad H
 clear H;go_enter Tryz.func26,Tryz.ntmps26
 go_wp2
 go_loopg [8,16] k (fun kq v8 v16 w'=>∃ (x8_1:List Int) (x16_1:Int),v16 = .int .i64 x16_1∧Aside0 (spec_doCarry.l0 kq l1 a2 x8_1 l0 (l0.length:Int) x16_1=some (r1,r2))∧Aside0 (kq≤k)∧Aside0 (Kd.R (Kd.int .i64) 3 w' w.heap.size (fun _=>True) v8 x8_1)∧Aside0 (Below w.heap.size w w'))
 case atStart=>exact ⟨(([]:List Int)),(0),(taad),H',⟨zcf _⟩,⟨taax⟩,⟨taab⟩⟩
 case round =>
  clear H'
  try clear c1
  try clear c2
  try clear p2
  obtain ⟨x8_1,x16_1,rfl,HA,HK1,HO_8,HB⟩:=hrel
  cases gk with
  | zero=>exact absurd HA.out (by simp [spec_doCarry.l0])
  | succ k1 =>
   have H:=HA.out
   clear HA;simp only [spec_doCarry.l0] at H
   by_cases c4:x16_1<(l0.length:Int)
   ·rw [if_pos c4] at H
    have c4b0:decide (x16_1<(l0.length:Int))=true:=zba c4
    clear c4;by_cases c5:0≤x16_1
    ·rw [if_pos c5] at H
     have c5b0:decide (0≤x16_1)=true:=zba c5
     clear c5;by_cases c6:x16_1<(l0.length:Int)
     ·rw [if_pos c6] at H
      have c6b0:decide (x16_1<(l0.length:Int))=true:=zba c6
      clear c6;have H':=zad H
      clear H;have p465:0≤(x16_1:Int):=zas (taaa)
      have q465:x16_1<(l0.length:Int):=zas (taaa)
      obtain ⟨ad465,A465_0,c465_0,e465,hx465_0,hl465_0,hi465_0⟩:=at_L2 HR0.out x16_1 p465 q465
      cases e465
      replace hx465_0:=(HB.out.cell (zaz w _ hx465_0)).trans hx465_0
      have HR465_0:=zad hi465_0;have HC465_0:=zad hl465_0;clear hi465_0 hl465_0;replace p465:=eq_true p465
      replace q465:=eq_true q465
      go_wp2
      go_loopg [11,22] k1 (fun kq v11 v22 w'=>∃ (x11_2:Int) (x22_2:Int),v11 = .int .i64 x11_2∧v22 = .int .i64 x22_2∧Aside0 (spec_doCarry.l1 kq l1 a2 x8_1 x11_2 l0 (l0.length:Int) x16_1 (rd_L2 l0 x16_1) ((rd_L2 l0 x16_1).length:Int) x22_2=some (r1,r2))∧Aside0 (kq≤k1)∧Aside0 (Kd.R (Kd.int .i64) 3 w' w.heap.size (fun _=>True) u8 x8_1)∧Aside0 (Below w.heap.size w w'))
      case atStart=>exact ⟨(0),(0),(taad),(taad),H',⟨zcf _⟩,⟨taap⟩,⟨taab⟩⟩
      case round =>
       clear H'
       try clear c1
       try clear c2
       try clear p2
       try clear c4
       try clear c4b0
       try clear p4
       try clear q4
       try clear hx4
       try clear c5
       try clear c5b0
       try clear c6
       try clear c6b0
       try clear hx465_0
       try clear p2
       try clear p465
       try clear q465
       obtain ⟨x11_2,x22_2,rfl,rfl,HA,HK2,HO_8,HB⟩:=hrel
       cases gk with
       | zero=>exact absurd HA.out (by simp [spec_doCarry.l1])
       | succ k2 =>
        have H:=HA.out
        clear HA;simp only [spec_doCarry.l1] at H
        by_cases c7:x22_2<((rd_L2 l0 x16_1).length:Int)
        ·rw [if_pos c7] at H
         have c7b0:decide (x22_2<((rd_L2 l0 x16_1).length:Int))=true:=zba c7
         clear c7;by_cases c8:0≤x22_2
         ·rw [if_pos c8] at H
          have c8b0:decide (0≤x22_2)=true:=zba c8
          clear c8;by_cases c9:x22_2<((rd_L2 l0 x16_1).length:Int)
          ·rw [if_pos c9] at H
           have c9b0:decide (x22_2<((rd_L2 l0 x16_1).length:Int))=true:=zba c9
           clear c9;by_cases c10:x22_2<(l1.length:Int)
           ·rw [if_pos c10] at H
            have c10b0:decide (x22_2<(l1.length:Int))=true:=zba c10
            clear c10;have H':=zad H
            clear H;have p466:0≤(x22_2:Int):=zas (taaa)
            have q466:x22_2<((rd_L2 l0 x16_1).length:Int):=zas (taaa)
            obtain ⟨ad466,e466,hx466_0⟩:=zca HR465_0.out x22_2 p466 q466
            cases e466
            replace hx466_0:=(HB.out.cell (zaz w _ hx466_0)).trans hx466_0
            replace p466:=eq_true p466
            replace q466:=eq_true q466
            have p467:0≤(x22_2:Int):=zas (taaa)
            have q467:x22_2<(l1.length:Int):=zas (taaa)
            obtain ⟨ad467,e467,hx467_0⟩:=zca HR1.out x22_2 p467 q467
            cases e467
            replace hx467_0:=(HB.out.cell (zaz w _ hx467_0)).trans hx467_0
            replace p467:=eq_true p467
            replace q467:=eq_true q467
            go_wp2
            go_roundg k2
            case measure=>have:=HK1.out;have:=HK2.out;omega
            case rel=>exact ⟨(wrap64 (x11_2+(wrap64 ((rd (rd_L2 l0 x16_1) x22_2)*(rd l1 x22_2))))),(wrap64 (x22_2+1)),(taad),(taad),H',⟨taao⟩,⟨taap⟩,⟨taab⟩⟩
           ·rw [if_neg c10] at H
            exact absurd H (taac)
          ·rw [if_neg c9] at H
           exact absurd H (taac)
         ·rw [if_neg c8] at H
          exact absurd H (taac)
        ·rw [if_neg c7] at H
         have c7b0:decide (x22_2<((rd_L2 l0 x16_1).length:Int))=false:=zbj c7
         clear c7;by_cases c11:a2=0
         ·rw [if_pos c11] at H
          exact absurd H (taac)
         ·rw [if_neg c11] at H
          have c11b0:(a2 == 0)=false:=zbo.mpr c11
          have c11b1:(a2 != 0)=true:=bne_iff_ne.mpr c11
          by_cases c12:(Int.tmod x11_2 a2)=0
          ·rw [if_pos c12] at H
           have c12b0:((Int.tmod x11_2 a2) == 0)=true:=beq_iff_eq.mpr c12
           have c12b1:((Int.tmod x11_2 a2) != 0)=false:=bne_eq_false_iff_eq.mpr c12
           clear c12;by_cases c13:x8_1.length<17592186044416
           ·rw [if_pos c13] at H
            have LMc13:=zad c13;clear c13;obtain ⟨y468,hy468⟩:∃ y_:List Int,y_=(x8_1 ++ [wrap64 (Int.tdiv x11_2 a2)]):=⟨_,rfl⟩
            replace H:(spec_doCarry.l0 k2 l1 a2 y468 l0 (l0.length:Int) (wrap64 (x16_1+1)))=some (r1,r2):=by first | (rw [hy468];with_reducible exact H) | (have H2_:=(zbd _ _).symm.trans H;rw [hy468];with_reducible exact H2_) | (have H2_:=(zbd _ _).symm.trans H;with_reducible exact H2_) | with_reducible exact H | (rw [hy468];exact H) | exact H
            have Ny468:=zad hy468;clear hy468;have H':=zad H
            clear H;go_wp2_with (first | ((with_reducible refine gate_builtin (b := .append) (xs:=#[.tmp 40,.tmp 44]) rfl ?_);at_builtin;refine Kd.R_append (Kd.int .i64) (w0:=w) w.heap.size rfl (.tmp 40) (.tmp 44) 25 3 (.int .i64 0) 8 rfl Tryz.underlying25 info3 rfl (by decide) (by omega) u8 x8_1 (wrap64 (Int.tdiv x11_2 a2)) [.int .i64 (wrap64 (Int.tdiv x11_2 a2))] (fun _=>True) (fun _=>False) rfl rfl ?aP (fun _ hk=>hk.elim) ?aF ?aO ?aB ?aS ?aL ?_;(case aP=>exact rfl);(case aB=>exact (taab));(case aF=>exact (fun _ _=>trivial));(case aO=>exact (taap));(case aS=>exact (zbk (taab)));(case aL=>have:=LMc13.out;omega);intro v469 w14 ho hb hg hat;rw [← Ny468.out] at ho;have n0_:=zad (hb);have n1_:=zad (ho);clear HB HO_8;have HB:=n0_;have HO470:=n1_;clear n0_ n1_ ho hb hg hat))
            go_roundg k2
            case measure=>have:=HK1.out;have:=HK2.out;omega
            case rel=>exact ⟨(y468),(wrap64 (x16_1+1)),(taad),H',⟨taao⟩,⟨by (with_reducible repeat (first | apply zai | apply zaj | apply zak));exact HO470.out⟩,⟨taab⟩⟩
           ·rw [if_neg c13] at H
            exact absurd H (taac)
          ·rw [if_neg c12] at H
           have c12b0:((Int.tmod x11_2 a2) == 0)=false:=zbo.mpr c12
           have c12b1:((Int.tmod x11_2 a2) != 0)=true:=bne_iff_ne.mpr c12
           simp only [zbl,zbp] at H
           obtain ⟨rfl,rfl⟩:=H
           go_wp2
           go_ret2
           exact ⟨_,taai,taax,taab⟩
     ·rw [if_neg c6] at H
      exact absurd H (taac)
    ·rw [if_neg c5] at H
     exact absurd H (taac)
   ·rw [if_neg c4] at H
    have c4b0:decide (x16_1<(l0.length:Int))=false:=zbj c4
    clear c4;simp only [zbl,zbp] at H
    obtain ⟨rfl,rfl⟩:=H
    go_wp2
    go_ret2
    exact ⟨_,taai,taap,taab⟩
def spec_CarryList.j0:Nat→List (List Int)→List Int→Bool→Option (List Int × Bool)
 | 0,_,_,_=>none
 | k+1,x0,x1,x25=>if x25=true then (some (([]:List Int),false)) else ((spec_doSum.f k x0).bind fun t474=>((spec_doCarry.f k x0 x1 t474).bind fun bt475=>(some (bt475.1,bt475.2))))
def spec_CarryList.f (k:Nat) (l0:List (List Int)) (l1:List Int):Option (List Int × Bool):=(spec_doGood.f k l0).bind fun t471=>(if t471=true then ((spec_doSum.f k l0).bind fun t472=>(if t472<1 then (spec_CarryList.j0 k l0 l1 true) else ((spec_liGood.f k l1).bind fun t473=>(if t473=true then (spec_CarryList.j0 k l0 l1 ((l1.length:Int) != (l0.length:Int))) else (spec_CarryList.j0 k l0 l1 true))))) else (spec_CarryList.j0 k l0 l1 true))
theorem spec_CarryList.calls (k:Nat) (A0:Option Addr) (c0:Nat) (l0:List (List Int)) (A1:Option Addr) (c1:Nat) (l1:List Int) (r1:List Int) (r2:Bool) (w:World) (hr0:Kd.C (Kd.slice 3 (Kd.int .i64)) w A0 l0.length l0) (hc0:l0.length≤c0) (hr1:Kd.C (Kd.int .i64) w A1 l1.length l1) (hc1:l1.length≤c1) (h:spec_CarryList.f k l0 l1=some (r1,r2)) :
 Calls Tryz.prog 7 #[.slice A0 l0.length c0,.slice A1 l1.length c1] w fun e w'=>∃ v0_:Value,e = .returned (.tuple #[v0_,.bool r2])∧Kd.R (Kd.int .i64) 3 w' w.heap.size (fun _=>True) v0_ r1∧Below w.heap.size w w':=by
 have HR0:=zad hr0;have HC0:=zad hc0;clear hr0 hc0;have HR1:=zad hr1;have HC1:=zad hc1;clear hr1 hc1;have HB:=zad (Below.refl w.heap.size w)
 have H:((spec_doGood.f k l0).bind fun t471=>(if t471=true then ((spec_doSum.f k l0).bind fun t472=>(if t472<1 then (spec_CarryList.j0 k l0 l1 true) else ((spec_liGood.f k l1).bind fun t473=>(if t473=true then (spec_CarryList.j0 k l0 l1 ((l1.length:Int) != (l0.length:Int))) else (spec_CarryList.j0 k l0 l1 true))))) else (spec_CarryList.j0 k l0 l1 true)))=some (r1,r2):=h
 clear h;have HC3:=zad H;clear H;go_enter Tryz.func7,Tryz.ntmps7
 go_upto_region 1 with (fail)
 go_cut [25] (fun v25 wc=>∃ (kq:Nat) (x25_2:Bool),v25 = .bool x25_2∧Aside0 (spec_CarryList.j0 kq l0 l1 x25_2=some (r1,r2))∧Aside0 (kq≤k)∧Aside0 (Below w.heap.size w wc))
 case first =>
  have H:=HC3.out
  clear HC3;replace H:=zay.mp H;obtain ⟨t471,A40,H⟩:=H
  replace H:(if t471=true then ((spec_doSum.f k l0).bind fun t472=>(if t472<1 then (spec_CarryList.j0 k l0 l1 true) else ((spec_liGood.f k l1).bind fun t473=>(if t473=true then (spec_CarryList.j0 k l0 l1 ((l1.length:Int) != (l0.length:Int))) else (spec_CarryList.j0 k l0 l1 true))))) else (spec_CarryList.j0 k l0 l1 true))=some (r1,r2):=H
  have A4:=zad A40;clear A40;by_cases c5:t471=true
  ·subst c5
   have H1:((spec_doSum.f k l0).bind fun t472=>(if t472<1 then (spec_CarryList.j0 k l0 l1 true) else ((spec_liGood.f k l1).bind fun t473=>(if t473=true then (spec_CarryList.j0 k l0 l1 ((l1.length:Int) != (l0.length:Int))) else (spec_CarryList.j0 k l0 l1 true)))))=some (r1,r2):=by rw [if_pos rfl] at H;exact H
   clear H;have H:=H1;clear H1;replace H:=zay.mp H;obtain ⟨t472,A60,H⟩:=H
   replace H:(if t472<1 then (spec_CarryList.j0 k l0 l1 true) else ((spec_liGood.f k l1).bind fun t473=>(if t473=true then (spec_CarryList.j0 k l0 l1 ((l1.length:Int) != (l0.length:Int))) else (spec_CarryList.j0 k l0 l1 true))))=some (r1,r2):=H
   have A6:=zad A60;clear A60;by_cases c7:t472<1
   ·rw [if_pos c7] at H
    have c7b0:decide (t472<1)=true:=zba c7
    clear c7;(first | rw [c7b0] | (simp only [zbw,zbx];rw [c7b0]) | skip)
    have H':=zad H
    clear H;go_wp2_with (first | ((with_reducible refine zbh (f:=23) rfl ?_);refine zbn (some 7) rfl rfl Tryz.func23 (by kernel_rfl) rfl #[.slice A0 l0.length c0] rfl (taae) ?_;(with_reducible refine (spec_doGood.calls k _ _ l0 true _ ?side1 ?side2 A4.out).mono ?_);(case side1=>repeat (first | exact (Kd.C_below HR0.out HB.out) | (with_reducible refine zal ?_ _) | (with_reducible refine zam ?_ _) | (with_reducible refine zan ?_)));(case side2=>exact HC0.out);rintro e w' ⟨rfl,⟨nd,rfl⟩⟩;refine ⟨_,rfl,?_⟩) | (go_at_call 24;(with_reducible refine (spec_doSum.calls k _ _ l0 t472 _ ?side1 ?side2 A6.out).mono ?_);(case side1=>repeat (first | exact (Kd.C_below HR0.out (taab)) | (with_reducible refine zal ?_ _) | (with_reducible refine zam ?_ _) | (with_reducible refine zan ?_)));(case side2=>exact HC0.out);rintro e w' ⟨rfl,⟨nd,rfl⟩⟩))
    go_meet
    case rel=>exact ⟨_,(true),(taad),H',⟨taas⟩,⟨taab⟩⟩
   ·rw [if_neg c7] at H
    have c7b0:decide (t472<1)=false:=zbj c7
    clear c7;(first | rw [c7b0] | (simp only [zbw,zbx];rw [c7b0]) | skip)
    replace H:=zay.mp H;obtain ⟨t473,A80,H⟩:=H
    replace H:(if t473=true then (spec_CarryList.j0 k l0 l1 ((l1.length:Int) != (l0.length:Int))) else (spec_CarryList.j0 k l0 l1 true))=some (r1,r2):=H
    have A8:=zad A80;clear A80;by_cases c9:t473=true
    ·subst c9
     have H1:(spec_CarryList.j0 k l0 l1 ((l1.length:Int) != (l0.length:Int)))=some (r1,r2):=by rw [if_pos rfl] at H;exact H
     clear H;have H:=H1;clear H1;have H':=zad H
     clear H;go_wp2_with (first | ((with_reducible refine zbh (f:=23) rfl ?_);refine zbn (some 7) rfl rfl Tryz.func23 (by kernel_rfl) rfl #[.slice A0 l0.length c0] rfl (taae) ?_;(with_reducible refine (spec_doGood.calls k _ _ l0 true _ ?side1 ?side2 A4.out).mono ?_);(case side1=>repeat (first | exact (Kd.C_below HR0.out HB.out) | (with_reducible refine zal ?_ _) | (with_reducible refine zam ?_ _) | (with_reducible refine zan ?_)));(case side2=>exact HC0.out);rintro e w' ⟨rfl,⟨nd,rfl⟩⟩;refine ⟨_,rfl,?_⟩) | (go_at_call 24;(with_reducible refine (spec_doSum.calls k _ _ l0 t472 _ ?side1 ?side2 A6.out).mono ?_);(case side1=>repeat (first | exact (Kd.C_below HR0.out (taab)) | (with_reducible refine zal ?_ _) | (with_reducible refine zam ?_ _) | (with_reducible refine zan ?_)));(case side2=>exact HC0.out);rintro e w' ⟨rfl,⟨nd,rfl⟩⟩) | (go_at_call 25;(with_reducible refine (spec_liGood.calls k _ _ l1 true _ ?side1 ?side2 A8.out).mono ?_);(case side1=>repeat (first | exact (Kd.C_below HR1.out (taab)) | (with_reducible refine zal ?_ _) | (with_reducible refine zam ?_ _) | (with_reducible refine zan ?_)));(case side2=>exact HC1.out);rintro e w' ⟨rfl,⟨nd,rfl⟩⟩))
     go_meet
     case rel=>exact ⟨_,(((l1.length:Int) != (l0.length:Int))),(taad),H',⟨taas⟩,⟨taab⟩⟩
    ·replace c9:=zbi.mpr c9
     subst c9;have H1:(spec_CarryList.j0 k l0 l1 true)=some (r1,r2):=by rw [if_neg (show ¬ (false=true) by decide)] at H;exact H
     clear H;have H:=H1;clear H1;have H':=zad H
     clear H;go_wp2_with (first | ((with_reducible refine zbh (f:=23) rfl ?_);refine zbn (some 7) rfl rfl Tryz.func23 (by kernel_rfl) rfl #[.slice A0 l0.length c0] rfl (taae) ?_;(with_reducible refine (spec_doGood.calls k _ _ l0 true _ ?side1 ?side2 A4.out).mono ?_);(case side1=>repeat (first | exact (Kd.C_below HR0.out HB.out) | (with_reducible refine zal ?_ _) | (with_reducible refine zam ?_ _) | (with_reducible refine zan ?_)));(case side2=>exact HC0.out);rintro e w' ⟨rfl,⟨nd,rfl⟩⟩;refine ⟨_,rfl,?_⟩) | (go_at_call 24;(with_reducible refine (spec_doSum.calls k _ _ l0 t472 _ ?side1 ?side2 A6.out).mono ?_);(case side1=>repeat (first | exact (Kd.C_below HR0.out (taab)) | (with_reducible refine zal ?_ _) | (with_reducible refine zam ?_ _) | (with_reducible refine zan ?_)));(case side2=>exact HC0.out);rintro e w' ⟨rfl,⟨nd,rfl⟩⟩) | (go_at_call 25;(with_reducible refine (spec_liGood.calls k _ _ l1 false _ ?side1 ?side2 A8.out).mono ?_);(case side1=>repeat (first | exact (Kd.C_below HR1.out (taab)) | (with_reducible refine zal ?_ _) | (with_reducible refine zam ?_ _) | (with_reducible refine zan ?_)));(case side2=>exact HC1.out);rintro e w' ⟨rfl,⟨nd,rfl⟩⟩))
     go_meet
     case rel=>exact ⟨_,(true),(taad),H',⟨taas⟩,⟨taab⟩⟩
  ·replace c5:=zbi.mpr c5
   subst c5;have H1:(spec_CarryList.j0 k l0 l1 true)=some (r1,r2):=by rw [if_neg (show ¬ (false=true) by decide)] at H;exact H
   clear H;have H:=H1;clear H1;have H':=zad H
   clear H;go_wp2_with (first | ((with_reducible refine zbh (f:=23) rfl ?_);refine zbn (some 7) rfl rfl Tryz.func23 (by kernel_rfl) rfl #[.slice A0 l0.length c0] rfl (taae) ?_;(with_reducible refine (spec_doGood.calls k _ _ l0 false _ ?side1 ?side2 A4.out).mono ?_);(case side1=>exact tafm);(case side2=>exact HC0.out);rintro e w' ⟨rfl,⟨nd,rfl⟩⟩;refine ⟨_,rfl,?_⟩))
   go_meet
   case rel=>exact ⟨_,(true),(taad),H',⟨taas⟩,⟨taab⟩⟩
 case rest =>
  clear HC3;try clear c1
  try clear c2
  try clear p2
  try clear c5
  try clear c7
  try clear c7b0
  try clear c9
  obtain ⟨kq,x25_2,rfl,HA,HJ2,HB⟩:=hcut
  cases kq with
  | zero=>exact absurd HA.out (by simp [spec_CarryList.j0])
  | succ kj2 =>
   have H:=HA.out
   clear HA;simp only [spec_CarryList.j0] at H
   by_cases c10:x25_2=true
   ·subst c10
    have H1:(some (([]:List Int),false))=some (r1,r2):=by rw [if_pos rfl] at H;exact H
    clear H;have H:=H1;clear H1;simp only [zbl,zbp] at H
    obtain ⟨rfl,rfl⟩:=H
    go_wp2
    go_ret2
    exact ⟨_,taai,taax,taab⟩
   ·replace c10:=zbi.mpr c10
    subst c10;have H1:((spec_doSum.f kj2 l0).bind fun t474=>((spec_doCarry.f kj2 l0 l1 t474).bind fun bt475=>(some (bt475.1,bt475.2))))=some (r1,r2):=by rw [if_neg (show ¬ (false=true) by decide)] at H;exact H
    clear H;have H:=H1;clear H1;replace H:=zay.mp H;obtain ⟨t474,A110,H⟩:=H
    replace H:((spec_doCarry.f kj2 l0 l1 t474).bind fun bt475=>(some (bt475.1,bt475.2)))=some (r1,r2):=H
    have A11:=zad A110;clear A110;replace H:=zay.mp H;obtain ⟨⟨t475,t476⟩,A120,H⟩:=H
    replace H:(some (t475,t476))=some (r1,r2):=H
    have A12:=zad A120;clear A120;simp only [zbl,zbp] at H
    obtain ⟨rfl,rfl⟩:=H
    go_wp2_with (first | ((with_reducible refine zbh (f:=24) rfl ?_);refine zbn (some 29) rfl rfl Tryz.func24 (by kernel_rfl) rfl #[.slice A0 l0.length c0] rfl (taae) ?_;(with_reducible refine (spec_doSum.calls kj2 _ _ l0 t474 _ ?side1 ?side2 A11.out).mono ?_);(case side1=>repeat (first | exact (Kd.C_below HR0.out HB.out) | (with_reducible refine zal ?_ _) | (with_reducible refine zam ?_ _) | (with_reducible refine zan ?_)));(case side2=>exact HC0.out);rintro e w' ⟨rfl,⟨nd,rfl⟩⟩;refine ⟨_,rfl,?_⟩) | ((with_reducible refine zbh (f:=26) rfl ?_);refine zbn (some 30) rfl rfl Tryz.func26 (by kernel_rfl) rfl #[.slice A0 l0.length c0,.slice A1 l1.length c1,.int .i64 t474] rfl (taae) ?_;(with_reducible refine (spec_doCarry.calls kj2 _ _ l0 _ _ l1 t474 t475 t476 _ ?side1 ?side2 ?side3 ?side4 A12.out).mono ?_);(case side1=>repeat (first | exact (Kd.C_below HR0.out (taab)) | (with_reducible refine zal ?_ _) | (with_reducible refine zam ?_ _) | (with_reducible refine zan ?_)));(case side2=>exact HC0.out);(case side3=>repeat (first | exact (Kd.C_below HR1.out (taab)) | (with_reducible refine zal ?_ _) | (with_reducible refine zam ?_ _) | (with_reducible refine zan ?_)));(case side4=>exact HC1.out);rintro e w13 ⟨v477,rfl,ho0,hb⟩;refine ⟨_,rfl,?_⟩;have n0_:=zad (zbu ho0 (zbk (taab)));have n1_:=zad (zbg (taab) hb);clear HB;have HO478:=n0_;have HB:=n1_;clear n0_ n1_;(try clear hb);(try clear hb2);(try clear hk);(try clear hi);(try clear ho0)))
    go_ret2
    exact ⟨_,taai,by (with_reducible repeat (first | apply zai | apply zaj | apply zak));exact HO478.out,taab⟩
def impl_areLists.f (k:Nat) (l0:List Int) (l1:List Int):Option (Bool):=(impl_IsList.f k l0).bind fun t481=>(if t481=true then ((impl_IsList.f k l1).bind fun t482=>(some t482)) else (some false))
theorem impl_areLists.calls (k:Nat) (A0:Option Addr) (c0:Nat) (l0:List Int) (A1:Option Addr) (c1:Nat) (l1:List Int) (r:Bool) (w:World) (hr0:Kd.C (Kd.int .i64) w A0 l0.length l0) (hc0:l0.length≤c0) (hr1:Kd.C (Kd.int .i64) w A1 l1.length l1) (hc1:l1.length≤c1) (h:impl_areLists.f k l0 l1=some r) :
 Calls Tryz.prog 27 #[.slice A0 l0.length c0,.slice A1 l1.length c1] w fun e w'=>e = .returned (.bool r)∧Drawn0 w w':=by
 have HR0:=zad hr0;have HC0:=zad hc0;clear hr0 hc0;have HR1:=zad hr1;have HC1:=zad hc1;clear hr1 hc1;have H:((impl_IsList.f k l0).bind fun t481=>(if t481=true then ((impl_IsList.f k l1).bind fun t482=>(some t482)) else (some false)))=some r:=h
 clear h;replace H:=zay.mp H;obtain ⟨t481,A30,H⟩:=H
 replace H:(if t481=true then ((impl_IsList.f k l1).bind fun t482=>(some t482)) else (some false))=some r:=H
 have A3:=zad A30;clear A30;by_cases c4:t481=true
 ·subst c4
  have H1:((impl_IsList.f k l1).bind fun t482=>(some t482))=some r:=by rw [if_pos rfl] at H;exact H
  clear H;have H:=H1;clear H1;replace H:=zay.mp H;obtain ⟨t482,A50,H⟩:=H
  replace H:(some t482)=some r:=H
  have A5:=zad A50;clear A50;obtain rfl:=zbe H
  go_enter Tryz.func27,Tryz.ntmps27
  go_wp2_with (first | ((with_reducible refine zbh (f:=21) rfl ?_);refine zbn (some 6) rfl rfl Tryz.func21 (by kernel_rfl) rfl #[.slice A0 l0.length c0] rfl (taae) ?_;(with_reducible refine (impl_IsList.calls k _ _ l0 true _ ?side1 ?side2 A3.out).mono ?_);(case side1=>repeat (first | exact HR0.out | (with_reducible refine zal ?_ _) | (with_reducible refine zam ?_ _) | (with_reducible refine zan ?_)));(case side2=>exact HC0.out);rintro e w' ⟨rfl,⟨nd,rfl⟩⟩;refine ⟨_,rfl,?_⟩) | (go_at_call 21;(with_reducible refine (impl_IsList.calls k _ _ l1 t482 _ ?side1 ?side2 A5.out).mono ?_);(case side1=>repeat (first | exact HR1.out | (with_reducible refine zal ?_ _) | (with_reducible refine zam ?_ _) | (with_reducible refine zan ?_)));(case side2=>exact HC1.out);rintro e w' ⟨rfl,⟨nd,rfl⟩⟩))
  go_ret
  exact ⟨taad,taah⟩
 ·replace c4:=zbi.mpr c4
  subst c4;have H1:(some false)=some r:=by rw [if_neg (show ¬ (false=true) by decide)] at H;exact H
  clear H;have H:=H1;clear H1;obtain rfl:=zbe H
  go_enter Tryz.func27,Tryz.ntmps27
  go_wp2_with (first | ((with_reducible refine zbh (f:=21) rfl ?_);refine zbn (some 6) rfl rfl Tryz.func21 (by kernel_rfl) rfl #[.slice A0 l0.length c0] rfl (taae) ?_;(with_reducible refine (impl_IsList.calls k _ _ l0 false _ ?side1 ?side2 A3.out).mono ?_);(case side1=>exact tafl);(case side2=>exact HC0.out);rintro e w' ⟨rfl,⟨nd,rfl⟩⟩;refine ⟨_,rfl,?_⟩))
  go_ret
  exact ⟨taad,taah⟩
def impl_doFit.f (k:Nat) (l0:List Int) (l1:List Int):Option (Bool):=if (l0.length:Int)=(l1.length:Int) then ((impl_total.f k l0).bind fun t483=>((impl_total.f k l1).bind fun t484=>(some (t483 == t484)))) else (some false)
theorem impl_doFit.calls (k:Nat) (A0:Option Addr) (c0:Nat) (l0:List Int) (A1:Option Addr) (c1:Nat) (l1:List Int) (r:Bool) (w:World) (hr0:Kd.C (Kd.int .i64) w A0 l0.length l0) (hc0:l0.length≤c0) (hr1:Kd.C (Kd.int .i64) w A1 l1.length l1) (hc1:l1.length≤c1) (h:impl_doFit.f k l0 l1=some r) :
 Calls Tryz.prog 62 #[.slice A0 l0.length c0,.slice A1 l1.length c1] w fun e w'=>e = .returned (.bool r)∧Drawn0 w w':=by
 have HR0:=zad hr0;have HC0:=zad hc0;clear hr0 hc0;have HR1:=zad hr1;have HC1:=zad hc1;clear hr1 hc1;have H:(if (l0.length:Int)=(l1.length:Int) then ((impl_total.f k l0).bind fun t483=>((impl_total.f k l1).bind fun t484=>(some (t483 == t484)))) else (some false))=some r:=h
 clear h;by_cases c3:(l0.length:Int)=(l1.length:Int)
 ·rw [if_pos c3] at H
  have c3b0:((l0.length:Int) == (l1.length:Int))=true:=beq_iff_eq.mpr c3
  have c3b1:((l0.length:Int) != (l1.length:Int))=false:=bne_eq_false_iff_eq.mpr c3
  have c3b2:(l0.length == l1.length)=true:=by first | simpa using c3 | (simp at c3 ⊢;omega)
  clear c3;replace H:=zay.mp H;obtain ⟨t483,A40,H⟩:=H
  replace H:((impl_total.f k l1).bind fun t484=>(some (t483 == t484)))=some r:=H
  have A4:=zad A40;clear A40;replace H:=zay.mp H;obtain ⟨t484,A50,H⟩:=H
  replace H:(some (t483 == t484))=some r:=H
  have A5:=zad A50;clear A50;obtain rfl:=zbe H
  go_enter Tryz.func62,Tryz.ntmps62
  go_wp2_with (first | (go_at_call 58;(with_reducible refine (impl_total.calls k _ _ l0 t483 _ ?side1 ?side2 A4.out).mono ?_);(case side1=>repeat (first | exact HR0.out | (with_reducible refine zal ?_ _) | (with_reducible refine zam ?_ _) | (with_reducible refine zan ?_)));(case side2=>exact HC0.out);rintro e w' ⟨rfl,⟨nd,rfl⟩⟩) | (go_at_call 58;(with_reducible refine (impl_total.calls k _ _ l1 t484 _ ?side1 ?side2 A5.out).mono ?_);(case side1=>repeat (first | exact HR1.out | (with_reducible refine zal ?_ _) | (with_reducible refine zam ?_ _) | (with_reducible refine zan ?_)));(case side2=>exact HC1.out);rintro e w' ⟨rfl,⟨nd,rfl⟩⟩))
  go_ret
  exact ⟨taad,taah⟩
 ·rw [if_neg c3] at H
  have c3b0:((l0.length:Int) == (l1.length:Int))=false:=zbo.mpr c3
  have c3b1:((l0.length:Int) != (l1.length:Int))=true:=bne_iff_ne.mpr c3
  have c3b2:(l0.length == l1.length)=false:=by first | simpa using c3 | (simp at c3 ⊢;omega)
  obtain rfl:=zbe H
  go_enter Tryz.func62,Tryz.ntmps62
  go_wp2
  go_ret
  exact ⟨taad,taah⟩
def slices_Clone_int_int.f (l0:List Int):Option (List Int):=if l0.length≤17592186044416 then some l0 else none
theorem slices_Clone_int_int.calls (A0:Option Addr) (c0:Nat) (l0:List Int) (r:List Int) (w:World) (hr0:Kd.C (Kd.int .i64) w A0 l0.length l0) (hc0:l0.length≤c0) (h:slices_Clone_int_int.f l0=some r) :
 Calls Tryz.prog 64 #[.slice A0 l0.length c0] w fun e w'=>∃ v0_:Value,e = .returned (v0_)∧Kd.R (Kd.int .i64) 3 w' w.heap.size (fun _=>True) v0_ r∧Below w.heap.size w w':=by
 have hl:l0.length≤17592186044416∧l0=r:=by
  unfold slices_Clone_int_int.f at h
  by_cases c:l0.length≤17592186044416
  ·rw [if_pos c] at h
   exact ⟨c,zbe h⟩
  ·rw [if_neg c] at h
   cases h
 clear h;obtain ⟨hl,rfl⟩:=hl
 have hn:=(Kd.reads_of_C (d:=(0:Int)) (h1:=fun _=>rfl) hr0).2.2
 clear hr0;have q:=fun (w:World) (a:Option Addr) (n c n' c':Nat)=>Lib.run_eql_slice_nil (P:=Tryz.prog) w 25 3 a n c n' c' Tryz.underlying25
 cases A0 with
 | none =>
  have e0:l0=[]:=by
   cases l0 with
   | nil=>rfl
   | cons x t =>
    obtain ⟨ad,e',_⟩:=hn (taac)
    cases e'
  subst e0;clear hn;go_enter Tryz.func64,Tryz.ntmps64
  go_wp2
  go_ret
  exact ⟨_,rfl,Kd.R_nil _ _ _ _ _,Below.refl _ _⟩
 | some ad =>
  have HC:Aside0 (∀ j u,(encs (Value.int .i64) l0)[j]? = some u→w.cell? (ad.add j)=some u):=⟨by
   intro j u hj
   have hjl:j<l0.length:=by
    have:=(List.getElem?_eq_some_iff.1 hj).1
    rwa [encs_length] at this
   obtain ⟨ad',e',hcell⟩:=hn (by omega)
   cases e'
   rw [encs_get (d:=(0:Int)) l0 j hjl] at hj
   injection hj with hj
   rw [← hj]
   exact hcell j hjl⟩
  clear hn;obtain ⟨i0,hi,hzz⟩:=Option.map_eq_some_iff.1 info3
  simp only [zbp] at hzz
  obtain ⟨hz0,hz1,hz2⟩:=hzz
  have Hl:=zad hl;have Hc:=zad hc0;clear hl hc0;go_enter Tryz.func64,Tryz.ntmps64
  go_wp2_with (at_builtin;refine wpList_append_own _ rfl _ _ 25 rfl w.heap.size 3 i0 (.int .i64 0) 1 8 Tryz.underlying25 hi hz0 hz1 hz2 rfl (by decide) _ _ _ rfl (World.ownsRow_made w #[] 0 (zcf _) (Nat.zero_le _) (taac)) ad l0.length c0 (encs (Value.int .i64) l0) rfl ?qc1 ?qc2 ?qc3 ?qc4 ?qc5 ?qc6 ?_)
  case qc1=>rw [encs_length,Nat.mul_one]
  case qc2 =>
   intro j u hj
   exact Lib.cell?_alloc_some _ (HC.out j u hj)
  case qc3 =>
   intro u hu
   obtain ⟨x,_,rfl⟩:=List.mem_map.1 hu
   rfl
  case qc4 =>
   have:=Hl.out
   unfold maxLen
   omega
  case qc5 =>
   have:=Hl.out
   omega
  case qc6=>simp
  intro v' w1 hown hgrow hnil
  go_wp2
  go_ret
  refine ⟨v',rfl,?_,?_⟩
  ·refine Kd.R_of_own ?_ (fun _ _=>trivial)
   simpa using hown
  ·exact ((Below.refl _ w).alloc (zcf _) _).grown hgrow (taac) (by intro k hk;simp [Value.ownBlock] at hk;omega)
section
open Go.Shelf Go.Lib Go.Sort
theorem heap_sorted {α:Type} [Inhabited α] (enc:α→Value) (w:World) (blk off m:Nat) (d:Array α) (os:Array Obj) (k:Nat) (hk:k<w.heap.size) :
 (sortWorld enc w blk off m d os).heap[k]? = if blk=k then (w.heap[k]?).map (onCells (putCells enc off d)) else w.heap[k]? := by
 have h1:(sortWorld enc w blk off m d os).heap=(w.heap.modify blk (onCells (putCells enc off d))) ++ os:=rfl
 rw [h1,Array.getElem?_append_left (by rw [Array.size_modify];exact hk),Array.getElem?_modify]
theorem size_sorted {α:Type} [Inhabited α] (enc:α→Value) (w:World) (blk off m:Nat) (d:Array α) (os:Array Obj):w.heap.size≤(sortWorld enc w blk off m d os).heap.size:=by
 have h1:(sortWorld enc w blk off m d os).heap=(w.heap.modify blk (onCells (putCells enc off d))) ++ os:=rfl
 rw [h1,Array.size_append,Array.size_modify]
 omega
theorem below_sorted {α:Type} [Inhabited α] (enc:α→Value) {w w1:World} (hb:Below w.heap.size w w1) {blk off m:Nat} (d:Array α) (os:Array Obj) (hg:w.heap.size≤blk):Below w.heap.size w (sortWorld enc w1 blk off m d os):=by
 refine ⟨hb.os,hb.tape,hb.output,Nat.le_trans hb.size (size_sorted _ _ _ _ _ _ _),fun k hk => ?_⟩
 rw [heap_sorted _ _ _ _ _ _ _ _ (Nat.lt_of_lt_of_le hk hb.size),if_neg (by omega)]
 exact hb.block k hk
theorem putCells_take {α:Type} [Inhabited α] (enc:α→Value) (d:Array α) (cur:Array Value) (h:d.size≤cur.size):(putCells enc 0 d cur).toList.take d.size=d.toList.map enc:=by
 apply List.ext_getElem?
 intro i
 by_cases hi:i<d.size
 ·rw [List.getElem?_take_of_lt hi,List.getElem?_map,Array.getElem?_toList,Array.getElem?_toList,Array.getElem?_eq_getElem hi]
  unfold putCells
  rw [Array.getElem?_mapIdx,Array.getElem?_eq_getElem (show i<cur.size by omega)]
  simp [hi,getElem!_pos]
 ·rw [List.getElem?_eq_none (by rw [zax];omega),List.getElem?_eq_none (by simp;omega)]
theorem own_sorted {α:Type} [Inhabited α] (enc:α→Value) {w1:World} {base e n g cap m:Nat} {cur:Array Value} (d:Array α) (os:Array Obj) (hb:base≤g) (hh:w1.heap[g]? = some (.cells cur e (0,0))) (hn:n≤cap) (hc:cap≤maxLen) (hs:cur.size=cap*1) (hd:d.size=n) :
 (sortWorld enc w1 g 0 m d os).ownsRow base e 1 (.slice (some ⟨g,0,none⟩) n cap) n (d.toList.map enc):=by
 have hg:g<w1.heap.size:=(Array.getElem?_eq_some_iff.1 hh).1
 refine ⟨by simp [hd],.inr ⟨g,cap,putCells enc 0 d cur,rfl,hb,?_,hn,hc,?_,?_⟩⟩
 ·rw [heap_sorted _ _ _ _ _ _ _ _ hg,if_pos rfl,hh]
  rfl
 ·unfold putCells
  rw [Array.size_mapIdx]
  exact hs
 ·rw [Nat.mul_one,← hd]
  exact putCells_take enc d cur (by omega)
theorem holds_own {α:Type} [Inhabited α] (enc:α→Value) {w1:World} {e n g cap:Nat} {cur:Array Value} (d:Array α) (hh:w1.heap[g]? = some (.cells cur e (0,0))) (hn:n≤cap) (hs:cur.size=cap*1) (hd:d.size=n) (ht:cur.toList.take (n*1)=d.toList.map enc):Holds enc w1 g 0 d:=by
 intro j hj
 have h1:(cur.toList.take (n*1))[j]? = (d.toList.map enc)[j]? := by rw [ht]
 rw [List.getElem?_take_of_lt (by omega),List.getElem?_map,Array.getElem?_toList,Array.getElem?_toList,Array.getElem?_eq_getElem hj] at h1
 rw [Nat.zero_add]
 refine ⟨?_,blk_frozen hh j⟩
 rw [blk_cell hh j,h1,getElem!_pos d j hj]
 rfl
end
end Go.Proofs.YtmfpgimblifleaaGreat.A
