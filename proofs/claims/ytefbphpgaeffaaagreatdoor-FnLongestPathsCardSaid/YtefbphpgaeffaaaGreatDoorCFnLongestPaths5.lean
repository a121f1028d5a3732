/- What the law FnLongestPaths reaches, part 5: Lean functions with the same answers as the Go functions, the proofs that the Go code comes to these answers, and lemmas about them; no condition beyond those that each theorem names. -/
import Derived.Test.YtefbphpgaeffaaaGreatDoorCFnLongestPathsw1
import Derived.Deep.RegionLaw
import Derived.Laws.EntriesVeiled
import Derived.Lib.VarintBits
import Derived.Lib.Zigzag
import Derived.Test.YtefbphpgaeffaaaGreatDoorCFnLongestPaths1
import Derived.Test.YtefbphpgaeffaaaGreatDoorCFnLongestPaths2
import Derived.Test.YtefbphpgaeffaaaGreatDoorCFnLongestPaths3
import Derived.Test.YtefbphpgaeffaaaGreatDoorCFnLongestPaths4
set_option linter.unusedVariables false
set_option linter.unusedSimpArgs false
set_option maxHeartbeats 8000000
set_option maxRecDepth 100000
namespace Go.Proofs.YtefbphpgaeffaaaGreatDoor.A
open Go.RowKit Go.Proofs.YtefbphpgaeffaaaGreatDoorW.PrintWords Go.Proofs.YtefbphpgaeffaaaGreatDoorW.PrintLast Go.Proofs.YtefbphpgaeffaaaGreatDoorW.PrintMore
attribute [local go_sem] max2_int min2_int max_two min_two max_three min_three max_four min_four
mutual
def impl_path.l0:Nat→List Int→List Int→Bool→List (S59)→Option ((List (S59)))
 | 0,_,_,_,_=>none
 | k+1,x0,x1,x2,x7=>(slices_Equal_int_int.f k x0 x1).bind fun t411=>(if t411=true then (some x7) else (impl_path.l1 k x0 x1 x2 x7 0))
def impl_path.l1:Nat→List Int→List Int→Bool→List (S59)→Int→Option ((List (S59)))
 | 0,_,_,_,_,_=>none
 | k+1,x0,x1,x2,x7,x8=>if 0≤x8 then (if x8<(x0.length:Int) then (if x8<(x1.length:Int) then (if (rd x0 x8)≥(rd x1 x8) then (impl_path.l1 k x0 x1 x2 x7 (wrap64 (x8+1))) else (impl_path.l2 k x0 x1 x2 x7 x8 x8)) else (none)) else (none)) else (none)
def impl_path.l2:Nat→List Int→List Int→Bool→List (S59)→Int→Int→Option ((List (S59)))
 | 0,_,_,_,_,_,_=>none
 | k+1,x0,x1,x2,x7,x8,x9=>if 0≤x9 then (if x9<(x0.length:Int) then (if x9<(x1.length:Int) then (if (rd x0 x9)≤(rd x1 x9) then (impl_path.l2 k x0 x1 x2 x7 x8 (wrap64 (x9 - 1))) else (if x2=true then (if x7.length<5864062014805 then ((impl_given.f x0 x9 x8 1).bind fun t420=>((impl_ranking.f t420).bind fun t423=>(impl_path.l0 k t423 x1 x2 (x7 ++ [(⟨x9,x8,1⟩:S59)])))) else (none)) else (if 0≤x8 then (if x8<(x1.length:Int) then (if x8<(x0.length:Int) then (if x7.length<5864062014805 then ((impl_given.f x0 x9 x8 (mn (wrap64 ((rd x0 x9) - (rd x1 x9))) (wrap64 ((rd x1 x8) - (rd x0 x8))))).bind fun t433=>((impl_ranking.f t433).bind fun t436=>(impl_path.l0 k t436 x1 x2 (x7 ++ [(⟨x9,x8,mn (wrap64 ((rd x0 x9) - (rd x1 x9))) (wrap64 ((rd x1 x8) - (rd x0 x8)))⟩:S59)])))) else (none)) else (none)) else (none)) else (none)))) else (none)) else (none)) else (none)
end
def impl_path.f (k:Nat) (l0:List Int) (l1:List Int) (a2:Bool):Option ((List (S59))):=impl_path.l0 k l0 l1 a2 (([]:List (S59)))
def impl_path.T4:Bool × List (List Nat × List Nat):=(true,[([],[]),([],[]),([0,1],[0,1]),([2],[2]),([],[]),([],[]),([4,5],[4,5]),([6],[6]),([3,7],[3,7])])
def impl_path.B4:List Nat:=[0,0,3,7,0,0,48,112,255]
theorem impl_path.tab4:rtab .any (opsOf Tryz.f72 4)=impl_path.T4:=by kernel_rfl
theorem impl_path.bits4:waitsOk impl_path.T4.2 impl_path.B4=true:=by kernel_rfl
def impl_path.T7:Bool × List (List Nat × List Nat):=(true,[([],[]),([],[]),([0,1],[0,1]),([2],[2]),([],[]),([],[]),([4,5],[4,5]),([6],[6]),([3,7],[3,7])])
def impl_path.B7:List Nat:=[0,0,3,7,0,0,48,112,255]
theorem impl_path.tab7:rtab .any (opsOf Tryz.f72 7)=impl_path.T7:=by kernel_rfl
theorem impl_path.bits7:waitsOk impl_path.T7.2 impl_path.B7=true:=by kernel_rfl
def impl_path.T11:Bool × List (List Nat × List Nat):=(true,[([],[]),([],[]),([0,1],[0,1]),([2],[2]),([],[]),([],[]),([4,5],[4,5]),([6],[6]),([3,7],[3,7]),([],[]),([],[]),([9,10],[9,10]),([11],[11]),([],[]),([],[]),([13,14],[13,14]),([15],[15]),([12,16],[12,16]),([8,17],[8,17]),([0,1,2,3,4,5,6,7,8,9,10,11,12,13,14,15,16,17,18],[]),([19,18,0,1,2,3,4,5,6,7,8,9,10,11,12,13,14,15,16,17,18],[18,19])])
def impl_path.B11:List Nat:=[0,0,3,7,0,0,48,112,255,0,0,1536,3584,0,0,24576,57344,130560,262143,524287,1048575]
theorem impl_path.tab11:rtab .any (opsOf Tryz.f72 11)=impl_path.T11:=by kernel_rfl
theorem impl_path.bits11:waitsOk impl_path.T11.2 impl_path.B11=true:=by kernel_rfl
def impl_path.T12:Bool × List (List Nat × List Nat):=(true,[([],[]),([],[]),([1],[1]),([0,2],[0,2]),([],[]),([],[]),([4,5,3],[4,5]),([6,6],[6]),([3,7,0,1,2,3],[0,3]),([7,8,0,1,2,3,4,5,6,7,8],[4,7])])
def impl_path.B12:List Nat:=[0,0,2,7,0,0,63,127,255,511]
theorem impl_path.tab12:rtab .any (opsOf Tryz.f72 12)=impl_path.T12:=by kernel_rfl
theorem impl_path.bits12:waitsOk impl_path.T12.2 impl_path.B12=true:=by kernel_rfl
theorem impl_path.calls (k:Nat) (P0_:Nat→Prop) (A0:Option Addr) (c0:Nat) (l0:List Int) (A1:Option Addr) (c1:Nat) (l1:List Int) (a2:Bool) (r:List (S59)) (w:World) (hs0:Kd.V (Kd.int .i64) 3 w w.heap.size (fun k_=>P0_ k_) (.slice A0 l0.length c0) l0) (hr1:Kd.C (Kd.int .i64) w A1 l1.length l1) (hc1:l1.length≤c1) (h:impl_path.f k l0 l1 a2=some r) :
 Calls Tryz.prog 72 #[.slice A0 l0.length c0,.slice A1 l1.length c1,.bool a2] w fun e w'=>∃ v0_:Value,e = .returned (v0_)∧Kd.R k59 59 w' w.heap.size (fun k_=>(w.heap.size≤k_)) v0_ r∧Below w.heap.size w w':=by
 have hu59:=Tryz.underlying59;have HO0:=zad (show Kd.V (Kd.int .i64) 3 w w.heap.size (fun k_=>(P0_ k_∨w.heap.size≤k_)) (.slice A0 l0.length c0) l0 from Kd.V_mono hs0 (fun k_ hk => .inl hk));have HR1:=zad hr1;have HC1:=zad hc1;clear hr1 hc1;have HB:=zad (Below.refl w.heap.size w);have H:(impl_path.l0 k l0 l1 a2 (([]:List (S59))))=some r:=h;clear h;obtain ⟨y408,hy408⟩:∃ y_:List (S59),y_=(([]:List (S59))):=⟨_,rfl⟩;replace H:(impl_path.l0 k l0 l1 a2 y408)=some r:=by first | (rw [hy408];with_reducible exact H) | (have H2_:=(zbf _ _).symm.trans H;rw [hy408];with_reducible exact H2_) | (have H2_:=(zbf _ _).symm.trans H;with_reducible exact H2_) | with_reducible exact H | (rw [hy408];exact H) | exact H
 have Ny408:=zad hy408;clear hy408;have H':=zad H;clear H;go_enter Tryz.func72,Tryz.ntmps72;go_wp2_with (first | ((with_reducible refine gate_dst (N:=11) rfl ?_);refine Kd.R_lit k59 _ 59 ?hg (N:=11) ?hd (xs:=([]:List (S59))) (inner:=[]) (ok:=fun _=>True) (okp:=fun _=>True) ?hr ?hp (fun _ hk=>hk) trivial (Below.refl _ _) (zcf _) (taad) ?_;(case hd=>rfl);(case hg=>rfl);(case hr=>first | (go_simp;done) | (go_simp;rfl));(case hp=>exact (Reps.none _ _));intro v409 w4 ho5 hb hg_ hnew_;clear hg_ hnew_;(first | rw [← Ny408.out] at ho5 | (simp only [Int.reduceToNat] at ho5;rw [← Ny408.out] at ho5));have n0_:=zad (Kd.V_elder' (tagn) (zcd ho5) hb);have n1_:=zad (zby (Kd.R_newM (M:=fun k_=>(w.heap.size≤k_)) ho5 (zbo (taaa)) (fun k_ h_=>h_)) (zbo (taaa)));have n2_:=zad (zbi (taaa) hb);clear HO0 HB;have HO0:=n0_;have HO410:=n1_;have HB:=n2_;clear n0_ n1_ n2_ hb ho5))
 go_loopg [0,7] k (fun kq v0 v7 w'=>∃ (x0_1:List Int) (x7_1:List (S59)),Aside0 (impl_path.l0 kq x0_1 l1 a2 x7_1=some r)∧Aside0 (kq≤k)∧Aside0 (Kd.V (Kd.int .i64) 3 w' w.heap.size (fun k_=>(P0_ k_∨w.heap.size≤k_)∧some k_≠(v7:Value).ownBlock) v0 x0_1)∧Aside0 (Kd.R k59 59 w' w.heap.size (fun k_=>(w.heap.size≤k_)) v7 x7_1)∧Aside0 (Below w.heap.size w w'))
 case atStart=>exact ⟨(l0),(y408),H',⟨zcf _⟩,⟨tagn⟩,⟨by (with_reducible repeat (first | apply zai | apply zaj | apply zak));exact zbu HO410.out (fun _ hk=>hk.1)⟩,⟨taaa⟩⟩
 case round =>
  clear H';try clear c1
  try clear p2
  obtain ⟨x0_1,x7_1,HA,HK1,HO_0,HO_7,HB⟩:=hrel;cases gk with
  | zero=>exact absurd HA.out (by simp [impl_path.l0])
  | succ k1 =>
   have H:=HA.out;clear HA;simp only [impl_path.l0] at H;replace H:=zay.mp H;obtain ⟨t411,A60,H⟩:=H;replace H:(if t411=true then (some x7_1) else (impl_path.l1 k1 x0_1 l1 a2 x7_1 0))=some r:=H;have A6:=zad A60;clear A60;by_cases c7:t411=true
   ·subst c7
    have H1:(some x7_1)=some r:=by rw [if_pos rfl] at H;exact H
    clear H;have H:=H1;clear H1;obtain rfl:=zbg H;obtain ⟨Ao8,co8,eo8⟩:=Kd.V_slice HO_0.out;subst eo8;go_wp2_with (first | ((with_reducible refine zbj (f:=44) rfl ?_);refine zbr (some 14) rfl rfl Tryz.func44 (by kernel_rfl) rfl #[.slice Ao8 x0_1.length co8,.slice A1 l1.length c1] rfl (taac) ?_;(with_reducible refine (slices_Equal_int_int.calls k1 _ _ x0_1 _ _ l1 true _ ?side1 ?side2 ?side3 ?side4 A6.out).mono ?_);(case side1=>exact taif);(case side2=>exact taig);(case side3=>exact tahw);(case side4=>exact HC1.out);rintro e w' ⟨rfl,⟨nd,rfl⟩⟩;refine ⟨_,rfl,?_⟩))
    go_ret
    exact ⟨_,taah,taaj,taaa⟩
   ·replace c7:=zbk.mpr c7
    subst c7;have H1:(impl_path.l1 k1 x0_1 l1 a2 x7_1 0)=some r:=by rw [if_neg (show ¬ (false=true) by decide)] at H;exact H
    clear H;have H:=H1;clear H1;have H':=zad H;clear H;obtain ⟨Ao9,co9,eo9⟩:=Kd.V_slice HO_0.out;subst eo9;go_wp2_with (first | ((with_reducible refine zbj (f:=44) rfl ?_);refine zbr (some 14) rfl rfl Tryz.func44 (by kernel_rfl) rfl #[.slice Ao9 x0_1.length co9,.slice A1 l1.length c1] rfl (taac) ?_;(with_reducible refine (slices_Equal_int_int.calls k1 _ _ x0_1 _ _ l1 false _ ?side1 ?side2 ?side3 ?side4 A6.out).mono ?_);(case side1=>exact taif);(case side2=>exact taig);(case side3=>exact tahw);(case side4=>exact HC1.out);rintro e w' ⟨rfl,⟨nd,rfl⟩⟩;refine ⟨_,rfl,?_⟩))
    go_loopg [8] k1 (fun kq v8 w'=>∃ (x8_2:Int),v8 = .int .i64 x8_2∧Aside0 (impl_path.l1 kq x0_1 l1 a2 x7_1 x8_2=some r)∧Aside0 (kq≤k1)∧Aside0 (Kd.V (Kd.int .i64) 3 w' w.heap.size (fun k_=>(P0_ k_∨w.heap.size≤k_)∧some k_≠(u7:Value).ownBlock) (.slice Ao9 x0_1.length co9) x0_1)∧Aside0 (Kd.R k59 59 w' w.heap.size (fun k_=>(w.heap.size≤k_)) u7 x7_1)∧Aside0 (Below w.heap.size w w'))
    case atStart=>exact ⟨(0),(taae),H',⟨zcf _⟩,⟨tabg⟩,⟨taaj⟩,⟨taaa⟩⟩
    case round =>
     clear H';try clear c1
     try clear p2
     try clear c4
     try clear c7
     try clear p2
     obtain ⟨x8_2,rfl,HA,HK2,HO_0,HO_7,HB⟩:=hrel;cases gk with
     | zero=>exact absurd HA.out (by simp [impl_path.l1])
     | succ k2 =>
      have H:=HA.out;clear HA;simp only [impl_path.l1] at H;by_cases c10:0≤x8_2
      ·rw [if_pos c10] at H
       have c10b0:decide (0≤x8_2)=true:=zba c10;clear c10;by_cases c11:x8_2<(x0_1.length:Int)
       ·rw [if_pos c11] at H
        have c11b0:decide (x8_2<(x0_1.length:Int))=true:=zba c11;clear c11;by_cases c12:x8_2<(l1.length:Int)
        ·rw [if_pos c12] at H
         have c12b0:decide (x8_2<(l1.length:Int))=true:=zba c12;clear c12;by_cases c13:(rd x0_1 x8_2)≥(rd l1 x8_2)
         ·rw [if_pos c13] at H
          have c13b0:decide ((rd l1 x8_2)≤(rd x0_1 x8_2))=true:=zba c13;clear c13;have H':=zad H;clear H;try go_wp2
          have n0_:=zad (zbe HO_0.out);have n1_:=zad (zak HO_7.out);have n2_:=zad (zaf HB.out);clear HO_0 HO_7 HB;have HO_0:=n0_;have HO_7:=n1_;have HB:=n2_;clear n0_ n1_ n2_;have p412:0≤(x8_2:Int):=zas (taab);have q412:x8_2<(x0_1.length:Int):=zas (taab);obtain ⟨ad412,e412,hx412_0⟩:=zca (Kd.V_reads' HO_0.out).2.2 x8_2 p412 q412;cases e412;replace p412:=eq_true p412;replace q412:=eq_true q412;have p413:0≤(x8_2:Int):=zas (taab);have q413:x8_2<(l1.length:Int):=zas (taab);obtain ⟨ad413,e413,hx413_0⟩:=zca HR1.out x8_2 p413 q413;have hw413_0:=hx413_0;cases e413;replace hx413_0:=(HB.out.cell (zaz w _ hx413_0)).trans hx413_0;replace p413:=eq_true p413;replace q413:=eq_true q413;refine start_ (n:=9) (S:=fun w'=>w'.cell? (ad412.add (x8_2).toNat)=some (.int .i64 (rd x0_1 x8_2))∧w'.cell? (ad413.add (x8_2).toNat)=some (.int .i64 (rd l1 x8_2))) (ds:=[]) #[false,false,false,false,false,false,false,false,false] (by kernel_rfl) rfl rfl ⟨hx412_0,((HB.out.cell (zaz w _ hw413_0)).trans hw413_0)⟩ (fun hHeld => ?_);refine with_tabW impl_path.tab4 impl_path.bits4 (fun HT_ HW_ => ?_)
          generalize wr.drew=w14 at HO_0 HO_7 HB hx412_0 hx413_0 hHeld ⊢
          refine puA 0 (some 16) qafx_ ?_;refine puA 1 (some 17) qafy_ ?_;refine puA 2 (some 18) qafz_ ?_;refine puA 4 (some 20) qaga_ ?_;refine puA 5 (some 21) qagb_ ?_;refine puA 6 (some 22) qagc_ ?_;refine tkA 3 (some 19) qagw_ rfl rfl (by rintro w' ⟨s0,s1⟩;go_simp;with_reducible rfl) hHeld ?_;refine tkA 7 (some 23) qagx_ rfl rfl (by rintro w' ⟨s0,s1⟩;go_simp;with_reducible rfl) hHeld ?_;refine puA 8 (some 24) qagd_ ?_;refine done_ (done_of HT_.out (by kernel_rfl)) ?_
          try go_wp2
          go_roundg k2
          case measure=>have:=HK1.out;have:=HK2.out;omega
          case rel=>exact ⟨(wrap64 (x8_2+1)),(taae),H',⟨taba⟩,⟨tabg⟩,⟨taaj⟩,⟨taaa⟩⟩
         ·rw [if_neg c13] at H
          have c13b0:decide ((rd l1 x8_2)≤(rd x0_1 x8_2))=false:=zbl c13;clear c13;have H':=zad H;clear H;try go_wp2
          have n0_:=zad (zbe HO_0.out);have n1_:=zad (zak HO_7.out);have n2_:=zad (zaf HB.out);clear HO_0 HO_7 HB;have HO_0:=n0_;have HO_7:=n1_;have HB:=n2_;clear n0_ n1_ n2_;have p412:0≤(x8_2:Int):=zas (taab);have q412:x8_2<(x0_1.length:Int):=zas (taab);obtain ⟨ad412,e412,hx412_0⟩:=zca (Kd.V_reads' HO_0.out).2.2 x8_2 p412 q412;cases e412;replace p412:=eq_true p412;replace q412:=eq_true q412;have p413:0≤(x8_2:Int):=zas (taab);have q413:x8_2<(l1.length:Int):=zas (taab);obtain ⟨ad413,e413,hx413_0⟩:=zca HR1.out x8_2 p413 q413;have hw413_0:=hx413_0;cases e413;replace hx413_0:=(HB.out.cell (zaz w _ hx413_0)).trans hx413_0;replace p413:=eq_true p413;replace q413:=eq_true q413;refine start_ (n:=9) (S:=fun w'=>w'.cell? (ad412.add (x8_2).toNat)=some (.int .i64 (rd x0_1 x8_2))∧w'.cell? (ad413.add (x8_2).toNat)=some (.int .i64 (rd l1 x8_2))) (ds:=[]) #[false,false,false,false,false,false,false,false,false] (by kernel_rfl) rfl rfl ⟨hx412_0,((HB.out.cell (zaz w _ hw413_0)).trans hw413_0)⟩ (fun hHeld => ?_);refine with_tabW impl_path.tab4 impl_path.bits4 (fun HT_ HW_ => ?_)
          generalize wr.drew=w15 at HO_0 HO_7 HB hx412_0 hx413_0 hHeld ⊢
          refine puA 0 (some 16) qafx_ ?_;refine puA 1 (some 17) qafy_ ?_;refine puA 2 (some 18) qafz_ ?_;refine puA 4 (some 20) qaga_ ?_;refine puA 5 (some 21) qagb_ ?_;refine puA 6 (some 22) qagc_ ?_;refine tkA 3 (some 19) qagw_ rfl rfl (by rintro w' ⟨s0,s1⟩;go_simp;with_reducible rfl) hHeld ?_;refine tkA 7 (some 23) qagx_ rfl rfl (by rintro w' ⟨s0,s1⟩;go_simp;with_reducible rfl) hHeld ?_;refine puA 8 (some 24) qagd_ ?_;refine done_ (done_of HT_.out (by kernel_rfl)) ?_
          try go_wp2
          go_loopg [9] k2 (fun kq v9 w'=>∃ (x9_3:Int),v9 = .int .i64 x9_3∧Aside0 (impl_path.l2 kq x0_1 l1 a2 x7_1 x8_2 x9_3=some r)∧Aside0 (kq≤k2)∧Aside0 (Kd.V (Kd.int .i64) 3 w' w.heap.size (fun k_=>(P0_ k_∨w.heap.size≤k_)∧some k_≠(u7:Value).ownBlock) (.slice (some ad412) x0_1.length co9) x0_1)∧Aside0 (Kd.R k59 59 w' w.heap.size (fun k_=>(w.heap.size≤k_)) u7 x7_1)∧Aside0 (Below w.heap.size w w'))
          case atStart=>exact ⟨(x8_2),(taae),H',⟨zcf _⟩,⟨tabg⟩,⟨taaj⟩,⟨taaa⟩⟩
          case round =>
           clear H';try clear c1
           try clear p2
           try clear c4
           try clear p4
           try clear q4
           try clear hx4
           try clear p6
           try clear c7
           try clear c10
           try clear c10b0
           try clear c11
           try clear c11b0
           try clear c12
           try clear c12b0
           try clear c13
           try clear c13b0
           try clear hx412_0
           try clear hx413_0
           try clear p2
           try clear p412
           try clear p413
           try clear q412
           try clear q413
           obtain ⟨x9_3,rfl,HA,HK3,HO_0,HO_7,HB⟩:=hrel;cases gk with
           | zero=>exact absurd HA.out (by simp [impl_path.l2])
           | succ k3 =>
            have H:=HA.out;clear HA;simp only [impl_path.l2] at H;by_cases c16:0≤x9_3
            ·rw [if_pos c16] at H
             have c16b0:decide (0≤x9_3)=true:=zba c16;clear c16;by_cases c17:x9_3<(x0_1.length:Int)
             ·rw [if_pos c17] at H
              have c17b0:decide (x9_3<(x0_1.length:Int))=true:=zba c17;clear c17;by_cases c18:x9_3<(l1.length:Int)
              ·rw [if_pos c18] at H
               have c18b0:decide (x9_3<(l1.length:Int))=true:=zba c18;clear c18;by_cases c19:(rd x0_1 x9_3)≤(rd l1 x9_3)
               ·rw [if_pos c19] at H
                have c19b0:decide ((rd x0_1 x9_3)≤(rd l1 x9_3))=true:=zba c19;clear c19;have H':=zad H;clear H;try go_wp2
                have n0_:=zad (zbe HO_0.out);have n1_:=zad (zak HO_7.out);have n2_:=zad (zaf HB.out);clear HO_0 HO_7 HB;have HO_0:=n0_;have HO_7:=n1_;have HB:=n2_;clear n0_ n1_ n2_;have p414:0≤(x9_3:Int):=zas (taab);have q414:x9_3<(x0_1.length:Int):=zas (taab);obtain ⟨ad414,e414,hx414_0⟩:=zca (Kd.V_reads' HO_0.out).2.2 x9_3 p414 q414;obtain rfl:ad412=ad414:=(by injection e414);replace p414:=eq_true p414;replace q414:=eq_true q414;have p415:0≤(x9_3:Int):=zas (taab);have q415:x9_3<(l1.length:Int):=zas (taab);obtain ⟨ad415,e415,hx415_0⟩:=zca HR1.out x9_3 p415 q415;have hw415_0:=hx415_0;obtain rfl:ad413=ad415:=(by injection e415);replace hx415_0:=(HB.out.cell (zaz w _ hx415_0)).trans hx415_0;replace p415:=eq_true p415;replace q415:=eq_true q415;refine start_ (n:=9) (S:=fun w'=>w'.cell? (ad412.add (x9_3).toNat)=some (.int .i64 (rd x0_1 x9_3))∧w'.cell? (ad413.add (x9_3).toNat)=some (.int .i64 (rd l1 x9_3))) (ds:=[]) #[false,false,false,false,false,false,false,false,false] (by kernel_rfl) rfl rfl ⟨hx414_0,((HB.out.cell (zaz w _ hw415_0)).trans hw415_0)⟩ (fun hHeld => ?_);refine with_tabW impl_path.tab7 impl_path.bits7 (fun HT_ HW_ => ?_)
                generalize wr.drew=w20 at HO_0 HO_7 HB hx414_0 hx415_0 hHeld ⊢
                refine puA 0 (some 28) qafx_ ?_;refine puA 1 (some 29) qafy_ ?_;refine puA 2 (some 30) qafz_ ?_;refine puA 4 (some 32) qaga_ ?_;refine puA 5 (some 33) qagb_ ?_;refine puA 6 (some 34) qagc_ ?_;refine tkA 3 (some 31) qagw_ rfl rfl (by rintro w' ⟨s0,s1⟩;go_simp;with_reducible rfl) hHeld ?_;refine tkA 7 (some 35) qagx_ rfl rfl (by rintro w' ⟨s0,s1⟩;go_simp;with_reducible rfl) hHeld ?_;refine puA 8 (some 36) qagd_ ?_;refine done_ (done_of HT_.out (by kernel_rfl)) ?_
                try go_wp2
                go_roundg k3
                case measure=>have:=HK1.out;have:=HK2.out;have:=HK3.out;omega
                case rel=>exact ⟨(wrap64 (x9_3 - 1)),(taae),H',⟨taep⟩,⟨tabg⟩,⟨taaj⟩,⟨taaa⟩⟩
               ·rw [if_neg c19] at H
                have c19b0:decide ((rd x0_1 x9_3)≤(rd l1 x9_3))=false:=zbl c19;clear c19;by_cases c21:a2=true
                ·subst c21
                 have H1:(if x7_1.length<5864062014805 then ((impl_given.f x0_1 x9_3 x8_2 1).bind fun t420=>((impl_ranking.f t420).bind fun t423=>(impl_path.l0 k3 t423 l1 true (x7_1 ++ [(⟨x9_3,x8_2,1⟩:S59)])))) else (none))=some r:=by rw [if_pos rfl] at H;exact H
                 clear H;have H:=H1;clear H1;by_cases c22:x7_1.length<5864062014805
                 ·rw [if_pos c22] at H
                  have LMc22:=zad c22;clear c22;obtain ⟨y417,hy417⟩:∃ y_:List (S59),y_=(x7_1 ++ [(⟨x9_3,x8_2,1⟩:S59)]):=⟨_,rfl⟩;replace H:((impl_given.f x0_1 x9_3 x8_2 1).bind fun t420=>((impl_ranking.f t420).bind fun t423=>(impl_path.l0 k3 t423 l1 true y417)))=some r:=by first | (rw [hy417];with_reducible exact H) | (have H2_:=(zbf _ _).symm.trans H;rw [hy417];with_reducible exact H2_) | (have H2_:=(zbf _ _).symm.trans H;with_reducible exact H2_) | with_reducible exact H | (rw [hy417];exact H) | exact H
                  have Ny417:=zad hy417;clear hy417;replace H:=zay.mp H;obtain ⟨t420,A230,H⟩:=H;replace H:((impl_ranking.f t420).bind fun t423=>(impl_path.l0 k3 t423 l1 true y417))=some r:=H;have A23:=zad A230;clear A230;replace H:=zay.mp H;obtain ⟨t423,A240,H⟩:=H;replace H:(impl_path.l0 k3 t423 l1 true y417)=some r:=H;have A24:=zad A240;clear A240;have H':=zad H;clear H;try go_wp2
                  have n0_:=zad (zbe HO_0.out);have n1_:=zad (zak HO_7.out);have n2_:=zad (zaf HB.out);clear HO_0 HO_7 HB;have HO_0:=n0_;have HO_7:=n1_;have HB:=n2_;clear n0_ n1_ n2_;have p414:0≤(x9_3:Int):=zas (taab);have q414:x9_3<(x0_1.length:Int):=zas (taab);obtain ⟨ad414,e414,hx414_0⟩:=zca (Kd.V_reads' HO_0.out).2.2 x9_3 p414 q414;obtain rfl:ad412=ad414:=(by injection e414);replace p414:=eq_true p414;replace q414:=eq_true q414;have p415:0≤(x9_3:Int):=zas (taab);have q415:x9_3<(l1.length:Int):=zas (taab);obtain ⟨ad415,e415,hx415_0⟩:=zca HR1.out x9_3 p415 q415;have hw415_0:=hx415_0;obtain rfl:ad413=ad415:=(by injection e415);replace hx415_0:=(HB.out.cell (zaz w _ hx415_0)).trans hx415_0;replace p415:=eq_true p415;replace q415:=eq_true q415;refine start_ (n:=9) (S:=fun w'=>w'.cell? (ad412.add (x9_3).toNat)=some (.int .i64 (rd x0_1 x9_3))∧w'.cell? (ad413.add (x9_3).toNat)=some (.int .i64 (rd l1 x9_3))) (ds:=[]) #[false,false,false,false,false,false,false,false,false] (by kernel_rfl) rfl rfl ⟨hx414_0,((HB.out.cell (zaz w _ hw415_0)).trans hw415_0)⟩ (fun hHeld => ?_);refine with_tabW impl_path.tab7 impl_path.bits7 (fun HT_ HW_ => ?_)
                  generalize wr.drew=w25 at HO_0 HO_7 HB hx414_0 hx415_0 hHeld ⊢
                  refine puA 0 (some 28) qafx_ ?_;refine puA 1 (some 29) qafy_ ?_;refine puA 2 (some 30) qafz_ ?_;refine puA 4 (some 32) qaga_ ?_;refine puA 5 (some 33) qagb_ ?_;refine puA 6 (some 34) qagc_ ?_;refine tkA 3 (some 31) qagw_ rfl rfl (by rintro w' ⟨s0,s1⟩;go_simp;with_reducible rfl) hHeld ?_;refine tkA 7 (some 35) qagx_ rfl rfl (by rintro w' ⟨s0,s1⟩;go_simp;with_reducible rfl) hHeld ?_;refine puA 8 (some 36) qagd_ ?_;refine done_ (done_of HT_.out (by kernel_rfl)) ?_
                  try go_wp2_with (first | ((with_reducible refine gate_dst (N:=10) rfl ?_);refine box_event ?hg (N:=10) ?hd (cs:=#[.int .i64 0,.int .i64 0,.int .i64 0]) (t:=59) ?hr ?_;(case hd=>rfl);(case hg=>rfl);(case hr=>first | (go_simp;done) | (go_simp;rfl));intro gb416 hg w26 hbox hb;have n0_:=zad (Kd.V_below (Kd.V_elderB (tabg) gb416 (Nat.le_of_eq hg.symm)) hb);have n1_:=zad (zbx (Kd.R_elderB (taaj) gb416 (Nat.le_of_eq hg.symm)) hb);have n2_:=zad (zbi (taaa) hb);have n3_:=zad (hbox);have n4_:=zad ((tahi:w.heap.size≤gb416));have n5_:=zad ((tahi:w.heap.size≤gb416));clear HO_0 HO_7 HB;have HO_0:=n0_;have HO_7:=n1_;have HB:=n2_;have BK416:=n3_;have GW416:=n4_;have GE416:=n5_;clear n0_ n1_ n2_ n3_ n4_ n5_ hb hbox hg;have hcz27_0:w26.cell? ⟨gb416,0,none⟩=some (.int .i64 0):=(zbm BK416.out 0).trans rfl;have hcz27_1:w26.cell? ⟨gb416,1,none⟩=some (.int .i64 0):=(zbm BK416.out 1).trans rfl;have hcz27_2:w26.cell? ⟨gb416,2,none⟩=some (.int .i64 0):=(zbm BK416.out 2).trans rfl;have hfz27_0:=zbn BK416.out 0;have hfz27_1:=zbn BK416.out 1;have hfz27_2:=zbn BK416.out 2))
                  have n0_:Aside0 (Kd.V (Kd.int .i64) 3 (((w26.setCell ⟨gb416,0,none⟩ (.int .i64 x9_3)).setCell ⟨gb416,1,none⟩ (.int .i64 x8_2)).setCell ⟨gb416,2,none⟩ (.int .i64 1)) w.heap.size (fun k_=>(P0_ k_∨w.heap.size≤k_)∧some k_≠(u7:Value).ownBlock∧k_≠gb416) (.slice (some ad412) x0_1.length co9) x0_1):=⟨tago⟩;have n1_:Aside0 (Kd.R k59 59 (((w26.setCell ⟨gb416,0,none⟩ (.int .i64 x9_3)).setCell ⟨gb416,1,none⟩ (.int .i64 x8_2)).setCell ⟨gb416,2,none⟩ (.int .i64 1)) w.heap.size (fun k_=>(w.heap.size≤k_)∧k_≠gb416) u7 x7_1):=⟨tagp⟩;have n2_:Aside0 ((((w26.setCell ⟨gb416,0,none⟩ (.int .i64 x9_3)).setCell ⟨gb416,1,none⟩ (.int .i64 x8_2)).setCell ⟨gb416,2,none⟩ (.int .i64 1)).heap[gb416]? = some (.cells #[.int .i64 x9_3,.int .i64 x8_2,.int .i64 1] 59 (0,0))):=⟨tagq⟩;have n3_:Aside0 (Below w.heap.size w (((w26.setCell ⟨gb416,0,none⟩ (.int .i64 x9_3)).setCell ⟨gb416,1,none⟩ (.int .i64 x8_2)).setCell ⟨gb416,2,none⟩ (.int .i64 1))):=⟨taaq⟩;(try clear HO_0);(try clear HO_7);(try clear BK416);(try clear HB);generalize (((w26.setCell ⟨gb416,0,none⟩ (.int .i64 x9_3)).setCell ⟨gb416,1,none⟩ (.int .i64 x8_2)).setCell ⟨gb416,2,none⟩ (.int .i64 1))=w28 at n0_ n1_ n2_ n3_ ⊢
                  have HO_0:=n0_;have HO_7:=n1_;have BK416:=n2_;have HB:=n3_;clear n0_ n1_ n2_ n3_;have n0_:=zad (zbe HO_0.out);have n1_:=zad (zak HO_7.out);have n2_:=zad (blk_drew BK416.out);have n3_:=zad (zaf HB.out);clear HO_0 HO_7 BK416 HB;have HO_0:=n0_;have HO_7:=n1_;have BK416:=n2_;have HB:=n3_;clear n0_ n1_ n2_ n3_;refine start_ (n:=10) (S:=fun w'=>w'.cell? ⟨gb416,0,none⟩=some (.int .i64 x9_3)∧w'.cell? ⟨gb416,1,none⟩=some (.int .i64 x8_2)∧w'.cell? ⟨gb416,2,none⟩=some (.int .i64 1)) (ds:=[]) #[false,false,false,false,false,false,false,false,false,false] (by kernel_rfl) rfl rfl ⟨(zbm BK416.out 0).trans rfl,(zbm BK416.out 1).trans rfl,(zbm BK416.out 2).trans rfl⟩ (fun hHeld => ?_);refine with_tabW impl_path.tab12 impl_path.bits12 (fun HT_ HW_ => ?_)
                  generalize w28.drew=w29 at HO_0 HO_7 BK416 HB hHeld ⊢
                  refine puA 0 (some 64) qaai_ ?_;refine puA 4 (some 68) qage_ ?_;refine tkA 1 (some 65) qagy_ rfl rfl (by rintro w' ⟨s0,s1,s2⟩;go_simp;with_reducible rfl) hHeld ?_;refine tkA 5 (some 69) qagz_ rfl rfl (by rintro w' ⟨s0,s1,s2⟩;go_simp;with_reducible rfl) hHeld ?_;refine one_ (i:=2) (N:=some 66) #[true,true,true,false,true,true,false,false,false,false] rfl rfl (one_of HT_.out (by kernel_rfl)) (by decide) (fun K hK => ?_)
                  refine value_ (w1 := ?_) (v := ?_) (by rfl) rfl ?_ ?_
                  rotate_left 2
                  ·go_simp
                   constructor
                   ·rfl
                   ·rfl
                  refine hK.out _ _ ⟨(zbm (blk_alloc BK416.out _) 0).trans rfl,(zbm (blk_alloc BK416.out _) 1).trans rfl,(zbm (blk_alloc BK416.out _) 2).trans rfl⟩ (fun hHeld => ?_)
                  clear hK K;refine norm_ (a' := ?_) ?_ ?_
                  rotate_left
                  ·show Act.put _ (some 66) _=_
                   simp only [Act.put,zaa,zab,zac,i64_w,i32_w];rfl
                  refine one_ (i:=3) (N:=some 67) #[true,true,true,true,true,true,false,false,false,false] rfl rfl (one_of HT_.out (by kernel_rfl)) (by decide) (fun K hK => ?_)
                  refine Kd.R_append_step k59 (w0:=w) w.heap.size (by rfl) (.tmp 64) (.tmp 66) 30 59 (.agg #[(.int .i64 0),(.int .i64 0),(.int .i64 0)]) 24 rfl Tryz.underlying30 info59 rfl (by decide) (by omega) u7 x7_1 (⟨x9_3,x8_2,1⟩:S59) [.int .i64 x9_3,.int .i64 x8_2,.int .i64 1] (fun k_=>(w.heap.size≤k_)∧k_≠gb416) (fun _=>False) rfl rfl ?aP (fun _ hk=>hk.elim) ?aF ?aO ?aB ?aS ?aL ?_
                  (case aP=>exact k59_mkM _ _ _ (⟨x9_3,x8_2,1⟩:S59))
                  (case aB=>exact (taaq))
                  (case aF=>exact (fun k_ hk=>⟨(Nat.le_trans (zbo (taaq)) hk),Kd.freshB (g:=gb416) (o := .cells #[.int .i64 x9_3,.int .i64 x8_2,.int .i64 1] 59 (0,0)) (tabm) k_ hk⟩))
                  (case aO=>exact (taaj))
                  (case aS=>exact (zbo (taaq)))
                  (case aL=>have:=LMc22.out;omega)
                  intro v418 w30 ho hb hg hat
                  rw [← Ny417.out] at ho
                  have n0_:=zad (Kd.V_afterv (ok:=(fun k_=>(P0_ k_∨w.heap.size≤k_)∧k_≠gb416)) (tagr) hg hat);have n1_:=zad (blk_grown (g:=gb416) (o := .cells #[.int .i64 x9_3,.int .i64 x8_2,.int .i64 1] 59 (0,0)) (tabm) hg (Kd.R_away HO_7.out (fun _ hk=>hk.2)));have n2_:=zad (hb);have n3_:=zad (ho);clear HO_0 BK416 HB HO_7;have HO_0:=n0_;have BK416:=n1_;have HB:=n2_;have HO419:=n3_;clear n0_ n1_ n2_ n3_ ho hb hg hat;refine hK.out _ _ ⟨(zbm BK416.out 0).trans rfl,(zbm BK416.out 1).trans rfl,(zbm BK416.out 2).trans rfl⟩ (fun hHeld => ?_)
                  clear hK K;refine norm_ (a' := ?_) ?_ ?_
                  rotate_left
                  ·show Act.put _ (some 67) _=_
                   simp only [Act.put,zaa,zab,zac,i64_w,i32_w];rfl
                  refine one_ (i:=6) (N:=some 70) #[true,true,true,true,true,true,true,false,false,false] rfl rfl (one_of HT_.out (by kernel_rfl)) (by decide) (fun K hK => ?_)
                  refine goes_ Tryz.func65 (by kernel_rfl) rfl #[.slice (some ad412) x0_1.length co9,.agg #[.int .i64 x9_3,.int .i64 x8_2,.int .i64 1]] (by rfl) rfl rfl (taac) ?_
                  with_reducible refine (impl_given.calls _ _ x0_1 x9_3 x8_2 1 t420 _ ?side1 ?side2 A23.out).mono ?_
                  (case side1=>exact taif)
                  (case side2=>exact taig)
                  rintro e w31 ⟨v421,rfl,ho0,hb⟩
                  refine ⟨_,rfl,?_⟩
                  have n0_:=zad (Kd.V_elder' (tabg) (zcd ho0) hb);have n1_:=zad (zbx (tags) hb);have n2_:=zad (zby (Kd.R_newM (M:=fun k_=>(w.heap.size≤k_)) ho0 (zbo (taaq)) (fun k_ h_=>h_)) (zbo (taaq)));have n3_:=zad (blk_below (g:=gb416) (o := .cells #[.int .i64 x9_3,.int .i64 x8_2,.int .i64 1] 59 (0,0)) (tabm) hb);have n4_:=zad (zbi (taaq) hb);clear HO_0 HO419 BK416 HB;have HO_0:=n0_;have HO419:=n1_;have HO422:=n2_;have BK416:=n3_;have HB:=n4_;clear n0_ n1_ n2_ n3_ n4_;(try clear hb);(try clear hb2);(try clear hk);(try clear hi);(try clear ho0);obtain ⟨Ao32,co32,eo32⟩:=zbz HO422.out;(first | subst eo32 | (injection eo32 with f1_ f2_ f3_;have f4_:=f1_.symm;have f5_:=f3_.symm;clear f1_ f2_ f3_;subst f4_;subst f5_))
                  refine hK.out _ _ ⟨(zbm BK416.out 0).trans rfl,(zbm BK416.out 1).trans rfl,(zbm BK416.out 2).trans rfl⟩ (fun hHeld => ?_)
                  clear hK K;refine norm_ (a' := ?_) ?_ ?_
                  rotate_left
                  ·show Act.put _ (some 70) _=_
                   simp only [Act.put,zaa,zab,zac,i64_w,i32_w];rfl
                  refine one_ (i:=7) (N:=some 71) #[true,true,true,true,true,true,true,true,false,false] rfl rfl (one_of HT_.out (by kernel_rfl)) (by decide) (fun K hK => ?_)
                  refine goes_ Tryz.func22 (by kernel_rfl) rfl #[.slice Ao32 t420.length co32] (by rfl) rfl rfl (taac) ?_
                  with_reducible refine (impl_ranking.calls _ _ t420 t423 _ ?side1 ?side2 A24.out).mono ?_
                  (case side1=>repeat (first | exact (zbh HO422.out).2.2 | (with_reducible refine zal ?_ _) | (with_reducible refine zam ?_ _) | (with_reducible refine zan ?_)))
                  (case side2=>exact (zbh HO422.out).2.1)
                  rintro e w33 ⟨v424,rfl,ho0,hb⟩
                  refine ⟨_,rfl,?_⟩
                  have n0_:=zad (Kd.V_elder' (tabg) (zcd ho0) hb);have n1_:=zad (zbx (tags) hb);have n2_:=zad (zcb (tagt) (zcd ho0) hb);have n3_:=zad (zby (zcc (Kd.R_newM (M:=fun k_=>(w.heap.size≤k_)) ho0 (zbo (taaq)) (fun k_ h_=>h_)) (zce (tagt))) (zbo (taaq)));have n4_:=zad (blk_below (g:=gb416) (o := .cells #[.int .i64 x9_3,.int .i64 x8_2,.int .i64 1] 59 (0,0)) (tabm) hb);have n5_:=zad (zbi (taaq) hb);clear HO_0 HO419 HO422 BK416 HB;have HO_0:=n0_;have HO419:=n1_;have HO422:=n2_;have HO425:=n3_;have BK416:=n4_;have HB:=n5_;clear n0_ n1_ n2_ n3_ n4_ n5_;(try clear hb);(try clear hb2);(try clear hk);(try clear hi);(try clear ho0);refine hK.out _ _ ⟨(zbm BK416.out 0).trans rfl,(zbm BK416.out 1).trans rfl,(zbm BK416.out 2).trans rfl⟩ (fun hHeld => ?_)
                  clear hK K;refine norm_ (a' := ?_) ?_ ?_
                  rotate_left
                  ·show Act.put _ (some 71) _=_
                   simp only [Act.put,zaa,zab,zac,i64_w,i32_w];rfl
                  refine puA 8 (some 7) qaan_ ?_;refine puA 9 (some 0) qagf_ ?_;refine done_ (done_of HT_.out (by kernel_rfl)) ?_
                  try go_wp2
                  go_roundg k3
                  case measure=>have:=HK1.out;have:=HK2.out;have:=HK3.out;omega
                  case rel=>exact ⟨(t423),(y417),H',⟨taep⟩,⟨Kd.V_mono (Kd.R_V (by (with_reducible repeat (first | apply zai | apply zaj | apply zak));exact (Kd.R_apart' HO425.out (Kd.R_typed HO419.out) (by decide)))) (fun k_ hk0=>tagu)⟩,⟨by (with_reducible repeat (first | apply zai | apply zaj | apply zak));exact zbu HO419.out (fun _ hk=>hk.1)⟩,⟨taaq⟩⟩
                 ·rw [if_neg c22] at H
                  exact absurd H (taad)
                ·replace c21:=zbk.mpr c21
                 subst c21;have H1:(if 0≤x8_2 then (if x8_2<(l1.length:Int) then (if x8_2<(x0_1.length:Int) then (if x7_1.length<5864062014805 then ((impl_given.f x0_1 x9_3 x8_2 (mn (wrap64 ((rd x0_1 x9_3) - (rd l1 x9_3))) (wrap64 ((rd l1 x8_2) - (rd x0_1 x8_2))))).bind fun t433=>((impl_ranking.f t433).bind fun t436=>(impl_path.l0 k3 t436 l1 false (x7_1 ++ [(⟨x9_3,x8_2,mn (wrap64 ((rd x0_1 x9_3) - (rd l1 x9_3))) (wrap64 ((rd l1 x8_2) - (rd x0_1 x8_2)))⟩:S59)])))) else (none)) else (none)) else (none)) else (none))=some r:=by rw [if_neg (show ¬ (false=true) by decide)] at H;exact H
                 clear H;have H:=H1;clear H1;by_cases c34:0≤x8_2
                 ·rw [if_pos c34] at H
                  have c34b0:decide (0≤x8_2)=true:=zba c34;clear c34;by_cases c35:x8_2<(l1.length:Int)
                  ·rw [if_pos c35] at H
                   have c35b0:decide (x8_2<(l1.length:Int))=true:=zba c35;clear c35;by_cases c36:x8_2<(x0_1.length:Int)
                   ·rw [if_pos c36] at H
                    have c36b0:decide (x8_2<(x0_1.length:Int))=true:=zba c36;clear c36;obtain ⟨ji37,hji37⟩:∃ j_:Int,(mn (wrap64 ((rd x0_1 x9_3) - (rd l1 x9_3))) (wrap64 ((rd l1 x8_2) - (rd x0_1 x8_2))))=j_:=⟨_,rfl⟩;replace H:(if x7_1.length<5864062014805 then ((impl_given.f x0_1 x9_3 x8_2 (ji37)).bind fun t433=>((impl_ranking.f t433).bind fun t436=>(impl_path.l0 k3 t436 l1 false (x7_1 ++ [(⟨x9_3,x8_2,ji37⟩:S59)])))) else (none))=some r:=by first | (rw [hji37] at H;exact H) | (simp only [hji37] at H ⊢;exact H)
                    have hji37_:(if (wrap64 ((rd l1 x8_2) - (rd x0_1 x8_2)))<(wrap64 ((rd x0_1 x9_3) - (rd l1 x9_3))) then (wrap64 ((rd l1 x8_2) - (rd x0_1 x8_2))) else (wrap64 ((rd x0_1 x9_3) - (rd l1 x9_3))))=ji37:=hji37;by_cases c38:x7_1.length<5864062014805
                    ·rw [if_pos c38] at H
                     have LMc38:=zad c38;clear c38;obtain ⟨y430,hy430⟩:∃ y_:List (S59),y_=(x7_1 ++ [(⟨x9_3,x8_2,ji37⟩:S59)]):=⟨_,rfl⟩;replace H:((impl_given.f x0_1 x9_3 x8_2 (ji37)).bind fun t433=>((impl_ranking.f t433).bind fun t436=>(impl_path.l0 k3 t436 l1 false y430)))=some r:=by first | (rw [hy430];with_reducible exact H) | (have H2_:=(zbf _ _).symm.trans H;rw [hy430];with_reducible exact H2_) | (have H2_:=(zbf _ _).symm.trans H;with_reducible exact H2_) | with_reducible exact H | (rw [hy430];exact H) | exact H
                     have Ny430:=zad hy430;clear hy430;replace H:=zay.mp H;obtain ⟨t433,A390,H⟩:=H;replace H:((impl_ranking.f t433).bind fun t436=>(impl_path.l0 k3 t436 l1 false y430))=some r:=H;have A39:=zad A390;clear A390;replace H:=zay.mp H;obtain ⟨t436,A400,H⟩:=H;replace H:(impl_path.l0 k3 t436 l1 false y430)=some r:=H;have A40:=zad A400;clear A400;have H':=zad H;clear H;try go_wp2
                     have n0_:=zad (zbe HO_0.out);have n1_:=zad (zak HO_7.out);have n2_:=zad (zaf HB.out);clear HO_0 HO_7 HB;have HO_0:=n0_;have HO_7:=n1_;have HB:=n2_;clear n0_ n1_ n2_;have p414:0≤(x9_3:Int):=zas (taab);have q414:x9_3<(x0_1.length:Int):=zas (taab);obtain ⟨ad414,e414,hx414_0⟩:=zca (Kd.V_reads' HO_0.out).2.2 x9_3 p414 q414;obtain rfl:ad412=ad414:=(by injection e414);replace p414:=eq_true p414;replace q414:=eq_true q414;have p415:0≤(x9_3:Int):=zas (taab);have q415:x9_3<(l1.length:Int):=zas (taab);obtain ⟨ad415,e415,hx415_0⟩:=zca HR1.out x9_3 p415 q415;have hw415_0:=hx415_0;obtain rfl:ad413=ad415:=(by injection e415);replace hx415_0:=(HB.out.cell (zaz w _ hx415_0)).trans hx415_0;replace p415:=eq_true p415;replace q415:=eq_true q415;refine start_ (n:=9) (S:=fun w'=>w'.cell? (ad412.add (x9_3).toNat)=some (.int .i64 (rd x0_1 x9_3))∧w'.cell? (ad413.add (x9_3).toNat)=some (.int .i64 (rd l1 x9_3))) (ds:=[]) #[false,false,false,false,false,false,false,false,false] (by kernel_rfl) rfl rfl ⟨hx414_0,((HB.out.cell (zaz w _ hw415_0)).trans hw415_0)⟩ (fun hHeld => ?_);refine with_tabW impl_path.tab7 impl_path.bits7 (fun HT_ HW_ => ?_)
                     generalize wr.drew=w41 at HO_0 HO_7 HB hx414_0 hx415_0 hHeld ⊢
                     refine puA 0 (some 28) qafx_ ?_;refine puA 1 (some 29) qafy_ ?_;refine puA 2 (some 30) qafz_ ?_;refine puA 4 (some 32) qaga_ ?_;refine puA 5 (some 33) qagb_ ?_;refine puA 6 (some 34) qagc_ ?_;refine tkA 3 (some 31) qagw_ rfl rfl (by rintro w' ⟨s0,s1⟩;go_simp;with_reducible rfl) hHeld ?_;refine tkA 7 (some 35) qagx_ rfl rfl (by rintro w' ⟨s0,s1⟩;go_simp;with_reducible rfl) hHeld ?_;refine puA 8 (some 36) qagd_ ?_;refine done_ (done_of HT_.out (by kernel_rfl)) ?_
                     try go_wp2_with (first | ((with_reducible refine gate_dst (N:=10) rfl ?_);refine box_event ?hg (N:=10) ?hd (cs:=#[.int .i64 0,.int .i64 0,.int .i64 0]) (t:=59) ?hr ?_;(case hd=>rfl);(case hg=>rfl);(case hr=>first | (go_simp;done) | (go_simp;rfl));intro gb416 hg w42 hbox hb;have n0_:=zad (Kd.V_below (Kd.V_elderB (tabg) gb416 (Nat.le_of_eq hg.symm)) hb);have n1_:=zad (zbx (Kd.R_elderB (taaj) gb416 (Nat.le_of_eq hg.symm)) hb);have n2_:=zad (zbi (taaa) hb);have n3_:=zad (hbox);have n4_:=zad ((tahi:w.heap.size≤gb416));have n5_:=zad ((tahi:w.heap.size≤gb416));clear HO_0 HO_7 HB;have HO_0:=n0_;have HO_7:=n1_;have HB:=n2_;have BK416:=n3_;have GW416:=n4_;have GE416:=n5_;clear n0_ n1_ n2_ n3_ n4_ n5_ hb hbox hg;have hcz43_0:w42.cell? ⟨gb416,0,none⟩=some (.int .i64 0):=(zbm BK416.out 0).trans rfl;have hcz43_1:w42.cell? ⟨gb416,1,none⟩=some (.int .i64 0):=(zbm BK416.out 1).trans rfl;have hcz43_2:w42.cell? ⟨gb416,2,none⟩=some (.int .i64 0):=(zbm BK416.out 2).trans rfl;have hfz43_0:=zbn BK416.out 0;have hfz43_1:=zbn BK416.out 1;have hfz43_2:=zbn BK416.out 2))
                     have n0_:Aside0 (Kd.V (Kd.int .i64) 3 (((w42.setCell ⟨gb416,0,none⟩ (.int .i64 x9_3)).setCell ⟨gb416,1,none⟩ (.int .i64 x8_2)).setCell ⟨gb416,2,none⟩ (.int .i64 1)) w.heap.size (fun k_=>(P0_ k_∨w.heap.size≤k_)∧some k_≠(u7:Value).ownBlock∧k_≠gb416) (.slice (some ad412) x0_1.length co9) x0_1):=⟨tago⟩;have n1_:Aside0 (Kd.R k59 59 (((w42.setCell ⟨gb416,0,none⟩ (.int .i64 x9_3)).setCell ⟨gb416,1,none⟩ (.int .i64 x8_2)).setCell ⟨gb416,2,none⟩ (.int .i64 1)) w.heap.size (fun k_=>(w.heap.size≤k_)∧k_≠gb416) u7 x7_1):=⟨tagp⟩;have n2_:Aside0 ((((w42.setCell ⟨gb416,0,none⟩ (.int .i64 x9_3)).setCell ⟨gb416,1,none⟩ (.int .i64 x8_2)).setCell ⟨gb416,2,none⟩ (.int .i64 1)).heap[gb416]? = some (.cells #[.int .i64 x9_3,.int .i64 x8_2,.int .i64 1] 59 (0,0))):=⟨tagq⟩;have n3_:Aside0 (Below w.heap.size w (((w42.setCell ⟨gb416,0,none⟩ (.int .i64 x9_3)).setCell ⟨gb416,1,none⟩ (.int .i64 x8_2)).setCell ⟨gb416,2,none⟩ (.int .i64 1))):=⟨taaq⟩;(try clear HO_0);(try clear HO_7);(try clear BK416);(try clear HB);generalize (((w42.setCell ⟨gb416,0,none⟩ (.int .i64 x9_3)).setCell ⟨gb416,1,none⟩ (.int .i64 x8_2)).setCell ⟨gb416,2,none⟩ (.int .i64 1))=w44 at n0_ n1_ n2_ n3_ ⊢
                     have HO_0:=n0_;have HO_7:=n1_;have BK416:=n2_;have HB:=n3_;clear n0_ n1_ n2_ n3_;have n0_:=zad (zbe HO_0.out);have n1_:=zad (zak HO_7.out);have n2_:=zad (blk_drew BK416.out);have n3_:=zad (zaf HB.out);clear HO_0 HO_7 BK416 HB;have HO_0:=n0_;have HO_7:=n1_;have BK416:=n2_;have HB:=n3_;clear n0_ n1_ n2_ n3_;have p426:0≤(x9_3:Int):=zas (taab);have q426:x9_3<(x0_1.length:Int):=zas (taab);obtain ⟨ad426,e426,hx426_0⟩:=zca (Kd.V_reads' HO_0.out).2.2 x9_3 p426 q426;obtain rfl:ad412=ad426:=(by injection e426);replace p426:=eq_true p426;replace q426:=eq_true q426;have p427:0≤(x9_3:Int):=zas (taab);have q427:x9_3<(l1.length:Int):=zas (taab);obtain ⟨ad427,e427,hx427_0⟩:=zca HR1.out x9_3 p427 q427;have hw427_0:=hx427_0;obtain rfl:ad413=ad427:=(by injection e427);replace hx427_0:=(HB.out.cell (zaz w _ hx427_0)).trans hx427_0;replace p427:=eq_true p427;replace q427:=eq_true q427;have p428:0≤(x8_2:Int):=zas (taab);have q428:x8_2<(l1.length:Int):=zas (taab);obtain ⟨ad428,e428,hx428_0⟩:=zca HR1.out x8_2 p428 q428;have hw428_0:=hx428_0;obtain rfl:ad413=ad428:=(by injection e428);replace hx428_0:=(HB.out.cell (zaz w _ hx428_0)).trans hx428_0;replace p428:=eq_true p428;replace q428:=eq_true q428;have p429:0≤(x8_2:Int):=zas (taab);have q429:x8_2<(x0_1.length:Int):=zas (taab);obtain ⟨ad429,e429,hx429_0⟩:=zca (Kd.V_reads' HO_0.out).2.2 x8_2 p429 q429;obtain rfl:ad412=ad429:=(by injection e429);replace p429:=eq_true p429;replace q429:=eq_true q429;refine start_ (n:=21) (S:=fun w'=>w'.cell? (ad412.add (x9_3).toNat)=some (.int .i64 (rd x0_1 x9_3))∧w'.cell? (ad413.add (x9_3).toNat)=some (.int .i64 (rd l1 x9_3))∧w'.cell? (ad413.add (x8_2).toNat)=some (.int .i64 (rd l1 x8_2))∧w'.cell? (ad412.add (x8_2).toNat)=some (.int .i64 (rd x0_1 x8_2))) (ds:=[]) #[false,false,false,false,false,false,false,false,false,false,false,false,false,false,false,false,false,false,false,false,false] (by kernel_rfl) rfl rfl ⟨hx426_0,((HB.out.cell (zaz w _ hw427_0)).trans hw427_0),((HB.out.cell (zaz w _ hw428_0)).trans hw428_0),hx429_0⟩ (fun hHeld => ?_);refine with_tabW impl_path.tab11 impl_path.bits11 (fun HT_ HW_ => ?_)
                     generalize w44.drew=w45 at HO_0 HO_7 BK416 HB hx426_0 hx427_0 hx428_0 hx429_0 hHeld ⊢
                     refine puA 0 (some 44) qagg_ ?_;refine puA 1 (some 45) qagh_ ?_;refine puA 2 (some 46) qagi_ ?_;refine puA 4 (some 48) qagj_ ?_;refine puA 5 (some 49) qagk_ ?_;refine puA 6 (some 50) qagl_ ?_;refine puA 9 (some 53) qagm_ ?_;refine puA 10 (some 54) qagn_ ?_;refine puA 11 (some 55) qago_ ?_;refine puA 13 (some 57) qagp_ ?_;refine puA 14 (some 58) qagq_ ?_;refine puA 15 (some 59) qagr_ ?_;refine tkA 3 (some 47) qaha_ rfl rfl (by rintro w' ⟨s0,s1,s2,s3⟩;go_simp;with_reducible rfl) hHeld ?_;refine tkA 7 (some 51) qahb_ rfl rfl (by rintro w' ⟨s0,s1,s2,s3⟩;go_simp;with_reducible rfl) hHeld ?_;refine puA 8 (some 52) qags_ ?_;refine tkA 12 (some 56) qahc_ rfl rfl (by rintro w' ⟨s0,s1,s2,s3⟩;go_simp;with_reducible rfl) hHeld ?_;refine tkA 16 (some 60) qahd_ rfl rfl (by rintro w' ⟨s0,s1,s2,s3⟩;go_simp;with_reducible rfl) hHeld ?_;refine puA 17 (some 61) qagt_ ?_;refine puA 18 (some 62) qagu_ ?_;refine puA 19 (some 63) qagv_ ?_;refine one_ (i:=20) (N:=none) #[true,true,true,true,true,true,true,true,true,true,true,true,true,true,true,true,true,true,true,true,true] rfl rfl (one_of HT_.out (by kernel_rfl)) (by decide) (fun K hK => ?_)
                     have hs46:w45.cell? ⟨gb416,2,none⟩=some (.int .i64 1):=(zbm BK416.out 2).trans rfl;have hfs46:=zbn BK416.out 2;refine skip_ (w1 := ?_) (by rfl) rfl ?_ ?_
                     rotate_left
                     ·go_simp
                      rfl
                     refine hK.out _ _ ⟨((cell_far (p:=⟨gb416,_,none⟩) (tahn) _).trans (hHeld.1)),((cell_far (p:=⟨gb416,_,none⟩) (by first | exact Nat.ne_of_lt (Nat.lt_of_lt_of_le (tadk) GW416.out) | (rw [add_block];exact Nat.ne_of_lt (Nat.lt_of_lt_of_le (tadk) GW416.out)) | (show (Addr.add _ _).block≠_;rw [add_block];exact Nat.ne_of_lt (Nat.lt_of_lt_of_le (tadk) GW416.out)) | (dsimp only;exact Nat.ne_of_lt (Nat.lt_of_lt_of_le (tadk) GW416.out))) _).trans (hHeld.2.1)),((cell_far (p:=⟨gb416,_,none⟩) (by first | exact Nat.ne_of_lt (Nat.lt_of_lt_of_le (tadl) GW416.out) | (rw [add_block];exact Nat.ne_of_lt (Nat.lt_of_lt_of_le (tadl) GW416.out)) | (show (Addr.add _ _).block≠_;rw [add_block];exact Nat.ne_of_lt (Nat.lt_of_lt_of_le (tadl) GW416.out)) | (dsimp only;exact Nat.ne_of_lt (Nat.lt_of_lt_of_le (tadl) GW416.out))) _).trans (hHeld.2.2.1)),((cell_far (p:=⟨gb416,_,none⟩) (tahn) _).trans (hHeld.2.2.2))⟩ (fun hHeld => ?_)
                     clear hK K;refine done_ (done_of HT_.out (by kernel_rfl)) ?_
                     try go_wp2
                     have n0_:Aside0 (Kd.V (Kd.int .i64) 3 (w45.setCell ⟨gb416,2,none⟩ (.int .i64 ji37)) w.heap.size (fun k_=>(P0_ k_∨w.heap.size≤k_)∧some k_≠(u7:Value).ownBlock∧k_≠gb416) (.slice (some ad412) x0_1.length co9) x0_1):=⟨by (with_reducible repeat (first | apply zbc | apply zbd | apply zbe));exact Kd.V_mono (Kd.V_far (p:=⟨gb416,2,none⟩) (Kd.V_mono HO_0.out (fun k_ hk=>(⟨hk,hk.2.2⟩:_∧k_≠gb416))) (fun _ hk=>hk.2) (.int .i64 ji37)) (fun _ hk=>⟨hk.1.1,⟨hk.1.2.1,hk.1.2.2⟩⟩)⟩;have n1_:Aside0 (Kd.R k59 59 (w45.setCell ⟨gb416,2,none⟩ (.int .i64 ji37)) w.heap.size (fun k_=>(w.heap.size≤k_)∧k_≠gb416) u7 x7_1):=⟨by (with_reducible repeat (first | apply zai | apply zaj | apply zak));exact zbu (Kd.R_far (p:=⟨gb416,2,none⟩) (zbu HO_7.out (fun k_ hk=>(⟨hk,hk.2⟩:_∧k_≠gb416))) (fun _ hk=>hk.2) (.int .i64 ji37)) (fun _ hk=>⟨hk.1.1,hk.1.2⟩)⟩;have n2_:Aside0 ((w45.setCell ⟨gb416,2,none⟩ (.int .i64 ji37)).heap[gb416]? = some (.cells #[.int .i64 x9_3,.int .i64 x8_2,.int .i64 ji37] 59 (0,0))):=⟨by (with_reducible repeat (first | refine blk_drewN ?_ _ | refine blk_drew ?_ | refine blk_alloc ?_ _));refine blk_put (cs:=#[.int .i64 x9_3,.int .i64 x8_2,.int .i64 1]) ?_ 2 _ rfl;(with_reducible repeat (first | refine blk_drewN ?_ _ | refine blk_drew ?_ | refine blk_alloc ?_ _));exact BK416.out⟩;have n3_:Aside0 (Below w.heap.size w (w45.setCell ⟨gb416,2,none⟩ (.int .i64 ji37))):=⟨taaq⟩;(try clear HO_0);(try clear HO_7);(try clear BK416);(try clear HB);generalize (w45.setCell ⟨gb416,2,none⟩ (.int .i64 ji37))=w47 at n0_ n1_ n2_ n3_ ⊢
                     have HO_0:=n0_;have HO_7:=n1_;have BK416:=n2_;have HB:=n3_;clear n0_ n1_ n2_ n3_;have n0_:=zad (zbe HO_0.out);have n1_:=zad (zak HO_7.out);have n2_:=zad (blk_drew BK416.out);have n3_:=zad (zaf HB.out);clear HO_0 HO_7 BK416 HB;have HO_0:=n0_;have HO_7:=n1_;have BK416:=n2_;have HB:=n3_;clear n0_ n1_ n2_ n3_;refine start_ (n:=10) (S:=fun w'=>w'.cell? ⟨gb416,0,none⟩=some (.int .i64 x9_3)∧w'.cell? ⟨gb416,1,none⟩=some (.int .i64 x8_2)∧w'.cell? ⟨gb416,2,none⟩=some (.int .i64 ji37)) (ds:=[]) #[false,false,false,false,false,false,false,false,false,false] (by kernel_rfl) rfl rfl ⟨(zbm BK416.out 0).trans rfl,(zbm BK416.out 1).trans rfl,(zbm BK416.out 2).trans rfl⟩ (fun hHeld => ?_);refine with_tabW impl_path.tab12 impl_path.bits12 (fun HT_ HW_ => ?_)
                     generalize w47.drew=w48 at HO_0 HO_7 BK416 HB hHeld ⊢
                     refine puA 0 (some 64) qaai_ ?_;refine puA 4 (some 68) qage_ ?_;refine tkA 1 (some 65) qagy_ rfl rfl (by rintro w' ⟨s0,s1,s2⟩;go_simp;with_reducible rfl) hHeld ?_;refine tkA 5 (some 69) qagz_ rfl rfl (by rintro w' ⟨s0,s1,s2⟩;go_simp;with_reducible rfl) hHeld ?_;refine one_ (i:=2) (N:=some 66) #[true,true,true,false,true,true,false,false,false,false] rfl rfl (one_of HT_.out (by kernel_rfl)) (by decide) (fun K hK => ?_)
                     refine value_ (w1 := ?_) (v := ?_) (by rfl) rfl ?_ ?_
                     rotate_left 2
                     ·go_simp
                      constructor
                      ·rfl
                      ·rfl
                     refine hK.out _ _ ⟨(zbm (blk_alloc BK416.out _) 0).trans rfl,(zbm (blk_alloc BK416.out _) 1).trans rfl,(zbm (blk_alloc BK416.out _) 2).trans rfl⟩ (fun hHeld => ?_)
                     clear hK K;refine norm_ (a' := ?_) ?_ ?_
                     rotate_left
                     ·show Act.put _ (some 66) _=_
                      simp only [Act.put,zaa,zab,zac,i64_w,i32_w];rfl
                     refine one_ (i:=3) (N:=some 67) #[true,true,true,true,true,true,false,false,false,false] rfl rfl (one_of HT_.out (by kernel_rfl)) (by decide) (fun K hK => ?_)
                     refine Kd.R_append_step k59 (w0:=w) w.heap.size (by rfl) (.tmp 64) (.tmp 66) 30 59 (.agg #[(.int .i64 0),(.int .i64 0),(.int .i64 0)]) 24 rfl Tryz.underlying30 info59 rfl (by decide) (by omega) u7 x7_1 (⟨x9_3,x8_2,ji37⟩:S59) [.int .i64 x9_3,.int .i64 x8_2,.int .i64 ji37] (fun k_=>(w.heap.size≤k_)∧k_≠gb416) (fun _=>False) rfl rfl ?aP (fun _ hk=>hk.elim) ?aF ?aO ?aB ?aS ?aL ?_
                     (case aP=>exact k59_mkM _ _ _ (⟨x9_3,x8_2,ji37⟩:S59))
                     (case aB=>exact (taaq))
                     (case aF=>exact (fun k_ hk=>⟨(Nat.le_trans (zbo (taaq)) hk),Kd.freshB (g:=gb416) (o := .cells #[.int .i64 x9_3,.int .i64 x8_2,.int .i64 ji37] 59 (0,0)) (tabm) k_ hk⟩))
                     (case aO=>exact (taaj))
                     (case aS=>exact (zbo (taaq)))
                     (case aL=>have:=LMc38.out;omega)
                     intro v431 w49 ho hb hg hat
                     rw [← Ny430.out] at ho
                     have n0_:=zad (Kd.V_afterv (ok:=(fun k_=>(P0_ k_∨w.heap.size≤k_)∧k_≠gb416)) (tagr) hg hat);have n1_:=zad (blk_grown (g:=gb416) (o := .cells #[.int .i64 x9_3,.int .i64 x8_2,.int .i64 ji37] 59 (0,0)) (tabm) hg (Kd.R_away HO_7.out (fun _ hk=>hk.2)));have n2_:=zad (hb);have n3_:=zad (ho);clear HO_0 BK416 HB HO_7;have HO_0:=n0_;have BK416:=n1_;have HB:=n2_;have HO432:=n3_;clear n0_ n1_ n2_ n3_ ho hb hg hat;refine hK.out _ _ ⟨(zbm BK416.out 0).trans rfl,(zbm BK416.out 1).trans rfl,(zbm BK416.out 2).trans rfl⟩ (fun hHeld => ?_)
                     clear hK K;refine norm_ (a' := ?_) ?_ ?_
                     rotate_left
                     ·show Act.put _ (some 67) _=_
                      simp only [Act.put,zaa,zab,zac,i64_w,i32_w];rfl
                     refine one_ (i:=6) (N:=some 70) #[true,true,true,true,true,true,true,false,false,false] rfl rfl (one_of HT_.out (by kernel_rfl)) (by decide) (fun K hK => ?_)
                     refine goes_ Tryz.func65 (by kernel_rfl) rfl #[.slice (some ad412) x0_1.length co9,.agg #[.int .i64 x9_3,.int .i64 x8_2,.int .i64 ji37]] (by rfl) rfl rfl (by (try simp only [zat,zau,zav]);first | done | (simp only [hji37];rfl) | rfl | (simp only [zaw,zax];rfl)) ?_
                     with_reducible refine (impl_given.calls _ _ x0_1 x9_3 x8_2 ji37 t433 _ ?side1 ?side2 A39.out).mono ?_
                     (case side1=>exact taif)
                     (case side2=>exact taig)
                     rintro e w50 ⟨v434,rfl,ho0,hb⟩
                     refine ⟨_,rfl,?_⟩
                     have n0_:=zad (Kd.V_elder' (tabg) (zcd ho0) hb);have n1_:=zad (zbx (tagv) hb);have n2_:=zad (zby (Kd.R_newM (M:=fun k_=>(w.heap.size≤k_)) ho0 (zbo (taaq)) (fun k_ h_=>h_)) (zbo (taaq)));have n3_:=zad (blk_below (g:=gb416) (o := .cells #[.int .i64 x9_3,.int .i64 x8_2,.int .i64 ji37] 59 (0,0)) (tabm) hb);have n4_:=zad (zbi (taaq) hb);clear HO_0 HO432 BK416 HB;have HO_0:=n0_;have HO432:=n1_;have HO435:=n2_;have BK416:=n3_;have HB:=n4_;clear n0_ n1_ n2_ n3_ n4_;(try clear hb);(try clear hb2);(try clear hk);(try clear hi);(try clear ho0);obtain ⟨Ao51,co51,eo51⟩:=zbz HO435.out;(first | subst eo51 | (injection eo51 with f1_ f2_ f3_;have f4_:=f1_.symm;have f5_:=f3_.symm;clear f1_ f2_ f3_;subst f4_;subst f5_))
                     refine hK.out _ _ ⟨(zbm BK416.out 0).trans rfl,(zbm BK416.out 1).trans rfl,(zbm BK416.out 2).trans rfl⟩ (fun hHeld => ?_)
                     clear hK K;refine norm_ (a' := ?_) ?_ ?_
                     rotate_left
                     ·show Act.put _ (some 70) _=_
                      simp only [Act.put,zaa,zab,zac,i64_w,i32_w];rfl
                     refine one_ (i:=7) (N:=some 71) #[true,true,true,true,true,true,true,true,false,false] rfl rfl (one_of HT_.out (by kernel_rfl)) (by decide) (fun K hK => ?_)
                     refine goes_ Tryz.func22 (by kernel_rfl) rfl #[.slice Ao51 t433.length co51] (by rfl) rfl rfl (taac) ?_
                     with_reducible refine (impl_ranking.calls _ _ t433 t436 _ ?side1 ?side2 A40.out).mono ?_
                     (case side1=>repeat (first | exact (zbh HO435.out).2.2 | (with_reducible refine zal ?_ _) | (with_reducible refine zam ?_ _) | (with_reducible refine zan ?_)))
                     (case side2=>exact (zbh HO435.out).2.1)
                     rintro e w52 ⟨v437,rfl,ho0,hb⟩
                     refine ⟨_,rfl,?_⟩
                     have n0_:=zad (Kd.V_elder' (tabg) (zcd ho0) hb);have n1_:=zad (zbx (tagv) hb);have n2_:=zad (zcb (tagw) (zcd ho0) hb);have n3_:=zad (zby (zcc (Kd.R_newM (M:=fun k_=>(w.heap.size≤k_)) ho0 (zbo (taaq)) (fun k_ h_=>h_)) (zce (tagw))) (zbo (taaq)));have n4_:=zad (blk_below (g:=gb416) (o := .cells #[.int .i64 x9_3,.int .i64 x8_2,.int .i64 ji37] 59 (0,0)) (tabm) hb);have n5_:=zad (zbi (taaq) hb);clear HO_0 HO432 HO435 BK416 HB;have HO_0:=n0_;have HO432:=n1_;have HO435:=n2_;have HO438:=n3_;have BK416:=n4_;have HB:=n5_;clear n0_ n1_ n2_ n3_ n4_ n5_;(try clear hb);(try clear hb2);(try clear hk);(try clear hi);(try clear ho0);refine hK.out _ _ ⟨(zbm BK416.out 0).trans rfl,(zbm BK416.out 1).trans rfl,(zbm BK416.out 2).trans rfl⟩ (fun hHeld => ?_)
                     clear hK K;refine norm_ (a' := ?_) ?_ ?_
                     rotate_left
                     ·show Act.put _ (some 71) _=_
                      simp only [Act.put,zaa,zab,zac,i64_w,i32_w];rfl
                     refine puA 8 (some 7) qaan_ ?_;refine puA 9 (some 0) qagf_ ?_;refine done_ (done_of HT_.out (by kernel_rfl)) ?_
                     try go_wp2
                     go_roundg k3
                     case measure=>have:=HK1.out;have:=HK2.out;have:=HK3.out;omega
                     case rel=>exact ⟨(t436),(y430),H',⟨taep⟩,⟨Kd.V_mono (Kd.R_V (by (with_reducible repeat (first | apply zai | apply zaj | apply zak));exact (Kd.R_apart' HO438.out (Kd.R_typed HO432.out) (by decide)))) (fun k_ hk0=>tagu)⟩,⟨by (with_reducible repeat (first | apply zai | apply zaj | apply zak));exact zbu HO432.out (fun _ hk=>hk.1)⟩,⟨taaq⟩⟩
                    ·rw [if_neg c38] at H
                     exact absurd H (taad)
                   ·rw [if_neg c36] at H
                    exact absurd H (taad)
                  ·rw [if_neg c35] at H
                   exact absurd H (taad)
                 ·rw [if_neg c34] at H
                  exact absurd H (taad)
              ·rw [if_neg c18] at H
               exact absurd H (taad)
             ·rw [if_neg c17] at H
              exact absurd H (taad)
            ·rw [if_neg c16] at H
             exact absurd H (taad)
        ·rw [if_neg c12] at H
         exact absurd H (taad)
       ·rw [if_neg c11] at H
        exact absurd H (taad)
      ·rw [if_neg c10] at H
       exact absurd H (taad)
def impl_GiftPath.f (k:Nat) (l0:List Int) (l1:List Int):Option ((List (S59)) × Bool):=(impl_isBetween.f k l0 l1).bind fun t439=>(if t439=true then ((impl_ranking.f l1).bind fun t440=>((impl_ranking.f l0).bind fun t443=>((impl_path.f k t440 t443 true).bind fun t446=>(some (t446,true))))) else (some (([]:List (S59)),false)))
theorem impl_GiftPath.calls (k:Nat) (A0:Option Addr) (c0:Nat) (l0:List Int) (A1:Option Addr) (c1:Nat) (l1:List Int) (r1:List (S59)) (r2:Bool) (w:World) (hr0:Kd.C (Kd.int .i64) w A0 l0.length l0) (hc0:l0.length≤c0) (hr1:Kd.C (Kd.int .i64) w A1 l1.length l1) (hc1:l1.length≤c1) (h:impl_GiftPath.f k l0 l1=some (r1,r2)) :
 Calls Tryz.prog 31 #[.slice A0 l0.length c0,.slice A1 l1.length c1] w fun e w'=>∃ v0_:Value,e = .returned (.tuple #[v0_,.bool r2])∧Kd.R k59 59 w' w.heap.size (fun _=>True) v0_ r1∧Below w.heap.size w w':=by
 have HR0:=zad hr0;have HC0:=zad hc0;clear hr0 hc0;have HR1:=zad hr1;have HC1:=zad hc1;clear hr1 hc1;have HB:=zad (Below.refl w.heap.size w);have H:((impl_isBetween.f k l0 l1).bind fun t439=>(if t439=true then ((impl_ranking.f l1).bind fun t440=>((impl_ranking.f l0).bind fun t443=>((impl_path.f k t440 t443 true).bind fun t446=>(some (t446,true))))) else (some (([]:List (S59)),false))))=some (r1,r2):=h;clear h;replace H:=zay.mp H;obtain ⟨t439,A30,H⟩:=H;replace H:(if t439=true then ((impl_ranking.f l1).bind fun t440=>((impl_ranking.f l0).bind fun t443=>((impl_path.f k t440 t443 true).bind fun t446=>(some (t446,true))))) else (some (([]:List (S59)),false)))=some (r1,r2):=H;have A3:=zad A30;clear A30;by_cases c4:t439=true
 ·subst c4
  have H1:((impl_ranking.f l1).bind fun t440=>((impl_ranking.f l0).bind fun t443=>((impl_path.f k t440 t443 true).bind fun t446=>(some (t446,true)))))=some (r1,r2):=by rw [if_pos rfl] at H;exact H
  clear H;have H:=H1;clear H1;replace H:=zay.mp H;obtain ⟨t440,A50,H⟩:=H;replace H:((impl_ranking.f l0).bind fun t443=>((impl_path.f k t440 t443 true).bind fun t446=>(some (t446,true))))=some (r1,r2):=H;have A5:=zad A50;clear A50;replace H:=zay.mp H;obtain ⟨t443,A60,H⟩:=H;replace H:((impl_path.f k t440 t443 true).bind fun t446=>(some (t446,true)))=some (r1,r2):=H;have A6:=zad A60;clear A60;replace H:=zay.mp H;obtain ⟨t446,A70,H⟩:=H;replace H:(some (t446,true))=some (r1,r2):=H;have A7:=zad A70;clear A70;simp only [zbp,zbt] at H;obtain ⟨rfl,rfl⟩:=H;go_enter Tryz.func31,Tryz.ntmps31;go_wp2_with (first | ((with_reducible refine zbj (f:=20) rfl ?_);refine zbr (some 8) rfl rfl Tryz.func20 (by kernel_rfl) rfl #[.slice A0 l0.length c0,.slice A1 l1.length c1] rfl (taac) ?_;(with_reducible refine (impl_isBetween.calls k _ _ l0 _ _ l1 true _ ?side1 ?side2 ?side3 ?side4 A3.out).mono ?_);(case side1=>repeat (first | exact HR0.out | (with_reducible refine zal ?_ _) | (with_reducible refine zam ?_ _) | (with_reducible refine zan ?_)));(case side2=>exact HC0.out);(case side3=>repeat (first | exact HR1.out | (with_reducible refine zal ?_ _) | (with_reducible refine zam ?_ _) | (with_reducible refine zan ?_)));(case side4=>exact HC1.out);rintro e w8 ⟨rfl,hb⟩;refine ⟨_,rfl,?_⟩;have n0_:=zad (zbi (taaa) hb);clear HB;have HB:=n0_;clear n0_;(try clear hb);(try clear hb2);(try clear hk);(try clear hi)) | ((with_reducible refine zbj (f:=22) rfl ?_);refine zbr (some 11) rfl rfl Tryz.func22 (by kernel_rfl) rfl #[.slice A1 l1.length c1] rfl (taac) ?_;(with_reducible refine (impl_ranking.calls _ _ l1 t440 _ ?side1 ?side2 A5.out).mono ?_);(case side1=>repeat (first | exact (Kd.C_below HR1.out HB.out) | (with_reducible refine zal ?_ _) | (with_reducible refine zam ?_ _) | (with_reducible refine zan ?_)));(case side2=>exact HC1.out);rintro e w9 ⟨v441,rfl,ho0,hb⟩;refine ⟨_,rfl,?_⟩;have n0_:=zad (zby ho0 (zbo (taaa)));have n1_:=zad (zbi (taaa) hb);clear HB;have HO442:=n0_;have HB:=n1_;clear n0_ n1_;(try clear hb);(try clear hb2);(try clear hk);(try clear hi);(try clear ho0)) | ((with_reducible refine zbj (f:=22) rfl ?_);refine zbr (some 13) rfl rfl Tryz.func22 (by kernel_rfl) rfl #[.slice A0 l0.length c0] rfl (taac) ?_;(with_reducible refine (impl_ranking.calls _ _ l0 t443 _ ?side1 ?side2 A6.out).mono ?_);(case side1=>repeat (first | exact (Kd.C_below HR0.out HB.out) | (with_reducible refine zal ?_ _) | (with_reducible refine zam ?_ _) | (with_reducible refine zan ?_)));(case side2=>exact HC0.out);rintro e w10 ⟨v444,rfl,ho0,hb⟩;refine ⟨_,rfl,?_⟩;have n0_:=zad (zcb (taeq) (zcd ho0) hb);have n1_:=zad (zby (zcc ho0 (zce (taeq))) (zbo (taaa)));have n2_:=zad (zbi (taaa) hb);clear HO442 HB;have HO442:=n0_;have HO445:=n1_;have HB:=n2_;clear n0_ n1_ n2_;(try clear hb);(try clear hb2);(try clear hk);(try clear hi);(try clear ho0);obtain ⟨Ao11,co11,eo11⟩:=zbz HO442.out;subst eo11;obtain ⟨Ao12,co12,eo12⟩:=zbz HO445.out;subst eo12) | ((with_reducible refine zbj (f:=72) rfl ?_);refine zbr (some 14) rfl rfl Tryz.func72 (by kernel_rfl) rfl #[.slice Ao11 t440.length co11,.slice Ao12 t443.length co12,.bool true] rfl (taac) ?_;(with_reducible refine (impl_path.calls k (fun k_=>some k_=(.slice Ao11 t440.length co11:Value).ownBlock) _ _ t440 _ _ t443 true t446 _ ?side1 ?side2 ?side3 A7.out).mono ?_);(case side1=>exact Kd.R_V (Kd.R_tight rfl (HO442.out)));(case side2=>repeat (first | exact (zbh HO445.out).2.2 | (with_reducible refine zal ?_ _) | (with_reducible refine zam ?_ _) | (with_reducible refine zan ?_)));(case side3=>exact (zbh HO445.out).2.1);rintro e w13 ⟨v447,rfl,ho0,hb⟩;refine ⟨_,rfl,?_⟩;have n0_:=zad (zbx (taeq) hb);have n1_:=zad (zbx (by (with_reducible repeat (first | apply zai | apply zaj | apply zak));exact HO445.out) hb);have n2_:=zad (zby (zbu (ok':=fun k_=>True) ho0 (fun _ hk_=>trivial)) (zbo (taaa)));have n3_:=zad (zbi (taaa) hb);clear HO442 HO445 HB;have HO442:=n0_;have HO445:=n1_;have HO448:=n2_;have HB:=n3_;clear n0_ n1_ n2_ n3_;(try clear hb);(try clear hb2);(try clear hk);(try clear hi);(try clear ho0)))
  go_ret2
  exact ⟨_,taah,by (with_reducible repeat (first | apply zai | apply zaj | apply zak));exact HO448.out,taaa⟩
 ·replace c4:=zbk.mpr c4
  subst c4;have H1:(some (([]:List (S59)),false))=some (r1,r2):=by rw [if_neg (show ¬ (false=true) by decide)] at H;exact H
  clear H;have H:=H1;clear H1;simp only [zbp,zbt] at H;obtain ⟨rfl,rfl⟩:=H;go_enter Tryz.func31,Tryz.ntmps31;go_wp2_with (first | ((with_reducible refine zbj (f:=20) rfl ?_);refine zbr (some 8) rfl rfl Tryz.func20 (by kernel_rfl) rfl #[.slice A0 l0.length c0,.slice A1 l1.length c1] rfl (taac) ?_;(with_reducible refine (impl_isBetween.calls k _ _ l0 _ _ l1 false _ ?side1 ?side2 ?side3 ?side4 A3.out).mono ?_);(case side1=>exact tahq);(case side2=>exact HC0.out);(case side3=>exact tahu);(case side4=>exact HC1.out);rintro e w14 ⟨rfl,hb⟩;refine ⟨_,rfl,?_⟩;have n0_:=zad (zbi (taaa) hb);clear HB;have HB:=n0_;clear n0_;(try clear hb);(try clear hb2);(try clear hk);(try clear hi)))
  go_ret2
  exact ⟨_,taah,taaz,taaa⟩
def impl_LevelOff.f (k:Nat) (l0:List Int):Option ((List (S59)) × Bool):=(impl_IsList.f k l0).bind fun t458=>(if t458=true then ((impl_total.f k l0).bind fun t459=>((impl_mostEven.f k (l0.length:Int) t459).bind fun t460=>((impl_GiftPath.f k t460 l0).bind fun bt463=>(some (bt463.1,bt463.2))))) else (some (([]:List (S59)),false)))
theorem impl_LevelOff.calls (k:Nat) (A0:Option Addr) (c0:Nat) (l0:List Int) (r1:List (S59)) (r2:Bool) (w:World) (hr0:Kd.C (Kd.int .i64) w A0 l0.length l0) (hc0:l0.length≤c0) (h:impl_LevelOff.f k l0=some (r1,r2)) :
 Calls Tryz.prog 9 #[.slice A0 l0.length c0] w fun e w'=>∃ v0_:Value,e = .returned (.tuple #[v0_,.bool r2])∧Kd.R k59 59 w' w.heap.size (fun _=>True) v0_ r1∧Below w.heap.size w w':=by
 have HR0:=zad hr0;have HC0:=zad hc0;clear hr0 hc0;have HB:=zad (Below.refl w.heap.size w);have H:((impl_IsList.f k l0).bind fun t458=>(if t458=true then ((impl_total.f k l0).bind fun t459=>((impl_mostEven.f k (l0.length:Int) t459).bind fun t460=>((impl_GiftPath.f k t460 l0).bind fun bt463=>(some (bt463.1,bt463.2))))) else (some (([]:List (S59)),false))))=some (r1,r2):=h;clear h;replace H:=zay.mp H;obtain ⟨t458,A20,H⟩:=H;replace H:(if t458=true then ((impl_total.f k l0).bind fun t459=>((impl_mostEven.f k (l0.length:Int) t459).bind fun t460=>((impl_GiftPath.f k t460 l0).bind fun bt463=>(some (bt463.1,bt463.2))))) else (some (([]:List (S59)),false)))=some (r1,r2):=H;have A2:=zad A20;clear A20;by_cases c3:t458=true
 ·subst c3
  have H1:((impl_total.f k l0).bind fun t459=>((impl_mostEven.f k (l0.length:Int) t459).bind fun t460=>((impl_GiftPath.f k t460 l0).bind fun bt463=>(some (bt463.1,bt463.2)))))=some (r1,r2):=by rw [if_pos rfl] at H;exact H
  clear H;have H:=H1;clear H1;replace H:=zay.mp H;obtain ⟨t459,A40,H⟩:=H;replace H:((impl_mostEven.f k (l0.length:Int) t459).bind fun t460=>((impl_GiftPath.f k t460 l0).bind fun bt463=>(some (bt463.1,bt463.2))))=some (r1,r2):=H;have A4:=zad A40;clear A40;replace H:=zay.mp H;obtain ⟨t460,A50,H⟩:=H;replace H:((impl_GiftPath.f k t460 l0).bind fun bt463=>(some (bt463.1,bt463.2)))=some (r1,r2):=H;have A5:=zad A50;clear A50;replace H:=zay.mp H;obtain ⟨⟨t463,t464⟩,A60,H⟩:=H;replace H:(some (t463,t464))=some (r1,r2):=H;have A6:=zad A60;clear A60;simp only [zbp,zbt] at H;obtain ⟨rfl,rfl⟩:=H;go_enter Tryz.func9,Tryz.ntmps9;go_wp2_with (first | ((with_reducible refine zbj (f:=30) rfl ?_);refine zbr (some 5) rfl rfl Tryz.func30 (by kernel_rfl) rfl #[.slice A0 l0.length c0] rfl (taac) ?_;(with_reducible refine (impl_IsList.calls k _ _ l0 true _ ?side1 ?side2 A2.out).mono ?_);(case side1=>exact tahq);(case side2=>exact HC0.out);rintro e w' ⟨rfl,⟨nd,rfl⟩⟩;refine ⟨_,rfl,?_⟩) | ((with_reducible refine zbj (f:=21) rfl ?_);refine zbr (some 10) rfl rfl Tryz.func21 (by kernel_rfl) rfl #[.slice A0 l0.length c0] rfl (taac) ?_;(with_reducible refine (impl_total.calls k _ _ l0 t459 _ ?side1 ?side2 A4.out).mono ?_);(case side1=>exact tahq);(case side2=>exact HC0.out);rintro e w' ⟨rfl,⟨nd,rfl⟩⟩;refine ⟨_,rfl,?_⟩) | ((with_reducible refine zbj (f:=32) rfl ?_);refine zbr (some 11) rfl rfl Tryz.func32 (by kernel_rfl) rfl #[.int .i64 (l0.length:Int),.int .i64 t459] rfl (taac) ?_;(with_reducible refine (impl_mostEven.calls k (l0.length:Int) t459 t460 _ A5.out).mono ?_);rintro e w7 ⟨v461,rfl,ho0,hb⟩;refine ⟨_,rfl,?_⟩;have n0_:=zad (zby ho0 (zbo (taaa)));have n1_:=zad (zbi (taaa) hb);clear HB;have HO462:=n0_;have HB:=n1_;clear n0_ n1_;(try clear hb);(try clear hb2);(try clear hk);(try clear hi);(try clear ho0);obtain ⟨Ao8,co8,eo8⟩:=zbz HO462.out;subst eo8) | ((with_reducible refine zbj (f:=31) rfl ?_);refine zbr (some 13) rfl rfl Tryz.func31 (by kernel_rfl) rfl #[.slice Ao8 t460.length co8,.slice A0 l0.length c0] rfl (taac) ?_;(with_reducible refine (impl_GiftPath.calls k _ _ t460 _ _ l0 t463 t464 _ ?side1 ?side2 ?side3 ?side4 A6.out).mono ?_);(case side1=>repeat (first | exact (zbh HO462.out).2.2 | (with_reducible refine zal ?_ _) | (with_reducible refine zam ?_ _) | (with_reducible refine zan ?_)));(case side2=>exact (zbh HO462.out).2.1);(case side3=>exact tahr);(case side4=>exact HC0.out);rintro e w9 ⟨v465,rfl,ho0,hb⟩;refine ⟨_,rfl,?_⟩;have n0_:=zad (zbx (by (with_reducible repeat (first | apply zai | apply zaj | apply zak));exact HO462.out) hb);have n1_:=zad (zby ho0 (zbo (taaa)));have n2_:=zad (zbi (taaa) hb);clear HO462 HB;have HO462:=n0_;have HO466:=n1_;have HB:=n2_;clear n0_ n1_ n2_;(try clear hb);(try clear hb2);(try clear hk);(try clear hi);(try clear ho0)))
  go_ret2
  exact ⟨_,taah,by (with_reducible repeat (first | apply zai | apply zaj | apply zak));exact HO466.out,taaa⟩
 ·replace c3:=zbk.mpr c3
  subst c3;have H1:(some (([]:List (S59)),false))=some (r1,r2):=by rw [if_neg (show ¬ (false=true) by decide)] at H;exact H
  clear H;have H:=H1;clear H1;simp only [zbp,zbt] at H;obtain ⟨rfl,rfl⟩:=H;go_enter Tryz.func9,Tryz.ntmps9;go_wp2_with (first | ((with_reducible refine zbj (f:=30) rfl ?_);refine zbr (some 5) rfl rfl Tryz.func30 (by kernel_rfl) rfl #[.slice A0 l0.length c0] rfl (taac) ?_;(with_reducible refine (impl_IsList.calls k _ _ l0 false _ ?side1 ?side2 A2.out).mono ?_);(case side1=>exact tahq);(case side2=>exact HC0.out);rintro e w' ⟨rfl,⟨nd,rfl⟩⟩;refine ⟨_,rfl,?_⟩))
  go_ret2
  exact ⟨_,taah,taaz,taaa⟩
def stepG (x:List Int) (g:S59):List Int:=descL (giveL x g.f0 g.f1 g.f2)
def foll:List Int→List S59→Option (List (List Int))
 | _,[]=>some []
 | x,g :: p=>if kindB x g.f0 g.f1 g.f2=true then (foll (stepG x g) p).map (stepG x g :: ·) else none
def folA (L:List (List Int)) (o:Option (List (List Int))) (b:Bool):List (List Int) × Bool:=match o with
 | some M=>(L ++ M,b)
 | none=>([],false)
theorem folA_step (L:List (List Int)) (x:List Int) (g:S59) (p:List S59) (b:Bool) (h:kindB x g.f0 g.f1 g.f2=true):folA L (foll x (g :: p)) b=folA (L ++ [stepG x g]) (foll (stepG x g) p) b:=by
 have e:foll x (g :: p)=if kindB x g.f0 g.f1 g.f2=true then (foll (stepG x g) p).map (stepG x g :: ·) else none:=rfl;rw [e,if_pos h];cases foll (stepG x g) p with
 | none=>rfl
 | some M=>simp [folA]
theorem folA_none (L:List (List Int)) (x:List Int) (g:S59) (p:List S59) (b:Bool) (h:¬ kindB x g.f0 g.f1 g.f2=true):folA L (foll x (g :: p)) b=([],false):=by
 have e:foll x (g :: p)=if kindB x g.f0 g.f1 g.f2=true then (foll (stepG x g) p).map (stepG x g :: ·) else none:=rfl;rw [e,if_neg h];rfl
def FolInv (l1:List S59) (b:Bool) (r:List (List Int) × Bool) (g:Nat) (x9:Int) (x:List Int) (L:List (List Int)):Prop:=∃ i:Nat,x9=(i:Int)∧i≤l1.length∧l1.length - i≤g∧goodL x=true∧L.length≤i+1∧folA L (foll x (l1.drop i)) b=r
theorem kind_step {x:List Int} {f t a:Int} (hg:goodL x=true) (hk:kindB x f t a=true):impl_given.f x f t a=some (giveL x f t a)∧spec_giDo.f x f t a=some (giveL x f t a)∧goodL (giveL x f t a)=true:=by
 obtain ⟨hG,c1,c2⟩:=(kindB_iff x f t a).1 hk;obtain ⟨h1,h2,h3,h4⟩:=(isG_iff x f t a).1 hG;have b1:=rd_good hg h1.1 h1.2;have b2:=rd_good hg h2.1 h2.2;have hb:=(goodL_iff x).1 hg;refine ⟨given_can x f t a hg ((canB_iff x f t a).2 ⟨hG,by omega,by omega⟩),?_,kind_give x f t a hg hk⟩
 rw [giDo_eq x f t a (by omega) h1 h2 h3,w64 (x:=rd x f - a) (by omega) (by omega),w64 (x:=rd x t+a) (by omega) (by omega)];rfl
def impl_follow.f (l0:List Int) (l1:List S59):Option (List (List Int) × Bool):=if goodL l0=true∧l1.length≤1048576 then some (folA [descL l0] (foll (descL l0) l1) (decide ((l1.length:Int)≤240))) else none
theorem impl_follow.calls (A0:Option Addr) (c0:Nat) (l0:List Int) (A1:Option Addr) (c1:Nat) (l1:List S59) (r1:List (List Int)) (r2:Bool) (w:World) (hr0:Kd.C (Kd.int .i64) w A0 l0.length l0) (hc0:l0.length≤c0) (hr1:Kd.C k59 w A1 l1.length l1) (hc1:l1.length≤c1) (h:impl_follow.f l0 l1=some (r1,r2)) :
 Calls Tryz.prog 43 #[.slice A0 l0.length c0,.slice A1 l1.length c1] w fun e w'=>∃ v0_:Value,e = .returned (.tuple #[v0_,.bool r2])∧Kd.S (Kd.slice 3 (Kd.int .i64)) 24 w' w.heap.size (fun _=>True) v0_ r1∧Below w.heap.size w w':=by
 unfold impl_follow.f at h
 split at h
 next hs =>
  obtain ⟨hg0,hs1⟩:=hs;have hfin:=zbg h;clear h;have hu59:=Tryz.underlying59;have HR1:=zad hr1;have HC1:=zad hc1;have HR0:=zad hr0;have HC0:=zad hc0;have HB:=zad (Below.refl w.heap.size w);have hg0':goodL (descL l0)=true:=by rw [good_desc];exact hg0
  have hb0:=(goodL_iff l0).1 hg0;have hrk:=ranking_eq (good_sm hg0);have HRK:=zad hrk;generalize descL l0=x0 at HRK hg0' hfin
  have HINV:Aside0 (FolInv l1 (decide ((l1.length:Int)≤240)) (r1,r2) l1.length 0 x0 [x0]):=⟨0,rfl,Nat.zero_le _,by omega,hg0',taad,by rw [List.drop_zero];exact hfin⟩;have HS1:=zad hs1;clear hr0 hc0 hr1 hc1 hrk hg0' hfin hb0 hg0 hs1;go_enter Tryz.func43,Tryz.ntmps43;go_wp2_with (first | ((with_reducible refine zbj (f:=22) rfl ?_);refine zbr (some 11) rfl rfl Tryz.func22 (by kernel_rfl) rfl #[.slice A0 l0.length c0] rfl (taci) ?_;(with_reducible refine (impl_ranking.calls _ _ l0 x0 _ ?side1 ?side2 HRK.out).mono ?_);(case side1=>exact tahq);(case side2=>exact HC0.out);rintro e w1 ⟨v1,rfl,ho,hb⟩;refine ⟨_,rfl,?_⟩;have n0_:=zad (zby ho (zbo (taaa)));have n1_:=zad (zbi (taaa) hb);clear HB;have HN:=n0_;have HB:=n1_;clear n0_ n1_ ho hb;obtain ⟨A6,c6,e6⟩:=zbz HN.out;subst e6) | ((with_reducible refine gate_dst (N:=13) rfl ?_);refine Kd.S_lits (Kd.slice 3 (Kd.int .i64)) _ 24 ?hg (N:=13) ?hd (xs:=([x0]:List (List Int))) (inner:=[.slice A6 x0.length c6]) (ok:=fun _=>True) (fun j_ _=>j_=0) ?hr rfl ?hp (fun i_ j_ _ h1 h2=>h1.trans h2.symm) (fun _ _ _=>trivial) trivial (Below.refl _ _) (zbo (taaa)) (taad) ?_;(case hd=>rfl);(case hg=>rfl);(case hr=>first | (go_simp;done) | (go_simp;rfl));(case hp=>intro j_ x_ hx_;cases j_ with | zero=>(simp only [List.getElem?_cons_zero,zbp] at hx_;subst hx_;exact ⟨_,rfl,zbu (taer) (fun _ _=>rfl)⟩) | succ j_=>simp at hx_);intro v2 w2 ho hb hg_ hnew_;replace hb:=(fun {a b:World} (h:a.grownBy b none)=>(⟨h.os,h.tape,h.output,h.size,fun i hi=>h.block i hi (taad)⟩:Below a.heap.size a b)) hg_;have HSS:=zad ho;have n1_:=zad (Kd.R_grown (taer) hg_ (fun _ _=>taad));have n2_:=zad (zbi (taaa) hb);clear hg_ hnew_ ho hb HN HB;have HN:=n1_;have HB:=n2_;clear n1_ n2_))
  go_loopg [6,7,16] l1.length (fun g v6 v7 v16 wr=>∃ (x9:Int) (x:List Int) (L:List (List Int)),v16 = .int .i64 x9∧Aside0 (FolInv l1 (decide ((l1.length:Int)≤240)) (r1,r2) g x9 x L)∧Aside0 (Kd.R (Kd.int .i64) 3 wr w.heap.size (fun _=>True) v6 x)∧Aside0 (Kd.S (Kd.slice 3 (Kd.int .i64)) 24 wr w.heap.size (fun _=>True) v7 L)∧Aside0 (Below w.heap.size w wr))
  case atStart=>exact ⟨0,x0,[x0],rfl,HINV,⟨taer⟩,⟨tagx⟩,⟨taaa⟩⟩
  case round =>
   clear HINV HN HSS HB HRK;obtain ⟨x9,x,L,rfl,HV,HN,HSS,HB⟩:=hrel;obtain ⟨i,hi,hi1,hgm,hgx,hLl,hfx⟩:=HV.out;clear HV;have hs1:=HS1.out;by_cases hlt:i<l1.length
   ·have c3b0:decide (x9<(l1.length:Int))=true:=zba (by omega)
    have p1:0≤x9:=by omega
    have q1:x9<(l1.length:Int):=by omega
    obtain ⟨ad,e1,hx0,hx1,hx2⟩:=at_T59 HR1.out x9 p1 q1;cases e1;have hrd:rd_T59 l1 x9=l1[i]:=by
     unfold rd_T59;rw [hi,Int.toNat_natCast,List.getD_eq_getElem?_getD,List.getElem?_eq_getElem hlt];rfl
    rw [List.drop_eq_getElem_cons hlt,← hrd] at hfx
    clear hrd;generalize rd_T59 l1 x9=gg at hx0 hx1 hx2 hfx
    obtain ⟨f0,f1,f2⟩:=gg;simp only at hx0 hx1 hx2
    replace hx0:=(HB.out.cell (zaz w _ hx0)).trans hx0;replace hx1:=(HB.out.cell (zaz w _ hx1)).trans hx1;replace hx2:=(HB.out.cell (zaz w _ hx2)).trans hx2;replace p1:=eq_true p1;replace q1:=eq_true q1;obtain ⟨A6,c6,e6⟩:=zbz HN.out;subst e6;have HBr:=zad (Below.refl wr.heap.size wr);have hkf:impl_isKind.f x f0 f1 f2=some (kindB x f0 f1 f2):=isKind_eq x f0 f1 f2 hgx;by_cases hk:kindB x f0 f1 f2=true
    ·rw [hk] at hkf
     obtain ⟨hgv1,hgv2,hgy⟩:=kind_step hgx hk;rw [folA_step L x ⟨f0,f1,f2⟩ _ _ hk] at hfx
     have hst:stepG x ⟨f0,f1,f2⟩=descL (giveL x f0 f1 f2):=rfl;rw [hst] at hfx
     have hgz:goodL (descL (giveL x f0 f1 f2))=true:=by rw [good_desc];exact hgy
     generalize giveL x f0 f1 f2=y at hgv1 hgv2 hgy hfx hgz
     have hby:=(goodL_iff y).1 hgy;have hrk:=ranking_eq (good_sm hgy);have HK:=zad hkf;have HGV:=zad hgv1;have HRK:=zad hrk;generalize descL y=z at HRK hgz hfx
     have HIN:Aside0 (FolInv l1 (decide ((l1.length:Int)≤240)) (r1,r2) (l1.length - (i+1)) (wrap64 (x9+1)) z (L ++ [z])):=⟨i+1,by rw [w64 (by omega) (by omega)];omega,by omega,zcf _,hgz,tacq,hfx⟩;have HM:=zad (show l1.length - (i+1)<gk by omega);have HLL:=zad (show (L.length+1)*24≤140737488355328 by omega);have HSB:=zad (Kd.S_mono (ok':=fun k=>k<wr.heap.size) (Kd.S_bound HSS.out) (fun k hk=>hk.2.2.1));clear hk hkf hgv1 hgv2 hgy hgz hfx hst hby hrk hi hi1 hgm hgx hLl hs1 hlt HSS;go_wp2_with (first | ((with_reducible refine gate_dst (N:=9) rfl ?_);refine box_event ?hg (N:=9) ?hd (cs:=#[.int .i64 0,.int .i64 0,.int .i64 0]) (t:=59) ?hr ?_;(case hd=>rfl);(case hg=>rfl);(case hr=>first | (go_simp;done) | (go_simp;rfl));intro gb hg w8 hbox hb;have GE:=zad ((by rw [hg];exact (zbo (tabe)):wr.heap.size≤gb));have n0_:=zad (zbi (tabe) hb);have BK:=zad hbox;clear HBr;have HBr:=n0_;clear n0_ hb hbox hg;have hcz0:w8.cell? ⟨gb,0,none⟩=some (.int .i64 0):=(zbm BK.out 0).trans rfl;have hcz1:w8.cell? ⟨gb,1,none⟩=some (.int .i64 0):=(zbm BK.out 1).trans rfl;have hcz2:w8.cell? ⟨gb,2,none⟩=some (.int .i64 0):=(zbm BK.out 2).trans rfl;have hfz0:=zbn BK.out 0;have hfz1:=zbn BK.out 1;have hfz2:=zbn BK.out 2) | ((with_reducible refine zbj (f:=64) rfl ?_);refine zbr (some 22) rfl rfl Tryz.func64 (by kernel_rfl) rfl #[.slice A6 x.length c6,.agg #[.int .i64 f0,.int .i64 f1,.int .i64 f2]] rfl (taci) ?_;(with_reducible refine (impl_isKind.calls _ _ x f0 f1 f2 true _ ?side1 ?side2 HK.out).mono ?_);(case side1=>exact Kd.C_below (zbh HN.out).2.2 (tadm));(case side2=>exact (zbh HN.out).2.1);rintro e w10 ⟨rfl,hb⟩;refine ⟨_,rfl,?_⟩;have n0_:=zad (blk_below (g:=gb) (o := .cells #[.int .i64 f0,.int .i64 f1,.int .i64 f2] 59 (0,0)) (by (with_reducible repeat (first | refine blk_drewN ?_ _ | refine blk_drew ?_ | refine blk_alloc ?_ _));refine blk_put (cs:=#[.int .i64 f0,.int .i64 f1,.int .i64 0]) ?_ 2 _ rfl;(with_reducible repeat (first | refine blk_drewN ?_ _ | refine blk_drew ?_ | refine blk_alloc ?_ _));refine blk_put (cs:=#[.int .i64 f0,.int .i64 0,.int .i64 0]) ?_ 1 _ rfl;(with_reducible repeat (first | refine blk_drewN ?_ _ | refine blk_drew ?_ | refine blk_alloc ?_ _));refine blk_put (cs:=#[.int .i64 0,.int .i64 0,.int .i64 0]) ?_ 0 _ rfl;(with_reducible repeat (first | refine blk_drewN ?_ _ | refine blk_drew ?_ | refine blk_alloc ?_ _));exact BK.out) hb);have n1_:=zad (zbi (tadm) hb);clear BK HBr hb hcz0 hcz1 hcz2 hfz0 hfz1 hfz2;have BK:=n0_;have HBr:=n1_;clear n0_ n1_;have hcz0:w10.cell? ⟨gb,0,none⟩=some (.int .i64 f0):=(zbm BK.out 0).trans rfl;have hcz1:w10.cell? ⟨gb,1,none⟩=some (.int .i64 f1):=(zbm BK.out 1).trans rfl;have hcz2:w10.cell? ⟨gb,2,none⟩=some (.int .i64 f2):=(zbm BK.out 2).trans rfl) | ((with_reducible refine zbj (f:=65) rfl ?_);refine zbr (some 26) rfl rfl Tryz.func65 (by kernel_rfl) rfl #[.slice A6 x.length c6,.agg #[.int .i64 f0,.int .i64 f1,.int .i64 f2]] rfl (taci) ?_;(with_reducible refine (impl_given.calls _ _ x f0 f1 f2 y _ ?side1 ?side2 HGV.out).mono ?_);(case side1=>exact Kd.C_below (zbh HN.out).2.2 (tabe));(case side2=>exact (zbh HN.out).2.1);rintro e w12 ⟨v26,rfl,ho,hb⟩;refine ⟨_,rfl,?_⟩;have HY:=zad ho;have n1_:=zad (zbi (tabe) hb);clear BK HBr hb ho hcz0 hcz1 hcz2;have HBr:=n1_;clear n1_;obtain ⟨Ay,cy,ey⟩:=zbz HY.out;subst ey) | ((with_reducible refine zbj (f:=22) rfl ?_);refine zbr (some 27) rfl rfl Tryz.func22 (by kernel_rfl) rfl #[.slice Ay y.length cy] rfl (taci) ?_;(with_reducible refine (impl_ranking.calls _ _ y z _ ?side1 ?side2 HRK.out).mono ?_);(case side1=>repeat (first | exact (zbh HY.out).2.2 | (with_reducible refine zal ?_ _) | (with_reducible refine zam ?_ _) | (with_reducible refine zan ?_)));(case side2=>exact (zbh HY.out).2.1);rintro e w14 ⟨v27,rfl,ho,hb⟩;refine ⟨_,rfl,?_⟩;have hsz:=zbo (tabe);have HZ:=zad (zbu (ok':=fun k=>wr.heap.size≤k) (zby (Kd.R_bound ho) (Nat.le_trans HB.out.size hsz)) (fun k hk=>Nat.le_trans hsz hk.2.1));have n1_:=zad (zbi (tabe) hb);clear HBr hb ho HY hsz;have HBr:=n1_;clear n1_;obtain ⟨Az,cz,ez⟩:=zbz HZ.out;subst ez) | ((with_reducible refine gate_builtin (b := .append) (xs:=#[.tmp 28,.tmp 30]) rfl ?_);at_builtin;refine Kd.S_append (Kd.slice 3 (Kd.int .i64)) (w0:=w) w.heap.size rfl (.tmp 28) (.tmp 30) 39 24 (.slice none 0 0) 24 rfl Tryz.underlying39 info24 rfl (by decide) (by omega) _ L z [.slice Az z.length cz] (fun _=>True) (fun k_=>some k_=(.slice Az z.length cz:Value).ownBlock) rfl rfl ?aP ?aK ?aF ?aO ?aB ?aS ?aL ?_;(case aP=>exact Kd.M_row (zbu (Kd.R_tight rfl (tagy)) (fun _ h_=>h_)));(case aK=>exact fun k_ hk_=>⟨trivial,fun e_=>by have q1_:=HZ.out.1 k_ hk_.symm;have q2_:=Kd.S_lt HSB.out k_ e_.symm;omega⟩);(case aF=>exact fun _ _=>trivial);(case aO=>exact Kd.S_mono (Kd.S_below HSB.out (tabe)) (fun k_ hk_=>⟨trivial,fun e_=>by have q1_:=HZ.out.1 k_ e_.symm;omega⟩));(case aB=>exact zbi HB.out (tabe));(case aS=>exact Nat.le_trans HB.out.size (zbo (tabe)));(case aL=>exact HLL.out);intro v31 w31 ho hb hg hat;have HS2:=zad ho;have HB2:=zad hb;have HN2:=zad (zbu (ok':=fun _=>True) (Kd.R_grown (tagy) hg (fun k_ hk_ e_=>by have q2_:=Kd.S_lt HSB.out k_ e_.symm;omega)) (fun _ _=>trivial));clear ho hb hg hat HZ HSB HBr))
     go_roundg (l1.length - (i+1))
     case measure=>exact HM.out
     case rel=>exact ⟨_,z,L ++ [z],(taae),HIN,⟨by (with_reducible repeat (first | apply zai | apply zaj | apply zak));exact HN2.out⟩,⟨by (with_reducible repeat (first | apply Kd.S_alloc | apply Kd.S_drewN | apply Kd.S_drew));exact HS2.out⟩,⟨by repeat (first | (with_reducible first | exact HB2.out | apply zag | apply zae | apply zaf) | exact HB2.out)⟩⟩
    ·rw [zbk.2 hk] at hkf
     rw [folA_none L x ⟨f0,f1,f2⟩ _ _ hk] at hfx
     obtain ⟨e1,e2⟩:=Prod.mk.inj hfx;subst e1;subst e2;have HK:=zad hkf;clear hk hkf hfx hi hi1 hgm hgx hLl hs1 hlt HSS;go_wp2_with (first | ((with_reducible refine gate_dst (N:=9) rfl ?_);refine box_event ?hg (N:=9) ?hd (cs:=#[.int .i64 0,.int .i64 0,.int .i64 0]) (t:=59) ?hr ?_;(case hd=>rfl);(case hg=>rfl);(case hr=>first | (go_simp;done) | (go_simp;rfl));intro gb hg w8 hbox hb;have GE:=zad ((by rw [hg];exact (zbo (tabe)):wr.heap.size≤gb));have n0_:=zad (zbi (tabe) hb);have BK:=zad hbox;clear HBr;have HBr:=n0_;clear n0_ hb hbox hg;have hcz0:w8.cell? ⟨gb,0,none⟩=some (.int .i64 0):=(zbm BK.out 0).trans rfl;have hcz1:w8.cell? ⟨gb,1,none⟩=some (.int .i64 0):=(zbm BK.out 1).trans rfl;have hcz2:w8.cell? ⟨gb,2,none⟩=some (.int .i64 0):=(zbm BK.out 2).trans rfl;have hfz0:=zbn BK.out 0;have hfz1:=zbn BK.out 1;have hfz2:=zbn BK.out 2) | ((with_reducible refine zbj (f:=64) rfl ?_);refine zbr (some 22) rfl rfl Tryz.func64 (by kernel_rfl) rfl #[.slice A6 x.length c6,.agg #[.int .i64 f0,.int .i64 f1,.int .i64 f2]] rfl (taci) ?_;(with_reducible refine (impl_isKind.calls _ _ x f0 f1 f2 false _ ?side1 ?side2 HK.out).mono ?_);(case side1=>exact Kd.C_below (zbh HN.out).2.2 (tadm));(case side2=>exact (zbh HN.out).2.1);rintro e w10 ⟨rfl,hb⟩;refine ⟨_,rfl,?_⟩;have n1_:=zad (zbi (tadm) hb);clear HBr hb;have HBr:=n1_;clear n1_))
     go_ret2
     exact ⟨_,rfl,Kd.S_nil _ _ _ _ _,zbi HB.out (tabe)⟩
   ·have hil:i=l1.length:=by omega
    rw [hil,List.drop_eq_nil_of_le (zcf _)] at hfx
    have c3b0:decide (x9<(l1.length:Int))=false:=zbl (by omega);obtain ⟨e1,e2⟩:=Prod.mk.inj hfx;rw [List.append_nil] at e1
    subst e1;subst e2;clear hfx hi hi1 hgm hgx hLl hlt hil hs1;go_wp2
    go_ret2
    exact ⟨_,rfl,tagx,taaa⟩
 next=>cases h
theorem slEqual_l (xs ys:List Int) (hx:xs.length≤9223372036854775807) (hl:xs.length=ys.length):∀ (n i:Nat),i+n=xs.length→Ev (fun k=>slices_Equal_int_int.l0 k xs ys (xs.length:Int) (i:Int)) (decide (xs.drop i=ys.drop i))
 | 0,i,h=>by
  refine Ev.succ ?_
  simp only [slices_Equal_int_int.l0,if_neg (show ¬ (i:Int)<(xs.length:Int) by omega)];rw [List.drop_eq_nil_of_le (by omega),List.drop_eq_nil_of_le (by omega)];exact Ev.now _
 | n+1,i,h=>by
  have hi:i<xs.length:=by omega
  have hj:i<ys.length:=by omega
  refine Ev.succ ?_
  simp only [slices_Equal_int_int.l0,if_pos (show (i:Int)<(xs.length:Int) by omega),if_pos (show (i:Int)<(ys.length:Int) by omega),if_pos (show (0:Int)≤(i:Int) by omega),rdn hi,rdn hj,wsucc hi hx];rw [List.drop_eq_getElem_cons hi,List.drop_eq_getElem_cons hj];by_cases c:xs[i]=ys[i]
  ·simp only [c,if_true,List.cons.injEq,true_and]
   exact slEqual_l xs ys hx hl n (i+1) (by omega)
  ·simp only [c,if_false,List.cons.injEq,false_and,decide_false]
   exact Ev.now _
theorem slEqual_ev (xs ys:List Int) (hx:xs.length≤9223372036854775807):Ev (fun k=>slices_Equal_int_int.f k xs ys) (decide (xs=ys)):=by
 unfold slices_Equal_int_int.f;by_cases h:xs.length=ys.length
 ·simp only [if_pos (show (xs.length:Int)=(ys.length:Int) by omega)]
  exact slEqual_l xs ys hx h xs.length 0 (by omega)
 ·simp only [if_neg (show ¬ (xs.length:Int)=(ys.length:Int) by omega)]
  rw [zbl (fun e=>h (by rw [e]))];exact Ev.now _
theorem igp_row (B:Nat) (A0:Option Addr) (c0:Nat) (l0:List Int) (f0 f1 f2:Int) (W:World) (hl:l0.length≤1048576) (hB:W.cell? ⟨B,0,none⟩=some (.slice A0 l0.length c0)) (hr:Kd.C (Kd.int .i64) W A0 l0.length l0) (hc:l0.length≤c0) :
 Calls Tryz.prog 41 #[.agg #[.int .i64 f0,.int .i64 f1,.int .i64 f2],.pointer (some ⟨B,0,none⟩)] W fun e w'=>e = .returned (.bool (!isG l0 f0 f1 f2))∧Below W.heap.size W w':=by
 have HK:=zad (isGift_eq l0 f0 f1 f2 hl);have HR:=zad hr;have HC:=zad hc;have HB:=zad (Below.refl W.heap.size W);generalize isG l0 f0 f1 f2=b at HK ⊢
 clear hr hc hl;go_enter Tryz.func41,Tryz.ntmps41;go_wp2_with (first | ((with_reducible refine gate_dst (N:=2) rfl ?_);refine box_event ?hg (N:=2) ?hd (cs:=#[.int .i64 f0,.int .i64 f1,.int .i64 f2]) (t:=59) ?hr ?_;(case hd=>rfl);(case hg=>rfl);(case hr=>first | (go_simp;done) | (go_simp;rfl));intro gb hg w8 hbox hb;have hB2:=pw_cell_below hb hB;have BK:=zad hbox;have HB2:=zad (zbi (taaa) hb);clear hbox hb hg HB hB;have HB:=HB2;clear HB2;have hcz0:w8.cell? ⟨gb,0,none⟩=some (.int .i64 f0):=(zbm BK.out 0).trans rfl;have hcz1:w8.cell? ⟨gb,1,none⟩=some (.int .i64 f1):=(zbm BK.out 1).trans rfl;have hcz2:w8.cell? ⟨gb,2,none⟩=some (.int .i64 f2):=(zbm BK.out 2).trans rfl) | (go_at_call 42;(with_reducible refine (impl_isGift.calls _ _ l0 f0 f1 f2 b _ ?side1 ?side2 HK.out).mono ?_);(case side1=>exact Kd.C_below HR.out (taaa));(case side2=>exact HC.out);rintro e w1 ⟨rfl,hb⟩;have HB2:=zad (zbi (taaa) hb);clear hb HB;have HB:=HB2;clear HB2))
 go_ret
 exact ⟨by first | rfl | simp,taaa⟩
def IdxInv (xs:List S59) (ps:S59→Bool) (g:Nat) (x8:Int):Prop:=∃ i:Nat,x8=(i:Int)∧i≤xs.length∧xs.length - i≤g∧∀ j (h:j<xs.length),j<i→ps xs[j]=false
def SomeIdx (xs:List S59) (ps:S59→Bool) (W:World) (e:Ending) (w':World):Prop:=∃ i:Int,e = .returned (.int .i64 i)∧decide (0≤i)=xs.any ps∧Below W.heap.size W w'
theorem gift_idx (A:Option Addr) (c:Nat) (xs:List S59) (ps:S59→Bool) (B:Nat) (W:World) (hbig:xs.length≤1048576) (hr:Kd.C k59 W A xs.length xs) (hcall:∀ (g:S59) (W':World),Below W.heap.size W W'→Calls Tryz.prog 41 #[.agg #[.int .i64 g.f0,.int .i64 g.f1,.int .i64 g.f2],.pointer (some ⟨B,0,none⟩)] W' fun e w''=>e = .returned (.bool (ps g))∧Below W'.heap.size W' w'') :
 Calls Tryz.prog 77 #[.slice A xs.length c,.func (.func 41) #[] #[.pointer (some ⟨B,0,none⟩)]] W (SomeIdx xs ps W):=by
 have HR:=zad hr;have HF:=zad hcall;have HX:=zad hbig;have HB:=zad (Below.refl W.heap.size W);clear hr hcall hbig;have hu59:=Tryz.underlying59;go_enter Tryz.func77,Tryz.ntmps77;go_wp2
 go_loopg [5,8] xs.length (fun gg _ v8 wr=>∃ x8:Int,v8 = .int .i64 x8∧Aside0 (IdxInv xs ps gg x8)∧Aside0 (Below W.heap.size W wr))
 case atStart=>exact ⟨0,rfl,⟨0,rfl,Nat.zero_le _,by omega,fun j _ hj=>absurd hj (Nat.not_lt_zero _)⟩,⟨taaa⟩⟩
 case round =>
  clear HB;obtain ⟨x8,rfl,HV,HB⟩:=hrel;obtain ⟨i,hi,hi1,hgm,hpre⟩:=HV.out;clear HV;have hbig:=HX.out;by_cases hlt:i<xs.length
  ·have c3b0:decide (x8<(xs.length:Int))=true:=zba (by omega)
   have p1:0≤x8:=by omega
   have q1:x8<(xs.length:Int):=by omega
   obtain ⟨ad,e1,hx0,hx1,hx2⟩:=at_T59 HR.out x8 p1 q1;cases e1;have hrd:rd_T59 xs x8=xs[i]:=by
    unfold rd_T59;rw [hi,Int.toNat_natCast,List.getD_eq_getElem?_getD,List.getElem?_eq_getElem hlt];rfl
   generalize rd_T59 xs x8=gg at hx0 hx1 hx2 hrd
   have hca:=HF.out gg;cases hq:ps gg with
   | true =>
    have HQ:Aside0 (decide (0≤x8)=xs.any ps):=⟨by
     rw [zba p1,eq_comm,List.any_eq_true];exact ⟨xs[i],List.getElem_mem hlt,by rw [← hrd];exact hq⟩⟩
    rw [hq] at hca
    have HCA:=zad hca;obtain ⟨f0,f1,f2⟩:=gg;simp only at hx0 hx1 hx2
    replace hx0:=(HB.out.cell (zaz W _ hx0)).trans hx0;replace hx1:=(HB.out.cell (zaz W _ hx1)).trans hx1;replace hx2:=(HB.out.cell (zaz W _ hx2)).trans hx2;replace p1:=eq_true p1;replace q1:=eq_true q1;clear hi hi1 hgm hpre hbig hlt hca hq hrd;go_wp2_with (go_at_call 41;refine (HCA.out _ (taaa)).mono ?_;rintro e w' ⟨rfl,hb⟩;have HB2:=zad (zbi (taaa) hb);clear hb HB;have HB:=HB2;clear HB2)
    go_ret
    exact ⟨_,rfl,HQ.out,taaa⟩
   | false =>
    have HIN:Aside0 (IdxInv xs ps (xs.length - (i+1)) (wrap64 (x8+1))):=⟨i+1,by rw [w64 (by omega) (by omega)];omega,by omega,zcf _,fun j hj hj2=>by
     by_cases e:j=i
     ·subst e
      rw [← hrd];exact hq
     ·exact hpre j hj (by omega)⟩
    have HM:=zad (show xs.length - (i+1)<gk by omega);rw [hq] at hca
    have HCA:=zad hca;obtain ⟨f0,f1,f2⟩:=gg;simp only at hx0 hx1 hx2
    replace hx0:=(HB.out.cell (zaz W _ hx0)).trans hx0;replace hx1:=(HB.out.cell (zaz W _ hx1)).trans hx1;replace hx2:=(HB.out.cell (zaz W _ hx2)).trans hx2;replace p1:=eq_true p1;replace q1:=eq_true q1;clear hi hi1 hgm hpre hbig hca hq hrd;go_wp2_with (go_at_call 41;refine (HCA.out _ (taaa)).mono ?_;rintro e w' ⟨rfl,hb⟩;have HB2:=zad (zbi (taaa) hb);clear hb HB;have HB:=HB2;clear HB2)
    go_roundg (xs.length - (i+1))
    case measure=>exact HM.out
    case rel=>exact ⟨_,(taae),HIN,⟨taaa⟩⟩
  ·have hil:i=xs.length:=by omega
   have c3b0:decide (x8<(xs.length:Int))=false:=zbl (by omega);have HQ:Aside0 (decide (0≤(-1:Int))=xs.any ps):=⟨by
    rw [zbl (by decide),eq_comm,List.any_eq_false];intro x hx
    obtain ⟨j,hj,rfl⟩:=List.mem_iff_getElem.1 hx;rw [hpre j hj (by omega)];decide⟩
   clear hi hi1 hgm hpre hbig hlt hil;go_wp2
   go_ret
   exact ⟨_,rfl,HQ.out,taaa⟩
theorem gift_has (A:Option Addr) (c:Nat) (xs:List S59) (ps:S59→Bool) (B:Nat) (W:World) (hbig:xs.length≤1048576) (hr:Kd.C k59 W A xs.length xs) (hcall:∀ (g:S59) (W':World),Below W.heap.size W W'→Calls Tryz.prog 41 #[.agg #[.int .i64 g.f0,.int .i64 g.f1,.int .i64 g.f2],.pointer (some ⟨B,0,none⟩)] W' fun e w''=>e = .returned (.bool (ps g))∧Below W'.heap.size W' w'') :
 Calls Tryz.prog 40 #[.slice A xs.length c,.func (.func 41) #[] #[.pointer (some ⟨B,0,none⟩)]] W fun e w'=>e = .returned (.bool (xs.any ps))∧Below W.heap.size W w':=by
 have HI:=zad (gift_idx A c xs ps B W hbig hr hcall);clear hbig hr hcall;go_enter Tryz.func40,Tryz.ntmps40;go_wp2_with (go_at_call 77;refine HI.out.mono ?_;rintro e w1 ⟨i,rfl,hi,hb⟩;have HD:=zad hi;have HB:=zad hb;clear hi hb)
 go_ret
 exact ⟨by first | (rw [← HD.out];rfl) | (simp [HD.out]) | rfl,HB.out⟩
theorem folM_len {x:List Int} {p:List S59} {M:List (List Int)} (h:foll x p=some M):M.length=p.length:=by
 induction p generalizing x M with
 | nil =>
  have:some []=some M:=h;obtain rfl:=zbg this;rfl
 | cons g p ih =>
  have e:foll x (g :: p)=if kindB x g.f0 g.f1 g.f2=true then (foll (stepG x g) p).map (stepG x g :: ·) else none:=rfl;rw [e] at h
  by_cases c:kindB x g.f0 g.f1 g.f2=true
  ·rw [if_pos c] at h
   obtain ⟨N,h1,h2⟩:=Option.map_eq_some_iff.1 h;rw [← h2,List.length_cons,List.length_cons,ih h1]
  ·rw [if_neg c] at h
   cases h
theorem slEqual_ev' (x y:List Int) (hy:y.length≤1000):Ev (fun k=>slices_Equal_int_int.f k x y) (decide (x=y)):=by
 by_cases h:x.length≤1000000
 ·exact slEqual_ev x y (by omega)
 ·unfold slices_Equal_int_int.f
  simp only [if_neg (show ¬ (x.length:Int)=(y.length:Int) by omega)];rw [zbl (fun e=>h (by rw [e];omega))];exact Ev.now _
def lastR (L:List (List Int)):List Int:=L.getD (L.length - 1) []
def igpM (a b:List Int) (p:List S59):Bool × Bool:=match foll (descL b) p with
 | some M=>(decide (lastR (descL b :: M)=descL a),true)
 | none=>(false,true)
def igpR (a b:List Int) (p:List S59):Bool × Bool:=if (if goodL a=true then goodL b else false)=true then (if fitB a b=true then (if (p.length:Int)>240 then (false,false) else (if (p.any fun g => !isG b g.f0 g.f1 g.f2)=true then (false,false) else igpM a b p)) else (false,false)) else (false,false)
def impl_IsGiftPath.f (l0:List Int) (l1:List Int) (l2:List S59):Option (Bool × Bool):=if l0.length≤1048576∧l1.length≤1048576∧l2.length≤1048576 then some (igpR l0 l1 l2) else none
def impl_IsGiftPath.T6:Bool × List (List Nat × List Nat):=(true,[([],[]),([0],[0]),([1],[1]),([1],[1]),([3,1],[1,3]),([4,1],[1,4]),([2,5,1],[1,2,5]),([6,1],[1,6]),([1],[1]),([8,1,1],[1,8]),([7,9,9,1],[1,7,9]),([1,10],[1,10]),([11,10,0,1,2,3,4,5,6,7,8,9,10,11],[11]),([12,0,1,2,3,4,5,6,7,8,9,10,11,12],[])])
def impl_IsGiftPath.B6:List Nat:=[0,1,3,3,11,27,63,127,3,259,1023,2047,4095,8191]
theorem impl_IsGiftPath.tab6:rtab .any (opsOf Tryz.f14 6)=impl_IsGiftPath.T6:=by kernel_rfl
theorem impl_IsGiftPath.bits6:waitsOk impl_IsGiftPath.T6.2 impl_IsGiftPath.B6=true:=by kernel_rfl
theorem impl_IsGiftPath.calls (A0:Option Addr) (c0:Nat) (l0:List Int) (A1:Option Addr) (c1:Nat) (l1:List Int) (A2:Option Addr) (c2:Nat) (l2:List S59) (r1:Bool) (r2:Bool) (w:World) (hr0:Kd.C (Kd.int .i64) w A0 l0.length l0) (hc0:l0.length≤c0) (hr1:Kd.C (Kd.int .i64) w A1 l1.length l1) (hc1:l1.length≤c1) (hr2:Kd.C k59 w A2 l2.length l2) (hc2:l2.length≤c2) (h:impl_IsGiftPath.f l0 l1 l2=some (r1,r2)) :
 Calls Tryz.prog 14 #[.slice A0 l0.length c0,.slice A1 l1.length c1,.slice A2 l2.length c2] w fun e w'=>e = .returned (.tuple #[.bool r1,.bool r2])∧Below w.heap.size w w':=by
 unfold impl_IsGiftPath.f at h
 split at h
 next hs =>
  obtain ⟨hs0,hs1,hs2⟩:=hs;have h:=zbg h;obtain ⟨k1,hA⟩:=Ev.get (areLists_ev l0 l1 hs0 hs1);have HR0:=zad hr0;have HC0:=zad hc0;have HR1:=zad hr1;have HC1:=zad hc1;have HR2:=zad hr2;have HC2:=zad hc2;have AA:=zad hA;have HB0:=zad (Below.refl w.heap.size w);have HS0:=zad hs0;have HS1:=zad hs1;have HS2:=zad hs2;clear hr0 hc0 hr1 hc1 hr2 hc2 hA hs0 hs1 hs2;unfold igpR at h
  by_cases a:(if goodL l0=true then goodL l1 else false)=true
  ·rw [if_pos a] at h
   rw [a] at AA
   have hg:goodL l0=true∧goodL l1=true:=by
    by_cases g:goodL l0=true
    ·rw [if_pos g] at a
     exact ⟨g,a⟩
    ·rw [if_neg g] at a
     cases a
   obtain ⟨k2,hF⟩:=Ev.get (doFit_ev l0 l1 (good_sm hg.1) (good_sm hg.2));have AF:=zad hF;clear hF;by_cases f:fitB l0 l1=true
   ·rw [if_pos f] at h
    rw [f] at AF
    by_cases n:(l2.length:Int)>240
    ·rw [if_pos n] at h
     obtain ⟨e1,e2⟩:=Prod.mk.inj h;subst e1;subst e2;have n1:decide (240<(l2.length:Int))=true:=zba n;have n2:decide (240<l2.length)=true:=zba (by omega);clear a f n h hg;go_enter Tryz.func14,Tryz.ntmps14;go_wp2_with (first | (go_at_call 38;(with_reducible refine (impl_areLists.calls k1 _ _ l0 _ _ l1 true _ ?side1 ?side2 ?side3 ?side4 AA.out).mono ?_);(case side1=>exact tahq);(case side2=>exact HC0.out);(case side3=>exact tahu);(case side4=>exact HC1.out);rintro e w' ⟨rfl,⟨nd,rfl⟩⟩) | (go_at_call 39;(with_reducible refine (impl_doFit.calls k2 _ _ l0 _ _ l1 true _ ?side1 ?side2 ?side3 ?side4 AF.out).mono ?_);(case side1=>exact tahq);(case side2=>exact HC0.out);(case side3=>exact tahu);(case side4=>exact HC1.out);rintro e w' ⟨rfl,⟨nd,rfl⟩⟩))
     go_ret2
     exact ⟨rfl,taes⟩
    ·rw [if_neg n] at h
     have n1:decide (240<(l2.length:Int))=false:=zbl n;have n2:decide (240<l2.length)=false:=zbl (by omega);have HCON:Aside0 (∀ q,Calls Tryz.prog 40 #[.slice A2 l2.length c2,.func (.func 41) #[] #[.pointer (some ⟨w.heap.size,0,none⟩)]] ((w.alloc (.cells #[.slice A1 l1.length c1] 24)).drewN q) fun e w'=>e = .returned (.bool (l2.any fun g => !isG l1 g.f0 g.f1 g.f2))∧Below ((w.alloc (.cells #[.slice A1 l1.length c1] 24)).drewN q).heap.size ((w.alloc (.cells #[.slice A1 l1.length c1] 24)).drewN q) w'):=⟨fun q=>gift_has A2 c2 l2 (fun g => !isG l1 g.f0 g.f1 g.f2) w.heap.size _ HS2.out (Kd.C_below HR2.out (zae (zag HB0.out _) q)) (fun g W' hb=>igp_row w.heap.size A1 c1 l1 g.f0 g.f1 g.f2 W' HS1.out (pw_cell_below hb (tadn)) (Kd.C_below HR1.out (zbi (zae (zag HB0.out _) q) hb)) HC1.out)⟩;by_cases g:(l2.any fun g => !isG l1 g.f0 g.f1 g.f2)=true
     ·rw [if_pos g] at h
      rw [g] at HCON;obtain ⟨e1,e2⟩:=Prod.mk.inj h;subst e1;subst e2;clear a f n h hg g;go_enter Tryz.func14,Tryz.ntmps14;go_wp2_with (first | (go_at_call 38;(with_reducible refine (impl_areLists.calls k1 _ _ l0 _ _ l1 true _ ?side1 ?side2 ?side3 ?side4 AA.out).mono ?_);(case side1=>exact tahq);(case side2=>exact HC0.out);(case side3=>exact tahu);(case side4=>exact HC1.out);rintro e w' ⟨rfl,⟨nd,rfl⟩⟩) | (go_at_call 39;(with_reducible refine (impl_doFit.calls k2 _ _ l0 _ _ l1 true _ ?side1 ?side2 ?side3 ?side4 AF.out).mono ?_);(case side1=>exact tahq);(case side2=>exact HC0.out);(case side3=>exact tahu);(case side4=>exact HC1.out);rintro e w' ⟨rfl,⟨nd,rfl⟩⟩) | (go_at_call 40;refine (HCON.out _).mono ?_;rintro e w1 ⟨rfl,hb⟩;have HB:=zad (zbi (zae (zag HB0.out _) _) hb);have hcb:=pw_cell_below hb (show (World.drewN (w.alloc (.cells #[.slice A1 l1.length c1] 24)) _).cell? ⟨w.heap.size,0,none⟩=some (.slice A1 l1.length c1) from by exact tadn);clear hb))
      go_ret2
      exact ⟨rfl,taaa⟩
     ·rw [if_neg g] at h
      rw [zbk.2 g] at HCON;unfold igpM at h
      have hfo:impl_follow.f l1 l2=some (folA [descL l1] (foll (descL l1) l2) (decide ((l2.length:Int)≤240))):=by
       unfold impl_follow.f;rw [if_pos ⟨hg.2,HS2.out⟩]
      rw [zba (show (l2.length:Int)≤240 by omega)] at hfo
      have hrk:=ranking_eq (good_sm hg.1);cases hm:foll (descL l1) l2 with
      | some M =>
       rw [hm] at h hfo
       simp only [folA,List.singleton_append] at h hfo
       obtain ⟨e1,e2⟩:=Prod.mk.inj h;subst e2;have hlen:=folM_len hm;have hpos:0<(descL l1 :: M).length:=by simp
       have hlen2:(descL l1 :: M).length≤1048577:=by rw [List.length_cons];omega
       generalize descL l1 :: M=t1521 at hfo e1 hpos hlen2
       have hsm:=(good_sm hg.1).1;have hdl:(descL l0).length≤1000:=by rw [descL_length];exact hsm
       generalize descL l0=t1526 at hrk e1 hdl
       have hj0:wrap64 ((t1521.length:Int) - 1)=((t1521.length - 1:Nat):Int):=by rw [w64 (by omega) (by omega)];omega
       have hlr:lastR t1521=rd_L2 t1521 (wrap64 ((t1521.length:Int) - 1)):=by
        rw [hj0];unfold lastR rd_L2;rw [Int.toNat_natCast]
       rw [hlr] at e1
       obtain ⟨ji16,hji16⟩:∃ j_:Int,(wrap64 ((t1521.length:Int) - 1))=j_:=⟨_,rfl⟩;rw [hji16] at e1 hj0
       have hji16w:(IntKind.i64.wrap ((t1521.length:Int) - 1))=ji16:=(i64_w _).trans hji16;have c17b0:decide (0≤(ji16))=true:=zba (by omega);have c18b0:decide ((ji16)<(t1521.length:Int))=true:=zba (by omega);obtain ⟨kj3,hE⟩:=Ev.get (slEqual_ev' (rd_L2 t1521 ji16) t1526 hdl);rw [e1] at hE
       obtain ⟨t1529,ht⟩:∃ t,t=r1:=⟨_,rfl⟩;rw [← ht] at hE ⊢
       have A14:=zad hfo;have A19:=zad hrk;have A20:=zad hE;clear a f n h hg g hlr hpos hlen2 hdl hsm hE ht e1 hfo hrk hj0 hlen hm;go_enter Tryz.func14,Tryz.ntmps14;go_wp2_with (first | (go_at_call 38;(with_reducible refine (impl_areLists.calls k1 _ _ l0 _ _ l1 true _ ?side1 ?side2 ?side3 ?side4 AA.out).mono ?_);(case side1=>exact tahq);(case side2=>exact HC0.out);(case side3=>exact tahu);(case side4=>exact HC1.out);rintro e w' ⟨rfl,⟨nd,rfl⟩⟩) | (go_at_call 39;(with_reducible refine (impl_doFit.calls k2 _ _ l0 _ _ l1 true _ ?side1 ?side2 ?side3 ?side4 AF.out).mono ?_);(case side1=>exact tahq);(case side2=>exact HC0.out);(case side3=>exact tahu);(case side4=>exact HC1.out);rintro e w' ⟨rfl,⟨nd,rfl⟩⟩) | (go_at_call 40;refine (HCON.out _).mono ?_;rintro e w1 ⟨rfl,hb⟩;have HB:=zad (zbi (zae (zag HB0.out _) _) hb);have hcb:=pw_cell_below hb (show (World.drewN (w.alloc (.cells #[.slice A1 l1.length c1] 24)) _).cell? ⟨w.heap.size,0,none⟩=some (.slice A1 l1.length c1) from by exact tadn);clear hb) | (go_at_call 43;(with_reducible refine (impl_follow.calls _ _ l1 _ _ l2 t1521 true _ ?side1 ?side2 ?side3 ?side4 A14.out).mono ?_);(case side1=>exact Kd.C_below HR1.out (taaa));(case side2=>exact HC1.out);(case side3=>exact Kd.C_below HR2.out (taaa));(case side4=>exact HC2.out);rintro e w21 ⟨v1523,rfl,ho0,hb⟩;have n0_:=zad (Kd.S_lower ho0 (zbo (taaa)));have n1_:=zad (zbi (taaa) hb);clear HB;have HO1524:=n0_;have HB:=n1_;clear n0_ n1_ hb ho0 hcb))
       have n0_:=zad (Kd.S_drew HO1524.out);have n1_:=zad (zaf HB.out);clear HO1524 HB;have HO1524:=n0_;have HB:=n1_;clear n0_ n1_;obtain ⟨Ao23,co23,eo23⟩:=Kd.S_slice HO1524.out;(first | subst eo23 | (injection eo23 with f1_ f2_ f3_;have f4_:=f1_.symm;have f5_:=f3_.symm;clear f1_ f2_ f3_;subst f4_;subst f5_))
       have p1525:0≤((ji16):Int):=zas (taab);have q1525:(ji16)<(t1521.length:Int):=zas (taab);obtain ⟨ad1525,A1525_0,c1525_0,e1525,hx1525_0,hl1525_0,hi1525_0⟩:=at_L2 (Kd.S_reads' HO1524.out).2.2 (ji16) p1525 q1525;cases e1525;obtain ⟨ce1525,hce1525,hMe1525,hcc1525⟩:=Kd.S_get HO1524.out [] (ji16) p1525 (by first | exact q1525 | exact zas (taab) | (have e_:=(Kd.S_reads' HO1524.out).1;omega));obtain ⟨ve1525_0,rfl,ge1525_0⟩:=hMe1525;have hv1525_0:=hcc1525 0 _ rfl;rw [Nat.add_zero,show ((Kd.slice 3 (Kd.int .i64))).sz=1 from rfl,Nat.mul_one] at hv1525_0
       replace hv1525_0:=zbg (hv1525_0.symm.trans hx1525_0);rw [hv1525_0] at ge1525_0
       have HL1525_0:=zad (show Kd.R (Kd.int .i64) 3 _ _ _ _ (rd_L2 t1521 (ji16)) from ge1525_0);clear hv1525_0 ge1525_0 hcc1525 hce1525;have HR1525_0:=zad hi1525_0;have HC1525_0:=zad hl1525_0;clear hi1525_0 hl1525_0;replace p1525:=eq_true p1525;replace q1525:=eq_true q1525;refine start_ (n:=14) (S:=fun w'=>w'.cell? (ad1525.add ((ji16)).toNat)=some (.slice A1525_0 (rd_L2 t1521 (ji16)).length c1525_0)) (ds:=[]) #[false,false,false,false,false,false,false,false,false,false,false,false,false,false] (by kernel_rfl) rfl rfl (hx1525_0) (fun hHeld => ?_);refine with_tabW impl_IsGiftPath.tab6 impl_IsGiftPath.bits6 (fun HT_ HW_ => ?_)
       generalize w21.drew=w22 at HO1524 HB HL1525_0 HR1525_0 hx1525_0 hHeld ⊢
       refine puA 0 (some 34) qahe_ ?_;refine puA 1 (some 35) qahf_ ?_;refine puA 2 (some 36) qahg_ ?_;refine puA 3 (some 37) qahh_ ?_;refine puA 4 (some 38) qahi_ ?_;refine puA 5 (some 39) qahj_ ?_;refine puA 6 (some 40) qahk_ ?_;refine puA 8 (some 42) qahl_ ?_;refine tkA 7 (some 41) qahp_ rfl rfl (by intro w' s0;go_simp;with_reducible rfl) hHeld ?_;refine one_ (i:=9) (N:=some 43) #[true,true,true,true,true,true,true,true,true,true,false,false,false,false] rfl rfl (one_of HT_.out (by kernel_rfl)) (by decide) (fun K hK => ?_)
       refine goes_ Tryz.func22 (by kernel_rfl) rfl #[.slice A0 l0.length c0] (by rfl) rfl rfl (taac) ?_
       with_reducible refine (impl_ranking.calls _ _ l0 t1526 _ ?side1 ?side2 A19.out).mono ?_
       (case side1=>exact tahr)
       (case side2=>exact HC0.out)
       rintro e w24 ⟨v1527,rfl,ho0,hb⟩
       have HS0_:=(hb.cell (zaz _ _ (hHeld))).trans (hHeld);refine ⟨_,rfl,?_⟩
       have n0_:=zad (Kd.S_elder' (by (with_reducible repeat (first | apply Kd.S_alloc | apply Kd.S_drewN | apply Kd.S_drew));exact HO1524.out) (zcd ho0) hb);have n1_:=zad (zcb (tagz) (zcd ho0) hb);have n2_:=zad (zby (zcc ho0 (zce (tagz))) (zbo (taaa)));have n3_:=zad (Kd.C_below (taha) hb);have n4_:=zad (zbi (taaa) hb);clear HO1524 HL1525_0 HR1525_0 HB;have HO1524:=n0_;have HL1525_0:=n1_;have HO1528:=n2_;have HR1525_0:=n3_;have HB:=n4_;clear n0_ n1_ n2_ n3_ n4_;(try clear hb);(try clear hb2);(try clear hk);(try clear hi);(try clear ho0);obtain ⟨Ao25,co25,eo25⟩:=zbz HO1528.out;(first | subst eo25 | (injection eo25 with f1_ f2_ f3_;have f4_:=f1_.symm;have f5_:=f3_.symm;clear f1_ f2_ f3_;subst f4_;subst f5_))
       refine hK.out _ _ (HS0_) (fun hHeld => ?_)
       clear hK K;refine norm_ (a' := ?_) ?_ ?_
       rotate_left
       ·show Act.put _ (some 43) _=_
        simp only [Act.put,zaa,zab,zac,i64_w,i32_w];rfl
       refine one_ (i:=10) (N:=some 44) #[true,true,true,true,true,true,true,true,true,true,true,false,false,false] rfl rfl (one_of HT_.out (by kernel_rfl)) (by decide) (fun K hK => ?_)
       refine goes_ Tryz.func44 (by kernel_rfl) rfl #[.slice A1525_0 (rd_L2 t1521 (ji16)).length c1525_0,.slice Ao25 t1526.length co25] (by rfl) rfl rfl (by (try simp only [zat,zau,zav]);first | done | (simp only [hji16];rfl) | rfl | (simp only [zaw,zax];rfl)) ?_
       with_reducible refine (slices_Equal_int_int.calls kj3 _ _ (rd_L2 t1521 (ji16)) _ _ t1526 t1529 _ ?side1 ?side2 ?side3 ?side4 A20.out).mono ?_
       (case side1=>repeat (first | exact (taha) | (with_reducible refine zal ?_ _) | (with_reducible refine zam ?_ _) | (with_reducible refine zan ?_)))
       (case side2=>exact HC1525_0.out)
       (case side3=>repeat (first | exact (zbh HO1528.out).2.2 | (with_reducible refine zal ?_ _) | (with_reducible refine zam ?_ _) | (with_reducible refine zan ?_)))
       (case side4=>exact (zbh HO1528.out).2.1)
       rintro e w' ⟨rfl,⟨nd,rfl⟩⟩
       refine ⟨_,rfl,?_⟩
       refine hK.out _ _ (hHeld) (fun hHeld => ?_)
       clear hK K;refine norm_ (a' := ?_) ?_ ?_
       rotate_left
       ·show Act.put _ (some 44) _=_
        simp only [Act.put,zaa,zab,zac,i64_w,i32_w];rfl
       refine puA 11 (some 45) qahm_ ?_;refine puA 12 (some 6) qahn_ ?_;refine puA 13 (some 7) qaho_ ?_;refine done_ (done_of HT_.out (by kernel_rfl)) ?_
       try go_wp2
       go_ret2
       exact ⟨by first | rfl | (simp only [← hji16];first | rfl | simp) | (simp [*] <;> rfl),taaa⟩
      | none =>
       rw [hm] at h hfo
       simp only [folA] at h hfo
       obtain ⟨e1,e2⟩:=Prod.mk.inj h;subst e1;subst e2;have A14:=zad hfo;clear a f n h hg g hfo hrk hm;go_enter Tryz.func14,Tryz.ntmps14;go_wp2_with (first | (go_at_call 38;(with_reducible refine (impl_areLists.calls k1 _ _ l0 _ _ l1 true _ ?side1 ?side2 ?side3 ?side4 AA.out).mono ?_);(case side1=>exact tahq);(case side2=>exact HC0.out);(case side3=>exact tahu);(case side4=>exact HC1.out);rintro e w' ⟨rfl,⟨nd,rfl⟩⟩) | (go_at_call 39;(with_reducible refine (impl_doFit.calls k2 _ _ l0 _ _ l1 true _ ?side1 ?side2 ?side3 ?side4 AF.out).mono ?_);(case side1=>exact tahq);(case side2=>exact HC0.out);(case side3=>exact tahu);(case side4=>exact HC1.out);rintro e w' ⟨rfl,⟨nd,rfl⟩⟩) | (go_at_call 40;refine (HCON.out _).mono ?_;rintro e w1 ⟨rfl,hb⟩;have HB:=zad (zbi (zae (zag HB0.out _) _) hb);have hcb:=pw_cell_below hb (show (World.drewN (w.alloc (.cells #[.slice A1 l1.length c1] 24)) _).cell? ⟨w.heap.size,0,none⟩=some (.slice A1 l1.length c1) from by exact tadn);clear hb) | (go_at_call 43;(with_reducible refine (impl_follow.calls _ _ l1 _ _ l2 [] false _ ?side1 ?side2 ?side3 ?side4 A14.out).mono ?_);(case side1=>exact Kd.C_below HR1.out (taaa));(case side2=>exact HC1.out);(case side3=>exact Kd.C_below HR2.out (taaa));(case side4=>exact HC2.out);rintro e w26 ⟨v1523,rfl,ho0,hb⟩;have n0_:=zad (Kd.S_lower ho0 (zbo (taaa)));have n1_:=zad (zbi (taaa) hb);clear HB;have HO1524:=n0_;have HB:=n1_;clear n0_ n1_ hb ho0 hcb))
       have n0_:=zad (Kd.S_drew HO1524.out);have n1_:=zad (zaf HB.out);clear HO1524 HB;have HO1524:=n0_;have HB:=n1_;clear n0_ n1_;refine start_ (n:=14) (S:=fun w'=>True) (ds:=[]) #[false,false,false,false,false,false,false,false,false,false,false,false,false,false] (by kernel_rfl) rfl rfl trivial (fun hHeld => ?_);refine with_tabW impl_IsGiftPath.tab6 impl_IsGiftPath.bits6 (fun HT_ HW_ => ?_)
       generalize w26.drew=w27 at HO1524 HB hHeld ⊢
       refine puA 0 (some 34) qahe_ ?_;refine puA 1 (some 35) qahf_ ?_;refine puB 2 (some 36) qahg_ ?_;refine puB 3 (some 37) qahh_ ?_;refine puB 4 (some 38) qahi_ ?_;refine puB 5 (some 39) qahj_ ?_;refine puB 6 (some 40) qahk_ ?_;refine puB 7 (some 41) qahq_ ?_;refine puB 8 (some 42) qahp_ ?_;refine puB 9 (some 43) qahr_ ?_;refine puB 10 (some 44) qahs_ ?_;refine puA 11 (some 45) qahm_ ?_;refine puA 12 (some 6) qahn_ ?_;refine puA 13 (some 7) qaho_ ?_;refine done_ (done_of HT_.out (by kernel_rfl)) ?_
       try go_wp2
       go_ret2
       exact ⟨by first | rfl | (simp [*] <;> rfl),taaa⟩
   ·rw [if_neg f] at h
    obtain ⟨e1,e2⟩:=Prod.mk.inj h;subst e1;subst e2;rw [zbk.2 f] at AF
    clear a f h hg;go_enter Tryz.func14,Tryz.ntmps14;go_wp2_with (first | (go_at_call 38;(with_reducible refine (impl_areLists.calls k1 _ _ l0 _ _ l1 true _ ?side1 ?side2 ?side3 ?side4 AA.out).mono ?_);(case side1=>exact tahq);(case side2=>exact HC0.out);(case side3=>exact tahu);(case side4=>exact HC1.out);rintro e w' ⟨rfl,⟨nd,rfl⟩⟩) | (go_at_call 39;(with_reducible refine (impl_doFit.calls k2 _ _ l0 _ _ l1 false _ ?side1 ?side2 ?side3 ?side4 AF.out).mono ?_);(case side1=>exact tahq);(case side2=>exact HC0.out);(case side3=>exact tahu);(case side4=>exact HC1.out);rintro e w' ⟨rfl,⟨nd,rfl⟩⟩))
    go_ret2
    exact ⟨rfl,taes⟩
  ·rw [if_neg a] at h
   obtain ⟨e1,e2⟩:=Prod.mk.inj h;subst e1;subst e2;rw [zbk.2 a] at AA
   clear a h;go_enter Tryz.func14,Tryz.ntmps14;go_wp2_with (first | (go_at_call 38;(with_reducible refine (impl_areLists.calls k1 _ _ l0 _ _ l1 false _ ?side1 ?side2 ?side3 ?side4 AA.out).mono ?_);(case side1=>exact tahq);(case side2=>exact HC0.out);(case side3=>exact tahu);(case side4=>exact HC1.out);rintro e w' ⟨rfl,⟨nd,rfl⟩⟩))
   go_ret2
   exact ⟨rfl,taes⟩
 next=>cases h
theorem mx_hi {n q s:Int} (e:q=s) (h:n<q):q=max n s:=by omega
theorem mx_lo {n q s:Int} (e:q=s) (h:q≤n):n=max n s:=by omega
theorem allU_desc {x a:List Int} (hx:goodL x=true):allU x (descL a) 0 x.length=allU x a 0 x.length:=by
 rw [allU_ug _ _ hx,allU_ug _ _ hx];congr 1
 funext z
 exact maj_desc_l a z
theorem mx_take (a:List Int) (zs:List (List Int)) {j:Nat} (hj:j<zs.length):max (((zs.take j).map fun z=>1+lp a z).foldl max 0) (1+lp a zs[j])=((zs.take (j+1)).map fun z=>1+lp a z).foldl max 0:=by
 rw [List.take_add_one,List.getElem?_eq_getElem hj,Option.toList_some,List.map_append,List.foldl_append];rfl
theorem long_calls (a b:List Int) (hb:betB a b=true) (h20:b.sum≤20) (yl:List Int) (hyl:yl=descL a) (Ay:Option Addr) (cy:Nat) (w0:World) (M By Bk Bl:Nat) (hM:M<w0.heap.size)
 (hY:∀ W',KeepBut w0 W' M none→Kd.C (Kd.int .i64) W' Ay yl.length yl) (hcy:yl.length≤cy)
 (hby:w0.cell? ⟨By,0,none⟩=some (.slice Ay yl.length cy)) (nby:By≠M) (hbk:w0.cell? ⟨Bk,0,none⟩=some (.map (some M))) (nbk:Bk≠M)
 (hbl:w0.cell? ⟨Bl,0,none⟩=some (.func (.func 23) #[] #[.pointer (some ⟨Bk,0,none⟩),.pointer (some ⟨By,0,none⟩),.pointer (some ⟨Bl,0,none⟩)])) (nbl:Bl≠M) :
 ∀ (m:Nat) (x:List Int) (S:List (List Int)) (A:Option Addr) (c:Nat) (W:World),x ∈ btwL a b→sqS x<m→GB w0 W M→LI a b M S W→(∀ W',KeepBut W W' M none→Kd.C (Kd.int .i64) W' A x.length x)→x.length≤c →
  Calls Tryz.prog 23 #[.slice A x.length c,.pointer (some ⟨Bk,0,none⟩),.pointer (some ⟨By,0,none⟩),.pointer (some ⟨Bl,0,none⟩)] W fun e w'=>e = .returned (.int .i64 (lp a x))∧GB W w' M∧∃ S2,LI a b M S2 w'∧∀ y ∈ S2,y ∈ S∨sqS y≤sqS x:=by
 have EGP:=zad (show ∀ args w,(callFunc 23 args).run Tryz.prog w = .ok (.enter 23 args) w from fun args w=>enters_ Tryz.func23 (by kernel_rfl) rfl args w);have HY:=zad hY;have HBY:=zad hby;have HBK:=zad hbk;have HBL:=zad hbl;have HCY:=zad hcy;have HMX:=zad hM;have HYL:=zad hyl;clear hY hby hbk hbl hcy hM hyl;intro m
 induction m with
 | zero =>
  intro x S A c W hx hm
  have hg:=((btw_mem hb h20).1 hx).1;have:=(sqS_nn hg).1;omega
 | succ m ih =>
  intro x S A c W hx hm hk hi hC hc
  have HIH:=zad ih;clear ih;have hg:=((btw_mem hb h20).1 hx).1;have hfew:=good_few hg;obtain ⟨kt,hkt⟩:=Ev.get (listText_ev x (by omega) hfew.2);have HT:=zad hkt;have HLK:=zad (fun W' hW=>li_look hb h20 hi hx W' hW);have x0:=lw_keep (gb_keep hk) HBK.out nbk;have x1:=lw_keep (gb_keep hk) HBY.out nby
  have x2:=lw_keep (gb_keep hk) HBL.out nbl;have HK:=zad hk;have HI:=zad hi;have HC:=zad hC;have HCC:=zad hc;have HX:=zad hx;have HM:=zad hm;have HBW:=zad (Below.refl W.heap.size W);clear hkt hk hi hC hc hx hm;by_cases hS:x ∈ S
  ·rw [if_pos hS,zba hS] at HLK
   go_enter Tryz.func23,Tryz.ntmps23;go_wp2
   go_region_law ((with_reducible refine gateS_ 13 rfl ?_);refine goes_ Tryz.func24 (by kernel_rfl) rfl #[.slice A x.length c] (by rfl) rfl rfl (tabt) ?_;(refine (impl_listText.calls kt A c x (textB x) _ ?side1 ?side2 HT.out).mono ?_);(case side1=>exact HC.out _ (gb_keep (gb_below (tabu))));(case side2=>exact HCC.out);rintro e w1 ⟨rfl,hb1⟩;refine ⟨_,rfl,?_⟩;(have hbw:=zbi (tabu) hb1);have hrun:=HLK.out w1 hbw;have z0:=lw_bx hbw x0;have HB1:=zad hbw;clear hb1 hbw)
   all_goals
    go_wp2
    go_ret
    exact ⟨rfl,gb_below HB1.out,S,li_below HI.out HB1.out,fun y hy=>Or.inl hy⟩
  ·rw [if_neg hS,zbl hS] at HLK
   have HNS:=zad hS;clear hS;obtain ⟨ku,hku⟩:=Ev.get (unitsFrom_ev x yl hg (by rw [HYL.out];exact good_sm (by rw [good_desc];exact ((betB_iff a b).1 hb).1)));rw [show allU x yl 0 x.length=allU x a 0 x.length by rw [HYL.out];exact allU_desc hg] at hku
   obtain ⟨zs,hzs⟩:∃ zs,zs=allU x a 0 x.length:=⟨_,rfl⟩;rw [← hzs] at hku
   have HU:=zad hku;have HZS:=zad hzs;have hfold:lp a x=(zs.map fun z=>1+lp a z).foldl max 0:=by
    rw [hzs];exact lp_step hg
   have HF:=zad hfold;have hzl:zs.length≤1000:=by
    rw [hzs];have h1:=allU_le x a x.length 0;have h2:x.length*x.length≤8*8:=Nat.mul_le_mul (by omega) (by omega);omega
   clear hku hzs hfold;go_enter Tryz.func23,Tryz.ntmps23;go_wp2
   go_region_law ((with_reducible refine gateS_ 13 rfl ?_);refine goes_ Tryz.func24 (by kernel_rfl) rfl #[.slice A x.length c] (by rfl) rfl rfl (tabt) ?_;(refine (impl_listText.calls kt A c x (textB x) _ ?side1 ?side2 HT.out).mono ?_);(case side1=>exact HC.out _ (gb_keep (gb_below (tabu))));(case side2=>exact HCC.out);rintro e w1 ⟨rfl,hb1⟩;refine ⟨_,rfl,?_⟩;(have hbw:=zbi (tabu) hb1);have hrun:=HLK.out w1 hbw;have z0:=lw_bx hbw x0;have z1:=lw_bx hbw x1;have z2:=lw_bx hbw x2;have HB1:=zad hbw;clear hb1 hbw)
   all_goals
    go_wp2_with ((with_reducible refine zbj (f:=25) rfl ?_);refine zbr (some 21) rfl rfl Tryz.func25 (by kernel_rfl) rfl #[.slice A x.length c,.slice Ay yl.length cy] rfl (taac) ?_;(refine (impl_unitsFrom.calls ku A c x Ay cy yl zs _ ?side1 ?side2 ?side3 ?side4 HU.out).mono ?_);(case side1=>exact HC.out _ (gb_keep (gb_below HB1.out)));(case side2=>exact HCC.out);(case side3=>exact HY.out _ (gb_keep (gb_trans HK.out (gb_below HB1.out))));(case side4=>exact HCY.out);rintro e w2 ⟨v21,rfl,ho,hb2⟩;refine ⟨_,rfl,?_⟩;(have hbw:=zbi HB1.out hb2);(obtain ⟨Az,cz,rfl⟩:=Kd.S_slice ho);(have HZ:=zad (show ∀ W',KeepBut w2 W' M none→Kd.C (Kd.slice 3 (Kd.int .i64)) W' Az zs.length zs from fun W' hk'=>(Kd.S_reads' (Kd.S_keep (Kd.S_mono (ok':=fun k=>W.heap.size≤k) (Kd.S_bound ho) (fun k h=>Nat.le_trans HB1.out.size h.2.1)) hk' (fun k h e=>by have h1:=HMX.out;have h2:=HK.out.size;subst e;omega))).2.2));have y0:=lw_bx hb2 z0;have y2:=lw_bx hb2 z2;have HB2:=zad hbw;clear ho hb2 hbw)
    go_loopg [6,23] zs.length (fun gg v6 v23 wr=>∃ (j:Nat) (S2:List (List Int)) (n:Int),v6 = .int .i64 n∧v23 = .int .i64 (j:Int)∧j≤zs.length∧zs.length - j≤gg∧Aside0 (n=((zs.take j).map fun z=>1+lp a z).foldl max 0)∧Aside0 (GB w2 wr M)∧Aside0 (LI a b M S2 wr)∧Aside0 (∀ y ∈ S2,y ∈ S∨sqS y<sqS x))
    case atStart=>exact ⟨0,S,0,by first | rfl | (simp;done),rfl,Nat.zero_le _,by omega,⟨rfl⟩,⟨taeo⟩,⟨by first | exact li_below HI.out HB2.out | exact li_below HI.out (zae HB2.out _)⟩,⟨fun y hy=>Or.inl hy⟩⟩
    case round =>
     obtain ⟨j,S2,n,rfl,rfl,hj,hg',HN2,HG2,HI2,HS2⟩:=hrel;have u0:=lw_keep (gb_keep HG2.out) y0 nbk;have u2:=lw_keep (gb_keep HG2.out) y2 nbl;by_cases hlt:j<zs.length
     ·have c0:decide ((j:Int)<(zs.length:Int))=true:=zba (by omega)
      have q0:(0≤(j:Int))=True:=eq_true (by omega);have q1:((j:Int)<(zs.length:Int))=True:=eq_true (by omega);obtain ⟨ad,Ar,cr,hA,hcr,hrow⟩:=lw_row HZ.out (j:Int) (by omega) (by omega);subst hA;have xz:=(hrow wr (gb_keep HG2.out)).1;rw [Int.toNat_natCast] at xz
      have hz:rd_L2 zs (j:Int)=zs[j]:=rd_L1n hlt;have hmem:zs[j] ∈ allU x a 0 x.length:=by rw [← HZS.out];exact List.getElem_mem hlt
      obtain ⟨hst,hmz⟩:=allU_stp hg hmem;have hbx:=(btw_mem hb h20).1 HX.out;have hin:zs[j] ∈ btwL a b:=(btw_mem hb h20).2 ⟨hst.good,hst.desc,maj_trans hst.maj hbx.2.2.1,hmz⟩;have hzn:=lp_nn (a:=a) hst.good;have hzb:=lp_le (a:=a) hst.good;have hfall:=hst.fall;have hmt:=mx_take a zs hlt;rw [← hz] at hin hzn hzb hfall hmt
      generalize rd_L2 zs (j:Int)=z at *
      have hN2:=HN2.out;have HROW:=zad hrow;have HIN:=zad hin;have HFA:=zad hfall;have HMT:=zad hmt;have HCR:=zad hcr;have hmm:=HM.out;have HWZ:=zad (show wrap64 (1+lp a z)=1+lp a z from w64 (by omega) (by omega));clear hrow hin hfall hmt hcr hmem hst hmz hbx hzn hzb hz hN2 hmm;go_wp2_with ((with_reducible refine gate_dst (N:=30) rfl ?_);refine goesF_ (some 30) rfl rfl 28 23 #[.pointer (some ⟨Bk,0,none⟩),.pointer (some ⟨By,0,none⟩),.pointer (some ⟨Bl,0,none⟩)] EGP.out #[.slice Ar z.length cr] rfl rfl (taci) ?_;(refine (HIH.out z S2 Ar cr wr HIN.out (by have h1:=HM.out;have h2:=HFA.out;omega) (gb_trans HK.out (gb_trans (gb_below HB2.out) HG2.out)) HI2.out (fun W' hk'=>(HROW.out W' (zbw (gb_keep HG2.out) hk' (taad))).2) HCR.out).mono ?_);rintro e w3 ⟨rfl,hg3,S3,hl3,hs3⟩;refine ⟨_,rfl,?_⟩;have HG3:=zad hg3;have HI3:=zad hl3;have HS3:=zad hs3;clear hg3 hl3 hs3)
      all_goals
       go_roundg (zs.length - (j+1))
       case measure=>omega
       case rel=>exact ⟨j+1,S3,_,rfl,by go_num,by omega,by omega,⟨by rw [← HMT.out,← HN2.out];first | exact mx_hi HWZ.out (by assumption) | exact mx_lo HWZ.out (by assumption)⟩,⟨by repeat (first | exact gb_trans HG2.out HG3.out | apply gb_drewN)⟩,⟨HI3.out⟩,⟨fun y hy=>by have h3:=HFA.out;rcases HS3.out y hy with h | h;exact HS2.out y h;exact Or.inr (by omega)⟩⟩
     ·have c0:decide ((j:Int)<(zs.length:Int))=false:=zbl (by omega)
      have e:j=zs.length:=by omega
      have hn:n=lp a x:=by rw [HN2.out,HF.out,e,List.take_length]
      subst hn;have HNX:=zad (show x ∉ S2 from fun h=>by rcases HS2.out x h with h | h;exact HNS.out h;exact absurd h (by omega));have HPUT:=zad (fun W' hW=>li_put hb h20 HI2.out HX.out HNX.out W' hW);have HBR:=zad (Below.refl wr.heap.size wr);clear e HN2;go_wp2
      go_region_law ((with_reducible refine gateS_ 36 rfl ?_);refine goes_ Tryz.func24 (by kernel_rfl) rfl #[.slice A x.length c] (by rfl) rfl rfl (tabt) ?_;(refine (impl_listText.calls kt A c x (textB x) _ ?side1 ?side2 HT.out).mono ?_);(case side1=>exact HC.out _ (gb_keep (gb_trans (gb_below HB2.out) (gb_trans HG2.out (gb_below (tadj))))));(case side2=>exact HCC.out);rintro e w4 ⟨rfl,hb4⟩;refine ⟨_,rfl,?_⟩;(have hbr:=zbi (tadj) hb4);(obtain ⟨w5,hput,hl5,hg5⟩:=HPUT.out w4 hbr);have v0:=lw_bx hbr u0;have HB4:=zad hbr;have HI5:=zad hl5;have HG5:=zad hg5;clear hb4 hbr hl5 hg5)
      all_goals
       go_wp2
       go_ret
       exact ⟨rfl,gb_trans (gb_below HB2.out) (gb_trans HG2.out (gb_trans (gb_below HB4.out) HG5.out)),x :: S2,HI5.out,fun y hy=>by
        rcases List.mem_cons.1 hy with h | h
        ·exact Or.inr (by rw [h];exact Int.le_refl _)
        ·rcases HS2.out y h with h | h
         ·exact Or.inl h
         ·exact Or.inr (by omega)⟩
def impl_LongestPath.f (l0:List Int) (l1:List Int):Option (Int × Bool):=if l0.length≤1048576∧l1.length≤1048576 then some (lpR l0 l1) else none
def lwW (w2:World) (v:Value):World:=(((w2.alloc (.map #[] 0)).alloc (.cells #[v] 24)).alloc (.cells #[.map (some w2.heap.size)] 49)).alloc (.cells #[.func (.func 23) #[] #[.pointer (some ⟨w2.heap.size+1+1,0,none⟩),.pointer (some ⟨w2.heap.size+1,0,none⟩),.pointer (some ⟨w2.heap.size+1+1+1,0,none⟩)]] 36)
theorem lwW_below (w2:World) (v:Value):Below w2.heap.size w2 (lwW w2 v):=by
 unfold lwW;repeat (first | exact Below.refl _ _ | apply zag)
theorem lwW_y (w2:World) (v:Value):(lwW w2 v).cell? ⟨w2.heap.size+1,0,none⟩=some v:=by
 unfold lwW;simp [go_sem]
theorem lwW_k (w2:World) (v:Value):(lwW w2 v).cell? ⟨w2.heap.size+1+1,0,none⟩=some (.map (some w2.heap.size)):=by
 unfold lwW;simp [go_sem]
theorem lwW_l (w2:World) (v:Value):(lwW w2 v).cell? ⟨w2.heap.size+1+1+1,0,none⟩=some (.func (.func 23) #[] #[.pointer (some ⟨w2.heap.size+1+1,0,none⟩),.pointer (some ⟨w2.heap.size+1,0,none⟩),.pointer (some ⟨w2.heap.size+1+1+1,0,none⟩)]):=by
 unfold lwW;simp [go_sem]
theorem lwW_size (w2:World) (v:Value):w2.heap.size<(lwW w2 v).heap.size:=by
 unfold lwW;simp
 omega
theorem lwW_li (a b:List Int) (w2:World) (v:Value):LI a b w2.heap.size [] (lwW w2 v):=by
 have h:LI a b w2.heap.size [] (w2.alloc (.map #[] 0)):=⟨.map [],km_start a b,World.ownsMap_made _ _ _ _⟩;refine li_below h ?_
 unfold lwW;repeat (first | exact Below.refl _ _ | apply zag)
theorem impl_LongestPath.calls (A0:Option Addr) (c0:Nat) (l0:List Int) (A1:Option Addr) (c1:Nat) (l1:List Int) (r1:Int) (r2:Bool) (w:World) (hr0:Kd.C (Kd.int .i64) w A0 l0.length l0) (hc0:l0.length≤c0) (hr1:Kd.C (Kd.int .i64) w A1 l1.length l1) (hc1:l1.length≤c1) (h:impl_LongestPath.f l0 l1=some (r1,r2)) :
 Calls Tryz.prog 6 #[.slice A0 l0.length c0,.slice A1 l1.length c1] w fun e w'=>e = .returned (.tuple #[.int .i64 r1,.bool r2])∧Below w.heap.size w w':=by
 unfold impl_LongestPath.f at h
 split at h
 next hl =>
  have hR:=zbg h;obtain ⟨kb,hkb⟩:=Ev.get (isBetween_ev l0 l1 hl.1 hl.2);have hmm:=@run_makeMap Tryz.prog;have HR0:=zad hr0;have HC0:=zad hc0;have HR1:=zad hr1;have HC1:=zad hc1;have HB:=zad (Below.refl w.heap.size w);clear hr0 hr1 hc0 hc1 h;unfold lpR at hR
  by_cases hb:betB l0 l1=true
  ·rw [if_pos hb] at hR
   rw [hb] at hkb
   have HKB:=zad hkb;have hs1:=good_sm ((betB_iff l0 l1).1 hb).2.1;have hs0:=good_sm ((betB_iff l0 l1).1 hb).1;obtain ⟨ks,hks⟩:=Ev.get (total_ev l1 hs1);have HKS:=zad hks;clear hkb hks;by_cases h20:l1.sum≤20
   ·rw [if_pos h20] at hR
    obtain ⟨rfl,rfl⟩:lp l0 (descL l1)=r1∧true=r2:=by simpa using hR
    clear hR;have t20:decide (l1.sum>20)=false:=zbl (by omega);have HRK0:=zad (ranking_eq hs0);have HRK1:=zad (ranking_eq hs1);have HBT:=zad hb;have H20:=zad h20;have HMEM:=zad (show descL l1 ∈ btwL l0 l1 from (btw_mem hb h20).2 ⟨by rw [good_desc];exact ((betB_iff l0 l1).1 hb).2.1,descL_desc l1,by rw [maj_desc_l];exact maj_refl l1,by rw [majB_descR];exact ((betB_iff l0 l1).1 hb).2.2⟩);have HSQ:=zad (show sqS (descL l1)<(28801:Nat) from by have:=(sqS_nn (p:=descL l1) (by rw [good_desc];exact ((betB_iff l0 l1).1 hb).2.1)).2;omega);clear hs0 hs1 hl hb h20;go_enter Tryz.func6,Tryz.ntmps6;go_upto_region 6 with (first | ((with_reducible refine zbj (f:=20) rfl ?_);refine zbr (some 11) rfl rfl Tryz.func20 (by kernel_rfl) rfl #[.slice A0 l0.length c0,.slice A1 l1.length c1] rfl (taac) ?_;(refine (impl_isBetween.calls kb A0 c0 l0 A1 c1 l1 true _ ?side1 ?side2 ?side3 ?side4 HKB.out).mono ?_);(case side1=>exact HR0.out);(case side2=>exact HC0.out);(case side3=>exact HR1.out);(case side4=>exact HC1.out);rintro e w1 ⟨rfl,hb1⟩;refine ⟨_,rfl,?_⟩;have HB1:=zad hb1;clear hb1) | (go_at_call 21;(refine (impl_total.calls ks A1 c1 l1 l1.sum _ ?side1 ?side2 HKS.out).mono ?_);(case side1=>exact Kd.C_below HR1.out HB1.out);(case side2=>exact HC1.out);rintro e w' ⟨rfl,⟨nd,rfl⟩⟩) | ((with_reducible refine zbj (f:=22) rfl ?_);refine zbr (some 19) rfl rfl Tryz.func22 (by kernel_rfl) rfl #[.slice A0 l0.length c0] rfl (taac) ?_;(refine (impl_ranking.calls A0 c0 l0 (descL l0) _ ?side1 ?side2 HRK0.out).mono ?_);(case side1=>exact Kd.C_below HR0.out (tado));(case side2=>exact HC0.out);rintro e w2 ⟨v19,rfl,ho,hb2⟩;refine ⟨_,rfl,?_⟩;(have hbw:=zbi (tado) hb2);(obtain ⟨Ay,cy,rfl⟩:=zbz ho);have HO:=zad ho;have HB2:=zad hbw;clear ho hb2 hbw))
    have hw3:=lwW_below w2 (.slice Ay (descL l0).length cy);have xy:=lwW_y w2 (.slice Ay (descL l0).length cy);have xk:=lwW_k w2 (.slice Ay (descL l0).length cy);have xl:=lwW_l w2 (.slice Ay (descL l0).length cy);have hsz:=lwW_size w2 (.slice Ay (descL l0).length cy);have hli:=lwW_li l0 l1 w2 (.slice Ay (descL l0).length cy);change Code.wp Tryz.prog _ _ _ (lwW w2 (.slice Ay (descL l0).length cy))
    generalize lwW w2 (.slice Ay (descL l0).length cy)=W3 at *
    have HY:=zad (show ∀ W',KeepBut W3 W' w2.heap.size none→Kd.C (Kd.int .i64) W' Ay (descL l0).length (descL l0) from fun W' hk'=>(zbh (zbv (zbu (ok':=fun k=>k<w2.heap.size) (Kd.R_bound (HO.out)) (fun k h=>h.2.2.1)) ((KeepBut.of_below hw3 w2.heap.size none).trans hk' (.inl rfl)) (fun k h e=>by omega))).2.2);have HCY:=zad (zbh HO.out).2.1;have XY:=zad xy;have XK:=zad xk;have XL:=zad xl;have HSZ:=zad hsz;have HLI:=zad hli;have HW3:=zad (zbi HB2.out hw3);have HBW:=zad (Below.refl W3.heap.size W3);have EGP:=zad (show ∀ args w,(callFunc 23 args).run Tryz.prog w = .ok (.enter 23 args) w from fun args w=>enters_ Tryz.func23 (by kernel_rfl) rfl args w);clear hw3 xy xk hsz hli HO;go_region_law (first | ((with_reducible refine gateS_ 24 rfl ?_);refine goes_ Tryz.func22 (by kernel_rfl) rfl #[.slice A1 l1.length c1] (by rfl) rfl rfl (tabt) ?_;(refine (impl_ranking.calls A1 c1 l1 (descL l1) _ ?side1 ?side2 HRK1.out).mono ?_);(case side1=>exact Kd.C_below HR1.out (zbi HW3.out (tabu)));(case side2=>exact HC1.out);rintro e w4 ⟨v24,rfl,ho,hb4⟩;refine ⟨_,rfl,?_⟩;(have hbw:=zbi (tabu) hb4);(obtain ⟨Ax,cx,rfl⟩:=zbz ho);have z3:=lw_bx hbw xl;have HO4:=zad (show Kd.R (Kd.int .i64) 3 w4 W3.heap.size (fun _=>True) (.slice Ax (descL l1).length cx) (descL l1) from zby ho (zbo (tabu)));have HB4:=zad hbw;clear ho hb4 hbw) | ((with_reducible refine gateS_ 25 rfl ?_);refine goesFS_ (some 25) 22 23 #[.pointer (some ⟨w2.heap.size+1+1,0,none⟩),.pointer (some ⟨w2.heap.size+1,0,none⟩),.pointer (some ⟨w2.heap.size+1+1+1,0,none⟩)] EGP.out #[.slice Ax (descL l1).length cx] (by rfl) rfl rfl (tabt) (tabt) ?_;(refine (long_calls l0 l1 HBT.out H20.out (descL l0) rfl Ay cy W3 w2.heap.size (w2.heap.size+1) (w2.heap.size+1+1) (w2.heap.size+1+1+1) HSZ.out HY.out HCY.out XY.out (by omega) XK.out (by omega) XL.out (by omega) 28801 (descL l1) [] Ax cx w4 ?side1 ?side2 (gb_below HB4.out) (li_below HLI.out HB4.out) ?side3 (zbh HO4.out).2.1).mono ?_);(case side1=>exact HMEM.out);(case side2=>exact HSQ.out);(case side3=>exact fun W' hk'=>(zbh (zbv (zbu (ok':=fun k=>W3.heap.size≤k) (Kd.R_bound HO4.out) (fun k h=>h.2.1)) hk' (fun k h e=>by have:=HSZ.out;omega))).2.2);rintro e w5 ⟨rfl,hg5,S5,hl5,hs5⟩;refine ⟨_,rfl,?_⟩;have HG5:=zad hg5;clear hg5 hl5 hs5))
    all_goals
     go_wp2
     go_ret2
     exact ⟨rfl,below_gb (zbi HW3.out HB4.out) HG5.out HB2.out.size⟩
   ·rw [if_neg h20] at hR
    obtain ⟨rfl,rfl⟩:(0:Int)=r1∧false=r2:=by simpa using hR
    clear hR;have t20:decide (l1.sum>20)=true:=zba (by omega);clear hs0 hs1 hl hb h20;go_enter Tryz.func6,Tryz.ntmps6;go_wp2_with (first | ((with_reducible refine zbj (f:=20) rfl ?_);refine zbr (some 11) rfl rfl Tryz.func20 (by kernel_rfl) rfl #[.slice A0 l0.length c0,.slice A1 l1.length c1] rfl (taac) ?_;(refine (impl_isBetween.calls kb A0 c0 l0 A1 c1 l1 true _ ?side1 ?side2 ?side3 ?side4 HKB.out).mono ?_);(case side1=>exact HR0.out);(case side2=>exact HC0.out);(case side3=>exact HR1.out);(case side4=>exact HC1.out);rintro e w1 ⟨rfl,hb1⟩;refine ⟨_,rfl,?_⟩;have HB1:=zad hb1;clear hb1) | (go_at_call 21;(refine (impl_total.calls ks A1 c1 l1 l1.sum _ ?side1 ?side2 HKS.out).mono ?_);(case side1=>exact Kd.C_below HR1.out HB1.out);(case side2=>exact HC1.out);rintro e w' ⟨rfl,⟨nd,rfl⟩⟩))
    go_ret2
    exact ⟨rfl,(tado)⟩
  ·rw [if_neg hb] at hR
   rw [zbk.2 hb] at hkb
   have HKB:=zad hkb;obtain ⟨rfl,rfl⟩:(0:Int)=r1∧false=r2:=by simpa using hR
   clear hR hkb hl hb;go_enter Tryz.func6,Tryz.ntmps6;go_wp2_with ((with_reducible refine zbj (f:=20) rfl ?_);refine zbr (some 11) rfl rfl Tryz.func20 (by kernel_rfl) rfl #[.slice A0 l0.length c0,.slice A1 l1.length c1] rfl (taac) ?_;(refine (impl_isBetween.calls kb A0 c0 l0 A1 c1 l1 false _ ?side1 ?side2 ?side3 ?side4 HKB.out).mono ?_);(case side1=>exact HR0.out);(case side2=>exact HC0.out);(case side3=>exact HR1.out);(case side4=>exact HC1.out);rintro e w1 ⟨rfl,hb1⟩;refine ⟨_,rfl,?_⟩;have HB1:=zad hb1;clear hb1)
   go_ret2
   exact ⟨rfl,(tado)⟩
 next=>cases h
mutual
def laws_FnLongestPaths.j0:Nat→List Int→List Int→List Int→Int→Bool→Bool→Option (Bool)
 | 0,_,_,_,_,_,_=>none
 | k+1,x1,x5,x6,x7,x10,x60=>if x60=true then (some false) else ((spec_DrawLevelOff.f k x1).bind fun t632=>((impl_LevelOff.f k t632).bind fun bt635=>((spec_LevelOff.f k t632).bind fun bt639=>(if (bt635.2 != bt639.2)=true then (laws_FnLongestPaths.j1 k x5 x6 x7 x10 t632 bt635.1 bt635.2 true) else ((laws_pGifts.f k bt635.1 bt639.1).bind fun t643=>(laws_FnLongestPaths.j1 k x5 x6 x7 x10 t632 bt635.1 bt635.2 (!t643)))))))
def laws_FnLongestPaths.j1:Nat→List Int→List Int→Int→Bool→List Int→List (S59)→Bool→Bool→Option (Bool)
 | 0,_,_,_,_,_,_,_,_=>none
 | k+1,x5,x6,x7,x10,x11,x12,x13,x81=>if x81=true then (some false) else (if x13=true then ((laws_pSum.f k x11).bind fun t644=>((impl_MostEven.f k (x11.length:Int) t644).bind fun bt645=>((impl_IsGiftPath.f bt645.1 x11 x12).bind fun bt649=>(if bt645.2=true then (if bt649.2=true then (if bt649.1=true then (laws_FnLongestPaths.j2 k x5 x6 x7 x10) else (some false)) else (some false)) else (some false))))) else (laws_FnLongestPaths.j2 k x5 x6 x7 x10))
def laws_FnLongestPaths.j2:Nat→List Int→List Int→Int→Bool→Option (Bool)
 | 0,_,_,_,_=>none
 | k+1,x5,x6,x7,x10=>(impl_GiftsBetween.f k x5 x6).bind fun bt651=>((spec_GiftsBetween.f k x5 x6).bind fun bt653=>(if (bt651.2 != bt653.2)=true then (laws_FnLongestPaths.j3 k x5 x6 x7 x10 bt651.1 true) else (laws_FnLongestPaths.j3 k x5 x6 x7 x10 bt651.1 (bt651.1 != bt653.1))))
def laws_FnLongestPaths.j3:Nat→List Int→List Int→Int→Bool→Int→Bool→Option (Bool)
 | 0,_,_,_,_,_,_=>none
 | k+1,x5,x6,x7,x10,x20,x127=>if x127=true then (some false) else (if x10=true then ((impl_FewestUnits.f k x5 x6).bind fun bt655=>(if bt655.2=true then (if x7<bt655.1 then (laws_FnLongestPaths.j4 k x5 x6 x7 true) else (if ((x7 == 0) != (bt655.1 == 0))=true then (laws_FnLongestPaths.j4 k x5 x6 x7 true) else (laws_FnLongestPaths.j4 k x5 x6 x7 ((x20 == 0) != (bt655.1 == 0))))) else (laws_FnLongestPaths.j4 k x5 x6 x7 true))) else (some true))
def laws_FnLongestPaths.j4:Nat→List Int→List Int→Int→Bool→Option (Bool)
 | 0,_,_,_,_=>none
 | k+1,x5,x6,x7,x156=>if x156=true then (some false) else ((impl_LowerCovers.f k x6).bind fun bt657=>(if bt657.2=true then (laws_FnLongestPaths.l0 k x5 x7 (-1) bt657.1 (bt657.1.length:Int) 0) else (some false)))
def laws_FnLongestPaths.l0:Nat→List Int→Int→Int→List (List Int)→Int→Int→Option (Bool)
 | 0,_,_,_,_,_,_=>none
 | k+1,x5,x7,x28,x164,x165,x166=>if x166<x165 then (if 0≤x166 then (if x166<(x164.length:Int) then ((impl_LongestPath.f x5 (rd_L2 x164 x166)).bind fun bt662=>(if bt662.2=true then (if bt662.1>x28 then (laws_FnLongestPaths.l0 k x5 x7 bt662.1 x164 x165 (wrap64 (x166+1))) else (laws_FnLongestPaths.l0 k x5 x7 x28 x164 x165 (wrap64 (x166+1)))) else (laws_FnLongestPaths.l0 k x5 x7 x28 x164 x165 (wrap64 (x166+1))))) else (none)) else (none)) else (some (x7 == (wrap64 (x28+1))))
end
def laws_FnLongestPaths.f (k:Nat) (l0:List Int) (l1:List Int):Option (Bool):=(laws_big.f l0 l1).bind fun t621=>(if t621=true then (some true) else ((spec_DrawLongestPath.f k l0).bind fun bt622=>((impl_LongestPath.f bt622.1 bt622.2).bind fun bt628=>((spec_LongestPath.f k bt622.1 bt622.2).bind fun bt630=>(if (bt628.2 != bt630.2)=true then (laws_FnLongestPaths.j0 k l1 bt622.1 bt622.2 bt628.1 bt630.2 true) else (laws_FnLongestPaths.j0 k l1 bt622.1 bt622.2 bt628.1 bt630.2 (bt628.1 != bt630.1)))))))
theorem laws_FnLongestPaths.calls (k:Nat) (A0:Option Addr) (c0:Nat) (l0:List Int) (A1:Option Addr) (c1:Nat) (l1:List Int) (r:Bool) (w:World) (hr0:Kd.C (Kd.int .u8) w A0 l0.length l0) (hc0:l0.length≤c0) (hr1:Kd.C (Kd.int .u8) w A1 l1.length l1) (hc1:l1.length≤c1) (h:laws_FnLongestPaths.f k l0 l1=some r) :
 Calls Tryz.prog 3 #[.slice A0 l0.length c0,.slice A1 l1.length c1] w fun e w'=>e = .returned (.bool r)∧Below w.heap.size w w':=by
 have HR0:=zad hr0;have HC0:=zad hc0;clear hr0 hc0;have HR1:=zad hr1;have HC1:=zad hc1;clear hr1 hc1;have HB:=zad (Below.refl w.heap.size w);have H:((laws_big.f l0 l1).bind fun t621=>(if t621=true then (some true) else ((spec_DrawLongestPath.f k l0).bind fun bt622=>((impl_LongestPath.f bt622.1 bt622.2).bind fun bt628=>((spec_LongestPath.f k bt622.1 bt622.2).bind fun bt630=>(if (bt628.2 != bt630.2)=true then (laws_FnLongestPaths.j0 k l1 bt622.1 bt622.2 bt628.1 bt630.2 true) else (laws_FnLongestPaths.j0 k l1 bt622.1 bt622.2 bt628.1 bt630.2 (bt628.1 != bt630.1))))))))=some r:=h;clear h;replace H:=zay.mp H;obtain ⟨t621,A30,H⟩:=H;replace H:(if t621=true then (some true) else ((spec_DrawLongestPath.f k l0).bind fun bt622=>((impl_LongestPath.f bt622.1 bt622.2).bind fun bt628=>((spec_LongestPath.f k bt622.1 bt622.2).bind fun bt630=>(if (bt628.2 != bt630.2)=true then (laws_FnLongestPaths.j0 k l1 bt622.1 bt622.2 bt628.1 bt630.2 true) else (laws_FnLongestPaths.j0 k l1 bt622.1 bt622.2 bt628.1 bt630.2 (bt628.1 != bt630.1)))))))=some r:=H;have A3:=zad A30;clear A30;by_cases c4:t621=true
 ·subst c4
  have H1:(some true)=some r:=by rw [if_pos rfl] at H;exact H
  clear H;have H:=H1;clear H1;obtain rfl:=zbg H;go_enter Tryz.func3,Tryz.ntmps3;go_wp2_with (first | ((with_reducible refine zbj (f:=4) rfl ?_);refine zbr (some 35) rfl rfl Tryz.func4 (by kernel_rfl) rfl #[.slice A0 l0.length c0,.slice A1 l1.length c1] rfl (taac) ?_;(with_reducible refine (laws_big.calls _ _ l0 _ _ l1 true _ ?side1 ?side2 ?side3 ?side4 A3.out).mono ?_);(case side1=>exact tahq);(case side2=>exact HC0.out);(case side3=>exact tahu);(case side4=>exact HC1.out);rintro e w' ⟨rfl,⟨nd,rfl⟩⟩;refine ⟨_,rfl,?_⟩))
  go_ret
  exact ⟨taah,taaa⟩
 ·replace c4:=zbk.mpr c4
  subst c4;have H1:((spec_DrawLongestPath.f k l0).bind fun bt622=>((impl_LongestPath.f bt622.1 bt622.2).bind fun bt628=>((spec_LongestPath.f k bt622.1 bt622.2).bind fun bt630=>(if (bt628.2 != bt630.2)=true then (laws_FnLongestPaths.j0 k l1 bt622.1 bt622.2 bt628.1 bt630.2 true) else (laws_FnLongestPaths.j0 k l1 bt622.1 bt622.2 bt628.1 bt630.2 (bt628.1 != bt630.1))))))=some r:=by rw [if_neg (show ¬ (false=true) by decide)] at H;exact H
  clear H;have H:=H1;clear H1;replace H:=zay.mp H;obtain ⟨⟨t622,t623⟩,A50,H⟩:=H;replace H:((impl_LongestPath.f t622 t623).bind fun bt628=>((spec_LongestPath.f k t622 t623).bind fun bt630=>(if (bt628.2 != bt630.2)=true then (laws_FnLongestPaths.j0 k l1 t622 t623 bt628.1 bt630.2 true) else (laws_FnLongestPaths.j0 k l1 t622 t623 bt628.1 bt630.2 (bt628.1 != bt630.1)))))=some r:=H;have A5:=zad A50;clear A50;replace H:=zay.mp H;obtain ⟨⟨t628,t629⟩,A60,H⟩:=H;replace H:((spec_LongestPath.f k t622 t623).bind fun bt630=>(if (t629 != bt630.2)=true then (laws_FnLongestPaths.j0 k l1 t622 t623 t628 bt630.2 true) else (laws_FnLongestPaths.j0 k l1 t622 t623 t628 bt630.2 (t628 != bt630.1))))=some r:=H;have A6:=zad A60;clear A60;replace H:=zay.mp H;obtain ⟨⟨t630,t631⟩,A70,H⟩:=H;replace H:(if (t629 != t631)=true then (laws_FnLongestPaths.j0 k l1 t622 t623 t628 t631 true) else (laws_FnLongestPaths.j0 k l1 t622 t623 t628 t631 (t628 != t630)))=some r:=H;have A7:=zad A70;clear A70;have HC8:=zad H;clear H;go_enter Tryz.func3,Tryz.ntmps3;go_upto_region 6 with (first | ((with_reducible refine zbj (f:=4) rfl ?_);refine zbr (some 35) rfl rfl Tryz.func4 (by kernel_rfl) rfl #[.slice A0 l0.length c0,.slice A1 l1.length c1] rfl (taac) ?_;(with_reducible refine (laws_big.calls _ _ l0 _ _ l1 false _ ?side1 ?side2 ?side3 ?side4 A3.out).mono ?_);(case side1=>exact tahq);(case side2=>exact HC0.out);(case side3=>exact tahu);(case side4=>exact HC1.out);rintro e w' ⟨rfl,⟨nd,rfl⟩⟩;refine ⟨_,rfl,?_⟩) | ((with_reducible refine zbj (f:=5) rfl ?_);refine zbr (some 38) rfl rfl Tryz.func5 (by kernel_rfl) rfl #[.slice A0 l0.length c0] rfl (taac) ?_;(with_reducible refine (spec_DrawLongestPath.calls k _ _ l0 t622 t623 _ ?side1 ?side2 A5.out).mono ?_);(case side1=>exact tahq);(case side2=>exact HC0.out);rintro e w9 ⟨v624,v626,rfl,ho0,ho1,hb⟩;refine ⟨_,rfl,?_⟩;have n0_:=zad (zby ho0 (zbo (taaa)));have n1_:=zad (zby ho1 (zbo (taaa)));have n2_:=zad (zbi (taaa) hb);clear HB;have HO625:=n0_;have HO627:=n1_;have HB:=n2_;clear n0_ n1_ n2_;(try clear hb);(try clear hb2);(try clear hk);(try clear hi);(try clear ho0);(try clear ho1);obtain ⟨Ao10,co10,eo10⟩:=zbz HO625.out;subst eo10;obtain ⟨Ao11,co11,eo11⟩:=zbz HO627.out;subst eo11) | ((with_reducible refine zbj (f:=6) rfl ?_);refine zbr (some 44) rfl rfl Tryz.func6 (by kernel_rfl) rfl #[.slice Ao10 t622.length co10,.slice Ao11 t623.length co11] rfl (taac) ?_;(with_reducible refine (impl_LongestPath.calls _ _ t622 _ _ t623 t628 t629 _ ?side1 ?side2 ?side3 ?side4 A6.out).mono ?_);(case side1=>exact tait);(case side2=>exact (zbh HO625.out).2.1);(case side3=>exact taiu);(case side4=>exact (zbh HO627.out).2.1);rintro e w12 ⟨rfl,hb⟩;refine ⟨_,rfl,?_⟩;have n0_:=zad (zbx (tadp) hb);have n1_:=zad (zbx (tadq) hb);have n2_:=zad (zbi (taaa) hb);clear HO625 HO627 HB;have HO625:=n0_;have HO627:=n1_;have HB:=n2_;clear n0_ n1_ n2_;(try clear hb);(try clear hb2);(try clear hk);(try clear hi)) | ((with_reducible refine zbj (f:=7) rfl ?_);refine zbr (some 50) rfl rfl Tryz.func7 (by kernel_rfl) rfl #[.slice Ao10 t622.length co10,.slice Ao11 t623.length co11] rfl (taac) ?_;(with_reducible refine (spec_LongestPath.calls k _ _ t622 _ _ t623 t630 t631 _ ?side1 ?side2 ?side3 ?side4 A7.out).mono ?_);(case side1=>exact tait);(case side2=>exact (zbh HO625.out).2.1);(case side3=>exact taiu);(case side4=>exact (zbh HO627.out).2.1);rintro e w13 ⟨rfl,hb⟩;refine ⟨_,rfl,?_⟩;have n0_:=zad (zbx (tadp) hb);have n1_:=zad (zbx (tadq) hb);have n2_:=zad (zbi (taaa) hb);clear HO625 HO627 HB;have HO625:=n0_;have HO627:=n1_;have HB:=n2_;clear n0_ n1_ n2_;(try clear hb);(try clear hb2);(try clear hk);(try clear hi)))
  (try simp only [Act.put,zaa,zab,zac])
  go_cut [60] (fun v60 wc=>∃ (kq:Nat) (x60_7:Bool),v60 = .bool x60_7∧Aside0 (laws_FnLongestPaths.j0 kq l1 t622 t623 t628 t631 x60_7=some r)∧Aside0 (kq≤k)∧Aside0 (Kd.R (Kd.int .i64) 3 wc w.heap.size (fun k_=>some k_≠((.slice Ao11 t623.length co11):Value).ownBlock) (.slice Ao10 t622.length co10) t622)∧Aside0 (Kd.R (Kd.int .i64) 3 wc w.heap.size (fun k_=>some k_≠((.slice Ao10 t622.length co10):Value).ownBlock) (.slice Ao11 t623.length co11) t623)∧Aside0 (Below w.heap.size w wc))
  case first=>as_aux_lemma =>
   have H:=HC8.out;clear HC8;by_cases c14:(t629 != t631)=true
   ·rw [if_pos c14] at H
    have c14b0:(t629 != t631)=true:=c14;(try (have c14b1:decide (t629=t631)=false:=by simpa using c14))
    (try (have c14b2:(t629 == t631)=false:=by simpa using c14))
    (try (have c14b3:¬ (t629=t631):=by simpa using c14))
    clear c14;(first | rw [c14b0] | (simp only [i64_w,i32_w];rw [c14b0]) | skip)
    have H':=zad H;clear H;go_wp2
    go_meet
    case rel=>exact ⟨_,(true),(taae),H',⟨tabf⟩,⟨tadp⟩,⟨tadq⟩,⟨taaa⟩⟩
   ·rw [if_neg c14] at H
    have c14b0:(t629 != t631)=false:=by simpa using c14
    (try (have c14b1:decide (t629=t631)=true:=by simpa using c14))
    (try (have c14b2:(t629 == t631)=true:=by simpa using c14))
    clear c14;(first | rw [c14b0] | (simp only [i64_w,i32_w];rw [c14b0]) | skip)
    have H':=zad H;clear H;go_wp2
    go_meet
    case rel=>exact ⟨_,((t628 != t630)),(taae),H',⟨tabf⟩,⟨tadp⟩,⟨tadq⟩,⟨taaa⟩⟩
  case rest=>as_aux_lemma =>
   clear HC8;try clear c1
   try clear p2
   try clear c3
   try clear c4
   try clear c5
   try clear c6
   try clear c7
   try clear c14
   try clear c14b0
   try clear c14b1
   try clear c14b2
   obtain ⟨kq,x60_7,rfl,HA,HJ7,HO_5,HO_6,HB⟩:=hcut;cases kq with
   | zero=>exact absurd HA.out (by simp [laws_FnLongestPaths.j0])
   | succ kj7 =>
    have H:=HA.out;clear HA;simp only [laws_FnLongestPaths.j0] at H;by_cases c15:x60_7=true
    ·subst c15
     have H1:(some false)=some r:=by rw [if_pos rfl] at H;exact H
     clear H;have H:=H1;clear H1;obtain rfl:=zbg H;go_wp2
     go_ret
     exact ⟨taah,taaa⟩
    ·replace c15:=zbk.mpr c15
     subst c15;have H1:((spec_DrawLevelOff.f kj7 l1).bind fun t632=>((impl_LevelOff.f kj7 t632).bind fun bt635=>((spec_LevelOff.f kj7 t632).bind fun bt639=>(if (bt635.2 != bt639.2)=true then (laws_FnLongestPaths.j1 kj7 t622 t623 t628 t631 t632 bt635.1 bt635.2 true) else ((laws_pGifts.f kj7 bt635.1 bt639.1).bind fun t643=>(laws_FnLongestPaths.j1 kj7 t622 t623 t628 t631 t632 bt635.1 bt635.2 (!t643)))))))=some r:=by rw [if_neg (show ¬ (false=true) by decide)] at H;exact H
     clear H;have H:=H1;clear H1;replace H:=zay.mp H;obtain ⟨t632,A160,H⟩:=H;replace H:((impl_LevelOff.f kj7 t632).bind fun bt635=>((spec_LevelOff.f kj7 t632).bind fun bt639=>(if (bt635.2 != bt639.2)=true then (laws_FnLongestPaths.j1 kj7 t622 t623 t628 t631 t632 bt635.1 bt635.2 true) else ((laws_pGifts.f kj7 bt635.1 bt639.1).bind fun t643=>(laws_FnLongestPaths.j1 kj7 t622 t623 t628 t631 t632 bt635.1 bt635.2 (!t643))))))=some r:=H;have A16:=zad A160;clear A160;replace H:=zay.mp H;obtain ⟨⟨t635,t636⟩,A170,H⟩:=H;replace H:((spec_LevelOff.f kj7 t632).bind fun bt639=>(if (t636 != bt639.2)=true then (laws_FnLongestPaths.j1 kj7 t622 t623 t628 t631 t632 t635 t636 true) else ((laws_pGifts.f kj7 t635 bt639.1).bind fun t643=>(laws_FnLongestPaths.j1 kj7 t622 t623 t628 t631 t632 t635 t636 (!t643)))))=some r:=H;have A17:=zad A170;clear A170;replace H:=zay.mp H;obtain ⟨⟨t639,t640⟩,A180,H⟩:=H;replace H:(if (t636 != t640)=true then (laws_FnLongestPaths.j1 kj7 t622 t623 t628 t631 t632 t635 t636 true) else ((laws_pGifts.f kj7 t635 t639).bind fun t643=>(laws_FnLongestPaths.j1 kj7 t622 t623 t628 t631 t632 t635 t636 (!t643))))=some r:=H;have A18:=zad A180;clear A180;have HC19:=zad H;clear H;go_upto_region 11 with (first | ((with_reducible refine zbj (f:=8) rfl ?_);refine zbr (some 62) rfl rfl Tryz.func8 (by kernel_rfl) rfl #[.slice A1 l1.length c1] rfl (taac) ?_;(with_reducible refine (spec_DrawLevelOff.calls kj7 _ _ l1 t632 _ ?side1 ?side2 A16.out).mono ?_);(case side1=>exact tahw);(case side2=>exact HC1.out);rintro e w20 ⟨v633,rfl,ho0,hb⟩;refine ⟨_,rfl,?_⟩;have n0_:=zad (zcb (taal) (zcd ho0) hb);have n1_:=zad (zcb (taai) (zcd ho0) hb);have n2_:=zad (zby (zcc (zcc ho0 (zce (taal))) (zce (taai))) (zbo (taaa)));have n3_:=zad (zbi (taaa) hb);clear HO_5 HO_6 HB;have HO_5:=n0_;have HO_6:=n1_;have HO634:=n2_;have HB:=n3_;clear n0_ n1_ n2_ n3_;(try clear hb);(try clear hb2);(try clear hk);(try clear hi);(try clear ho0);obtain ⟨Ao21,co21,eo21⟩:=zbz HO634.out;subst eo21) | ((with_reducible refine zbj (f:=9) rfl ?_);refine zbr (some 65) rfl rfl Tryz.func9 (by kernel_rfl) rfl #[.slice Ao21 t632.length co21] rfl (taac) ?_;(with_reducible refine (impl_LevelOff.calls kj7 _ _ t632 t635 t636 _ ?side1 ?side2 A17.out).mono ?_);(case side1=>exact taiv);(case side2=>exact (zbh HO634.out).2.1);rintro e w22 ⟨v637,rfl,ho0,hb⟩;refine ⟨_,rfl,?_⟩;have n0_:=zad (zbx (taal) hb);have n1_:=zad (zbx (taai) hb);have n2_:=zad (zbx (tahb) hb);have n3_:=zad (zby ho0 (zbo (taaa)));have n4_:=zad (zbi (taaa) hb);clear HO_5 HO_6 HO634 HB;have HO_5:=n0_;have HO_6:=n1_;have HO634:=n2_;have HO638:=n3_;have HB:=n4_;clear n0_ n1_ n2_ n3_ n4_;(try clear hb);(try clear hb2);(try clear hk);(try clear hi);(try clear ho0)) | ((with_reducible refine zbj (f:=10) rfl ?_);refine zbr (some 70) rfl rfl Tryz.func10 (by kernel_rfl) rfl #[.slice Ao21 t632.length co21] rfl (taac) ?_;(with_reducible refine (spec_LevelOff.calls kj7 _ _ t632 t639 t640 _ ?side1 ?side2 A18.out).mono ?_);(case side1=>exact taiv);(case side2=>exact (zbh HO634.out).2.1);rintro e w23 ⟨v641,rfl,ho0,hb⟩;refine ⟨_,rfl,?_⟩;have n0_:=zad (zbx (taal) hb);have n1_:=zad (zbx (taai) hb);have n2_:=zad (zbx (tahb) hb);have n3_:=zad (zcb (tahc) (zcd ho0) hb);have n4_:=zad (zby (zcc ho0 (zce (tahc))) (zbo (taaa)));have n5_:=zad (zbi (taaa) hb);clear HO_5 HO_6 HO634 HO638 HB;have HO_5:=n0_;have HO_6:=n1_;have HO634:=n2_;have HO638:=n3_;have HO642:=n4_;have HB:=n5_;clear n0_ n1_ n2_ n3_ n4_ n5_;(try clear hb);(try clear hb2);(try clear hk);(try clear hi);(try clear ho0)))
     (try simp only [Act.put,zaa,zab,zac])
     go_cut [81] (fun v81 wc=>∃ (kq:Nat) (x81_18:Bool),v81 = .bool x81_18∧Aside0 (laws_FnLongestPaths.j1 kq t622 t623 t628 t631 t632 t635 t636 x81_18=some r)∧Aside0 (kq≤kj7)∧Aside0 (Kd.R (Kd.int .i64) 3 wc w.heap.size (fun k_=>some k_≠((.slice Ao11 t623.length co11):Value).ownBlock∧some k_≠((.slice Ao21 t632.length co21):Value).ownBlock) (.slice Ao10 t622.length co10) t622)∧Aside0 (Kd.R (Kd.int .i64) 3 wc w.heap.size (fun k_=>some k_≠((.slice Ao10 t622.length co10):Value).ownBlock∧some k_≠((.slice Ao21 t632.length co21):Value).ownBlock) (.slice Ao11 t623.length co11) t623)∧Aside0 (Kd.R (Kd.int .i64) 3 wc w.heap.size (fun k_=>some k_≠((.slice Ao10 t622.length co10):Value).ownBlock∧some k_≠((.slice Ao11 t623.length co11):Value).ownBlock) (.slice Ao21 t632.length co21) t632)∧Aside0 (Kd.R k59 59 wc w.heap.size (fun _=>True) v637 t635)∧Aside0 (Below w.heap.size w wc))
     case first=>as_aux_lemma =>
      have H:=HC19.out;clear HC19;by_cases c24:(t636 != t640)=true
      ·rw [if_pos c24] at H
       have c24b0:(t636 != t640)=true:=c24;(try (have c24b1:decide (t636=t640)=false:=by simpa using c24))
       (try (have c24b2:(t636 == t640)=false:=by simpa using c24))
       (try (have c24b3:¬ (t636=t640):=by simpa using c24))
       clear c24;(first | rw [c24b0] | (simp only [i64_w,i32_w];rw [c24b0]) | skip)
       have H':=zad H;clear H;go_wp2
       go_meet
       case rel=>exact ⟨_,(true),(taae),H',⟨by have:=HJ7.out;first | omega | exact zcf _⟩,⟨taal⟩,⟨taai⟩,⟨tahd⟩,⟨tahe⟩,⟨taaa⟩⟩
      ·rw [if_neg c24] at H
       have c24b0:(t636 != t640)=false:=by simpa using c24
       (try (have c24b1:decide (t636=t640)=true:=by simpa using c24))
       (try (have c24b2:(t636 == t640)=true:=by simpa using c24))
       clear c24;(first | rw [c24b0] | (simp only [i64_w,i32_w];rw [c24b0]) | skip)
       replace H:=zay.mp H;obtain ⟨t643,A250,H⟩:=H;replace H:(laws_FnLongestPaths.j1 kj7 t622 t623 t628 t631 t632 t635 t636 (!t643))=some r:=H;have A25:=zad A250;clear A250;have H':=zad H;clear H;obtain ⟨Ao26,co26,eo26⟩:=zbz HO638.out;subst eo26;obtain ⟨Ao27,co27,eo27⟩:=zbz HO642.out;subst eo27;go_wp2_with (first | (go_at_call 11;(with_reducible refine (laws_pGifts.calls kj7 _ _ t635 _ _ t639 t643 _ ?side1 ?side2 ?side3 ?side4 A25.out).mono ?_);(case side1=>repeat (first | exact (zbh HO638.out).2.2 | (with_reducible refine zal ?_ _) | (with_reducible refine zam ?_ _) | (with_reducible refine zan ?_)));(case side2=>exact (zbh HO638.out).2.1);(case side3=>repeat (first | exact (zbh HO642.out).2.2 | (with_reducible refine zal ?_ _) | (with_reducible refine zam ?_ _) | (with_reducible refine zan ?_)));(case side4=>exact (zbh HO642.out).2.1);rintro e w' ⟨rfl,⟨nd,rfl⟩⟩))
       go_meet
       case rel=>exact ⟨_,(!t643),(taae),H',⟨by have:=HJ7.out;first | omega | exact zcf _⟩,⟨taal⟩,⟨taai⟩,⟨tahd⟩,⟨tahe⟩,⟨taaa⟩⟩
     case rest=>as_aux_lemma =>
      clear HC19;try clear c1
      try clear c2
      try clear p2
      try clear c3
      try clear c4
      try clear c5
      try clear c6
      try clear c7
      try clear c8
      try clear c9
      try clear c10
      try clear c14
      try clear c14b0
      try clear c14b1
      try clear c14b2
      try clear c15
      try clear c24
      try clear c24b0
      try clear c24b1
      try clear c24b2
      try clear p2
      obtain ⟨kq,x81_18,rfl,HA,HJ18,HO_5,HO_6,HO_11,HO_12,HB⟩:=hcut;cases kq with
      | zero=>exact absurd HA.out (by simp [laws_FnLongestPaths.j1])
      | succ kj18 =>
       have H:=HA.out;clear HA;simp only [laws_FnLongestPaths.j1] at H;by_cases c28:x81_18=true
       ·subst c28
        have H1:(some false)=some r:=by rw [if_pos rfl] at H;exact H
        clear H;have H:=H1;clear H1;obtain rfl:=zbg H;go_wp2
        go_ret
        exact ⟨taah,taaa⟩
       ·replace c28:=zbk.mpr c28
        subst c28;have H1:(if t636=true then ((laws_pSum.f kj18 t632).bind fun t644=>((impl_MostEven.f kj18 (t632.length:Int) t644).bind fun bt645=>((impl_IsGiftPath.f bt645.1 t632 t635).bind fun bt649=>(if bt645.2=true then (if bt649.2=true then (if bt649.1=true then (laws_FnLongestPaths.j2 kj18 t622 t623 t628 t631) else (some false)) else (some false)) else (some false))))) else (laws_FnLongestPaths.j2 kj18 t622 t623 t628 t631))=some r:=by rw [if_neg (show ¬ (false=true) by decide)] at H;exact H
        clear H;have H:=H1;clear H1;have HC29:=zad H;clear H;go_upto_if 82 with (fail)
        go_cut [] (fun wc=>∃ (kq:Nat),Aside0 (laws_FnLongestPaths.j2 kq t622 t623 t628 t631=some r)∧Aside0 (kq≤kj18)∧Aside0 (Kd.R (Kd.int .i64) 3 wc w.heap.size (fun k_=>some k_≠((.slice Ao11 t623.length co11):Value).ownBlock) (.slice Ao10 t622.length co10) t622)∧Aside0 (Kd.R (Kd.int .i64) 3 wc w.heap.size (fun k_=>some k_≠((.slice Ao10 t622.length co10):Value).ownBlock) (.slice Ao11 t623.length co11) t623)∧Aside0 (Below w.heap.size w wc))
        case first=>as_aux_lemma =>
         have H:=HC29.out;clear HC29;by_cases c30:t636=true
         ·subst c30
          have H1:((laws_pSum.f kj18 t632).bind fun t644=>((impl_MostEven.f kj18 (t632.length:Int) t644).bind fun bt645=>((impl_IsGiftPath.f bt645.1 t632 t635).bind fun bt649=>(if bt645.2=true then (if bt649.2=true then (if bt649.1=true then (laws_FnLongestPaths.j2 kj18 t622 t623 t628 t631) else (some false)) else (some false)) else (some false)))))=some r:=by rw [if_pos rfl] at H;exact H
          clear H;have H:=H1;clear H1;replace H:=zay.mp H;obtain ⟨t644,A310,H⟩:=H;replace H:((impl_MostEven.f kj18 (t632.length:Int) t644).bind fun bt645=>((impl_IsGiftPath.f bt645.1 t632 t635).bind fun bt649=>(if bt645.2=true then (if bt649.2=true then (if bt649.1=true then (laws_FnLongestPaths.j2 kj18 t622 t623 t628 t631) else (some false)) else (some false)) else (some false))))=some r:=H;have A31:=zad A310;clear A310;replace H:=zay.mp H;obtain ⟨⟨t645,t646⟩,A320,H⟩:=H;replace H:((impl_IsGiftPath.f t645 t632 t635).bind fun bt649=>(if t646=true then (if bt649.2=true then (if bt649.1=true then (laws_FnLongestPaths.j2 kj18 t622 t623 t628 t631) else (some false)) else (some false)) else (some false)))=some r:=H;have A32:=zad A320;clear A320;replace H:=zay.mp H;obtain ⟨⟨t649,t650⟩,A330,H⟩:=H;replace H:(if t646=true then (if t650=true then (if t649=true then (laws_FnLongestPaths.j2 kj18 t622 t623 t628 t631) else (some false)) else (some false)) else (some false))=some r:=H;have A33:=zad A330;clear A330;by_cases c34:t646=true
          ·subst c34
           have H1:(if t650=true then (if t649=true then (laws_FnLongestPaths.j2 kj18 t622 t623 t628 t631) else (some false)) else (some false))=some r:=by rw [if_pos rfl] at H;exact H
           clear H;have H:=H1;clear H1;by_cases c35:t650=true
           ·subst c35
            have H1:(if t649=true then (laws_FnLongestPaths.j2 kj18 t622 t623 t628 t631) else (some false))=some r:=by rw [if_pos rfl] at H;exact H
            clear H;have H:=H1;clear H1;by_cases c36:t649=true
            ·subst c36
             have H1:(laws_FnLongestPaths.j2 kj18 t622 t623 t628 t631)=some r:=by rw [if_pos rfl] at H;exact H
             clear H;have H:=H1;clear H1;have H':=zad H;clear H;go_wp2_with (first | ((with_reducible refine zbj (f:=13) rfl ?_);refine zbr (some 87) rfl rfl Tryz.func13 (by kernel_rfl) rfl #[.slice Ao21 t632.length co21] rfl (taac) ?_;(with_reducible refine (laws_pSum.calls kj18 _ _ t632 t644 _ ?side1 ?side2 A31.out).mono ?_);(case side1=>exact tahx);(case side2=>exact tahy);rintro e w' ⟨rfl,⟨nd,rfl⟩⟩;refine ⟨_,rfl,?_⟩) | ((with_reducible refine zbj (f:=12) rfl ?_);refine zbr (some 88) rfl rfl Tryz.func12 (by kernel_rfl) rfl #[.int .i64 (t632.length:Int),.int .i64 t644] rfl (taac) ?_;(with_reducible refine (impl_MostEven.calls kj18 (t632.length:Int) t644 t645 true _ A32.out).mono ?_);rintro e w37 ⟨v647,rfl,ho0,hb⟩;refine ⟨_,rfl,?_⟩;have n0_:=zad (zcb (taal) (zcd ho0) hb);have n1_:=zad (zcb (taai) (zcd ho0) hb);have n2_:=zad (zcb (taay) (zcd ho0) hb);have n3_:=zad (zbx (tabo) hb);have n4_:=zad (zby (zcc (zcc (zcc ho0 (zce (taal))) (zce (taai))) (zce (taay))) (zbo (taaa)));have n5_:=zad (zbi (taaa) hb);clear HO_5 HO_6 HO_11 HO_12 HB;have HO_5:=n0_;have HO_6:=n1_;have HO_11:=n2_;have HO_12:=n3_;have HO648:=n4_;have HB:=n5_;clear n0_ n1_ n2_ n3_ n4_ n5_;(try clear hb);(try clear hb2);(try clear hk);(try clear hi);(try clear ho0);obtain ⟨Ao38,co38,eo38⟩:=zbz HO648.out;subst eo38;obtain ⟨Ao39,co39,eo39⟩:=zbz HO_12.out;subst eo39) | ((with_reducible refine zbj (f:=14) rfl ?_);refine zbr (some 95) rfl rfl Tryz.func14 (by kernel_rfl) rfl #[.slice Ao38 t645.length co38,.slice Ao21 t632.length co21,.slice Ao39 t635.length co39] rfl (taac) ?_;(with_reducible refine (impl_IsGiftPath.calls _ _ t645 _ _ t632 _ _ t635 true true _ ?side1 ?side2 ?side3 ?side4 ?side5 ?side6 A33.out).mono ?_);(case side1=>exact taih);(case side2=>exact (zbh HO648.out).2.1);(case side3=>exact tahx);(case side4=>exact tahy);(case side5=>exact taii);(case side6=>exact (zbh HO_12.out).2.1);rintro e w40 ⟨rfl,hb⟩;refine ⟨_,rfl,?_⟩;have n0_:=zad (zbx (taal) hb);have n1_:=zad (zbx (taai) hb);have n2_:=zad (zbx (taay) hb);have n3_:=zad (zbx (tabo) hb);have n4_:=zad (zbx (tadr) hb);have n5_:=zad (zbi (taaa) hb);clear HO_5 HO_6 HO_11 HO_12 HO648 HB;have HO_5:=n0_;have HO_6:=n1_;have HO_11:=n2_;have HO_12:=n3_;have HO648:=n4_;have HB:=n5_;clear n0_ n1_ n2_ n3_ n4_ n5_;(try clear hb);(try clear hb2);(try clear hk);(try clear hi)))
             go_meet
             case rel=>exact ⟨_,H',⟨tahf⟩,⟨by (with_reducible repeat (first | apply zai | apply zaj | apply zak));exact zbu HO_5.out (fun _ hk=>hk.1.1)⟩,⟨by (with_reducible repeat (first | apply zai | apply zaj | apply zak));exact zbu HO_6.out (fun _ hk=>hk.1.1)⟩,⟨taaa⟩⟩
            ·replace c36:=zbk.mpr c36
             subst c36;have H1:(some false)=some r:=by rw [if_neg (show ¬ (false=true) by decide)] at H;exact H
             clear H;have H:=H1;clear H1;obtain rfl:=zbg H;go_wp2_with (first | ((with_reducible refine zbj (f:=13) rfl ?_);refine zbr (some 87) rfl rfl Tryz.func13 (by kernel_rfl) rfl #[.slice Ao21 t632.length co21] rfl (taac) ?_;(with_reducible refine (laws_pSum.calls kj18 _ _ t632 t644 _ ?side1 ?side2 A31.out).mono ?_);(case side1=>exact tahx);(case side2=>exact tahy);rintro e w' ⟨rfl,⟨nd,rfl⟩⟩;refine ⟨_,rfl,?_⟩) | ((with_reducible refine zbj (f:=12) rfl ?_);refine zbr (some 88) rfl rfl Tryz.func12 (by kernel_rfl) rfl #[.int .i64 (t632.length:Int),.int .i64 t644] rfl (taac) ?_;(with_reducible refine (impl_MostEven.calls kj18 (t632.length:Int) t644 t645 true _ A32.out).mono ?_);rintro e w41 ⟨v647,rfl,ho0,hb⟩;refine ⟨_,rfl,?_⟩;have n0_:=zad (zcb (taal) (zcd ho0) hb);have n1_:=zad (zcb (taai) (zcd ho0) hb);have n2_:=zad (zcb (taay) (zcd ho0) hb);have n3_:=zad (zbx (tabo) hb);have n4_:=zad (zby (zcc (zcc (zcc ho0 (zce (taal))) (zce (taai))) (zce (taay))) (zbo (taaa)));have n5_:=zad (zbi (taaa) hb);clear HO_5 HO_6 HO_11 HO_12 HB;have HO_5:=n0_;have HO_6:=n1_;have HO_11:=n2_;have HO_12:=n3_;have HO648:=n4_;have HB:=n5_;clear n0_ n1_ n2_ n3_ n4_ n5_;(try clear hb);(try clear hb2);(try clear hk);(try clear hi);(try clear ho0);obtain ⟨Ao42,co42,eo42⟩:=zbz HO648.out;subst eo42;obtain ⟨Ao43,co43,eo43⟩:=zbz HO_12.out;subst eo43) | ((with_reducible refine zbj (f:=14) rfl ?_);refine zbr (some 95) rfl rfl Tryz.func14 (by kernel_rfl) rfl #[.slice Ao42 t645.length co42,.slice Ao21 t632.length co21,.slice Ao43 t635.length co43] rfl (taac) ?_;(with_reducible refine (impl_IsGiftPath.calls _ _ t645 _ _ t632 _ _ t635 false true _ ?side1 ?side2 ?side3 ?side4 ?side5 ?side6 A33.out).mono ?_);(case side1=>exact taih);(case side2=>exact (zbh HO648.out).2.1);(case side3=>exact tahx);(case side4=>exact tahy);(case side5=>exact taii);(case side6=>exact (zbh HO_12.out).2.1);rintro e w44 ⟨rfl,hb⟩;refine ⟨_,rfl,?_⟩;have n0_:=zad (zbx (taal) hb);have n1_:=zad (zbx (taai) hb);have n2_:=zad (zbx (taay) hb);have n3_:=zad (zbx (tabo) hb);have n4_:=zad (zbx (tadr) hb);have n5_:=zad (zbi (taaa) hb);clear HO_5 HO_6 HO_11 HO_12 HO648 HB;have HO_5:=n0_;have HO_6:=n1_;have HO_11:=n2_;have HO_12:=n3_;have HO648:=n4_;have HB:=n5_;clear n0_ n1_ n2_ n3_ n4_ n5_;(try clear hb);(try clear hb2);(try clear hk);(try clear hi)))
             go_ret
             exact ⟨taah,taaa⟩
           ·replace c35:=zbk.mpr c35
            subst c35;have H1:(some false)=some r:=by rw [if_neg (show ¬ (false=true) by decide)] at H;exact H
            clear H;have H:=H1;clear H1;obtain rfl:=zbg H;go_wp2_with (first | ((with_reducible refine zbj (f:=13) rfl ?_);refine zbr (some 87) rfl rfl Tryz.func13 (by kernel_rfl) rfl #[.slice Ao21 t632.length co21] rfl (taac) ?_;(with_reducible refine (laws_pSum.calls kj18 _ _ t632 t644 _ ?side1 ?side2 A31.out).mono ?_);(case side1=>exact tahx);(case side2=>exact tahy);rintro e w' ⟨rfl,⟨nd,rfl⟩⟩;refine ⟨_,rfl,?_⟩) | ((with_reducible refine zbj (f:=12) rfl ?_);refine zbr (some 88) rfl rfl Tryz.func12 (by kernel_rfl) rfl #[.int .i64 (t632.length:Int),.int .i64 t644] rfl (taac) ?_;(with_reducible refine (impl_MostEven.calls kj18 (t632.length:Int) t644 t645 true _ A32.out).mono ?_);rintro e w45 ⟨v647,rfl,ho0,hb⟩;refine ⟨_,rfl,?_⟩;have n0_:=zad (zcb (taal) (zcd ho0) hb);have n1_:=zad (zcb (taai) (zcd ho0) hb);have n2_:=zad (zcb (taay) (zcd ho0) hb);have n3_:=zad (zbx (tabo) hb);have n4_:=zad (zby (zcc (zcc (zcc ho0 (zce (taal))) (zce (taai))) (zce (taay))) (zbo (taaa)));have n5_:=zad (zbi (taaa) hb);clear HO_5 HO_6 HO_11 HO_12 HB;have HO_5:=n0_;have HO_6:=n1_;have HO_11:=n2_;have HO_12:=n3_;have HO648:=n4_;have HB:=n5_;clear n0_ n1_ n2_ n3_ n4_ n5_;(try clear hb);(try clear hb2);(try clear hk);(try clear hi);(try clear ho0);obtain ⟨Ao46,co46,eo46⟩:=zbz HO648.out;subst eo46;obtain ⟨Ao47,co47,eo47⟩:=zbz HO_12.out;subst eo47) | ((with_reducible refine zbj (f:=14) rfl ?_);refine zbr (some 95) rfl rfl Tryz.func14 (by kernel_rfl) rfl #[.slice Ao46 t645.length co46,.slice Ao21 t632.length co21,.slice Ao47 t635.length co47] rfl (taac) ?_;(with_reducible refine (impl_IsGiftPath.calls _ _ t645 _ _ t632 _ _ t635 t649 false _ ?side1 ?side2 ?side3 ?side4 ?side5 ?side6 A33.out).mono ?_);(case side1=>exact taih);(case side2=>exact (zbh HO648.out).2.1);(case side3=>exact tahx);(case side4=>exact tahy);(case side5=>exact taii);(case side6=>exact (zbh HO_12.out).2.1);rintro e w48 ⟨rfl,hb⟩;refine ⟨_,rfl,?_⟩;have n0_:=zad (zbx (taal) hb);have n1_:=zad (zbx (taai) hb);have n2_:=zad (zbx (taay) hb);have n3_:=zad (zbx (tabo) hb);have n4_:=zad (zbx (tadr) hb);have n5_:=zad (zbi (taaa) hb);clear HO_5 HO_6 HO_11 HO_12 HO648 HB;have HO_5:=n0_;have HO_6:=n1_;have HO_11:=n2_;have HO_12:=n3_;have HO648:=n4_;have HB:=n5_;clear n0_ n1_ n2_ n3_ n4_ n5_;(try clear hb);(try clear hb2);(try clear hk);(try clear hi)))
            go_ret
            exact ⟨taah,taaa⟩
          ·replace c34:=zbk.mpr c34
           subst c34;have H1:(some false)=some r:=by rw [if_neg (show ¬ (false=true) by decide)] at H;exact H
           clear H;have H:=H1;clear H1;obtain rfl:=zbg H;go_wp2_with (first | ((with_reducible refine zbj (f:=13) rfl ?_);refine zbr (some 87) rfl rfl Tryz.func13 (by kernel_rfl) rfl #[.slice Ao21 t632.length co21] rfl (taac) ?_;(with_reducible refine (laws_pSum.calls kj18 _ _ t632 t644 _ ?side1 ?side2 A31.out).mono ?_);(case side1=>exact tahx);(case side2=>exact tahy);rintro e w' ⟨rfl,⟨nd,rfl⟩⟩;refine ⟨_,rfl,?_⟩) | ((with_reducible refine zbj (f:=12) rfl ?_);refine zbr (some 88) rfl rfl Tryz.func12 (by kernel_rfl) rfl #[.int .i64 (t632.length:Int),.int .i64 t644] rfl (taac) ?_;(with_reducible refine (impl_MostEven.calls kj18 (t632.length:Int) t644 t645 false _ A32.out).mono ?_);rintro e w49 ⟨v647,rfl,ho0,hb⟩;refine ⟨_,rfl,?_⟩;have n0_:=zad (zcb (taal) (zcd ho0) hb);have n1_:=zad (zcb (taai) (zcd ho0) hb);have n2_:=zad (zcb (taay) (zcd ho0) hb);have n3_:=zad (zbx (tabo) hb);have n4_:=zad (zby (zcc (zcc (zcc ho0 (zce (taal))) (zce (taai))) (zce (taay))) (zbo (taaa)));have n5_:=zad (zbi (taaa) hb);clear HO_5 HO_6 HO_11 HO_12 HB;have HO_5:=n0_;have HO_6:=n1_;have HO_11:=n2_;have HO_12:=n3_;have HO648:=n4_;have HB:=n5_;clear n0_ n1_ n2_ n3_ n4_ n5_;(try clear hb);(try clear hb2);(try clear hk);(try clear hi);(try clear ho0);obtain ⟨Ao50,co50,eo50⟩:=zbz HO648.out;subst eo50;obtain ⟨Ao51,co51,eo51⟩:=zbz HO_12.out;subst eo51) | ((with_reducible refine zbj (f:=14) rfl ?_);refine zbr (some 95) rfl rfl Tryz.func14 (by kernel_rfl) rfl #[.slice Ao50 t645.length co50,.slice Ao21 t632.length co21,.slice Ao51 t635.length co51] rfl (taac) ?_;(with_reducible refine (impl_IsGiftPath.calls _ _ t645 _ _ t632 _ _ t635 t649 t650 _ ?side1 ?side2 ?side3 ?side4 ?side5 ?side6 A33.out).mono ?_);(case side1=>exact taih);(case side2=>exact (zbh HO648.out).2.1);(case side3=>exact tahx);(case side4=>exact tahy);(case side5=>exact taii);(case side6=>exact (zbh HO_12.out).2.1);rintro e w52 ⟨rfl,hb⟩;refine ⟨_,rfl,?_⟩;have n0_:=zad (zbx (taal) hb);have n1_:=zad (zbx (taai) hb);have n2_:=zad (zbx (taay) hb);have n3_:=zad (zbx (tabo) hb);have n4_:=zad (zbx (tadr) hb);have n5_:=zad (zbi (taaa) hb);clear HO_5 HO_6 HO_11 HO_12 HO648 HB;have HO_5:=n0_;have HO_6:=n1_;have HO_11:=n2_;have HO_12:=n3_;have HO648:=n4_;have HB:=n5_;clear n0_ n1_ n2_ n3_ n4_ n5_;(try clear hb);(try clear hb2);(try clear hk);(try clear hi)))
           go_ret
           exact ⟨taah,taaa⟩
         ·replace c30:=zbk.mpr c30
          subst c30;have H1:(laws_FnLongestPaths.j2 kj18 t622 t623 t628 t631)=some r:=by rw [if_neg (show ¬ (false=true) by decide)] at H;exact H
          clear H;have H:=H1;clear H1;have H':=zad H;clear H;go_wp2
          go_meet
          case rel=>exact ⟨_,H',⟨tahf⟩,⟨by (with_reducible repeat (first | apply zai | apply zaj | apply zak));exact zbu HO_5.out (fun _ hk=>hk.1)⟩,⟨by (with_reducible repeat (first | apply zai | apply zaj | apply zak));exact zbu HO_6.out (fun _ hk=>hk.1)⟩,⟨taaa⟩⟩
        case rest=>as_aux_lemma =>
         clear HC29;try clear c1
         try clear c2
         try clear p2
         try clear c3
         try clear c4
         try clear c5
         try clear c6
         try clear c7
         try clear c8
         try clear c9
         try clear c10
         try clear c12
         try clear c13
         try clear c14
         try clear c14b0
         try clear c14b1
         try clear c14b2
         try clear c15
         try clear c24
         try clear c24b0
         try clear c24b1
         try clear c24b2
         try clear c28
         try clear c30
         try clear c34
         try clear c35
         try clear c36
         try clear p2
         obtain ⟨kq,HA,HJ28,HO_5,HO_6,HB⟩:=hcut;cases kq with
         | zero=>exact absurd HA.out (by simp [laws_FnLongestPaths.j2])
         | succ kj28 =>
          have H:=HA.out;clear HA;simp only [laws_FnLongestPaths.j2] at H;replace H:=zay.mp H;obtain ⟨⟨t651,t652⟩,A530,H⟩:=H;replace H:((spec_GiftsBetween.f kj28 t622 t623).bind fun bt653=>(if (t652 != bt653.2)=true then (laws_FnLongestPaths.j3 kj28 t622 t623 t628 t631 t651 true) else (laws_FnLongestPaths.j3 kj28 t622 t623 t628 t631 t651 (t651 != bt653.1))))=some r:=H;have A53:=zad A530;clear A530;replace H:=zay.mp H;obtain ⟨⟨t653,t654⟩,A540,H⟩:=H;replace H:(if (t652 != t654)=true then (laws_FnLongestPaths.j3 kj28 t622 t623 t628 t631 t651 true) else (laws_FnLongestPaths.j3 kj28 t622 t623 t628 t631 t651 (t651 != t653)))=some r:=H;have A54:=zad A540;clear A540;have HC55:=zad H;clear H;go_upto_region 20 with (first | ((with_reducible refine zbj (f:=15) rfl ?_);refine zbr (some 111) rfl rfl Tryz.func15 (by kernel_rfl) rfl #[.slice Ao10 t622.length co10,.slice Ao11 t623.length co11] rfl (taac) ?_;(with_reducible refine (impl_GiftsBetween.calls kj28 _ _ t622 _ _ t623 t651 t652 _ ?side1 ?side2 ?side3 ?side4 A53.out).mono ?_);(case side1=>exact taic);(case side2=>exact taid);(case side3=>exact taib);(case side4=>exact tahv);rintro e w56 ⟨rfl,hb⟩;refine ⟨_,rfl,?_⟩;have n0_:=zad (zbx (taal) hb);have n1_:=zad (zbx (taai) hb);have n2_:=zad (zbi (taaa) hb);clear HO_5 HO_6 HB;have HO_5:=n0_;have HO_6:=n1_;have HB:=n2_;clear n0_ n1_ n2_;(try clear hb);(try clear hb2);(try clear hk);(try clear hi)) | ((with_reducible refine zbj (f:=16) rfl ?_);refine zbr (some 117) rfl rfl Tryz.func16 (by kernel_rfl) rfl #[.slice Ao10 t622.length co10,.slice Ao11 t623.length co11] rfl (taac) ?_;(with_reducible refine (spec_GiftsBetween.calls kj28 _ _ t622 _ _ t623 t653 t654 _ ?side1 ?side2 ?side3 ?side4 A54.out).mono ?_);(case side1=>exact taic);(case side2=>exact taid);(case side3=>exact taib);(case side4=>exact tahv);rintro e w57 ⟨rfl,hb⟩;refine ⟨_,rfl,?_⟩;have n0_:=zad (zbx (taal) hb);have n1_:=zad (zbx (taai) hb);have n2_:=zad (zbi (taaa) hb);clear HO_5 HO_6 HB;have HO_5:=n0_;have HO_6:=n1_;have HB:=n2_;clear n0_ n1_ n2_;(try clear hb);(try clear hb2);(try clear hk);(try clear hi)))
          (try simp only [Act.put,zaa,zab,zac])
          go_cut [127] (fun v127 wc=>∃ (kq:Nat) (x127_54:Bool),v127 = .bool x127_54∧Aside0 (laws_FnLongestPaths.j3 kq t622 t623 t628 t631 t651 x127_54=some r)∧Aside0 (kq≤kj28)∧Aside0 (Kd.R (Kd.int .i64) 3 wc w.heap.size (fun k_=>some k_≠((.slice Ao11 t623.length co11):Value).ownBlock) (.slice Ao10 t622.length co10) t622)∧Aside0 (Kd.R (Kd.int .i64) 3 wc w.heap.size (fun k_=>some k_≠((.slice Ao10 t622.length co10):Value).ownBlock) (.slice Ao11 t623.length co11) t623)∧Aside0 (Below w.heap.size w wc))
          case first=>as_aux_lemma =>
           have H:=HC55.out;clear HC55;by_cases c58:(t652 != t654)=true
           ·rw [if_pos c58] at H
            have c58b0:(t652 != t654)=true:=c58;(try (have c58b1:decide (t652=t654)=false:=by simpa using c58))
            (try (have c58b2:(t652 == t654)=false:=by simpa using c58))
            (try (have c58b3:¬ (t652=t654):=by simpa using c58))
            clear c58;(first | rw [c58b0] | (simp only [i64_w,i32_w];rw [c58b0]) | skip)
            have H':=zad H;clear H;go_wp2
            go_meet
            case rel=>exact ⟨_,(true),(taae),H',⟨tahg⟩,⟨taal⟩,⟨taai⟩,⟨taaa⟩⟩
           ·rw [if_neg c58] at H
            have c58b0:(t652 != t654)=false:=by simpa using c58
            (try (have c58b1:decide (t652=t654)=true:=by simpa using c58))
            (try (have c58b2:(t652 == t654)=true:=by simpa using c58))
            clear c58;(first | rw [c58b0] | (simp only [i64_w,i32_w];rw [c58b0]) | skip)
            have H':=zad H;clear H;go_wp2
            go_meet
            case rel=>exact ⟨_,((t651 != t653)),(taae),H',⟨tahg⟩,⟨taal⟩,⟨taai⟩,⟨taaa⟩⟩
          case rest=>as_aux_lemma =>
           clear HC55;try clear c1
           try clear c2
           try clear p2
           try clear c3
           try clear c4
           try clear c5
           try clear c6
           try clear c7
           try clear c8
           try clear c9
           try clear c10
           try clear c12
           try clear c13
           try clear c14
           try clear c14b0
           try clear c14b1
           try clear c14b2
           try clear c15
           try clear c16
           try clear c24
           try clear c24b0
           try clear c24b1
           try clear c24b2
           try clear c28
           try clear c30
           try clear c34
           try clear c35
           try clear c36
           try clear c58
           try clear c58b0
           try clear c58b1
           try clear c58b2
           try clear p2
           obtain ⟨kq,x127_54,rfl,HA,HJ54,HO_5,HO_6,HB⟩:=hcut;cases kq with
           | zero=>exact absurd HA.out (by simp [laws_FnLongestPaths.j3])
           | succ kj54 =>
            have H:=HA.out;clear HA;simp only [laws_FnLongestPaths.j3] at H;by_cases c59:x127_54=true
            ·subst c59
             have H1:(some false)=some r:=by rw [if_pos rfl] at H;exact H
             clear H;have H:=H1;clear H1;obtain rfl:=zbg H;go_wp2
             go_ret
             exact ⟨taah,taaa⟩
            ·replace c59:=zbk.mpr c59
             subst c59;have H1:(if t631=true then ((impl_FewestUnits.f kj54 t622 t623).bind fun bt655=>(if bt655.2=true then (if t628<bt655.1 then (laws_FnLongestPaths.j4 kj54 t622 t623 t628 true) else (if ((t628 == 0) != (bt655.1 == 0))=true then (laws_FnLongestPaths.j4 kj54 t622 t623 t628 true) else (laws_FnLongestPaths.j4 kj54 t622 t623 t628 ((t651 == 0) != (bt655.1 == 0))))) else (laws_FnLongestPaths.j4 kj54 t622 t623 t628 true))) else (some true))=some r:=by rw [if_neg (show ¬ (false=true) by decide)] at H;exact H
             clear H;have H:=H1;clear H1;by_cases c60:t631=true
             ·subst c60
              have H1:((impl_FewestUnits.f kj54 t622 t623).bind fun bt655=>(if bt655.2=true then (if t628<bt655.1 then (laws_FnLongestPaths.j4 kj54 t622 t623 t628 true) else (if ((t628 == 0) != (bt655.1 == 0))=true then (laws_FnLongestPaths.j4 kj54 t622 t623 t628 true) else (laws_FnLongestPaths.j4 kj54 t622 t623 t628 ((t651 == 0) != (bt655.1 == 0))))) else (laws_FnLongestPaths.j4 kj54 t622 t623 t628 true)))=some r:=by rw [if_pos rfl] at H;exact H
              clear H;have H:=H1;clear H1;replace H:=zay.mp H;obtain ⟨⟨t655,t656⟩,A610,H⟩:=H;replace H:(if t656=true then (if t628<t655 then (laws_FnLongestPaths.j4 kj54 t622 t623 t628 true) else (if ((t628 == 0) != (t655 == 0))=true then (laws_FnLongestPaths.j4 kj54 t622 t623 t628 true) else (laws_FnLongestPaths.j4 kj54 t622 t623 t628 ((t651 == 0) != (t655 == 0))))) else (laws_FnLongestPaths.j4 kj54 t622 t623 t628 true))=some r:=H;have A61:=zad A610;clear A610;have HC62:=zad H;clear H;go_upto_region 25 with (first | ((with_reducible refine zbj (f:=17) rfl ?_);refine zbr (some 133) rfl rfl Tryz.func17 (by kernel_rfl) rfl #[.slice Ao10 t622.length co10,.slice Ao11 t623.length co11] rfl (taac) ?_;(with_reducible refine (impl_FewestUnits.calls kj54 _ _ t622 _ _ t623 t655 t656 _ ?side1 ?side2 ?side3 ?side4 A61.out).mono ?_);(case side1=>exact taic);(case side2=>exact taid);(case side3=>exact taib);(case side4=>exact tahv);rintro e w63 ⟨rfl,hb⟩;refine ⟨_,rfl,?_⟩;have n0_:=zad (zbx (taal) hb);have n1_:=zad (zbx (taai) hb);have n2_:=zad (zbi (taaa) hb);clear HO_5 HO_6 HB;have HO_5:=n0_;have HO_6:=n1_;have HB:=n2_;clear n0_ n1_ n2_;(try clear hb);(try clear hb2);(try clear hk);(try clear hi)))
              (try simp only [Act.put,zaa,zab,zac])
              go_cut [156] (fun v156 wc=>∃ (kq:Nat) (x156_61:Bool),v156 = .bool x156_61∧Aside0 (laws_FnLongestPaths.j4 kq t622 t623 t628 x156_61=some r)∧Aside0 (kq≤kj54)∧Aside0 (Kd.R (Kd.int .i64) 3 wc w.heap.size (fun k_=>some k_≠((.slice Ao11 t623.length co11):Value).ownBlock) (.slice Ao10 t622.length co10) t622)∧Aside0 (Kd.R (Kd.int .i64) 3 wc w.heap.size (fun k_=>some k_≠((.slice Ao10 t622.length co10):Value).ownBlock) (.slice Ao11 t623.length co11) t623)∧Aside0 (Below w.heap.size w wc))
              case first=>as_aux_lemma =>
               have H:=HC62.out;clear HC62;by_cases c64:t656=true
               ·subst c64
                have H1:(if t628<t655 then (laws_FnLongestPaths.j4 kj54 t622 t623 t628 true) else (if ((t628 == 0) != (t655 == 0))=true then (laws_FnLongestPaths.j4 kj54 t622 t623 t628 true) else (laws_FnLongestPaths.j4 kj54 t622 t623 t628 ((t651 == 0) != (t655 == 0)))))=some r:=by rw [if_pos rfl] at H;exact H
                clear H;have H:=H1;clear H1;by_cases c65:t628<t655
                ·rw [if_pos c65] at H
                 have c65b0:decide (t628<t655)=true:=zba c65;clear c65;(first | rw [c65b0] | (simp only [i64_w,i32_w];rw [c65b0]) | skip)
                 have H':=zad H;clear H;go_wp2
                 go_meet
                 case rel=>exact ⟨_,(true),(taae),H',⟨tads⟩,⟨taal⟩,⟨taai⟩,⟨taaa⟩⟩
                ·rw [if_neg c65] at H
                 have c65b0:decide (t628<t655)=false:=zbl c65;clear c65;(first | rw [c65b0] | (simp only [i64_w,i32_w];rw [c65b0]) | skip)
                 by_cases c66:((t628 == 0) != (t655 == 0))=true
                 ·rw [if_pos c66] at H
                  have c66b0:((t628 == 0) != (t655 == 0))=true:=c66;(try (have c66b1:decide ((t628 == 0)=(t655 == 0))=false:=by simpa using c66))
                  (try (have c66b2:((t628 == 0) == (t655 == 0))=false:=by simpa using c66))
                  (try (have c66b3:¬ ((t628 == 0)=(t655 == 0)):=by simpa using c66))
                  clear c66;have H':=zad H;clear H;go_wp2
                  go_meet
                  case rel=>exact ⟨_,(true),(taae),H',⟨tads⟩,⟨taal⟩,⟨taai⟩,⟨taaa⟩⟩
                 ·rw [if_neg c66] at H
                  have c66b0:((t628 == 0) != (t655 == 0))=false:=by simpa using c66
                  (try (have c66b1:decide ((t628 == 0)=(t655 == 0))=true:=by simpa using c66))
                  (try (have c66b2:((t628 == 0) == (t655 == 0))=true:=by simpa using c66))
                  clear c66;have H':=zad H;clear H;go_wp2
                  go_meet
                  case rel=>exact ⟨_,(((t651 == 0) != (t655 == 0))),(taae),H',⟨tads⟩,⟨taal⟩,⟨taai⟩,⟨taaa⟩⟩
               ·replace c64:=zbk.mpr c64
                subst c64;have H1:(laws_FnLongestPaths.j4 kj54 t622 t623 t628 true)=some r:=by rw [if_neg (show ¬ (false=true) by decide)] at H;exact H
                clear H;have H:=H1;clear H1;have H':=zad H;clear H;go_wp2
                go_meet
                case rel=>exact ⟨_,(true),(taae),H',⟨tads⟩,⟨taal⟩,⟨taai⟩,⟨taaa⟩⟩
              case rest=>as_aux_lemma =>
               clear HC62;try clear c1
               try clear c2
               try clear p2
               try clear c3
               try clear c4
               try clear c5
               try clear c6
               try clear c7
               try clear c8
               try clear c9
               try clear c10
               try clear c12
               try clear c13
               try clear c14
               try clear c14b0
               try clear c14b1
               try clear c14b2
               try clear c15
               try clear c16
               try clear c17
               try clear c24
               try clear c24b0
               try clear c24b1
               try clear c24b2
               try clear c28
               try clear c30
               try clear c34
               try clear c35
               try clear c36
               try clear c58
               try clear c58b0
               try clear c58b1
               try clear c58b2
               try clear c59
               try clear c60
               try clear c64
               try clear c65
               try clear c65b0
               try clear c66
               try clear c66b0
               try clear c66b1
               try clear c66b2
               try clear p2
               obtain ⟨kq,x156_61,rfl,HA,HJ61,HO_5,HO_6,HB⟩:=hcut;cases kq with
               | zero=>exact absurd HA.out (by simp [laws_FnLongestPaths.j4])
               | succ kj61 =>
                have H:=HA.out;clear HA;simp only [laws_FnLongestPaths.j4] at H;by_cases c67:x156_61=true
                ·subst c67
                 have H1:(some false)=some r:=by rw [if_pos rfl] at H;exact H
                 clear H;have H:=H1;clear H1;obtain rfl:=zbg H;go_wp2
                 go_ret
                 exact ⟨taah,taaa⟩
                ·replace c67:=zbk.mpr c67
                 subst c67;have H1:((impl_LowerCovers.f kj61 t623).bind fun bt657=>(if bt657.2=true then (laws_FnLongestPaths.l0 kj61 t622 t628 (-1) bt657.1 (bt657.1.length:Int) 0) else (some false)))=some r:=by rw [if_neg (show ¬ (false=true) by decide)] at H;exact H
                 clear H;have H:=H1;clear H1;replace H:=zay.mp H;obtain ⟨⟨t657,t658⟩,A680,H⟩:=H;replace H:(if t658=true then (laws_FnLongestPaths.l0 kj61 t622 t628 (-1) t657 (t657.length:Int) 0) else (some false))=some r:=H;have A68:=zad A680;clear A680;by_cases c69:t658=true
                 ·subst c69
                  have H1:(laws_FnLongestPaths.l0 kj61 t622 t628 (-1) t657 (t657.length:Int) 0)=some r:=by rw [if_pos rfl] at H;exact H
                  clear H;have H:=H1;clear H1;have H':=zad H;clear H;go_wp2_with (first | ((with_reducible refine zbj (f:=18) rfl ?_);refine zbr (some 159) rfl rfl Tryz.func18 (by kernel_rfl) rfl #[.slice Ao11 t623.length co11] rfl (taac) ?_;(with_reducible refine (impl_LowerCovers.calls kj61 _ _ t623 t657 true _ ?side1 ?side2 A68.out).mono ?_);(case side1=>exact taib);(case side2=>exact tahv);rintro e w70 ⟨v659,rfl,ho0,hb⟩;refine ⟨_,rfl,?_⟩;have n0_:=zad (zbx (taal) hb);have n1_:=zad (zbx (taai) hb);have n2_:=zad (Kd.S_lower (Kd.S_new' (Kd.S_new' ho0 (zce (taal))) (zce (taai))) (zbo (taaa)));have n3_:=zad (zbi (taaa) hb);clear HO_5 HO_6 HB;have HO_5:=n0_;have HO_6:=n1_;have HO660:=n2_;have HB:=n3_;clear n0_ n1_ n2_ n3_;(try clear hb);(try clear hb2);(try clear hk);(try clear hi);(try clear ho0);obtain ⟨Ao71,co71,eo71⟩:=Kd.S_slice HO660.out;subst eo71))
                  go_loopg [28,166] kj61 (fun kq v28 v166 w'=>∃ (x28_6:Int) (x166_6:Int),v28 = .int .i64 x28_6∧v166 = .int .i64 x166_6∧Aside0 (laws_FnLongestPaths.l0 kq t622 t628 x28_6 t657 (t657.length:Int) x166_6=some r)∧Aside0 (kq≤kj61)∧Aside0 (Kd.R (Kd.int .i64) 3 w' w.heap.size (fun _=>True) (.slice Ao10 t622.length co10) t622)∧Aside0 (Kd.S (Kd.slice 3 (Kd.int .i64)) 24 w' w.heap.size (fun k_=>some k_≠((.slice Ao10 t622.length co10):Value).ownBlock) (.slice Ao71 t657.length co71) t657)∧Aside0 (Below w.heap.size w w'))
                  case atStart=>exact ⟨((-1)),(0),(taae),(taae),H',⟨zcf _⟩,⟨by (with_reducible repeat (first | apply zai | apply zaj | apply zak));exact zbu HO_5.out (fun _ hk=>trivial)⟩,⟨by (with_reducible repeat (first | apply Kd.S_alloc | apply Kd.S_drewN | apply Kd.S_drew));exact Kd.S_mono HO660.out (fun _ hk=>hk.1.2)⟩,⟨taaa⟩⟩
                  case round =>
                   clear H';try clear c1
                   try clear c2
                   try clear p2
                   try clear c3
                   try clear c4
                   try clear c5
                   try clear c6
                   try clear c7
                   try clear c8
                   try clear c9
                   try clear c10
                   try clear c12
                   try clear c13
                   try clear c14
                   try clear c14b0
                   try clear c14b1
                   try clear c14b2
                   try clear c15
                   try clear c16
                   try clear c17
                   try clear c18
                   try clear c24
                   try clear c24b0
                   try clear c24b1
                   try clear c24b2
                   try clear c28
                   try clear c30
                   try clear c34
                   try clear c35
                   try clear c36
                   try clear c58
                   try clear c58b0
                   try clear c58b1
                   try clear c58b2
                   try clear c59
                   try clear c60
                   try clear c64
                   try clear c65
                   try clear c65b0
                   try clear c66
                   try clear c66b0
                   try clear c66b1
                   try clear c66b2
                   try clear c67
                   try clear c69
                   try clear p2
                   obtain ⟨x28_6,x166_6,rfl,rfl,HA,HK6,HO_5,HO_164,HB⟩:=hrel;cases gk with
                   | zero=>exact absurd HA.out (by simp [laws_FnLongestPaths.l0])
                   | succ k6 =>
                    have H:=HA.out;clear HA;simp only [laws_FnLongestPaths.l0] at H;by_cases c72:x166_6<(t657.length:Int)
                    ·rw [if_pos c72] at H
                     have c72b0:decide (x166_6<(t657.length:Int))=true:=zba c72;clear c72;by_cases c73:0≤x166_6
                     ·rw [if_pos c73] at H
                      have c73b0:decide (0≤x166_6)=true:=zba c73;clear c73;by_cases c74:x166_6<(t657.length:Int)
                      ·rw [if_pos c74] at H
                       have c74b0:decide (x166_6<(t657.length:Int))=true:=zba c74;clear c74;replace H:=zay.mp H;obtain ⟨⟨t662,t663⟩,A750,H⟩:=H;replace H:(if t663=true then (if t662>x28_6 then (laws_FnLongestPaths.l0 k6 t622 t628 t662 t657 (t657.length:Int) (wrap64 (x166_6+1))) else (laws_FnLongestPaths.l0 k6 t622 t628 x28_6 t657 (t657.length:Int) (wrap64 (x166_6+1)))) else (laws_FnLongestPaths.l0 k6 t622 t628 x28_6 t657 (t657.length:Int) (wrap64 (x166_6+1))))=some r:=H;have A75:=zad A750;clear A750;by_cases c76:t663=true
                       ·subst c76
                        have H1:(if t662>x28_6 then (laws_FnLongestPaths.l0 k6 t622 t628 t662 t657 (t657.length:Int) (wrap64 (x166_6+1))) else (laws_FnLongestPaths.l0 k6 t622 t628 x28_6 t657 (t657.length:Int) (wrap64 (x166_6+1))))=some r:=by rw [if_pos rfl] at H;exact H
                        clear H;have H:=H1;clear H1;by_cases c77:t662>x28_6
                        ·rw [if_pos c77] at H
                         have c77b0:decide (x28_6<t662)=true:=zba c77;clear c77;have H':=zad H;clear H;have p661:0≤(x166_6:Int):=zas (taab);have q661:x166_6<(t657.length:Int):=zas (taab);obtain ⟨ad661,A661_0,c661_0,e661,hx661_0,hl661_0,hi661_0⟩:=at_L2 (Kd.S_reads' HO_164.out).2.2 x166_6 p661 q661;cases e661;obtain ⟨ce661,hce661,hMe661,hcc661⟩:=Kd.S_get HO_164.out [] x166_6 p661 (tahk);obtain ⟨ve661_0,rfl,ge661_0⟩:=hMe661;have hv661_0:=hcc661 0 _ rfl;rw [Nat.add_zero,show ((Kd.slice 3 (Kd.int .i64))).sz=1 from rfl,Nat.mul_one] at hv661_0
                         replace hv661_0:=zbg (hv661_0.symm.trans hx661_0);rw [hv661_0] at ge661_0
                         have HL661_0:=zad (show Kd.R (Kd.int .i64) 3 _ _ _ _ (rd_L2 t657 x166_6) from ge661_0);clear hv661_0 ge661_0 hcc661 hce661;have HR661_0:=zad hi661_0;have HC661_0:=zad hl661_0;clear hi661_0 hl661_0;replace p661:=eq_true p661;replace q661:=eq_true q661;go_wp2_with (first | ((with_reducible refine zbj (f:=6) rfl ?_);refine zbr (some 173) rfl rfl Tryz.func6 (by kernel_rfl) rfl #[.slice Ao10 t622.length co10,.slice A661_0 (rd_L2 t657 x166_6).length c661_0] rfl (taac) ?_;(with_reducible refine (impl_LongestPath.calls _ _ t622 _ _ (rd_L2 t657 x166_6) t662 true _ ?side1 ?side2 ?side3 ?side4 A75.out).mono ?_);(case side1=>exact taic);(case side2=>exact taid);(case side3=>exact taik);(case side4=>exact HC661_0.out);rintro e w78 ⟨rfl,hb⟩;refine ⟨_,rfl,?_⟩;have n0_:=zad (zbx (taal) hb);have n1_:=zad (Kd.S_below (tack) hb);have n2_:=zad (zbx (taet) hb);have n3_:=zad (Kd.C_below (tacj) hb);have n4_:=zad (zbi (taaa) hb);clear HO_5 HO_164 HL661_0 HR661_0 HB;have HO_5:=n0_;have HO_164:=n1_;have HL661_0:=n2_;have HR661_0:=n3_;have HB:=n4_;clear n0_ n1_ n2_ n3_ n4_;(try clear hb);(try clear hb2);(try clear hk);(try clear hi)))
                         go_roundg k6
                         case measure=>have:=HJ7.out;have:=HJ18.out;have:=HJ28.out;have:=HJ54.out;have:=HJ61.out;have:=HK6.out;omega
                         case rel=>exact ⟨(t662),(wrap64 (x166_6+1)),(taae),(taae),H',⟨taeu⟩,⟨taal⟩,⟨tack⟩,⟨taaa⟩⟩
                        ·rw [if_neg c77] at H
                         have c77b0:decide (x28_6<t662)=false:=zbl c77;clear c77;have H':=zad H;clear H;have p661:0≤(x166_6:Int):=zas (taab);have q661:x166_6<(t657.length:Int):=zas (taab);obtain ⟨ad661,A661_0,c661_0,e661,hx661_0,hl661_0,hi661_0⟩:=at_L2 (Kd.S_reads' HO_164.out).2.2 x166_6 p661 q661;cases e661;obtain ⟨ce661,hce661,hMe661,hcc661⟩:=Kd.S_get HO_164.out [] x166_6 p661 (tahk);obtain ⟨ve661_0,rfl,ge661_0⟩:=hMe661;have hv661_0:=hcc661 0 _ rfl;rw [Nat.add_zero,show ((Kd.slice 3 (Kd.int .i64))).sz=1 from rfl,Nat.mul_one] at hv661_0
                         replace hv661_0:=zbg (hv661_0.symm.trans hx661_0);rw [hv661_0] at ge661_0
                         have HL661_0:=zad (show Kd.R (Kd.int .i64) 3 _ _ _ _ (rd_L2 t657 x166_6) from ge661_0);clear hv661_0 ge661_0 hcc661 hce661;have HR661_0:=zad hi661_0;have HC661_0:=zad hl661_0;clear hi661_0 hl661_0;replace p661:=eq_true p661;replace q661:=eq_true q661;go_wp2_with (first | ((with_reducible refine zbj (f:=6) rfl ?_);refine zbr (some 173) rfl rfl Tryz.func6 (by kernel_rfl) rfl #[.slice Ao10 t622.length co10,.slice A661_0 (rd_L2 t657 x166_6).length c661_0] rfl (taac) ?_;(with_reducible refine (impl_LongestPath.calls _ _ t622 _ _ (rd_L2 t657 x166_6) t662 true _ ?side1 ?side2 ?side3 ?side4 A75.out).mono ?_);(case side1=>exact taic);(case side2=>exact taid);(case side3=>exact taik);(case side4=>exact HC661_0.out);rintro e w79 ⟨rfl,hb⟩;refine ⟨_,rfl,?_⟩;have n0_:=zad (zbx (taal) hb);have n1_:=zad (Kd.S_below (tack) hb);have n2_:=zad (zbx (taet) hb);have n3_:=zad (Kd.C_below (tacj) hb);have n4_:=zad (zbi (taaa) hb);clear HO_5 HO_164 HL661_0 HR661_0 HB;have HO_5:=n0_;have HO_164:=n1_;have HL661_0:=n2_;have HR661_0:=n3_;have HB:=n4_;clear n0_ n1_ n2_ n3_ n4_;(try clear hb);(try clear hb2);(try clear hk);(try clear hi)))
                         go_roundg k6
                         case measure=>have:=HJ7.out;have:=HJ18.out;have:=HJ28.out;have:=HJ54.out;have:=HJ61.out;have:=HK6.out;omega
                         case rel=>exact ⟨(x28_6),(wrap64 (x166_6+1)),(taae),(taae),H',⟨taeu⟩,⟨taal⟩,⟨tack⟩,⟨taaa⟩⟩
                       ·replace c76:=zbk.mpr c76
                        subst c76;have H1:(laws_FnLongestPaths.l0 k6 t622 t628 x28_6 t657 (t657.length:Int) (wrap64 (x166_6+1)))=some r:=by rw [if_neg (show ¬ (false=true) by decide)] at H;exact H
                        clear H;have H:=H1;clear H1;have H':=zad H;clear H;have p661:0≤(x166_6:Int):=zas (taab);have q661:x166_6<(t657.length:Int):=zas (taab);obtain ⟨ad661,A661_0,c661_0,e661,hx661_0,hl661_0,hi661_0⟩:=at_L2 (Kd.S_reads' HO_164.out).2.2 x166_6 p661 q661;cases e661;obtain ⟨ce661,hce661,hMe661,hcc661⟩:=Kd.S_get HO_164.out [] x166_6 p661 (tahk);obtain ⟨ve661_0,rfl,ge661_0⟩:=hMe661;have hv661_0:=hcc661 0 _ rfl;rw [Nat.add_zero,show ((Kd.slice 3 (Kd.int .i64))).sz=1 from rfl,Nat.mul_one] at hv661_0
                        replace hv661_0:=zbg (hv661_0.symm.trans hx661_0);rw [hv661_0] at ge661_0
                        have HL661_0:=zad (show Kd.R (Kd.int .i64) 3 _ _ _ _ (rd_L2 t657 x166_6) from ge661_0);clear hv661_0 ge661_0 hcc661 hce661;have HR661_0:=zad hi661_0;have HC661_0:=zad hl661_0;clear hi661_0 hl661_0;replace p661:=eq_true p661;replace q661:=eq_true q661;go_wp2_with (first | ((with_reducible refine zbj (f:=6) rfl ?_);refine zbr (some 173) rfl rfl Tryz.func6 (by kernel_rfl) rfl #[.slice Ao10 t622.length co10,.slice A661_0 (rd_L2 t657 x166_6).length c661_0] rfl (taac) ?_;(with_reducible refine (impl_LongestPath.calls _ _ t622 _ _ (rd_L2 t657 x166_6) t662 false _ ?side1 ?side2 ?side3 ?side4 A75.out).mono ?_);(case side1=>exact taic);(case side2=>exact taid);(case side3=>exact taik);(case side4=>exact HC661_0.out);rintro e w80 ⟨rfl,hb⟩;refine ⟨_,rfl,?_⟩;have n0_:=zad (zbx (taal) hb);have n1_:=zad (Kd.S_below (tack) hb);have n2_:=zad (zbx (taet) hb);have n3_:=zad (Kd.C_below (tacj) hb);have n4_:=zad (zbi (taaa) hb);clear HO_5 HO_164 HL661_0 HR661_0 HB;have HO_5:=n0_;have HO_164:=n1_;have HL661_0:=n2_;have HR661_0:=n3_;have HB:=n4_;clear n0_ n1_ n2_ n3_ n4_;(try clear hb);(try clear hb2);(try clear hk);(try clear hi)))
                        go_roundg k6
                        case measure=>have:=HJ7.out;have:=HJ18.out;have:=HJ28.out;have:=HJ54.out;have:=HJ61.out;have:=HK6.out;omega
                        case rel=>exact ⟨(x28_6),(wrap64 (x166_6+1)),(taae),(taae),H',⟨taeu⟩,⟨taal⟩,⟨tack⟩,⟨taaa⟩⟩
                      ·rw [if_neg c74] at H
                       exact absurd H (taad)
                     ·rw [if_neg c73] at H
                      exact absurd H (taad)
                    ·rw [if_neg c72] at H
                     have c72b0:decide (x166_6<(t657.length:Int))=false:=zbl c72;clear c72;obtain rfl:=zbg H;go_wp2
                     go_ret
                     exact ⟨taah,taaa⟩
                 ·replace c69:=zbk.mpr c69
                  subst c69;have H1:(some false)=some r:=by rw [if_neg (show ¬ (false=true) by decide)] at H;exact H
                  clear H;have H:=H1;clear H1;obtain rfl:=zbg H;go_wp2_with (first | ((with_reducible refine zbj (f:=18) rfl ?_);refine zbr (some 159) rfl rfl Tryz.func18 (by kernel_rfl) rfl #[.slice Ao11 t623.length co11] rfl (taac) ?_;(with_reducible refine (impl_LowerCovers.calls kj61 _ _ t623 t657 false _ ?side1 ?side2 A68.out).mono ?_);(case side1=>exact taib);(case side2=>exact tahv);rintro e w81 ⟨v659,rfl,ho0,hb⟩;refine ⟨_,rfl,?_⟩;have n0_:=zad (zbx (taal) hb);have n1_:=zad (zbx (taai) hb);have n2_:=zad (Kd.S_lower (Kd.S_new' (Kd.S_new' ho0 (zce (taal))) (zce (taai))) (zbo (taaa)));have n3_:=zad (zbi (taaa) hb);clear HO_5 HO_6 HB;have HO_5:=n0_;have HO_6:=n1_;have HO660:=n2_;have HB:=n3_;clear n0_ n1_ n2_ n3_;(try clear hb);(try clear hb2);(try clear hk);(try clear hi);(try clear ho0)))
                  go_ret
                  exact ⟨taah,taaa⟩
             ·replace c60:=zbk.mpr c60
              subst c60;have H1:(some true)=some r:=by rw [if_neg (show ¬ (false=true) by decide)] at H;exact H
              clear H;have H:=H1;clear H1;obtain rfl:=zbg H;go_wp2
              go_ret
              exact ⟨taah,taaa⟩
def laws_FnLongestPaths.Pure:Prop:=∀ (l0:List Int) (l1:List Int),l0.length≤maxLen→l0.length*1≤140737488351232→(∀ x ∈ l0,(Lit.int .u8 x).wf=true)→l1.length≤maxLen→l1.length*1≤140737488351232→(∀ x ∈ l1,(Lit.int .u8 x).wf=true)→∃ k,laws_FnLongestPaths.f k l0 l1=some true
theorem laws_FnLongestPaths.walk (P:laws_FnLongestPaths.Pure) (a0:Option Addr) (len0 cap0:Nat) (z0:List Int) (a1:Option Addr) (len1 cap1:Nat) (z1:List Int) (w:World) (w0:(a0=none∧len0=0∧cap0=0∧z0=[])∨∃ x,a0=some x∧len0≤cap0∧cap0≤maxLen∧z0.length=cap0∧(∀ i,i<z0.length→w.cell? (x.add i)=some (.int .u8 (z0.getD i 0)))∧∀ n ∈ z0,(Lit.int .u8 n).wf=true) (y0:len0*1≤140737488351232) (w1:(a1=none∧len1=0∧cap1=0∧z1=[])∨∃ x,a1=some x∧len1≤cap1∧cap1≤maxLen∧z1.length=cap1∧(∀ i,i<z1.length→w.cell? (x.add i)=some (.int .u8 (z1.getD i 0)))∧∀ n ∈ z1,(Lit.int .u8 n).wf=true) (y1:len1*1≤140737488351232) :
 Calls Tryz.prog 3 #[.slice a0 len0 cap0,.slice a1 len1 cap1] w fun e w'=>e = .returned (.bool true)∧Below w.heap.size w w':=by
 obtain ⟨l0,rfl,hr0,hm0,hw0,hc0⟩:=ReadsInt.ofRowC w0;obtain ⟨l1,rfl,hr1,hm1,hw1,hc1⟩:=ReadsInt.ofRowC w1;obtain ⟨k,h⟩:=P l0 l1 hm0 y0 hw0 hm1 y1 hw1;refine (laws_FnLongestPaths.calls k _ _ l0 _ _ l1 true w (Kd.C_of_reads (d:=(0:Int)) (h1:=fun _=>rfl) hr0) hc0 (Kd.C_of_reads (d:=(0:Int)) (h1:=fun _=>rfl) hr1) hc1 h).mono ?_
 rintro e w' ⟨rfl,hd⟩
 exact ⟨rfl,hd⟩
theorem tmod_bd (x n:Int) (h0:0≤x) (hn:0<n):0≤Int.tmod x n∧Int.tmod x n<n:=by
 rw [Int.tmod_eq_emod_of_nonneg h0];exact ⟨Int.emod_nonneg _ (by omega),Int.emod_lt_of_pos _ hn⟩
theorem and255 (z:Int):0≤Go.bits .and .u64 (IntKind.u64.wrap z / 1099511627776) 255∧Go.bits .and .u64 (IntKind.u64.wrap z / 1099511627776) 255≤255:=by
 have e:=IntKind.wrap_u64 z;have h:=bits_mask .u64 64 (by decide) wraps_u64 8 (by decide) (IntKind.u64.wrap z / 1099511627776) (by omega) (by omega);have h':Go.bits .and .u64 (IntKind.u64.wrap z / 1099511627776) 255=IntKind.u64.wrap z / 1099511627776 % 256:=by simpa using h
 rw [h'];omega
def Bytes (l:List Int):Prop:=l.length≤1048576∧∀ x ∈ l,0≤x∧x≤255
theorem next_ev (l:List Int) (hl:Bytes l) (a s:Int) (h0:0≤a) (h1:a≤1000000000):∃ x s',spec_l1Cur_next.f l a s=some (x,a+1,s')∧0≤x∧x≤255:=by
 have hb:=hl.1;unfold spec_l1Cur_next.f;rw [w64 (x:=a+1) (by omega) (by omega)];by_cases c:a<(l.length:Int)
 ·simp only [if_pos c,if_pos h0]
  have hx:=hl.2 _ (rd_mem h0 c);by_cases c2:a+1≤(l.length:Int)
  ·simp only [if_pos c2]
   refine ⟨_,_,rfl,?_⟩
   rw [w64 (by omega) (by omega)];exact hx
  ·omega
 ·simp only [if_neg c]
  by_cases c2:a+1≤(l.length:Int)
  ·omega
  ·simp only [if_neg c2]
   refine ⟨_,_,rfl,?_⟩
   have:=and255 (IntKind.u64.wrap (IntKind.u64.wrap (s*6364136223846793005)+0)+1442695040888963407);rw [w64 (by omega) (by omega)];exact this
theorem pick_ev (l:List Int) (hl:Bytes l) (a s n:Int) (h0:0≤a) (h1:a≤900000000):∃ x a' s',spec_l1Cur_pick.f l a s n=some (x,a',s')∧0≤x∧(x=0∨x<n)∧a≤a'∧a'≤a+2:=by
 unfold spec_l1Cur_pick.f;by_cases c:n≤1
 ·simp only [if_pos c]
  exact ⟨_,_,_,rfl,by omega,by omega,by omega,by omega⟩
 ·simp only [if_neg c]
  obtain ⟨x,s1,e1,b1,b2⟩:=next_ev l hl a s h0 (by omega);simp only [e1,zbf];by_cases c2:n>200
  ·simp only [if_pos c2]
   obtain ⟨y,s2,e2,b3,b4⟩:=next_ev l hl (a+1) s1 (by omega) (by omega);simp only [e2,zbf,if_neg (show ¬ n=0 by omega)];have t:=tmod_bd (x*256+y) n (by omega) (by omega);refine ⟨_,_,_,rfl,?_⟩
   rw [w64 (x:=x*256) (by omega) (by omega),w64 (x:=x*256+y) (by omega) (by omega)];omega
  ·simp only [if_neg c2,if_neg (show ¬ n=0 by omega)]
   have t:=tmod_bd x n (by omega) (by omega);exact ⟨_,_,_,rfl,by omega,by omega,by omega,by omega⟩
theorem one_ev (l:List Int) (hl:Bytes l) (a s n:Int) (h0:0≤a) (h1:a≤900000000):∃ x a' s',spec_l1Cur_one.f l a s n=some (x,a',s')∧a≤a'∧a'≤a+2:=by
 unfold spec_l1Cur_one.f;obtain ⟨x,a',s',e,_,_,b1,b2⟩:=pick_ev l hl a s n h0 h1;simp only [e,zbf];exact ⟨_,_,_,rfl,b1,b2⟩
theorem among_ev (l:List Int) (hl:Bytes l) (a s:Int) (L:List Int) (hL:0<L.length) (h0:0≤a) (h1:a≤900000000):∃ x a' s',spec_l1Cur_among.f l a s L=some (x,a',s')∧x ∈ L∧a≤a'∧a'≤a+2:=by
 unfold spec_l1Cur_among.f;obtain ⟨x,a',s',e,b0,b,b1,b2⟩:=pick_ev l hl a s (L.length:Int) h0 h1;simp only [e,zbf,if_pos b0,if_pos (show x<(L.length:Int) by omega)];exact ⟨_,_,_,rfl,rd_mem b0 (by omega),b1,b2⟩
structure Bd (n m:Int) (l:List Int):Prop where
 len:(l.length:Int)≤n
 low:∀ x ∈ l,-1≤x
 high:∀ x ∈ l,x≤m
theorem Bd.le {n m n' m':Int} {l:List Int} (h:Bd n m l) (h1:n≤n') (h2:m≤m'):Bd n' m' l:=⟨by have:=h.len;omega,h.low,fun x hx=>by have:=h.high x hx;omega⟩
theorem Bd.snoc {n m:Int} {l:List Int} (h:Bd n m l) {x:Int} (h1 : -1≤x) (h2:x≤m):Bd (n+1) m (l ++ [x]):=by
 refine ⟨by have:=h.len;rw [List.length_append];simp;omega,fun y hy => ?_,fun y hy => ?_⟩
 ·rcases List.mem_append.1 hy with hy | hy
  ·exact h.low y hy
  ·have:y=x:=by simpa using hy
   omega
 ·rcases List.mem_append.1 hy with hy | hy
  ·exact h.high y hy
  ·have:y=x:=by simpa using hy
   omega
theorem Bd.nil (n m:Int) (h:0≤n):Bd n m []:=⟨taax,fun x hx=>by simp at hx,fun x hx=>by simp at hx⟩
theorem list_l (l:List Int) (hl:Bytes l) (m:Int) (hm:0≤m) (hm2:m≤1000):∀ (d:Nat) (acc:List Int) (a s:Int),(d:Int)≤10→acc.length≤10→0≤a→a≤800000000+10*(10 - (d:Int))→Bd (10 - (d:Int)) m acc→∃ r a' s',Ev (fun k=>spec_l1Cur_list.l0 k m acc (d:Int) l a s) (r,a',s')∧Bd 10 m r∧a≤a'∧a'≤a+2*(d:Int)
 | 0,acc,a,s,hd,hc,h0,h1,hb=>by
  refine ⟨acc,a,s,Ev.succ ?_,hb.le (by omega) (by omega),by omega,by omega⟩
  simp only [spec_l1Cur_list.l0,if_neg (show ¬ ((0:Nat):Int)>0 by omega)];exact Ev.now _
 | d+1,acc,a,s,hd,hc,h0,h1,hb=>by
  obtain ⟨x,a1,s1,e,b0,b,b1,b2⟩:=pick_ev l hl a s (m+1) h0 (by omega);have hl1:=hb.len;obtain ⟨r,a',s',h,hr,q1,q2⟩:=list_l l hl m hm hm2 d (acc ++ [x]) a1 s1 (by omega) (tacq) (by omega) (by omega) ((hb.snoc (by omega) (by omega)).le (by omega) (by omega));refine ⟨r,a',s',Ev.succ ?_,hr,by omega,by omega⟩
  simp only [spec_l1Cur_list.l0,if_pos (show ((d+1:Nat):Int)>0 by omega),w64 (x:=m+1) (by omega) (by omega),e,zbf,if_pos (show acc.length<17592186044416 by omega),w64 (x:=((d+1:Nat):Int) - 1) (by omega) (by omega)];rw [show ((d+1:Nat):Int) - 1=(d:Int) by omega];exact h
theorem list_ev (l:List Int) (hl:Bytes l) (m:Int) (hm:0≤m) (hm2:m≤1000) (a s:Int) (h0:0≤a) (h1:a≤700000000):∃ r a' s',Ev (fun k=>spec_l1Cur_list.f k l a s m) (r,a',s')∧Bd 10 m r∧a≤a'∧a'≤a+100:=by
 obtain ⟨x,a1,s1,e,b0,b,b1,b2⟩:=pick_ev l hl a s 6 h0 (by omega);obtain ⟨d,hd⟩:=Int.eq_ofNat_of_zero_le (show 0≤1+x by omega);have hd':1+x=(d:Int):=hd;obtain ⟨r,a',s',h,hr,q1,q2⟩:=list_l l hl m hm hm2 d [] a1 s1 (by omega) (taad) (by omega) (by omega) (Bd.nil _ _ (by omega));refine ⟨r,a',s',?_,hr,by omega,by omega⟩
 unfold spec_l1Cur_list.f;simp only [e,zbf,w64 (x:=1+x) (by omega) (by omega)];rw [hd'];exact h
theorem any_l (l:List Int) (hl:Bytes l) (m:Int) (hm:9≤m) (hm2:m≤1000):∀ (d:Nat) (acc:List Int) (a s:Int),d≤12→acc.length+d=12→0≤a→a≤800000000+10*(acc.length:Int)→Bd 12 m acc→∃ r a' s',Ev (fun k=>spec_l1Cur_anyList.l0 k acc l a s) (r,a',s')∧Bd 12 m r∧a≤a'∧a'≤a+2+4*(d:Int)
 | 0,acc,a,s,hd,hc,h0,h1,hb=>by
  obtain ⟨x,a1,s1,e,b0,b,b1,b2⟩:=pick_ev l hl a s 2 h0 (by omega);refine ⟨acc,a1,s1,Ev.succ ?_,hb,by omega,by omega⟩
  simp only [spec_l1Cur_anyList.l0,e,zbf,w64 (x:=8+x) (by omega) (by omega),if_neg (show ¬ (acc.length:Int)<8+x by omega)];exact Ev.now _
 | d+1,acc,a,s,hd,hc,h0,h1,hb=>by
  obtain ⟨x,a1,s1,e,b0,b,b1,b2⟩:=pick_ev l hl a s 2 h0 (by omega);by_cases c:(acc.length:Int)<8+x
  ·obtain ⟨y,a2,s2,e2,c0,c3,c1,c2⟩:=pick_ev l hl a1 s1 9 (by omega) (by omega)
   have hbb:Bd 12 m (acc ++ [y]):=by
    refine ⟨tacq,fun z hz => ?_,fun z hz => ?_⟩
    ·rcases List.mem_append.1 hz with hz | hz
     ·exact hb.low z hz
     ·have:z=y:=by simpa using hz
      omega
    ·rcases List.mem_append.1 hz with hz | hz
     ·exact hb.high z hz
     ·have:z=y:=by simpa using hz
      omega
   obtain ⟨r,a',s',h,hr,q1,q2⟩:=any_l l hl m hm hm2 d (acc ++ [y]) a2 s2 (by omega) (tacq) (by omega) (tacq) hbb;refine ⟨r,a',s',Ev.succ ?_,hr,by omega,by omega⟩
   simp only [spec_l1Cur_anyList.l0,e,zbf,w64 (x:=8+x) (by omega) (by omega),if_pos c,e2,if_pos (show acc.length<17592186044416 by omega)];exact h
  ·refine ⟨acc,a1,s1,Ev.succ ?_,hb,by omega,by omega⟩
   simp only [spec_l1Cur_anyList.l0,e,zbf,w64 (x:=8+x) (by omega) (by omega),if_neg c];exact Ev.now _
theorem anyList_ev (l:List Int) (hl:Bytes l) (m:Int) (hm:0≤m) (hm2:m≤1000) (a s:Int) (h0:0≤a) (h1:a≤600000000):∃ r a' s',Ev (fun k=>spec_l1Cur_anyList.f k l a s m) (r,a',s')∧Bd 12 (max m 61) r∧a≤a'∧a'≤a+200:=by
 obtain ⟨L,a1,s1,e1,hL,b1,b2⟩:=list_ev l hl m hm hm2 a s h0 (by omega);obtain ⟨x,a2,s2,e2,c0,c3,c1,c2⟩:=pick_ev l hl a1 s1 14 (by omega) (by omega);have hlen:=hL.len;have hL':Bd 12 (max m 61) L:=hL.le (by omega) (by omega);by_cases t0:x=0
 ·obtain ⟨y,a3,s3,e3,hy,d1,d2⟩:=among_ev l hl a2 s2 [-1,0,60,61] (taad) (by omega) (by omega)
  have hy' : -1≤y∧y≤61:=by
   simp at hy
   omega
  refine ⟨L ++ [y],a3,s3,?_,(Bd.snoc (hL.le (n':=10) (m':=max m 61) (by omega) (by omega)) hy'.1 (by omega)).le (by omega) (by omega),by omega,by omega⟩
  unfold spec_l1Cur_anyList.f;refine Ev.bind e1 ?_
  simp only [e2,zbf,if_pos t0,e3,if_pos (show L.length<17592186044416 by omega)];exact Ev.now _
 ·by_cases t1:x=1
  ·obtain ⟨r,a3,s3,e3,hr,d1,d2⟩:=any_l l hl (max m 61) (by omega) (by omega) (12 - L.length) L a2 s2 (by omega) (by omega) (by omega) (by omega) hL'
   refine ⟨r,a3,s3,?_,hr,by omega,by omega⟩
   unfold spec_l1Cur_anyList.f;refine Ev.bind e1 ?_
   simp only [e2,zbf,if_neg t0,if_pos t1];exact e3
  ·by_cases t2:x=2
   ·refine ⟨[],a2,s2,?_,Bd.nil _ _ (by omega),by omega,by omega⟩
    unfold spec_l1Cur_anyList.f;refine Ev.bind e1 ?_
    simp only [e2,zbf,if_neg t0,if_neg t1,if_pos t2];exact Ev.now _
   ·refine ⟨L,a2,s2,?_,hL',by omega,by omega⟩
    unfold spec_l1Cur_anyList.f;refine Ev.bind e1 ?_
    simp only [e2,zbf,if_neg t0,if_neg t1,if_neg t2];exact Ev.now _
theorem Bd.set {n m:Int} {l:List Int} (h:Bd n m l) (i:Nat) {x:Int} (h1 : -1≤x) (h2:x≤m):Bd n m (l.set i x):=by
 refine ⟨by rw [List.length_set];exact h.len,fun y hy => ?_,fun y hy => ?_⟩
 ·rcases List.mem_or_eq_of_mem_set hy with hy | rfl
  ·exact h.low y hy
  ·exact h1
 ·rcases List.mem_or_eq_of_mem_set hy with hy | rfl
  ·exact h.high y hy
  ·exact h2
theorem fit_end (l:List Int) (hl:Bytes l) (b acc:List Int) (n:Int) (hb:Bd 12 100 b) (hx:Bd 12 100 acc) (a s:Int) (h0:0≤a) (h1:a≤800000000):∃ x y a' s',Ev (fun k=>spec_l1Cur_fitting.j1 k b acc n false l a s) (x,y,a',s')∧Bd 12 100 x∧Bd 12 100 y∧a≤a'∧a'≤a+10:=by
 obtain ⟨t,a1,s1,e,b1,b2⟩:=one_ev l hl a s 5 h0 (by omega);cases t with
 | true =>
  refine ⟨b,acc,a1,s1,Ev.succ ?_,hb,hx,by omega,by omega⟩
  simp only [spec_l1Cur_fitting.j1,zbq,if_false,e,zbf,if_true];exact Ev.now _
 | false =>
  refine ⟨acc,b,a1,s1,Ev.succ ?_,hx,hb,by omega,by omega⟩
  simp only [spec_l1Cur_fitting.j1,zbq,if_false,e,zbf];exact Ev.now _
theorem fit_l (l:List Int) (hl:Bytes l) (b:List Int) (hb:Bd 12 100 b):∀ (d:Nat) (acc:List Int) (a s:Int),(d:Int)≤12→0≤a→a≤700000000 - 100*(d:Int)→Bd 12 (80 - (d:Int)) acc→∃ x y a' s',Ev (fun k=>spec_l1Cur_fitting.l0 k b acc (d:Int) l a s) (x,y,a',s')∧Bd 12 100 x∧Bd 12 100 y∧a≤a'∧a'≤a+10+30*(d:Int):=by
 intro d
 induction d with
 | zero =>
  intro acc a s hd h0 h1 hacc
  obtain ⟨x,y,a',s',e,q1,q2,q3,q4⟩:=fit_end l hl b acc ((0:Nat):Int) hb (hacc.le (by omega) (by omega)) a s h0 (by omega);refine ⟨x,y,a',s',Ev.succ ?_,q1,q2,q3,by omega⟩
  simp only [spec_l1Cur_fitting.l0,if_neg (show ¬ ((0:Nat):Int)>0 by omega)];exact e
 | succ d ih =>
  intro acc a s hd h0 h1 hacc
  have hlen:=hacc.len;have hbig:Bd 12 100 acc:=hacc.le (by omega) (by omega);by_cases c:(acc.length:Int)>1
  ·obtain ⟨i,a1,s1,e1,p0,p,p1,p2⟩:=pick_ev l hl a s (acc.length:Int) h0 (by omega)
   obtain ⟨j,a2,s2,e2,r0,r,r1,r2⟩:=pick_ev l hl a1 s1 (acc.length:Int) (by omega) (by omega);have hi:i<(acc.length:Int):=by omega
   have hj:j<(acc.length:Int):=by omega
   have b1:=hacc.high _ (rd_mem p0 hi);have b2:=hacc.low _ (rd_mem p0 hi);have keep:∀ (a3 s3:Int),a2≤a3→a3≤a2+2→∃ x y a' s',Ev (fun k=>spec_l1Cur_fitting.l0 k b acc (wrap64 (((d+1:Nat):Int) - 1)) l a3 s3) (x,y,a',s')∧Bd 12 100 x∧Bd 12 100 y∧a3≤a'∧a'≤a3+10+30*(d:Int):=fun a3 s3 g1 g2=>by
    rw [w64 (by omega) (by omega),show ((d+1:Nat):Int) - 1=(d:Int) by omega];exact ih acc a3 s3 (by omega) (by omega) (by omega) (hacc.le (by omega) (by omega))
   have move:rd acc i>0→∀ (a3 s3:Int),a2≤a3→a3≤a2+2→∃ x y a' s',Ev (fun k=>spec_l1Cur_fitting.l0 k b ((acc.set i.toNat (wrap64 (rd acc i - 1))).set j.toNat (wrap64 (rd (acc.set i.toNat (wrap64 (rd acc i - 1))) j+1))) (wrap64 (((d+1:Nat):Int) - 1)) l a3 s3) (x,y,a',s')∧Bd 12 100 x∧Bd 12 100 y∧a3≤a'∧a'≤a3+10+30*(d:Int):=fun hp a3 s3 g1 g2=>by
    rw [w64 (x:=((d+1:Nat):Int) - 1) (by omega) (by omega),show ((d+1:Nat):Int) - 1=(d:Int) by omega,w64 (x:=rd acc i - 1) (by omega) (by omega)];have h1:Bd 12 (80 - ((d+1:Nat):Int)) (acc.set i.toNat (rd acc i - 1)):=hacc.set _ (by omega) (by omega);have c1:=h1.high _ (rd_mem (l:=acc.set i.toNat (rd acc i - 1)) r0 (by rw [List.length_set];exact hj));have c2:=h1.low _ (rd_mem (l:=acc.set i.toNat (rd acc i - 1)) r0 (by rw [List.length_set];exact hj));rw [w64 (x:=rd (acc.set i.toNat (rd acc i - 1)) j+1) (by omega) (by omega)];exact ih _ a3 s3 (by omega) (by omega) (by omega) ((h1.le (n':=12) (m':=80 - (d:Int)) (by omega) (by omega)).set _ (by omega) (by omega))
   have body:∃ x y a' s',Ev (fun k=>spec_l1Cur_fitting.j1 k b acc ((d+1:Nat):Int) true l a s) (x,y,a',s')∧Bd 12 100 x∧Bd 12 100 y∧a≤a'∧a'≤a+20+30*(d:Int):=by
    by_cases t1:rd acc i>0
    ·by_cases t2:rd acc i>rd acc j
     ·obtain ⟨x,y,a',s',h,q1,q2,q3,q4⟩:=move t1 a2 s2 (by omega) (by omega)
      refine ⟨x,y,a',s',Ev.succ ?_,q1,q2,by omega,by omega⟩
      simp only [spec_l1Cur_fitting.j1,if_true,e1,e2,zbf,if_pos p0,if_pos hi,if_pos t1,if_pos r0,if_pos hj,if_pos t2];exact h
     ·obtain ⟨t,a3,s3,e3,f1,f2⟩:=one_ev l hl a2 s2 4 (by omega) (by omega)
      cases t with
      | true =>
       obtain ⟨x,y,a',s',h,q1,q2,q3,q4⟩:=move t1 a3 s3 (by omega) (by omega);refine ⟨x,y,a',s',Ev.succ ?_,q1,q2,by omega,by omega⟩
       simp only [spec_l1Cur_fitting.j1,if_true,e1,e2,e3,zbf,if_pos p0,if_pos hi,if_pos t1,if_pos r0,if_pos hj,if_neg t2];exact h
      | false =>
       obtain ⟨x,y,a',s',h,q1,q2,q3,q4⟩:=keep a3 s3 (by omega) (by omega);refine ⟨x,y,a',s',Ev.succ ?_,q1,q2,by omega,by omega⟩
       simp only [spec_l1Cur_fitting.j1,if_true,e1,e2,e3,zbf,if_pos p0,if_pos hi,if_pos t1,if_pos r0,if_pos hj,if_neg t2,zbq,if_false];exact h
    ·obtain ⟨x,y,a',s',h,q1,q2,q3,q4⟩:=keep a2 s2 (by omega) (by omega)
     refine ⟨x,y,a',s',Ev.succ ?_,q1,q2,by omega,by omega⟩
     simp only [spec_l1Cur_fitting.j1,if_true,e1,e2,zbf,if_pos p0,if_pos hi,if_neg t1];exact h
   obtain ⟨x,y,a',s',h,q1,q2,q3,q4⟩:=body;refine ⟨x,y,a',s',Ev.succ ?_,q1,q2,by omega,by omega⟩
   simp only [spec_l1Cur_fitting.l0,if_pos (show ((d+1:Nat):Int)>0 by omega),zba c];exact h
  ·obtain ⟨x,y,a',s',e,q1,q2,q3,q4⟩:=fit_end l hl b acc ((d+1:Nat):Int) hb hbig a s h0 (by omega)
   refine ⟨x,y,a',s',Ev.succ ?_,q1,q2,q3,by omega⟩
   simp only [spec_l1Cur_fitting.l0,if_pos (show ((d+1:Nat):Int)>0 by omega),zbl c];exact e
theorem fitting_ev (l:List Int) (hl:Bytes l) (m:Int) (hm:0≤m) (hm2:m≤61) (a s:Int) (h0:0≤a) (h1:a≤500000000):∃ x y a' s',Ev (fun k=>spec_l1Cur_fitting.f k l a s m) (x,y,a',s')∧Bd 12 100 x∧Bd 12 100 y∧a≤a'∧a'≤a+1000:=by
 obtain ⟨b,a1,s1,e1,hb,b1,b2⟩:=anyList_ev l hl m hm (by omega) a s h0 (by omega);obtain ⟨t,a2,s2,e2,c1,c2⟩:=one_ev l hl a1 s1 5 (by omega) (by omega);have hb':Bd 12 100 b:=hb.le (by omega) (by omega);cases t with
 | true =>
  obtain ⟨q,a3,s3,e3,hq,d1,d2⟩:=anyList_ev l hl m hm (by omega) a2 s2 (by omega) (by omega);refine ⟨q,b,a3,s3,?_,hq.le (by omega) (by omega),hb',by omega,by omega⟩
  unfold spec_l1Cur_fitting.f;refine Ev.bind e1 ?_
  simp only [e2,zbf,if_true];exact Ev.bind e3 (Ev.now _)
 | false =>
  obtain ⟨n,a3,s3,e3,n0,n1,d1,d2⟩:=pick_ev l hl a2 s2 12 (by omega) (by omega);obtain ⟨d,hd⟩:=Int.eq_ofNat_of_zero_le n0;have hd':n=(d:Int):=hd;have hlen:=hb.len;obtain ⟨x,y,a',s',h,q1,q2,q3,q4⟩:=fit_l l hl b hb' d b a3 s3 (by omega) (by omega) (by omega) (hb.le (by omega) (by omega));refine ⟨x,y,a',s',?_,q1,q2,by omega,by omega⟩
  unfold spec_l1Cur_fitting.f;refine Ev.bind e1 ?_
  simp only [e2,zbf,zbq,if_false,l1Own_eq b (by omega),e3];rw [hd'];exact h
def toG (L:List (Nat × Nat × Int)):List S59:=L.map fun g=>⟨(g.1:Int),(g.2.1:Int),g.2.2⟩
theorem implNext1 {x t:List Int} {i j:Nat} (u:Bool) (acc:List S59) (r:List S59) (hl:x.length=t.length) (hn:x.length≤1000) (h:Nx x t i j) (hr:Ev (fun K=>impl_path.l2 K x t u acc (j:Int) (j:Int)) r):∀ (d k:Nat),k+d=j→Ev (fun K=>impl_path.l1 K x t u acc (k:Int)) r
 | 0,k,e=>by
  have hk:k=j:=by omega
  have:=h.hj;have:=h.jlt;subst hk;refine Ev.succ ?_
  simp only [impl_path.l1,if_pos (show (0:Int)≤(k:Int) by omega),if_pos (show (k:Int)<(x.length:Int) by omega),if_pos (show (k:Int)<(t.length:Int) by omega),if_neg (show ¬ rd x (k:Int)≥rd t (k:Int) by omega)];exact hr
 | d+1,k,e=>by
  have:=h.hj;have:=h.bef k (by omega);refine Ev.succ ?_
  simp only [impl_path.l1,if_pos (show (0:Int)≤(k:Int) by omega),if_pos (show (k:Int)<(x.length:Int) by omega),if_pos (show (k:Int)<(t.length:Int) by omega),if_pos (show rd x (k:Int)≥rd t (k:Int) by omega),wsucc (show k<x.length by omega) (by omega)];exact implNext1 u acc r hl hn h hr d (k+1) (by omega)
theorem implNext2 {x t:List Int} {i j:Nat} (u:Bool) (acc:List S59) (r:List S59) (hl:x.length=t.length) (hn:x.length≤1000) (h:Nx x t i j) (hr:Ev (fun K=>impl_path.l2 K x t u acc (j:Int) (i:Int)) r):∀ (d k:Nat),i+d=k→k≤j→Ev (fun K=>impl_path.l2 K x t u acc (j:Int) (k:Int)) r
 | 0,k,e,_=>by
  have hk:k=i:=by omega
  subst hk;exact hr
 | d+1,k,e,hkj=>by
  have:=h.hj;have hle:rd x (k:Int)≤rd t (k:Int):=by
   rcases Nat.lt_or_ge k j with c | c
   ·exact h.btw k (by omega) c
   ·have:k=j:=by omega
    subst this;have:=h.jlt;omega
  refine Ev.succ ?_
  simp only [impl_path.l2,if_pos (show (0:Int)≤(k:Int) by omega),if_pos (show (k:Int)<(x.length:Int) by omega),if_pos (show (k:Int)<(t.length:Int) by omega),if_pos hle,w64 (x:=(k:Int) - 1) (by omega) (by omega)];have:=implNext2 u acc r hl hn h hr d (k - 1) (by omega) (by omega);rw [show (((k - 1:Nat):Int))=(k:Int) - 1 by omega] at this
  exact this
theorem specNext1 {x t:List Int} {i j:Nat} (hl:x.length=t.length) (hn:x.length≤1000) (h:Nx x t i j):∀ (d k:Nat),k+d=j→Ev (fun K=>spec_giNext.l0 K t x (k:Int)) ((i:Int),(j:Int),1)
 | 0,k,e=>by
  have hk:k=j:=by omega
  have:=h.hj;have:=h.jlt;have h3:=h.lt;subst hk;refine Ev.succ ?_
  simp only [spec_giNext.l0,if_pos (show (0:Int)≤(k:Int) by omega),if_pos (show (k:Int)<(x.length:Int) by omega),if_pos (show (k:Int)<(t.length:Int) by omega),if_neg (show ¬ rd x (k:Int)≥rd t (k:Int) by omega),w64 (x:=(k:Int) - 1) (by omega) (by omega)];have key:∀ (d m:Nat),i+d=m→m<k→Ev (fun K=>spec_giNext.l1 K t x (k:Int) (m:Int)) ((i:Int),(k:Int),1):=by
   intro d
   induction d with
   | zero =>
    intro m e1 e2
    have hm:m=i:=by omega
    subst hm;have:=h.igt;refine Ev.succ ?_
    simp only [spec_giNext.l1,if_pos (show (0:Int)≤(m:Int) by omega),if_pos (show (m:Int)<(x.length:Int) by omega),if_pos (show (m:Int)<(t.length:Int) by omega),if_neg (show ¬ rd x (m:Int)≤rd t (m:Int) by omega)];exact Ev.now _
   | succ d ih =>
    intro m e1 e2
    have:=h.btw m (by omega) e2;refine Ev.succ ?_
    simp only [spec_giNext.l1,if_pos (show (0:Int)≤(m:Int) by omega),if_pos (show (m:Int)<(x.length:Int) by omega),if_pos (show (m:Int)<(t.length:Int) by omega),if_pos this,w64 (x:=(m:Int) - 1) (by omega) (by omega)];have:=ih (m - 1) (by omega) (by omega);rw [show (((m - 1:Nat):Int))=(m:Int) - 1 by omega] at this
    exact this
  have:=key (k - 1 - i) (k - 1) (by omega) (by omega);rw [show (((k - 1:Nat):Int))=(k:Int) - 1 by omega] at this
  exact this
 | d+1,k,e=>by
  have:=h.hj;have:=h.bef k (by omega);refine Ev.succ ?_
  simp only [spec_giNext.l0,if_pos (show (0:Int)≤(k:Int) by omega),if_pos (show (k:Int)<(x.length:Int) by omega),if_pos (show (k:Int)<(t.length:Int) by omega),if_pos (show rd x (k:Int)≥rd t (k:Int) by omega),wsucc (show k<x.length by omega) (by omega)];exact specNext1 hl hn h d (k+1) (by omega)
theorem gv_done {x t:List Int} {i j:Nat} {a:Int} (hl:x.length=t.length) (hg:goodL x=true) (htg:goodL t=true) (hx:Desc x) (ht:Desc t) (g:Gv x t i j a):(x.set (i:Int).toNat (wrap64 (rd x (i:Int) - a))).set (j:Int).toNat (wrap64 (rd x (j:Int)+a))=giveL x (i:Int) (j:Int) a∧descL (giveL x (i:Int) (j:Int) a)=giveL x (i:Int) (j:Int) a:=by
 have h1:=g.lt;have h2:=g.hj;have h3:=g.ai;have h4:=g.aj;have hpos:=g.pos;have b1:=rd_good htg (i:=(i:Int)) (by omega) (by omega);have b2:=rd_good htg (i:=(j:Int)) (by omega) (by omega);have b3:=rd_good hg (i:=(i:Int)) (by omega) (by omega);have b4:=rd_good hg (i:=(j:Int)) (by omega) (by omega);refine ⟨?_,descL_of_desc (gv_desc hl hx ht g)⟩
 rw [w64 (x:=rd x (i:Int) - a) (by omega) (by omega),w64 (x:=rd x (j:Int)+a) (by omega) (by omega)];rfl
theorem implPath_gp (u:Bool) {t:List Int} (ht:Desc t) (htg:goodL t=true) {x:List Int} {L:List (Nat × Nat × Int)} (h:GP u t x L):∀ acc:List S59,Dom x t→Desc x→goodL x=true→acc.length+L.length≤1000000→Ev (fun k=>impl_path.l0 k x t u acc) (acc ++ toG L):=by
 induction h with
 | nil =>
  intro acc hd hx hg hb
  refine Ev.succ ?_
  simp only [impl_path.l0];have e:=slEqual_ev t t (by have:=(goodL_iff t).1 htg;omega);rw [zba rfl] at e
  refine Ev.bind e ?_
  simp only [if_true,toG,zav,List.append_nil];exact Ev.now _
 | @cons x i j L hne hn h ih =>
  intro acc hd hx hg hb
  have g:=nx_gv u hn;have hlen:=(goodL_iff x).1 hg;have hl:=hd.1;rw [List.length_cons] at hb
  obtain ⟨e1,e2⟩:=gv_done hl hg htg hx ht g;have h1:=hn.lt;have h2:=hn.hj;have ih':=ih (acc ++ [⟨(i:Int),(j:Int),gvA u x t i j⟩]) (gv_dom hd g) (gv_desc hl hx ht g) (gv_good hl hg htg g) (tabi);have hgv:=given_eq x (i:Int) (j:Int) (gvA u x t i j) (by omega) (by omega) (by omega) (by omega);rw [e1] at hgv
  have hrk:=ranking_eq (good_sm (gv_good hl hg htg g));rw [e2] at hrk
  refine Ev.succ ?_
  simp only [impl_path.l0];have e:=slEqual_ev x t (by omega);rw [zbl hne] at e
  refine Ev.bind e ?_
  simp only [zbq,if_false];refine implNext1 u acc _ hl (by omega) hn (implNext2 u acc _ hl (by omega) hn (Ev.succ ?_) (j - i) j (by omega) (zcf _)) j 0 (by omega)
  have b1:=rd_good htg (i:=(i:Int)) (by omega) (by omega);have b2:=rd_good htg (i:=(j:Int)) (by omega) (by omega);have b3:=rd_good hg (i:=(i:Int)) (by omega) (by omega);have b4:=rd_good hg (i:=(j:Int)) (by omega) (by omega);have higt:=hn.igt;simp only [impl_path.l2,if_pos (show (0:Int)≤(i:Int) by omega),if_pos (show (0:Int)≤(j:Int) by omega),if_pos (show (i:Int)<(x.length:Int) by omega),if_pos (show (i:Int)<(t.length:Int) by omega),if_pos (show (j:Int)<(x.length:Int) by omega),if_pos (show (j:Int)<(t.length:Int) by omega),if_neg (show ¬ rd x (i:Int)≤rd t (i:Int) by omega),if_pos (show acc.length<5864062014805 by omega)];have er:acc ++ toG ((i,j,gvA u x t i j) :: L)=(acc ++ [⟨(i:Int),(j:Int),gvA u x t i j⟩]) ++ toG L:=by simp [toG]
  rw [er];cases u with
  | true =>
   have ea:gvA true x t i j=1:=rfl;rw [ea] at hgv hrk ih' ⊢
   simp only [if_true,hgv,hrk,zbf];exact ih'
  | false =>
   have ea:mn (wrap64 (rd x (i:Int) - rd t (i:Int))) (wrap64 (rd t (j:Int) - rd x (j:Int)))=gvA false x t i j:=by
    rw [w64 (x:=rd x (i:Int) - rd t (i:Int)) (by omega) (by omega),w64 (x:=rd t (j:Int) - rd x (j:Int)) (by omega) (by omega),mn_eq];rfl
   simp only [zbq,if_false,ea,hgv,hrk,zbf];exact ih'
theorem specPath_gp (u:Bool) {t:List Int} (ht:Desc t) (htg:goodL t=true) {x:List Int} {L:List (Nat × Nat × Int)} (h:GP u t x L):∀ acc:List S59,Dom x t→Desc x→goodL x=true→acc.length+L.length≤1000000→Ev (fun k=>spec_giPath.l0 k (!u) t x acc) (acc ++ toG L):=by
 induction h with
 | nil =>
  intro acc hd hx hg hb
  refine Ev.succ ?_
  simp only [spec_giPath.l0];have e:=l1Same_ev t t (by have:=(goodL_iff t).1 htg;omega);rw [zba rfl] at e
  refine Ev.bind e ?_
  simp only [if_true,toG,zav,List.append_nil];exact Ev.now _
 | @cons x i j L hne hn h ih =>
  intro acc hd hx hg hb
  have g:=nx_gv u hn;have hlen:=(goodL_iff x).1 hg;have hl:=hd.1;rw [List.length_cons] at hb
  obtain ⟨e1,e2⟩:=gv_done hl hg htg hx ht g;have h1:=hn.lt;have h2:=hn.hj;have ih':=ih (acc ++ [⟨(i:Int),(j:Int),gvA u x t i j⟩]) (gv_dom hd g) (gv_desc hl hx ht g) (gv_good hl hg htg g) (tabi);have hgv:=giDo_eq x (i:Int) (j:Int) (gvA u x t i j) (by omega) (by omega) (by omega) (by omega);rw [e1] at hgv
  have hrk:=liRank_ev (giveL x (i:Int) (j:Int) (gvA u x t i j)) (tabs);rw [e2] at hrk
  refine Ev.succ ?_
  simp only [spec_giPath.l0];have e:=l1Same_ev t x (by omega);rw [zbl (Ne.symm hne)] at e
  refine Ev.bind e ?_
  simp only [zbq,if_false];have en:Ev (fun K=>spec_giNext.f K t x) ((i:Int),(j:Int),1):=specNext1 hl (by omega) hn j 0 (by omega);refine Ev.bind en ?_
  have b1:=rd_good htg (i:=(i:Int)) (by omega) (by omega);have b2:=rd_good htg (i:=(j:Int)) (by omega) (by omega);have b3:=rd_good hg (i:=(i:Int)) (by omega) (by omega);have b4:=rd_good hg (i:=(j:Int)) (by omega) (by omega);simp only [if_pos (show (0:Int)≤(i:Int) by omega),if_pos (show (0:Int)≤(j:Int) by omega),if_pos (show (i:Int)<(x.length:Int) by omega),if_pos (show (i:Int)<(t.length:Int) by omega),if_pos (show (j:Int)<(x.length:Int) by omega),if_pos (show (j:Int)<(t.length:Int) by omega),if_pos (show acc.length<5864062014805 by omega)];have er:acc ++ toG ((i,j,gvA u x t i j) :: L)=(acc ++ [⟨(i:Int),(j:Int),gvA u x t i j⟩]) ++ toG L:=by simp [toG]
  rw [er];cases u with
  | true =>
   have ea:gvA true x t i j=1:=rfl;rw [ea] at hgv hrk ih' ⊢
   simp only [Bool.not_true,zbq,if_false,hgv,zbf];exact Ev.bind hrk ih'
  | false =>
   have ea:spec_l1Least.f (wrap64 (rd x (i:Int) - rd t (i:Int))) (wrap64 (rd t (j:Int) - rd x (j:Int)))=some (gvA false x t i j):=by
    rw [w64 (x:=rd x (i:Int) - rd t (i:Int)) (by omega) (by omega),w64 (x:=rd t (j:Int) - rd x (j:Int)) (by omega) (by omega)];unfold spec_l1Least.f gvA;simp only [zbq,if_false];split <;> (congr 1;omega)
   simp only [Bool.not_false,if_true,ea,hgv,zbf];exact Ev.bind hrk ih'
noncomputable def gpL (u:Bool) (x t:List Int):List (Nat × Nat × Int):=open Classical in if h:∃ L,GP u t x L∧(L.length:Int)≤unitL x t then h.choose else []
theorem gpL_spec (u:Bool) {x t:List Int} (hd:Dom x t) (hx:Desc x) (ht:Desc t) (hg:goodL x=true) (htg:goodL t=true):GP u t x (gpL u x t)∧((gpL u x t).length:Int)≤unitL x t:=by
 have hu:=unitL_nn x t;have h:=gp_exists u ht htg (unitL x t).toNat x hd hx hg (by omega);unfold gpL;rw [dif_pos h];exact h.choose_spec
theorem toG_length (L:List (Nat × Nat × Int)):(toG L).length=L.length:=by simp [toG]
noncomputable def pathL (u:Bool) (a b:List Int):List S59:=toG (gpL u (descL b) (descL a))
theorem pathL_ev (u:Bool) (a b:List Int) (h:betB a b=true):Ev (fun k=>impl_path.f k (descL b) (descL a) u) (pathL u a b)∧Ev (fun k=>spec_giPath.f k a b (!u)) (pathL u a b)∧(pathL u a b).length≤480:=by
 obtain ⟨ga,gb,hm⟩:=(betB_iff a b).1 h;have hd:=(majB_dom a b).1 hm;have ga':goodL (descL a)=true:=by rw [good_desc];exact ga
 have gb':goodL (descL b)=true:=by rw [good_desc];exact gb
 obtain ⟨hG,hlen⟩:=gpL_spec u hd (descL_desc b) (descL_desc a) gb' ga';have hbd:=unitL_bd gb' ga' hd.1;refine ⟨?_,?_,by unfold pathL;rw [toG_length];omega⟩
 ·have:=implPath_gp u (descL_desc a) ga' hG [] hd (descL_desc b) gb' (tacp)
  rw [List.nil_append] at this
  exact this
 ·have:=specPath_gp u (descL_desc a) ga' hG [] hd (descL_desc b) gb' (tacp)
  rw [List.nil_append] at this
  unfold spec_giPath.f;exact Ev.bind (liRank_ev a (by have:=(good_sm ga).1;omega)) (Ev.bind (liRank_ev b (by have:=(good_sm gb).1;omega)) this)
noncomputable def pathR (a b:List Int):List S59 × Bool:=if betB a b=true then (pathL true a b,true) else ([],false)
theorem maj_l (l:List Int) (hl:Bytes l) (b:List Int) (hb:Bd 12 100 b):∀ (d:Nat) (acc:List Int) (a s:Int),(d:Int)≤12→0≤a→a≤700000000 - 100*(d:Int)→Bd 12 100 acc→∃ x y a' s',Ev (fun k=>spec_l1Cur_majorized.l0 k b acc (d:Int) l a s) (x,y,a',s')∧Bd 12 100 x∧Bd 12 100 y∧a≤a'∧a'≤a+10+30*(d:Int):=by
 intro d
 have fin:∀ (acc:List Int) (n a s:Int),Bd 12 100 acc→∃ x y a' s',Ev (fun k=>spec_l1Cur_majorized.j1 k b acc n false l a s) (x,y,a',s')∧Bd 12 100 x∧Bd 12 100 y∧a≤a'∧a'≤a:=fun acc n a s h=>by
  refine ⟨acc,b,a,s,Ev.succ ?_,h,hb,by omega,by omega⟩
  simp only [spec_l1Cur_majorized.j1,zbq,if_false];exact Ev.now _
 induction d with
 | zero =>
  intro acc a s hd h0 h1 hacc
  obtain ⟨x,y,a',s',e,q1,q2,q3,q4⟩:=fin acc ((0:Nat):Int) a s hacc;refine ⟨x,y,a',s',Ev.succ ?_,q1,q2,q3,by omega⟩
  simp only [spec_l1Cur_majorized.l0,if_neg (show ¬ ((0:Nat):Int)>0 by omega)];exact e
 | succ d ih =>
  intro acc a s hd h0 h1 hacc
  by_cases c:(acc.length:Int)>1
  ·obtain ⟨i,a1,s1,e1,p0,p,p1,p2⟩:=pick_ev l hl a s (acc.length:Int) h0 (by omega)
   obtain ⟨j,a2,s2,e2,r0,r,r1,r2⟩:=pick_ev l hl a1 s1 (acc.length:Int) (by omega) (by omega);have hi:i<(acc.length:Int):=by omega
   have hj:j<(acc.length:Int):=by omega
   have b1:=hacc.high _ (rd_mem p0 hi);have b2:=hacc.low _ (rd_mem p0 hi);have b3:=hacc.high _ (rd_mem r0 hj);have b4:=hacc.low _ (rd_mem r0 hj);have ed:wrap64 (((d+1:Nat):Int) - 1)=(d:Int):=by rw [w64 (by omega) (by omega)];omega
   by_cases t:rd acc i≥rd acc j+2
   ·have h1':Bd 12 100 (acc.set i.toNat (rd acc i - 1)):=hacc.set _ (by omega) (by omega)
    have hne:i≠j:=fun e=>by rw [e] at t;omega
    have er:rd (acc.set i.toNat (rd acc i - 1)) j=rd acc j:=rd_set_ne _ p0 r0 hne;have h2':Bd 12 100 ((acc.set i.toNat (rd acc i - 1)).set j.toNat (rd acc j+1)):=h1'.set _ (by omega) (by omega);obtain ⟨x,y,a',s',e,q1,q2,q3,q4⟩:=ih _ a2 s2 (by omega) (by omega) (by omega) h2';refine ⟨x,y,a',s',Ev.succ ?_,q1,q2,by omega,by omega⟩
    simp only [spec_l1Cur_majorized.l0,if_pos (show ((d+1:Nat):Int)>0 by omega),zba c];refine Ev.succ ?_
    simp only [spec_l1Cur_majorized.j1,if_true,e1,e2,zbf,if_pos p0,if_pos hi,if_pos r0,if_pos hj,w64 (x:=rd acc j+2) (by omega) (by omega),if_pos t,w64 (x:=rd acc i - 1) (by omega) (by omega),er,w64 (x:=rd acc j+1) (by omega) (by omega),ed];exact e
   ·obtain ⟨x,y,a',s',e,q1,q2,q3,q4⟩:=ih acc a2 s2 (by omega) (by omega) (by omega) hacc
    refine ⟨x,y,a',s',Ev.succ ?_,q1,q2,by omega,by omega⟩
    simp only [spec_l1Cur_majorized.l0,if_pos (show ((d+1:Nat):Int)>0 by omega),zba c];refine Ev.succ ?_
    simp only [spec_l1Cur_majorized.j1,if_true,e1,e2,zbf,if_pos p0,if_pos hi,if_pos r0,if_pos hj,w64 (x:=rd acc j+2) (by omega) (by omega),if_neg t,ed];exact e
  ·obtain ⟨x,y,a',s',e,q1,q2,q3,q4⟩:=fin acc ((d+1:Nat):Int) a s hacc
   refine ⟨x,y,a',s',Ev.succ ?_,q1,q2,q3,by omega⟩
   simp only [spec_l1Cur_majorized.l0,if_pos (show ((d+1:Nat):Int)>0 by omega),zbl c];exact e
theorem majorized_ev (l:List Int) (hl:Bytes l) (m:Int) (hm:0≤m) (hm2:m≤61) (a s:Int) (h0:0≤a) (h1:a≤400000000):∃ x y a' s',Ev (fun k=>spec_l1Cur_majorized.f k l a s m) (x,y,a',s')∧Bd 12 100 x∧Bd 12 100 y∧a≤a'∧a'≤a+2000:=by
 obtain ⟨b,a1,s1,e1,hb,b1,b2⟩:=list_ev l hl m hm (by omega) a s h0 (by omega);obtain ⟨t,a2,s2,e2,c1,c2⟩:=one_ev l hl a1 s1 8 (by omega) (by omega);have hb':Bd 12 100 b:=hb.le (by omega) (by omega);cases t with
 | true =>
  obtain ⟨x,y,a3,s3,e3,hx,hy,d1,d2⟩:=fitting_ev l hl m hm hm2 a2 s2 (by omega) (by omega);refine ⟨x,y,a3,s3,?_,hx,hy,by omega,by omega⟩
  unfold spec_l1Cur_majorized.f;refine Ev.bind e1 ?_
  simp only [e2,zbf,if_true];exact Ev.bind e3 (Ev.now _)
 | false =>
  obtain ⟨n,a3,s3,e3,n0,n1,d1,d2⟩:=pick_ev l hl a2 s2 9 (by omega) (by omega);obtain ⟨d,hd⟩:=Int.eq_ofNat_of_zero_le n0;have hd':n=(d:Int):=hd;have hlen:=hb.len;obtain ⟨x,y,a',s',h,q1,q2,q3,q4⟩:=maj_l l hl b hb' d b a3 s3 (by omega) (by omega) (by omega) hb';refine ⟨x,y,a',s',?_,q1,q2,by omega,by omega⟩
  unfold spec_l1Cur_majorized.f;refine Ev.bind e1 ?_
  simp only [e2,zbf,zbq,if_false,l1Own_eq b (by omega),e3];rw [hd'];exact h
def evenL (n sum:Int):List Int:=(List.range n.toNat).map fun (i:Nat)=>sum / n+if (i:Int)<sum % n then 1 else 0
theorem evenL_length (n sum:Int):(evenL n sum).length=n.toNat:=by simp [evenL]
theorem evenL_get (n sum:Int) (i:Nat) (h:i<(evenL n sum).length):(evenL n sum)[i]=sum / n+if (i:Int)<sum % n then 1 else 0:=by simp [evenL]
theorem even_same (n sum i:Int) (h1:1≤n) (h2:n≤8) (h3:0≤sum) (h4:sum≤n*60) (h5:0≤i) (h6:i<n):(sum+n - 1 - i) / n=sum / n+if i<sum % n then 1 else 0:=by
 obtain rfl | rfl | rfl | rfl | rfl | rfl | rfl | rfl:n=1∨n=2∨n=3∨n=4∨n=5∨n=6∨n=7∨n=8:=by omega
 all_goals (split <;> omega)
theorem div_bd (n sum:Int) (h1:1≤n) (h2:n≤8) (h3:0≤sum) (h4:sum≤n*60):0≤sum / n∧sum / n≤60∧0≤sum % n∧sum % n<n:=by
 obtain rfl | rfl | rfl | rfl | rfl | rfl | rfl | rfl:n=1∨n=2∨n=3∨n=4∨n=5∨n=6∨n=7∨n=8:=by omega
 all_goals omega
theorem tdiv_nn (a b:Int) (h:0≤a):Int.tdiv a b=a / b:=Int.tdiv_eq_ediv_of_nonneg h
theorem tmod_nn (a b:Int) (h:0≤a):Int.tmod a b=a % b:=Int.tmod_eq_emod_of_nonneg h
theorem specMostEven_l (n sum:Int) (h1:1≤n) (h2:n≤8) (h3:0≤sum) (h4:sum≤n*60):Ev (fun k=>spec_MostEven.l0 k n sum [] 0) (evenL n sum,true):=by
 have h:=ev_build (g:=fun k acc i=>spec_MostEven.l0 k n sum acc i) (evenL n sum) (evenL n sum,true)
  (Ev.succ (by
   simp only [spec_MostEven.l0,evenL_length,if_neg (show ¬ ((n.toNat:Nat):Int)<n by omega)];exact Ev.now _))
  (fun i h r hr=>Ev.succ (by
   have hi:(i:Int)<n:=by rw [evenL_length] at h;omega
   simp only [spec_MostEven.l0,if_pos hi,if_neg (show ¬ n=0 by omega),if_pos (show ((evenL n sum).take i).length<17592186044416 by rw [zax,evenL_length];omega)];rw [evenL_get,← even_same n sum i h1 h2 h3 h4 (by omega) hi] at hr
   have d:=div_bd n (sum) h1 h2 h3 h4;have hs:=even_same n sum i h1 h2 h3 h4 (by omega) hi;have hb:0≤(sum+n - 1 - i) / n∧(sum+n - 1 - i) / n≤61:=by
    rw [hs];split <;> omega
   simp only [w64 (x:=sum+n) (by omega) (by omega),w64 (x:=sum+n - 1) (by omega) (by omega),w64 (x:=sum+n - 1 - (i:Int)) (by omega) (by omega),tdiv_nn _ _ (show 0≤sum+n - 1 - (i:Int) by omega),w64 (x:=(sum+n - 1 - (i:Int)) / n) (by omega) (by omega),w64 (x:=(i:Int)+1) (by omega) (by omega)];exact hr)) n.toNat 0 (tabv)
 exact h
def evenR (n sum:Int):List Int × Bool:=if 1≤n∧n≤8 then (if 0≤sum∧sum≤n*60 then (evenL n sum,true) else ([],false)) else ([],false)
theorem specMostEven_ev (n sum:Int):Ev (fun k=>spec_MostEven.f k n sum) (evenR n sum):=by
 unfold spec_MostEven.f evenR;simp only [l1In_eq,zbf,decide_eq_true_eq];refine Ev.ite (fun h => ?_) (fun h=>Ev.succ (by simp only [spec_MostEven.j0,if_true];exact Ev.now _))
 rw [w64 (x:=n*60) (by omega) (by omega)];by_cases c:0≤sum∧sum≤n*60
 ·rw [if_pos c,zba c]
  refine Ev.succ ?_
  simp only [spec_MostEven.j0,Bool.not_true,if_neg (show ¬ (false=true) by decide)];exact specMostEven_l n sum h.1 h.2 c.1 c.2
 ·rw [if_neg c,zbl c]
  refine Ev.succ ?_
  simp only [spec_MostEven.j0,Bool.not_false,if_true];exact Ev.now _
theorem implMostEven_l (n sum:Int) (h1:1≤n) (h2:n≤8) (h3:0≤sum) (h4:sum≤n*60):Ev (fun k=>impl_mostEven.f k n sum) (evenL n sum):=by
 have d:=div_bd n (sum) h1 h2 h3 h4;have h:=ev_build (g:=fun k acc i=>impl_mostEven.l0 k n sum acc n i) (evenL n sum) (evenL n sum)
  (Ev.succ (by
   simp only [impl_mostEven.l0,evenL_length,if_neg (show ¬ ((n.toNat:Nat):Int)<n by omega)];exact Ev.now _))
  (fun i h r hr=>Ev.succ (by
   have hi:(i:Int)<n:=by rw [evenL_length] at h;omega
   simp only [impl_mostEven.l0,if_pos hi,if_neg (show ¬ n=0 by omega),if_pos (show ((evenL n sum).take i).length<17592186044416 by rw [zax,evenL_length];omega),tdiv_nn _ _ h3,tmod_nn _ _ h3,w64 (x:=sum / n) (by omega) (by omega),w64 (x:=(i:Int)+1) (by omega) (by omega)];rw [evenL_get] at hr
   by_cases c:(i:Int)<sum % n
   ·simp only [if_pos c,w64 (x:=sum / n+1) (by omega) (by omega)] at hr ⊢
    exact hr
   ·simp only [if_neg c,Int.add_zero] at hr ⊢
    exact hr)) n.toNat 0 (tabv)
 exact h
theorem evenL_rd (n sum:Int) (k:Nat) (h:k<n.toNat):rd (evenL n sum) (k:Int)=sum / n+if (k:Int)<sum % n then 1 else 0:=by
 rw [rdn (by rw [evenL_length];exact h),evenL_get]
theorem evenL_desc (n sum:Int):Desc (evenL n sum):=by
 refine desc_of_rd fun k hk => ?_
 rw [evenL_length] at hk
 rw [evenL_rd n sum k (by omega),evenL_rd n sum (k+1) hk];split
 ·rw [if_pos (by omega)];omega
 ·split <;> omega
theorem evenL_pre (n sum:Int) (hn:0<n):∀ m:Nat,m≤n.toNat→pre (evenL n sum) m=m*(sum / n)+min (m:Int) (sum % n)
 | 0,_=>by
  have:=Int.emod_nonneg sum (show n≠0 by omega);rw [pre_zero];simp
  omega
 | m+1,h=>by
  rw [pre_succ (tabv),evenL_pre n sum hn m (by omega),evenL_rd n sum m (by omega)];have e:((m+1:Nat):Int)*(sum / n)=m*(sum / n)+sum / n:=by
   rw [Int.natCast_add,Int.add_mul];simp
  rw [e];split <;> omega
theorem evenL_sum (n sum:Int) (hn:0<n):(evenL n sum).sum=sum:=by
 have h:=evenL_pre n sum hn n.toNat (zcf _);rw [pre_all (by rw [evenL_length];exact zcf _)] at h
 have h1:=Int.emod_lt_of_pos sum hn;have h2:=Int.mul_ediv_add_emod sum n;have h3:((n.toNat:Nat):Int)=n:=by omega
 rw [h3] at h
 omega
theorem even_pre {x:List Int} (hx:Desc x) (hn:0<x.length) (m:Nat) (hm:m≤x.length):m*(x.sum / x.length)+min (m:Int) (x.sum % x.length)≤pre x m:=by
 have h1:=Int.emod_lt_of_pos x.sum (show (0:Int)<x.length by omega);have h0:=Int.emod_nonneg x.sum (show (x.length:Int)≠0 by omega);have h2:=Int.mul_ediv_add_emod x.sum x.length;generalize x.sum / x.length=q at *
 generalize x.sum % x.length=r at *
 cases m with
 | zero=>rw [pre_zero];simp;omega
 | succ m =>
  rcases Int.lt_or_le q (rd x (m:Int)) with hq | hq
  ·have key:∀ j:Nat,j≤m+1→(j:Int)*(q+1)≤pre x j:=by
    intro j
    induction j with
    | zero=>intro _;rw [pre_zero];simp
    | succ j ih =>
     intro hj
     have:=ih (by omega);have hd:=desc_rd hx (a:=j) (b:=m) (by omega) (by omega);rw [pre_succ (by omega)];have e:((j+1:Nat):Int)*(q+1)=j*(q+1)+(q+1):=by
      rw [Int.natCast_add,Int.add_mul];simp
     rw [e];omega
   have:=key (m+1) (zcf _);rw [Int.mul_add] at this
   omega
  ·have key:∀ d:Nat,m+1+d≤x.length→pre x (m+1+d)≤pre x (m+1)+d*q:=by
    intro d
    induction d with
    | zero=>intro _;simp
    | succ d ih =>
     intro hd
     have:=ih (by omega);have hdd:=desc_rd hx (a:=m) (b:=m+1+d) (by omega) (by omega);rw [show m+1+(d+1)=m+1+d+1 from rfl,pre_succ (by omega)];have e:((d+1:Nat):Int)*q=d*q+q:=by
      rw [Int.natCast_add,Int.add_mul];simp
     rw [e];omega
   have h3:=key (x.length - (m+1)) (by omega);rw [show m+1+(x.length - (m+1))=x.length by omega,pre_all (zcf _)] at h3
   have e:(x.length:Int)*q=((m+1:Nat):Int)*q+((x.length - (m+1):Nat):Int)*q:=by
    rw [← Int.add_mul];congr 1
    omega
   omega
theorem even_bet (a:List Int) (hg:goodL a=true):betB (evenL a.length a.sum) a=true:=by
 obtain ⟨b1,b2,b3⟩:=(goodL_iff a).1 hg;have hn:(0:Int)<a.length:=by omega
 have hs:0≤a.sum∧a.sum≤a.length*60:=by
  clear b1 b2 hg hn;induction a with
  | nil=>simp
  | cons x a ih =>
   have:=ih (fun y hy=>b3 y (List.mem_cons_of_mem _ hy));have:=b3 x List.mem_cons_self;rw [List.sum_cons,List.length_cons];omega
 have hb:=div_bd a.length a.sum (by omega) (by omega) hs.1 hs.2;refine (betB_iff _ _).2 ⟨?_,hg,?_⟩
 ·refine (goodL_iff _).2 ⟨tabv,tabv,fun x hx => ?_⟩
  obtain ⟨i,hi,rfl⟩:=List.mem_iff_getElem.1 hx;rw [evenL_length] at hi
  rw [evenL_get];have h2:=Int.mul_ediv_add_emod a.sum a.length;split
  ·next h =>
   rcases Int.lt_or_le (a.sum / a.length) 60 with c | c
   ·omega
   ·have:a.sum / a.length=60:=by omega
    rw [this] at h2
    omega
  ·omega
 ·rw [majB_dom,descL_of_desc (evenL_desc _ _)]
  refine ⟨by rw [descL_length,evenL_length];omega,by rw [descL_sum,evenL_sum _ _ hn],fun m => ?_⟩
  rcases Nat.lt_or_ge a.length m with hm | hm
  ·rw [pre_all (tabv),pre_all (tadh),descL_sum,evenL_sum _ _ hn]
   exact Int.le_refl _
  ·rw [evenL_pre _ _ hn m (by omega)]
   have:=even_pre (descL_desc a) (tadh) m (by rw [descL_length];exact hm);rw [descL_length,descL_sum] at this
   exact this
theorem good_sum {a:List Int} (hg:goodL a=true):0≤a.sum∧a.sum≤a.length*60:=by
 obtain ⟨b1,b2,b3⟩:=(goodL_iff a).1 hg;clear b1 b2 hg;induction a with
 | nil=>simp
 | cons x a ih =>
  have:=ih (fun y hy=>b3 y (List.mem_cons_of_mem _ hy));have:=b3 x List.mem_cons_self;rw [List.sum_cons,List.length_cons];omega
theorem implUnits_l (p q:List Int) (hl:p.length=q.length) (hp:Sm p) (hq:Sm q):∀ (n i:Nat) (s:Int),i+n=p.length→0≤s→s≤1000*i→Ev (fun k=>impl_FewestUnits.l0 k s p q (p.length:Int) (i:Int)) (s+unitL (p.drop i) (q.drop i),true)
 | 0,i,s,h,h0,h1=>by
  refine Ev.succ ?_
  simp only [impl_FewestUnits.l0,if_neg (show ¬ (i:Int)<(p.length:Int) by omega)];rw [unitL_end (by omega),Int.add_zero];exact Ev.now _
 | n+1,i,s,h,h0,h1=>by
  have hi:i<p.length:=by omega
  have hj:i<q.length:=by omega
  have b1:=hp.2 _ (List.getElem_mem hi);have b2:=hq.2 _ (List.getElem_mem hj);have hm:=hp.1;refine Ev.succ ?_
  simp only [impl_FewestUnits.l0,if_pos (show (i:Int)<(p.length:Int) by omega),if_pos (show (i:Int)<(q.length:Int) by omega),if_pos (show (0:Int)≤(i:Int) by omega),rdn hi,rdn hj,wsucc hi (by omega),mx_eq,w64 (x:=p[i] - q[i]) (by omega) (by omega),w64 (x:=s+max 0 (p[i] - q[i])) (by omega) (by omega)];have ih:=implUnits_l p q hl hp hq n (i+1) (s+max 0 (p[i] - q[i])) (by omega) (by omega) (by omega);rw [unitL_drop hi hj,← Int.add_assoc];exact ih
def unitsR (a b:List Int):Int × Bool:=if betB a b=true then (unitL (descL b) (descL a),true) else (0,false)
theorem implFewestUnits_ev (a b:List Int) (ha:a.length≤1048576) (hb:b.length≤1048576):Ev (fun k=>impl_FewestUnits.f k a b) (unitsR a b):=by
 unfold impl_FewestUnits.f unitsR;refine Ev.bind (isBetween_ev a b ha hb) (Ev.ite (fun h => ?_) (fun _=>Ev.now _))
 obtain ⟨ga,gb,hm⟩:=(betB_iff a b).1 h;simp only [ranking_eq (good_sm ga),ranking_eq (good_sm gb),zbf];have hl:=((majB_iff a b).1 hm).1;have:=implUnits_l (descL b) (descL a) (by rw [descL_length,descL_length];omega) (sm_desc (good_sm gb)) (sm_desc (good_sm ga)) (descL b).length 0 0 (by omega) (by omega) (by omega);simpa using this
theorem gv_kind {x t:List Int} {i j:Nat} {a:Int} (hl:x.length=t.length) (hx:goodL x=true) (ht:Desc t) (g:Gv x t i j a):kindB x (i:Int) (j:Int) a=true:=by
 have h1:=g.lt;have h2:=g.hj;have h3:=g.ai;have h4:=g.aj;have h5:=g.pos;have d:=desc_rd ht (a:=i) (b:=j) (by omega) (by omega);have b1:=rd_good hx (i:=(i:Int)) (by omega) (by omega);have b2:=rd_good hx (i:=(j:Int)) (by omega) (by omega);exact (kindB_iff _ _ _ _).2 ⟨(isG_iff _ _ _ _).2 ⟨by omega,by omega,by omega,h5⟩,by omega,by omega⟩
theorem foll_cons (x:List Int) (g:S59) (p:List S59):foll x (g :: p)=if kindB x g.f0 g.f1 g.f2=true then (foll (stepG x g) p).map (stepG x g :: ·) else none:=rfl
theorem stepG_length (x:List Int) (g:S59):(stepG x g).length=x.length:=by
 unfold stepG;rw [descL_length,giveL_length]
theorem isG_len {x y:List Int} (h:x.length=y.length) (f t a:Int):isG x f t a=isG y f t a:=by
 unfold isG;rw [h]
theorem foll_isG:∀ (p:List S59) (x:List Int) (M:List (List Int)),foll x p=some M→∀ g ∈ p,isG x g.f0 g.f1 g.f2=true
 | [],_,_,_,g,hg=>by simp at hg
 | g :: p,x,M,h,q,hq=>by
  rw [foll_cons] at h
  by_cases c:kindB x g.f0 g.f1 g.f2=true
  ·rw [if_pos c] at h
   obtain ⟨N,h1,_⟩:=Option.map_eq_some_iff.1 h;rcases List.mem_cons.1 hq with rfl | hq
   ·exact ((kindB_iff _ _ _ _).1 c).1
   ·rw [isG_len (stepG_length x g).symm]
    exact foll_isG p (stepG x g) N h1 q hq
  ·rw [if_neg c] at h
   cases h
theorem lastR_cons (x y:List Int) (M:List (List Int)):lastR (x :: y :: M)=lastR (y :: M):=by
 unfold lastR;simp
theorem foll_gp {u:Bool} {t x:List Int} {L:List (Nat × Nat × Int)} (h:GP u t x L) (ht:Desc t) (htg:goodL t=true):Dom x t→Desc x→goodL x=true→∃ M,foll x (toG L)=some M∧lastR (x :: M)=t:=by
 induction h with
 | nil=>exact fun _ _ _=>⟨[],rfl,rfl⟩
 | @cons x i j L hne hn h ih =>
  intro hd hx hg
  have g:=nx_gv u hn;have hk:=gv_kind hd.1 hg ht g;have hs:stepG x ⟨(i:Int),(j:Int),gvA u x t i j⟩=giveL x (i:Int) (j:Int) (gvA u x t i j):=descL_of_desc (gv_desc hd.1 hx ht g);obtain ⟨M,h1,h2⟩:=ih (gv_dom hd g) (gv_desc hd.1 hx ht g) (gv_good hd.1 hg htg g);refine ⟨giveL x (i:Int) (j:Int) (gvA u x t i j) :: M,?_,by rw [lastR_cons];exact h2⟩
  show foll x (⟨(i:Int),(j:Int),gvA u x t i j⟩ :: toG L)=_
  rw [foll_cons,if_pos hk,hs,h1];rfl
theorem igp_eq (a b:List Int) (p:List S59) (ha:a.length≤1048576) (hb:b.length≤1048576) (hp:p.length≤1048576):impl_IsGiftPath.f a b p=some (igpR a b p):=by
 unfold impl_IsGiftPath.f;rw [if_pos ⟨ha,hb,hp⟩]
theorem any_not_all (b:List Int) (p:List S59):(p.any fun g => !isG b g.f0 g.f1 g.f2) = !(p.all fun g=>isG b g.f0 g.f1 g.f2):=by
 rw [List.not_all_eq_any_not]
theorem pGifts_self (p:List S59) (hp:p.length≤1048576):Ev (fun k=>laws_pGifts.f k p p) true:=by
 unfold laws_pGifts.f;simp only [if_true];have key:∀ (d i:Nat),i+d=p.length→Ev (fun k=>laws_pGifts.l0 k p p (p.length:Int) (i:Int)) true:=by
  intro d
  induction d with
  | zero =>
   intro i h
   refine Ev.succ ?_
   simp only [laws_pGifts.l0,if_neg (show ¬ (i:Int)<(p.length:Int) by omega)];exact Ev.now _
  | succ d ih =>
   intro i h
   have hi:i<p.length:=by omega
   refine Ev.succ ?_
   simp only [laws_pGifts.l0,if_pos (show (i:Int)<(p.length:Int) by omega),if_pos (show (0:Int)≤(i:Int) by omega),beq_self_eq_true,Bool.not_true,Bool.or_false,zbq,if_false,wsucc hi (by omega)];exact ih (i+1) (by omega)
 exact key p.length 0 (by omega)
theorem Ev.ite' {α:Type} {c:Prop} [Decidable c] {g f:Nat→Option α} {r:α} (h:c→Ev g r) (h':¬ c→Ev f r):Ev (fun k=>if c then g k else f k) r:=by
 by_cases hc:c
 ·simp only [hc,if_true]
  exact h hc
 ·simp only [hc,if_false]
  exact h' hc
theorem big_eq (a b:List Int) (ha:a.length≤140737488355328):laws_big.f a b=some (decide ((a.length:Int)>1048576∨(b.length:Int)>1048576 - (a.length:Int))):=by
 unfold laws_big.f;rw [w64 (x:=1048576 - (a.length:Int)) (by omega) (by omega)];by_cases h:(a.length:Int)>1048576
 ·simp [h]
 ·simp only [if_neg h]
  congr 1
  by_cases h2:(b.length:Int)>1048576 - (a.length:Int)
  ·rw [zba h2,zba (.inr h2)]
  ·rw [zbl h2,zbl (by omega)]
theorem bytes_of {l:List Int} (h:l.length≤1048576) (hx:∀ x ∈ l,(Lit.int .u8 x).wf=true):Bytes l:=by
 refine ⟨h,fun x hm => ?_⟩
 have:=hx x hm;simp only [Lit.wf,Bool.and_eq_true,decide_eq_true_eq] at this
 exact ⟨this.1,this.2⟩
theorem pSum_ev (l:List Int) (n m:Int) (h:Bd n m l) (hn:n≤1000) (hm:m≤100000) (hm0:0≤m):Ev (fun k=>laws_pSum.f k l) l.sum:=by
 unfold laws_pSum.f;have hl:=h.len;have h:=ev_fold (xs:=l) (g:=fun k s i=>laws_pSum.l0 k s l (l.length:Int) i) (fun s x=>s+x) (fun s i => -(i:Int)≤s∧s≤100000*(i:Int)) id
  (fun s _=>Ev.succ (by simp only [laws_pSum.l0,if_neg (Int.lt_irrefl _)];exact Ev.now _))
  (fun i hi s r hs _ hr=>Ev.succ (by
   have h1:=h.low _ (List.getElem_mem hi);have h2:=h.high _ (List.getElem_mem hi);simp only [laws_pSum.l0,if_pos (show (i:Int)<(l.length:Int) by omega),if_pos (show (0:Int)≤(i:Int) by omega),rdn hi,wsucc hi (by omega),w64 (x:=s+l[i]) (by omega) (by omega)];exact hr))
  (fun i hi s hs=>by
   have h1:=h.low _ (List.getElem_mem hi);have h2:=h.high _ (List.getElem_mem hi);omega) l.length 0 0 (by omega) (by omega)
 rw [List.drop_zero,foldl_add,Int.zero_add] at h
 exact h
theorem big_cut (l0 l1:List Int) (g0:l0.length*1≤140737488351232) (x0:∀ x ∈ l0,(Lit.int .u8 x).wf=true) (x1:∀ x ∈ l1,(Lit.int .u8 x).wf=true):laws_big.f l0 l1=some true∨laws_big.f l0 l1=some false∧Bytes l0∧Bytes l1:=by
 rw [big_eq l0 l1 (by omega)];by_cases hb:(l0.length:Int)>1048576∨(l1.length:Int)>1048576 - (l0.length:Int)
 ·rw [zba hb]
  exact .inl rfl
 ·rw [zbl hb]
  exact .inr ⟨rfl,bytes_of (by omega) x0,bytes_of (by omega) x1⟩
theorem implGiftPath_ev (a b:List Int) (ha:a.length≤1048576) (hb:b.length≤1048576):Ev (fun k=>impl_GiftPath.f k a b) (pathR a b):=by
 unfold impl_GiftPath.f pathR;refine Ev.bind (isBetween_ev a b ha hb) (Ev.ite (fun h => ?_) (fun _=>Ev.now _))
 obtain ⟨ga,gb,hm⟩:=(betB_iff a b).1 h;simp only [ranking_eq (good_sm ga),ranking_eq (good_sm gb),zbf];exact Ev.bind (pathL_ev true a b h).1 (Ev.now _)
noncomputable def levelR (a:List Int):List S59 × Bool:=if goodL a=true then (pathL true (evenL a.length a.sum) a,true) else ([],false)
theorem specLevelOff_ev (a:List Int) (ha:a.length≤1048576):Ev (fun k=>spec_LevelOff.f k a) (levelR a):=by
 unfold spec_LevelOff.f levelR;refine Ev.bind (liGood_ev a (by omega)) (Ev.ite (fun hg => ?_) (fun _=>Ev.now _))
 obtain ⟨b1,b2,b3⟩:=(goodL_iff a).1 hg;have hs:=good_sum hg;refine Ev.bind (liSum_ev a (good_sm hg)) ?_
 have e:=specMostEven_ev a.length a.sum;unfold evenR at e
 rw [if_pos (by omega),if_pos (by omega)] at e
 exact Ev.bind e (Ev.bind (pathL_ev true _ a (even_bet a hg)).2.1 (Ev.now _))
theorem implLevelOff_ev (a:List Int) (ha:a.length≤1048576):Ev (fun k=>impl_LevelOff.f k a) (levelR a):=by
 unfold impl_LevelOff.f levelR;refine Ev.bind (implIsList_ev a (by omega)) (Ev.ite (fun hg => ?_) (fun _=>Ev.now _))
 obtain ⟨b1,b2,b3⟩:=(goodL_iff a).1 hg;have hs:=good_sum hg;refine Ev.bind (total_ev a (good_sm hg)) (Ev.bind (implMostEven_l a.length a.sum (by omega) (by omega) (by omega) (by omega)) ?_)
 have hb:=even_bet a hg;have e:=implGiftPath_ev (evenL a.length a.sum) a (tabv) ha;unfold pathR at e
 rw [if_pos hb] at e
 exact Ev.bind e (Ev.now _)
theorem levelR_len (a:List Int) (ha:a.length≤1048576):(levelR a).1.length≤1048576:=by
 unfold levelR;split
 ·next hg =>
  have:=(pathL_ev true _ a (even_bet a hg)).2.2;simp only;omega
 ·simp
theorem specLongestPath_ev (a b:List Int) (ha:a.length≤1048576) (hb:b.length≤1048576):Ev (fun k=>spec_LongestPath.f k a b) (lpR a b):=by
 unfold spec_LongestPath.f lpR;refine Ev.bind (giLists_ev a b ha hb) (Ev.ite (fun h => ?_) (fun _=>Ev.now _))
 obtain ⟨ga,gb,hm⟩:=(betB_iff a b).1 h;have hs:=((majB_iff a b).1 hm).2.1;refine Ev.bind (liSum_ev a (good_sm ga)) ?_
 by_cases c:b.sum≤20
 ·simp only [if_neg (show ¬ a.sum>20 by omega),if_pos c]
  have e:spec_giLongest.f a b=some (lp a (descL b)):=by
   unfold spec_giLongest.f;rw [if_pos h,if_pos c]
  simp only [e,zbf];exact Ev.now _
 ·simp only [if_pos (show a.sum>20 by omega),if_neg c]
  exact Ev.now _
theorem implLongestPath_ev (a b:List Int) (ha:a.length≤1048576) (hb:b.length≤1048576):Ev (fun _=>impl_LongestPath.f a b) (lpR a b):=by
 unfold impl_LongestPath.f;rw [if_pos ⟨ha,hb⟩];exact Ev.now _
theorem implMostEven_ev (n sum:Int):Ev (fun k=>impl_MostEven.f k n sum) (evenR n sum):=by
 unfold impl_MostEven.f impl_isMany.f evenR;simp only [within_eq,zbf,decide_eq_true_eq];refine Ev.ite (fun h => ?_) (fun h=>Ev.now _)
 rw [w64 (x:=n*60) (by omega) (by omega)];exact Ev.ite (fun c=>Ev.bind (implMostEven_l n sum h.1 h.2 c.1 c.2) (Ev.now _)) (fun _=>Ev.now _)
end Go.Proofs.YtefbphpgaeffaaaGreatDoor.A
/- The law FnLongestPaths holds of the printed functions, for every argument: numbers and lists alone. -/
namespace Go.Proofs.YtefbphpgaeffaaaGreatDoor.Pure
open Go.RowKit Go.Proofs.YtefbphpgaeffaaaGreatDoor.A Go.Proofs.YtefbphpgaeffaaaGreatDoorW.PrintWords Go.Proofs.YtefbphpgaeffaaaGreatDoorW.PrintLast
set_option linter.unusedVariables false
set_option linter.unusedSimpArgs false
theorem igp_path (u:Bool) {a b:List Int} (h:betB a b=true):igpR a b (pathL u a b)=(true,true)∧(pathL u a b).length≤240∧∀ g ∈ pathL u a b,1≤g.f2:=by
 obtain ⟨ga,gb,hm⟩:=(betB_iff a b).1 h
 have hd:=(majB_dom a b).1 hm
 have ga':goodL (descL a)=true:=by rw [good_desc];exact ga
 have gb':goodL (descL b)=true:=by rw [good_desc];exact gb
 obtain ⟨hG,hlen⟩:=gpL_spec u hd (descL_desc b) (descL_desc a) gb' ga'
 have hbd:=unit_240 gb' ga' hd.1 hd.2.1
 obtain ⟨M,h1,h2⟩:=foll_gp hG (descL_desc a) ga' hd (descL_desc b) gb'
 have hl:(pathL u a b).length≤240:=by
  unfold pathL
  rw [toG_length]
  omega
 have hi:=foll_isG _ _ _ h1
 have hf:fitB a b=true:=by
  have:=(majB_iff a b).1 hm
  exact (fitB_iff a b).2 ⟨this.1,this.2.1⟩
 refine ⟨?_,hl,fun g hg=>((isG_iff _ _ _ _).1 (hi g hg)).2.2.2⟩
 unfold igpR
 rw [if_pos ga,gb,if_pos rfl,if_pos hf,if_neg (by omega)]
 have hn:((pathL u a b).any fun g => !isG b g.f0 g.f1 g.f2)=false:=by
  rw [any_not_all,Bool.not_eq_false',List.all_eq_true]
  intro g hg
  rw [← isG_len (descL_length b)]
  exact hi g hg
 rw [hn,if_neg (by decide)]
 unfold igpM
 have h1':foll (descL b) (pathL u a b)=some M:=h1
 rw [h1']
 simp only [h2,decide_true]
theorem bet_lenL {a b:List Int} (h:betB a b=true):a.length=b.length:=((majB_iff a b).1 ((betB_iff a b).1 h).2.2).1
theorem even_ok {c:List Int} (hg:goodL c=true):evenR (c.length:Int) c.sum=(evenL c.length c.sum,true):=by
 have h1:=(goodL_iff c).1 hg
 have h2:=good_sum hg
 unfold evenR
 rw [if_pos (by omega),if_pos (by omega)]
theorem lp_l0 (x:List Int) (hx:x.length≤1000) (n:Int) (L:List (List Int)) (hL:L.length≤1000000000000) (hd:∀ d ∈ L,d.length≤1000∧goodL d=true∧d.sum≤20):∀ (q i:Nat) (m:Int),i+q=L.length → -1≤m→m≤28800→n=(L.drop i).foldl (bestC x) m+1→Ev (fun k=>laws_FnLongestPaths.l0 k x n m L (L.length:Int) (i:Int)) true
 | 0,i,m,hi,h0,h1,e=>by
  rw [List.drop_eq_nil_of_le (by omega)] at e
  refine Ev.succ ?_
  simp only [laws_FnLongestPaths.l0,if_neg (show ¬ (i:Int)<(L.length:Int) by omega)]
  have e2:n=m+1:=e
  rw [e2,w64 (x:=m+1) (by omega) (by omega),beq_self_eq_true]
  exact Ev.now _
 | q+1,i,m,hi,h0,h1,e=>by
  have hi2:i<L.length:=by omega
  obtain ⟨l1,g1,s1⟩:=hd _ (List.getElem_mem hi2)
  rw [List.drop_eq_getElem_cons hi2,List.foldl_cons] at e
  have e3:impl_LongestPath.f x L[i]=some (lpR x L[i]):=by
   unfold impl_LongestPath.f
   rw [if_pos ⟨by omega,by omega⟩]
  have hn:=lp_nn (a:=x) (x:=descL L[i]) (by rw [good_desc];exact g1)
  have hb:=lp_le (a:=x) (x:=descL L[i]) (by rw [good_desc];exact g1)
  refine Ev.succ ?_
  simp only [laws_FnLongestPaths.l0,if_pos (show (i:Int)<(L.length:Int) by omega),if_pos (show (0:Int)≤(i:Int) by omega),rd_L1n hi2,e3,zbf,wsucc hi2 (by omega)]
  unfold lpR
  unfold bestC at e
  by_cases hbt:betB x L[i]=true
  ·simp only [if_pos hbt,if_pos s1,if_true]
   by_cases c:m<lp x (descL L[i])
   ·rw [if_pos ⟨hbt,c⟩] at e
    simp only [if_pos (show lp x (descL L[i])>m from c)]
    exact lp_l0 x hx n L hL hd q (i+1) _ (by omega) (by omega) hb e
   ·rw [if_neg (fun h=>c h.2)] at e
    simp only [if_neg (show ¬ lp x (descL L[i])>m from c)]
    exact lp_l0 x hx n L hL hd q (i+1) m (by omega) h0 h1 e
  ·simp only [if_neg hbt,zbq,if_false]
   rw [if_neg (fun h=>hbt h.1)] at e
   exact lp_l0 x hx n L hL hd q (i+1) m (by omega) h0 h1 e
theorem lp_j4 (x y:List Int) (hx:x.length≤1000) (hy:y.length≤1000) (h:betB x y=true) (h20:y.sum≤20):Ev (fun k=>laws_FnLongestPaths.j4 k x y (lp x (descL y)) false) true:=by
 have gy:=((betB_iff x y).1 h).2.1
 refine Ev.succ ?_
 simp only [laws_FnLongestPaths.j4,zbq,if_false]
 refine Ev.bind (implLowerCovers_ev y (by omega)) ?_
 have e:covR y=(covL y,true):=by
  unfold covR
  rw [if_pos gy,if_pos (by omega)]
 simp only [e,if_true]
 have hlen:=(covR_bd y).2
 rw [e] at hlen
 dsimp only at hlen
 refine lp_l0 x hx _ (covL y) (by omega) (fun d hd => ?_) (covL y).length 0 (-1) (by omega) (by omega) (by omega) ?_
 ·have hs:=ug_stp (p:=descL y) (by rw [good_desc];exact gy) (cov_ug gy hd)
  have h1:=hs.len
  have h2:=hs.sum
  rw [descL_length] at h1
  rw [descL_sum] at h2
  exact ⟨by omega,hs.good,by omega⟩
 ·rw [List.drop_zero]
  exact lp_cov h
theorem lp_j3 (x y:List Int) (hx:x.length≤1000) (hy:y.length≤1000):Ev (fun k=>laws_FnLongestPaths.j3 k x y (lpR x y).1 (lpR x y).2 (betweenR x y).1 false) true:=by
 refine Ev.succ ?_
 simp only [laws_FnLongestPaths.j3,zbq,if_false]
 refine Ev.ite' (fun c => ?_) (fun _=>Ev.now _)
 have hc:betB x y=true∧y.sum≤20:=by
  unfold lpR at c
  split at c
  ·next h =>
   split at c
   ·next h2=>exact ⟨h,h2⟩
   ·cases c
  ·cases c
 obtain ⟨h,h20⟩:=hc
 obtain ⟨gx,gy,hm⟩:=(betB_iff x y).1 h
 have gd:goodL (descL y)=true:=by rw [good_desc];exact gy
 have hm2:majB x (descL y)=true:=by rw [majB_descR];exact hm
 have e1:lpR x y=(lp x (descL y),true):=by
  unfold lpR
  rw [if_pos h,if_pos h20]
 have e2:unitsR x y=(unitL (descL y) (descL x),true):=by
  unfold unitsR
  rw [if_pos h]
 have hf:fitB x y=true:=by
  have:=(majB_iff x y).1 hm
  exact (fitB_iff x y).2 ⟨this.1,this.2.1⟩
 have e3:(betweenR x y).1=((allU (descL y) x 0 y.length).length:Int):=by
  unfold betweenR
  rw [if_pos gx,if_pos gy,if_pos hf]
 have k1:=lp_units (descL_desc y) gd gx hm2
 have k2:=lp_zero (descL_desc y) gd gx hm2
 have k3:=unit_zero ((majB_dom x y).1 hm)
 have k4:=allU_none (a:=x) gd
 rw [descL_length] at k4
 refine Ev.bind (implFewestUnits_ev x y (by omega) (by omega)) ?_
 simp only [e1,e2,e3,if_true]
 simp only [if_neg (show ¬ lp x (descL y)<unitL (descL y) (descL x) by omega)]
 have z1:(lp x (descL y) == 0)=(unitL (descL y) (descL x) == 0):=by
  rw [Bool.eq_iff_iff,beq_iff_eq,beq_iff_eq,k2,k3]
 have z2:(((allU (descL y) x 0 y.length).length:Int) == 0)=(unitL (descL y) (descL x) == 0):=by
  rw [Bool.eq_iff_iff,beq_iff_eq,beq_iff_eq,k3,← k2,← k4]
  constructor
  ·intro q
   exact List.length_eq_zero_iff.1 (by omega)
  ·intro q
   rw [q]
   rfl
 simp only [z1,z2,bne_self_eq_false,zbq,if_false]
 exact lp_j4 x y hx hy h h20
theorem lp_j2 (x y:List Int) (hx:x.length≤1000) (hy:y.length≤1000):Ev (fun k=>laws_FnLongestPaths.j2 k x y (lpR x y).1 (lpR x y).2) true:=by
 refine Ev.succ ?_
 simp only [laws_FnLongestPaths.j2]
 refine Ev.bind (implGiftsBetween_ev x y (by omega) (by omega)) (Ev.bind (specGiftsBetween_ev x y (by omega) (by omega)) ?_)
 simp only [bne_self_eq_false,zbq,if_false]
 exact lp_j3 x y hx hy
theorem lp_j0 (l:List Int) (hl:Bytes l) (x y:List Int) (hx:x.length≤1000) (hy:y.length≤1000):Ev (fun k=>laws_FnLongestPaths.j0 k l x y (lpR x y).1 (lpR x y).2 false) true:=by
 obtain ⟨c,a1,s1,e,hc,_,_⟩:=anyList_ev l hl 20 (by omega) (by omega) 0 0 (by omega) (by omega)
 have e4:Ev (fun k=>spec_DrawLevelOff.f k l) c:=by
  unfold spec_DrawLevelOff.f
  exact Ev.bind e (Ev.now _)
 have hcl:=hc.len
 refine Ev.succ ?_
 simp only [laws_FnLongestPaths.j0,zbq,if_false]
 refine Ev.bind e4 (Ev.bind (implLevelOff_ev c (by omega)) (Ev.bind (specLevelOff_ev c (by omega)) ?_))
 simp only [bne_self_eq_false,zbq,if_false]
 refine Ev.bind (pGifts_self _ (levelR_len c (by omega))) ?_
 simp only [Bool.not_true]
 refine Ev.succ ?_
 simp only [laws_FnLongestPaths.j1,zbq,if_false]
 refine Ev.ite' (fun d => ?_) (fun _=>lp_j2 x y hx hy)
 have hg:goodL c=true:=by
  unfold levelR at d
  split at d
  ·next h=>exact h
  ·cases d
 have e5:levelR c=(pathL true (evenL c.length c.sum) c,true):=by
  unfold levelR
  rw [if_pos hg]
 have hb:=even_bet c hg
 obtain ⟨p1,p2,_⟩:=igp_path true hb
 have hel:=bet_lenL hb
 refine Ev.bind (pSum_ev c 12 100 (hc.le (by omega) (by omega)) (by omega) (by omega) (by omega)) (Ev.bind (implMostEven_ev (c.length:Int) c.sum) ?_)
 simp only [even_ok hg,e5,igp_eq (evenL (c.length:Int) c.sum) c (pathL true (evenL (c.length:Int) c.sum) c) (by omega) (by omega) (by omega),p1,zbf,if_true]
 exact lp_j2 x y hx hy
theorem FnLongestPaths:laws_FnLongestPaths.Pure:=by
 intro l0 l1 _ g0 x0 _ g1 x1
 apply Ev.get
 unfold laws_FnLongestPaths.f
 rcases big_cut l0 l1 g0 x0 x1 with hb | ⟨hb,b0,b1⟩
 ·simp only [hb,zbf,if_true]
  exact Ev.now _
 ·simp only [hb,zbf,zbq,if_false]
  obtain ⟨x,y,a1,s1,e,hx,hy,_,_⟩:=majorized_ev l0 b0 4 (by omega) (by omega) 0 0 (by omega) (by omega)
  have lx:=hx.len
  have ly:=hy.len
  have e4:Ev (fun k=>spec_DrawLongestPath.f k l0) (x,y):=by
   unfold spec_DrawLongestPath.f
   exact Ev.bind e (Ev.now _)
  refine Ev.bind e4 (Ev.bind (implLongestPath_ev x y (by omega) (by omega)) (Ev.bind (specLongestPath_ev x y (by omega) (by omega)) ?_))
  simp only [bne_self_eq_false,zbq,if_false]
  exact lp_j0 l1 b1 x y (by omega) (by omega)
end Go.Proofs.YtefbphpgaeffaaaGreatDoor.Pure

