/- What the law FnLongestPaths reaches, part 3: Lean functions with the same answers as the Go functions, the proofs that the Go code comes to these answers, and lemmas about them; no condition beyond those that each theorem names. -/
import Derived.Test.YtefbphpgaeffaaaGreatDoorCFnLongestPathsw1
import Derived.Test.YtefbphpgaeffaaaGreatDoorCFnLongestPaths1
import Derived.Test.YtefbphpgaeffaaaGreatDoorCFnLongestPaths2
set_option linter.unusedVariables false
set_option linter.unusedSimpArgs false
set_option maxHeartbeats 8000000
set_option maxRecDepth 100000
namespace Go.Proofs.YtefbphpgaeffaaaGreatDoor.A
open Go.RowKit Go.Proofs.YtefbphpgaeffaaaGreatDoorW.PrintWords Go.Proofs.YtefbphpgaeffaaaGreatDoorW.PrintLast Go.Proofs.YtefbphpgaeffaaaGreatDoorW.PrintMore
attribute [local go_sem] max2_int min2_int max_two min_two max_three min_three max_four min_four
mutual
def spec_l1Cur_fitting.l0:Nat→List Int→List Int→Int→List Int→Int→Int→Option (List Int × List Int × Int × Int)
 | 0,_,_,_,_,_,_=>none
 | k+1,x6,x7,x8,x1000,x1001,x1002=>if x8>0 then (spec_l1Cur_fitting.j1 k x6 x7 x8 (decide ((x7.length:Int)>1)) x1000 x1001 x1002) else (spec_l1Cur_fitting.j1 k x6 x7 x8 false x1000 x1001 x1002)
def spec_l1Cur_fitting.j1:Nat→List Int→List Int→Int→Bool→List Int→Int→Int→Option (List Int × List Int × Int × Int)
 | 0,_,_,_,_,_,_,_=>none
 | k+1,x6,x7,x8,x30,x1000,x1001,x1002=>if x30=true then ((spec_l1Cur_pick.f x1000 x1001 x1002 (x7.length:Int)).bind fun bt178=>((spec_l1Cur_pick.f x1000 bt178.2.1 bt178.2.2 (x7.length:Int)).bind fun bt181=>(if 0≤bt178.1 then (if bt178.1<(x7.length:Int) then (if (rd x7 bt178.1)>0 then (if 0≤bt181.1 then (if bt181.1<(x7.length:Int) then (if (rd x7 bt178.1)>(rd x7 bt181.1) then ((some (x7.set (bt178.1:Int).toNat (wrap64 ((rd x7 bt178.1) - 1)):List Int)).bind fun y188=>(spec_l1Cur_fitting.l0 k x6 (y188.set (bt181.1:Int).toNat (wrap64 ((rd y188 bt181.1)+1))) (wrap64 (x8 - 1)) x1000 bt181.2.1 bt181.2.2)) else ((spec_l1Cur_one.f x1000 bt181.2.1 bt181.2.2 4).bind fun bt191=>(if bt191.1=true then ((some (x7.set (bt178.1:Int).toNat (wrap64 ((rd x7 bt178.1) - 1)):List Int)).bind fun y195=>(spec_l1Cur_fitting.l0 k x6 (y195.set (bt181.1:Int).toNat (wrap64 ((rd y195 bt181.1)+1))) (wrap64 (x8 - 1)) x1000 bt191.2.1 bt191.2.2)) else (spec_l1Cur_fitting.l0 k x6 x7 (wrap64 (x8 - 1)) x1000 bt191.2.1 bt191.2.2)))) else (none)) else (none)) else (spec_l1Cur_fitting.l0 k x6 x7 (wrap64 (x8 - 1)) x1000 bt181.2.1 bt181.2.2)) else (none)) else (none)))) else ((spec_l1Cur_one.f x1000 x1001 x1002 5).bind fun bt175=>(if bt175.1=true then (some (x6,x7,bt175.2.1,bt175.2.2)) else (some (x7,x6,bt175.2.1,bt175.2.2))))
end
def spec_l1Cur_fitting.f (k:Nat) (s0_0:List Int) (s0_1:Int) (s0_2:Int) (a1:Int):Option (List Int × List Int × Int × Int):=(spec_l1Cur_anyList.f k s0_0 s0_1 s0_2 a1).bind fun bt156=>((spec_l1Cur_one.f s0_0 bt156.2.1 bt156.2.2 5).bind fun bt161=>(if bt161.1=true then ((spec_l1Cur_anyList.f k s0_0 bt161.2.1 bt161.2.2 a1).bind fun bt164=>(some (bt164.1,bt156.1,bt164.2.1,bt164.2.2))) else ((spec_l1Own.f bt156.1).bind fun t169=>((spec_l1Cur_pick.f s0_0 bt161.2.1 bt161.2.2 12).bind fun bt172=>(spec_l1Cur_fitting.l0 k bt156.1 t169 bt172.1 s0_0 bt172.2.1 bt172.2.2)))))
def spec_l1Cur_fitting.T9:Bool × List (List Nat × List Nat):=(true,[([],[]),([],[]),([0,1],[0,1]),([2],[2]),([3],[3]),([4],[4]),([5],[5]),([5],[5]),([6,7,5],[5,6,7]),([8,5],[5,8]),([5],[5]),([5],[5]),([10,11,5],[5,10,11]),([12,5],[5,12]),([9,13,5],[5,9,13]),([14,5,5],[5,14]),([15],[15]),([16,15,15],[15,16]),([15,17,5],[5,15,17]),([5,18],[5,18])])
def spec_l1Cur_fitting.B9:List Nat:=[0,0,3,7,15,31,63,63,255,511,63,63,3135,7231,16383,32767,65535,131071,262143,524287]
theorem spec_l1Cur_fitting.tab9:rtab .any (opsOf Tryz.f56 9)=spec_l1Cur_fitting.T9:=by kernel_rfl
theorem spec_l1Cur_fitting.bits9:waitsOk spec_l1Cur_fitting.T9.2 spec_l1Cur_fitting.B9=true:=by kernel_rfl
theorem spec_l1Cur_fitting.calls (k:Nat) (g:Nat) (s0_0:List Int) (s0_1:Int) (s0_2:Int) (a1:Int) (r1:List Int) (r2:List Int) (r3:Int) (r4:Int) (w0 w:World) (hI:IsS45 w0 w g s0_0 s0_1 s0_2) (hB:Below w0.heap.size w0 w) (h:spec_l1Cur_fitting.f k s0_0 s0_1 s0_2 a1=some (r1,r2,r3,r4)) :
 Calls Tryz.prog 56 #[.pointer (some ⟨g,0,none⟩),.int .i64 a1] w fun e w'=>∃ v0_ v1_:Value,e = .returned (.tuple #[v0_,v1_])∧Kd.R (Kd.int .i64) 3 w' w.heap.size (fun k_=>some k_≠(v1_:Value).ownBlock) v0_ r1∧Kd.R (Kd.int .i64) 3 w' w.heap.size (fun k_=>some k_≠(v0_:Value).ownBlock) v1_ r2∧IsS45 w0 w' g s0_0 r3 r4∧Below w0.heap.size w0 w'∧KeepBut w w' g none:=by
 have HI0:=zad hI;have HK:=zad (KeepBut.refl w g none);have HL:=zad hB.size;clear hI;have HW0:=zad hB.size;have HB:=zad hB;clear hB;have H:((spec_l1Cur_anyList.f k s0_0 s0_1 s0_2 a1).bind fun bt156=>((spec_l1Cur_one.f s0_0 bt156.2.1 bt156.2.2 5).bind fun bt161=>(if bt161.1=true then ((spec_l1Cur_anyList.f k s0_0 bt161.2.1 bt161.2.2 a1).bind fun bt164=>(some (bt164.1,bt156.1,bt164.2.1,bt164.2.2))) else ((spec_l1Own.f bt156.1).bind fun t169=>((spec_l1Cur_pick.f s0_0 bt161.2.1 bt161.2.2 12).bind fun bt172=>(spec_l1Cur_fitting.l0 k bt156.1 t169 bt172.1 s0_0 bt172.2.1 bt172.2.2))))))=some (r1,r2,r3,r4):=h;clear h;replace H:=zay.mp H;obtain ⟨⟨t156,t159,t160⟩,A30,H⟩:=H;replace H:((spec_l1Cur_one.f s0_0 t159 t160 5).bind fun bt161=>(if bt161.1=true then ((spec_l1Cur_anyList.f k s0_0 bt161.2.1 bt161.2.2 a1).bind fun bt164=>(some (bt164.1,t156,bt164.2.1,bt164.2.2))) else ((spec_l1Own.f t156).bind fun t169=>((spec_l1Cur_pick.f s0_0 bt161.2.1 bt161.2.2 12).bind fun bt172=>(spec_l1Cur_fitting.l0 k t156 t169 bt172.1 s0_0 bt172.2.1 bt172.2.2)))))=some (r1,r2,r3,r4):=H;have A3:=zad A30;clear A30;replace H:=zay.mp H;obtain ⟨⟨t161,t162,t163⟩,A40,H⟩:=H;replace H:(if t161=true then ((spec_l1Cur_anyList.f k s0_0 t162 t163 a1).bind fun bt164=>(some (bt164.1,t156,bt164.2.1,bt164.2.2))) else ((spec_l1Own.f t156).bind fun t169=>((spec_l1Cur_pick.f s0_0 t162 t163 12).bind fun bt172=>(spec_l1Cur_fitting.l0 k t156 t169 bt172.1 s0_0 bt172.2.1 bt172.2.2))))=some (r1,r2,r3,r4):=H;have A4:=zad A40;clear A40;by_cases c5:t161=true
 ·subst c5
  have H1:((spec_l1Cur_anyList.f k s0_0 t162 t163 a1).bind fun bt164=>(some (bt164.1,t156,bt164.2.1,bt164.2.2)))=some (r1,r2,r3,r4):=by rw [if_pos rfl] at H;exact H
  clear H;have H:=H1;clear H1;replace H:=zay.mp H;obtain ⟨⟨t164,t167,t168⟩,A60,H⟩:=H;replace H:(some (t164,t156,t167,t168))=some (r1,r2,r3,r4):=H;have A6:=zad A60;clear A60;simp only [zbp,zbt] at H;obtain ⟨rfl,rfl,rfl,rfl⟩:=H;go_enter Tryz.func56,Tryz.ntmps56;go_wp2_with (first | ((with_reducible refine zbj (f:=29) rfl ?_);refine zbr (some 13) rfl rfl Tryz.func29 (by kernel_rfl) rfl #[.pointer (some ⟨g,0,none⟩),.int .i64 a1] rfl (taac) ?_;(with_reducible refine (spec_l1Cur_anyList.calls k g s0_0 s0_1 s0_2 a1 t156 t159 t160 w0 _ ?side1 ?side2 A3.out).mono ?_);(case side1=>repeat (first | (with_reducible first | exact HI0.out | apply zcg | apply zch | apply zci | apply zcl | apply zcm) | exact HI0.out));(case side2=>repeat (first | (with_reducible first | exact HB.out | apply zag | apply zae | apply zaf | refine zah ?_ (zck HI0.out)) | exact HB.out));rintro e w7 ⟨v157,rfl,ho0,hi,hb,hk⟩;refine ⟨_,rfl,?_⟩;have n0_:=zad (zby ho0 (keep_size (w:=w) (g:=g) (row:=none) (taaf)));have n1_:=zad (zbw (taaf) hk (.inl rfl));have n2_:=zad (hb);have n3_:=zad (hi);clear HK HB HI0;have HO158:=n0_;have HK:=n1_;have HB:=n2_;have HI0:=n3_;clear n0_ n1_ n2_ n3_;(try clear hb);(try clear hb2);(try clear hk);(try clear hi);(try clear ho0)) | ((with_reducible refine zbj (f:=55) rfl ?_);refine zbr (some 15) rfl rfl Tryz.func55 (by kernel_rfl) rfl #[.pointer (some ⟨g,0,none⟩),.int .i64 5] rfl (taac) ?_;(with_reducible refine (spec_l1Cur_one.calls g s0_0 t159 t160 5 true t162 t163 w0 _ ?side1 ?side2 A4.out).mono ?_);(case side1=>repeat (first | (with_reducible first | exact HI0.out | apply zcg | apply zch | apply zci | apply zcl | apply zcm) | exact HI0.out));(case side2=>repeat (first | (with_reducible first | exact HB.out | apply zag | apply zae | apply zaf | refine zah ?_ (zck HI0.out)) | exact HB.out));rintro e w8 ⟨rfl,hi,hb,hk⟩;refine ⟨_,rfl,?_⟩;have n0_:=zad (zbu (zbv (zcj (show IsS45 w0 _ g s0_0 t159 t160 from by exact tahp) (tabq) (by decide)) hk (fun _ h=>h.2)) (fun _ h=>h.1));have n1_:=zad (zbw (taaf) hk (.inl rfl));have n2_:=zad (hb);have n3_:=zad (hi);clear HO158 HK HB HI0;have HO158:=n0_;have HK:=n1_;have HB:=n2_;have HI0:=n3_;clear n0_ n1_ n2_ n3_;(try clear hb);(try clear hb2);(try clear hk);(try clear hi)) | ((with_reducible refine zbj (f:=29) rfl ?_);refine zbr (some 18) rfl rfl Tryz.func29 (by kernel_rfl) rfl #[.pointer (some ⟨g,0,none⟩),.int .i64 a1] rfl (taac) ?_;(with_reducible refine (spec_l1Cur_anyList.calls k g s0_0 t162 t163 a1 t164 t167 t168 w0 _ ?side1 ?side2 A6.out).mono ?_);(case side1=>repeat (first | (with_reducible first | exact HI0.out | apply zcg | apply zch | apply zci | apply zcl | apply zcm) | exact HI0.out));(case side2=>repeat (first | (with_reducible first | exact HB.out | apply zag | apply zae | apply zaf | refine zah ?_ (zck HI0.out)) | exact HB.out));rintro e w9 ⟨v165,rfl,ho0,hi,hb,hk⟩;refine ⟨_,rfl,?_⟩;have n0_:=zad (zbu (Kd.R_told (Kd.R_oldK (zcj (show IsS45 w0 _ g s0_0 t162 t163 from by exact tahp) (tabq) (by decide)) hk) (zcd ho0)) (fun _ h_=>h_.1));have n1_:=zad (zby (zcc ho0 (zce (tabq))) (keep_size (w:=w) (g:=g) (row:=none) (taaf)));have n2_:=zad (zbw (taaf) hk (.inl rfl));have n3_:=zad (hb);have n4_:=zad (hi);clear HO158 HK HB HI0;have HO158:=n0_;have HO166:=n1_;have HK:=n2_;have HB:=n3_;have HI0:=n4_;clear n0_ n1_ n2_ n3_ n4_;(try clear hb);(try clear hb2);(try clear hk);(try clear hi);(try clear ho0)))
  go_ret2
  exact ⟨_,_,taah,by (with_reducible repeat (first | apply zai | apply zaj | apply zak));exact zbu HO166.out (fun _ hk=>hk.2),tagc,taag,taam,taaf⟩
 ·replace c5:=zbk.mpr c5
  subst c5;have H1:((spec_l1Own.f t156).bind fun t169=>((spec_l1Cur_pick.f s0_0 t162 t163 12).bind fun bt172=>(spec_l1Cur_fitting.l0 k t156 t169 bt172.1 s0_0 bt172.2.1 bt172.2.2)))=some (r1,r2,r3,r4):=by rw [if_neg (show ¬ (false=true) by decide)] at H;exact H
  clear H;have H:=H1;clear H1;replace H:=zay.mp H;obtain ⟨t169,A100,H⟩:=H;replace H:((spec_l1Cur_pick.f s0_0 t162 t163 12).bind fun bt172=>(spec_l1Cur_fitting.l0 k t156 t169 bt172.1 s0_0 bt172.2.1 bt172.2.2))=some (r1,r2,r3,r4):=H;have A10:=zad A100;clear A100;replace H:=zay.mp H;obtain ⟨⟨t172,t173,t174⟩,A110,H⟩:=H;replace H:(spec_l1Cur_fitting.l0 k t156 t169 t172 s0_0 t173 t174)=some (r1,r2,r3,r4):=H;have A11:=zad A110;clear A110;have H':=zad H;clear H;go_enter Tryz.func56,Tryz.ntmps56;go_wp2_with (first | ((with_reducible refine zbj (f:=29) rfl ?_);refine zbr (some 13) rfl rfl Tryz.func29 (by kernel_rfl) rfl #[.pointer (some ⟨g,0,none⟩),.int .i64 a1] rfl (taac) ?_;(with_reducible refine (spec_l1Cur_anyList.calls k g s0_0 s0_1 s0_2 a1 t156 t159 t160 w0 _ ?side1 ?side2 A3.out).mono ?_);(case side1=>exact tahs);(case side2=>exact taht);rintro e w12 ⟨v157,rfl,ho0,hi,hb,hk⟩;refine ⟨_,rfl,?_⟩;have n0_:=zad (zby ho0 (keep_size (w:=w) (g:=g) (row:=none) (taaf)));have n1_:=zad (zbw (taaf) hk (.inl rfl));have n2_:=zad (hb);have n3_:=zad (hi);clear HK HB HI0;have HO158:=n0_;have HK:=n1_;have HB:=n2_;have HI0:=n3_;clear n0_ n1_ n2_ n3_;(try clear hb);(try clear hb2);(try clear hk);(try clear hi);(try clear ho0)) | ((with_reducible refine zbj (f:=55) rfl ?_);refine zbr (some 15) rfl rfl Tryz.func55 (by kernel_rfl) rfl #[.pointer (some ⟨g,0,none⟩),.int .i64 5] rfl (taac) ?_;(with_reducible refine (spec_l1Cur_one.calls g s0_0 t159 t160 5 false t162 t163 w0 _ ?side1 ?side2 A4.out).mono ?_);(case side1=>exact tahs);(case side2=>exact taht);rintro e w13 ⟨rfl,hi,hb,hk⟩;refine ⟨_,rfl,?_⟩;have n0_:=zad (zbu (zbv (zcj (show IsS45 w0 _ g s0_0 t159 t160 from by exact tahp) (tabq) (by decide)) hk (fun _ h=>h.2)) (fun _ h=>h.1));have n1_:=zad (zbw (taaf) hk (.inl rfl));have n2_:=zad (hb);have n3_:=zad (hi);clear HO158 HK HB HI0;have HO158:=n0_;have HK:=n1_;have HB:=n2_;have HI0:=n3_;clear n0_ n1_ n2_ n3_;(try clear hb);(try clear hb2);(try clear hk);(try clear hi);obtain ⟨Ao14,co14,eo14⟩:=zbz HO158.out;subst eo14) | ((with_reducible refine zbj (f:=57) rfl ?_);refine zbr (some 21) rfl rfl Tryz.func57 (by kernel_rfl) rfl #[.slice Ao14 t156.length co14] rfl (taac) ?_;(with_reducible refine (spec_l1Own.calls _ _ t156 t169 _ ?side1 ?side2 A10.out).mono ?_);(case side1=>repeat (first | exact (zbh HO158.out).2.2 | (with_reducible refine zal ?_ _) | (with_reducible refine zam ?_ _) | (with_reducible refine zan ?_)));(case side2=>exact (zbh HO158.out).2.1);rintro e w15 ⟨v170,rfl,ho0,hb⟩;refine ⟨_,rfl,?_⟩;have n0_:=zad (zcb (tabq) (zcd ho0) hb);have n1_:=zad (zby (zcc ho0 (zce (tabq))) (keep_size (w:=w) (g:=g) (row:=none) (taaf)));have n2_:=zad (IsS45.below (taag) hb);have n3_:=zad (zbw (taaf) (KeepBut.of_below hb g none) (.inl rfl));have n4_:=zad (zbi (taam) hb);clear HO158 HI0 HK HB;have HO158:=n0_;have HO171:=n1_;have HI0:=n2_;have HK:=n3_;have HB:=n4_;clear n0_ n1_ n2_ n3_ n4_;(try clear hb);(try clear hb2);(try clear hk);(try clear hi);(try clear ho0)) | ((with_reducible refine zbj (f:=58) rfl ?_);refine zbr (some 23) rfl rfl Tryz.func58 (by kernel_rfl) rfl #[.pointer (some ⟨g,0,none⟩),.int .i64 12] rfl (taac) ?_;(with_reducible refine (zcn g s0_0 t162 t163 12 t172 t173 t174 w0 _ ?side1 ?side2 A11.out).mono ?_);(case side1=>exact tahs);(case side2=>exact taht);rintro e w16 ⟨rfl,hi,hb,hk⟩;refine ⟨_,rfl,?_⟩;have n0_:=zad (zbu (zbv (zcj (show IsS45 w0 _ g s0_0 t162 t163 from by exact tahp) (tabq) (by decide)) hk (fun _ h=>h.2)) (fun _ h=>h.1));have n1_:=zad (zbu (zbv (zcj (show IsS45 w0 _ g s0_0 t162 t163 from by exact tahp) (by (with_reducible repeat (first | apply zai | apply zaj | apply zak));exact HO171.out) (by decide)) hk (fun _ h=>h.2)) (fun _ h=>h.1));have n2_:=zad (zbw (taaf) hk (.inl rfl));have n3_:=zad (hb);have n4_:=zad (hi);clear HO158 HO171 HK HB HI0;have HO158:=n0_;have HO171:=n1_;have HK:=n2_;have HB:=n3_;have HI0:=n4_;clear n0_ n1_ n2_ n3_ n4_;(try clear hb);(try clear hb2);(try clear hk);(try clear hi)))
  go_loopg [8] k (fun kq v8 w'=>∃ (x7_1:List Int) (x8_1:Int) (x1001_1:Int) (x1002_1:Int),v8 = .int .i64 x8_1∧Aside0 (spec_l1Cur_fitting.l0 kq t156 x7_1 x8_1 s0_0 x1001_1 x1002_1=some (r1,r2,r3,r4))∧Aside0 (kq≤k)∧Aside0 (Kd.R (Kd.int .i64) 3 w' w.heap.size (fun k_=>some k_≠(v170:Value).ownBlock) (.slice Ao14 t156.length co14) t156)∧Aside0 (Kd.R (Kd.int .i64) 3 w' w.heap.size (fun k_=>some k_≠((.slice Ao14 t156.length co14):Value).ownBlock) v170 x7_1)∧Aside0 (IsS45 w0 w' g s0_0 x1001_1 x1002_1)∧Aside0 (KeepBut w w' g none)∧Aside0 (Below w0.heap.size w0 w'))
  case atStart=>exact ⟨(t169),(t172),(t173),(t174),(taae),H',⟨zcf _⟩,⟨tagc⟩,⟨by (with_reducible repeat (first | apply zai | apply zaj | apply zak));exact zbu HO171.out (fun _ hk=>hk.2)⟩,⟨taag⟩,⟨taaf⟩,⟨taam⟩⟩
  case round =>
   clear H';try clear c2
   try clear p2
   try clear c5
   obtain ⟨x7_1,x8_1,x1001_1,x1002_1,rfl,HA,HK1,HO_6,HO_7,HI0,HK,HB⟩:=hrel;cases gk with
   | zero=>exact absurd HA.out (by simp [spec_l1Cur_fitting.l0])
   | succ k1 =>
    have H:=HA.out;clear HA;simp only [spec_l1Cur_fitting.l0] at H;have HC17:=zad H;clear H;go_upto_region 6 with (fail)
    go_cut [30] (fun v30 wc=>∃ (kq:Nat) (x30_16:Bool),v30 = .bool x30_16∧Aside0 (spec_l1Cur_fitting.j1 kq t156 x7_1 x8_1 x30_16 s0_0 x1001_1 x1002_1=some (r1,r2,r3,r4))∧Aside0 (kq≤k1)∧Aside0 (Kd.R (Kd.int .i64) 3 wc w.heap.size (fun k_=>some k_≠(v170:Value).ownBlock) (.slice Ao14 t156.length co14) t156)∧Aside0 (Kd.R (Kd.int .i64) 3 wc w.heap.size (fun k_=>some k_≠((.slice Ao14 t156.length co14):Value).ownBlock) v170 x7_1)∧Aside0 (IsS45 w0 wc g s0_0 x1001_1 x1002_1)∧Aside0 (KeepBut w wc g none)∧Aside0 (Below w0.heap.size w0 wc))
    case first =>
     have H:=HC17.out;clear HC17;by_cases c18:x8_1>0
     ·rw [if_pos c18] at H
      have c18b0:decide (0<x8_1)=true:=zba c18;clear c18;(first | rw [c18b0] | (simp only [i64_w,i32_w];rw [c18b0]) | skip)
      have H':=zad H;clear H;obtain ⟨Ao19,co19,eo19⟩:=zbz HO_7.out;subst eo19;go_wp2
      go_meet
      case rel=>exact ⟨_,(decide ((x7_1.length:Int)>1)),(taae),H',⟨tabl⟩,⟨taai⟩,⟨taaj⟩,⟨taag⟩,⟨taaf⟩,⟨taam⟩⟩
     ·rw [if_neg c18] at H
      have c18b0:decide (0<x8_1)=false:=zbl c18;clear c18;(first | rw [c18b0] | (simp only [i64_w,i32_w];rw [c18b0]) | skip)
      have H':=zad H;clear H;go_wp2
      go_meet
      case rel=>exact ⟨_,(false),(taae),H',⟨tabl⟩,⟨taai⟩,⟨taaj⟩,⟨taag⟩,⟨taaf⟩,⟨taam⟩⟩
    case rest =>
     clear HC17;try clear c1
     try clear c2
     try clear p2
     try clear c5
     try clear c18
     try clear c18b0
     try clear p2
     obtain ⟨kq,x30_16,rfl,HA,HJ16,HO_6,HO_7,HI0,HK,HB⟩:=hcut;cases kq with
     | zero=>exact absurd HA.out (by simp [spec_l1Cur_fitting.j1])
     | succ kj16 =>
      have H:=HA.out;clear HA;simp only [spec_l1Cur_fitting.j1] at H;by_cases c20:x30_16=true
      ·subst c20
       have H1:((spec_l1Cur_pick.f s0_0 x1001_1 x1002_1 (x7_1.length:Int)).bind fun bt178=>((spec_l1Cur_pick.f s0_0 bt178.2.1 bt178.2.2 (x7_1.length:Int)).bind fun bt181=>(if 0≤bt178.1 then (if bt178.1<(x7_1.length:Int) then (if (rd x7_1 bt178.1)>0 then (if 0≤bt181.1 then (if bt181.1<(x7_1.length:Int) then (if (rd x7_1 bt178.1)>(rd x7_1 bt181.1) then ((some (x7_1.set (bt178.1:Int).toNat (wrap64 ((rd x7_1 bt178.1) - 1)):List Int)).bind fun y188=>(spec_l1Cur_fitting.l0 kj16 t156 (y188.set (bt181.1:Int).toNat (wrap64 ((rd y188 bt181.1)+1))) (wrap64 (x8_1 - 1)) s0_0 bt181.2.1 bt181.2.2)) else ((spec_l1Cur_one.f s0_0 bt181.2.1 bt181.2.2 4).bind fun bt191=>(if bt191.1=true then ((some (x7_1.set (bt178.1:Int).toNat (wrap64 ((rd x7_1 bt178.1) - 1)):List Int)).bind fun y195=>(spec_l1Cur_fitting.l0 kj16 t156 (y195.set (bt181.1:Int).toNat (wrap64 ((rd y195 bt181.1)+1))) (wrap64 (x8_1 - 1)) s0_0 bt191.2.1 bt191.2.2)) else (spec_l1Cur_fitting.l0 kj16 t156 x7_1 (wrap64 (x8_1 - 1)) s0_0 bt191.2.1 bt191.2.2)))) else (none)) else (none)) else (spec_l1Cur_fitting.l0 kj16 t156 x7_1 (wrap64 (x8_1 - 1)) s0_0 bt181.2.1 bt181.2.2)) else (none)) else (none))))=some (r1,r2,r3,r4):=by rw [if_pos rfl] at H;exact H
       clear H;have H:=H1;clear H1;replace H:=zay.mp H;obtain ⟨⟨t178,t179,t180⟩,A210,H⟩:=H;replace H:((spec_l1Cur_pick.f s0_0 t179 t180 (x7_1.length:Int)).bind fun bt181=>(if 0≤t178 then (if t178<(x7_1.length:Int) then (if (rd x7_1 t178)>0 then (if 0≤bt181.1 then (if bt181.1<(x7_1.length:Int) then (if (rd x7_1 t178)>(rd x7_1 bt181.1) then ((some (x7_1.set (t178:Int).toNat (wrap64 ((rd x7_1 t178) - 1)):List Int)).bind fun y188=>(spec_l1Cur_fitting.l0 kj16 t156 (y188.set (bt181.1:Int).toNat (wrap64 ((rd y188 bt181.1)+1))) (wrap64 (x8_1 - 1)) s0_0 bt181.2.1 bt181.2.2)) else ((spec_l1Cur_one.f s0_0 bt181.2.1 bt181.2.2 4).bind fun bt191=>(if bt191.1=true then ((some (x7_1.set (t178:Int).toNat (wrap64 ((rd x7_1 t178) - 1)):List Int)).bind fun y195=>(spec_l1Cur_fitting.l0 kj16 t156 (y195.set (bt181.1:Int).toNat (wrap64 ((rd y195 bt181.1)+1))) (wrap64 (x8_1 - 1)) s0_0 bt191.2.1 bt191.2.2)) else (spec_l1Cur_fitting.l0 kj16 t156 x7_1 (wrap64 (x8_1 - 1)) s0_0 bt191.2.1 bt191.2.2)))) else (none)) else (none)) else (spec_l1Cur_fitting.l0 kj16 t156 x7_1 (wrap64 (x8_1 - 1)) s0_0 bt181.2.1 bt181.2.2)) else (none)) else (none)))=some (r1,r2,r3,r4):=H;have A21:=zad A210;clear A210;replace H:=zay.mp H;obtain ⟨⟨t181,t182,t183⟩,A220,H⟩:=H;replace H:(if 0≤t178 then (if t178<(x7_1.length:Int) then (if (rd x7_1 t178)>0 then (if 0≤t181 then (if t181<(x7_1.length:Int) then (if (rd x7_1 t178)>(rd x7_1 t181) then ((some (x7_1.set (t178:Int).toNat (wrap64 ((rd x7_1 t178) - 1)):List Int)).bind fun y188=>(spec_l1Cur_fitting.l0 kj16 t156 (y188.set (t181:Int).toNat (wrap64 ((rd y188 t181)+1))) (wrap64 (x8_1 - 1)) s0_0 t182 t183)) else ((spec_l1Cur_one.f s0_0 t182 t183 4).bind fun bt191=>(if bt191.1=true then ((some (x7_1.set (t178:Int).toNat (wrap64 ((rd x7_1 t178) - 1)):List Int)).bind fun y195=>(spec_l1Cur_fitting.l0 kj16 t156 (y195.set (t181:Int).toNat (wrap64 ((rd y195 t181)+1))) (wrap64 (x8_1 - 1)) s0_0 bt191.2.1 bt191.2.2)) else (spec_l1Cur_fitting.l0 kj16 t156 x7_1 (wrap64 (x8_1 - 1)) s0_0 bt191.2.1 bt191.2.2)))) else (none)) else (none)) else (spec_l1Cur_fitting.l0 kj16 t156 x7_1 (wrap64 (x8_1 - 1)) s0_0 t182 t183)) else (none)) else (none))=some (r1,r2,r3,r4):=H;have A22:=zad A220;clear A220;by_cases c23:0≤t178
       ·rw [if_pos c23] at H
        have c23b0:decide (0≤t178)=true:=zba c23;clear c23;by_cases c24:t178<(x7_1.length:Int)
        ·rw [if_pos c24] at H
         have c24b0:decide (t178<(x7_1.length:Int))=true:=zba c24;clear c24;by_cases c25:(rd x7_1 t178)>0
         ·rw [if_pos c25] at H
          have c25b0:decide (0<(rd x7_1 t178))=true:=zba c25;clear c25;by_cases c26:0≤t181
          ·rw [if_pos c26] at H
           have c26b0:decide (0≤t181)=true:=zba c26;clear c26;by_cases c27:t181<(x7_1.length:Int)
           ·rw [if_pos c27] at H
            have c27b0:decide (t181<(x7_1.length:Int))=true:=zba c27;clear c27;by_cases c28:(rd x7_1 t178)>(rd x7_1 t181)
            ·rw [if_pos c28] at H
             have c28b0:decide ((rd x7_1 t181)<(rd x7_1 t178))=true:=zba c28;clear c28;obtain ⟨y188,hy188⟩:∃ y_:List Int,y_=(x7_1.set (t178:Int).toNat (wrap64 ((rd x7_1 t178) - 1))):=⟨_,rfl⟩;replace H:(spec_l1Cur_fitting.l0 kj16 t156 (y188.set (t181:Int).toNat (wrap64 ((rd y188 t181)+1))) (wrap64 (x8_1 - 1)) s0_0 t182 t183)=some (r1,r2,r3,r4):=by first | (rw [hy188];with_reducible exact H) | (have H2_:=(zbf _ _).symm.trans H;rw [hy188];with_reducible exact H2_) | (have H2_:=(zbf _ _).symm.trans H;with_reducible exact H2_) | with_reducible exact H | (rw [hy188];exact H) | exact H
             have Ny188:=zad hy188;clear hy188;obtain ⟨y190,hy190⟩:∃ y_:List Int,y_=(y188.set (t181:Int).toNat (wrap64 ((rd y188 t181)+1))):=⟨_,rfl⟩;replace H:(spec_l1Cur_fitting.l0 kj16 t156 y190 (wrap64 (x8_1 - 1)) s0_0 t182 t183)=some (r1,r2,r3,r4):=by first | (rw [hy190];with_reducible exact H) | (have H2_:=(zbf _ _).symm.trans H;rw [hy190];with_reducible exact H2_) | (have H2_:=(zbf _ _).symm.trans H;with_reducible exact H2_) | with_reducible exact H | (rw [hy190];exact H) | exact H
             have Ny190:=zad hy190;clear hy190;have H':=zad H;clear H;obtain ⟨Ao31,co31,eo31⟩:=zbz HO_7.out;subst eo31;try go_wp2_with (first | ((with_reducible refine zbj (f:=58) rfl ?_);refine zbr (some 36) rfl rfl Tryz.func58 (by kernel_rfl) rfl #[.pointer (some ⟨g,0,none⟩),.int .i64 (x7_1.length:Int)] rfl (taac) ?_;(with_reducible refine (zcn g s0_0 x1001_1 x1002_1 (x7_1.length:Int) t178 t179 t180 w0 _ ?side1 ?side2 A21.out).mono ?_);(case side1=>repeat (first | (with_reducible first | exact HI0.out | apply zcg | apply zch | apply zci | apply zcl | apply zcm) | exact HI0.out));(case side2=>repeat (first | (with_reducible first | exact HB.out | apply zag | apply zae | apply zaf | refine zah ?_ (zck HI0.out)) | exact HB.out));rintro e w32 ⟨rfl,hi,hb,hk⟩;refine ⟨_,rfl,?_⟩;have n0_:=zad (zbu (zbv (zcj (show IsS45 w0 _ g s0_0 x1001_1 x1002_1 from by exact tahp) (taai) (by decide)) hk (fun _ h=>h.2)) (fun _ h=>h.1));have n1_:=zad (zbu (zbv (zcj (show IsS45 w0 _ g s0_0 x1001_1 x1002_1 from by exact tahp) (taaj) (by decide)) hk (fun _ h=>h.2)) (fun _ h=>h.1));have n2_:=zad (zbw (taaf) hk (.inl rfl));have n3_:=zad (hb);have n4_:=zad (hi);clear HO_6 HO_7 HK HB HI0;have HO_6:=n0_;have HO_7:=n1_;have HK:=n2_;have HB:=n3_;have HI0:=n4_;clear n0_ n1_ n2_ n3_ n4_;(try clear hb);(try clear hb2);(try clear hk);(try clear hi)) | ((with_reducible refine zbj (f:=58) rfl ?_);refine zbr (some 40) rfl rfl Tryz.func58 (by kernel_rfl) rfl #[.pointer (some ⟨g,0,none⟩),.int .i64 (x7_1.length:Int)] rfl (taac) ?_;(with_reducible refine (zcn g s0_0 t179 t180 (x7_1.length:Int) t181 t182 t183 w0 _ ?side1 ?side2 A22.out).mono ?_);(case side1=>repeat (first | (with_reducible first | exact HI0.out | apply zcg | apply zch | apply zci | apply zcl | apply zcm) | exact HI0.out));(case side2=>repeat (first | (with_reducible first | exact HB.out | apply zag | apply zae | apply zaf | refine zah ?_ (zck HI0.out)) | exact HB.out));rintro e w33 ⟨rfl,hi,hb,hk⟩;refine ⟨_,rfl,?_⟩;have n0_:=zad (zbu (zbv (zcj (show IsS45 w0 _ g s0_0 t179 t180 from by exact tahp) (taai) (by decide)) hk (fun _ h=>h.2)) (fun _ h=>h.1));have n1_:=zad (zbu (zbv (zcj (show IsS45 w0 _ g s0_0 t179 t180 from by exact tahp) (taaj) (by decide)) hk (fun _ h=>h.2)) (fun _ h=>h.1));have n2_:=zad (zbw (taaf) hk (.inl rfl));have n3_:=zad (hb);have n4_:=zad (hi);clear HO_6 HO_7 HK HB HI0;have HO_6:=n0_;have HO_7:=n1_;have HK:=n2_;have HB:=n3_;have HI0:=n4_;clear n0_ n1_ n2_ n3_ n4_;(try clear hb);(try clear hb2);(try clear hk);(try clear hi)))
             have n0_:=zad (zak HO_6.out);have n1_:=zad (zak HO_7.out);have n2_:=zad (zci HI0.out);have n3_:=zad (zaq HK.out);have n4_:=zad (zaf HB.out);clear HO_6 HO_7 HI0 HK HB;have HO_6:=n0_;have HO_7:=n1_;have HI0:=n2_;have HK:=n3_;have HB:=n4_;clear n0_ n1_ n2_ n3_ n4_;have p184:0≤(t178:Int):=zas (taab);have q184:t178<(x7_1.length:Int):=zas (taab);obtain ⟨ad184,e184,hx184_0⟩:=zca (zbh HO_7.out).2.2 t178 p184 q184;cases e184;replace p184:=eq_true p184;replace q184:=eq_true q184;have p185:0≤(t178:Int):=zas (taab);have q185:t178<(x7_1.length:Int):=zas (taab);obtain ⟨ad185,e185,hx185_0⟩:=zca (zbh HO_7.out).2.2 t178 p185 q185;obtain rfl:ad184=ad185:=(by injection e185);replace p185:=eq_true p185;replace q185:=eq_true q185;have p186:0≤(t181:Int):=zas (taab);have q186:t181<(x7_1.length:Int):=zas (taab);obtain ⟨ad186,e186,hx186_0⟩:=zca (zbh HO_7.out).2.2 t181 p186 q186;obtain rfl:ad184=ad186:=(by injection e186);replace p186:=eq_true p186;replace q186:=eq_true q186;refine start_ (n:=20) (S:=fun w'=>w'.cell? (ad184.add (t178).toNat)=some (.int .i64 (rd x7_1 t178))∧w'.cell? (ad184.add (t178).toNat)=some (.int .i64 (rd x7_1 t178))∧w'.cell? (ad184.add (t181).toNat)=some (.int .i64 (rd x7_1 t181))) (ds:=[]) #[false,false,false,false,false,false,false,false,false,false,false,false,false,false,false,false,false,false,false,false] (by kernel_rfl) rfl rfl ⟨hx184_0,hx185_0,hx186_0⟩ (fun hHeld => ?_);refine with_tabW spec_l1Cur_fitting.tab9 spec_l1Cur_fitting.bits9 (fun HT_ HW_ => ?_)
             generalize w33.drew=w34 at HO_6 HO_7 HI0 HK HB hx184_0 hx185_0 hx186_0 hHeld ⊢
             refine puA 0 (some 41) qafa_ ?_;refine puA 1 (some 42) qafb_ ?_;refine puA 2 (some 43) qafc_ ?_;refine tkA 3 (some 44) qafq_ rfl rfl (by rintro w' ⟨s0,s1,s2⟩;go_simp;with_reducible rfl) hHeld ?_;refine puA 4 (some 45) qafd_ ?_;refine puA 5 (some 46) qafe_ ?_;refine puA 6 (some 47) qaff_ ?_;refine puA 7 (some 48) qafg_ ?_;refine puA 8 (some 49) qafh_ ?_;refine puA 10 (some 51) qafi_ ?_;refine puA 11 (some 52) qafj_ ?_;refine puA 12 (some 53) qafk_ ?_;refine tkA 9 (some 50) qafr_ rfl rfl (by rintro w' ⟨s0,s1,s2⟩;go_simp;with_reducible rfl) hHeld ?_;refine tkA 13 (some 54) qafs_ rfl rfl (by rintro w' ⟨s0,s1,s2⟩;go_simp;with_reducible rfl) hHeld ?_;refine puA 14 (some 55) qafl_ ?_;refine puA 15 (some 56) qafm_ ?_;refine puB 16 (some 57) qafp_ ?_;refine puB 17 (some 58) qaft_ ?_;refine puA 18 (some 59) qafn_ ?_;refine puA 19 (some 60) qafo_ ?_;refine done_ (done_of HT_.out (by kernel_rfl)) ?_
             have p187:0≤(t178:Int):=zas (taab);have q187:t178<(x7_1.length:Int):=zas (taab);obtain ⟨ad187,e187,hx187_0⟩:=zca (zbh HO_7.out).2.2 t178 p187 q187;obtain rfl:ad184=ad187:=(by injection e187);replace p187:=eq_true p187;replace q187:=eq_true q187;have p29:0≤(t178:Int):=zas (taab);have q29:(t178:Int)<((x7_1.length:Int):Int):=zas (taab);obtain ⟨go29,co29,eo29,gb29,gl29,cl29,HG29⟩:=Kd.R_form HO_7.out (by omega);(first | cases eo29 | (injection eo29 with ea_ en_ ec_;(first | subst ea_ | (injection ea_ with ea_;subst ea_));subst ec_;clear en_))
             have GB29:=zad gb29;have GG29:=zad HG29;clear gb29 gl29 HG29;(first | simp only [add_plain] at hx184_0 | skip)
             (first | simp only [add_plain] at hx185_0 | skip)
             (first | simp only [add_plain] at hx186_0 | skip)
             (first | simp only [add_plain] at hx187_0 | skip)
             obtain ⟨hx29_0,hf29_0⟩:=Kd.R_celln 0 HO_7.out (t178:Int) p29 q29;replace p29:=eq_true p29;replace q29:=eq_true q29;obtain ⟨hy35_,hz35_⟩:=Kd.R_celln 0 HO_7.out (t178:Int) (zas (taab)) (zas (taab));have HP35:=Kd.R_putg HO_7.out (t178:Int) (wrap64 ((rd x7_1 t178) - 1));try go_wp2_with (first | ((with_reducible refine gate_store (t:=3) (p:=66) rfl ?_);refine store_event (t:=3) (p:=66) (v := ?vo_w36) (w1:=(w34.setCell ⟨go29,(t178:Int).toNat,none⟩ (.int .i64 (wrap64 ((rd x7_1 t178) - 1))))) ?hg ?ho ?hn ?hr ?_;(case ho=>rfl);(case hg=>rfl);(case hn=>rfl);(case hr=>first | (go_simp;done) | (go_simp;rfl));intro w36 hw;have hg:w34.grownBy w36 (some go29):=(tadd);have hp_:Kd.R (Kd.int .i64) 3 w36 w.heap.size (fun k_=>some k_≠(.slice Ao14 t156.length co14:Value).ownBlock) (.slice (some ⟨go29,0,none⟩) x7_1.length co31) y188:=(by rw [hw,Ny188.out];exact HP35.1);clear HP35;have n0_:=zad (Kd.R_after (v:=(.slice (some ⟨go29,0,none⟩) x7_1.length co31)) (v1:=(.slice (some ⟨go29,0,none⟩) x7_1.length co31)) (ok:=(fun _=>True)) (taco) hg (.inl rfl));have n1_:=zad (hp_);have n2_:=zad (IsS45.grown (taag) hg (IsS45.own_ne HI0.out HO_7.out (by decide)));have n3_:=zad ((by rw [hw];exact zah (HB.out) (Nat.le_trans HL.out GB29.out):Below w0.heap.size w0 w36));have n4_:=zad (zbw (taaf) (KeepBut.of_grown hg g) (Kd.R_base2 HO_7.out));clear HO_6 HO_7 HI0 HB HK;have HO_6:=n0_;have HO_7:=n1_;have HI0:=n2_;have HB:=n3_;have HK:=n4_;clear n0_ n1_ n2_ n3_ n4_ hg hw hp_;have p189:0≤(t181:Int):=zas (taab);have q189:t181<(y188.length:Int):=(by have h_:(t181:Int)<((x7_1.length:Int):Int):=zas (taab);first | (have e_:=(zbh HO_7.out).1;omega) | simpa only [Ny188.out,List.length_set] using h_);have ql189:((t181:Int)<((x7_1.length:Int):Int))=True:=eq_true (zas (taab));obtain ⟨ad189,e189,hx189_0⟩:=zca (zbh HO_7.out).2.2 t181 p189 q189;obtain rfl:(⟨go29,0,none⟩:Addr)=ad189:=(by injection e189);(first | simp only [add_plain] at hx189_0 | simp only [add_at] at hx189_0 | simp only [Addr.add,Nat.zero_add] at hx189_0 | skip);replace p189:=eq_true p189;replace q189:=eq_true q189;have p30:0≤(t181:Int):=zas (taab);have q30:(t181:Int)<((x7_1.length:Int):Int):=zas (taab);obtain ⟨hx30_0,hf30_0⟩:=Kd.R_celln 0 HO_7.out (t181:Int) p30 q30;replace p30:=eq_true p30;replace q30:=eq_true q30;obtain ⟨hy37_,hz37_⟩:=Kd.R_celln 0 HO_7.out (t181:Int) (zas (taab)) (zas (taab));have HP37:=Kd.R_putg HO_7.out (t181:Int) (wrap64 ((rd y188 t181)+1))) | ((with_reducible refine gate_store (t:=3) (p:=72) rfl ?_);refine store_event (t:=3) (p:=72) (v := ?vo_w38) (w1:=(w36.setCell ⟨go29,(t181:Int).toNat,none⟩ (.int .i64 (wrap64 ((rd y188 t181)+1))))) ?hg ?ho ?hn ?hr ?_;(case ho=>rfl);(case hg=>rfl);(case hn=>rfl);(case hr=>first | (go_simp;done) | (go_simp;rfl));intro w38 hw;have hg:w36.grownBy w38 (some go29):=(by rw [hw];exact HP37.2);have hp_:Kd.R (Kd.int .i64) 3 w38 w.heap.size (fun k_=>some k_≠(.slice Ao14 t156.length co14:Value).ownBlock) (.slice (some ⟨go29,0,none⟩) x7_1.length co31) y190:=(by rw [hw,Ny190.out];exact HP37.1);clear HP37;have n0_:=zad (Kd.R_after (v:=(.slice (some ⟨go29,0,none⟩) x7_1.length co31)) (v1:=(.slice (some ⟨go29,0,none⟩) x7_1.length co31)) (ok:=(fun _=>True)) (taai) hg (.inl rfl));have n1_:=zad (hp_);have n2_:=zad (IsS45.grown (taag) hg (IsS45.own_ne HI0.out HO_7.out (by decide)));have n3_:=zad ((by rw [hw];exact zah (HB.out) (Nat.le_trans HL.out GB29.out):Below w0.heap.size w0 w38));have n4_:=zad (zbw (taaf) (KeepBut.of_grown hg g) (Kd.R_base2 HO_7.out));clear HO_6 HO_7 HI0 HB HK;have HO_6:=n0_;have HO_7:=n1_;have HI0:=n2_;have HB:=n3_;have HK:=n4_;clear n0_ n1_ n2_ n3_ n4_ hg hw hp_))
             go_roundg kj16
             case measure=>have:=HK1.out;have:=HJ16.out;omega
             case rel=>exact ⟨(y190),(wrap64 (x8_1 - 1)),(t182),(t183),(taae),H',⟨tacd⟩,⟨taea⟩,⟨taaj⟩,⟨taag⟩,⟨taaf⟩,⟨taam⟩⟩
            ·rw [if_neg c28] at H
             have c28b0:decide ((rd x7_1 t181)<(rd x7_1 t178))=false:=zbl c28;clear c28;replace H:=zay.mp H;obtain ⟨⟨t191,t192,t193⟩,A390,H⟩:=H;replace H:(if t191=true then ((some (x7_1.set (t178:Int).toNat (wrap64 ((rd x7_1 t178) - 1)):List Int)).bind fun y195=>(spec_l1Cur_fitting.l0 kj16 t156 (y195.set (t181:Int).toNat (wrap64 ((rd y195 t181)+1))) (wrap64 (x8_1 - 1)) s0_0 t192 t193)) else (spec_l1Cur_fitting.l0 kj16 t156 x7_1 (wrap64 (x8_1 - 1)) s0_0 t192 t193))=some (r1,r2,r3,r4):=H;have A39:=zad A390;clear A390;by_cases c40:t191=true
             ·subst c40
              have H1:((some (x7_1.set (t178:Int).toNat (wrap64 ((rd x7_1 t178) - 1)):List Int)).bind fun y195=>(spec_l1Cur_fitting.l0 kj16 t156 (y195.set (t181:Int).toNat (wrap64 ((rd y195 t181)+1))) (wrap64 (x8_1 - 1)) s0_0 t192 t193))=some (r1,r2,r3,r4):=by rw [if_pos rfl] at H;exact H
              clear H;have H:=H1;clear H1;obtain ⟨y195,hy195⟩:∃ y_:List Int,y_=(x7_1.set (t178:Int).toNat (wrap64 ((rd x7_1 t178) - 1))):=⟨_,rfl⟩;replace H:(spec_l1Cur_fitting.l0 kj16 t156 (y195.set (t181:Int).toNat (wrap64 ((rd y195 t181)+1))) (wrap64 (x8_1 - 1)) s0_0 t192 t193)=some (r1,r2,r3,r4):=by first | (rw [hy195];with_reducible exact H) | (have H2_:=(zbf _ _).symm.trans H;rw [hy195];with_reducible exact H2_) | (have H2_:=(zbf _ _).symm.trans H;with_reducible exact H2_) | with_reducible exact H | (rw [hy195];exact H) | exact H
              have Ny195:=zad hy195;clear hy195;obtain ⟨y197,hy197⟩:∃ y_:List Int,y_=(y195.set (t181:Int).toNat (wrap64 ((rd y195 t181)+1))):=⟨_,rfl⟩;replace H:(spec_l1Cur_fitting.l0 kj16 t156 y197 (wrap64 (x8_1 - 1)) s0_0 t192 t193)=some (r1,r2,r3,r4):=by first | (rw [hy197];with_reducible exact H) | (have H2_:=(zbf _ _).symm.trans H;rw [hy197];with_reducible exact H2_) | (have H2_:=(zbf _ _).symm.trans H;with_reducible exact H2_) | with_reducible exact H | (rw [hy197];exact H) | exact H
              have Ny197:=zad hy197;clear hy197;have H':=zad H;clear H;obtain ⟨Ao43,co43,eo43⟩:=zbz HO_7.out;subst eo43;try go_wp2_with (first | ((with_reducible refine zbj (f:=58) rfl ?_);refine zbr (some 36) rfl rfl Tryz.func58 (by kernel_rfl) rfl #[.pointer (some ⟨g,0,none⟩),.int .i64 (x7_1.length:Int)] rfl (taac) ?_;(with_reducible refine (zcn g s0_0 x1001_1 x1002_1 (x7_1.length:Int) t178 t179 t180 w0 _ ?side1 ?side2 A21.out).mono ?_);(case side1=>repeat (first | (with_reducible first | exact HI0.out | apply zcg | apply zch | apply zci | apply zcl | apply zcm) | exact HI0.out));(case side2=>repeat (first | (with_reducible first | exact HB.out | apply zag | apply zae | apply zaf | refine zah ?_ (zck HI0.out)) | exact HB.out));rintro e w44 ⟨rfl,hi,hb,hk⟩;refine ⟨_,rfl,?_⟩;have n0_:=zad (zbu (zbv (zcj (show IsS45 w0 _ g s0_0 x1001_1 x1002_1 from by exact tahp) (taai) (by decide)) hk (fun _ h=>h.2)) (fun _ h=>h.1));have n1_:=zad (zbu (zbv (zcj (show IsS45 w0 _ g s0_0 x1001_1 x1002_1 from by exact tahp) (taaj) (by decide)) hk (fun _ h=>h.2)) (fun _ h=>h.1));have n2_:=zad (zbw (taaf) hk (.inl rfl));have n3_:=zad (hb);have n4_:=zad (hi);clear HO_6 HO_7 HK HB HI0;have HO_6:=n0_;have HO_7:=n1_;have HK:=n2_;have HB:=n3_;have HI0:=n4_;clear n0_ n1_ n2_ n3_ n4_;(try clear hb);(try clear hb2);(try clear hk);(try clear hi)) | ((with_reducible refine zbj (f:=58) rfl ?_);refine zbr (some 40) rfl rfl Tryz.func58 (by kernel_rfl) rfl #[.pointer (some ⟨g,0,none⟩),.int .i64 (x7_1.length:Int)] rfl (taac) ?_;(with_reducible refine (zcn g s0_0 t179 t180 (x7_1.length:Int) t181 t182 t183 w0 _ ?side1 ?side2 A22.out).mono ?_);(case side1=>repeat (first | (with_reducible first | exact HI0.out | apply zcg | apply zch | apply zci | apply zcl | apply zcm) | exact HI0.out));(case side2=>repeat (first | (with_reducible first | exact HB.out | apply zag | apply zae | apply zaf | refine zah ?_ (zck HI0.out)) | exact HB.out));rintro e w45 ⟨rfl,hi,hb,hk⟩;refine ⟨_,rfl,?_⟩;have n0_:=zad (zbu (zbv (zcj (show IsS45 w0 _ g s0_0 t179 t180 from by exact tahp) (taai) (by decide)) hk (fun _ h=>h.2)) (fun _ h=>h.1));have n1_:=zad (zbu (zbv (zcj (show IsS45 w0 _ g s0_0 t179 t180 from by exact tahp) (taaj) (by decide)) hk (fun _ h=>h.2)) (fun _ h=>h.1));have n2_:=zad (zbw (taaf) hk (.inl rfl));have n3_:=zad (hb);have n4_:=zad (hi);clear HO_6 HO_7 HK HB HI0;have HO_6:=n0_;have HO_7:=n1_;have HK:=n2_;have HB:=n3_;have HI0:=n4_;clear n0_ n1_ n2_ n3_ n4_;(try clear hb);(try clear hb2);(try clear hk);(try clear hi)))
              have n0_:=zad (zak HO_6.out);have n1_:=zad (zak HO_7.out);have n2_:=zad (zci HI0.out);have n3_:=zad (zaq HK.out);have n4_:=zad (zaf HB.out);clear HO_6 HO_7 HI0 HK HB;have HO_6:=n0_;have HO_7:=n1_;have HI0:=n2_;have HK:=n3_;have HB:=n4_;clear n0_ n1_ n2_ n3_ n4_;have p184:0≤(t178:Int):=zas (taab);have q184:t178<(x7_1.length:Int):=zas (taab);obtain ⟨ad184,e184,hx184_0⟩:=zca (zbh HO_7.out).2.2 t178 p184 q184;cases e184;replace p184:=eq_true p184;replace q184:=eq_true q184;have p185:0≤(t178:Int):=zas (taab);have q185:t178<(x7_1.length:Int):=zas (taab);obtain ⟨ad185,e185,hx185_0⟩:=zca (zbh HO_7.out).2.2 t178 p185 q185;obtain rfl:ad184=ad185:=(by injection e185);replace p185:=eq_true p185;replace q185:=eq_true q185;have p186:0≤(t181:Int):=zas (taab);have q186:t181<(x7_1.length:Int):=zas (taab);obtain ⟨ad186,e186,hx186_0⟩:=zca (zbh HO_7.out).2.2 t181 p186 q186;obtain rfl:ad184=ad186:=(by injection e186);replace p186:=eq_true p186;replace q186:=eq_true q186;refine start_ (n:=20) (S:=fun w'=>w'.cell? (ad184.add (t178).toNat)=some (.int .i64 (rd x7_1 t178))∧w'.cell? (ad184.add (t178).toNat)=some (.int .i64 (rd x7_1 t178))∧w'.cell? (ad184.add (t181).toNat)=some (.int .i64 (rd x7_1 t181))) (ds:=[]) #[false,false,false,false,false,false,false,false,false,false,false,false,false,false,false,false,false,false,false,false] (by kernel_rfl) rfl rfl ⟨hx184_0,hx185_0,hx186_0⟩ (fun hHeld => ?_);refine with_tabW spec_l1Cur_fitting.tab9 spec_l1Cur_fitting.bits9 (fun HT_ HW_ => ?_)
              generalize w45.drew=w46 at HO_6 HO_7 HI0 HK HB hx184_0 hx185_0 hx186_0 hHeld ⊢
              refine puA 0 (some 41) qafa_ ?_;refine puA 1 (some 42) qafb_ ?_;refine puA 2 (some 43) qafc_ ?_;refine tkA 3 (some 44) qafq_ rfl rfl (by rintro w' ⟨s0,s1,s2⟩;go_simp;with_reducible rfl) hHeld ?_;refine puA 4 (some 45) qafd_ ?_;refine puA 5 (some 46) qafe_ ?_;refine puA 6 (some 47) qaff_ ?_;refine puA 7 (some 48) qafg_ ?_;refine puA 8 (some 49) qafh_ ?_;refine puA 10 (some 51) qafi_ ?_;refine puA 11 (some 52) qafj_ ?_;refine puA 12 (some 53) qafk_ ?_;refine tkA 9 (some 50) qafr_ rfl rfl (by rintro w' ⟨s0,s1,s2⟩;go_simp;with_reducible rfl) hHeld ?_;refine tkA 13 (some 54) qafs_ rfl rfl (by rintro w' ⟨s0,s1,s2⟩;go_simp;with_reducible rfl) hHeld ?_;refine puA 14 (some 55) qafl_ ?_;refine puA 15 (some 56) qafm_ ?_;refine puA 16 (some 57) qafp_ ?_;refine one_ (i:=17) (N:=some 58) #[true,true,true,true,true,true,true,true,true,true,true,true,true,true,true,true,true,true,false,false] rfl rfl (one_of HT_.out (by kernel_rfl)) (by decide) (fun K hK => ?_)
              refine goes_ Tryz.func55 (by kernel_rfl) rfl #[.pointer (some ⟨g,0,none⟩),.int .i64 4] (by rfl) rfl rfl (taac) ?_
              with_reducible refine (spec_l1Cur_one.calls g s0_0 t182 t183 4 true t192 t193 w0 _ ?side1 ?side2 A39.out).mono ?_
              (case side1=>exact tahs)
              (case side2=>exact taht)
              rintro e w47 ⟨rfl,hi,hb,hk⟩
              have HS0_:=keep_cell hk (hHeld.1) (tace);have HS1_:=keep_cell hk (hHeld.2.1) (tace);have HS2_:=keep_cell hk (hHeld.2.2) (tace);refine ⟨_,rfl,?_⟩
              have n0_:=zad (zbu (zbv (zcj (show IsS45 w0 _ g s0_0 t182 t183 from by exact tahp) (taai) (by decide)) hk (fun _ h=>h.2)) (fun _ h=>h.1));have n1_:=zad (zbu (zbv (zcj (show IsS45 w0 _ g s0_0 t182 t183 from by exact tahp) (taaj) (by decide)) hk (fun _ h=>h.2)) (fun _ h=>h.1));have n2_:=zad (zbw (taaf) hk (.inl rfl));have n3_:=zad (hb);have n4_:=zad (hi);clear HO_6 HO_7 HK HB HI0;have HO_6:=n0_;have HO_7:=n1_;have HK:=n2_;have HB:=n3_;have HI0:=n4_;clear n0_ n1_ n2_ n3_ n4_;(try clear hb);(try clear hb2);(try clear hk);(try clear hi);refine hK.out _ _ ⟨HS0_,HS1_,HS2_⟩ (fun hHeld => ?_)
              clear hK K;refine norm_ (a' := ?_) ?_ ?_
              rotate_left
              ·show Act.put _ (some 58) _=_
               simp only [Act.put,zaa,zab,zac,i64_w,i32_w];rfl
              refine puA 18 (some 59) qafn_ ?_;refine puA 19 (some 60) qafo_ ?_;refine done_ (done_of HT_.out (by kernel_rfl)) ?_
              have p194:0≤(t178:Int):=zas (taab);have q194:t178<(x7_1.length:Int):=zas (taab);obtain ⟨ad194,e194,hx194_0⟩:=zca (zbh HO_7.out).2.2 t178 p194 q194;obtain rfl:ad184=ad194:=(by injection e194);replace p194:=eq_true p194;replace q194:=eq_true q194;have p41:0≤(t178:Int):=zas (taab);have q41:(t178:Int)<((x7_1.length:Int):Int):=zas (taab);obtain ⟨go41,co41,eo41,gb41,gl41,cl41,HG41⟩:=Kd.R_form HO_7.out (by omega);(first | cases eo41 | (injection eo41 with ea_ en_ ec_;(first | subst ea_ | (injection ea_ with ea_;subst ea_));subst ec_;clear en_))
              have GB41:=zad gb41;have GG41:=zad HG41;clear gb41 gl41 HG41;(first | simp only [add_plain] at hx184_0 | skip)
              (first | simp only [add_plain] at hx185_0 | skip)
              (first | simp only [add_plain] at hx186_0 | skip)
              (first | simp only [add_plain] at hx194_0 | skip)
              obtain ⟨hx41_0,hf41_0⟩:=Kd.R_celln 0 HO_7.out (t178:Int) p41 q41;replace p41:=eq_true p41;replace q41:=eq_true q41;obtain ⟨hy48_,hz48_⟩:=Kd.R_celln 0 HO_7.out (t178:Int) (zas (taab)) (zas (taab));have HP48:=Kd.R_putg HO_7.out (t178:Int) (wrap64 ((rd x7_1 t178) - 1));try go_wp2_with (first | ((with_reducible refine gate_store (t:=3) (p:=66) rfl ?_);refine store_event (t:=3) (p:=66) (v := ?vo_w49) (w1:=(w47.setCell ⟨go41,(t178:Int).toNat,none⟩ (.int .i64 (wrap64 ((rd x7_1 t178) - 1))))) ?hg ?ho ?hn ?hr ?_;(case ho=>rfl);(case hg=>rfl);(case hn=>rfl);(case hr=>first | (go_simp;done) | (go_simp;rfl));intro w49 hw;have hg:w47.grownBy w49 (some go41):=(by rw [hw];exact HP48.2);have hp_:Kd.R (Kd.int .i64) 3 w49 w.heap.size (fun k_=>some k_≠(.slice Ao14 t156.length co14:Value).ownBlock) (.slice (some ⟨go41,0,none⟩) x7_1.length co43) y195:=(by rw [hw,Ny195.out];exact HP48.1);clear HP48;have n0_:=zad (Kd.R_after (v:=(.slice (some ⟨go41,0,none⟩) x7_1.length co43)) (v1:=(.slice (some ⟨go41,0,none⟩) x7_1.length co43)) (ok:=(fun _=>True)) (taco) hg (.inl rfl));have n1_:=zad (hp_);have n2_:=zad (IsS45.grown (taag) hg (IsS45.own_ne HI0.out HO_7.out (by decide)));have n3_:=zad ((by rw [hw];exact zah (HB.out) (Nat.le_trans HL.out GB41.out):Below w0.heap.size w0 w49));have n4_:=zad (zbw (taaf) (KeepBut.of_grown hg g) (Kd.R_base2 HO_7.out));clear HO_6 HO_7 HI0 HB HK;have HO_6:=n0_;have HO_7:=n1_;have HI0:=n2_;have HB:=n3_;have HK:=n4_;clear n0_ n1_ n2_ n3_ n4_ hg hw hp_;have p196:0≤(t181:Int):=zas (taab);have q196:t181<(y195.length:Int):=(by have h_:(t181:Int)<((x7_1.length:Int):Int):=zas (taab);first | (have e_:=(zbh HO_7.out).1;omega) | simpa only [Ny195.out,List.length_set] using h_);have ql196:((t181:Int)<((x7_1.length:Int):Int))=True:=eq_true (zas (taab));obtain ⟨ad196,e196,hx196_0⟩:=zca (zbh HO_7.out).2.2 t181 p196 q196;obtain rfl:(⟨go41,0,none⟩:Addr)=ad196:=(by injection e196);(first | simp only [add_plain] at hx196_0 | simp only [add_at] at hx196_0 | simp only [Addr.add,Nat.zero_add] at hx196_0 | skip);replace p196:=eq_true p196;replace q196:=eq_true q196;have p42:0≤(t181:Int):=zas (taab);have q42:(t181:Int)<((x7_1.length:Int):Int):=zas (taab);obtain ⟨hx42_0,hf42_0⟩:=Kd.R_celln 0 HO_7.out (t181:Int) p42 q42;replace p42:=eq_true p42;replace q42:=eq_true q42;obtain ⟨hy50_,hz50_⟩:=Kd.R_celln 0 HO_7.out (t181:Int) (zas (taab)) (zas (taab));have HP50:=Kd.R_putg HO_7.out (t181:Int) (wrap64 ((rd y195 t181)+1))) | ((with_reducible refine gate_store (t:=3) (p:=72) rfl ?_);refine store_event (t:=3) (p:=72) (v := ?vo_w51) (w1:=(w49.setCell ⟨go41,(t181:Int).toNat,none⟩ (.int .i64 (wrap64 ((rd y195 t181)+1))))) ?hg ?ho ?hn ?hr ?_;(case ho=>rfl);(case hg=>rfl);(case hn=>rfl);(case hr=>first | (go_simp;done) | (go_simp;rfl));intro w51 hw;have hg:w49.grownBy w51 (some go41):=(by rw [hw];exact HP50.2);have hp_:Kd.R (Kd.int .i64) 3 w51 w.heap.size (fun k_=>some k_≠(.slice Ao14 t156.length co14:Value).ownBlock) (.slice (some ⟨go41,0,none⟩) x7_1.length co43) y197:=(by rw [hw,Ny197.out];exact HP50.1);clear HP50;have n0_:=zad (Kd.R_after (v:=(.slice (some ⟨go41,0,none⟩) x7_1.length co43)) (v1:=(.slice (some ⟨go41,0,none⟩) x7_1.length co43)) (ok:=(fun _=>True)) (taai) hg (.inl rfl));have n1_:=zad (hp_);have n2_:=zad (IsS45.grown (taag) hg (IsS45.own_ne HI0.out HO_7.out (by decide)));have n3_:=zad ((by rw [hw];exact zah (HB.out) (Nat.le_trans HL.out GB41.out):Below w0.heap.size w0 w51));have n4_:=zad (zbw (taaf) (KeepBut.of_grown hg g) (Kd.R_base2 HO_7.out));clear HO_6 HO_7 HI0 HB HK;have HO_6:=n0_;have HO_7:=n1_;have HI0:=n2_;have HB:=n3_;have HK:=n4_;clear n0_ n1_ n2_ n3_ n4_ hg hw hp_))
              go_roundg kj16
              case measure=>have:=HK1.out;have:=HJ16.out;omega
              case rel=>exact ⟨(y197),(wrap64 (x8_1 - 1)),(t192),(t193),(taae),H',⟨tacd⟩,⟨taea⟩,⟨taaj⟩,⟨taag⟩,⟨taaf⟩,⟨taam⟩⟩
             ·replace c40:=zbk.mpr c40
              subst c40;have H1:(spec_l1Cur_fitting.l0 kj16 t156 x7_1 (wrap64 (x8_1 - 1)) s0_0 t192 t193)=some (r1,r2,r3,r4):=by rw [if_neg (show ¬ (false=true) by decide)] at H;exact H
              clear H;have H:=H1;clear H1;have H':=zad H;clear H;obtain ⟨Ao52,co52,eo52⟩:=zbz HO_7.out;subst eo52;try go_wp2_with (first | ((with_reducible refine zbj (f:=58) rfl ?_);refine zbr (some 36) rfl rfl Tryz.func58 (by kernel_rfl) rfl #[.pointer (some ⟨g,0,none⟩),.int .i64 (x7_1.length:Int)] rfl (taac) ?_;(with_reducible refine (zcn g s0_0 x1001_1 x1002_1 (x7_1.length:Int) t178 t179 t180 w0 _ ?side1 ?side2 A21.out).mono ?_);(case side1=>repeat (first | (with_reducible first | exact HI0.out | apply zcg | apply zch | apply zci | apply zcl | apply zcm) | exact HI0.out));(case side2=>repeat (first | (with_reducible first | exact HB.out | apply zag | apply zae | apply zaf | refine zah ?_ (zck HI0.out)) | exact HB.out));rintro e w53 ⟨rfl,hi,hb,hk⟩;refine ⟨_,rfl,?_⟩;have n0_:=zad (zbu (zbv (zcj (show IsS45 w0 _ g s0_0 x1001_1 x1002_1 from by exact tahp) (taai) (by decide)) hk (fun _ h=>h.2)) (fun _ h=>h.1));have n1_:=zad (zbu (zbv (zcj (show IsS45 w0 _ g s0_0 x1001_1 x1002_1 from by exact tahp) (taaj) (by decide)) hk (fun _ h=>h.2)) (fun _ h=>h.1));have n2_:=zad (zbw (taaf) hk (.inl rfl));have n3_:=zad (hb);have n4_:=zad (hi);clear HO_6 HO_7 HK HB HI0;have HO_6:=n0_;have HO_7:=n1_;have HK:=n2_;have HB:=n3_;have HI0:=n4_;clear n0_ n1_ n2_ n3_ n4_;(try clear hb);(try clear hb2);(try clear hk);(try clear hi)) | ((with_reducible refine zbj (f:=58) rfl ?_);refine zbr (some 40) rfl rfl Tryz.func58 (by kernel_rfl) rfl #[.pointer (some ⟨g,0,none⟩),.int .i64 (x7_1.length:Int)] rfl (taac) ?_;(with_reducible refine (zcn g s0_0 t179 t180 (x7_1.length:Int) t181 t182 t183 w0 _ ?side1 ?side2 A22.out).mono ?_);(case side1=>repeat (first | (with_reducible first | exact HI0.out | apply zcg | apply zch | apply zci | apply zcl | apply zcm) | exact HI0.out));(case side2=>repeat (first | (with_reducible first | exact HB.out | apply zag | apply zae | apply zaf | refine zah ?_ (zck HI0.out)) | exact HB.out));rintro e w54 ⟨rfl,hi,hb,hk⟩;refine ⟨_,rfl,?_⟩;have n0_:=zad (zbu (zbv (zcj (show IsS45 w0 _ g s0_0 t179 t180 from by exact tahp) (taai) (by decide)) hk (fun _ h=>h.2)) (fun _ h=>h.1));have n1_:=zad (zbu (zbv (zcj (show IsS45 w0 _ g s0_0 t179 t180 from by exact tahp) (taaj) (by decide)) hk (fun _ h=>h.2)) (fun _ h=>h.1));have n2_:=zad (zbw (taaf) hk (.inl rfl));have n3_:=zad (hb);have n4_:=zad (hi);clear HO_6 HO_7 HK HB HI0;have HO_6:=n0_;have HO_7:=n1_;have HK:=n2_;have HB:=n3_;have HI0:=n4_;clear n0_ n1_ n2_ n3_ n4_;(try clear hb);(try clear hb2);(try clear hk);(try clear hi)))
              have n0_:=zad (zak HO_6.out);have n1_:=zad (zak HO_7.out);have n2_:=zad (zci HI0.out);have n3_:=zad (zaq HK.out);have n4_:=zad (zaf HB.out);clear HO_6 HO_7 HI0 HK HB;have HO_6:=n0_;have HO_7:=n1_;have HI0:=n2_;have HK:=n3_;have HB:=n4_;clear n0_ n1_ n2_ n3_ n4_;have p184:0≤(t178:Int):=zas (taab);have q184:t178<(x7_1.length:Int):=zas (taab);obtain ⟨ad184,e184,hx184_0⟩:=zca (zbh HO_7.out).2.2 t178 p184 q184;cases e184;replace p184:=eq_true p184;replace q184:=eq_true q184;have p185:0≤(t178:Int):=zas (taab);have q185:t178<(x7_1.length:Int):=zas (taab);obtain ⟨ad185,e185,hx185_0⟩:=zca (zbh HO_7.out).2.2 t178 p185 q185;obtain rfl:ad184=ad185:=(by injection e185);replace p185:=eq_true p185;replace q185:=eq_true q185;have p186:0≤(t181:Int):=zas (taab);have q186:t181<(x7_1.length:Int):=zas (taab);obtain ⟨ad186,e186,hx186_0⟩:=zca (zbh HO_7.out).2.2 t181 p186 q186;obtain rfl:ad184=ad186:=(by injection e186);replace p186:=eq_true p186;replace q186:=eq_true q186;refine start_ (n:=20) (S:=fun w'=>w'.cell? (ad184.add (t178).toNat)=some (.int .i64 (rd x7_1 t178))∧w'.cell? (ad184.add (t178).toNat)=some (.int .i64 (rd x7_1 t178))∧w'.cell? (ad184.add (t181).toNat)=some (.int .i64 (rd x7_1 t181))) (ds:=[]) #[false,false,false,false,false,false,false,false,false,false,false,false,false,false,false,false,false,false,false,false] (by kernel_rfl) rfl rfl ⟨hx184_0,hx185_0,hx186_0⟩ (fun hHeld => ?_);refine with_tabW spec_l1Cur_fitting.tab9 spec_l1Cur_fitting.bits9 (fun HT_ HW_ => ?_)
              generalize w54.drew=w55 at HO_6 HO_7 HI0 HK HB hx184_0 hx185_0 hx186_0 hHeld ⊢
              refine puA 0 (some 41) qafa_ ?_;refine puA 1 (some 42) qafb_ ?_;refine puA 2 (some 43) qafc_ ?_;refine tkA 3 (some 44) qafq_ rfl rfl (by rintro w' ⟨s0,s1,s2⟩;go_simp;with_reducible rfl) hHeld ?_;refine puA 4 (some 45) qafd_ ?_;refine puA 5 (some 46) qafe_ ?_;refine puA 6 (some 47) qaff_ ?_;refine puA 7 (some 48) qafg_ ?_;refine puA 8 (some 49) qafh_ ?_;refine puA 10 (some 51) qafi_ ?_;refine puA 11 (some 52) qafj_ ?_;refine puA 12 (some 53) qafk_ ?_;refine tkA 9 (some 50) qafr_ rfl rfl (by rintro w' ⟨s0,s1,s2⟩;go_simp;with_reducible rfl) hHeld ?_;refine tkA 13 (some 54) qafs_ rfl rfl (by rintro w' ⟨s0,s1,s2⟩;go_simp;with_reducible rfl) hHeld ?_;refine puA 14 (some 55) qafl_ ?_;refine puA 15 (some 56) qafm_ ?_;refine puA 16 (some 57) qafp_ ?_;refine one_ (i:=17) (N:=some 58) #[true,true,true,true,true,true,true,true,true,true,true,true,true,true,true,true,true,true,false,false] rfl rfl (one_of HT_.out (by kernel_rfl)) (by decide) (fun K hK => ?_)
              refine goes_ Tryz.func55 (by kernel_rfl) rfl #[.pointer (some ⟨g,0,none⟩),.int .i64 4] (by rfl) rfl rfl (taac) ?_
              with_reducible refine (spec_l1Cur_one.calls g s0_0 t182 t183 4 false t192 t193 w0 _ ?side1 ?side2 A39.out).mono ?_
              (case side1=>exact tahs)
              (case side2=>exact taht)
              rintro e w56 ⟨rfl,hi,hb,hk⟩
              have HS0_:=keep_cell hk (hHeld.1) (tace);have HS1_:=keep_cell hk (hHeld.2.1) (tace);have HS2_:=keep_cell hk (hHeld.2.2) (tace);refine ⟨_,rfl,?_⟩
              have n0_:=zad (zbu (zbv (zcj (show IsS45 w0 _ g s0_0 t182 t183 from by exact tahp) (taai) (by decide)) hk (fun _ h=>h.2)) (fun _ h=>h.1));have n1_:=zad (zbu (zbv (zcj (show IsS45 w0 _ g s0_0 t182 t183 from by exact tahp) (taaj) (by decide)) hk (fun _ h=>h.2)) (fun _ h=>h.1));have n2_:=zad (zbw (taaf) hk (.inl rfl));have n3_:=zad (hb);have n4_:=zad (hi);clear HO_6 HO_7 HK HB HI0;have HO_6:=n0_;have HO_7:=n1_;have HK:=n2_;have HB:=n3_;have HI0:=n4_;clear n0_ n1_ n2_ n3_ n4_;(try clear hb);(try clear hb2);(try clear hk);(try clear hi);refine hK.out _ _ ⟨HS0_,HS1_,HS2_⟩ (fun hHeld => ?_)
              clear hK K;refine norm_ (a' := ?_) ?_ ?_
              rotate_left
              ·show Act.put _ (some 58) _=_
               simp only [Act.put,zaa,zab,zac,i64_w,i32_w];rfl
              refine puA 18 (some 59) qafn_ ?_;refine puA 19 (some 60) qafo_ ?_;refine done_ (done_of HT_.out (by kernel_rfl)) ?_
              try go_wp2
              go_roundg kj16
              case measure=>have:=HK1.out;have:=HJ16.out;omega
              case rel=>exact ⟨(x7_1),(wrap64 (x8_1 - 1)),(t192),(t193),(taae),H',⟨tacd⟩,⟨taai⟩,⟨taaj⟩,⟨taag⟩,⟨taaf⟩,⟨taam⟩⟩
           ·rw [if_neg c27] at H
            exact absurd H (taad)
          ·rw [if_neg c26] at H
           exact absurd H (taad)
         ·rw [if_neg c25] at H
          have c25b0:decide (0<(rd x7_1 t178))=false:=zbl c25;clear c25;have H':=zad H;clear H;obtain ⟨Ao57,co57,eo57⟩:=zbz HO_7.out;subst eo57;try go_wp2_with (first | ((with_reducible refine zbj (f:=58) rfl ?_);refine zbr (some 36) rfl rfl Tryz.func58 (by kernel_rfl) rfl #[.pointer (some ⟨g,0,none⟩),.int .i64 (x7_1.length:Int)] rfl (taac) ?_;(with_reducible refine (zcn g s0_0 x1001_1 x1002_1 (x7_1.length:Int) t178 t179 t180 w0 _ ?side1 ?side2 A21.out).mono ?_);(case side1=>repeat (first | (with_reducible first | exact HI0.out | apply zcg | apply zch | apply zci | apply zcl | apply zcm) | exact HI0.out));(case side2=>repeat (first | (with_reducible first | exact HB.out | apply zag | apply zae | apply zaf | refine zah ?_ (zck HI0.out)) | exact HB.out));rintro e w58 ⟨rfl,hi,hb,hk⟩;refine ⟨_,rfl,?_⟩;have n0_:=zad (zbu (zbv (zcj (show IsS45 w0 _ g s0_0 x1001_1 x1002_1 from by exact tahp) (taai) (by decide)) hk (fun _ h=>h.2)) (fun _ h=>h.1));have n1_:=zad (zbu (zbv (zcj (show IsS45 w0 _ g s0_0 x1001_1 x1002_1 from by exact tahp) (taaj) (by decide)) hk (fun _ h=>h.2)) (fun _ h=>h.1));have n2_:=zad (zbw (taaf) hk (.inl rfl));have n3_:=zad (hb);have n4_:=zad (hi);clear HO_6 HO_7 HK HB HI0;have HO_6:=n0_;have HO_7:=n1_;have HK:=n2_;have HB:=n3_;have HI0:=n4_;clear n0_ n1_ n2_ n3_ n4_;(try clear hb);(try clear hb2);(try clear hk);(try clear hi)) | ((with_reducible refine zbj (f:=58) rfl ?_);refine zbr (some 40) rfl rfl Tryz.func58 (by kernel_rfl) rfl #[.pointer (some ⟨g,0,none⟩),.int .i64 (x7_1.length:Int)] rfl (taac) ?_;(with_reducible refine (zcn g s0_0 t179 t180 (x7_1.length:Int) t181 t182 t183 w0 _ ?side1 ?side2 A22.out).mono ?_);(case side1=>repeat (first | (with_reducible first | exact HI0.out | apply zcg | apply zch | apply zci | apply zcl | apply zcm) | exact HI0.out));(case side2=>repeat (first | (with_reducible first | exact HB.out | apply zag | apply zae | apply zaf | refine zah ?_ (zck HI0.out)) | exact HB.out));rintro e w59 ⟨rfl,hi,hb,hk⟩;refine ⟨_,rfl,?_⟩;have n0_:=zad (zbu (zbv (zcj (show IsS45 w0 _ g s0_0 t179 t180 from by exact tahp) (taai) (by decide)) hk (fun _ h=>h.2)) (fun _ h=>h.1));have n1_:=zad (zbu (zbv (zcj (show IsS45 w0 _ g s0_0 t179 t180 from by exact tahp) (taaj) (by decide)) hk (fun _ h=>h.2)) (fun _ h=>h.1));have n2_:=zad (zbw (taaf) hk (.inl rfl));have n3_:=zad (hb);have n4_:=zad (hi);clear HO_6 HO_7 HK HB HI0;have HO_6:=n0_;have HO_7:=n1_;have HK:=n2_;have HB:=n3_;have HI0:=n4_;clear n0_ n1_ n2_ n3_ n4_;(try clear hb);(try clear hb2);(try clear hk);(try clear hi)))
          have n0_:=zad (zak HO_6.out);have n1_:=zad (zak HO_7.out);have n2_:=zad (zci HI0.out);have n3_:=zad (zaq HK.out);have n4_:=zad (zaf HB.out);clear HO_6 HO_7 HI0 HK HB;have HO_6:=n0_;have HO_7:=n1_;have HI0:=n2_;have HK:=n3_;have HB:=n4_;clear n0_ n1_ n2_ n3_ n4_;have p184:0≤(t178:Int):=zas (taab);have q184:t178<(x7_1.length:Int):=zas (taab);obtain ⟨ad184,e184,hx184_0⟩:=zca (zbh HO_7.out).2.2 t178 p184 q184;cases e184;replace p184:=eq_true p184;replace q184:=eq_true q184;refine start_ (n:=20) (S:=fun w'=>w'.cell? (ad184.add (t178).toNat)=some (.int .i64 (rd x7_1 t178))) (ds:=[]) #[false,false,false,false,false,false,false,false,false,false,false,false,false,false,false,false,false,false,false,false] (by kernel_rfl) rfl rfl (hx184_0) (fun hHeld => ?_);refine with_tabW spec_l1Cur_fitting.tab9 spec_l1Cur_fitting.bits9 (fun HT_ HW_ => ?_)
          generalize w59.drew=w60 at HO_6 HO_7 HI0 HK HB hx184_0 hHeld ⊢
          refine puA 0 (some 41) qafa_ ?_;refine puA 1 (some 42) qafb_ ?_;refine puA 2 (some 43) qafc_ ?_;refine tkA 3 (some 44) qafq_ rfl rfl (by intro w' s0;go_simp;with_reducible rfl) hHeld ?_;refine puA 4 (some 45) qafd_ ?_;refine puA 5 (some 46) qafe_ ?_;refine puB 6 (some 47) qaff_ ?_;refine puB 7 (some 48) qafg_ ?_;refine puB 8 (some 49) qafh_ ?_;refine puB 9 (some 50) qafu_ ?_;refine puB 10 (some 51) qafv_ ?_;refine puB 11 (some 52) qafw_ ?_;refine puB 12 (some 53) qafr_ ?_;refine puB 13 (some 54) qafs_ ?_;refine puB 14 (some 55) qafl_ ?_;refine puB 15 (some 56) qafm_ ?_;refine puB 16 (some 57) qafp_ ?_;refine puB 17 (some 58) qaft_ ?_;refine puB 18 (some 59) qafn_ ?_;refine puA 19 (some 60) qafo_ ?_;refine done_ (done_of HT_.out (by kernel_rfl)) ?_
          try go_wp2
          go_roundg kj16
          case measure=>have:=HK1.out;have:=HJ16.out;omega
          case rel=>exact ⟨(x7_1),(wrap64 (x8_1 - 1)),(t182),(t183),(taae),H',⟨tacd⟩,⟨taai⟩,⟨taaj⟩,⟨taag⟩,⟨taaf⟩,⟨taam⟩⟩
        ·rw [if_neg c24] at H
         exact absurd H (taad)
       ·rw [if_neg c23] at H
        exact absurd H (taad)
      ·replace c20:=zbk.mpr c20
       subst c20;have H1:((spec_l1Cur_one.f s0_0 x1001_1 x1002_1 5).bind fun bt175=>(if bt175.1=true then (some (t156,x7_1,bt175.2.1,bt175.2.2)) else (some (x7_1,t156,bt175.2.1,bt175.2.2))))=some (r1,r2,r3,r4):=by rw [if_neg (show ¬ (false=true) by decide)] at H;exact H
       clear H;have H:=H1;clear H1;replace H:=zay.mp H;obtain ⟨⟨t175,t176,t177⟩,A610,H⟩:=H;replace H:(if t175=true then (some (t156,x7_1,t176,t177)) else (some (x7_1,t156,t176,t177)))=some (r1,r2,r3,r4):=H;have A61:=zad A610;clear A610;by_cases c62:t175=true
       ·subst c62
        have H1:(some (t156,x7_1,t176,t177))=some (r1,r2,r3,r4):=by rw [if_pos rfl] at H;exact H
        clear H;have H:=H1;clear H1;simp only [zbp,zbt] at H;obtain ⟨rfl,rfl,rfl,rfl⟩:=H;go_wp2_with (first | ((with_reducible refine zbj (f:=55) rfl ?_);refine zbr (some 74) rfl rfl Tryz.func55 (by kernel_rfl) rfl #[.pointer (some ⟨g,0,none⟩),.int .i64 5] rfl (taac) ?_;(with_reducible refine (spec_l1Cur_one.calls g s0_0 x1001_1 x1002_1 5 true t176 t177 w0 _ ?side1 ?side2 A61.out).mono ?_);(case side1=>exact tahs);(case side2=>exact taht);rintro e w63 ⟨rfl,hi,hb,hk⟩;refine ⟨_,rfl,?_⟩;have n0_:=zad (zbu (zbv (zcj (show IsS45 w0 _ g s0_0 x1001_1 x1002_1 from by exact tahp) (taai) (by decide)) hk (fun _ h=>h.2)) (fun _ h=>h.1));have n1_:=zad (zbu (zbv (zcj (show IsS45 w0 _ g s0_0 x1001_1 x1002_1 from by exact tahp) (taaj) (by decide)) hk (fun _ h=>h.2)) (fun _ h=>h.1));have n2_:=zad (zbw (taaf) hk (.inl rfl));have n3_:=zad (hb);have n4_:=zad (hi);clear HO_6 HO_7 HK HB HI0;have HO_6:=n0_;have HO_7:=n1_;have HK:=n2_;have HB:=n3_;have HI0:=n4_;clear n0_ n1_ n2_ n3_ n4_;(try clear hb);(try clear hb2);(try clear hk);(try clear hi)))
        go_ret2
        exact ⟨_,_,taah,taai,taaj,taag,taam,taaf⟩
       ·replace c62:=zbk.mpr c62
        subst c62;have H1:(some (x7_1,t156,t176,t177))=some (r1,r2,r3,r4):=by rw [if_neg (show ¬ (false=true) by decide)] at H;exact H
        clear H;have H:=H1;clear H1;simp only [zbp,zbt] at H;obtain ⟨rfl,rfl,rfl,rfl⟩:=H;go_wp2_with (first | ((with_reducible refine zbj (f:=55) rfl ?_);refine zbr (some 74) rfl rfl Tryz.func55 (by kernel_rfl) rfl #[.pointer (some ⟨g,0,none⟩),.int .i64 5] rfl (taac) ?_;(with_reducible refine (spec_l1Cur_one.calls g s0_0 x1001_1 x1002_1 5 false t176 t177 w0 _ ?side1 ?side2 A61.out).mono ?_);(case side1=>exact tahs);(case side2=>exact taht);rintro e w64 ⟨rfl,hi,hb,hk⟩;refine ⟨_,rfl,?_⟩;have n0_:=zad (zbu (zbv (zcj (show IsS45 w0 _ g s0_0 x1001_1 x1002_1 from by exact tahp) (taai) (by decide)) hk (fun _ h=>h.2)) (fun _ h=>h.1));have n1_:=zad (zbu (zbv (zcj (show IsS45 w0 _ g s0_0 x1001_1 x1002_1 from by exact tahp) (taaj) (by decide)) hk (fun _ h=>h.2)) (fun _ h=>h.1));have n2_:=zad (zbw (taaf) hk (.inl rfl));have n3_:=zad (hb);have n4_:=zad (hi);clear HO_6 HO_7 HK HB HI0;have HO_6:=n0_;have HO_7:=n1_;have HK:=n2_;have HB:=n3_;have HI0:=n4_;clear n0_ n1_ n2_ n3_ n4_;(try clear hb);(try clear hb2);(try clear hk);(try clear hi)))
        go_ret2
        exact ⟨_,_,taah,taaj,taai,taag,taam,taaf⟩
mutual
def spec_l1Cur_majorized.l0:Nat→List Int→List Int→Int→List Int→Int→Int→Option (List Int × List Int × Int × Int)
 | 0,_,_,_,_,_,_=>none
 | k+1,x6,x7,x8,x1000,x1001,x1002=>if x8>0 then (spec_l1Cur_majorized.j1 k x6 x7 x8 (decide ((x7.length:Int)>1)) x1000 x1001 x1002) else (spec_l1Cur_majorized.j1 k x6 x7 x8 false x1000 x1001 x1002)
def spec_l1Cur_majorized.j1:Nat→List Int→List Int→Int→Bool→List Int→Int→Int→Option (List Int × List Int × Int × Int)
 | 0,_,_,_,_,_,_,_=>none
 | k+1,x6,x7,x8,x31,x1000,x1001,x1002=>if x31=true then ((spec_l1Cur_pick.f x1000 x1001 x1002 (x7.length:Int)).bind fun bt220=>((spec_l1Cur_pick.f x1000 bt220.2.1 bt220.2.2 (x7.length:Int)).bind fun bt223=>(if 0≤bt220.1 then (if bt220.1<(x7.length:Int) then (if 0≤bt223.1 then (if bt223.1<(x7.length:Int) then (if (rd x7 bt220.1)≥(wrap64 ((rd x7 bt223.1)+2)) then ((some (x7.set (bt220.1:Int).toNat (wrap64 ((rd x7 bt220.1) - 1)):List Int)).bind fun y229=>(spec_l1Cur_majorized.l0 k x6 (y229.set (bt223.1:Int).toNat (wrap64 ((rd y229 bt223.1)+1))) (wrap64 (x8 - 1)) x1000 bt223.2.1 bt223.2.2)) else (spec_l1Cur_majorized.l0 k x6 x7 (wrap64 (x8 - 1)) x1000 bt223.2.1 bt223.2.2)) else (none)) else (none)) else (none)) else (none)))) else (some (x7,x6,x1001,x1002))
end
def spec_l1Cur_majorized.f (k:Nat) (s0_0:List Int) (s0_1:Int) (s0_2:Int) (a1:Int):Option (List Int × List Int × Int × Int):=(spec_l1Cur_list.f k s0_0 s0_1 s0_2 a1).bind fun bt198=>((spec_l1Cur_one.f s0_0 bt198.2.1 bt198.2.2 8).bind fun bt203=>(if bt203.1=true then ((spec_l1Cur_fitting.f k s0_0 bt203.2.1 bt203.2.2 a1).bind fun bt206=>(some (bt206.1,bt206.2.1,bt206.2.2.1,bt206.2.2.2))) else ((spec_l1Own.f bt198.1).bind fun t214=>((spec_l1Cur_pick.f s0_0 bt203.2.1 bt203.2.2 9).bind fun bt217=>(spec_l1Cur_majorized.l0 k bt198.1 t214 bt217.1 s0_0 bt217.2.1 bt217.2.2)))))
theorem spec_l1Cur_majorized.calls (k:Nat) (g:Nat) (s0_0:List Int) (s0_1:Int) (s0_2:Int) (a1:Int) (r1:List Int) (r2:List Int) (r3:Int) (r4:Int) (w0 w:World) (hI:IsS45 w0 w g s0_0 s0_1 s0_2) (hB:Below w0.heap.size w0 w) (h:spec_l1Cur_majorized.f k s0_0 s0_1 s0_2 a1=some (r1,r2,r3,r4)) :
 Calls Tryz.prog 19 #[.pointer (some ⟨g,0,none⟩),.int .i64 a1] w fun e w'=>∃ v0_ v1_:Value,e = .returned (.tuple #[v0_,v1_])∧Kd.R (Kd.int .i64) 3 w' w.heap.size (fun k_=>some k_≠(v1_:Value).ownBlock) v0_ r1∧Kd.R (Kd.int .i64) 3 w' w.heap.size (fun k_=>some k_≠(v0_:Value).ownBlock) v1_ r2∧IsS45 w0 w' g s0_0 r3 r4∧Below w0.heap.size w0 w'∧KeepBut w w' g none:=by
 have HI0:=zad hI;have HK:=zad (KeepBut.refl w g none);have HL:=zad hB.size;clear hI;have HW0:=zad hB.size;have HB:=zad hB;clear hB;have H:((spec_l1Cur_list.f k s0_0 s0_1 s0_2 a1).bind fun bt198=>((spec_l1Cur_one.f s0_0 bt198.2.1 bt198.2.2 8).bind fun bt203=>(if bt203.1=true then ((spec_l1Cur_fitting.f k s0_0 bt203.2.1 bt203.2.2 a1).bind fun bt206=>(some (bt206.1,bt206.2.1,bt206.2.2.1,bt206.2.2.2))) else ((spec_l1Own.f bt198.1).bind fun t214=>((spec_l1Cur_pick.f s0_0 bt203.2.1 bt203.2.2 9).bind fun bt217=>(spec_l1Cur_majorized.l0 k bt198.1 t214 bt217.1 s0_0 bt217.2.1 bt217.2.2))))))=some (r1,r2,r3,r4):=h;clear h;replace H:=zay.mp H;obtain ⟨⟨t198,t201,t202⟩,A30,H⟩:=H;replace H:((spec_l1Cur_one.f s0_0 t201 t202 8).bind fun bt203=>(if bt203.1=true then ((spec_l1Cur_fitting.f k s0_0 bt203.2.1 bt203.2.2 a1).bind fun bt206=>(some (bt206.1,bt206.2.1,bt206.2.2.1,bt206.2.2.2))) else ((spec_l1Own.f t198).bind fun t214=>((spec_l1Cur_pick.f s0_0 bt203.2.1 bt203.2.2 9).bind fun bt217=>(spec_l1Cur_majorized.l0 k t198 t214 bt217.1 s0_0 bt217.2.1 bt217.2.2)))))=some (r1,r2,r3,r4):=H;have A3:=zad A30;clear A30;replace H:=zay.mp H;obtain ⟨⟨t203,t204,t205⟩,A40,H⟩:=H;replace H:(if t203=true then ((spec_l1Cur_fitting.f k s0_0 t204 t205 a1).bind fun bt206=>(some (bt206.1,bt206.2.1,bt206.2.2.1,bt206.2.2.2))) else ((spec_l1Own.f t198).bind fun t214=>((spec_l1Cur_pick.f s0_0 t204 t205 9).bind fun bt217=>(spec_l1Cur_majorized.l0 k t198 t214 bt217.1 s0_0 bt217.2.1 bt217.2.2))))=some (r1,r2,r3,r4):=H;have A4:=zad A40;clear A40;by_cases c5:t203=true
 ·subst c5
  have H1:((spec_l1Cur_fitting.f k s0_0 t204 t205 a1).bind fun bt206=>(some (bt206.1,bt206.2.1,bt206.2.2.1,bt206.2.2.2)))=some (r1,r2,r3,r4):=by rw [if_pos rfl] at H;exact H
  clear H;have H:=H1;clear H1;replace H:=zay.mp H;obtain ⟨⟨t206,t209,t212,t213⟩,A60,H⟩:=H;replace H:(some (t206,t209,t212,t213))=some (r1,r2,r3,r4):=H;have A6:=zad A60;clear A60;simp only [zbp,zbt] at H;obtain ⟨rfl,rfl,rfl,rfl⟩:=H;go_enter Tryz.func19,Tryz.ntmps19;go_wp2_with (first | (go_at_call 54;(with_reducible refine (spec_l1Cur_list.calls k g s0_0 s0_1 s0_2 a1 t198 t201 t202 w0 _ ?side1 ?side2 A3.out).mono ?_);(case side1=>exact tahs);(case side2=>exact taht);rintro e w7 ⟨v199,rfl,ho0,hi,hb,hk⟩;have n0_:=zad (zby ho0 (keep_size (w:=w) (g:=g) (row:=none) (taaf)));have n1_:=zad (zbw (taaf) hk (.inl rfl));have n2_:=zad (hb);have n3_:=zad (hi);clear HK HB HI0;have HO200:=n0_;have HK:=n1_;have HB:=n2_;have HI0:=n3_;clear n0_ n1_ n2_ n3_;(try clear hb);(try clear hb2);(try clear hk);(try clear hi);(try clear ho0)) | (go_at_call 55;(with_reducible refine (spec_l1Cur_one.calls g s0_0 t201 t202 8 true t204 t205 w0 _ ?side1 ?side2 A4.out).mono ?_);(case side1=>exact tahs);(case side2=>exact taht);rintro e w8 ⟨rfl,hi,hb,hk⟩;have n0_:=zad (zbu (zbv (zcj (show IsS45 w0 _ g s0_0 t201 t202 from by exact tahp) (taao) (by decide)) hk (fun _ h=>h.2)) (fun _ h=>h.1));have n1_:=zad (zbw (taaf) hk (.inl rfl));have n2_:=zad (hb);have n3_:=zad (hi);clear HO200 HK HB HI0;have HO200:=n0_;have HK:=n1_;have HB:=n2_;have HI0:=n3_;clear n0_ n1_ n2_ n3_;(try clear hb);(try clear hb2);(try clear hk);(try clear hi)) | (go_at_call 56;(with_reducible refine (spec_l1Cur_fitting.calls k g s0_0 t204 t205 a1 t206 t209 t212 t213 w0 _ ?side1 ?side2 A6.out).mono ?_);(case side1=>exact tahs);(case side2=>exact taht);rintro e w9 ⟨v207,v210,rfl,ho0,ho1,hi,hb,hk⟩;have n0_:=zad (zbu (Kd.R_told (Kd.R_told (Kd.R_oldK (zcj (show IsS45 w0 _ g s0_0 t204 t205 from by exact tahp) (taao) (by decide)) hk) (zcd ho0)) (zcd ho1)) (fun _ h_=>h_.1));have n1_:=zad (zby (zcc ho0 (zce (taao))) (keep_size (w:=w) (g:=g) (row:=none) (taaf)));have n2_:=zad (zby (zcc ho1 (zce (taao))) (keep_size (w:=w) (g:=g) (row:=none) (taaf)));have n3_:=zad (zbw (taaf) hk (.inl rfl));have n4_:=zad (hb);have n5_:=zad (hi);clear HO200 HK HB HI0;have HO200:=n0_;have HO208:=n1_;have HO211:=n2_;have HK:=n3_;have HB:=n4_;have HI0:=n5_;clear n0_ n1_ n2_ n3_ n4_ n5_;(try clear hb);(try clear hb2);(try clear hk);(try clear hi);(try clear ho0);(try clear ho1)))
  repeat (go_quiet (first | (go_at_call 54;(with_reducible refine (spec_l1Cur_list.calls k g s0_0 s0_1 s0_2 a1 t198 t201 t202 w0 _ ?side1 ?side2 A3.out).mono ?_);(case side1=>repeat (first | (with_reducible first | exact HI0.out | apply zcg | apply zch | apply zci | apply zcl | apply zcm) | exact HI0.out));(case side2=>repeat (first | (with_reducible first | exact HB.out | apply zag | apply zae | apply zaf | refine zah ?_ (zck HI0.out)) | exact HB.out));rintro e w7 ⟨v199,rfl,ho0,hi,hb,hk⟩;have n0_:=zad (zby ho0 (keep_size (w:=w) (g:=g) (row:=none) (taaf)));have n1_:=zad (zbw (taaf) hk (.inl rfl));have n2_:=zad (hb);have n3_:=zad (hi);clear HK HB HI0;have HO200:=n0_;have HK:=n1_;have HB:=n2_;have HI0:=n3_;clear n0_ n1_ n2_ n3_;(try clear hb);(try clear hb2);(try clear hk);(try clear hi);(try clear ho0)) | (go_at_call 55;(with_reducible refine (spec_l1Cur_one.calls g s0_0 t201 t202 8 true t204 t205 w0 _ ?side1 ?side2 A4.out).mono ?_);(case side1=>repeat (first | (with_reducible first | exact HI0.out | apply zcg | apply zch | apply zci | apply zcl | apply zcm) | exact HI0.out));(case side2=>repeat (first | (with_reducible first | exact HB.out | apply zag | apply zae | apply zaf | refine zah ?_ (zck HI0.out)) | exact HB.out));rintro e w8 ⟨rfl,hi,hb,hk⟩;have n0_:=zad (zbu (zbv (zcj (show IsS45 w0 _ g s0_0 t201 t202 from by exact tahp) (taao) (by decide)) hk (fun _ h=>h.2)) (fun _ h=>h.1));have n1_:=zad (zbw (taaf) hk (.inl rfl));have n2_:=zad (hb);have n3_:=zad (hi);clear HO200 HK HB HI0;have HO200:=n0_;have HK:=n1_;have HB:=n2_;have HI0:=n3_;clear n0_ n1_ n2_ n3_;(try clear hb);(try clear hb2);(try clear hk);(try clear hi)) | (go_at_call 56;(with_reducible refine (spec_l1Cur_fitting.calls k g s0_0 t204 t205 a1 t206 t209 t212 t213 w0 _ ?side1 ?side2 A6.out).mono ?_);(case side1=>repeat (first | (with_reducible first | exact HI0.out | apply zcg | apply zch | apply zci | apply zcl | apply zcm) | exact HI0.out));(case side2=>repeat (first | (with_reducible first | exact HB.out | apply zag | apply zae | apply zaf | refine zah ?_ (zck HI0.out)) | exact HB.out));rintro e w9 ⟨v207,v210,rfl,ho0,ho1,hi,hb,hk⟩;have n0_:=zad (zbu (Kd.R_told (Kd.R_told (Kd.R_oldK (zcj (show IsS45 w0 _ g s0_0 t204 t205 from by exact tahp) (taao) (by decide)) hk) (zcd ho0)) (zcd ho1)) (fun _ h_=>h_.1));have n1_:=zad (zby (zcc ho0 (zce (taao))) (keep_size (w:=w) (g:=g) (row:=none) (taaf)));have n2_:=zad (zby (zcc ho1 (zce (taao))) (keep_size (w:=w) (g:=g) (row:=none) (taaf)));have n3_:=zad (zbw (taaf) hk (.inl rfl));have n4_:=zad (hb);have n5_:=zad (hi);clear HO200 HK HB HI0;have HO200:=n0_;have HO208:=n1_;have HO211:=n2_;have HK:=n3_;have HB:=n4_;have HI0:=n5_;clear n0_ n1_ n2_ n3_ n4_ n5_;(try clear hb);(try clear hb2);(try clear hk);(try clear hi);(try clear ho0);(try clear ho1)));try go_wp2_with (first | (go_at_call 54;(with_reducible refine (spec_l1Cur_list.calls k g s0_0 s0_1 s0_2 a1 t198 t201 t202 w0 _ ?side1 ?side2 A3.out).mono ?_);(case side1=>repeat (first | (with_reducible first | exact HI0.out | apply zcg | apply zch | apply zci | apply zcl | apply zcm) | exact HI0.out));(case side2=>repeat (first | (with_reducible first | exact HB.out | apply zag | apply zae | apply zaf | refine zah ?_ (zck HI0.out)) | exact HB.out));rintro e w7 ⟨v199,rfl,ho0,hi,hb,hk⟩;have n0_:=zad (zby ho0 (keep_size (w:=w) (g:=g) (row:=none) (taaf)));have n1_:=zad (zbw (taaf) hk (.inl rfl));have n2_:=zad (hb);have n3_:=zad (hi);clear HK HB HI0;have HO200:=n0_;have HK:=n1_;have HB:=n2_;have HI0:=n3_;clear n0_ n1_ n2_ n3_;(try clear hb);(try clear hb2);(try clear hk);(try clear hi);(try clear ho0)) | (go_at_call 55;(with_reducible refine (spec_l1Cur_one.calls g s0_0 t201 t202 8 true t204 t205 w0 _ ?side1 ?side2 A4.out).mono ?_);(case side1=>repeat (first | (with_reducible first | exact HI0.out | apply zcg | apply zch | apply zci | apply zcl | apply zcm) | exact HI0.out));(case side2=>repeat (first | (with_reducible first | exact HB.out | apply zag | apply zae | apply zaf | refine zah ?_ (zck HI0.out)) | exact HB.out));rintro e w8 ⟨rfl,hi,hb,hk⟩;have n0_:=zad (zbu (zbv (zcj (show IsS45 w0 _ g s0_0 t201 t202 from by exact tahp) (taao) (by decide)) hk (fun _ h=>h.2)) (fun _ h=>h.1));have n1_:=zad (zbw (taaf) hk (.inl rfl));have n2_:=zad (hb);have n3_:=zad (hi);clear HO200 HK HB HI0;have HO200:=n0_;have HK:=n1_;have HB:=n2_;have HI0:=n3_;clear n0_ n1_ n2_ n3_;(try clear hb);(try clear hb2);(try clear hk);(try clear hi)) | (go_at_call 56;(with_reducible refine (spec_l1Cur_fitting.calls k g s0_0 t204 t205 a1 t206 t209 t212 t213 w0 _ ?side1 ?side2 A6.out).mono ?_);(case side1=>repeat (first | (with_reducible first | exact HI0.out | apply zcg | apply zch | apply zci | apply zcl | apply zcm) | exact HI0.out));(case side2=>repeat (first | (with_reducible first | exact HB.out | apply zag | apply zae | apply zaf | refine zah ?_ (zck HI0.out)) | exact HB.out));rintro e w9 ⟨v207,v210,rfl,ho0,ho1,hi,hb,hk⟩;have n0_:=zad (zbu (Kd.R_told (Kd.R_told (Kd.R_oldK (zcj (show IsS45 w0 _ g s0_0 t204 t205 from by exact tahp) (taao) (by decide)) hk) (zcd ho0)) (zcd ho1)) (fun _ h_=>h_.1));have n1_:=zad (zby (zcc ho0 (zce (taao))) (keep_size (w:=w) (g:=g) (row:=none) (taaf)));have n2_:=zad (zby (zcc ho1 (zce (taao))) (keep_size (w:=w) (g:=g) (row:=none) (taaf)));have n3_:=zad (zbw (taaf) hk (.inl rfl));have n4_:=zad (hb);have n5_:=zad (hi);clear HO200 HK HB HI0;have HO200:=n0_;have HO208:=n1_;have HO211:=n2_;have HK:=n3_;have HB:=n4_;have HI0:=n5_;clear n0_ n1_ n2_ n3_ n4_ n5_;(try clear hb);(try clear hb2);(try clear hk);(try clear hi);(try clear ho0);(try clear ho1))))
  go_ret2
  exact ⟨_,_,taah,by (with_reducible repeat (first | apply zai | apply zaj | apply zak));exact zbu HO208.out (fun _ hk=>hk.1),by (with_reducible repeat (first | apply zai | apply zaj | apply zak));exact zbu HO211.out (fun _ hk=>hk.1),taag,taam,taaf⟩
 ·replace c5:=zbk.mpr c5
  subst c5;have H1:((spec_l1Own.f t198).bind fun t214=>((spec_l1Cur_pick.f s0_0 t204 t205 9).bind fun bt217=>(spec_l1Cur_majorized.l0 k t198 t214 bt217.1 s0_0 bt217.2.1 bt217.2.2)))=some (r1,r2,r3,r4):=by rw [if_neg (show ¬ (false=true) by decide)] at H;exact H
  clear H;have H:=H1;clear H1;replace H:=zay.mp H;obtain ⟨t214,A100,H⟩:=H;replace H:((spec_l1Cur_pick.f s0_0 t204 t205 9).bind fun bt217=>(spec_l1Cur_majorized.l0 k t198 t214 bt217.1 s0_0 bt217.2.1 bt217.2.2))=some (r1,r2,r3,r4):=H;have A10:=zad A100;clear A100;replace H:=zay.mp H;obtain ⟨⟨t217,t218,t219⟩,A110,H⟩:=H;replace H:(spec_l1Cur_majorized.l0 k t198 t214 t217 s0_0 t218 t219)=some (r1,r2,r3,r4):=H;have A11:=zad A110;clear A110;have H':=zad H;clear H;go_enter Tryz.func19,Tryz.ntmps19;go_wp2_with (first | (go_at_call 54;(with_reducible refine (spec_l1Cur_list.calls k g s0_0 s0_1 s0_2 a1 t198 t201 t202 w0 _ ?side1 ?side2 A3.out).mono ?_);(case side1=>exact tahs);(case side2=>exact taht);rintro e w12 ⟨v199,rfl,ho0,hi,hb,hk⟩;have n0_:=zad (zby ho0 (keep_size (w:=w) (g:=g) (row:=none) (taaf)));have n1_:=zad (zbw (taaf) hk (.inl rfl));have n2_:=zad (hb);have n3_:=zad (hi);clear HK HB HI0;have HO200:=n0_;have HK:=n1_;have HB:=n2_;have HI0:=n3_;clear n0_ n1_ n2_ n3_;(try clear hb);(try clear hb2);(try clear hk);(try clear hi);(try clear ho0)) | (go_at_call 55;(with_reducible refine (spec_l1Cur_one.calls g s0_0 t201 t202 8 false t204 t205 w0 _ ?side1 ?side2 A4.out).mono ?_);(case side1=>exact tahs);(case side2=>exact taht);rintro e w13 ⟨rfl,hi,hb,hk⟩;have n0_:=zad (zbu (zbv (zcj (show IsS45 w0 _ g s0_0 t201 t202 from by exact tahp) (taao) (by decide)) hk (fun _ h=>h.2)) (fun _ h=>h.1));have n1_:=zad (zbw (taaf) hk (.inl rfl));have n2_:=zad (hb);have n3_:=zad (hi);clear HO200 HK HB HI0;have HO200:=n0_;have HK:=n1_;have HB:=n2_;have HI0:=n3_;clear n0_ n1_ n2_ n3_;(try clear hb);(try clear hb2);(try clear hk);(try clear hi);obtain ⟨Ao14,co14,eo14⟩:=zbz HO200.out;subst eo14) | (go_at_call 57;(with_reducible refine (spec_l1Own.calls _ _ t198 t214 _ ?side1 ?side2 A10.out).mono ?_);(case side1=>repeat (first | exact (zbh HO200.out).2.2 | (with_reducible refine zal ?_ _) | (with_reducible refine zam ?_ _) | (with_reducible refine zan ?_)));(case side2=>exact (zbh HO200.out).2.1);rintro e w15 ⟨v215,rfl,ho0,hb⟩;have n0_:=zad (zcb (taao) (zcd ho0) hb);have n1_:=zad (zby (zcc ho0 (zce (taao))) (keep_size (w:=w) (g:=g) (row:=none) (taaf)));have n2_:=zad (IsS45.below (taag) hb);have n3_:=zad (zbw (taaf) (KeepBut.of_below hb g none) (.inl rfl));have n4_:=zad (zbi (taam) hb);clear HO200 HI0 HK HB;have HO200:=n0_;have HO216:=n1_;have HI0:=n2_;have HK:=n3_;have HB:=n4_;clear n0_ n1_ n2_ n3_ n4_;(try clear hb);(try clear hb2);(try clear hk);(try clear hi);(try clear ho0)) | (go_at_call 58;(with_reducible refine (zcn g s0_0 t204 t205 9 t217 t218 t219 w0 _ ?side1 ?side2 A11.out).mono ?_);(case side1=>exact tahs);(case side2=>exact taht);rintro e w16 ⟨rfl,hi,hb,hk⟩;have n0_:=zad (zbu (zbv (zcj (show IsS45 w0 _ g s0_0 t204 t205 from by exact tahp) (taao) (by decide)) hk (fun _ h=>h.2)) (fun _ h=>h.1));have n1_:=zad (zbu (zbv (zcj (show IsS45 w0 _ g s0_0 t204 t205 from by exact tahp) (taeb) (by decide)) hk (fun _ h=>h.2)) (fun _ h=>h.1));have n2_:=zad (zbw (taaf) hk (.inl rfl));have n3_:=zad (hb);have n4_:=zad (hi);clear HO200 HO216 HK HB HI0;have HO200:=n0_;have HO216:=n1_;have HK:=n2_;have HB:=n3_;have HI0:=n4_;clear n0_ n1_ n2_ n3_ n4_;(try clear hb);(try clear hb2);(try clear hk);(try clear hi)))
  repeat (go_quiet (first | (go_at_call 54;(with_reducible refine (spec_l1Cur_list.calls k g s0_0 s0_1 s0_2 a1 t198 t201 t202 w0 _ ?side1 ?side2 A3.out).mono ?_);(case side1=>repeat (first | (with_reducible first | exact HI0.out | apply zcg | apply zch | apply zci | apply zcl | apply zcm) | exact HI0.out));(case side2=>repeat (first | (with_reducible first | exact HB.out | apply zag | apply zae | apply zaf | refine zah ?_ (zck HI0.out)) | exact HB.out));rintro e w12 ⟨v199,rfl,ho0,hi,hb,hk⟩;have n0_:=zad (zby ho0 (keep_size (w:=w) (g:=g) (row:=none) (taaf)));have n1_:=zad (zbw (taaf) hk (.inl rfl));have n2_:=zad (hb);have n3_:=zad (hi);clear HK HB HI0;have HO200:=n0_;have HK:=n1_;have HB:=n2_;have HI0:=n3_;clear n0_ n1_ n2_ n3_;(try clear hb);(try clear hb2);(try clear hk);(try clear hi);(try clear ho0)) | (go_at_call 55;(with_reducible refine (spec_l1Cur_one.calls g s0_0 t201 t202 8 false t204 t205 w0 _ ?side1 ?side2 A4.out).mono ?_);(case side1=>repeat (first | (with_reducible first | exact HI0.out | apply zcg | apply zch | apply zci | apply zcl | apply zcm) | exact HI0.out));(case side2=>repeat (first | (with_reducible first | exact HB.out | apply zag | apply zae | apply zaf | refine zah ?_ (zck HI0.out)) | exact HB.out));rintro e w13 ⟨rfl,hi,hb,hk⟩;have n0_:=zad (zbu (zbv (zcj (show IsS45 w0 _ g s0_0 t201 t202 from by exact tahp) (taao) (by decide)) hk (fun _ h=>h.2)) (fun _ h=>h.1));have n1_:=zad (zbw (taaf) hk (.inl rfl));have n2_:=zad (hb);have n3_:=zad (hi);clear HO200 HK HB HI0;have HO200:=n0_;have HK:=n1_;have HB:=n2_;have HI0:=n3_;clear n0_ n1_ n2_ n3_;(try clear hb);(try clear hb2);(try clear hk);(try clear hi);obtain ⟨Ao14,co14,eo14⟩:=zbz HO200.out;subst eo14) | (go_at_call 57;(with_reducible refine (spec_l1Own.calls _ _ t198 t214 _ ?side1 ?side2 A10.out).mono ?_);(case side1=>repeat (first | exact (zbh HO200.out).2.2 | (with_reducible refine zal ?_ _) | (with_reducible refine zam ?_ _) | (with_reducible refine zan ?_)));(case side2=>exact (zbh HO200.out).2.1);rintro e w15 ⟨v215,rfl,ho0,hb⟩;have n0_:=zad (zcb (taao) (zcd ho0) hb);have n1_:=zad (zby (zcc ho0 (zce (taao))) (keep_size (w:=w) (g:=g) (row:=none) (taaf)));have n2_:=zad (IsS45.below (taag) hb);have n3_:=zad (zbw (taaf) (KeepBut.of_below hb g none) (.inl rfl));have n4_:=zad (zbi (taam) hb);clear HO200 HI0 HK HB;have HO200:=n0_;have HO216:=n1_;have HI0:=n2_;have HK:=n3_;have HB:=n4_;clear n0_ n1_ n2_ n3_ n4_;(try clear hb);(try clear hb2);(try clear hk);(try clear hi);(try clear ho0)) | (go_at_call 58;(with_reducible refine (zcn g s0_0 t204 t205 9 t217 t218 t219 w0 _ ?side1 ?side2 A11.out).mono ?_);(case side1=>repeat (first | (with_reducible first | exact HI0.out | apply zcg | apply zch | apply zci | apply zcl | apply zcm) | exact HI0.out));(case side2=>repeat (first | (with_reducible first | exact HB.out | apply zag | apply zae | apply zaf | refine zah ?_ (zck HI0.out)) | exact HB.out));rintro e w16 ⟨rfl,hi,hb,hk⟩;have n0_:=zad (zbu (zbv (zcj (show IsS45 w0 _ g s0_0 t204 t205 from by exact tahp) (taao) (by decide)) hk (fun _ h=>h.2)) (fun _ h=>h.1));have n1_:=zad (zbu (zbv (zcj (show IsS45 w0 _ g s0_0 t204 t205 from by exact tahp) (taeb) (by decide)) hk (fun _ h=>h.2)) (fun _ h=>h.1));have n2_:=zad (zbw (taaf) hk (.inl rfl));have n3_:=zad (hb);have n4_:=zad (hi);clear HO200 HO216 HK HB HI0;have HO200:=n0_;have HO216:=n1_;have HK:=n2_;have HB:=n3_;have HI0:=n4_;clear n0_ n1_ n2_ n3_ n4_;(try clear hb);(try clear hb2);(try clear hk);(try clear hi)));try go_wp2_with (first | (go_at_call 54;(with_reducible refine (spec_l1Cur_list.calls k g s0_0 s0_1 s0_2 a1 t198 t201 t202 w0 _ ?side1 ?side2 A3.out).mono ?_);(case side1=>repeat (first | (with_reducible first | exact HI0.out | apply zcg | apply zch | apply zci | apply zcl | apply zcm) | exact HI0.out));(case side2=>repeat (first | (with_reducible first | exact HB.out | apply zag | apply zae | apply zaf | refine zah ?_ (zck HI0.out)) | exact HB.out));rintro e w12 ⟨v199,rfl,ho0,hi,hb,hk⟩;have n0_:=zad (zby ho0 (keep_size (w:=w) (g:=g) (row:=none) (taaf)));have n1_:=zad (zbw (taaf) hk (.inl rfl));have n2_:=zad (hb);have n3_:=zad (hi);clear HK HB HI0;have HO200:=n0_;have HK:=n1_;have HB:=n2_;have HI0:=n3_;clear n0_ n1_ n2_ n3_;(try clear hb);(try clear hb2);(try clear hk);(try clear hi);(try clear ho0)) | (go_at_call 55;(with_reducible refine (spec_l1Cur_one.calls g s0_0 t201 t202 8 false t204 t205 w0 _ ?side1 ?side2 A4.out).mono ?_);(case side1=>repeat (first | (with_reducible first | exact HI0.out | apply zcg | apply zch | apply zci | apply zcl | apply zcm) | exact HI0.out));(case side2=>repeat (first | (with_reducible first | exact HB.out | apply zag | apply zae | apply zaf | refine zah ?_ (zck HI0.out)) | exact HB.out));rintro e w13 ⟨rfl,hi,hb,hk⟩;have n0_:=zad (zbu (zbv (zcj (show IsS45 w0 _ g s0_0 t201 t202 from by exact tahp) (taao) (by decide)) hk (fun _ h=>h.2)) (fun _ h=>h.1));have n1_:=zad (zbw (taaf) hk (.inl rfl));have n2_:=zad (hb);have n3_:=zad (hi);clear HO200 HK HB HI0;have HO200:=n0_;have HK:=n1_;have HB:=n2_;have HI0:=n3_;clear n0_ n1_ n2_ n3_;(try clear hb);(try clear hb2);(try clear hk);(try clear hi);obtain ⟨Ao14,co14,eo14⟩:=zbz HO200.out;subst eo14) | (go_at_call 57;(with_reducible refine (spec_l1Own.calls _ _ t198 t214 _ ?side1 ?side2 A10.out).mono ?_);(case side1=>repeat (first | exact (zbh HO200.out).2.2 | (with_reducible refine zal ?_ _) | (with_reducible refine zam ?_ _) | (with_reducible refine zan ?_)));(case side2=>exact (zbh HO200.out).2.1);rintro e w15 ⟨v215,rfl,ho0,hb⟩;have n0_:=zad (zcb (taao) (zcd ho0) hb);have n1_:=zad (zby (zcc ho0 (zce (taao))) (keep_size (w:=w) (g:=g) (row:=none) (taaf)));have n2_:=zad (IsS45.below (taag) hb);have n3_:=zad (zbw (taaf) (KeepBut.of_below hb g none) (.inl rfl));have n4_:=zad (zbi (taam) hb);clear HO200 HI0 HK HB;have HO200:=n0_;have HO216:=n1_;have HI0:=n2_;have HK:=n3_;have HB:=n4_;clear n0_ n1_ n2_ n3_ n4_;(try clear hb);(try clear hb2);(try clear hk);(try clear hi);(try clear ho0)) | (go_at_call 58;(with_reducible refine (zcn g s0_0 t204 t205 9 t217 t218 t219 w0 _ ?side1 ?side2 A11.out).mono ?_);(case side1=>repeat (first | (with_reducible first | exact HI0.out | apply zcg | apply zch | apply zci | apply zcl | apply zcm) | exact HI0.out));(case side2=>repeat (first | (with_reducible first | exact HB.out | apply zag | apply zae | apply zaf | refine zah ?_ (zck HI0.out)) | exact HB.out));rintro e w16 ⟨rfl,hi,hb,hk⟩;have n0_:=zad (zbu (zbv (zcj (show IsS45 w0 _ g s0_0 t204 t205 from by exact tahp) (taao) (by decide)) hk (fun _ h=>h.2)) (fun _ h=>h.1));have n1_:=zad (zbu (zbv (zcj (show IsS45 w0 _ g s0_0 t204 t205 from by exact tahp) (taeb) (by decide)) hk (fun _ h=>h.2)) (fun _ h=>h.1));have n2_:=zad (zbw (taaf) hk (.inl rfl));have n3_:=zad (hb);have n4_:=zad (hi);clear HO200 HO216 HK HB HI0;have HO200:=n0_;have HO216:=n1_;have HK:=n2_;have HB:=n3_;have HI0:=n4_;clear n0_ n1_ n2_ n3_ n4_;(try clear hb);(try clear hb2);(try clear hk);(try clear hi))))
  go_loopg [8] k (fun kq v8 w'=>∃ (x7_1:List Int) (x8_1:Int) (x1001_1:Int) (x1002_1:Int),v8 = .int .i64 x8_1∧Aside0 (spec_l1Cur_majorized.l0 kq t198 x7_1 x8_1 s0_0 x1001_1 x1002_1=some (r1,r2,r3,r4))∧Aside0 (kq≤k)∧Aside0 (Kd.R (Kd.int .i64) 3 w' w.heap.size (fun k_=>some k_≠(v215:Value).ownBlock) (.slice Ao14 t198.length co14) t198)∧Aside0 (Kd.R (Kd.int .i64) 3 w' w.heap.size (fun k_=>some k_≠((.slice Ao14 t198.length co14):Value).ownBlock) v215 x7_1)∧Aside0 (IsS45 w0 w' g s0_0 x1001_1 x1002_1)∧Aside0 (KeepBut w w' g none)∧Aside0 (Below w0.heap.size w0 w'))
  case atStart=>exact ⟨(t214),(t217),(t218),(t219),(taae),H',⟨zcf _⟩,⟨by (with_reducible repeat (first | apply zai | apply zaj | apply zak));exact zbu HO200.out (fun _ hk=>hk.2)⟩,⟨by (with_reducible repeat (first | apply zai | apply zaj | apply zak));exact zbu HO216.out (fun _ hk=>hk.2)⟩,⟨taag⟩,⟨taaf⟩,⟨taam⟩⟩
  case round =>
   clear H';try clear c1
   try clear p2
   try clear c5
   obtain ⟨x7_1,x8_1,x1001_1,x1002_1,rfl,HA,HK1,HO_6,HO_7,HI0,HK,HB⟩:=hrel;cases gk with
   | zero=>exact absurd HA.out (by simp [spec_l1Cur_majorized.l0])
   | succ k1 =>
    have H:=HA.out;clear HA;simp only [spec_l1Cur_majorized.l0] at H;have HC17:=zad H;clear H;go_upto_region 6 with (fail)
    repeat (go_quiet (fail);go_upto_region 6 with (fail))
    go_cut [31] (fun v31 wc=>∃ (kq:Nat) (x31_16:Bool),v31 = .bool x31_16∧Aside0 (spec_l1Cur_majorized.j1 kq t198 x7_1 x8_1 x31_16 s0_0 x1001_1 x1002_1=some (r1,r2,r3,r4))∧Aside0 (kq≤k1)∧Aside0 (Kd.R (Kd.int .i64) 3 wc w.heap.size (fun k_=>some k_≠(v215:Value).ownBlock) (.slice Ao14 t198.length co14) t198)∧Aside0 (Kd.R (Kd.int .i64) 3 wc w.heap.size (fun k_=>some k_≠((.slice Ao14 t198.length co14):Value).ownBlock) v215 x7_1)∧Aside0 (IsS45 w0 wc g s0_0 x1001_1 x1002_1)∧Aside0 (KeepBut w wc g none)∧Aside0 (Below w0.heap.size w0 wc))
    case first =>
     have H:=HC17.out;clear HC17;by_cases c18:x8_1>0
     ·rw [if_pos c18] at H
      have c18b0:decide (0<x8_1)=true:=zba c18;clear c18;(first | rw [c18b0] | (simp only [i64_w,i32_w];rw [c18b0]) | skip)
      have H':=zad H;clear H;obtain ⟨Ao19,co19,eo19⟩:=zbz HO_7.out;subst eo19;go_wp2
      repeat (go_quiet (fail);try go_wp2)
      go_meet
      case rel=>exact ⟨_,(decide ((x7_1.length:Int)>1)),(taae),H',⟨tabl⟩,⟨taai⟩,⟨taaj⟩,⟨taag⟩,⟨taaf⟩,⟨taam⟩⟩
     ·rw [if_neg c18] at H
      have c18b0:decide (0<x8_1)=false:=zbl c18;clear c18;(first | rw [c18b0] | (simp only [i64_w,i32_w];rw [c18b0]) | skip)
      have H':=zad H;clear H;go_wp2
      repeat (go_quiet (fail);try go_wp2)
      go_meet
      case rel=>exact ⟨_,(false),(taae),H',⟨tabl⟩,⟨taai⟩,⟨taaj⟩,⟨taag⟩,⟨taaf⟩,⟨taam⟩⟩
    case rest =>
     clear HC17;try clear c1
     try clear p2
     try clear c5
     try clear c18
     try clear c18b0
     try clear c19
     try clear p2
     obtain ⟨kq,x31_16,rfl,HA,HJ16,HO_6,HO_7,HI0,HK,HB⟩:=hcut;cases kq with
     | zero=>exact absurd HA.out (by simp [spec_l1Cur_majorized.j1])
     | succ kj16 =>
      have H:=HA.out;clear HA;simp only [spec_l1Cur_majorized.j1] at H;by_cases c20:x31_16=true
      ·subst c20
       have H1:((spec_l1Cur_pick.f s0_0 x1001_1 x1002_1 (x7_1.length:Int)).bind fun bt220=>((spec_l1Cur_pick.f s0_0 bt220.2.1 bt220.2.2 (x7_1.length:Int)).bind fun bt223=>(if 0≤bt220.1 then (if bt220.1<(x7_1.length:Int) then (if 0≤bt223.1 then (if bt223.1<(x7_1.length:Int) then (if (rd x7_1 bt220.1)≥(wrap64 ((rd x7_1 bt223.1)+2)) then ((some (x7_1.set (bt220.1:Int).toNat (wrap64 ((rd x7_1 bt220.1) - 1)):List Int)).bind fun y229=>(spec_l1Cur_majorized.l0 kj16 t198 (y229.set (bt223.1:Int).toNat (wrap64 ((rd y229 bt223.1)+1))) (wrap64 (x8_1 - 1)) s0_0 bt223.2.1 bt223.2.2)) else (spec_l1Cur_majorized.l0 kj16 t198 x7_1 (wrap64 (x8_1 - 1)) s0_0 bt223.2.1 bt223.2.2)) else (none)) else (none)) else (none)) else (none))))=some (r1,r2,r3,r4):=by rw [if_pos rfl] at H;exact H
       clear H;have H:=H1;clear H1;replace H:=zay.mp H;obtain ⟨⟨t220,t221,t222⟩,A210,H⟩:=H;replace H:((spec_l1Cur_pick.f s0_0 t221 t222 (x7_1.length:Int)).bind fun bt223=>(if 0≤t220 then (if t220<(x7_1.length:Int) then (if 0≤bt223.1 then (if bt223.1<(x7_1.length:Int) then (if (rd x7_1 t220)≥(wrap64 ((rd x7_1 bt223.1)+2)) then ((some (x7_1.set (t220:Int).toNat (wrap64 ((rd x7_1 t220) - 1)):List Int)).bind fun y229=>(spec_l1Cur_majorized.l0 kj16 t198 (y229.set (bt223.1:Int).toNat (wrap64 ((rd y229 bt223.1)+1))) (wrap64 (x8_1 - 1)) s0_0 bt223.2.1 bt223.2.2)) else (spec_l1Cur_majorized.l0 kj16 t198 x7_1 (wrap64 (x8_1 - 1)) s0_0 bt223.2.1 bt223.2.2)) else (none)) else (none)) else (none)) else (none)))=some (r1,r2,r3,r4):=H;have A21:=zad A210;clear A210;replace H:=zay.mp H;obtain ⟨⟨t223,t224,t225⟩,A220,H⟩:=H;replace H:(if 0≤t220 then (if t220<(x7_1.length:Int) then (if 0≤t223 then (if t223<(x7_1.length:Int) then (if (rd x7_1 t220)≥(wrap64 ((rd x7_1 t223)+2)) then ((some (x7_1.set (t220:Int).toNat (wrap64 ((rd x7_1 t220) - 1)):List Int)).bind fun y229=>(spec_l1Cur_majorized.l0 kj16 t198 (y229.set (t223:Int).toNat (wrap64 ((rd y229 t223)+1))) (wrap64 (x8_1 - 1)) s0_0 t224 t225)) else (spec_l1Cur_majorized.l0 kj16 t198 x7_1 (wrap64 (x8_1 - 1)) s0_0 t224 t225)) else (none)) else (none)) else (none)) else (none))=some (r1,r2,r3,r4):=H;have A22:=zad A220;clear A220;by_cases c23:0≤t220
       ·rw [if_pos c23] at H
        have c23b0:decide (0≤t220)=true:=zba c23;clear c23;by_cases c24:t220<(x7_1.length:Int)
        ·rw [if_pos c24] at H
         have c24b0:decide (t220<(x7_1.length:Int))=true:=zba c24;clear c24;by_cases c25:0≤t223
         ·rw [if_pos c25] at H
          have c25b0:decide (0≤t223)=true:=zba c25;clear c25;by_cases c26:t223<(x7_1.length:Int)
          ·rw [if_pos c26] at H
           have c26b0:decide (t223<(x7_1.length:Int))=true:=zba c26;clear c26;by_cases c27:(rd x7_1 t220)≥(wrap64 ((rd x7_1 t223)+2))
           ·rw [if_pos c27] at H
            have c27b0:decide ((wrap64 ((rd x7_1 t223)+2))≤(rd x7_1 t220))=true:=zba c27;clear c27;obtain ⟨y229,hy229⟩:∃ y_:List Int,y_=(x7_1.set (t220:Int).toNat (wrap64 ((rd x7_1 t220) - 1))):=⟨_,rfl⟩;replace H:(spec_l1Cur_majorized.l0 kj16 t198 (y229.set (t223:Int).toNat (wrap64 ((rd y229 t223)+1))) (wrap64 (x8_1 - 1)) s0_0 t224 t225)=some (r1,r2,r3,r4):=by first | (rw [hy229];with_reducible exact H) | (have H2_:=(zbf _ _).symm.trans H;rw [hy229];with_reducible exact H2_) | (have H2_:=(zbf _ _).symm.trans H;with_reducible exact H2_) | with_reducible exact H | (rw [hy229];exact H) | exact H
            have Ny229:=zad hy229;clear hy229;obtain ⟨y231,hy231⟩:∃ y_:List Int,y_=(y229.set (t223:Int).toNat (wrap64 ((rd y229 t223)+1))):=⟨_,rfl⟩;replace H:(spec_l1Cur_majorized.l0 kj16 t198 y231 (wrap64 (x8_1 - 1)) s0_0 t224 t225)=some (r1,r2,r3,r4):=by first | (rw [hy231];with_reducible exact H) | (have H2_:=(zbf _ _).symm.trans H;rw [hy231];with_reducible exact H2_) | (have H2_:=(zbf _ _).symm.trans H;with_reducible exact H2_) | with_reducible exact H | (rw [hy231];exact H) | exact H
            have Ny231:=zad hy231;clear hy231;have H':=zad H;clear H;obtain ⟨Ao30,co30,eo30⟩:=zbz HO_7.out;subst eo30;go_wp2_with (first | (go_at_call 58;(with_reducible refine (zcn g s0_0 x1001_1 x1002_1 (x7_1.length:Int) t220 t221 t222 w0 _ ?side1 ?side2 A21.out).mono ?_);(case side1=>repeat (first | (with_reducible first | exact HI0.out | apply zcg | apply zch | apply zci | apply zcl | apply zcm) | exact HI0.out));(case side2=>repeat (first | (with_reducible first | exact HB.out | apply zag | apply zae | apply zaf | refine zah ?_ (zck HI0.out)) | exact HB.out));rintro e w31 ⟨rfl,hi,hb,hk⟩;have n0_:=zad (zbu (zbv (zcj (show IsS45 w0 _ g s0_0 x1001_1 x1002_1 from by exact tahp) (taai) (by decide)) hk (fun _ h=>h.2)) (fun _ h=>h.1));have n1_:=zad (zbu (zbv (zcj (show IsS45 w0 _ g s0_0 x1001_1 x1002_1 from by exact tahp) (taaj) (by decide)) hk (fun _ h=>h.2)) (fun _ h=>h.1));have n2_:=zad (zbw (taaf) hk (.inl rfl));have n3_:=zad (hb);have n4_:=zad (hi);clear HO_6 HO_7 HK HB HI0;have HO_6:=n0_;have HO_7:=n1_;have HK:=n2_;have HB:=n3_;have HI0:=n4_;clear n0_ n1_ n2_ n3_ n4_;(try clear hb);(try clear hb2);(try clear hk);(try clear hi)) | (go_at_call 58;(with_reducible refine (zcn g s0_0 t221 t222 (x7_1.length:Int) t223 t224 t225 w0 _ ?side1 ?side2 A22.out).mono ?_);(case side1=>repeat (first | (with_reducible first | exact HI0.out | apply zcg | apply zch | apply zci | apply zcl | apply zcm) | exact HI0.out));(case side2=>repeat (first | (with_reducible first | exact HB.out | apply zag | apply zae | apply zaf | refine zah ?_ (zck HI0.out)) | exact HB.out));rintro e w32 ⟨rfl,hi,hb,hk⟩;have n0_:=zad (zbu (zbv (zcj (show IsS45 w0 _ g s0_0 t221 t222 from by exact tahp) (taai) (by decide)) hk (fun _ h=>h.2)) (fun _ h=>h.1));have n1_:=zad (zbu (zbv (zcj (show IsS45 w0 _ g s0_0 t221 t222 from by exact tahp) (taaj) (by decide)) hk (fun _ h=>h.2)) (fun _ h=>h.1));have n2_:=zad (zbw (taaf) hk (.inl rfl));have n3_:=zad (hb);have n4_:=zad (hi);clear HO_6 HO_7 HK HB HI0;have HO_6:=n0_;have HO_7:=n1_;have HK:=n2_;have HB:=n3_;have HI0:=n4_;clear n0_ n1_ n2_ n3_ n4_;(try clear hb);(try clear hb2);(try clear hk);(try clear hi);have p226:0≤(t220:Int):=zas (taab);have q226:t220<(x7_1.length:Int):=zas (taab);obtain ⟨ad226,e226,hx226_0⟩:=zca (zbh HO_7.out).2.2 t220 p226 q226;cases e226;replace p226:=eq_true p226;replace q226:=eq_true q226;have p227:0≤(t223:Int):=zas (taab);have q227:t223<(x7_1.length:Int):=zas (taab);obtain ⟨ad227,e227,hx227_0⟩:=zca (zbh HO_7.out).2.2 t223 p227 q227;obtain rfl:ad226=ad227:=(by injection e227);replace p227:=eq_true p227;replace q227:=eq_true q227;have p228:0≤(t220:Int):=zas (taab);have q228:t220<(x7_1.length:Int):=zas (taab);obtain ⟨ad228,e228,hx228_0⟩:=zca (zbh HO_7.out).2.2 t220 p228 q228;obtain rfl:ad226=ad228:=(by injection e228);replace p228:=eq_true p228;replace q228:=eq_true q228;have p28:0≤(t220:Int):=zas (taab);have q28:(t220:Int)<((x7_1.length:Int):Int):=zas (taab);obtain ⟨go28,co28,eo28,gb28,gl28,cl28,HG28⟩:=Kd.R_form HO_7.out (by omega);(first | cases eo28 | (injection eo28 with ea_ en_ ec_;(first | subst ea_ | (injection ea_ with ea_;subst ea_));subst ec_;clear en_));have GB28:=zad gb28;have GG28:=zad HG28;clear gb28 gl28 HG28;(first | simp only [add_plain] at hx226_0 | skip);(first | simp only [add_plain] at hx227_0 | skip);(first | simp only [add_plain] at hx228_0 | skip);obtain ⟨hx28_0,hf28_0⟩:=Kd.R_celln 0 HO_7.out (t220:Int) p28 q28;replace p28:=eq_true p28;replace q28:=eq_true q28;obtain ⟨hy33_,hz33_⟩:=Kd.R_celln 0 HO_7.out (t220:Int) (zas (taab)) (zas (taab));have HP33:=Kd.R_putg HO_7.out (t220:Int) (wrap64 ((rd x7_1 t220) - 1))) | ((with_reducible refine gate_store (t:=3) (p:=57) rfl ?_);(try (rw [drewN_self w32];generalize hq_:World.drewN w32 _=w32;have n0_:=zad (Kd.R_at hq_ HO_6.out);have n1_:=zad (Kd.R_at hq_ HO_7.out);have n2_:=zad (IsS45.at_ hq_ HI0.out);have n3_:=zad (keep_at hq_ HK.out);have n4_:=zad (below_at hq_ HB.out);clear hq_ HO_6 HO_7 HI0 HK HB;have HO_6:=n0_;have HO_7:=n1_;have HI0:=n2_;have HK:=n3_;have HB:=n4_;clear n0_ n1_ n2_ n3_ n4_;(try (obtain ⟨hy33_,hz33_⟩:=Kd.R_celln 0 HO_7.out (t220:Int) (zas (taab)) (zas (taab))));(try (have HP33:=Kd.R_putg HO_7.out (t220:Int) (wrap64 ((rd x7_1 t220) - 1))))));refine store_event (t:=3) (p:=57) (v := ?vo_w34) (w1:=(w32.setCell ⟨go28,(t220:Int).toNat,none⟩ (.int .i64 (wrap64 ((rd x7_1 t220) - 1))))) ?hg ?ho ?hn ?hr ?_;(case ho=>rfl);(case hg=>rfl);(case hn=>rfl);(case hr=>first | (go_simp;done) | (go_simp;rfl));intro w34 hw;have hg:w32.grownBy w34 (some go28):=(by rw [hw];exact HP33.2);have hp_:Kd.R (Kd.int .i64) 3 w34 w.heap.size (fun k_=>some k_≠(.slice Ao14 t198.length co14:Value).ownBlock) (.slice (some ⟨go28,0,none⟩) x7_1.length co30) y229:=(taec);clear HP33;have n0_:=zad (Kd.R_after (v:=(.slice (some ⟨go28,0,none⟩) x7_1.length co30)) (v1:=(.slice (some ⟨go28,0,none⟩) x7_1.length co30)) (ok:=(fun _=>True)) (taco) hg (.inl rfl));have n1_:=zad (hp_);have n2_:=zad (IsS45.grown (taag) hg (IsS45.own_ne HI0.out HO_7.out (by decide)));have n3_:=zad ((by rw [hw];exact zah (HB.out) (Nat.le_trans HL.out GB28.out):Below w0.heap.size w0 w34));have n4_:=zad (zbw (taaf) (KeepBut.of_grown hg g) (Kd.R_base2 HO_7.out));clear HO_6 HO_7 HI0 HB HK;have HO_6:=n0_;have HO_7:=n1_;have HI0:=n2_;have HB:=n3_;have HK:=n4_;clear n0_ n1_ n2_ n3_ n4_ hg hw hp_;have p230:0≤(t223:Int):=zas (taab);have q230:t223<(y229.length:Int):=(by have h_:(t223:Int)<((x7_1.length:Int):Int):=zas (taab);first | (have e_:=(zbh HO_7.out).1;omega) | simpa only [Ny229.out,List.length_set] using h_);have ql230:((t223:Int)<((x7_1.length:Int):Int))=True:=eq_true (zas (taab));obtain ⟨ad230,e230,hx230_0⟩:=zca (zbh HO_7.out).2.2 t223 p230 q230;obtain rfl:(⟨go28,0,none⟩:Addr)=ad230:=(by injection e230);(first | simp only [add_plain] at hx230_0 | simp only [add_at] at hx230_0 | simp only [Addr.add,Nat.zero_add] at hx230_0 | skip);replace p230:=eq_true p230;replace q230:=eq_true q230;have p29:0≤(t223:Int):=zas (taab);have q29:(t223:Int)<((x7_1.length:Int):Int):=zas (taab);obtain ⟨hx29_0,hf29_0⟩:=Kd.R_celln 0 HO_7.out (t223:Int) p29 q29;replace p29:=eq_true p29;replace q29:=eq_true q29;obtain ⟨hy35_,hz35_⟩:=Kd.R_celln 0 HO_7.out (t223:Int) (zas (taab)) (zas (taab));have HP35:=Kd.R_putg HO_7.out (t223:Int) (wrap64 ((rd y229 t223)+1))) | ((with_reducible refine gate_store (t:=3) (p:=63) rfl ?_);(try (rw [drewN_self w34];generalize hq_:World.drewN w34 _=w34;have n0_:=zad (Kd.R_at hq_ HO_6.out);have n1_:=zad (Kd.R_at hq_ HO_7.out);have n2_:=zad (IsS45.at_ hq_ HI0.out);have n3_:=zad (keep_at hq_ HK.out);have n4_:=zad (below_at hq_ HB.out);clear hq_ HO_6 HO_7 HI0 HK HB;have HO_6:=n0_;have HO_7:=n1_;have HI0:=n2_;have HK:=n3_;have HB:=n4_;clear n0_ n1_ n2_ n3_ n4_;(try (obtain ⟨hy35_,hz35_⟩:=Kd.R_celln 0 HO_7.out (t223:Int) (zas (taab)) (zas (taab))));(try (have HP35:=Kd.R_putg HO_7.out (t223:Int) (wrap64 ((rd y229 t223)+1))))));refine store_event (t:=3) (p:=63) (v := ?vo_w36) (w1:=(w34.setCell ⟨go28,(t223:Int).toNat,none⟩ (.int .i64 (wrap64 ((rd y229 t223)+1))))) ?hg ?ho ?hn ?hr ?_;(case ho=>rfl);(case hg=>rfl);(case hn=>rfl);(case hr=>first | (go_simp;done) | (go_simp;rfl));intro w36 hw;have hg:w34.grownBy w36 (some go28):=(tadd);have hp_:Kd.R (Kd.int .i64) 3 w36 w.heap.size (fun k_=>some k_≠(.slice Ao14 t198.length co14:Value).ownBlock) (.slice (some ⟨go28,0,none⟩) x7_1.length co30) y231:=(taed);clear HP35;have n0_:=zad (Kd.R_after (v:=(.slice (some ⟨go28,0,none⟩) x7_1.length co30)) (v1:=(.slice (some ⟨go28,0,none⟩) x7_1.length co30)) (ok:=(fun _=>True)) (taai) hg (.inl rfl));have n1_:=zad (hp_);have n2_:=zad (IsS45.grown (taag) hg (IsS45.own_ne HI0.out HO_7.out (by decide)));have n3_:=zad ((by rw [hw];exact zah (HB.out) (Nat.le_trans HL.out GB28.out):Below w0.heap.size w0 w36));have n4_:=zad (zbw (taaf) (KeepBut.of_grown hg g) (Kd.R_base2 HO_7.out));clear HO_6 HO_7 HI0 HB HK;have HO_6:=n0_;have HO_7:=n1_;have HI0:=n2_;have HB:=n3_;have HK:=n4_;clear n0_ n1_ n2_ n3_ n4_ hg hw hp_))
            repeat (go_quiet (first | (go_at_call 58;(with_reducible refine (zcn g s0_0 x1001_1 x1002_1 (x7_1.length:Int) t220 t221 t222 w0 _ ?side1 ?side2 A21.out).mono ?_);(case side1=>repeat (first | (with_reducible first | exact HI0.out | apply zcg | apply zch | apply zci | apply zcl | apply zcm) | exact HI0.out));(case side2=>repeat (first | (with_reducible first | exact HB.out | apply zag | apply zae | apply zaf | refine zah ?_ (zck HI0.out)) | exact HB.out));rintro e w31 ⟨rfl,hi,hb,hk⟩;have n0_:=zad (zbu (zbv (zcj (show IsS45 w0 _ g s0_0 x1001_1 x1002_1 from by exact tahp) (taai) (by decide)) hk (fun _ h=>h.2)) (fun _ h=>h.1));have n1_:=zad (zbu (zbv (zcj (show IsS45 w0 _ g s0_0 x1001_1 x1002_1 from by exact tahp) (taaj) (by decide)) hk (fun _ h=>h.2)) (fun _ h=>h.1));have n2_:=zad (zbw (taaf) hk (.inl rfl));have n3_:=zad (hb);have n4_:=zad (hi);clear HO_6 HO_7 HK HB HI0;have HO_6:=n0_;have HO_7:=n1_;have HK:=n2_;have HB:=n3_;have HI0:=n4_;clear n0_ n1_ n2_ n3_ n4_;(try clear hb);(try clear hb2);(try clear hk);(try clear hi)) | (go_at_call 58;(with_reducible refine (zcn g s0_0 t221 t222 (x7_1.length:Int) t223 t224 t225 w0 _ ?side1 ?side2 A22.out).mono ?_);(case side1=>repeat (first | (with_reducible first | exact HI0.out | apply zcg | apply zch | apply zci | apply zcl | apply zcm) | exact HI0.out));(case side2=>repeat (first | (with_reducible first | exact HB.out | apply zag | apply zae | apply zaf | refine zah ?_ (zck HI0.out)) | exact HB.out));rintro e w32 ⟨rfl,hi,hb,hk⟩;have n0_:=zad (zbu (zbv (zcj (show IsS45 w0 _ g s0_0 t221 t222 from by exact tahp) (taai) (by decide)) hk (fun _ h=>h.2)) (fun _ h=>h.1));have n1_:=zad (zbu (zbv (zcj (show IsS45 w0 _ g s0_0 t221 t222 from by exact tahp) (taaj) (by decide)) hk (fun _ h=>h.2)) (fun _ h=>h.1));have n2_:=zad (zbw (taaf) hk (.inl rfl));have n3_:=zad (hb);have n4_:=zad (hi);clear HO_6 HO_7 HK HB HI0;have HO_6:=n0_;have HO_7:=n1_;have HK:=n2_;have HB:=n3_;have HI0:=n4_;clear n0_ n1_ n2_ n3_ n4_;(try clear hb);(try clear hb2);(try clear hk);(try clear hi);have p226:0≤(t220:Int):=zas (taab);have q226:t220<(x7_1.length:Int):=zas (taab);obtain ⟨ad226,e226,hx226_0⟩:=zca (zbh HO_7.out).2.2 t220 p226 q226;cases e226;replace p226:=eq_true p226;replace q226:=eq_true q226;have p227:0≤(t223:Int):=zas (taab);have q227:t223<(x7_1.length:Int):=zas (taab);obtain ⟨ad227,e227,hx227_0⟩:=zca (zbh HO_7.out).2.2 t223 p227 q227;obtain rfl:ad226=ad227:=(by injection e227);replace p227:=eq_true p227;replace q227:=eq_true q227;have p228:0≤(t220:Int):=zas (taab);have q228:t220<(x7_1.length:Int):=zas (taab);obtain ⟨ad228,e228,hx228_0⟩:=zca (zbh HO_7.out).2.2 t220 p228 q228;obtain rfl:ad226=ad228:=(by injection e228);replace p228:=eq_true p228;replace q228:=eq_true q228;have p28:0≤(t220:Int):=zas (taab);have q28:(t220:Int)<((x7_1.length:Int):Int):=zas (taab);obtain ⟨go28,co28,eo28,gb28,gl28,cl28,HG28⟩:=Kd.R_form HO_7.out (by omega);(first | cases eo28 | (injection eo28 with ea_ en_ ec_;(first | subst ea_ | (injection ea_ with ea_;subst ea_));subst ec_;clear en_));have GB28:=zad gb28;have GG28:=zad HG28;clear gb28 gl28 HG28;(first | simp only [add_plain] at hx226_0 | skip);(first | simp only [add_plain] at hx227_0 | skip);(first | simp only [add_plain] at hx228_0 | skip);obtain ⟨hx28_0,hf28_0⟩:=Kd.R_celln 0 HO_7.out (t220:Int) p28 q28;replace p28:=eq_true p28;replace q28:=eq_true q28;obtain ⟨hy33_,hz33_⟩:=Kd.R_celln 0 HO_7.out (t220:Int) (zas (taab)) (zas (taab));have HP33:=Kd.R_putg HO_7.out (t220:Int) (wrap64 ((rd x7_1 t220) - 1))) | ((with_reducible refine gate_store (t:=3) (p:=57) rfl ?_);(try (rw [drewN_self w32];generalize hq_:World.drewN w32 _=w32;have n0_:=zad (Kd.R_at hq_ HO_6.out);have n1_:=zad (Kd.R_at hq_ HO_7.out);have n2_:=zad (IsS45.at_ hq_ HI0.out);have n3_:=zad (keep_at hq_ HK.out);have n4_:=zad (below_at hq_ HB.out);clear hq_ HO_6 HO_7 HI0 HK HB;have HO_6:=n0_;have HO_7:=n1_;have HI0:=n2_;have HK:=n3_;have HB:=n4_;clear n0_ n1_ n2_ n3_ n4_;(try (obtain ⟨hy33_,hz33_⟩:=Kd.R_celln 0 HO_7.out (t220:Int) (zas (taab)) (zas (taab))));(try (have HP33:=Kd.R_putg HO_7.out (t220:Int) (wrap64 ((rd x7_1 t220) - 1))))));refine store_event (t:=3) (p:=57) (v := ?vo_w34) (w1:=(w32.setCell ⟨go28,(t220:Int).toNat,none⟩ (.int .i64 (wrap64 ((rd x7_1 t220) - 1))))) ?hg ?ho ?hn ?hr ?_;(case ho=>rfl);(case hg=>rfl);(case hn=>rfl);(case hr=>first | (go_simp;done) | (go_simp;rfl));intro w34 hw;have hg:w32.grownBy w34 (some go28):=(by rw [hw];exact HP33.2);have hp_:Kd.R (Kd.int .i64) 3 w34 w.heap.size (fun k_=>some k_≠(.slice Ao14 t198.length co14:Value).ownBlock) (.slice (some ⟨go28,0,none⟩) x7_1.length co30) y229:=(taec);clear HP33;have n0_:=zad (Kd.R_after (v:=(.slice (some ⟨go28,0,none⟩) x7_1.length co30)) (v1:=(.slice (some ⟨go28,0,none⟩) x7_1.length co30)) (ok:=(fun _=>True)) (taco) hg (.inl rfl));have n1_:=zad (hp_);have n2_:=zad (IsS45.grown (taag) hg (IsS45.own_ne HI0.out HO_7.out (by decide)));have n3_:=zad ((by rw [hw];exact zah (HB.out) (Nat.le_trans HL.out GB28.out):Below w0.heap.size w0 w34));have n4_:=zad (zbw (taaf) (KeepBut.of_grown hg g) (Kd.R_base2 HO_7.out));clear HO_6 HO_7 HI0 HB HK;have HO_6:=n0_;have HO_7:=n1_;have HI0:=n2_;have HB:=n3_;have HK:=n4_;clear n0_ n1_ n2_ n3_ n4_ hg hw hp_;have p230:0≤(t223:Int):=zas (taab);have q230:t223<(y229.length:Int):=(by have h_:(t223:Int)<((x7_1.length:Int):Int):=zas (taab);first | (have e_:=(zbh HO_7.out).1;omega) | simpa only [Ny229.out,List.length_set] using h_);have ql230:((t223:Int)<((x7_1.length:Int):Int))=True:=eq_true (zas (taab));obtain ⟨ad230,e230,hx230_0⟩:=zca (zbh HO_7.out).2.2 t223 p230 q230;obtain rfl:(⟨go28,0,none⟩:Addr)=ad230:=(by injection e230);(first | simp only [add_plain] at hx230_0 | simp only [add_at] at hx230_0 | simp only [Addr.add,Nat.zero_add] at hx230_0 | skip);replace p230:=eq_true p230;replace q230:=eq_true q230;have p29:0≤(t223:Int):=zas (taab);have q29:(t223:Int)<((x7_1.length:Int):Int):=zas (taab);obtain ⟨hx29_0,hf29_0⟩:=Kd.R_celln 0 HO_7.out (t223:Int) p29 q29;replace p29:=eq_true p29;replace q29:=eq_true q29;obtain ⟨hy35_,hz35_⟩:=Kd.R_celln 0 HO_7.out (t223:Int) (zas (taab)) (zas (taab));have HP35:=Kd.R_putg HO_7.out (t223:Int) (wrap64 ((rd y229 t223)+1))) | ((with_reducible refine gate_store (t:=3) (p:=63) rfl ?_);(try (rw [drewN_self w34];generalize hq_:World.drewN w34 _=w34;have n0_:=zad (Kd.R_at hq_ HO_6.out);have n1_:=zad (Kd.R_at hq_ HO_7.out);have n2_:=zad (IsS45.at_ hq_ HI0.out);have n3_:=zad (keep_at hq_ HK.out);have n4_:=zad (below_at hq_ HB.out);clear hq_ HO_6 HO_7 HI0 HK HB;have HO_6:=n0_;have HO_7:=n1_;have HI0:=n2_;have HK:=n3_;have HB:=n4_;clear n0_ n1_ n2_ n3_ n4_;(try (obtain ⟨hy35_,hz35_⟩:=Kd.R_celln 0 HO_7.out (t223:Int) (zas (taab)) (zas (taab))));(try (have HP35:=Kd.R_putg HO_7.out (t223:Int) (wrap64 ((rd y229 t223)+1))))));refine store_event (t:=3) (p:=63) (v := ?vo_w36) (w1:=(w34.setCell ⟨go28,(t223:Int).toNat,none⟩ (.int .i64 (wrap64 ((rd y229 t223)+1))))) ?hg ?ho ?hn ?hr ?_;(case ho=>rfl);(case hg=>rfl);(case hn=>rfl);(case hr=>first | (go_simp;done) | (go_simp;rfl));intro w36 hw;have hg:w34.grownBy w36 (some go28):=(tadd);have hp_:Kd.R (Kd.int .i64) 3 w36 w.heap.size (fun k_=>some k_≠(.slice Ao14 t198.length co14:Value).ownBlock) (.slice (some ⟨go28,0,none⟩) x7_1.length co30) y231:=(taed);clear HP35;have n0_:=zad (Kd.R_after (v:=(.slice (some ⟨go28,0,none⟩) x7_1.length co30)) (v1:=(.slice (some ⟨go28,0,none⟩) x7_1.length co30)) (ok:=(fun _=>True)) (taai) hg (.inl rfl));have n1_:=zad (hp_);have n2_:=zad (IsS45.grown (taag) hg (IsS45.own_ne HI0.out HO_7.out (by decide)));have n3_:=zad ((by rw [hw];exact zah (HB.out) (Nat.le_trans HL.out GB28.out):Below w0.heap.size w0 w36));have n4_:=zad (zbw (taaf) (KeepBut.of_grown hg g) (Kd.R_base2 HO_7.out));clear HO_6 HO_7 HI0 HB HK;have HO_6:=n0_;have HO_7:=n1_;have HI0:=n2_;have HB:=n3_;have HK:=n4_;clear n0_ n1_ n2_ n3_ n4_ hg hw hp_));try go_wp2_with (first | (go_at_call 58;(with_reducible refine (zcn g s0_0 x1001_1 x1002_1 (x7_1.length:Int) t220 t221 t222 w0 _ ?side1 ?side2 A21.out).mono ?_);(case side1=>repeat (first | (with_reducible first | exact HI0.out | apply zcg | apply zch | apply zci | apply zcl | apply zcm) | exact HI0.out));(case side2=>repeat (first | (with_reducible first | exact HB.out | apply zag | apply zae | apply zaf | refine zah ?_ (zck HI0.out)) | exact HB.out));rintro e w31 ⟨rfl,hi,hb,hk⟩;have n0_:=zad (zbu (zbv (zcj (show IsS45 w0 _ g s0_0 x1001_1 x1002_1 from by exact tahp) (taai) (by decide)) hk (fun _ h=>h.2)) (fun _ h=>h.1));have n1_:=zad (zbu (zbv (zcj (show IsS45 w0 _ g s0_0 x1001_1 x1002_1 from by exact tahp) (taaj) (by decide)) hk (fun _ h=>h.2)) (fun _ h=>h.1));have n2_:=zad (zbw (taaf) hk (.inl rfl));have n3_:=zad (hb);have n4_:=zad (hi);clear HO_6 HO_7 HK HB HI0;have HO_6:=n0_;have HO_7:=n1_;have HK:=n2_;have HB:=n3_;have HI0:=n4_;clear n0_ n1_ n2_ n3_ n4_;(try clear hb);(try clear hb2);(try clear hk);(try clear hi)) | (go_at_call 58;(with_reducible refine (zcn g s0_0 t221 t222 (x7_1.length:Int) t223 t224 t225 w0 _ ?side1 ?side2 A22.out).mono ?_);(case side1=>repeat (first | (with_reducible first | exact HI0.out | apply zcg | apply zch | apply zci | apply zcl | apply zcm) | exact HI0.out));(case side2=>repeat (first | (with_reducible first | exact HB.out | apply zag | apply zae | apply zaf | refine zah ?_ (zck HI0.out)) | exact HB.out));rintro e w32 ⟨rfl,hi,hb,hk⟩;have n0_:=zad (zbu (zbv (zcj (show IsS45 w0 _ g s0_0 t221 t222 from by exact tahp) (taai) (by decide)) hk (fun _ h=>h.2)) (fun _ h=>h.1));have n1_:=zad (zbu (zbv (zcj (show IsS45 w0 _ g s0_0 t221 t222 from by exact tahp) (taaj) (by decide)) hk (fun _ h=>h.2)) (fun _ h=>h.1));have n2_:=zad (zbw (taaf) hk (.inl rfl));have n3_:=zad (hb);have n4_:=zad (hi);clear HO_6 HO_7 HK HB HI0;have HO_6:=n0_;have HO_7:=n1_;have HK:=n2_;have HB:=n3_;have HI0:=n4_;clear n0_ n1_ n2_ n3_ n4_;(try clear hb);(try clear hb2);(try clear hk);(try clear hi);have p226:0≤(t220:Int):=zas (taab);have q226:t220<(x7_1.length:Int):=zas (taab);obtain ⟨ad226,e226,hx226_0⟩:=zca (zbh HO_7.out).2.2 t220 p226 q226;cases e226;replace p226:=eq_true p226;replace q226:=eq_true q226;have p227:0≤(t223:Int):=zas (taab);have q227:t223<(x7_1.length:Int):=zas (taab);obtain ⟨ad227,e227,hx227_0⟩:=zca (zbh HO_7.out).2.2 t223 p227 q227;obtain rfl:ad226=ad227:=(by injection e227);replace p227:=eq_true p227;replace q227:=eq_true q227;have p228:0≤(t220:Int):=zas (taab);have q228:t220<(x7_1.length:Int):=zas (taab);obtain ⟨ad228,e228,hx228_0⟩:=zca (zbh HO_7.out).2.2 t220 p228 q228;obtain rfl:ad226=ad228:=(by injection e228);replace p228:=eq_true p228;replace q228:=eq_true q228;have p28:0≤(t220:Int):=zas (taab);have q28:(t220:Int)<((x7_1.length:Int):Int):=zas (taab);obtain ⟨go28,co28,eo28,gb28,gl28,cl28,HG28⟩:=Kd.R_form HO_7.out (by omega);(first | cases eo28 | (injection eo28 with ea_ en_ ec_;(first | subst ea_ | (injection ea_ with ea_;subst ea_));subst ec_;clear en_));have GB28:=zad gb28;have GG28:=zad HG28;clear gb28 gl28 HG28;(first | simp only [add_plain] at hx226_0 | skip);(first | simp only [add_plain] at hx227_0 | skip);(first | simp only [add_plain] at hx228_0 | skip);obtain ⟨hx28_0,hf28_0⟩:=Kd.R_celln 0 HO_7.out (t220:Int) p28 q28;replace p28:=eq_true p28;replace q28:=eq_true q28;obtain ⟨hy33_,hz33_⟩:=Kd.R_celln 0 HO_7.out (t220:Int) (zas (taab)) (zas (taab));have HP33:=Kd.R_putg HO_7.out (t220:Int) (wrap64 ((rd x7_1 t220) - 1))) | ((with_reducible refine gate_store (t:=3) (p:=57) rfl ?_);(try (rw [drewN_self w32];generalize hq_:World.drewN w32 _=w32;have n0_:=zad (Kd.R_at hq_ HO_6.out);have n1_:=zad (Kd.R_at hq_ HO_7.out);have n2_:=zad (IsS45.at_ hq_ HI0.out);have n3_:=zad (keep_at hq_ HK.out);have n4_:=zad (below_at hq_ HB.out);clear hq_ HO_6 HO_7 HI0 HK HB;have HO_6:=n0_;have HO_7:=n1_;have HI0:=n2_;have HK:=n3_;have HB:=n4_;clear n0_ n1_ n2_ n3_ n4_;(try (obtain ⟨hy33_,hz33_⟩:=Kd.R_celln 0 HO_7.out (t220:Int) (zas (taab)) (zas (taab))));(try (have HP33:=Kd.R_putg HO_7.out (t220:Int) (wrap64 ((rd x7_1 t220) - 1))))));refine store_event (t:=3) (p:=57) (v := ?vo_w34) (w1:=(w32.setCell ⟨go28,(t220:Int).toNat,none⟩ (.int .i64 (wrap64 ((rd x7_1 t220) - 1))))) ?hg ?ho ?hn ?hr ?_;(case ho=>rfl);(case hg=>rfl);(case hn=>rfl);(case hr=>first | (go_simp;done) | (go_simp;rfl));intro w34 hw;have hg:w32.grownBy w34 (some go28):=(by rw [hw];exact HP33.2);have hp_:Kd.R (Kd.int .i64) 3 w34 w.heap.size (fun k_=>some k_≠(.slice Ao14 t198.length co14:Value).ownBlock) (.slice (some ⟨go28,0,none⟩) x7_1.length co30) y229:=(taec);clear HP33;have n0_:=zad (Kd.R_after (v:=(.slice (some ⟨go28,0,none⟩) x7_1.length co30)) (v1:=(.slice (some ⟨go28,0,none⟩) x7_1.length co30)) (ok:=(fun _=>True)) (taco) hg (.inl rfl));have n1_:=zad (hp_);have n2_:=zad (IsS45.grown (taag) hg (IsS45.own_ne HI0.out HO_7.out (by decide)));have n3_:=zad ((by rw [hw];exact zah (HB.out) (Nat.le_trans HL.out GB28.out):Below w0.heap.size w0 w34));have n4_:=zad (zbw (taaf) (KeepBut.of_grown hg g) (Kd.R_base2 HO_7.out));clear HO_6 HO_7 HI0 HB HK;have HO_6:=n0_;have HO_7:=n1_;have HI0:=n2_;have HB:=n3_;have HK:=n4_;clear n0_ n1_ n2_ n3_ n4_ hg hw hp_;have p230:0≤(t223:Int):=zas (taab);have q230:t223<(y229.length:Int):=(by have h_:(t223:Int)<((x7_1.length:Int):Int):=zas (taab);first | (have e_:=(zbh HO_7.out).1;omega) | simpa only [Ny229.out,List.length_set] using h_);have ql230:((t223:Int)<((x7_1.length:Int):Int))=True:=eq_true (zas (taab));obtain ⟨ad230,e230,hx230_0⟩:=zca (zbh HO_7.out).2.2 t223 p230 q230;obtain rfl:(⟨go28,0,none⟩:Addr)=ad230:=(by injection e230);(first | simp only [add_plain] at hx230_0 | simp only [add_at] at hx230_0 | simp only [Addr.add,Nat.zero_add] at hx230_0 | skip);replace p230:=eq_true p230;replace q230:=eq_true q230;have p29:0≤(t223:Int):=zas (taab);have q29:(t223:Int)<((x7_1.length:Int):Int):=zas (taab);obtain ⟨hx29_0,hf29_0⟩:=Kd.R_celln 0 HO_7.out (t223:Int) p29 q29;replace p29:=eq_true p29;replace q29:=eq_true q29;obtain ⟨hy35_,hz35_⟩:=Kd.R_celln 0 HO_7.out (t223:Int) (zas (taab)) (zas (taab));have HP35:=Kd.R_putg HO_7.out (t223:Int) (wrap64 ((rd y229 t223)+1))) | ((with_reducible refine gate_store (t:=3) (p:=63) rfl ?_);(try (rw [drewN_self w34];generalize hq_:World.drewN w34 _=w34;have n0_:=zad (Kd.R_at hq_ HO_6.out);have n1_:=zad (Kd.R_at hq_ HO_7.out);have n2_:=zad (IsS45.at_ hq_ HI0.out);have n3_:=zad (keep_at hq_ HK.out);have n4_:=zad (below_at hq_ HB.out);clear hq_ HO_6 HO_7 HI0 HK HB;have HO_6:=n0_;have HO_7:=n1_;have HI0:=n2_;have HK:=n3_;have HB:=n4_;clear n0_ n1_ n2_ n3_ n4_;(try (obtain ⟨hy35_,hz35_⟩:=Kd.R_celln 0 HO_7.out (t223:Int) (zas (taab)) (zas (taab))));(try (have HP35:=Kd.R_putg HO_7.out (t223:Int) (wrap64 ((rd y229 t223)+1))))));refine store_event (t:=3) (p:=63) (v := ?vo_w36) (w1:=(w34.setCell ⟨go28,(t223:Int).toNat,none⟩ (.int .i64 (wrap64 ((rd y229 t223)+1))))) ?hg ?ho ?hn ?hr ?_;(case ho=>rfl);(case hg=>rfl);(case hn=>rfl);(case hr=>first | (go_simp;done) | (go_simp;rfl));intro w36 hw;have hg:w34.grownBy w36 (some go28):=(tadd);have hp_:Kd.R (Kd.int .i64) 3 w36 w.heap.size (fun k_=>some k_≠(.slice Ao14 t198.length co14:Value).ownBlock) (.slice (some ⟨go28,0,none⟩) x7_1.length co30) y231:=(taed);clear HP35;have n0_:=zad (Kd.R_after (v:=(.slice (some ⟨go28,0,none⟩) x7_1.length co30)) (v1:=(.slice (some ⟨go28,0,none⟩) x7_1.length co30)) (ok:=(fun _=>True)) (taai) hg (.inl rfl));have n1_:=zad (hp_);have n2_:=zad (IsS45.grown (taag) hg (IsS45.own_ne HI0.out HO_7.out (by decide)));have n3_:=zad ((by rw [hw];exact zah (HB.out) (Nat.le_trans HL.out GB28.out):Below w0.heap.size w0 w36));have n4_:=zad (zbw (taaf) (KeepBut.of_grown hg g) (Kd.R_base2 HO_7.out));clear HO_6 HO_7 HI0 HB HK;have HO_6:=n0_;have HO_7:=n1_;have HI0:=n2_;have HB:=n3_;have HK:=n4_;clear n0_ n1_ n2_ n3_ n4_ hg hw hp_)))
            go_roundg kj16
            case measure=>have:=HK1.out;have:=HJ16.out;omega
            case rel=>exact ⟨(y231),(wrap64 (x8_1 - 1)),(t224),(t225),(taae),H',⟨tacd⟩,⟨taea⟩,⟨taaj⟩,⟨taag⟩,⟨taaf⟩,⟨taam⟩⟩
           ·rw [if_neg c27] at H
            have c27b0:decide ((wrap64 ((rd x7_1 t223)+2))≤(rd x7_1 t220))=false:=zbl c27;clear c27;have H':=zad H;clear H;obtain ⟨Ao37,co37,eo37⟩:=zbz HO_7.out;subst eo37;go_wp2_with (first | (go_at_call 58;(with_reducible refine (zcn g s0_0 x1001_1 x1002_1 (x7_1.length:Int) t220 t221 t222 w0 _ ?side1 ?side2 A21.out).mono ?_);(case side1=>repeat (first | (with_reducible first | exact HI0.out | apply zcg | apply zch | apply zci | apply zcl | apply zcm) | exact HI0.out));(case side2=>repeat (first | (with_reducible first | exact HB.out | apply zag | apply zae | apply zaf | refine zah ?_ (zck HI0.out)) | exact HB.out));rintro e w38 ⟨rfl,hi,hb,hk⟩;have n0_:=zad (zbu (zbv (zcj (show IsS45 w0 _ g s0_0 x1001_1 x1002_1 from by exact tahp) (taai) (by decide)) hk (fun _ h=>h.2)) (fun _ h=>h.1));have n1_:=zad (zbu (zbv (zcj (show IsS45 w0 _ g s0_0 x1001_1 x1002_1 from by exact tahp) (taaj) (by decide)) hk (fun _ h=>h.2)) (fun _ h=>h.1));have n2_:=zad (zbw (taaf) hk (.inl rfl));have n3_:=zad (hb);have n4_:=zad (hi);clear HO_6 HO_7 HK HB HI0;have HO_6:=n0_;have HO_7:=n1_;have HK:=n2_;have HB:=n3_;have HI0:=n4_;clear n0_ n1_ n2_ n3_ n4_;(try clear hb);(try clear hb2);(try clear hk);(try clear hi)) | (go_at_call 58;(with_reducible refine (zcn g s0_0 t221 t222 (x7_1.length:Int) t223 t224 t225 w0 _ ?side1 ?side2 A22.out).mono ?_);(case side1=>repeat (first | (with_reducible first | exact HI0.out | apply zcg | apply zch | apply zci | apply zcl | apply zcm) | exact HI0.out));(case side2=>repeat (first | (with_reducible first | exact HB.out | apply zag | apply zae | apply zaf | refine zah ?_ (zck HI0.out)) | exact HB.out));rintro e w39 ⟨rfl,hi,hb,hk⟩;have n0_:=zad (zbu (zbv (zcj (show IsS45 w0 _ g s0_0 t221 t222 from by exact tahp) (taai) (by decide)) hk (fun _ h=>h.2)) (fun _ h=>h.1));have n1_:=zad (zbu (zbv (zcj (show IsS45 w0 _ g s0_0 t221 t222 from by exact tahp) (taaj) (by decide)) hk (fun _ h=>h.2)) (fun _ h=>h.1));have n2_:=zad (zbw (taaf) hk (.inl rfl));have n3_:=zad (hb);have n4_:=zad (hi);clear HO_6 HO_7 HK HB HI0;have HO_6:=n0_;have HO_7:=n1_;have HK:=n2_;have HB:=n3_;have HI0:=n4_;clear n0_ n1_ n2_ n3_ n4_;(try clear hb);(try clear hb2);(try clear hk);(try clear hi);have p226:0≤(t220:Int):=zas (taab);have q226:t220<(x7_1.length:Int):=zas (taab);obtain ⟨ad226,e226,hx226_0⟩:=zca (zbh HO_7.out).2.2 t220 p226 q226;cases e226;replace p226:=eq_true p226;replace q226:=eq_true q226;have p227:0≤(t223:Int):=zas (taab);have q227:t223<(x7_1.length:Int):=zas (taab);obtain ⟨ad227,e227,hx227_0⟩:=zca (zbh HO_7.out).2.2 t223 p227 q227;obtain rfl:ad226=ad227:=(by injection e227);replace p227:=eq_true p227;replace q227:=eq_true q227))
            repeat (go_quiet (first | (go_at_call 58;(with_reducible refine (zcn g s0_0 x1001_1 x1002_1 (x7_1.length:Int) t220 t221 t222 w0 _ ?side1 ?side2 A21.out).mono ?_);(case side1=>repeat (first | (with_reducible first | exact HI0.out | apply zcg | apply zch | apply zci | apply zcl | apply zcm) | exact HI0.out));(case side2=>repeat (first | (with_reducible first | exact HB.out | apply zag | apply zae | apply zaf | refine zah ?_ (zck HI0.out)) | exact HB.out));rintro e w38 ⟨rfl,hi,hb,hk⟩;have n0_:=zad (zbu (zbv (zcj (show IsS45 w0 _ g s0_0 x1001_1 x1002_1 from by exact tahp) (taai) (by decide)) hk (fun _ h=>h.2)) (fun _ h=>h.1));have n1_:=zad (zbu (zbv (zcj (show IsS45 w0 _ g s0_0 x1001_1 x1002_1 from by exact tahp) (taaj) (by decide)) hk (fun _ h=>h.2)) (fun _ h=>h.1));have n2_:=zad (zbw (taaf) hk (.inl rfl));have n3_:=zad (hb);have n4_:=zad (hi);clear HO_6 HO_7 HK HB HI0;have HO_6:=n0_;have HO_7:=n1_;have HK:=n2_;have HB:=n3_;have HI0:=n4_;clear n0_ n1_ n2_ n3_ n4_;(try clear hb);(try clear hb2);(try clear hk);(try clear hi)) | (go_at_call 58;(with_reducible refine (zcn g s0_0 t221 t222 (x7_1.length:Int) t223 t224 t225 w0 _ ?side1 ?side2 A22.out).mono ?_);(case side1=>repeat (first | (with_reducible first | exact HI0.out | apply zcg | apply zch | apply zci | apply zcl | apply zcm) | exact HI0.out));(case side2=>repeat (first | (with_reducible first | exact HB.out | apply zag | apply zae | apply zaf | refine zah ?_ (zck HI0.out)) | exact HB.out));rintro e w39 ⟨rfl,hi,hb,hk⟩;have n0_:=zad (zbu (zbv (zcj (show IsS45 w0 _ g s0_0 t221 t222 from by exact tahp) (taai) (by decide)) hk (fun _ h=>h.2)) (fun _ h=>h.1));have n1_:=zad (zbu (zbv (zcj (show IsS45 w0 _ g s0_0 t221 t222 from by exact tahp) (taaj) (by decide)) hk (fun _ h=>h.2)) (fun _ h=>h.1));have n2_:=zad (zbw (taaf) hk (.inl rfl));have n3_:=zad (hb);have n4_:=zad (hi);clear HO_6 HO_7 HK HB HI0;have HO_6:=n0_;have HO_7:=n1_;have HK:=n2_;have HB:=n3_;have HI0:=n4_;clear n0_ n1_ n2_ n3_ n4_;(try clear hb);(try clear hb2);(try clear hk);(try clear hi);have p226:0≤(t220:Int):=zas (taab);have q226:t220<(x7_1.length:Int):=zas (taab);obtain ⟨ad226,e226,hx226_0⟩:=zca (zbh HO_7.out).2.2 t220 p226 q226;cases e226;replace p226:=eq_true p226;replace q226:=eq_true q226;have p227:0≤(t223:Int):=zas (taab);have q227:t223<(x7_1.length:Int):=zas (taab);obtain ⟨ad227,e227,hx227_0⟩:=zca (zbh HO_7.out).2.2 t223 p227 q227;obtain rfl:ad226=ad227:=(by injection e227);replace p227:=eq_true p227;replace q227:=eq_true q227));try go_wp2_with (first | (go_at_call 58;(with_reducible refine (zcn g s0_0 x1001_1 x1002_1 (x7_1.length:Int) t220 t221 t222 w0 _ ?side1 ?side2 A21.out).mono ?_);(case side1=>repeat (first | (with_reducible first | exact HI0.out | apply zcg | apply zch | apply zci | apply zcl | apply zcm) | exact HI0.out));(case side2=>repeat (first | (with_reducible first | exact HB.out | apply zag | apply zae | apply zaf | refine zah ?_ (zck HI0.out)) | exact HB.out));rintro e w38 ⟨rfl,hi,hb,hk⟩;have n0_:=zad (zbu (zbv (zcj (show IsS45 w0 _ g s0_0 x1001_1 x1002_1 from by exact tahp) (taai) (by decide)) hk (fun _ h=>h.2)) (fun _ h=>h.1));have n1_:=zad (zbu (zbv (zcj (show IsS45 w0 _ g s0_0 x1001_1 x1002_1 from by exact tahp) (taaj) (by decide)) hk (fun _ h=>h.2)) (fun _ h=>h.1));have n2_:=zad (zbw (taaf) hk (.inl rfl));have n3_:=zad (hb);have n4_:=zad (hi);clear HO_6 HO_7 HK HB HI0;have HO_6:=n0_;have HO_7:=n1_;have HK:=n2_;have HB:=n3_;have HI0:=n4_;clear n0_ n1_ n2_ n3_ n4_;(try clear hb);(try clear hb2);(try clear hk);(try clear hi)) | (go_at_call 58;(with_reducible refine (zcn g s0_0 t221 t222 (x7_1.length:Int) t223 t224 t225 w0 _ ?side1 ?side2 A22.out).mono ?_);(case side1=>repeat (first | (with_reducible first | exact HI0.out | apply zcg | apply zch | apply zci | apply zcl | apply zcm) | exact HI0.out));(case side2=>repeat (first | (with_reducible first | exact HB.out | apply zag | apply zae | apply zaf | refine zah ?_ (zck HI0.out)) | exact HB.out));rintro e w39 ⟨rfl,hi,hb,hk⟩;have n0_:=zad (zbu (zbv (zcj (show IsS45 w0 _ g s0_0 t221 t222 from by exact tahp) (taai) (by decide)) hk (fun _ h=>h.2)) (fun _ h=>h.1));have n1_:=zad (zbu (zbv (zcj (show IsS45 w0 _ g s0_0 t221 t222 from by exact tahp) (taaj) (by decide)) hk (fun _ h=>h.2)) (fun _ h=>h.1));have n2_:=zad (zbw (taaf) hk (.inl rfl));have n3_:=zad (hb);have n4_:=zad (hi);clear HO_6 HO_7 HK HB HI0;have HO_6:=n0_;have HO_7:=n1_;have HK:=n2_;have HB:=n3_;have HI0:=n4_;clear n0_ n1_ n2_ n3_ n4_;(try clear hb);(try clear hb2);(try clear hk);(try clear hi);have p226:0≤(t220:Int):=zas (taab);have q226:t220<(x7_1.length:Int):=zas (taab);obtain ⟨ad226,e226,hx226_0⟩:=zca (zbh HO_7.out).2.2 t220 p226 q226;cases e226;replace p226:=eq_true p226;replace q226:=eq_true q226;have p227:0≤(t223:Int):=zas (taab);have q227:t223<(x7_1.length:Int):=zas (taab);obtain ⟨ad227,e227,hx227_0⟩:=zca (zbh HO_7.out).2.2 t223 p227 q227;obtain rfl:ad226=ad227:=(by injection e227);replace p227:=eq_true p227;replace q227:=eq_true q227)))
            go_roundg kj16
            case measure=>have:=HK1.out;have:=HJ16.out;omega
            case rel=>exact ⟨(x7_1),(wrap64 (x8_1 - 1)),(t224),(t225),(taae),H',⟨tacd⟩,⟨taai⟩,⟨taaj⟩,⟨taag⟩,⟨taaf⟩,⟨taam⟩⟩
          ·rw [if_neg c26] at H
           exact absurd H (taad)
         ·rw [if_neg c25] at H
          exact absurd H (taad)
        ·rw [if_neg c24] at H
         exact absurd H (taad)
       ·rw [if_neg c23] at H
        exact absurd H (taad)
      ·replace c20:=zbk.mpr c20
       subst c20;have H1:(some (x7_1,t198,x1001_1,x1002_1))=some (r1,r2,r3,r4):=by rw [if_neg (show ¬ (false=true) by decide)] at H;exact H
       clear H;have H:=H1;clear H1;simp only [zbp,zbt] at H;obtain ⟨rfl,rfl,rfl,rfl⟩:=H;go_wp2
       repeat (go_quiet (fail);try go_wp2)
       go_ret2
       exact ⟨_,_,taah,taaj,taai,taag,taam,taaf⟩
def spec_DrawLongestPath.f (k:Nat) (l0:List Int):Option (List Int × List Int):=(spec_l1Cur_majorized.f k l0 0 0 4).bind fun bt233=>(some (bt233.1,bt233.2.1))
theorem spec_DrawLongestPath.calls (k:Nat) (A0:Option Addr) (c0:Nat) (l0:List Int) (r1:List Int) (r2:List Int) (w:World) (hr0:Kd.C (Kd.int .u8) w A0 l0.length l0) (hc0:l0.length≤c0) (h:spec_DrawLongestPath.f k l0=some (r1,r2)) :
 Calls Tryz.prog 5 #[.slice A0 l0.length c0] w fun e w'=>∃ v0_ v1_:Value,e = .returned (.tuple #[v0_,v1_])∧Kd.R (Kd.int .i64) 3 w' w.heap.size (fun k_=>some k_≠(v1_:Value).ownBlock) v0_ r1∧Kd.R (Kd.int .i64) 3 w' w.heap.size (fun k_=>some k_≠(v0_:Value).ownBlock) v1_ r2∧Below w.heap.size w w':=by
 have hu45:=Tryz.underlying45;have HR0:=zad hr0;have HC0:=zad hc0;clear hr0 hc0;have HB:=zad (Below.refl w.heap.size w);have H:((spec_l1Cur_majorized.f k l0 0 0 4).bind fun bt233=>(some (bt233.1,bt233.2.1)))=some (r1,r2):=h;clear h;replace H:=zay.mp H;obtain ⟨⟨t233,t236,t239,t240⟩,A20,H⟩:=H;replace H:(some (t233,t236))=some (r1,r2):=H;have A2:=zad A20;clear A20;simp only [zbp,zbt] at H;obtain ⟨rfl,rfl⟩:=H;go_enter Tryz.func5,Tryz.ntmps5;go_wp2_with (first | ((with_reducible refine gate_dst (N:=7) rfl ?_);refine box_event ?hg (N:=7) ?hd (cs:=#[.slice A0 l0.length c0,.int .i64 0,.int .u64 0]) (t:=45) ?hr ?_;(case hd=>rfl);(case hg=>rfl);(case hr=>first | (go_simp;done) | (go_simp;rfl));intro gb232 hg w3 hbox hb;have n0_:=zad (zbi (taaa) hb);have n1_:=zad ((show IsS45 w w3 gb232 l0 0 0 from ⟨_,_,hbox,(tahi),HR0.out⟩));clear HB;have HB:=n0_;have HI232:=n1_;clear n0_ n1_ hb hbox hg) | ((with_reducible refine zbj (f:=19) rfl ?_);refine zbr (some 9) rfl rfl Tryz.func19 (by kernel_rfl) rfl #[.pointer (some ⟨gb232,0,none⟩),.int .i64 4] rfl (taac) ?_;(with_reducible refine (spec_l1Cur_majorized.calls k gb232 l0 0 0 4 t233 t236 t239 t240 w _ ?side1 ?side2 A2.out).mono ?_);(case side1=>repeat (first | (with_reducible first | exact HI232.out | apply zcg | apply zch | apply zci | apply zcl | apply zcm) | exact HI232.out));(case side2=>repeat (first | (with_reducible first | exact HB.out | apply zag | apply zae | apply zaf | refine zah ?_ (zck HI232.out)) | exact HB.out));rintro e w4 ⟨v234,v237,rfl,ho0,ho1,hi,hb,hk⟩;refine ⟨_,rfl,?_⟩;have n0_:=zad (zby ho0 (zbo (taee)));have n1_:=zad (zby ho1 (zbo (taee)));have n2_:=zad (hb);have n3_:=zad (hi);clear HB HI232;have HO235:=n0_;have HO238:=n1_;have HB:=n2_;have HI232:=n3_;clear n0_ n1_ n2_ n3_;(try clear hb);(try clear hb2);(try clear hk);(try clear hi);(try clear ho0);(try clear ho1)))
 go_ret2
 exact ⟨_,_,taah,by (with_reducible repeat (first | apply zai | apply zaj | apply zak));exact HO235.out,by (with_reducible repeat (first | apply zai | apply zaj | apply zak));exact HO238.out,taee⟩
def spec_giLists.f (k:Nat) (l0:List Int) (l1:List Int):Option (Bool):=(spec_liGood.f k l0).bind fun t343=>(if t343=true then ((spec_liGood.f k l1).bind fun t344=>(if t344=true then ((spec_liBelow.f k l0 l1).bind fun t345=>(some t345)) else (some false))) else (some false))
theorem spec_giLists.calls (k:Nat) (A0:Option Addr) (c0:Nat) (l0:List Int) (A1:Option Addr) (c1:Nat) (l1:List Int) (r:Bool) (w:World) (hr0:Kd.C (Kd.int .i64) w A0 l0.length l0) (hc0:l0.length≤c0) (hr1:Kd.C (Kd.int .i64) w A1 l1.length l1) (hc1:l1.length≤c1) (h:spec_giLists.f k l0 l1=some r) :
 Calls Tryz.prog 26 #[.slice A0 l0.length c0,.slice A1 l1.length c1] w fun e w'=>e = .returned (.bool r)∧Below w.heap.size w w':=by
 have HR0:=zad hr0;have HC0:=zad hc0;clear hr0 hc0;have HR1:=zad hr1;have HC1:=zad hc1;clear hr1 hc1;have HB:=zad (Below.refl w.heap.size w);have H:((spec_liGood.f k l0).bind fun t343=>(if t343=true then ((spec_liGood.f k l1).bind fun t344=>(if t344=true then ((spec_liBelow.f k l0 l1).bind fun t345=>(some t345)) else (some false))) else (some false)))=some r:=h;clear h;replace H:=zay.mp H;obtain ⟨t343,A30,H⟩:=H;replace H:(if t343=true then ((spec_liGood.f k l1).bind fun t344=>(if t344=true then ((spec_liBelow.f k l0 l1).bind fun t345=>(some t345)) else (some false))) else (some false))=some r:=H;have A3:=zad A30;clear A30;by_cases c4:t343=true
 ·subst c4
  have H1:((spec_liGood.f k l1).bind fun t344=>(if t344=true then ((spec_liBelow.f k l0 l1).bind fun t345=>(some t345)) else (some false)))=some r:=by rw [if_pos rfl] at H;exact H
  clear H;have H:=H1;clear H1;replace H:=zay.mp H;obtain ⟨t344,A50,H⟩:=H;replace H:(if t344=true then ((spec_liBelow.f k l0 l1).bind fun t345=>(some t345)) else (some false))=some r:=H;have A5:=zad A50;clear A50;by_cases c6:t344=true
  ·subst c6
   have H1:((spec_liBelow.f k l0 l1).bind fun t345=>(some t345))=some r:=by rw [if_pos rfl] at H;exact H
   clear H;have H:=H1;clear H1;replace H:=zay.mp H;obtain ⟨t345,A70,H⟩:=H;replace H:(some t345)=some r:=H;have A7:=zad A70;clear A70;obtain rfl:=zbg H;go_enter Tryz.func26,Tryz.ntmps26;go_wp2_with (first | ((with_reducible refine zbj (f:=33) rfl ?_);refine zbr (some 6) rfl rfl Tryz.func33 (by kernel_rfl) rfl #[.slice A0 l0.length c0] rfl (taac) ?_;(with_reducible refine (spec_liGood.calls k _ _ l0 true _ ?side1 ?side2 A3.out).mono ?_);(case side1=>repeat (first | exact HR0.out | (with_reducible refine zal ?_ _) | (with_reducible refine zam ?_ _) | (with_reducible refine zan ?_)));(case side2=>exact HC0.out);rintro e w' ⟨rfl,⟨nd,rfl⟩⟩;refine ⟨_,rfl,?_⟩) | (go_at_call 33;(with_reducible refine (spec_liGood.calls k _ _ l1 true _ ?side1 ?side2 A5.out).mono ?_);(case side1=>repeat (first | exact HR1.out | (with_reducible refine zal ?_ _) | (with_reducible refine zam ?_ _) | (with_reducible refine zan ?_)));(case side2=>exact HC1.out);rintro e w' ⟨rfl,⟨nd,rfl⟩⟩) | (go_at_call 48;(with_reducible refine (spec_liBelow.calls k _ _ l0 _ _ l1 t345 _ ?side1 ?side2 ?side3 ?side4 A7.out).mono ?_);(case side1=>repeat (first | exact HR0.out | (with_reducible refine zal ?_ _) | (with_reducible refine zam ?_ _) | (with_reducible refine zan ?_)));(case side2=>exact HC0.out);(case side3=>repeat (first | exact HR1.out | (with_reducible refine zal ?_ _) | (with_reducible refine zam ?_ _) | (with_reducible refine zan ?_)));(case side4=>exact HC1.out);rintro e w8 ⟨rfl,hb⟩;have n0_:=zad (zbi (taaa) hb);clear HB;have HB:=n0_;clear n0_;(try clear hb);(try clear hb2);(try clear hk);(try clear hi)))
   go_ret
   exact ⟨taah,taaa⟩
  ·replace c6:=zbk.mpr c6
   subst c6;have H1:(some false)=some r:=by rw [if_neg (show ¬ (false=true) by decide)] at H;exact H
   clear H;have H:=H1;clear H1;obtain rfl:=zbg H;go_enter Tryz.func26,Tryz.ntmps26;go_wp2_with (first | ((with_reducible refine zbj (f:=33) rfl ?_);refine zbr (some 6) rfl rfl Tryz.func33 (by kernel_rfl) rfl #[.slice A0 l0.length c0] rfl (taac) ?_;(with_reducible refine (spec_liGood.calls k _ _ l0 true _ ?side1 ?side2 A3.out).mono ?_);(case side1=>repeat (first | exact HR0.out | (with_reducible refine zal ?_ _) | (with_reducible refine zam ?_ _) | (with_reducible refine zan ?_)));(case side2=>exact HC0.out);rintro e w' ⟨rfl,⟨nd,rfl⟩⟩;refine ⟨_,rfl,?_⟩) | (go_at_call 33;(with_reducible refine (spec_liGood.calls k _ _ l1 false _ ?side1 ?side2 A5.out).mono ?_);(case side1=>repeat (first | exact HR1.out | (with_reducible refine zal ?_ _) | (with_reducible refine zam ?_ _) | (with_reducible refine zan ?_)));(case side2=>exact HC1.out);rintro e w' ⟨rfl,⟨nd,rfl⟩⟩))
   go_ret
   exact ⟨taah,taaa⟩
 ·replace c4:=zbk.mpr c4
  subst c4;have H1:(some false)=some r:=by rw [if_neg (show ¬ (false=true) by decide)] at H;exact H
  clear H;have H:=H1;clear H1;obtain rfl:=zbg H;go_enter Tryz.func26,Tryz.ntmps26;go_wp2_with (first | ((with_reducible refine zbj (f:=33) rfl ?_);refine zbr (some 6) rfl rfl Tryz.func33 (by kernel_rfl) rfl #[.slice A0 l0.length c0] rfl (taac) ?_;(with_reducible refine (spec_liGood.calls k _ _ l0 false _ ?side1 ?side2 A3.out).mono ?_);(case side1=>exact tahq);(case side2=>exact HC0.out);rintro e w' ⟨rfl,⟨nd,rfl⟩⟩;refine ⟨_,rfl,?_⟩))
  go_ret
  exact ⟨taah,taaa⟩
mutual
def spec_liAll.l0:Nat→Int→Int→List (List Int)→Int→Option ((List (List Int)))
 | 0,_,_,_,_=>none
 | k+1,x0,x1,x7,x8=>if (wrap64 (x8*x0))≥x1 then (spec_liAll.j1 k x0 x1 x7 x8 (decide (x8≥0))) else (spec_liAll.j1 k x0 x1 x7 x8 false)
def spec_liAll.j1:Nat→Int→Int→List (List Int)→Int→Bool→Option ((List (List Int)))
 | 0,_,_,_,_,_=>none
 | k+1,x0,x1,x7,x8,x27=>if x27=true then ((spec_liAll.f k (wrap64 (x0 - 1)) (wrap64 (x1 - x8)) x8).bind fun t350=>(spec_liAll.l1 k x0 x1 x7 x8 t350 (t350.length:Int) 0)) else (some x7)
def spec_liAll.l1:Nat→Int→Int→List (List Int)→Int→List (List Int)→Int→Int→Option ((List (List Int)))
 | 0,_,_,_,_,_,_,_=>none
 | k+1,x0,x1,x7,x8,x36,x37,x38=>if x38<x37 then (if 0≤x38 then (if x38<(x36.length:Int) then ((some (([x8]:List Int):List Int)).bind fun y354=>(if y354.length+(rd_L2 x36 x38).length<17592186044416 then (if x7.length<5864062014805 then (spec_liAll.l1 k x0 x1 (x7 ++ [(y354 ++ (rd_L2 x36 x38))]) x8 x36 x37 (wrap64 (x38+1))) else (none)) else (none))) else (none)) else (none)) else (spec_liAll.l0 k x0 x1 x7 (wrap64 (x8 - 1)))
def spec_liAll.f:Nat→Int→Int→Int→Option ((List (List Int)))
 | 0,_,_,_=>none
 | k+1,a0,a1,a2=>if a0=0 then (if a1=0 then (some (([[]]:List (List Int)))) else (some ([]:List (List Int)))) else ((spec_l1Least.f a1 a2).bind fun t349=>(spec_liAll.l0 k a0 a1 ([]:List (List Int)) t349))
end
theorem spec_liAll.calls (k:Nat):∀ (a0:Int) (a1:Int) (a2:Int) (r:List (List Int)) (w:World) (h:spec_liAll.f k a0 a1 a2=some r),
 Calls Tryz.prog 93 #[.int .i64 a0,.int .i64 a1,.int .i64 a2] w fun e w'=>∃ v0_:Value,e = .returned (v0_)∧Kd.S (Kd.slice 3 (Kd.int .i64)) 24 w' w.heap.size (fun _=>True) v0_ r∧Below w.heap.size w w':=by
 induction k using Nat.strongRecOn with
 | _ k ih =>
 intro a0 a1 a2 r w h
 cases k with
 | zero=>exact absurd h (by simp [spec_liAll.f])
 | succ k =>
 simp only [spec_liAll.f] at h
 have HB:=zad (Below.refl w.heap.size w);have H:(if a0=0 then (if a1=0 then (some (([[]]:List (List Int)))) else (some ([]:List (List Int)))) else ((spec_l1Least.f a1 a2).bind fun t349=>(spec_liAll.l0 k a0 a1 ([]:List (List Int)) t349)))=some r:=h;clear h;by_cases c4:a0=0
 ·rw [if_pos c4] at H
  have c4b0:(a0 == 0)=true:=beq_iff_eq.mpr c4;have c4b1:(a0 != 0)=false:=bne_eq_false_iff_eq.mpr c4;clear c4;by_cases c5:a1=0
  ·rw [if_pos c5] at H
   have c5b0:(a1 == 0)=true:=beq_iff_eq.mpr c5;have c5b1:(a1 != 0)=false:=bne_eq_false_iff_eq.mpr c5;clear c5;obtain ⟨y346,hy346⟩:∃ y_:List (List Int),y_=(([[]]:List (List Int))):=⟨_,rfl⟩;replace H:(some y346)=some r:=by first | (rw [hy346];with_reducible exact H) | (have H2_:=(zbf _ _).symm.trans H;rw [hy346];with_reducible exact H2_) | (have H2_:=(zbf _ _).symm.trans H;with_reducible exact H2_) | with_reducible exact H | (rw [hy346];exact H) | exact H
   have Ny346:=zad hy346;clear hy346;obtain rfl:=zbg H;go_enter Tryz.func93,Tryz.ntmps93;go_wp2_with (first | ((with_reducible refine gate_dst (N:=15) rfl ?_);refine Kd.S_lit (Kd.slice 3 (Kd.int .i64)) _ 24 ?hg (N:=15) ?hd (xs:=([[]]:List (List Int))) (inner:=[.slice none 0 0]) (ok:=fun _=>True) (okp:=fun _=>True) ?hr ?hp (fun _ hk=>hk) trivial (Below.refl _ _) (zcf _) (taad) ?_;(case hd=>rfl);(case hg=>rfl);(case hr=>first | (go_simp;done) | (go_simp;rfl));(case hp=>exact (Reps.one (show Kd.M (Kd.slice 3 (Kd.int .i64)) _ _ _ [] [.slice none 0 0] from ⟨_,rfl,Kd.R_nil _ _ _ _ _⟩) (Reps.none _ _)));intro v347 w6 ho7 hb hg_ hnew_;clear hg_ hnew_;(first | rw [← Ny346.out] at ho7 | (simp only [Int.reduceToNat] at ho7;rw [← Ny346.out] at ho7));have n0_:=zad (Kd.S_lower ho7 (zbo (taaa)));have n1_:=zad (zbi (taaa) hb);clear HB;have HO348:=n0_;have HB:=n1_;clear n0_ n1_ hb ho7))
   go_ret
   exact ⟨_,taah,by (with_reducible repeat (first | apply Kd.S_alloc | apply Kd.S_drewN | apply Kd.S_drew));exact HO348.out,taaa⟩
  ·rw [if_neg c5] at H
   have c5b0:(a1 == 0)=false:=zbs.mpr c5;have c5b1:(a1 != 0)=true:=bne_iff_ne.mpr c5;obtain rfl:=zbg H;go_enter Tryz.func93,Tryz.ntmps93;go_wp2
   go_ret
   exact ⟨_,taah,tacf,taaa⟩
 ·rw [if_neg c4] at H
  have c4b0:(a0 == 0)=false:=zbs.mpr c4;have c4b1:(a0 != 0)=true:=bne_iff_ne.mpr c4;replace H:=zay.mp H;obtain ⟨t349,A80,H⟩:=H;replace H:(spec_liAll.l0 k a0 a1 ([]:List (List Int)) t349)=some r:=H;have A8:=zad A80;clear A80;have H':=zad H;clear H;go_enter Tryz.func93,Tryz.ntmps93;go_wp2_with (first | ((with_reducible refine zbj (f:=76) rfl ?_);refine zbr (some 18) rfl rfl Tryz.func76 (by kernel_rfl) rfl #[.int .i64 a1,.int .i64 a2] rfl (taac) ?_;(with_reducible refine (spec_l1Least.calls a1 a2 t349 _ A8.out).mono ?_);rintro e w' ⟨rfl,⟨nd,rfl⟩⟩;refine ⟨_,rfl,?_⟩))
  go_loopg [7,8] k (fun kq v7 v8 w'=>∃ (x7_1:List (List Int)) (x8_1:Int),v8 = .int .i64 x8_1∧Aside0 (spec_liAll.l0 kq a0 a1 x7_1 x8_1=some r)∧Aside0 (kq≤k)∧Aside0 (Kd.S (Kd.slice 3 (Kd.int .i64)) 24 w' w.heap.size (fun _=>True) v7 x7_1)∧Aside0 (Below w.heap.size w w'))
  case atStart=>exact ⟨(([]:List (List Int))),(t349),(taae),H',⟨zcf _⟩,⟨tacf⟩,⟨taaa⟩⟩
  case round =>
   clear H';try clear p2
   try clear c4
   try clear c4b0
   try clear c4b1
   try clear c5
   try clear c5b0
   try clear c5b1
   try clear c7
   obtain ⟨x7_1,x8_1,rfl,HA,HK1,HO_7,HB⟩:=hrel;cases gk with
   | zero=>exact absurd HA.out (by simp [spec_liAll.l0])
   | succ k1 =>
    have H:=HA.out;clear HA;simp only [spec_liAll.l0] at H;have HC9:=zad H;clear H;go_upto_region 7 with (fail)
    go_cut [27] (fun v27 wc=>∃ (kq:Nat) (x27_8:Bool),v27 = .bool x27_8∧Aside0 (spec_liAll.j1 kq a0 a1 x7_1 x8_1 x27_8=some r)∧Aside0 (kq≤k1)∧Aside0 (Kd.S (Kd.slice 3 (Kd.int .i64)) 24 wc w.heap.size (fun _=>True) u7 x7_1)∧Aside0 (Below w.heap.size w wc))
    case first =>
     have H:=HC9.out;clear HC9;by_cases c10:(wrap64 (x8_1*a0))≥a1
     ·rw [if_pos c10] at H
      have c10b0:decide (a1≤(wrap64 (x8_1*a0)))=true:=zba c10;clear c10;(first | rw [c10b0] | (simp only [i64_w,i32_w];rw [c10b0]) | skip)
      have H':=zad H;clear H;go_wp2
      go_meet
      case rel=>exact ⟨_,(decide (x8_1≥0)),(taae),H',⟨tabl⟩,⟨taaw⟩,⟨taaa⟩⟩
     ·rw [if_neg c10] at H
      have c10b0:decide (a1≤(wrap64 (x8_1*a0)))=false:=zbl c10;clear c10;(first | rw [c10b0] | (simp only [i64_w,i32_w];rw [c10b0]) | skip)
      have H':=zad H;clear H;go_wp2
      go_meet
      case rel=>exact ⟨_,(false),(taae),H',⟨tabl⟩,⟨taaw⟩,⟨taaa⟩⟩
    case rest =>
     clear HC9;try clear c1
     try clear p2
     try clear c4
     try clear c4b0
     try clear c4b1
     try clear c5
     try clear c5b0
     try clear c5b1
     try clear p6
     try clear c7
     try clear c9
     try clear c10
     try clear c10b0
     try clear p2
     obtain ⟨kq,x27_8,rfl,HA,HJ8,HO_7,HB⟩:=hcut;cases kq with
     | zero=>exact absurd HA.out (by simp [spec_liAll.j1])
     | succ kj8 =>
      have H:=HA.out;clear HA;simp only [spec_liAll.j1] at H;by_cases c11:x27_8=true
      ·subst c11
       have H1:((spec_liAll.f kj8 (wrap64 (a0 - 1)) (wrap64 (a1 - x8_1)) x8_1).bind fun t350=>(spec_liAll.l1 kj8 a0 a1 x7_1 x8_1 t350 (t350.length:Int) 0))=some r:=by rw [if_pos rfl] at H;exact H
       clear H;have H:=H1;clear H1;replace H:=zay.mp H;obtain ⟨t350,A120,H⟩:=H;replace H:(spec_liAll.l1 kj8 a0 a1 x7_1 x8_1 t350 (t350.length:Int) 0)=some r:=H;have A12:=zad A120;clear A120;have H':=zad H;clear H;go_wp2_with (first | ((with_reducible refine zbj (f:=93) rfl ?_);refine zbr (some 36) rfl rfl Tryz.func93 (by kernel_rfl) rfl #[.int .i64 (wrap64 (a0 - 1)),.int .i64 (wrap64 (a1 - x8_1)),.int .i64 x8_1] rfl (taac) ?_;(with_reducible refine (ih kj8 (by have:=HK1.out;have:=HJ8.out;omega) (wrap64 (a0 - 1)) (wrap64 (a1 - x8_1)) x8_1 t350 _ A12.out).mono ?_);rintro e w13 ⟨v351,rfl,ho0,hb⟩;refine ⟨_,rfl,?_⟩;have n0_:=zad (Kd.S_elder' (taaw) (Kd.S_base ho0) hb);have n1_:=zad (Kd.S_lower (Kd.S_new' ho0 (Kd.S_lt (taaw))) (zbo (taaa)));have n2_:=zad (zbi (taaa) hb);clear HO_7 HB;have HO_7:=n0_;have HO352:=n1_;have HB:=n2_;clear n0_ n1_ n2_;(try clear hb);(try clear hb2);(try clear hk);(try clear hi);(try clear ho0);obtain ⟨Ao14,co14,eo14⟩:=Kd.S_slice HO352.out;subst eo14))
       go_loopg [7,38] kj8 (fun kq v7 v38 w'=>∃ (x7_3:List (List Int)) (x38_3:Int),v38 = .int .i64 x38_3∧Aside0 (spec_liAll.l1 kq a0 a1 x7_3 x8_1 t350 (t350.length:Int) x38_3=some r)∧Aside0 (kq≤kj8)∧Aside0 (Kd.S (Kd.slice 3 (Kd.int .i64)) 24 w' w.heap.size (fun k_=>some k_≠((.slice Ao14 t350.length co14):Value).ownBlock) v7 x7_3)∧Aside0 (Kd.S (Kd.slice 3 (Kd.int .i64)) 24 w' w.heap.size (fun k_=>some k_≠(v7:Value).ownBlock) (.slice Ao14 t350.length co14) t350)∧Aside0 (Below w.heap.size w w'))
       case atStart=>exact ⟨(x7_1),(0),(taae),H',⟨zcf _⟩,⟨tagd⟩,⟨by (with_reducible repeat (first | apply Kd.S_alloc | apply Kd.S_drewN | apply Kd.S_drew));exact Kd.S_mono HO352.out (fun _ hk=>hk.2)⟩,⟨taaa⟩⟩
       case round =>
        clear H';try clear c1
        try clear p2
        try clear c4
        try clear c4b0
        try clear c4b1
        try clear c5
        try clear c5b0
        try clear c5b1
        try clear p6
        try clear c7
        try clear c9
        try clear c10
        try clear c10b0
        try clear c11
        try clear p2
        try clear p6
        obtain ⟨x7_3,x38_3,rfl,HA,HK3,HO_7,HO_36,HB⟩:=hrel;cases gk with
        | zero=>exact absurd HA.out (by simp [spec_liAll.l1])
        | succ k3 =>
         have H:=HA.out;clear HA;simp only [spec_liAll.l1] at H;by_cases c15:x38_3<(t350.length:Int)
         ·rw [if_pos c15] at H
          have c15b0:decide (x38_3<(t350.length:Int))=true:=zba c15;clear c15;by_cases c16:0≤x38_3
          ·rw [if_pos c16] at H
           have c16b0:decide (0≤x38_3)=true:=zba c16;clear c16;by_cases c17:x38_3<(t350.length:Int)
           ·rw [if_pos c17] at H
            have c17b0:decide (x38_3<(t350.length:Int))=true:=zba c17;clear c17;obtain ⟨y354,hy354⟩:∃ y_:List Int,y_=(([x8_1]:List Int)):=⟨_,rfl⟩;replace H:(if y354.length+(rd_L2 t350 x38_3).length<17592186044416 then (if x7_3.length<5864062014805 then (spec_liAll.l1 k3 a0 a1 (x7_3 ++ [(y354 ++ (rd_L2 t350 x38_3))]) x8_1 t350 (t350.length:Int) (wrap64 (x38_3+1))) else (none)) else (none))=some r:=by first | (rw [hy354];with_reducible exact H) | (have H2_:=(zbf _ _).symm.trans H;rw [hy354];with_reducible exact H2_) | (have H2_:=(zbf _ _).symm.trans H;with_reducible exact H2_) | with_reducible exact H | (rw [hy354];exact H) | exact H
            have Ny354:=zad hy354;clear hy354;by_cases c18:y354.length+(rd_L2 t350 x38_3).length<17592186044416
            ·rw [if_pos c18] at H
             have LMc18:=zad c18;clear c18;obtain ⟨y357,hy357⟩:∃ y_:List Int,y_=(y354 ++ (rd_L2 t350 x38_3)):=⟨_,rfl⟩;replace H:(if x7_3.length<5864062014805 then (spec_liAll.l1 k3 a0 a1 (x7_3 ++ [y357]) x8_1 t350 (t350.length:Int) (wrap64 (x38_3+1))) else (none))=some r:=by first | (rw [hy357];with_reducible exact H) | (have H2_:=(zbf _ _).symm.trans H;rw [hy357];with_reducible exact H2_) | (have H2_:=(zbf _ _).symm.trans H;with_reducible exact H2_) | with_reducible exact H | (rw [hy357];exact H) | exact H
             have Ny357:=zad hy357;clear hy357;by_cases c19:x7_3.length<5864062014805
             ·rw [if_pos c19] at H
              have LMc19:=zad c19;clear c19;obtain ⟨y360,hy360⟩:∃ y_:List (List Int),y_=(x7_3 ++ [y357]):=⟨_,rfl⟩;replace H:(spec_liAll.l1 k3 a0 a1 y360 x8_1 t350 (t350.length:Int) (wrap64 (x38_3+1)))=some r:=by first | (rw [hy360];with_reducible exact H) | (have H2_:=(zbf _ _).symm.trans H;rw [hy360];with_reducible exact H2_) | (have H2_:=(zbf _ _).symm.trans H;with_reducible exact H2_) | with_reducible exact H | (rw [hy360];exact H) | exact H
              have Ny360:=zad hy360;clear hy360;have H':=zad H;clear H;have p353:0≤(x38_3:Int):=zas (taab);have q353:x38_3<(t350.length:Int):=zas (taab);obtain ⟨ad353,A353_0,c353_0,e353,hx353_0,hl353_0,hi353_0⟩:=at_L2 (Kd.S_reads' HO_36.out).2.2 x38_3 p353 q353;cases e353;obtain ⟨ce353,hce353,hMe353,hcc353⟩:=Kd.S_get HO_36.out [] x38_3 p353 (by first | exact q353 | exact zas (taab) | (have e_:=(Kd.S_reads' HO_36.out).1;omega));obtain ⟨ve353_0,rfl,ge353_0⟩:=hMe353;have hv353_0:=hcc353 0 _ rfl;rw [Nat.add_zero,show ((Kd.slice 3 (Kd.int .i64))).sz=1 from rfl,Nat.mul_one] at hv353_0
              replace hv353_0:=zbg (hv353_0.symm.trans hx353_0);rw [hv353_0] at ge353_0
              have HL353_0:=zad (show Kd.R (Kd.int .i64) 3 _ _ _ _ (rd_L2 t350 x38_3) from ge353_0);clear hv353_0 ge353_0 hcc353 hce353;have HR353_0:=zad hi353_0;have HC353_0:=zad hl353_0;clear hi353_0 hl353_0;replace p353:=eq_true p353;replace q353:=eq_true q353;go_wp2_with (first | ((with_reducible refine gate_dst (N:=44) rfl ?_);refine Kd.R_lit (Kd.int .i64) _ 3 ?hg (N:=44) ?hd (xs:=([x8_1]:List Int)) (inner:=[.int .i64 x8_1]) (ok:=fun _=>True) (okp:=fun _=>True) ?hr ?hp (fun _ hk=>hk) trivial (Below.refl _ _) (zcf _) (taad) ?_;(case hd=>rfl);(case hg=>rfl);(case hr=>first | (go_simp;done) | (go_simp;rfl));(case hp=>exact (Reps.one (show Kd.M (Kd.int .i64) _ _ _ x8_1 [.int .i64 x8_1] from rfl) (Reps.none _ _)));intro v355 w20 ho21 hb hg_ hnew_;clear hg_ hnew_;(first | rw [← Ny354.out] at ho21 | (simp only [Int.reduceToNat] at ho21;rw [← Ny354.out] at ho21));have n0_:=zad (Kd.S_elder' (taaw) (zcd ho21) hb);have n1_:=zad (Kd.S_elder' (taef) (zcd ho21) hb);have n2_:=zad (zcb (tade) (zcd ho21) hb);have n3_:=zad (zby (zcc ho21 (zce (tade))) (zbo (taaa)));have n4_:=zad (Kd.C_below (tage) hb);have n5_:=zad (zbi (taaa) hb);clear HO_7 HO_36 HL353_0 HR353_0 HB;have HO_7:=n0_;have HO_36:=n1_;have HL353_0:=n2_;have HO356:=n3_;have HR353_0:=n4_;have HB:=n5_;clear n0_ n1_ n2_ n3_ n4_ n5_ hb ho21) | ((with_reducible refine gate_builtin (b := .append) (xs:=#[.tmp 44,.tmp 45]) rfl ?_);at_builtin;refine Kd.R_append_rows (Kd.int .i64) (w0:=w) w.heap.size rfl (.tmp 44) (.tmp 45) 24 3 (.int .i64 0) 8 rfl Tryz.underlying24 info3 rfl (by decide) (by omega) v355 y354 (rd_L2 t350 x38_3) _ _ _ (fun k_=>some k_≠(.slice A353_0 (rd_L2 t350 x38_3).length c353_0:Value).ownBlock) (fun _=>False) rfl rfl ?aO ?aR (fun _ _ h=>h) (fun _ h=>h.elim) ?aF ?aB ?aS ?aL ?_;(case aR=>repeat (first | exact (tage) | (with_reducible refine zal ?_ _) | (with_reducible refine zam ?_ _) | (with_reducible refine zan ?_)));(case aB=>exact (taaa));(case aF=>exact (fun k_ hk=>Kd.fresh' (zce (tade)) k_ hk));(case aO=>exact (by (with_reducible repeat (first | apply zai | apply zaj | apply zak));exact zbu HO356.out (fun _ hk=>hk.2)));(case aS=>exact (zbo (taaa)));(case aL=>have:=LMc18.out;omega);intro v358 w22 ho hb hg hat;rw [← Ny357.out] at ho;have n0_:=zad (Kd.S_after (ok:=(fun k_=>some k_≠(.slice (some ad353) t350.length co14:Value).ownBlock)) (taaw) hg hat);have n1_:=zad (Kd.S_after (ok:=(fun k_=>some k_≠(u7:Value).ownBlock)) (taef) hg hat);have n2_:=zad (Kd.R_after (ok:=(fun k_=>some k_≠(u7:Value).ownBlock∧some k_≠(.slice (some ad353) t350.length co14:Value).ownBlock)) (tade) hg hat);have n3_:=zad (hb);have n4_:=zad (ho);clear HO_7 HO_36 HL353_0 HB HO356;have HO_7:=n0_;have HO_36:=n1_;have HL353_0:=n2_;have HB:=n3_;have HO359:=n4_;clear n0_ n1_ n2_ n3_ n4_ ho hb hg hat;obtain ⟨Ao24,co24,eo24⟩:=zbz HO359.out;subst eo24) | ((with_reducible refine gate_builtin (b := .append) (xs:=#[.tmp 42,.tmp 47]) rfl ?_);at_builtin;refine Kd.S_append (Kd.slice 3 (Kd.int .i64)) (w0:=w) w.heap.size rfl (.tmp 42) (.tmp 47) 39 24 (.slice none 0 0) 24 rfl Tryz.underlying39 info24 rfl (by decide) (by omega) u7 x7_3 y357 [.slice Ao24 y357.length co24] (fun k_=>some k_≠(.slice (some ad353) t350.length co14:Value).ownBlock) (fun k_=>some k_=(.slice Ao24 y357.length co24:Value).ownBlock) rfl rfl ?aP (fun k_ hk_=>((zbu (ok':=fun k_=>((fun k_=>some k_≠(.slice (some ad353) t350.length co14:Value).ownBlock)) k_∧some k_≠(u7:Value).ownBlock) (Kd.R_apart' (Kd.R_apart' (HO359.out) (Kd.S_typed HO_36.out) (by decide)) (Kd.S_typed HO_7.out) (by decide)) (fun k_ hk=>⟨hk.1.2,hk.2⟩))).1 k_ hk_.symm) ?aF ?aO ?aB ?aS ?aL ?_;(case aP=>exact Kd.M_row (zbu (Kd.R_tight rfl (zbu (ok':=fun k_=>((fun k_=>some k_≠(.slice (some ad353) t350.length co14:Value).ownBlock)) k_∧some k_≠(u7:Value).ownBlock) (Kd.R_apart' (Kd.R_apart' (HO359.out) (Kd.S_typed HO_36.out) (by decide)) (Kd.S_typed HO_7.out) (by decide)) (fun k_ hk=>⟨hk.1.2,hk.2⟩))) (fun _ h_=>h_)));(case aB=>exact (taaa));(case aF=>exact (fun k_ hk=>Kd.fresh' (Kd.S_lt (taef)) k_ hk));(case aO=>exact (tagf));(case aS=>exact (zbo (taaa)));(case aL=>have:=LMc19.out;omega);intro v361 w23 ho hb hg hat;rw [← Ny360.out] at ho;have n0_:=zad (Kd.S_after (ok:=(fun k_=>some k_≠(.slice Ao24 y357.length co24:Value).ownBlock)) (by (with_reducible repeat (first | apply Kd.S_alloc | apply Kd.S_drewN | apply Kd.S_drew));exact Kd.S_mono HO_36.out (fun _ hk=>⟨hk.2,hk.1⟩)) hg hat);have n1_:=zad (Kd.R_after (ok:=(fun k_=>some k_≠(.slice (some ad353) t350.length co14:Value).ownBlock∧some k_≠(.slice Ao24 y357.length co24:Value).ownBlock)) (by (with_reducible repeat (first | apply zai | apply zaj | apply zak));exact zbu HL353_0.out (fun _ hk=>⟨⟨hk.1.2,hk.2⟩,hk.1.1⟩)) hg hat);have n2_:=zad (hb);have n3_:=zad (ho);clear HO_36 HL353_0 HB HO_7 HO359;have HO_36:=n0_;have HL353_0:=n1_;have HB:=n2_;have HO362:=n3_;clear n0_ n1_ n2_ n3_ ho hb hg hat))
              go_roundg k3
              case measure=>have:=HK1.out;have:=HJ8.out;have:=HK3.out;omega
              case rel=>exact ⟨(y360),(wrap64 (x38_3+1)),(taae),H',⟨by have:=HK1.out;have:=HJ8.out;have:=HK3.out;omega⟩,⟨by (with_reducible repeat (first | apply Kd.S_alloc | apply Kd.S_drewN | apply Kd.S_drew));exact HO362.out⟩,⟨by (with_reducible repeat (first | apply Kd.S_alloc | apply Kd.S_drewN | apply Kd.S_drew));exact Kd.S_mono HO_36.out (fun _ hk=>hk.2)⟩,⟨taaa⟩⟩
             ·rw [if_neg c19] at H
              exact absurd H (taad)
            ·rw [if_neg c18] at H
             exact absurd H (taad)
           ·rw [if_neg c17] at H
            exact absurd H (taad)
          ·rw [if_neg c16] at H
           exact absurd H (taad)
         ·rw [if_neg c15] at H
          have c15b0:decide (x38_3<(t350.length:Int))=false:=zbl c15;clear c15;have H':=zad H;clear H;go_wp2
          go_roundg k3
          case measure=>have:=HK1.out;have:=HJ8.out;have:=HK3.out;omega
          case rel=>exact ⟨(x7_3),(wrap64 (x8_1 - 1)),(taae),H',⟨by have:=HK1.out;have:=HJ8.out;have:=HK3.out;omega⟩,⟨tagg⟩,⟨taaa⟩⟩
      ·replace c11:=zbk.mpr c11
       subst c11;have H1:(some x7_1)=some r:=by rw [if_neg (show ¬ (false=true) by decide)] at H;exact H
       clear H;have H:=H1;clear H1;obtain rfl:=zbg H;go_wp2
       go_ret
       exact ⟨_,taah,taaw,taaa⟩
def spec_liUnder.l0:Nat→List Int→List (List Int)→List (List Int)→Int→Int→Option ((List (List Int)))
 | 0,_,_,_,_,_=>none
 | k+1,x0,x3,x10,x11,x12=>if x12<x11 then (if 0≤x12 then (if x12<(x10.length:Int) then ((spec_liBelow.f k (rd_L2 x10 x12) x0).bind fun t368=>(if t368=true then (if x3.length<5864062014805 then (spec_liUnder.l0 k x0 (x3 ++ [rd_L2 x10 x12]) x10 x11 (wrap64 (x12+1))) else (none)) else (spec_liUnder.l0 k x0 x3 x10 x11 (wrap64 (x12+1))))) else (none)) else (none)) else (some x3)
def spec_liUnder.f (k:Nat) (l0:List Int):Option ((List (List Int))):=(spec_liSum.f k l0).bind fun t363=>((spec_liAll.f k (l0.length:Int) t363 60).bind fun t364=>(spec_liUnder.l0 k l0 ([]:List (List Int)) t364 (t364.length:Int) 0))
theorem spec_liUnder.calls (k:Nat) (A0:Option Addr) (c0:Nat) (l0:List Int) (r:List (List Int)) (w:World) (hr0:Kd.C (Kd.int .i64) w A0 l0.length l0) (hc0:l0.length≤c0) (h:spec_liUnder.f k l0=some r) :
 Calls Tryz.prog 66 #[.slice A0 l0.length c0] w fun e w'=>∃ v0_:Value,e = .returned (v0_)∧Kd.N (Kd.slice 3 (Kd.int .i64)) 24 w' w.heap.size (fun k_=>(w.heap.size≤k_)) v0_ r∧Below w.heap.size w w':=by
 have HR0:=zad hr0;have HC0:=zad hc0;clear hr0 hc0;have HB:=zad (Below.refl w.heap.size w);have H:((spec_liSum.f k l0).bind fun t363=>((spec_liAll.f k (l0.length:Int) t363 60).bind fun t364=>(spec_liUnder.l0 k l0 ([]:List (List Int)) t364 (t364.length:Int) 0)))=some r:=h;clear h;replace H:=zay.mp H;obtain ⟨t363,A20,H⟩:=H;replace H:((spec_liAll.f k (l0.length:Int) t363 60).bind fun t364=>(spec_liUnder.l0 k l0 ([]:List (List Int)) t364 (t364.length:Int) 0))=some r:=H;have A2:=zad A20;clear A20;replace H:=zay.mp H;obtain ⟨t364,A30,H⟩:=H;replace H:(spec_liUnder.l0 k l0 ([]:List (List Int)) t364 (t364.length:Int) 0)=some r:=H;have A3:=zad A30;clear A30;have H':=zad H;clear H;go_enter Tryz.func66,Tryz.ntmps66;go_wp2_with (first | ((with_reducible refine zbj (f:=27) rfl ?_);refine zbr (some 9) rfl rfl Tryz.func27 (by kernel_rfl) rfl #[.slice A0 l0.length c0] rfl (taac) ?_;(with_reducible refine (spec_liSum.calls k _ _ l0 t363 _ ?side1 ?side2 A2.out).mono ?_);(case side1=>exact tahq);(case side2=>exact HC0.out);rintro e w' ⟨rfl,⟨nd,rfl⟩⟩;refine ⟨_,rfl,?_⟩) | ((with_reducible refine zbj (f:=93) rfl ?_);refine zbr (some 10) rfl rfl Tryz.func93 (by kernel_rfl) rfl #[.int .i64 (l0.length:Int),.int .i64 t363,.int .i64 60] rfl (taac) ?_;(with_reducible refine (spec_liAll.calls k (l0.length:Int) t363 60 t364 _ A3.out).mono ?_);rintro e w4 ⟨v365,rfl,ho0,hb⟩;refine ⟨_,rfl,?_⟩;have n0_:=zad (Kd.N_lower (Kd.N_mono (ok':=fun k_=>(w.heap.size≤k_)) (Kd.S_N (Kd.S_bound ho0)) (fun k_ hk_=>(Nat.le_trans (zbo (taaa)) hk_.2.1))) (zbo (taaa)));have n1_:=zad (zbi (taaa) hb);clear HB;have HO366:=n0_;have HB:=n1_;clear n0_ n1_;(try clear hb);(try clear hb2);(try clear hk);(try clear hi);(try clear ho0);obtain ⟨Ao5,co5,eo5⟩:=Kd.N_slice HO366.out;subst eo5))
 go_loopg [3,12] k (fun kq v3 v12 w'=>∃ (x3_1:List (List Int)) (x12_1:Int),v12 = .int .i64 x12_1∧Aside0 (spec_liUnder.l0 kq l0 x3_1 t364 (t364.length:Int) x12_1=some r)∧Aside0 (kq≤k)∧Aside0 (Kd.N (Kd.slice 3 (Kd.int .i64)) 24 w' w.heap.size (fun k_=>(w.heap.size≤k_)∧some k_≠((.slice Ao5 t364.length co5):Value).ownBlock) v3 x3_1)∧Aside0 (Kd.N (Kd.slice 3 (Kd.int .i64)) 24 w' w.heap.size (fun k_=>(w.heap.size≤k_)∧some k_≠(v3:Value).ownBlock) (.slice Ao5 t364.length co5) t364)∧Aside0 (Below w.heap.size w w'))
 case atStart=>exact ⟨(([]:List (List Int))),(0),(taae),H',⟨zcf _⟩,⟨tacf⟩,⟨by (with_reducible repeat (first | apply Kd.N_alloc | apply Kd.N_drewN | apply Kd.N_drew));exact Kd.N_mono HO366.out (fun _ hk=>⟨hk,(by simp [Value.ownBlock])⟩)⟩,⟨taaa⟩⟩
 case round =>
  clear H';try clear c2
  try clear p2
  obtain ⟨x3_1,x12_1,rfl,HA,HK1,HO_3,HO_10,HB⟩:=hrel;cases gk with
  | zero=>exact absurd HA.out (by simp [spec_liUnder.l0])
  | succ k1 =>
   have H:=HA.out;clear HA;simp only [spec_liUnder.l0] at H;by_cases c6:x12_1<(t364.length:Int)
   ·rw [if_pos c6] at H
    have c6b0:decide (x12_1<(t364.length:Int))=true:=zba c6;clear c6;by_cases c7:0≤x12_1
    ·rw [if_pos c7] at H
     have c7b0:decide (0≤x12_1)=true:=zba c7;clear c7;by_cases c8:x12_1<(t364.length:Int)
     ·rw [if_pos c8] at H
      have c8b0:decide (x12_1<(t364.length:Int))=true:=zba c8;clear c8;replace H:=zay.mp H;obtain ⟨t368,A90,H⟩:=H;replace H:(if t368=true then (if x3_1.length<5864062014805 then (spec_liUnder.l0 k1 l0 (x3_1 ++ [rd_L2 t364 x12_1]) t364 (t364.length:Int) (wrap64 (x12_1+1))) else (none)) else (spec_liUnder.l0 k1 l0 x3_1 t364 (t364.length:Int) (wrap64 (x12_1+1))))=some r:=H;have A9:=zad A90;clear A90;by_cases c10:t368=true
      ·subst c10
       have H1:(if x3_1.length<5864062014805 then (spec_liUnder.l0 k1 l0 (x3_1 ++ [rd_L2 t364 x12_1]) t364 (t364.length:Int) (wrap64 (x12_1+1))) else (none))=some r:=by rw [if_pos rfl] at H;exact H
       clear H;have H:=H1;clear H1;by_cases c11:x3_1.length<5864062014805
       ·rw [if_pos c11] at H
        have LMc11:=zad c11;clear c11;obtain ⟨y369,hy369⟩:∃ y_:List (List Int),y_=(x3_1 ++ [rd_L2 t364 x12_1]):=⟨_,rfl⟩;replace H:(spec_liUnder.l0 k1 l0 y369 t364 (t364.length:Int) (wrap64 (x12_1+1)))=some r:=by first | (rw [hy369];with_reducible exact H) | (have H2_:=(zbf _ _).symm.trans H;rw [hy369];with_reducible exact H2_) | (have H2_:=(zbf _ _).symm.trans H;with_reducible exact H2_) | with_reducible exact H | (rw [hy369];exact H) | exact H
        have Ny369:=zad hy369;clear hy369;have H':=zad H;clear H;have p367:0≤(x12_1:Int):=zas (taab);have q367:x12_1<(t364.length:Int):=zas (taab);obtain ⟨ad367,A367_0,c367_0,e367,hx367_0,hl367_0,hi367_0⟩:=at_L2 (Kd.N_reads' HO_10.out).2.2 x12_1 p367 q367;cases e367;obtain ⟨ce367,hce367,hMe367,hcc367⟩:=Kd.N_get HO_10.out [] x12_1 p367 (tahl);obtain ⟨ua367_0,uc367_0,rfl,ul367_0,ge367_0⟩:=Kd.FK_slice_open hMe367;have hv367_0:=hcc367 0 _ rfl;rw [Nat.add_zero,show ((Kd.slice 3 (Kd.int .i64))).sz=1 from rfl,Nat.mul_one] at hv367_0
        replace hv367_0:=zbg (hv367_0.symm.trans hx367_0);injection hv367_0 with hva_ hvn_ hvc_
        rw [hva_] at ge367_0
        rw [hvc_] at ul367_0
        have HL367_0:=zad (show Kd.V (Kd.int .i64) 3 _ w.heap.size _ _ (rd_L2 t364 x12_1) from Kd.V_mk ul367_0 ge367_0);clear hva_ hvn_ hvc_ ge367_0 ul367_0 hcc367 hce367;have HR367_0:=zad hi367_0;have HC367_0:=zad hl367_0;clear hi367_0 hl367_0;replace p367:=eq_true p367;replace q367:=eq_true q367;go_wp2_with (first | ((with_reducible refine zbj (f:=48) rfl ?_);refine zbr (some 18) rfl rfl Tryz.func48 (by kernel_rfl) rfl #[.slice A367_0 (rd_L2 t364 x12_1).length c367_0,.slice A0 l0.length c0] rfl (taac) ?_;(with_reducible refine (spec_liBelow.calls k1 _ _ (rd_L2 t364 x12_1) _ _ l0 true _ ?side1 ?side2 ?side3 ?side4 A9.out).mono ?_);(case side1=>exact tair);(case side2=>exact HC367_0.out);(case side3=>exact tahr);(case side4=>exact HC0.out);rintro e w12 ⟨rfl,hb⟩;refine ⟨_,rfl,?_⟩;have n0_:=zad (Kd.N_below (tabr) hb);have n1_:=zad (Kd.N_below (tabc) hb);have n2_:=zad (Kd.V_below (tagh) hb);have n3_:=zad (Kd.C_below (tadf) hb);have n4_:=zad (zbi (taaa) hb);clear HO_3 HO_10 HL367_0 HR367_0 HB;have HO_3:=n0_;have HO_10:=n1_;have HL367_0:=n2_;have HR367_0:=n3_;have HB:=n4_;clear n0_ n1_ n2_ n3_ n4_;(try clear hb);(try clear hb2);(try clear hk);(try clear hi)) | ((with_reducible refine gate_builtin (b := .append) (xs:=#[.tmp 19,.tmp 21]) rfl ?_);at_builtin;refine Kd.N_append (Kd.slice 3 (Kd.int .i64)) (w0:=w) w.heap.size rfl (.tmp 19) (.tmp 21) 39 24 (.slice none 0 0) 24 rfl Tryz.underlying39 info24 rfl (by decide) (by omega) u3 x3_1 (rd_L2 t364 x12_1) [.slice A367_0 (rd_L2 t364 x12_1).length c367_0] (fun k_=>(w.heap.size≤k_)∧some k_≠(.slice (some ad367) t364.length co5:Value).ownBlock) (fun k_=>((fun k_=>(w.heap.size≤k_)∧some k_≠(.slice (some ad367) t364.length co5:Value).ownBlock)) k_∧some k_≠(u3:Value).ownBlock) rfl rfl ?aP (fun _ hk=>hk) ?aF ?aO ?aB ?aS ?aL ?_;(case aP=>exact (Kd.FK_slice_mk (Kd.V_reads' (Kd.V_mono (ok':=(fun k_=>((fun k_=>(w.heap.size≤k_)∧some k_≠(.slice (some ad367) t364.length co5:Value).ownBlock)) k_∧some k_≠(u3:Value).ownBlock)) (HL367_0.out) (fun k_ hk=>⟨⟨hk.1.1,hk.2⟩,hk.1.2⟩))).2.1 (Kd.V_F (Kd.V_mono (ok':=(fun k_=>((fun k_=>(w.heap.size≤k_)∧some k_≠(.slice (some ad367) t364.length co5:Value).ownBlock)) k_∧some k_≠(u3:Value).ownBlock)) (HL367_0.out) (fun k_ hk=>⟨⟨hk.1.1,hk.2⟩,hk.1.2⟩)))));(case aB=>exact (taaa));(case aF=>exact (fun k_ hk=>⟨(Nat.le_trans (zbo (taaa)) hk),Kd.fresh' (Kd.N_lt (tabc)) k_ hk⟩));(case aO=>exact (tabr));(case aS=>exact (zbo (taaa)));(case aL=>have:=LMc11.out;omega);intro v370 w13 ho hb hg hat;rw [← Ny369.out] at ho;have n0_:=zad (Kd.N_afterv (ok:=(fun k_=>(w.heap.size≤k_))) (tabc) hg hat);have n1_:=zad (Kd.V_afterv (ok:=(fun k_=>(w.heap.size≤k_)∧some k_≠(.slice (some ad367) t364.length co5:Value).ownBlock)) (by (with_reducible repeat (first | apply zbc | apply zbd | apply zbe));exact Kd.V_mono HL367_0.out (fun _ hk=>⟨⟨hk.1.1,hk.2⟩,hk.1.2⟩)) hg hat);have n2_:=zad (hb);have n3_:=zad (ho);clear HO_10 HL367_0 HB HO_3;have HO_10:=n0_;have HL367_0:=n1_;have HB:=n2_;have HO371:=n3_;clear n0_ n1_ n2_ n3_ ho hb hg hat))
        go_roundg k1
        case measure=>have:=HK1.out;omega
        case rel=>exact ⟨(y369),(wrap64 (x12_1+1)),(taae),H',⟨taap⟩,⟨by (with_reducible repeat (first | apply Kd.N_alloc | apply Kd.N_drewN | apply Kd.N_drew));exact HO371.out⟩,⟨tabc⟩,⟨taaa⟩⟩
       ·rw [if_neg c11] at H
        exact absurd H (taad)
      ·replace c10:=zbk.mpr c10
       subst c10;have H1:(spec_liUnder.l0 k1 l0 x3_1 t364 (t364.length:Int) (wrap64 (x12_1+1)))=some r:=by rw [if_neg (show ¬ (false=true) by decide)] at H;exact H
       clear H;have H:=H1;clear H1;have H':=zad H;clear H;have p367:0≤(x12_1:Int):=zas (taab);have q367:x12_1<(t364.length:Int):=zas (taab);obtain ⟨ad367,A367_0,c367_0,e367,hx367_0,hl367_0,hi367_0⟩:=at_L2 (Kd.N_reads' HO_10.out).2.2 x12_1 p367 q367;cases e367;obtain ⟨ce367,hce367,hMe367,hcc367⟩:=Kd.N_get HO_10.out [] x12_1 p367 (tahl);obtain ⟨ua367_0,uc367_0,rfl,ul367_0,ge367_0⟩:=Kd.FK_slice_open hMe367;have hv367_0:=hcc367 0 _ rfl;rw [Nat.add_zero,show ((Kd.slice 3 (Kd.int .i64))).sz=1 from rfl,Nat.mul_one] at hv367_0
       replace hv367_0:=zbg (hv367_0.symm.trans hx367_0);injection hv367_0 with hva_ hvn_ hvc_
       rw [hva_] at ge367_0
       rw [hvc_] at ul367_0
       have HL367_0:=zad (show Kd.V (Kd.int .i64) 3 _ w.heap.size _ _ (rd_L2 t364 x12_1) from Kd.V_mk ul367_0 ge367_0);clear hva_ hvn_ hvc_ ge367_0 ul367_0 hcc367 hce367;have HR367_0:=zad hi367_0;have HC367_0:=zad hl367_0;clear hi367_0 hl367_0;replace p367:=eq_true p367;replace q367:=eq_true q367;go_wp2_with (first | ((with_reducible refine zbj (f:=48) rfl ?_);refine zbr (some 18) rfl rfl Tryz.func48 (by kernel_rfl) rfl #[.slice A367_0 (rd_L2 t364 x12_1).length c367_0,.slice A0 l0.length c0] rfl (taac) ?_;(with_reducible refine (spec_liBelow.calls k1 _ _ (rd_L2 t364 x12_1) _ _ l0 false _ ?side1 ?side2 ?side3 ?side4 A9.out).mono ?_);(case side1=>exact tair);(case side2=>exact HC367_0.out);(case side3=>exact tahr);(case side4=>exact HC0.out);rintro e w14 ⟨rfl,hb⟩;refine ⟨_,rfl,?_⟩;have n0_:=zad (Kd.N_below (tabr) hb);have n1_:=zad (Kd.N_below (tabc) hb);have n2_:=zad (Kd.V_below (tagh) hb);have n3_:=zad (Kd.C_below (tadf) hb);have n4_:=zad (zbi (taaa) hb);clear HO_3 HO_10 HL367_0 HR367_0 HB;have HO_3:=n0_;have HO_10:=n1_;have HL367_0:=n2_;have HR367_0:=n3_;have HB:=n4_;clear n0_ n1_ n2_ n3_ n4_;(try clear hb);(try clear hb2);(try clear hk);(try clear hi)))
       go_roundg k1
       case measure=>have:=HK1.out;omega
       case rel=>exact ⟨(x3_1),(wrap64 (x12_1+1)),(taae),H',⟨taap⟩,⟨tabr⟩,⟨tabc⟩,⟨taaa⟩⟩
     ·rw [if_neg c8] at H
      exact absurd H (taad)
    ·rw [if_neg c7] at H
     exact absurd H (taad)
   ·rw [if_neg c6] at H
    have c6b0:decide (x12_1<(t364.length:Int))=false:=zbl c6;clear c6;obtain rfl:=zbg H;go_wp2
    go_ret
    exact ⟨_,taah,by (with_reducible repeat (first | apply Kd.N_alloc | apply Kd.N_drewN | apply Kd.N_drew));exact Kd.N_mono HO_3.out (fun _ hk=>hk.1),taaa⟩
mutual
def spec_liGifts.l0:Nat→List Int→List (List Int)→Int→Int→Option ((List (List Int)))
 | 0,_,_,_,_=>none
 | k+1,x0,x3,x8,x9=>if x9<x8 then (spec_liGifts.l1 k x0 x3 x9 x8 x9 (x0.length:Int) 0) else (some x3)
def spec_liGifts.l1:Nat→List Int→List (List Int)→Int→Int→Int→Int→Int→Option ((List (List Int)))
 | 0,_,_,_,_,_,_,_=>none
 | k+1,x0,x3,x4,x8,x9,x13,x14=>if x14<x13 then (if 0≤x4 then (if x4<(x0.length:Int) then (if 0≤x14 then (if x14<(x0.length:Int) then (if (rd x0 x4)≥(wrap64 ((rd x0 x14)+2)) then ((spec_l1Own.f x0).bind fun t374=>(if x4<(t374.length:Int) then ((some (t374.set (x4:Int).toNat (wrap64 ((rd t374 x4) - 1)):List Int)).bind fun y378=>(if x14<(t374.length:Int) then ((spec_liRank.f k (y378.set (x14:Int).toNat (wrap64 ((rd y378 x14)+1)))).bind fun t381=>(if x3.length<5864062014805 then (spec_liGifts.l1 k x0 (x3 ++ [t381]) x4 x8 x9 x13 (wrap64 (x14+1))) else (none))) else (none))) else (none))) else (spec_liGifts.l1 k x0 x3 x4 x8 x9 x13 (wrap64 (x14+1)))) else (none)) else (none)) else (none)) else (none)) else (spec_liGifts.l0 k x0 x3 x8 (wrap64 (x9+1)))
end
def spec_liGifts.f (k:Nat) (l0:List Int):Option ((List (List Int))):=spec_liGifts.l0 k l0 ([]:List (List Int)) (l0.length:Int) 0
theorem spec_liGifts.calls (k:Nat) (A0:Option Addr) (c0:Nat) (l0:List Int) (r:List (List Int)) (w:World) (hr0:Kd.C (Kd.int .i64) w A0 l0.length l0) (hc0:l0.length≤c0) (h:spec_liGifts.f k l0=some r) :
 Calls Tryz.prog 67 #[.slice A0 l0.length c0] w fun e w'=>∃ v0_:Value,e = .returned (v0_)∧Kd.S (Kd.slice 3 (Kd.int .i64)) 24 w' w.heap.size (fun _=>True) v0_ r∧Below w.heap.size w w':=by
 have HR0:=zad hr0;have HC0:=zad hc0;clear hr0 hc0;have HB:=zad (Below.refl w.heap.size w);have H:(spec_liGifts.l0 k l0 ([]:List (List Int)) (l0.length:Int) 0)=some r:=h;clear h;have H':=zad H;clear H;go_enter Tryz.func67,Tryz.ntmps67;go_wp2
 repeat (go_quiet (fail);try go_wp2)
 go_loopg [3,9] k (fun kq v3 v9 w'=>∃ (x3_1:List (List Int)) (x9_1:Int),v9 = .int .i64 x9_1∧Aside0 (spec_liGifts.l0 kq l0 x3_1 (l0.length:Int) x9_1=some r)∧Aside0 (kq≤k)∧Aside0 (Kd.S (Kd.slice 3 (Kd.int .i64)) 24 w' w.heap.size (fun _=>True) v3 x3_1)∧Aside0 (Below w.heap.size w w'))
 case atStart=>exact ⟨(([]:List (List Int))),(0),(taae),H',⟨zcf _⟩,⟨tacf⟩,⟨taaa⟩⟩
 case round =>
  clear H';obtain ⟨x3_1,x9_1,rfl,HA,HK1,HO_3,HB⟩:=hrel;cases gk with
  | zero=>exact absurd HA.out (by simp [spec_liGifts.l0])
  | succ k1 =>
   have H:=HA.out;clear HA;simp only [spec_liGifts.l0] at H;by_cases c2:x9_1<(l0.length:Int)
   ·rw [if_pos c2] at H
    have c2b0:decide (x9_1<(l0.length:Int))=true:=zba c2;clear c2;have H':=zad H;clear H;go_wp2
    repeat (go_quiet (fail);try go_wp2)
    go_loopg [3,14] k1 (fun kq v3 v14 w'=>∃ (x3_2:List (List Int)) (x14_2:Int),v14 = .int .i64 x14_2∧Aside0 (spec_liGifts.l1 kq l0 x3_2 x9_1 (l0.length:Int) x9_1 (l0.length:Int) x14_2=some r)∧Aside0 (kq≤k1)∧Aside0 (Kd.S (Kd.slice 3 (Kd.int .i64)) 24 w' w.heap.size (fun _=>True) v3 x3_2)∧Aside0 (Below w.heap.size w w'))
    case atStart=>exact ⟨(x3_1),(0),(taae),H',⟨zcf _⟩,⟨taas⟩,⟨taaa⟩⟩
    case round =>
     clear H';try clear c2
     try clear c2b0
     try clear p2
     obtain ⟨x3_2,x14_2,rfl,HA,HK2,HO_3,HB⟩:=hrel;cases gk with
     | zero=>exact absurd HA.out (by simp [spec_liGifts.l1])
     | succ k2 =>
      have H:=HA.out;clear HA;simp only [spec_liGifts.l1] at H;by_cases c3:x14_2<(l0.length:Int)
      ·rw [if_pos c3] at H
       have c3b0:decide (x14_2<(l0.length:Int))=true:=zba c3;clear c3;by_cases c4:0≤x9_1
       ·rw [if_pos c4] at H
        have c4b0:decide (0≤x9_1)=true:=zba c4;clear c4;by_cases c5:x9_1<(l0.length:Int)
        ·rw [if_pos c5] at H
         have c5b0:decide (x9_1<(l0.length:Int))=true:=zba c5;clear c5;by_cases c6:0≤x14_2
         ·rw [if_pos c6] at H
          have c6b0:decide (0≤x14_2)=true:=zba c6;clear c6;by_cases c7:x14_2<(l0.length:Int)
          ·rw [if_pos c7] at H
           have c7b0:decide (x14_2<(l0.length:Int))=true:=zba c7;clear c7;by_cases c8:(rd l0 x9_1)≥(wrap64 ((rd l0 x14_2)+2))
           ·rw [if_pos c8] at H
            have c8b0:decide ((wrap64 ((rd l0 x14_2)+2))≤(rd l0 x9_1))=true:=zba c8;clear c8;replace H:=zay.mp H;obtain ⟨t374,A90,H⟩:=H;replace H:(if x9_1<(t374.length:Int) then ((some (t374.set (x9_1:Int).toNat (wrap64 ((rd t374 x9_1) - 1)):List Int)).bind fun y378=>(if x14_2<(t374.length:Int) then ((spec_liRank.f k2 (y378.set (x14_2:Int).toNat (wrap64 ((rd y378 x14_2)+1)))).bind fun t381=>(if x3_2.length<5864062014805 then (spec_liGifts.l1 k2 l0 (x3_2 ++ [t381]) x9_1 (l0.length:Int) x9_1 (l0.length:Int) (wrap64 (x14_2+1))) else (none))) else (none))) else (none))=some r:=H;have A9:=zad A90;clear A90;by_cases c10:x9_1<(t374.length:Int)
            ·rw [if_pos c10] at H
             have c10b0:decide (x9_1<(t374.length:Int))=true:=zba c10;clear c10;obtain ⟨y378,hy378⟩:∃ y_:List Int,y_=(t374.set (x9_1:Int).toNat (wrap64 ((rd t374 x9_1) - 1))):=⟨_,rfl⟩;replace H:(if x14_2<(t374.length:Int) then ((spec_liRank.f k2 (y378.set (x14_2:Int).toNat (wrap64 ((rd y378 x14_2)+1)))).bind fun t381=>(if x3_2.length<5864062014805 then (spec_liGifts.l1 k2 l0 (x3_2 ++ [t381]) x9_1 (l0.length:Int) x9_1 (l0.length:Int) (wrap64 (x14_2+1))) else (none))) else (none))=some r:=by first | (rw [hy378];with_reducible exact H) | (have H2_:=(zbf _ _).symm.trans H;rw [hy378];with_reducible exact H2_) | (have H2_:=(zbf _ _).symm.trans H;with_reducible exact H2_) | with_reducible exact H | (rw [hy378];exact H) | exact H
             have Ny378:=zad hy378;clear hy378;by_cases c12:x14_2<(t374.length:Int)
             ·rw [if_pos c12] at H
              have c12b0:decide (x14_2<(t374.length:Int))=true:=zba c12;clear c12;obtain ⟨y380,hy380⟩:∃ y_:List Int,y_=(y378.set (x14_2:Int).toNat (wrap64 ((rd y378 x14_2)+1))):=⟨_,rfl⟩;replace H:((spec_liRank.f k2 y380).bind fun t381=>(if x3_2.length<5864062014805 then (spec_liGifts.l1 k2 l0 (x3_2 ++ [t381]) x9_1 (l0.length:Int) x9_1 (l0.length:Int) (wrap64 (x14_2+1))) else (none)))=some r:=by first | (rw [hy380];with_reducible exact H) | (have H2_:=(zbf _ _).symm.trans H;rw [hy380];with_reducible exact H2_) | (have H2_:=(zbf _ _).symm.trans H;with_reducible exact H2_) | with_reducible exact H | (rw [hy380];exact H) | exact H
              have Ny380:=zad hy380;clear hy380;replace H:=zay.mp H;obtain ⟨t381,A140,H⟩:=H;replace H:(if x3_2.length<5864062014805 then (spec_liGifts.l1 k2 l0 (x3_2 ++ [t381]) x9_1 (l0.length:Int) x9_1 (l0.length:Int) (wrap64 (x14_2+1))) else (none))=some r:=H;have A14:=zad A140;clear A140;by_cases c15:x3_2.length<5864062014805
              ·rw [if_pos c15] at H
               have LMc15:=zad c15;clear c15;obtain ⟨y384,hy384⟩:∃ y_:List (List Int),y_=(x3_2 ++ [t381]):=⟨_,rfl⟩;replace H:(spec_liGifts.l1 k2 l0 y384 x9_1 (l0.length:Int) x9_1 (l0.length:Int) (wrap64 (x14_2+1)))=some r:=by first | (rw [hy384];with_reducible exact H) | (have H2_:=(zbf _ _).symm.trans H;rw [hy384];with_reducible exact H2_) | (have H2_:=(zbf _ _).symm.trans H;with_reducible exact H2_) | with_reducible exact H | (rw [hy384];exact H) | exact H
               have Ny384:=zad hy384;clear hy384;have H':=zad H;clear H;have p372:0≤(x9_1:Int):=zas (taab);have q372:x9_1<(l0.length:Int):=zas (taab);obtain ⟨ad372,e372,hx372_0⟩:=zca HR0.out x9_1 p372 q372;cases e372;replace hx372_0:=(HB.out.cell (zaz w _ hx372_0)).trans hx372_0;replace p372:=eq_true p372;replace q372:=eq_true q372;have p373:0≤(x14_2:Int):=zas (taab);have q373:x14_2<(l0.length:Int):=zas (taab);obtain ⟨ad373,e373,hx373_0⟩:=zca HR0.out x14_2 p373 q373;obtain rfl:ad372=ad373:=(by injection e373);replace hx373_0:=(HB.out.cell (zaz w _ hx373_0)).trans hx373_0;replace p373:=eq_true p373;replace q373:=eq_true q373;go_wp2_with (first | (go_at_call 57;(with_reducible refine (spec_l1Own.calls _ _ l0 t374 _ ?side1 ?side2 A9.out).mono ?_);(case side1=>exact tahr);(case side2=>exact HC0.out);rintro e w16 ⟨v375,rfl,ho0,hb⟩;have n0_:=zad (Kd.S_elder' (taas) (zcd ho0) hb);have n1_:=zad (zby ho0 (zbo (taaa)));have n2_:=zad (zbi (taaa) hb);clear HO_3 HB;have HO_3:=n0_;have HO376:=n1_;have HB:=n2_;clear n0_ n1_ n2_;(try clear hb);(try clear hb2);(try clear hk);(try clear hi);(try clear ho0);obtain ⟨Ao17,co17,eo17⟩:=zbz HO376.out;subst eo17;have p377:0≤(x9_1:Int):=zas (taab);have q377:x9_1<(t374.length:Int):=zas (taab);obtain ⟨ad377,e377,hx377_0⟩:=zca (zbh HO376.out).2.2 x9_1 p377 q377;cases e377;replace p377:=eq_true p377;replace q377:=eq_true q377;have p11:0≤(x9_1:Int):=zas (taab);have q11:(x9_1:Int)<((t374.length:Int):Int):=zas (taab);obtain ⟨go11,co11,eo11,gb11,gl11,cl11,HG11⟩:=Kd.R_form HO376.out (by omega);(first | cases eo11 | (injection eo11 with ea_ en_ ec_;(first | subst ea_ | (injection ea_ with ea_;subst ea_));subst ec_;clear en_));have GB11:=zad gb11;have GG11:=zad HG11;clear gb11 gl11 HG11;(first | simp only [add_plain] at hx377_0 | skip);obtain ⟨hx11_0,hf11_0⟩:=Kd.R_celln 0 HO376.out (x9_1:Int) p11 q11;replace p11:=eq_true p11;replace q11:=eq_true q11;obtain ⟨hy18_,hz18_⟩:=Kd.R_celln 0 HO376.out (x9_1:Int) (zas (taab)) (zas (taab));have HP18:=Kd.R_putg HO376.out (x9_1:Int) (wrap64 ((rd t374 x9_1) - 1))) | ((with_reducible refine gate_store (t:=3) (p:=34) rfl ?_);(try (rw [drewN_self w16];generalize hq_:World.drewN w16 _=w16;have n0_:=zad (Kd.S_at hq_ HO_3.out);have n1_:=zad (Kd.R_at hq_ HO376.out);have n2_:=zad (below_at hq_ HB.out);clear hq_ HO_3 HO376 HB;have HO_3:=n0_;have HO376:=n1_;have HB:=n2_;clear n0_ n1_ n2_;(try (obtain ⟨hy18_,hz18_⟩:=Kd.R_celln 0 HO376.out (x9_1:Int) (zas (taab)) (zas (taab))));(try (have HP18:=Kd.R_putg HO376.out (x9_1:Int) (wrap64 ((rd t374 x9_1) - 1))))));refine store_event (t:=3) (p:=34) (v := ?vo_w19) (w1:=(w16.setCell ⟨go11,(x9_1:Int).toNat,none⟩ (.int .i64 (wrap64 ((rd t374 x9_1) - 1))))) ?hg ?ho ?hn ?hr ?_;(case ho=>rfl);(case hg=>rfl);(case hn=>rfl);(case hr=>first | (go_simp;done) | (go_simp;rfl));intro w19 hw;have hg:w16.grownBy w19 (some go11):=(by rw [hw];exact HP18.2);have hp_:Kd.R (Kd.int .i64) 3 w19 w.heap.size (fun _=>True) (.slice (some ⟨go11,0,none⟩) t374.length co17) y378:=(taeg);clear HP18;have n0_:=zad (Kd.S_after (v:=(.slice (some ⟨go11,0,none⟩) t374.length co17)) (v1:=(.slice (some ⟨go11,0,none⟩) t374.length co17)) (ok:=(fun _=>True)) (taas) hg (.inl rfl));have n1_:=zad (hp_);have n2_:=zad ((by rw [hw];exact zah (HB.out) GB11.out:Below w.heap.size w w19));clear HO_3 HO376 HB;have HO_3:=n0_;have HO376:=n1_;have HB:=n2_;clear n0_ n1_ n2_ hg hw hp_;have p379:0≤(x14_2:Int):=zas (taab);have q379:x14_2<(y378.length:Int):=(by have h_:(x14_2:Int)<((t374.length:Int):Int):=zas (taab);first | (have e_:=(zbh HO376.out).1;omega) | simpa only [Ny378.out,List.length_set] using h_);have ql379:((x14_2:Int)<((t374.length:Int):Int))=True:=eq_true (zas (taab));obtain ⟨ad379,e379,hx379_0⟩:=zca (zbh HO376.out).2.2 x14_2 p379 q379;obtain rfl:(⟨go11,0,none⟩:Addr)=ad379:=(by injection e379);(first | simp only [add_plain] at hx379_0 | simp only [add_at] at hx379_0 | simp only [Addr.add,Nat.zero_add] at hx379_0 | skip);replace p379:=eq_true p379;replace q379:=eq_true q379;have p13:0≤(x14_2:Int):=zas (taab);have q13:(x14_2:Int)<((t374.length:Int):Int):=zas (taab);obtain ⟨hx13_0,hf13_0⟩:=Kd.R_celln 0 HO376.out (x14_2:Int) p13 q13;replace p13:=eq_true p13;replace q13:=eq_true q13;obtain ⟨hy20_,hz20_⟩:=Kd.R_celln 0 HO376.out (x14_2:Int) (zas (taab)) (zas (taab));have HP20:=Kd.R_putg HO376.out (x14_2:Int) (wrap64 ((rd y378 x14_2)+1))) | ((with_reducible refine gate_store (t:=3) (p:=40) rfl ?_);(try (rw [drewN_self w19];generalize hq_:World.drewN w19 _=w19;have n0_:=zad (Kd.S_at hq_ HO_3.out);have n1_:=zad (Kd.R_at hq_ HO376.out);have n2_:=zad (below_at hq_ HB.out);clear hq_ HO_3 HO376 HB;have HO_3:=n0_;have HO376:=n1_;have HB:=n2_;clear n0_ n1_ n2_;(try (obtain ⟨hy20_,hz20_⟩:=Kd.R_celln 0 HO376.out (x14_2:Int) (zas (taab)) (zas (taab))));(try (have HP20:=Kd.R_putg HO376.out (x14_2:Int) (wrap64 ((rd y378 x14_2)+1))))));refine store_event (t:=3) (p:=40) (v := ?vo_w21) (w1:=(w19.setCell ⟨go11,(x14_2:Int).toNat,none⟩ (.int .i64 (wrap64 ((rd y378 x14_2)+1))))) ?hg ?ho ?hn ?hr ?_;(case ho=>rfl);(case hg=>rfl);(case hn=>rfl);(case hr=>first | (go_simp;done) | (go_simp;rfl));intro w21 hw;have hg:w19.grownBy w21 (some go11):=(by rw [hw];exact HP20.2);have hp_:Kd.R (Kd.int .i64) 3 w21 w.heap.size (fun _=>True) (.slice (some ⟨go11,0,none⟩) t374.length co17) y380:=(taeh);clear HP20;have n0_:=zad (Kd.S_after (v:=(.slice (some ⟨go11,0,none⟩) t374.length co17)) (v1:=(.slice (some ⟨go11,0,none⟩) t374.length co17)) (ok:=(fun _=>True)) (taas) hg (.inl rfl));have n1_:=zad (hp_);have n2_:=zad ((by rw [hw];exact zah (HB.out) GB11.out:Below w.heap.size w w21));clear HO_3 HO376 HB;have HO_3:=n0_;have HO376:=n1_;have HB:=n2_;clear n0_ n1_ n2_ hg hw hp_) | (go_at_call 46;refine calls_of_args (args':=#[.slice (some ⟨go11,0,none⟩) y380.length co17]) (taei) ?_;(with_reducible refine (spec_liRank.calls k2 _ _ y380 t381 _ ?side1 ?side2 A14.out).mono ?_);(case side1=>repeat (first | exact (zbh HO376.out).2.2 | (with_reducible refine zal ?_ _) | (with_reducible refine zam ?_ _) | (with_reducible refine zan ?_)));(case side2=>rw [show y380.length=t374.length from (zbh HO376.out).1.symm];exact (zbh HO376.out).2.1);rintro e w22 ⟨v382,rfl,ho0,hb⟩;have n0_:=zad (Kd.S_elder' (taas) (zcd ho0) hb);have n1_:=zad (zcb (tabd) (zcd ho0) hb);have n2_:=zad (zby (zcc ho0 (zce (tabd))) (zbo (taaa)));have n3_:=zad (zbi (taaa) hb);clear HO_3 HO376 HB;have HO_3:=n0_;have HO376:=n1_;have HO383:=n2_;have HB:=n3_;clear n0_ n1_ n2_ n3_;(try clear hb);(try clear hb2);(try clear hk);(try clear hi);(try clear ho0);obtain ⟨Ao24,co24,eo24⟩:=zbz HO383.out;subst eo24) | ((with_reducible refine gate_builtin (b := .append) (xs:=#[.tmp 41,.tmp 44]) rfl ?_);at_builtin;refine Kd.S_append (Kd.slice 3 (Kd.int .i64)) (w0:=w) w.heap.size rfl (.tmp 41) (.tmp 44) 39 24 (.slice none 0 0) 24 rfl Tryz.underlying39 info24 rfl (by decide) (by omega) u3 x3_2 t381 [.slice Ao24 t381.length co24] (fun k_=>some k_≠(.slice (some ⟨go11,0,none⟩) t374.length co17:Value).ownBlock) (fun k_=>some k_=(.slice Ao24 t381.length co24:Value).ownBlock) rfl rfl ?aP (fun k_ hk_=>((zbu (ok':=fun k_=>((fun k_=>some k_≠(.slice (some ⟨go11,0,none⟩) t374.length co17:Value).ownBlock)) k_∧some k_≠(u3:Value).ownBlock) (Kd.R_apart' (HO383.out) (Kd.S_typed HO_3.out) (by decide)) (fun k_ hk=>⟨hk.1.2,hk.2⟩))).1 k_ hk_.symm) ?aF ?aO ?aB ?aS ?aL ?_;(case aP=>exact Kd.M_row (zbu (Kd.R_tight rfl (zbu (ok':=fun k_=>((fun k_=>some k_≠(.slice (some ⟨go11,0,none⟩) t374.length co17:Value).ownBlock)) k_∧some k_≠(u3:Value).ownBlock) (Kd.R_apart' (HO383.out) (Kd.S_typed HO_3.out) (by decide)) (fun k_ hk=>⟨hk.1.2,hk.2⟩))) (fun _ h_=>h_)));(case aB=>exact (taaa));(case aF=>exact (fun k_ hk=>Kd.fresh' (zce (tabd)) k_ hk));(case aO=>exact (taej));(case aS=>exact (zbo (taaa)));(case aL=>have:=LMc15.out;omega);intro v385 w23 ho hb hg hat;rw [← Ny384.out] at ho;have n0_:=zad (Kd.R_over' (tabd) (Kd.S_typed (taas)) (by decide) hg);have n1_:=zad (hb);have n2_:=zad (ho);clear HO376 HB HO_3 HO383;have HO376:=n0_;have HB:=n1_;have HO386:=n2_;clear n0_ n1_ n2_ ho hb hg hat))
               repeat (go_quiet (first | (go_at_call 57;(with_reducible refine (spec_l1Own.calls _ _ l0 t374 _ ?side1 ?side2 A9.out).mono ?_);(case side1=>repeat (first | exact (Kd.C_below HR0.out HB.out) | (with_reducible refine zal ?_ _) | (with_reducible refine zam ?_ _) | (with_reducible refine zan ?_)));(case side2=>exact HC0.out);rintro e w16 ⟨v375,rfl,ho0,hb⟩;have n0_:=zad (Kd.S_elder' (taas) (zcd ho0) hb);have n1_:=zad (zby ho0 (zbo (taaa)));have n2_:=zad (zbi (taaa) hb);clear HO_3 HB;have HO_3:=n0_;have HO376:=n1_;have HB:=n2_;clear n0_ n1_ n2_;(try clear hb);(try clear hb2);(try clear hk);(try clear hi);(try clear ho0);obtain ⟨Ao17,co17,eo17⟩:=zbz HO376.out;subst eo17;have p377:0≤(x9_1:Int):=zas (taab);have q377:x9_1<(t374.length:Int):=zas (taab);obtain ⟨ad377,e377,hx377_0⟩:=zca (zbh HO376.out).2.2 x9_1 p377 q377;cases e377;replace p377:=eq_true p377;replace q377:=eq_true q377;have p11:0≤(x9_1:Int):=zas (taab);have q11:(x9_1:Int)<((t374.length:Int):Int):=zas (taab);obtain ⟨go11,co11,eo11,gb11,gl11,cl11,HG11⟩:=Kd.R_form HO376.out (by omega);(first | cases eo11 | (injection eo11 with ea_ en_ ec_;(first | subst ea_ | (injection ea_ with ea_;subst ea_));subst ec_;clear en_));have GB11:=zad gb11;have GG11:=zad HG11;clear gb11 gl11 HG11;(first | simp only [add_plain] at hx377_0 | skip);obtain ⟨hx11_0,hf11_0⟩:=Kd.R_celln 0 HO376.out (x9_1:Int) p11 q11;replace p11:=eq_true p11;replace q11:=eq_true q11;obtain ⟨hy18_,hz18_⟩:=Kd.R_celln 0 HO376.out (x9_1:Int) (zas (taab)) (zas (taab));have HP18:=Kd.R_putg HO376.out (x9_1:Int) (wrap64 ((rd t374 x9_1) - 1))) | ((with_reducible refine gate_store (t:=3) (p:=34) rfl ?_);(try (rw [drewN_self w16];generalize hq_:World.drewN w16 _=w16;have n0_:=zad (Kd.S_at hq_ HO_3.out);have n1_:=zad (Kd.R_at hq_ HO376.out);have n2_:=zad (below_at hq_ HB.out);clear hq_ HO_3 HO376 HB;have HO_3:=n0_;have HO376:=n1_;have HB:=n2_;clear n0_ n1_ n2_;(try (obtain ⟨hy18_,hz18_⟩:=Kd.R_celln 0 HO376.out (x9_1:Int) (zas (taab)) (zas (taab))));(try (have HP18:=Kd.R_putg HO376.out (x9_1:Int) (wrap64 ((rd t374 x9_1) - 1))))));refine store_event (t:=3) (p:=34) (v := ?vo_w19) (w1:=(w16.setCell ⟨go11,(x9_1:Int).toNat,none⟩ (.int .i64 (wrap64 ((rd t374 x9_1) - 1))))) ?hg ?ho ?hn ?hr ?_;(case ho=>rfl);(case hg=>rfl);(case hn=>rfl);(case hr=>first | (go_simp;done) | (go_simp;rfl));intro w19 hw;have hg:w16.grownBy w19 (some go11):=(by rw [hw];exact HP18.2);have hp_:Kd.R (Kd.int .i64) 3 w19 w.heap.size (fun _=>True) (.slice (some ⟨go11,0,none⟩) t374.length co17) y378:=(taeg);clear HP18;have n0_:=zad (Kd.S_after (v:=(.slice (some ⟨go11,0,none⟩) t374.length co17)) (v1:=(.slice (some ⟨go11,0,none⟩) t374.length co17)) (ok:=(fun _=>True)) (taas) hg (.inl rfl));have n1_:=zad (hp_);have n2_:=zad ((by rw [hw];exact zah (HB.out) GB11.out:Below w.heap.size w w19));clear HO_3 HO376 HB;have HO_3:=n0_;have HO376:=n1_;have HB:=n2_;clear n0_ n1_ n2_ hg hw hp_;have p379:0≤(x14_2:Int):=zas (taab);have q379:x14_2<(y378.length:Int):=(by have h_:(x14_2:Int)<((t374.length:Int):Int):=zas (taab);first | (have e_:=(zbh HO376.out).1;omega) | simpa only [Ny378.out,List.length_set] using h_);have ql379:((x14_2:Int)<((t374.length:Int):Int))=True:=eq_true (zas (taab));obtain ⟨ad379,e379,hx379_0⟩:=zca (zbh HO376.out).2.2 x14_2 p379 q379;obtain rfl:(⟨go11,0,none⟩:Addr)=ad379:=(by injection e379);(first | simp only [add_plain] at hx379_0 | simp only [add_at] at hx379_0 | simp only [Addr.add,Nat.zero_add] at hx379_0 | skip);replace p379:=eq_true p379;replace q379:=eq_true q379;have p13:0≤(x14_2:Int):=zas (taab);have q13:(x14_2:Int)<((t374.length:Int):Int):=zas (taab);obtain ⟨hx13_0,hf13_0⟩:=Kd.R_celln 0 HO376.out (x14_2:Int) p13 q13;replace p13:=eq_true p13;replace q13:=eq_true q13;obtain ⟨hy20_,hz20_⟩:=Kd.R_celln 0 HO376.out (x14_2:Int) (zas (taab)) (zas (taab));have HP20:=Kd.R_putg HO376.out (x14_2:Int) (wrap64 ((rd y378 x14_2)+1))) | ((with_reducible refine gate_store (t:=3) (p:=40) rfl ?_);(try (rw [drewN_self w19];generalize hq_:World.drewN w19 _=w19;have n0_:=zad (Kd.S_at hq_ HO_3.out);have n1_:=zad (Kd.R_at hq_ HO376.out);have n2_:=zad (below_at hq_ HB.out);clear hq_ HO_3 HO376 HB;have HO_3:=n0_;have HO376:=n1_;have HB:=n2_;clear n0_ n1_ n2_;(try (obtain ⟨hy20_,hz20_⟩:=Kd.R_celln 0 HO376.out (x14_2:Int) (zas (taab)) (zas (taab))));(try (have HP20:=Kd.R_putg HO376.out (x14_2:Int) (wrap64 ((rd y378 x14_2)+1))))));refine store_event (t:=3) (p:=40) (v := ?vo_w21) (w1:=(w19.setCell ⟨go11,(x14_2:Int).toNat,none⟩ (.int .i64 (wrap64 ((rd y378 x14_2)+1))))) ?hg ?ho ?hn ?hr ?_;(case ho=>rfl);(case hg=>rfl);(case hn=>rfl);(case hr=>first | (go_simp;done) | (go_simp;rfl));intro w21 hw;have hg:w19.grownBy w21 (some go11):=(by rw [hw];exact HP20.2);have hp_:Kd.R (Kd.int .i64) 3 w21 w.heap.size (fun _=>True) (.slice (some ⟨go11,0,none⟩) t374.length co17) y380:=(taeh);clear HP20;have n0_:=zad (Kd.S_after (v:=(.slice (some ⟨go11,0,none⟩) t374.length co17)) (v1:=(.slice (some ⟨go11,0,none⟩) t374.length co17)) (ok:=(fun _=>True)) (taas) hg (.inl rfl));have n1_:=zad (hp_);have n2_:=zad ((by rw [hw];exact zah (HB.out) GB11.out:Below w.heap.size w w21));clear HO_3 HO376 HB;have HO_3:=n0_;have HO376:=n1_;have HB:=n2_;clear n0_ n1_ n2_ hg hw hp_) | (go_at_call 46;refine calls_of_args (args':=#[.slice (some ⟨go11,0,none⟩) y380.length co17]) (taei) ?_;(with_reducible refine (spec_liRank.calls k2 _ _ y380 t381 _ ?side1 ?side2 A14.out).mono ?_);(case side1=>repeat (first | exact (zbh HO376.out).2.2 | (with_reducible refine zal ?_ _) | (with_reducible refine zam ?_ _) | (with_reducible refine zan ?_)));(case side2=>rw [show y380.length=t374.length from (zbh HO376.out).1.symm];exact (zbh HO376.out).2.1);rintro e w22 ⟨v382,rfl,ho0,hb⟩;have n0_:=zad (Kd.S_elder' (taas) (zcd ho0) hb);have n1_:=zad (zcb (tabd) (zcd ho0) hb);have n2_:=zad (zby (zcc ho0 (zce (tabd))) (zbo (taaa)));have n3_:=zad (zbi (taaa) hb);clear HO_3 HO376 HB;have HO_3:=n0_;have HO376:=n1_;have HO383:=n2_;have HB:=n3_;clear n0_ n1_ n2_ n3_;(try clear hb);(try clear hb2);(try clear hk);(try clear hi);(try clear ho0);obtain ⟨Ao24,co24,eo24⟩:=zbz HO383.out;subst eo24) | ((with_reducible refine gate_builtin (b := .append) (xs:=#[.tmp 41,.tmp 44]) rfl ?_);at_builtin;refine Kd.S_append (Kd.slice 3 (Kd.int .i64)) (w0:=w) w.heap.size rfl (.tmp 41) (.tmp 44) 39 24 (.slice none 0 0) 24 rfl Tryz.underlying39 info24 rfl (by decide) (by omega) u3 x3_2 t381 [.slice Ao24 t381.length co24] (fun k_=>some k_≠(.slice (some ⟨go11,0,none⟩) t374.length co17:Value).ownBlock) (fun k_=>some k_=(.slice Ao24 t381.length co24:Value).ownBlock) rfl rfl ?aP (fun k_ hk_=>((zbu (ok':=fun k_=>((fun k_=>some k_≠(.slice (some ⟨go11,0,none⟩) t374.length co17:Value).ownBlock)) k_∧some k_≠(u3:Value).ownBlock) (Kd.R_apart' (HO383.out) (Kd.S_typed HO_3.out) (by decide)) (fun k_ hk=>⟨hk.1.2,hk.2⟩))).1 k_ hk_.symm) ?aF ?aO ?aB ?aS ?aL ?_;(case aP=>exact Kd.M_row (zbu (Kd.R_tight rfl (zbu (ok':=fun k_=>((fun k_=>some k_≠(.slice (some ⟨go11,0,none⟩) t374.length co17:Value).ownBlock)) k_∧some k_≠(u3:Value).ownBlock) (Kd.R_apart' (HO383.out) (Kd.S_typed HO_3.out) (by decide)) (fun k_ hk=>⟨hk.1.2,hk.2⟩))) (fun _ h_=>h_)));(case aB=>exact (taaa));(case aF=>exact (fun k_ hk=>Kd.fresh' (zce (tabd)) k_ hk));(case aO=>exact (taej));(case aS=>exact (zbo (taaa)));(case aL=>have:=LMc15.out;omega);intro v385 w23 ho hb hg hat;rw [← Ny384.out] at ho;have n0_:=zad (Kd.R_over' (tabd) (Kd.S_typed (taas)) (by decide) hg);have n1_:=zad (hb);have n2_:=zad (ho);clear HO376 HB HO_3 HO383;have HO376:=n0_;have HB:=n1_;have HO386:=n2_;clear n0_ n1_ n2_ ho hb hg hat));try go_wp2_with (first | (go_at_call 57;(with_reducible refine (spec_l1Own.calls _ _ l0 t374 _ ?side1 ?side2 A9.out).mono ?_);(case side1=>repeat (first | exact (Kd.C_below HR0.out HB.out) | (with_reducible refine zal ?_ _) | (with_reducible refine zam ?_ _) | (with_reducible refine zan ?_)));(case side2=>exact HC0.out);rintro e w16 ⟨v375,rfl,ho0,hb⟩;have n0_:=zad (Kd.S_elder' (taas) (zcd ho0) hb);have n1_:=zad (zby ho0 (zbo (taaa)));have n2_:=zad (zbi (taaa) hb);clear HO_3 HB;have HO_3:=n0_;have HO376:=n1_;have HB:=n2_;clear n0_ n1_ n2_;(try clear hb);(try clear hb2);(try clear hk);(try clear hi);(try clear ho0);obtain ⟨Ao17,co17,eo17⟩:=zbz HO376.out;subst eo17;have p377:0≤(x9_1:Int):=zas (taab);have q377:x9_1<(t374.length:Int):=zas (taab);obtain ⟨ad377,e377,hx377_0⟩:=zca (zbh HO376.out).2.2 x9_1 p377 q377;cases e377;replace p377:=eq_true p377;replace q377:=eq_true q377;have p11:0≤(x9_1:Int):=zas (taab);have q11:(x9_1:Int)<((t374.length:Int):Int):=zas (taab);obtain ⟨go11,co11,eo11,gb11,gl11,cl11,HG11⟩:=Kd.R_form HO376.out (by omega);(first | cases eo11 | (injection eo11 with ea_ en_ ec_;(first | subst ea_ | (injection ea_ with ea_;subst ea_));subst ec_;clear en_));have GB11:=zad gb11;have GG11:=zad HG11;clear gb11 gl11 HG11;(first | simp only [add_plain] at hx377_0 | skip);obtain ⟨hx11_0,hf11_0⟩:=Kd.R_celln 0 HO376.out (x9_1:Int) p11 q11;replace p11:=eq_true p11;replace q11:=eq_true q11;obtain ⟨hy18_,hz18_⟩:=Kd.R_celln 0 HO376.out (x9_1:Int) (zas (taab)) (zas (taab));have HP18:=Kd.R_putg HO376.out (x9_1:Int) (wrap64 ((rd t374 x9_1) - 1))) | ((with_reducible refine gate_store (t:=3) (p:=34) rfl ?_);(try (rw [drewN_self w16];generalize hq_:World.drewN w16 _=w16;have n0_:=zad (Kd.S_at hq_ HO_3.out);have n1_:=zad (Kd.R_at hq_ HO376.out);have n2_:=zad (below_at hq_ HB.out);clear hq_ HO_3 HO376 HB;have HO_3:=n0_;have HO376:=n1_;have HB:=n2_;clear n0_ n1_ n2_;(try (obtain ⟨hy18_,hz18_⟩:=Kd.R_celln 0 HO376.out (x9_1:Int) (zas (taab)) (zas (taab))));(try (have HP18:=Kd.R_putg HO376.out (x9_1:Int) (wrap64 ((rd t374 x9_1) - 1))))));refine store_event (t:=3) (p:=34) (v := ?vo_w19) (w1:=(w16.setCell ⟨go11,(x9_1:Int).toNat,none⟩ (.int .i64 (wrap64 ((rd t374 x9_1) - 1))))) ?hg ?ho ?hn ?hr ?_;(case ho=>rfl);(case hg=>rfl);(case hn=>rfl);(case hr=>first | (go_simp;done) | (go_simp;rfl));intro w19 hw;have hg:w16.grownBy w19 (some go11):=(by rw [hw];exact HP18.2);have hp_:Kd.R (Kd.int .i64) 3 w19 w.heap.size (fun _=>True) (.slice (some ⟨go11,0,none⟩) t374.length co17) y378:=(taeg);clear HP18;have n0_:=zad (Kd.S_after (v:=(.slice (some ⟨go11,0,none⟩) t374.length co17)) (v1:=(.slice (some ⟨go11,0,none⟩) t374.length co17)) (ok:=(fun _=>True)) (taas) hg (.inl rfl));have n1_:=zad (hp_);have n2_:=zad ((by rw [hw];exact zah (HB.out) GB11.out:Below w.heap.size w w19));clear HO_3 HO376 HB;have HO_3:=n0_;have HO376:=n1_;have HB:=n2_;clear n0_ n1_ n2_ hg hw hp_;have p379:0≤(x14_2:Int):=zas (taab);have q379:x14_2<(y378.length:Int):=(by have h_:(x14_2:Int)<((t374.length:Int):Int):=zas (taab);first | (have e_:=(zbh HO376.out).1;omega) | simpa only [Ny378.out,List.length_set] using h_);have ql379:((x14_2:Int)<((t374.length:Int):Int))=True:=eq_true (zas (taab));obtain ⟨ad379,e379,hx379_0⟩:=zca (zbh HO376.out).2.2 x14_2 p379 q379;obtain rfl:(⟨go11,0,none⟩:Addr)=ad379:=(by injection e379);(first | simp only [add_plain] at hx379_0 | simp only [add_at] at hx379_0 | simp only [Addr.add,Nat.zero_add] at hx379_0 | skip);replace p379:=eq_true p379;replace q379:=eq_true q379;have p13:0≤(x14_2:Int):=zas (taab);have q13:(x14_2:Int)<((t374.length:Int):Int):=zas (taab);obtain ⟨hx13_0,hf13_0⟩:=Kd.R_celln 0 HO376.out (x14_2:Int) p13 q13;replace p13:=eq_true p13;replace q13:=eq_true q13;obtain ⟨hy20_,hz20_⟩:=Kd.R_celln 0 HO376.out (x14_2:Int) (zas (taab)) (zas (taab));have HP20:=Kd.R_putg HO376.out (x14_2:Int) (wrap64 ((rd y378 x14_2)+1))) | ((with_reducible refine gate_store (t:=3) (p:=40) rfl ?_);(try (rw [drewN_self w19];generalize hq_:World.drewN w19 _=w19;have n0_:=zad (Kd.S_at hq_ HO_3.out);have n1_:=zad (Kd.R_at hq_ HO376.out);have n2_:=zad (below_at hq_ HB.out);clear hq_ HO_3 HO376 HB;have HO_3:=n0_;have HO376:=n1_;have HB:=n2_;clear n0_ n1_ n2_;(try (obtain ⟨hy20_,hz20_⟩:=Kd.R_celln 0 HO376.out (x14_2:Int) (zas (taab)) (zas (taab))));(try (have HP20:=Kd.R_putg HO376.out (x14_2:Int) (wrap64 ((rd y378 x14_2)+1))))));refine store_event (t:=3) (p:=40) (v := ?vo_w21) (w1:=(w19.setCell ⟨go11,(x14_2:Int).toNat,none⟩ (.int .i64 (wrap64 ((rd y378 x14_2)+1))))) ?hg ?ho ?hn ?hr ?_;(case ho=>rfl);(case hg=>rfl);(case hn=>rfl);(case hr=>first | (go_simp;done) | (go_simp;rfl));intro w21 hw;have hg:w19.grownBy w21 (some go11):=(by rw [hw];exact HP20.2);have hp_:Kd.R (Kd.int .i64) 3 w21 w.heap.size (fun _=>True) (.slice (some ⟨go11,0,none⟩) t374.length co17) y380:=(taeh);clear HP20;have n0_:=zad (Kd.S_after (v:=(.slice (some ⟨go11,0,none⟩) t374.length co17)) (v1:=(.slice (some ⟨go11,0,none⟩) t374.length co17)) (ok:=(fun _=>True)) (taas) hg (.inl rfl));have n1_:=zad (hp_);have n2_:=zad ((by rw [hw];exact zah (HB.out) GB11.out:Below w.heap.size w w21));clear HO_3 HO376 HB;have HO_3:=n0_;have HO376:=n1_;have HB:=n2_;clear n0_ n1_ n2_ hg hw hp_) | (go_at_call 46;refine calls_of_args (args':=#[.slice (some ⟨go11,0,none⟩) y380.length co17]) (taei) ?_;(with_reducible refine (spec_liRank.calls k2 _ _ y380 t381 _ ?side1 ?side2 A14.out).mono ?_);(case side1=>repeat (first | exact (zbh HO376.out).2.2 | (with_reducible refine zal ?_ _) | (with_reducible refine zam ?_ _) | (with_reducible refine zan ?_)));(case side2=>rw [show y380.length=t374.length from (zbh HO376.out).1.symm];exact (zbh HO376.out).2.1);rintro e w22 ⟨v382,rfl,ho0,hb⟩;have n0_:=zad (Kd.S_elder' (taas) (zcd ho0) hb);have n1_:=zad (zcb (tabd) (zcd ho0) hb);have n2_:=zad (zby (zcc ho0 (zce (tabd))) (zbo (taaa)));have n3_:=zad (zbi (taaa) hb);clear HO_3 HO376 HB;have HO_3:=n0_;have HO376:=n1_;have HO383:=n2_;have HB:=n3_;clear n0_ n1_ n2_ n3_;(try clear hb);(try clear hb2);(try clear hk);(try clear hi);(try clear ho0);obtain ⟨Ao24,co24,eo24⟩:=zbz HO383.out;subst eo24) | ((with_reducible refine gate_builtin (b := .append) (xs:=#[.tmp 41,.tmp 44]) rfl ?_);at_builtin;refine Kd.S_append (Kd.slice 3 (Kd.int .i64)) (w0:=w) w.heap.size rfl (.tmp 41) (.tmp 44) 39 24 (.slice none 0 0) 24 rfl Tryz.underlying39 info24 rfl (by decide) (by omega) u3 x3_2 t381 [.slice Ao24 t381.length co24] (fun k_=>some k_≠(.slice (some ⟨go11,0,none⟩) t374.length co17:Value).ownBlock) (fun k_=>some k_=(.slice Ao24 t381.length co24:Value).ownBlock) rfl rfl ?aP (fun k_ hk_=>((zbu (ok':=fun k_=>((fun k_=>some k_≠(.slice (some ⟨go11,0,none⟩) t374.length co17:Value).ownBlock)) k_∧some k_≠(u3:Value).ownBlock) (Kd.R_apart' (HO383.out) (Kd.S_typed HO_3.out) (by decide)) (fun k_ hk=>⟨hk.1.2,hk.2⟩))).1 k_ hk_.symm) ?aF ?aO ?aB ?aS ?aL ?_;(case aP=>exact Kd.M_row (zbu (Kd.R_tight rfl (zbu (ok':=fun k_=>((fun k_=>some k_≠(.slice (some ⟨go11,0,none⟩) t374.length co17:Value).ownBlock)) k_∧some k_≠(u3:Value).ownBlock) (Kd.R_apart' (HO383.out) (Kd.S_typed HO_3.out) (by decide)) (fun k_ hk=>⟨hk.1.2,hk.2⟩))) (fun _ h_=>h_)));(case aB=>exact (taaa));(case aF=>exact (fun k_ hk=>Kd.fresh' (zce (tabd)) k_ hk));(case aO=>exact (taej));(case aS=>exact (zbo (taaa)));(case aL=>have:=LMc15.out;omega);intro v385 w23 ho hb hg hat;rw [← Ny384.out] at ho;have n0_:=zad (Kd.R_over' (tabd) (Kd.S_typed (taas)) (by decide) hg);have n1_:=zad (hb);have n2_:=zad (ho);clear HO376 HB HO_3 HO383;have HO376:=n0_;have HB:=n1_;have HO386:=n2_;clear n0_ n1_ n2_ ho hb hg hat)))
               go_roundg k2
               case measure=>have:=HK1.out;have:=HK2.out;omega
               case rel=>exact ⟨(y384),(wrap64 (x14_2+1)),(taae),H',⟨taba⟩,⟨by (with_reducible repeat (first | apply Kd.S_alloc | apply Kd.S_drewN | apply Kd.S_drew));exact Kd.S_mono HO386.out (fun _ hk=>trivial)⟩,⟨taaa⟩⟩
              ·rw [if_neg c15] at H
               exact absurd H (taad)
             ·rw [if_neg c12] at H
              exact absurd H (taad)
            ·rw [if_neg c10] at H
             exact absurd H (taad)
           ·rw [if_neg c8] at H
            have c8b0:decide ((wrap64 ((rd l0 x14_2)+2))≤(rd l0 x9_1))=false:=zbl c8;clear c8;have H':=zad H;clear H;have p372:0≤(x9_1:Int):=zas (taab);have q372:x9_1<(l0.length:Int):=zas (taab);obtain ⟨ad372,e372,hx372_0⟩:=zca HR0.out x9_1 p372 q372;cases e372;replace hx372_0:=(HB.out.cell (zaz w _ hx372_0)).trans hx372_0;replace p372:=eq_true p372;replace q372:=eq_true q372;have p373:0≤(x14_2:Int):=zas (taab);have q373:x14_2<(l0.length:Int):=zas (taab);obtain ⟨ad373,e373,hx373_0⟩:=zca HR0.out x14_2 p373 q373;obtain rfl:ad372=ad373:=(by injection e373);replace hx373_0:=(HB.out.cell (zaz w _ hx373_0)).trans hx373_0;replace p373:=eq_true p373;replace q373:=eq_true q373;go_wp2
            repeat (go_quiet (fail);try go_wp2)
            go_roundg k2
            case measure=>have:=HK1.out;have:=HK2.out;omega
            case rel=>exact ⟨(x3_2),(wrap64 (x14_2+1)),(taae),H',⟨taba⟩,⟨taas⟩,⟨taaa⟩⟩
          ·rw [if_neg c7] at H
           exact absurd H (taad)
         ·rw [if_neg c6] at H
          exact absurd H (taad)
        ·rw [if_neg c5] at H
         exact absurd H (taad)
       ·rw [if_neg c4] at H
        exact absurd H (taad)
      ·rw [if_neg c3] at H
       have c3b0:decide (x14_2<(l0.length:Int))=false:=zbl c3;clear c3;have H':=zad H;clear H;go_wp2
       repeat (go_quiet (fail);try go_wp2)
       go_roundg k2
       case measure=>have:=HK1.out;have:=HK2.out;omega
       case rel=>exact ⟨(x3_2),(wrap64 (x9_1+1)),(taae),H',⟨taba⟩,⟨taas⟩,⟨taaa⟩⟩
   ·rw [if_neg c2] at H
    have c2b0:decide (x9_1<(l0.length:Int))=false:=zbl c2;clear c2;obtain rfl:=zbg H;go_wp2
    repeat (go_quiet (fail);try go_wp2)
    go_ret
    exact ⟨_,taah,taas,taaa⟩
def spec_l1Most.f (a0:Int) (a1:Int):Option (Int):=if a0>a1 then (some a0) else (some a1)
theorem spec_l1Most.calls (a0:Int) (a1:Int) (r:Int) (w:World) (h:spec_l1Most.f a0 a1=some r) :
 Calls Tryz.prog 69 #[.int .i64 a0,.int .i64 a1] w fun e w'=>e = .returned (.int .i64 r)∧Drawn0 w w':=by
 have H:(if a0>a1 then (some a0) else (some a1))=some r:=h;clear h;by_cases c3:a0>a1
 ·rw [if_pos c3] at H
  have c3b0:decide (a1<a0)=true:=zba c3;clear c3;obtain rfl:=zbg H;go_enter Tryz.func69,Tryz.ntmps69;go_wp2
  go_ret
  exact ⟨taae,taak⟩
 ·rw [if_neg c3] at H
  have c3b0:decide (a1<a0)=false:=zbl c3;clear c3;obtain rfl:=zbg H;go_enter Tryz.func69,Tryz.ntmps69;go_wp2
  go_ret
  exact ⟨taae,taak⟩
theorem goesF_ {P:Program} {ops:Array Oper} {Q:Exit→Act→World→Prop} {rest:List Oper} {oi:Oper} {a:Act} {w:World} (N:Option Tmp) (hd:oi.dst=N) (hg:oi.guard=none) (t:Tmp) (g:Nat) (lb:Array Value) {xs:Array Operand} {ts:Array TypeId} (eg:∀ args w,(callFunc g args).run P w = .ok (.enter g args) w) (args:Array Value)
 (hop:oi.op = .call { callee := .value (.tmp t),args:=xs,argTypes:=ts }) (hf:a.eval (.tmp t) = .func (.func g) #[] lb) (hargs:xs.map a.eval=args)
 (h:Calls P g (args ++ lb) w fun e w'=>∃ v,e = .returned v∧wpList P ops Q rest (a.put N v) w'):wpList P ops Q (oi :: rest) a w:=by
 refine wpList_plain hg fun K hK => ?_
 have hrun:(execOp a.eval oi).run P w = .ok (.enter g (args ++ lb)) w:=by
  have he:=eg (args ++ lb) w;unfold execOp;simp only [hop,resolve,hf,Deferred.ofValue,hargs];simpa [invoke] using he
 unfold Oper.wp;rw [hrun,Oper.upon_enter];refine h.mono fun e w'' hh => ?_
 obtain ⟨v,rfl,hk⟩:=hh;subst hd;exact hK _ _ hk
theorem gateS_ {P:Program} {ops:Array Oper} {Q:Exit→Act→World→Prop} {oi:Oper} {a:Act} {w:World} {K:Act→World→Prop} {E:Prop} (N:Tmp) (_hN:oi.dst=some N) (h:if Region.wanted oi (yielded ops a.tmps)=true then Oper.wp P oi a w K Q else E):if Region.wanted oi (yielded ops a.tmps)=true then Oper.wp P oi a w K Q else E:=h
theorem goesFS_ {P:Program} {ops:Array Oper} {Q:Exit→Act→World→Prop} {oi:Oper} {a:Act} {w:World} {K:Act→World→Prop} (N:Option Tmp) (t:Tmp) (g:Nat) (lb:Array Value) {xs:Array Operand} {ts:Array TypeId} (eg:∀ args w,(callFunc g args).run P w = .ok (.enter g args) w) (args:Array Value)
 (hw:Region.wanted oi (yielded ops a.tmps)=true) (hN:oi.dst=N) (hop:oi.op = .call { callee := .value (.tmp t),args:=xs,argTypes:=ts }) (hf:a.eval (.tmp t) = .func (.func g) #[] lb) (hargs:xs.map a.eval=args)
 (h:Calls P g (args ++ lb) w fun e w'=>∃ v,e = .returned v∧K (a.put N v) w'):if Region.wanted oi (yielded ops a.tmps)=true then Oper.wp P oi a w K Q else K (a.put N undef) w:=by
 refine call_ g (args ++ lb) hw hN ?_ h
 have he:=eg (args ++ lb) w;unfold execOp;simp only [hop,resolve,hf,Deferred.ofValue,hargs];simpa [invoke] using he
def GB (w W:World) (g:Nat):Prop:=w.grownBy W (some g)
theorem gb_refl (w:World) (g:Nat):GB w w g:=World.grownBy.refl w _
theorem gb_keep {w W:World} {g:Nat} (h:GB w W g):KeepBut w W g none:=⟨h.size,fun i hi hne _=>h.block i hi (taek)⟩
theorem gb_trans {w W W':World} {g:Nat} (h:GB w W g) (k:GB W W' g):GB w W' g:=⟨k.os.trans h.os,k.tape.trans h.tape,k.output.trans h.output,Nat.le_trans h.size k.size,fun i hi hne=>(k.block i (Nat.lt_of_lt_of_le hi h.size) hne).trans (h.block i hi hne)⟩
theorem gb_below {W W':World} {g:Nat} (h:Below W.heap.size W W'):GB W W' g:=⟨h.os,h.tape,h.output,h.size,fun i hi _=>h.block i hi⟩
theorem gb_drewN {W W':World} {g:Nat} (h:GB W W' g) (m:Nat):GB W (W'.drewN m) g:=gb_trans h (gb_below (zae (Below.refl _ _) m))
theorem below_gb {w W W':World} {g:Nat} (h:Below w.heap.size w W) (k:GB W W' g) (hg:w.heap.size≤g):Below w.heap.size w W':=⟨k.os.trans h.os,k.tape.trans h.tape,k.output.trans h.output,Nat.le_trans h.size k.size,fun i hi=>(k.block i (Nat.lt_of_lt_of_le hi h.size) (by intro e;injection e with e;omega)).trans (h.block i hi)⟩
theorem gb_set0 (W:World) (g i:Nat) (u:Value):GB W (W.setCell ⟨g,i,none⟩ u) g:=⟨rfl,rfl,rfl,taad,fun k hk hne=>Below.heap_setCell W ⟨g,i,none⟩ u k (by intro e;exact hne (congrArg some e))⟩
theorem w64 {x:Int} (h1 : -9223372036854775808≤x) (h2:x≤9223372036854775807):wrap64 x=x:=by
 unfold wrap64;omega
theorem wsucc {i:Nat} {n:Nat} (h:i<n) (hn:n≤9223372036854775807):wrap64 ((i:Int)+1)=((i+1:Nat):Int):=by
 rw [w64 (by omega) (by omega)];omega
theorem rdn {xs:List Int} {i:Nat} (h:i<xs.length):rd xs (i:Int)=xs[i]:=by
 simp [rd,h]
theorem Ev.succ {α:Type} {g:Nat→Option α} {r:α} (h:Ev (fun k=>g (k+1)) r):Ev g r:=Ev.step (fun _=>rfl) h
theorem Ev.get {α:Type} {g:Nat→Option α} {r:α} (h:Ev g r):∃ k,g k=some r:=Ev.rounds h
theorem Ev.ite {α:Type} {c:Prop} [Decidable c] {g f:Nat→Option α} {r s:α} (h:c→Ev g r) (h':¬ c→Ev f s):Ev (fun k=>if c then g k else f k) (if c then r else s):=by
 by_cases hc:c
 ·simp only [hc,if_true]
  exact h hc
 ·simp only [hc,if_false]
  exact h' hc
theorem ev_all {xs:List Int} {g:Nat→Int→Option Bool} (p:Int→Bool) (hend:Ev (fun k=>g k (xs.length:Int)) true)
 (hyes:∀ (i:Nat) (h:i<xs.length) r,p xs[i]=true→Ev (fun k=>g k ((i+1:Nat):Int)) r→Ev (fun k=>g k (i:Int)) r)
 (hno:∀ (i:Nat) (h:i<xs.length),p xs[i]=false→Ev (fun k=>g k (i:Int)) false) :
 ∀ (n i:Nat),i+n=xs.length→Ev (fun k=>g k (i:Int)) ((xs.drop i).all p)
 | 0,i,h=>by
  rw [List.drop_eq_nil_of_le (by omega),show i=xs.length by omega];exact hend
 | n+1,i,h=>by
  have hi:i<xs.length:=by omega
  rw [List.drop_eq_getElem_cons hi,List.all_cons];cases hp:p xs[i]
  ·exact hno i hi hp
  ·rw [Bool.true_and]
   exact hyes i hi _ hp (ev_all p hend hyes hno n (i+1) (by omega))
theorem ev_fold {σ ρ:Type} {xs:List Int} {g:Nat→σ→Int→Option ρ} (step:σ→Int→σ) (I:σ→Nat→Prop) (fin:σ→ρ)
 (hend:∀ s,I s xs.length→Ev (fun k=>g k s (xs.length:Int)) (fin s))
 (hstep:∀ (i:Nat) (h:i<xs.length) s r,I s i→I (step s xs[i]) (i+1)→Ev (fun k=>g k (step s xs[i]) ((i+1:Nat):Int)) r→Ev (fun k=>g k s (i:Int)) r)
 (hI:∀ (i:Nat) (h:i<xs.length) s,I s i→I (step s xs[i]) (i+1)) :
 ∀ (n i:Nat) (s:σ),i+n=xs.length→I s i→Ev (fun k=>g k s (i:Int)) (fin ((xs.drop i).foldl step s))
 | 0,i,s,h,hs=>by
  have e:i=xs.length:=by omega
  subst e;rw [List.drop_eq_nil_of_le (by omega)];exact hend s hs
 | n+1,i,s,h,hs=>by
  have hi:i<xs.length:=by omega
  rw [List.drop_eq_getElem_cons hi,List.foldl_cons];exact hstep i hi s _ hs (hI i hi s hs) (ev_fold step I fin hend hstep hI n (i+1) _ (by omega) (hI i hi s hs))
theorem ev_build {α ρ:Type} {g:Nat→List α→Int→Option ρ} (L:List α) (fin:ρ) (hend:Ev (fun k=>g k L (L.length:Int)) fin)
 (hstep:∀ (i:Nat) (h:i<L.length) r,Ev (fun k=>g k (L.take i ++ [L[i]]) ((i+1:Nat):Int)) r→Ev (fun k=>g k (L.take i) (i:Int)) r) :
 ∀ (n i:Nat),i+n=L.length→Ev (fun k=>g k (L.take i) (i:Int)) fin
 | 0,i,h=>by
  have e:i=L.length:=by omega
  subst e;rw [List.take_of_length_le (zcf _)];exact hend
 | n+1,i,h=>by
  have hi:i<L.length:=by omega
  refine hstep i hi _ ?_
  rw [← List.take_succ_eq_append_getElem hi];exact ev_build L fin hend hstep n (i+1) (by omega)
theorem rdi {xs:List Int} {i:Int} (h0:0≤i) (h1:i<xs.length):rd xs i=xs[i.toNat]'(by omega):=by
 unfold rd;rw [List.getD_eq_getElem?_getD,List.getElem?_eq_getElem (by omega)];rfl
theorem l1In_eq (a b c:Int):spec_l1In.f a b c=some (decide (b≤a∧a≤c)):=by
 unfold spec_l1In.f;by_cases h:b≤a <;> simp [h]
theorem within_eq (a b c:Int):impl_within.f a b c=some (decide (b≤a∧a≤c)):=by
 unfold impl_within.f;by_cases h:b≤a <;> simp [h]
def inR (lo hi:Int) (xs:List Int):Bool:=xs.all fun x=>decide (lo≤x∧x≤hi)
theorem l1All_ev (xs:List Int) (lo hi:Int) (hx:xs.length≤9223372036854775807):Ev (fun k=>spec_l1All.f k xs lo hi) (inR lo hi xs):=by
 have h:=ev_all (xs:=xs) (g:=fun k i=>spec_l1All.l0 k lo hi xs (xs.length:Int) i) (fun x=>decide (lo≤x∧x≤hi))
  (Ev.succ (by simp only [spec_l1All.l0,if_neg (Int.lt_irrefl _)];exact Ev.now _))
  (fun i h r hp hr=>Ev.succ (by
   simp only [spec_l1All.l0,if_pos (show (i:Int)<(xs.length:Int) by omega),if_pos (show (0:Int)≤(i:Int) by omega),rdn h,l1In_eq,zbf,hp,if_true,wsucc h hx];exact hr))
  (fun i h hp=>Ev.succ (by
   simp only [spec_l1All.l0,if_pos (show (i:Int)<(xs.length:Int) by omega),if_pos (show (0:Int)≤(i:Int) by omega),rdn h,l1In_eq,zbf,hp];exact Ev.now _)) xs.length 0 (by omega)
 exact h
theorem allWithin_ev (xs:List Int) (lo hi:Int) (hx:xs.length≤9223372036854775807):Ev (fun k=>impl_allWithin.f k xs lo hi) (inR lo hi xs):=by
 have h:=ev_all (xs:=xs) (g:=fun k i=>impl_allWithin.l0 k lo hi xs (xs.length:Int) i) (fun x=>decide (lo≤x∧x≤hi))
  (Ev.succ (by simp only [impl_allWithin.l0,if_neg (Int.lt_irrefl _)];exact Ev.now _))
  (fun i h r hp hr=>Ev.succ (by
   simp only [impl_allWithin.l0,if_pos (show (i:Int)<(xs.length:Int) by omega),if_pos (show (0:Int)≤(i:Int) by omega),rdn h,within_eq,zbf,hp,if_true,wsucc h hx];exact hr))
  (fun i h hp=>Ev.succ (by
   simp only [impl_allWithin.l0,if_pos (show (i:Int)<(xs.length:Int) by omega),if_pos (show (0:Int)≤(i:Int) by omega),rdn h,within_eq,zbf,hp];exact Ev.now _)) xs.length 0 (by omega)
 exact h
def goodL (xs:List Int):Bool:=if (1:Int)≤xs.length∧(xs.length:Int)≤8 then inR 0 60 xs else false
theorem goodL_iff (xs:List Int):goodL xs=true↔1≤xs.length∧xs.length≤8∧∀ x ∈ xs,0≤x∧x≤60:=by
 unfold goodL inR;by_cases h:(1:Int)≤xs.length∧(xs.length:Int)≤8
 ·rw [if_pos h]
  simp only [List.all_eq_true,decide_eq_true_eq];exact ⟨fun h'=>⟨by omega,by omega,h'⟩,fun h'=>h'.2.2⟩
 ·rw [if_neg h]
  constructor
  ·intro h'
   cases h'
  ·intro h'
   omega
theorem liGood_ev (xs:List Int) (hx:xs.length≤9223372036854775807):Ev (fun k=>spec_liGood.f k xs) (goodL xs):=by
 unfold spec_liGood.f goodL;simp only [l1In_eq,zbf,decide_eq_true_eq];exact Ev.ite (fun _=>Ev.bind (l1All_ev xs 0 60 hx) (Ev.now _)) (fun _=>Ev.now _)
theorem implIsList_ev (xs:List Int) (hx:xs.length≤9223372036854775807):Ev (fun k=>impl_IsList.f k xs) (goodL xs):=by
 unfold impl_IsList.f goodL;simp only [within_eq,zbf,decide_eq_true_eq];exact Ev.ite (fun _=>Ev.bind (allWithin_ev xs 0 60 hx) (Ev.now _)) (fun _=>Ev.now _)
def isG (l:List Int) (f t a:Int):Bool:=decide ((0≤f∧f≤(l.length:Int) - 1)∧(0≤t∧t≤(l.length:Int) - 1)∧f≠t∧1≤a)
theorem giIs_eq (l:List Int) (f t a:Int) (hx:l.length≤1048576):spec_giIs.f l f t a=some (isG l f t a):=by
 unfold spec_giIs.f isG;simp only [l1In_eq,zbf,w64 (x:=(l.length:Int) - 1) (by omega) (by omega)];by_cases h1:0≤f∧f≤(l.length:Int) - 1
 ·by_cases h2:0≤t∧t≤(l.length:Int) - 1
  ·by_cases h3:f=t
   ·simp [h3]
   ·by_cases h4:1≤a <;> simp [h1,h2,h3,h4]
  ·simp only [zba h1,if_true,zbl h2,h2,false_and,and_false,decide_false,zbq,if_false]
 ·simp only [zbl h1,h1,false_and,decide_false,zbq,if_false]
theorem isGift_eq (l:List Int) (f t a:Int) (hx:l.length≤1048576):impl_isGift.f l f t a=some (isG l f t a):=by
 unfold impl_isGift.f isG;simp only [within_eq,zbf,w64 (x:=(l.length:Int) - 1) (by omega) (by omega)];by_cases h1:0≤f∧f≤(l.length:Int) - 1
 ·by_cases h2:0≤t∧t≤(l.length:Int) - 1
  ·by_cases h3:f=t
   ·simp [h3]
   ·by_cases h4:1≤a <;> simp [h1,h2,h3,h4]
  ·simp only [zba h1,if_true,zbl h2,h2,false_and,and_false,decide_false,zbq,if_false]
 ·simp only [zbl h1,h1,false_and,decide_false,zbq,if_false]
theorem isG_iff (l:List Int) (f t a:Int):isG l f t a=true↔(0≤f∧f<l.length)∧(0≤t∧t<l.length)∧f≠t∧1≤a:=by
 unfold isG;rw [decide_eq_true_eq];omega
theorem rd_good {l:List Int} (hg:goodL l=true) {i:Int} (h0:0≤i) (h1:i<l.length):0≤rd l i∧rd l i≤60:=by
 have h:=((goodL_iff l).1 hg).2.2;have hi:i.toNat<l.length:=by omega
 have e:rd l i=l[i.toNat]:=rdi h0 h1;rw [e];exact h _ (List.getElem_mem hi)
def canB (l:List Int) (f t a:Int):Bool:=isG l f t a && (decide (a≤rd l f) && decide (a≤60 - rd l t))
theorem canGive_eq (l:List Int) (f t a:Int) (hg:goodL l=true):impl_canGive.f l f t a=some (canB l f t a):=by
 have hb:=(goodL_iff l).1 hg;unfold impl_canGive.f canB;rw [isGift_eq l f t a (by omega)];simp only [zbf];by_cases h:isG l f t a=true
 ·obtain ⟨h1,h2,h3,h4⟩:=(isG_iff l f t a).1 h
  have b1:=rd_good hg h1.1 h1.2;have b2:=rd_good hg h2.1 h2.2;simp only [h,if_true,if_pos h1.1,if_pos h1.2,if_pos h2.1,if_pos h2.2,w64 (x:=60 - rd l t) (by omega) (by omega),Bool.true_and];by_cases c:a≤rd l f
  ·rw [if_pos c,zba c,Bool.true_and]
  ·rw [if_neg c,zbl c,Bool.false_and]
 ·have h':isG l f t a=false:=zbk.2 h
  simp only [h',zbq,if_false,Bool.false_and]
def kindB (l:List Int) (f t a:Int):Bool:=isG l f t a && (decide (a≤60) && decide (rd l t+a≤rd l f - a))
theorem giKind_eq (l:List Int) (f t a:Int) (hg:goodL l=true):spec_giKind.f l f t a=some (kindB l f t a):=by
 have hb:=(goodL_iff l).1 hg;unfold spec_giKind.f kindB;rw [giIs_eq l f t a (by omega)];simp only [zbf];by_cases h:isG l f t a=true
 ·obtain ⟨h1,h2,h3,h4⟩:=(isG_iff l f t a).1 h
  have b1:=rd_good hg h1.1 h1.2;have b2:=rd_good hg h2.1 h2.2;simp only [h,if_true,if_pos h1.1,if_pos h1.2,if_pos h2.1,if_pos h2.2,Bool.true_and];by_cases c:a≤60
  ·rw [if_pos c,zba c,Bool.true_and,w64 (x:=rd l f - a) (by omega) (by omega),w64 (x:=rd l t+a) (by omega) (by omega)]
  ·rw [if_neg c,zbl c,Bool.false_and]
 ·have h':isG l f t a=false:=zbk.2 h
  simp only [h',zbq,if_false,Bool.false_and]
theorem isKind_eq (l:List Int) (f t a:Int) (hg:goodL l=true):impl_isKind.f l f t a=some (kindB l f t a):=by
 unfold impl_isKind.f kindB;rw [canGive_eq l f t a hg];unfold canB;simp only [zbf];by_cases h:isG l f t a=true
 ·obtain ⟨h1,h2,h3,h4⟩:=(isG_iff l f t a).1 h
  have b1:=rd_good hg h1.1 h1.2;have b2:=rd_good hg h2.1 h2.2;simp only [h,if_pos h1.1,if_pos h1.2,if_pos h2.1,if_pos h2.2,Bool.true_and];by_cases c:a≤rd l f∧a≤60 - rd l t
  ·rw [zba c.1,zba c.2,zba (show a≤60 by omega),Bool.true_and,Bool.true_and,if_pos rfl,w64 (x:=rd l f - a) (by omega) (by omega),w64 (x:=rd l t+a) (by omega) (by omega)]
  ·have e:(decide (a≤rd l f) && decide (a≤60 - rd l t))=false:=by
    rw [← Bool.decide_and];exact zbl c
   have e2:(decide (a≤60) && decide (rd l t+a≤rd l f - a))=false:=by
    rw [← Bool.decide_and];exact zbl (by omega)
   simp only [e,e2,zbq,if_false]
 ·have h':isG l f t a=false:=zbk.2 h
  simp only [h',zbq,if_false,Bool.false_and]
def giveL (l:List Int) (f t a:Int):List Int:=(l.set f.toNat (rd l f - a)).set t.toNat (rd l t+a)
theorem rd_set_ne {l:List Int} {i j:Int} (x:Int) (h0:0≤i) (h1:0≤j) (h:i≠j):rd (l.set i.toNat x) j=rd l j:=by
 unfold rd;rw [List.getD_eq_getElem?_getD,List.getD_eq_getElem?_getD,List.getElem?_set_ne (by omega)]
theorem rd_set_self {l:List Int} {i:Int} (x:Int) (h0:0≤i) (h1:i<l.length):rd (l.set i.toNat x) i=x:=by
 unfold rd;rw [List.getD_eq_getElem?_getD,List.getElem?_set_self (by omega)];rfl
theorem rd_mem {l:List Int} {i:Int} (h0:0≤i) (h1:i<l.length):rd l i ∈ l:=by
 have hi:i.toNat<l.length:=by omega
 have e:rd l i=l[i.toNat]:=rdi h0 h1;rw [e];exact List.getElem_mem hi
theorem give_good (l:List Int) (f t x y:Int) (hg:goodL l=true) (h1:0≤f∧f<l.length) (h2:0≤t∧t<l.length) (h3:f≠t):goodL ((l.set f.toNat x).set t.toNat y)=true↔(0≤x∧x≤60)∧0≤y∧y≤60:=by
 have hb:=(goodL_iff l).1 hg;rw [goodL_iff];simp only [List.length_set];constructor
 ·intro h
  have e1:rd ((l.set f.toNat x).set t.toNat y) f=x:=by rw [rd_set_ne _ h2.1 h1.1 (Ne.symm h3),rd_set_self _ h1.1 h1.2]
  have e2:rd ((l.set f.toNat x).set t.toNat y) t=y:=rd_set_self _ h2.1 (tadg);have m1:=h.2.2 _ (rd_mem (l:=(l.set f.toNat x).set t.toNat y) h1.1 (by simp only [List.length_set];exact h1.2));have m2:=h.2.2 _ (rd_mem (l:=(l.set f.toNat x).set t.toNat y) h2.1 (by simp only [List.length_set];exact h2.2));rw [e1] at m1
  rw [e2] at m2
  exact ⟨m1,m2⟩
 ·rintro ⟨hx,hy⟩
  refine ⟨hb.1,hb.2.1,fun z hz => ?_⟩
  rcases List.mem_or_eq_of_mem_set hz with hz | rfl
  ·rcases List.mem_or_eq_of_mem_set hz with hz | rfl
   ·exact hb.2.2 z hz
   ·exact hx
  ·exact hy
theorem canB_iff (l:List Int) (f t a:Int):canB l f t a=true↔isG l f t a=true∧a≤rd l f∧a≤60 - rd l t:=by
 unfold canB;simp only [Bool.and_eq_true,decide_eq_true_eq]
theorem l1Own_eq (l:List Int) (hx:l.length≤1048576):spec_l1Own.f l=some l:=by
 unfold spec_l1Own.f;simp only [zbf,List.nil_append,List.length_nil,Nat.zero_add,if_pos (show l.length<17592186044416 by omega)]
theorem giDo_eq (l:List Int) (f t a:Int) (hx:l.length≤1048576) (h1:0≤f∧f<l.length) (h2:0≤t∧t<l.length) (h3:f≠t):spec_giDo.f l f t a=some ((l.set f.toNat (wrap64 (rd l f - a))).set t.toNat (wrap64 (rd l t+a))):=by
 unfold spec_giDo.f;simp only [l1Own_eq l hx,zbf,if_pos h1.1,if_pos h1.2,if_pos h2.1,if_pos h2.2,rd_set_ne _ h1.1 h2.1 h3]
theorem given_eq (l:List Int) (f t a:Int) (hx:l.length≤1048576) (h1:0≤f∧f<l.length) (h2:0≤t∧t<l.length) (h3:f≠t):impl_given.f l f t a=some ((l.set f.toNat (wrap64 (rd l f - a))).set t.toNat (wrap64 (rd l t+a))):=by
 unfold impl_given.f slices_Clone_int_int.f;simp only [if_pos (show l.length≤17592186044416 by omega),zbf,if_pos h1.1,if_pos h1.2,if_pos h2.1,if_pos h2.2,rd_set_ne _ h1.1 h2.1 h3]
theorem given_can (l:List Int) (f t a:Int) (hg:goodL l=true) (h:canB l f t a=true):impl_given.f l f t a=some (giveL l f t a):=by
 have hb:=(goodL_iff l).1 hg;obtain ⟨hG,c1,c2⟩:=(canB_iff l f t a).1 h;obtain ⟨h1,h2,h3,h4⟩:=(isG_iff l f t a).1 hG;have b1:=rd_good hg h1.1 h1.2;have b2:=rd_good hg h2.1 h2.2;rw [given_eq l f t a (by omega) h1 h2 h3,w64 (x:=rd l f - a) (by omega) (by omega),w64 (x:=rd l t+a) (by omega) (by omega)];rfl
def cardB (n:Nat) (S:Nat→Bool):Nat:=(List.range n).countP S
theorem countP_sub {α:Type} (A B D:α→Bool):∀ l:List α,(∀ x ∈ l,A x=true→B x=true∨D x=true)→l.countP A≤l.countP B+l.countP D
 | [],_=>by simp
 | x :: l,h=>by
  have ih:=countP_sub A B D l (fun y hy=>h y (List.mem_cons_of_mem _ hy));have hx:=h x List.mem_cons_self;rw [List.countP_cons,List.countP_cons,List.countP_cons];cases hA:A x with
  | false=>simp only [zbq,if_false];omega
  | true =>
   rcases hx hA with hB | hD
   ·rw [hB];simp only [if_true];omega
   ·rw [hD];simp only [if_true];omega
theorem countP_two {α:Type} (A B D:α→Bool):∀ l:List α,(∀ x ∈ l,B x=true→A x=true∧D x=false)→(∀ x ∈ l,D x=true→A x=true)→l.countP B+l.countP D≤l.countP A
 | [],_,_=>by simp
 | x :: l,h,k=>by
  have ih:=countP_two A B D l (fun y hy=>h y (List.mem_cons_of_mem _ hy)) (fun y hy=>k y (List.mem_cons_of_mem _ hy));have hx:=h x List.mem_cons_self;have kx:=k x List.mem_cons_self;rw [List.countP_cons,List.countP_cons,List.countP_cons];cases hB:B x with
  | true =>
   obtain ⟨h1,h2⟩:=hx hB;rw [h1,h2];simp only [if_true,zbq,if_false];omega
  | false =>
   cases hD:D x with
   | true =>
    rw [kx hD];simp only [if_true,zbq,if_false];omega
   | false =>
    simp only [zbq,if_false];omega
theorem cardB_pos {n:Nat} {S:Nat→Bool} {i:Nat} (hi:i<n) (h:S i=true):0<cardB n S:=by
 unfold cardB;rw [List.countP_pos_iff];exact ⟨i,List.mem_range.2 hi,h⟩
theorem cardB_ex {n:Nat} {S:Nat→Bool} (h:0<cardB n S):∃ i,i<n∧S i=true:=by
 unfold cardB at h
 rw [List.countP_pos_iff] at h
 obtain ⟨i,hi,hs⟩:=h;exact ⟨i,List.mem_range.1 hi,hs⟩
theorem cardB_one (n c:Nat):cardB n (fun j=>j == c)≤1:=by
 have h:=List.nodup_iff_count.1 (List.nodup_range (n:=n)) c;exact h
theorem cardB_le {n:Nat} {A B:Nat→Bool} (h:∀ i,i<n→A i=true→B i=true):cardB n A≤cardB n B:=List.countP_mono_left fun i hi ha=>h i (List.mem_range.1 hi) ha
def nbr (n:Nat) (P:Nat→Nat→Bool) (C S:Nat→Bool) (j:Nat):Bool:=C j && (List.range n).any fun i=>S i && P i j
theorem nbr_iff {n:Nat} {P:Nat→Nat→Bool} {C S:Nat→Bool} {j:Nat}:nbr n P C S j=true↔C j=true∧∃ i,i<n∧S i=true∧P i j=true:=by
 unfold nbr;simp only [Bool.and_eq_true,List.any_eq_true,List.mem_range]
theorem hall (n:Nat) (P:Nat→Nat→Bool):∀ (m:Nat) (R C:Nat→Bool),cardB n R≤m→(∀ S:Nat→Bool,(∀ i,i<n→S i=true→R i=true)→cardB n S≤cardB n (nbr n P C S))→∃ f:Nat→Nat,(∀ i,i<n→R i=true→f i<n∧C (f i)=true∧P i (f i)=true)∧∀ i j,i<n→j<n→R i=true→R j=true→f i=f j→i=j
 | 0,R,C,hR,_=>by
  have hno:∀ i,i<n→R i=true→False:=fun i hi h=>by have:=cardB_pos hi h;omega
  exact ⟨id,fun i hi h=>(hno i hi h).elim,fun i j hi _ h _ _=>(hno i hi h).elim⟩
 | m+1,R,C,hR,hH=>by
  by_cases hex:0<cardB n R
  ·obtain ⟨r,hr,hRr⟩:=cardB_ex hex
   by_cases hB:∃ S:Nat→Bool,(∀ i,i<n→S i=true→R i=true)∧0<cardB n S∧cardB n S<cardB n R∧cardB n (nbr n P C S)≤cardB n S
   ·obtain ⟨S,hS,h0,h1,h2⟩:=hB
    obtain ⟨f1,a1,b1⟩:=hall n P m S C (by omega) (fun T hT=>hH T (fun i hi h=>hS i hi (hT i hi h)));have hsplit:cardB n (fun i=>R i && !S i)+cardB n S≤cardB n R:=countP_two R (fun i=>R i && !S i) S (List.range n) (fun i _ h=>tagi) (fun i hi h=>hS i (List.mem_range.1 hi) h);obtain ⟨f2,a2,b2⟩:=hall n P m (fun i=>R i && !S i) (fun j=>C j && !nbr n P C S j) (by omega) (fun T hT=>by
     have hT':∀ i,i<n→T i=true→R i=true∧S i=false:=fun i hi h=>by have:=hT i hi h;simp only [Bool.and_eq_true,Bool.not_eq_true'] at this;exact this
     have e1:cardB n T+cardB n S≤cardB n (fun i=>T i || S i):=countP_two (fun i=>T i || S i) T S (List.range n) (fun i hi h=>⟨by simp [h],(hT' i (List.mem_range.1 hi) h).2⟩) (fun i _ h=>by simp [h]);have e2:=hH (fun i=>T i || S i) (fun i hi h=>by
      simp only [Bool.or_eq_true] at h
      rcases h with h | h
      ·exact (hT' i hi h).1
      ·exact hS i hi h)
     have e3:cardB n (nbr n P C (fun i=>T i || S i))≤cardB n (nbr n P (fun j=>C j && !nbr n P C S j) T)+cardB n (nbr n P C S):=countP_sub _ _ _ (List.range n) (fun j _ h=>by
      obtain ⟨hc,i,hi,hs,hp⟩:=nbr_iff.1 h;by_cases hn:nbr n P C S j=true
      ·exact .inr hn
      ·refine .inl (nbr_iff.2 ⟨by simp only [Bool.and_eq_true,Bool.not_eq_true'];exact ⟨hc,by simpa using hn⟩,i,hi,?_,hp⟩)
       simp only [Bool.or_eq_true] at hs
       rcases hs with hs | hs
       ·exact hs
       ·exact (hn (nbr_iff.2 ⟨hc,i,hi,hs,hp⟩)).elim)
     omega)
    have q1:∀ i,i<n→S i=true→nbr n P C S (f1 i)=true:=fun i hi h=>by
     obtain ⟨_,hc,hp⟩:=a1 i hi h;exact nbr_iff.2 ⟨hc,i,hi,h,hp⟩
    have q2:∀ i,i<n→R i=true→¬ S i=true→f2 i<n∧C (f2 i)=true∧nbr n P C S (f2 i)=false∧P i (f2 i)=true:=fun i hi h hs=>by
     obtain ⟨u,v,w⟩:=a2 i hi (tahj);simp only [Bool.and_eq_true,Bool.not_eq_true'] at v
     exact ⟨u,v.1,v.2,w⟩
    refine ⟨fun i=>if S i=true then f1 i else f2 i,fun i hi h => ?_,fun i j hi hj h k e => ?_⟩
    ·show (if S i=true then f1 i else f2 i)<n∧C (if S i=true then f1 i else f2 i)=true∧P i (if S i=true then f1 i else f2 i)=true
     by_cases hs:S i=true
     ·rw [if_pos hs]
      exact a1 i hi hs
     ·rw [if_neg hs]
      obtain ⟨u,v,_,w⟩:=q2 i hi h hs;exact ⟨u,v,w⟩
    ·simp only at e
     by_cases hs:S i=true
     ·by_cases ht:S j=true
      ·rw [if_pos hs,if_pos ht] at e
       exact b1 i j hi hj hs ht e
      ·rw [if_pos hs,if_neg ht] at e
       have x1:=q1 i hi hs;have x2:=(q2 j hj k ht).2.2.1;rw [e,x2] at x1
       cases x1
     ·by_cases ht:S j=true
      ·rw [if_neg hs,if_pos ht] at e
       have x1:=q1 j hj ht;have x2:=(q2 i hi h hs).2.2.1;rw [← e,x2] at x1
       cases x1
      ·rw [if_neg hs,if_neg ht] at e
       exact b2 i j hi hj (tahj) (tahm) e
   ·have hA:∀ T:Nat→Bool,(∀ i,i<n→T i=true→R i=true)→0<cardB n T→cardB n T<cardB n R→cardB n T+1≤cardB n (nbr n P C T):=fun T h1 h2 h3=>by
     have:¬ cardB n (nbr n P C T)≤cardB n T:=fun h4=>hB ⟨T,h1,h2,h3,h4⟩
     omega
    have hs1:0<cardB n (fun i=>i == r):=cardB_pos hr (taad);have hN:=hH (fun i=>i == r) (fun i _ h=>by
     have e:i=r:=by simpa using h
     rw [e];exact hRr)
    obtain ⟨c,hc,hnc⟩:=cardB_ex (show 0<cardB n (nbr n P C (fun i=>i == r)) by omega);obtain ⟨hCc,i0,_,hi0,hP⟩:=nbr_iff.1 hnc;have ei0:i0=r:=by simpa using hi0
    subst ei0;have hsplit:cardB n (fun i=>R i && !(i == i0))+cardB n (fun i=>i == i0)≤cardB n R:=countP_two R (fun i=>R i && !(i == i0)) (fun i=>i == i0) (List.range n) (fun i _ h=>tagi) (fun i _ h=>by
     have e:i=i0:=by simpa using h
     rw [e];exact hRr)
    obtain ⟨f1,a1,b1⟩:=hall n P m (fun i=>R i && !(i == i0)) (fun j=>C j && !(j == c)) (by omega) (fun T hT=>by
     by_cases ht0:0<cardB n T
     ·have hTR:∀ i,i<n→T i=true→R i=true:=fun i hi h=>by have:=hT i hi h;simp only [Bool.and_eq_true] at this;exact this.1
      have hle:cardB n T≤cardB n (fun i=>R i && !(i == i0)):=cardB_le hT;have g:=hA T hTR ht0 (by omega);have e3:cardB n (nbr n P C T)≤cardB n (nbr n P (fun j=>C j && !(j == c)) T)+cardB n (fun j=>j == c):=countP_sub _ _ _ (List.range n) (fun j _ h=>by
       obtain ⟨hcj,i,hi,hs,hp⟩:=nbr_iff.1 h;by_cases e:j=c
       ·exact .inr (by simpa using e)
       ·exact .inl (nbr_iff.2 ⟨by simp only [Bool.and_eq_true,Bool.not_eq_true'];exact ⟨hcj,by simpa using e⟩,i,hi,hs,hp⟩))
      have:=cardB_one n c;omega
     ·omega)
    have q:∀ i,i<n→R i=true→i≠i0→f1 i<n∧C (f1 i)=true∧f1 i≠c∧P i (f1 i)=true:=fun i hi h hne=>by
     obtain ⟨u,v,w⟩:=a1 i hi (by simp only [Bool.and_eq_true,Bool.not_eq_true'];exact ⟨h,by simpa using hne⟩);simp only [Bool.and_eq_true,Bool.not_eq_true'] at v
     exact ⟨u,v.1,by simpa using v.2,w⟩
    refine ⟨fun i=>if i=i0 then c else f1 i,fun i hi h => ?_,fun i j hi hj h k e => ?_⟩
    ·show (if i=i0 then c else f1 i)<n∧C (if i=i0 then c else f1 i)=true∧P i (if i=i0 then c else f1 i)=true
     by_cases hs:i=i0
     ·rw [if_pos hs,hs]
      exact ⟨hc,hCc,hP⟩
     ·rw [if_neg hs]
      obtain ⟨u,v,_,w⟩:=q i hi h hs;exact ⟨u,v,w⟩
    ·simp only at e
     by_cases hs:i=i0
     ·by_cases ht:j=i0
      ·rw [hs,ht]
      ·rw [if_pos hs,if_neg ht] at e
       exact ((q j hj k ht).2.2.1 e.symm).elim
     ·by_cases ht:j=i0
      ·rw [if_neg hs,if_pos ht] at e
       exact ((q i hi h hs).2.2.1 e).elim
      ·rw [if_neg hs,if_neg ht] at e
       exact b1 i j hi hj (tahj) (tahm) e
  ·have hno:∀ i,i<n→R i=true→False:=fun i hi h=>hex (cardB_pos hi h)
   exact ⟨id,fun i hi h=>(hno i hi h).elim,fun i j hi _ h _ _=>(hno i hi h).elim⟩
def insD:List Int→Int→List Int
 | [],x=>[x]
 | y :: ys,x=>if x≤y then y :: insD ys x else x :: y :: ys
def Desc (l:List Int):Prop:=l.Pairwise fun x y=>y≤x
theorem insD_at (x:Int):∀ (out:List Int) (j:Nat),j≤out.length→(∀ i,i<j→∀ h:i<out.length,x≤out[i])→(∀ h:j<out.length,¬ x≤out[j])→insD out x=out.take j ++ [x] ++ out.drop j
 | [],j,hj,_,_=>by simp [insD]
 | y :: ys,0,_,_,h=>by
  have:=h (taad);simp only [List.getElem_cons_zero] at this
  simp [insD,this]
 | y :: ys,j+1,hj,h1,h2=>by
  have h0:=h1 0 (by omega) (taad);simp only [List.getElem_cons_zero] at h0
  have ih:=insD_at x ys j (by simpa using hj) (fun i hi h=>by have:=h1 (i+1) (by omega) (taax);simpa using this) (fun h=>by have:=h2 (taax);simpa using this);simp only [insD,if_pos h0,ih,List.take_succ_cons,List.drop_succ_cons,List.cons_append]
theorem insD_perm (x:Int):∀ out:List Int,(insD out x).Perm (x :: out)
 | []=>List.Perm.refl _
 | y :: ys=>by
  unfold insD;split
  ·exact ((insD_perm x ys).cons y).trans (List.Perm.swap x y ys)
  ·exact List.Perm.refl _
theorem insD_length (x:Int) (out:List Int):(insD out x).length=out.length+1:=by
 rw [(insD_perm x out).length_eq,List.length_cons]
theorem insD_desc (x:Int):∀ out:List Int,Desc out→Desc (insD out x)
 | [],_=>by simp [insD,Desc]
 | y :: ys,h=>by
  unfold insD;unfold Desc at h
  rw [List.pairwise_cons] at h
  split
  ·next hc =>
   unfold Desc;rw [List.pairwise_cons];refine ⟨fun z hz => ?_,insD_desc x ys h.2⟩
   rcases List.mem_cons.1 ((insD_perm x ys).mem_iff.1 hz) with rfl | hz
   ·exact hc
   ·exact h.1 z hz
  ·next hc =>
   unfold Desc;rw [List.pairwise_cons,List.pairwise_cons];refine ⟨fun z hz => ?_,h⟩
   rcases List.mem_cons.1 hz with rfl | hz
   ·omega
   ·have:=h.1 z hz
    omega
theorem descL_perm (l:List Int):(descL l).Perm l:=List.mergeSort_perm l _
theorem descL_desc (l:List Int):Desc (descL l):=by
 unfold descL Desc;have h:=List.pairwise_mergeSort (le:=fun x y:Int=>decide (y≤x)) (fun a b c h1 h2=>by simp only [decide_eq_true_eq] at *;omega) (fun a b=>by simp only [Bool.or_eq_true,decide_eq_true_eq];omega) l;exact h.imp (fun h=>taax)
theorem desc_unique {a b:List Int} (h:a.Perm b) (ha:Desc a) (hb:Desc b):a=b :=
 List.Perm.eq_of_pairwise (le:=fun x y:Int=>y≤x) (fun x y _ _ h1 h2=>by omega) ha hb h
theorem descL_length (l:List Int):(descL l).length=l.length:=(descL_perm l).length_eq
theorem descL_mem {l:List Int} {x:Int}:x ∈ descL l↔x ∈ l:=(descL_perm l).mem_iff
theorem descL_of_desc {l:List Int} (h:Desc l):descL l=l:=desc_unique (descL_perm l) (descL_desc l) h
theorem descL_descL (l:List Int):descL (descL l)=descL l:=descL_of_desc (descL_desc l)
theorem perm_sum {a b:List Int} (h:a.Perm b):a.sum=b.sum:=by
 induction h with
 | nil=>rfl
 | cons x _ ih=>simp only [List.sum_cons,ih]
 | swap x y l=>simp only [List.sum_cons];omega
 | trans _ _ ih1 ih2=>exact ih1.trans ih2
theorem descL_sum (l:List Int):(descL l).sum=l.sum:=perm_sum (descL_perm l)
theorem foldl_ins_perm:∀ (l out:List Int),(l.foldl insD out).Perm (out ++ l)
 | [],out=>by simp
 | x :: l,out=>by
  rw [List.foldl_cons];refine (foldl_ins_perm l (insD out x)).trans ?_
  refine ((insD_perm x out).append_right l).trans ?_
  exact (List.perm_middle (a:=x) (l₁:=out) (l₂:=l)).symm
theorem foldl_ins_desc:∀ (l out:List Int),Desc out→Desc (l.foldl insD out)
 | [],out,h=>h
 | x :: l,out,h=>by
  rw [List.foldl_cons];exact foldl_ins_desc l _ (insD_desc x out h)
theorem foldl_ins (l:List Int):l.foldl insD []=descL l :=
 desc_unique ((by simpa using foldl_ins_perm l []:(l.foldl insD []).Perm l).trans (descL_perm l).symm) (foldl_ins_desc l [] (by simp [Desc])) (descL_desc l)
def Sm (l:List Int):Prop:=l.length≤1000∧∀ x ∈ l,0≤x∧x≤1000
theorem good_sm {l:List Int} (h:goodL l=true):Sm l:=by
 have:=(goodL_iff l).1 h;exact ⟨by omega,fun x hx=>by have:=this.2.2 x hx;omega⟩
theorem sm_desc {l:List Int} (h:Sm l):Sm (descL l):=⟨by rw [descL_length];exact h.1,fun x hx=>h.2 x (descL_mem.1 hx)⟩
theorem good_desc (l:List Int):goodL (descL l)=goodL l:=by
 rw [Bool.eq_iff_iff,goodL_iff,goodL_iff,descL_length];simp only [descL_mem]
theorem ranking_eq {l:List Int} (h:Sm l):impl_ranking.f l=some (descL l):=by
 unfold impl_ranking.f smallL;rw [if_pos];simp only [Bool.and_eq_true,decide_eq_true_eq,List.all_eq_true];exact ⟨by have:=h.1;omega,fun x hx=>by have:=h.2 x hx;omega⟩
theorem liRank_in (l:List Int) (x:Int) (i9:Int) (out:List Int) (hout:out.length≤1000000) (r:List Int) (hr:Ev (fun k=>spec_liRank.l0 k (insD out x) l (l.length:Int) (wrap64 (i9+1))) r) :
 ∀ (n j:Nat),j+n=out.length→(∀ i,i<j→∀ h:i<out.length,x≤out[i])→Ev (fun k=>spec_liRank.l1 k out x (j:Int) l (l.length:Int) i9) r
 | 0,j,h,hall=>by
  refine Ev.succ ?_
  have e:=insD_at x out j (by omega) hall (fun h'=>by omega);simp only [spec_liRank.l1,if_neg (show ¬ (j:Int)<(out.length:Int) by omega),if_pos (show (0:Int)≤(j:Int) by omega),if_pos (show (j:Int)≤(out.length:Int) by omega),Int.toNat_natCast,l1Own_eq (out.take j) (by rw [zax];omega),zbf,List.length_append,zax,zaw,List.length_cons,List.length_nil];simp only [if_pos (show min j out.length+(0+1)<17592186044416 by omega),if_pos (show min j out.length+(0+1)+(out.length - j)<17592186044416 by omega)];rw [e] at hr
  exact hr
 | n+1,j,h,hall=>by
  have hj:j<out.length:=by omega
  refine Ev.succ ?_
  by_cases c:x≤out[j]
  ·simp only [spec_liRank.l1,if_pos (show (j:Int)<(out.length:Int) by omega),if_pos (show (0:Int)≤(j:Int) by omega),rdn hj,if_pos (show out[j]≥x from c),wsucc hj (by omega)]
   refine liRank_in l x i9 out hout r hr n (j+1) (by omega) (fun i hi h' => ?_)
   by_cases e:i=j
   ·subst e
    exact c
   ·exact hall i (by omega) h'
  ·have e:=insD_at x out j (by omega) hall (fun h'=>c)
   simp only [spec_liRank.l1,if_pos (show (j:Int)<(out.length:Int) by omega),if_pos (show (0:Int)≤(j:Int) by omega),rdn hj,if_neg (show ¬ out[j]≥x from c),if_pos (show (j:Int)≤(out.length:Int) by omega),Int.toNat_natCast,l1Own_eq (out.take j) (by rw [zax];omega),zbf,List.length_append,zax,zaw,List.length_cons,List.length_nil];simp only [if_pos (show min j out.length+(0+1)<17592186044416 by omega),if_pos (show min j out.length+(0+1)+(out.length - j)<17592186044416 by omega)];rw [e] at hr
   exact hr
theorem liRank_ev (l:List Int) (hx:l.length≤1000000):Ev (fun k=>spec_liRank.f k l) (descL l):=by
 unfold spec_liRank.f;have h:=ev_fold (xs:=l) (g:=fun k out i=>spec_liRank.l0 k out l (l.length:Int) i) insD (fun out i=>out.length=i) id
  (fun s _=>Ev.succ (by simp only [spec_liRank.l0,if_neg (Int.lt_irrefl _)];exact Ev.now _))
  (fun i h s r hs _ hr=>Ev.succ (by
   simp only [spec_liRank.l0,if_pos (show (i:Int)<(l.length:Int) by omega),if_pos (show (0:Int)≤(i:Int) by omega),rdn h];exact liRank_in l l[i] (i:Int) s (by omega) r (by rw [wsucc h (by omega)];exact hr) s.length 0 (by omega) (fun j hj=>by omega)))
  (fun i h s hs=>by rw [insD_length,hs]) l.length 0 [] (by omega) rfl
 rw [List.drop_zero,foldl_ins] at h
 exact h
def psums:Int→List Int→List Int
 | _,[]=>[]
 | s,x :: l=>(s+x) :: psums (s+x) l
def psStep (s:List Int × Int) (x:Int):List Int × Int:=(s.1 ++ [s.2+x],s.2+x)
theorem foldl_ps:∀ (l:List Int) (s:List Int × Int),(l.foldl psStep s).1=s.1 ++ psums s.2 l
 | [],s=>by simp [psums]
 | x :: l,s=>by
  rw [List.foldl_cons,foldl_ps l];simp [psStep,psums]
theorem psums_length:∀ (l:List Int) (s:Int),(psums s l).length=l.length
 | [],_=>rfl
 | x :: l,s=>by simp [psums,psums_length l]
theorem liSums_ev (l:List Int) (h:Sm l):Ev (fun k=>spec_liSums.f k l) (psums 0 l):=by
 unfold spec_liSums.f;have hl:=h.1;have h:=ev_fold (xs:=l) (g:=fun k s i=>spec_liSums.l0 k s.1 s.2 l (l.length:Int) i) psStep (fun s i=>s.1.length=i∧0≤s.2∧s.2≤1000*(i:Int)) (fun s=>s.1)
  (fun s _=>Ev.succ (by simp only [spec_liSums.l0,if_neg (Int.lt_irrefl _)];exact Ev.now _))
  (fun i hi s r hs _ hr=>Ev.succ (by
   have hb:=h.2 _ (List.getElem_mem hi);simp only [spec_liSums.l0,if_pos (show (i:Int)<(l.length:Int) by omega),if_pos (show (0:Int)≤(i:Int) by omega),rdn hi,if_pos (show s.1.length<17592186044416 by omega),wsucc hi (by omega),w64 (x:=s.2+l[i]) (by omega) (by omega)];exact hr))
  (fun i hi s hs=>by
   have hb:=h.2 _ (List.getElem_mem hi);simp only [psStep,List.length_append,List.length_cons,List.length_nil];omega) l.length 0 ([],0) (by omega) (taad)
 rw [List.drop_zero,foldl_ps] at h
 exact h
theorem partial_l (l:List Int) (h:Sm l):Ev (fun k=>impl_partial.l0 k [] 0 l (l.length:Int) 0) (psums 0 l):=by
 have hl:=h.1;have h:=ev_fold (xs:=l) (g:=fun k s i=>impl_partial.l0 k s.1 s.2 l (l.length:Int) i) psStep (fun s i=>s.1.length=i∧0≤s.2∧s.2≤1000*(i:Int)) (fun s=>s.1)
  (fun s _=>Ev.succ (by simp only [impl_partial.l0,if_neg (Int.lt_irrefl _)];exact Ev.now _))
  (fun i hi s r hs _ hr=>Ev.succ (by
   have hb:=h.2 _ (List.getElem_mem hi);simp only [impl_partial.l0,if_pos (show (i:Int)<(l.length:Int) by omega),if_pos (show (0:Int)≤(i:Int) by omega),rdn hi,if_pos (show s.1.length<17592186044416 by omega),wsucc hi (by omega),w64 (x:=s.2+l[i]) (by omega) (by omega)];exact hr))
  (fun i hi s hs=>by
   have hb:=h.2 _ (List.getElem_mem hi);simp only [psStep,List.length_append,List.length_cons,List.length_nil];omega) l.length 0 ([],0) (by omega) (taad)
 rw [List.drop_zero,foldl_ps] at h
 exact h
def partL (l:List Int):List Int:=psums 0 (descL l)
theorem liPartial_ev (l:List Int) (h:Sm l):Ev (fun k=>spec_liPartial.f k l) (partL l):=by
 unfold spec_liPartial.f;exact Ev.bind (liRank_ev l (by have:=h.1;omega)) (Ev.bind (liSums_ev _ (sm_desc h)) (Ev.now _))
theorem partial_ev (l:List Int) (h:Sm l):Ev (fun k=>impl_partial.f k l) (partL l):=by
 unfold impl_partial.f;simp only [ranking_eq h,zbf];exact partial_l _ (sm_desc h)
theorem partL_length (l:List Int):(partL l).length=l.length:=by
 unfold partL;rw [psums_length,descL_length]
theorem foldl_add:∀ (l:List Int) (s:Int),l.foldl (fun s x=>s+x) s=s+l.sum
 | [],s=>by simp
 | x :: l,s=>by
  rw [List.foldl_cons,foldl_add l,List.sum_cons];omega
theorem liSum_ev (l:List Int) (h:Sm l):Ev (fun k=>spec_liSum.f k l) l.sum:=by
 unfold spec_liSum.f;have hl:=h.1;have h:=ev_fold (xs:=l) (g:=fun k s i=>spec_liSum.l0 k s l (l.length:Int) i) (fun s x=>s+x) (fun s i=>0≤s∧s≤1000*(i:Int)) id
  (fun s _=>Ev.succ (by simp only [spec_liSum.l0,if_neg (Int.lt_irrefl _)];exact Ev.now _))
  (fun i hi s r hs _ hr=>Ev.succ (by
   have hb:=h.2 _ (List.getElem_mem hi);simp only [spec_liSum.l0,if_pos (show (i:Int)<(l.length:Int) by omega),if_pos (show (0:Int)≤(i:Int) by omega),rdn hi,wsucc hi (by omega),w64 (x:=s+l[i]) (by omega) (by omega)];exact hr))
  (fun i hi s hs=>by
   have hb:=h.2 _ (List.getElem_mem hi);omega) l.length 0 0 (by omega) (by omega)
 rw [List.drop_zero,foldl_add,Int.zero_add] at h
 exact h
theorem total_ev (l:List Int) (h:Sm l):Ev (fun k=>impl_total.f k l) l.sum:=by
 unfold impl_total.f;have hl:=h.1;have h:=ev_fold (xs:=l) (g:=fun k s i=>impl_total.l0 k s l (l.length:Int) i) (fun s x=>s+x) (fun s i=>0≤s∧s≤1000*(i:Int)) id
  (fun s _=>Ev.succ (by simp only [impl_total.l0,if_neg (Int.lt_irrefl _)];exact Ev.now _))
  (fun i hi s r hs _ hr=>Ev.succ (by
   have hb:=h.2 _ (List.getElem_mem hi);simp only [impl_total.l0,if_pos (show (i:Int)<(l.length:Int) by omega),if_pos (show (0:Int)≤(i:Int) by omega),rdn hi,wsucc hi (by omega),w64 (x:=s+l[i]) (by omega) (by omega)];exact hr))
  (fun i hi s hs=>by
   have hb:=h.2 _ (List.getElem_mem hi);omega) l.length 0 0 (by omega) (by omega)
 rw [List.drop_zero,foldl_add,Int.zero_add] at h
 exact h
def fitB (a b:List Int):Bool:=if (a.length:Int)=(b.length:Int) then (a.sum == b.sum) else false
theorem fitB_iff (a b:List Int):fitB a b=true↔a.length=b.length∧a.sum=b.sum:=by
 unfold fitB;by_cases h:(a.length:Int)=(b.length:Int)
 ·rw [if_pos h,beq_iff_eq]
  exact ⟨fun h'=>⟨by omega,h'⟩,fun h'=>h'.2⟩
 ·rw [if_neg h]
  exact ⟨fun h'=>absurd h' (by decide),fun h'=>absurd h'.1 (by omega)⟩
theorem liFit_ev (a b:List Int) (ha:Sm a) (hb:Sm b):Ev (fun k=>spec_liFit.f k a b) (fitB a b):=by
 unfold spec_liFit.f fitB;exact Ev.ite (fun _=>Ev.bind (liSum_ev a ha) (Ev.bind (liSum_ev b hb) (Ev.now _))) (fun _=>Ev.now _)
theorem doFit_ev (a b:List Int) (ha:Sm a) (hb:Sm b):Ev (fun k=>impl_doFit.f k a b) (fitB a b):=by
 unfold impl_doFit.f fitB;exact Ev.ite (fun _=>Ev.bind (total_ev a ha) (Ev.bind (total_ev b hb) (Ev.now _))) (fun _=>Ev.now _)
theorem areLists_ev (a b:List Int) (ha:a.length≤1048576) (hb:b.length≤1048576):Ev (fun k=>impl_areLists.f k a b) (if goodL a=true then goodL b else false):=by
 unfold impl_areLists.f;exact Ev.bind (implIsList_ev a (by omega)) (Ev.ite (fun _=>Ev.bind (implIsList_ev b (by omega)) (Ev.now _)) (fun _=>Ev.now _))
def overL:Int→List Int→List Int→Int
 | i,x :: xs,y :: ys=>if x>y then i+1 else overL (i+1) xs ys
 | _,_,_=>0
theorem liOver_l (p q:List Int) (h:p.length≤q.length) (hp:p.length≤1000000):∀ (n i:Nat),i+n=p.length→Ev (fun k=>spec_liOver.l0 k p q (p.length:Int) (i:Int)) (overL (i:Int) (p.drop i) (q.drop i))
 | 0,i,hi=>by
  refine Ev.succ ?_
  simp only [spec_liOver.l0,if_neg (show ¬ (i:Int)<(p.length:Int) by omega)];rw [List.drop_eq_nil_of_le (by omega),overL];exact Ev.now _
  simp
 | n+1,i,hi=>by
  have h1:i<p.length:=by omega
  have h2:i<q.length:=by omega
  refine Ev.succ ?_
  simp only [spec_liOver.l0,if_pos (show (i:Int)<(p.length:Int) by omega),if_pos (show (i:Int)<(q.length:Int) by omega),if_pos (show (0:Int)≤(i:Int) by omega),rdn h1,rdn h2,wsucc h1 (by omega)];rw [List.drop_eq_getElem_cons h1,List.drop_eq_getElem_cons h2,overL];refine Ev.ite (fun _ => ?_) (fun _ => ?_)
  ·rw [show ((i:Int)+1)=((i+1:Nat):Int) by omega]
   exact Ev.now _
  ·rw [show ((i:Int)+1)=((i+1:Nat):Int) by omega]
   exact liOver_l p q h hp n (i+1) (by omega)
theorem refused_l (p q:List Int) (h:p.length≤q.length) (hp:p.length≤1000000):∀ (n i:Nat),i+n=p.length→Ev (fun k=>impl_refused.l0 k q p (p.length:Int) (i:Int)) (overL (i:Int) (p.drop i) (q.drop i))
 | 0,i,hi=>by
  refine Ev.succ ?_
  simp only [impl_refused.l0,if_neg (show ¬ (i:Int)<(p.length:Int) by omega)];rw [List.drop_eq_nil_of_le (by omega),overL];exact Ev.now _
  simp
 | n+1,i,hi=>by
  have h1:i<p.length:=by omega
  have h2:i<q.length:=by omega
  refine Ev.succ ?_
  simp only [impl_refused.l0,if_pos (show (i:Int)<(p.length:Int) by omega),if_pos (show (i:Int)<(q.length:Int) by omega),if_pos (show (0:Int)≤(i:Int) by omega),rdn h1,rdn h2,wsucc h1 (by omega)];rw [List.drop_eq_getElem_cons h1,List.drop_eq_getElem_cons h2,overL];refine Ev.ite (fun _ => ?_) (fun _ => ?_)
  ·rw [show ((i:Int)+1)=((i+1:Nat):Int) by omega]
   exact Ev.now _
  ·rw [show ((i:Int)+1)=((i+1:Nat):Int) by omega]
   exact refused_l p q h hp n (i+1) (by omega)
def overR (a b:List Int):Int:=overL 0 (partL a) (partL b)
theorem liOver_ev (a b:List Int) (ha:Sm a) (hb:Sm b) (h:a.length≤b.length):Ev (fun k=>spec_liOver.f k a b) (overR a b):=by
 unfold spec_liOver.f;exact Ev.bind (liPartial_ev a ha) (Ev.bind (liPartial_ev b hb) (liOver_l _ _ (by rw [partL_length,partL_length];exact h) (by rw [partL_length];have:=ha.1;omega) (partL a).length 0 (by omega)))
theorem refused_ev (a b:List Int) (ha:Sm a) (hb:Sm b) (h:a.length≤b.length):Ev (fun k=>impl_refused.f k a b) (overR a b):=by
 unfold impl_refused.f;exact Ev.bind (partial_ev b hb) (Ev.bind (partial_ev a ha) (refused_l _ _ (by rw [partL_length,partL_length];exact h) (by rw [partL_length];have:=ha.1;omega) (partL a).length 0 (by omega)))
theorem overL_zero:∀ (p q:List Int) (i:Int),0≤i→(overL i p q=0↔∀ (j:Nat) (h1:j<p.length) (h2:j<q.length),p[j]≤q[j])
 | [],q,i,_=>by simp [overL]
 | x :: p,[],i,_=>by simp [overL]
 | x :: p,y :: q,i,h=>by
  unfold overL;by_cases c:x>y
  ·rw [if_pos c]
   refine ⟨fun h'=>by omega,fun h' => ?_⟩
   have:=h' 0 (taad) (taad);simp only [List.getElem_cons_zero] at this
   omega
  ·rw [if_neg c,overL_zero p q (i+1) (by omega)]
   constructor
   ·intro h' j h1 h2
    cases j with
    | zero=>simp only [List.getElem_cons_zero];omega
    | succ j =>
     rw [List.getElem_cons_succ,List.getElem_cons_succ];exact h' j (by rw [List.length_cons] at h1;omega) (by rw [List.length_cons] at h2;omega)
   ·intro h' j h1 h2
    have h3:=h' (j+1) (by rw [List.length_cons];omega) (by rw [List.length_cons];omega);rw [List.getElem_cons_succ,List.getElem_cons_succ] at h3
    exact h3
def majB (a b:List Int):Bool:=if fitB a b=true then (overR a b == 0) else false
theorem liBelow_ev (a b:List Int) (ha:Sm a) (hb:Sm b):Ev (fun k=>spec_liBelow.f k a b) (majB a b):=by
 unfold spec_liBelow.f majB;exact Ev.bind (liFit_ev a b ha hb) (Ev.ite (fun h=>Ev.bind (liOver_ev a b ha hb (by have:=(fitB_iff a b).1 h;omega)) (Ev.now _)) (fun _=>Ev.now _))
theorem isMajorized_ev (a b:List Int) (ha:Sm a) (hb:Sm b):Ev (fun k=>impl_isMajorized.f k a b) (majB a b):=by
 unfold impl_isMajorized.f majB;exact Ev.bind (doFit_ev a b ha hb) (Ev.ite (fun h=>Ev.bind (refused_ev a b ha hb (by have:=(fitB_iff a b).1 h;omega)) (Ev.now _)) (fun _=>Ev.now _))
theorem majB_iff (a b:List Int):majB a b=true↔a.length=b.length∧a.sum=b.sum∧∀ (j:Nat) (h1:j<(partL a).length) (h2:j<(partL b).length),(partL a)[j]≤(partL b)[j]:=by
 unfold majB overR;by_cases h:fitB a b=true
 ·rw [if_pos h,beq_iff_eq,overL_zero _ _ _ (Int.le_refl _)]
  have:=(fitB_iff a b).1 h;simp only [this,true_and]
 ·rw [if_neg h]
  rw [fitB_iff] at h
  constructor
  ·intro h'
   exact absurd h' (by decide)
  ·intro h'
   exact absurd ⟨h'.1,h'.2.1⟩ h
def pre (x:List Int) (m:Nat):Int:=(x.take m).sum
theorem pre_zero (x:List Int):pre x 0=0:=rfl
theorem pre_succ {x:List Int} {m:Nat} (h:m<x.length):pre x (m+1)=pre x m+rd x (m:Int):=by
 unfold pre;rw [List.take_succ_eq_append_getElem h,List.sum_append,rdn h,List.sum_cons,List.sum_nil,Int.add_zero]
theorem pre_all {x:List Int} {m:Nat} (h:x.length≤m):pre x m=x.sum:=by
 unfold pre;rw [List.take_of_length_le h]
theorem psums_get:∀ (l:List Int) (s:Int) (j:Nat) (h:j<(psums s l).length),(psums s l)[j]=s+pre l (j+1)
 | [],s,j,h=>by simp [psums] at h
 | x :: l,s,0,h=>by simp [psums,pre]
 | x :: l,s,j+1,h=>by
  have h':j<(psums (s+x) l).length:=by
   rw [psums,List.length_cons] at h
   omega
  have:=psums_get l (s+x) j h';simp only [psums,List.getElem_cons_succ];rw [this];simp only [pre,List.take_succ_cons,List.sum_cons];omega
def Dom (x t:List Int):Prop:=x.length=t.length∧x.sum=t.sum∧∀ m,pre t m≤pre x m
theorem majB_dom (a b:List Int):majB a b=true↔Dom (descL b) (descL a):=by
 rw [majB_iff];unfold Dom;rw [descL_length,descL_length,descL_sum,descL_sum];constructor
 ·rintro ⟨h1,h2,h3⟩
  refine ⟨h1.symm,h2.symm,fun m => ?_⟩
  cases m with
  | zero=>rw [pre_zero,pre_zero];exact Int.le_refl _
  | succ m =>
   by_cases hm:m<a.length
   ·have h:=h3 m (by rw [partL_length];exact hm) (by rw [partL_length];omega)
    unfold partL at h
    rw [psums_get,psums_get] at h
    omega
   ·rw [pre_all (tadh),pre_all (tadh),descL_sum,descL_sum]
    omega
 ·rintro ⟨h1,h2,h3⟩
  refine ⟨h1.symm,h2.symm,fun j q1 q2 => ?_⟩
  have e1:(partL a)[j]=0+pre (descL a) (j+1):=psums_get _ _ _ q1;have e2:(partL b)[j]=0+pre (descL b) (j+1):=psums_get _ _ _ q2;have:=h3 (j+1);omega
theorem ext_rd {x t:List Int} (hl:x.length=t.length) (h:∀ k:Nat,k<x.length→rd x (k:Int)=rd t (k:Int)):x=t:=by
 refine List.ext_getElem hl fun k h1 h2 => ?_
 have:=h k h1;rw [rdn h1,rdn h2] at this
 exact this
theorem desc_rd {x:List Int} (h:Desc x) {a b:Nat} (hab:a≤b) (hb:b<x.length):rd x (b:Int)≤rd x (a:Int):=by
 rw [rdn hb,rdn (show a<x.length by omega)];rcases Nat.lt_or_ge a b with hlt | hge
 ·unfold Desc at h
  exact List.pairwise_iff_getElem.1 h a b (by omega) hb hlt
 ·have:a=b:=by omega
  subst this;exact Int.le_refl _
theorem desc_of_rd {x:List Int} (h:∀ k:Nat,k+1<x.length→rd x ((k+1:Nat):Int)≤rd x (k:Int)):Desc x:=by
 have key:∀ (d a:Nat),a+d<x.length→rd x ((a+d:Nat):Int)≤rd x (a:Int):=by
  intro d
  induction d with
  | zero=>intro a _;exact Int.le_refl _
  | succ d ih =>
   intro a ha
   have h1:=ih a (by omega);have h2:=h (a+d) (by omega);have e:a+(d+1)=a+d+1:=by omega
   rw [e];omega
 unfold Desc;rw [List.pairwise_iff_getElem];intro i j hi hj hij
 have:=key (j - i) i (by omega);rw [show i+(j - i)=j from by omega,rdn hj,rdn hi] at this
 exact this
structure Nx (x t:List Int) (i j:Nat):Prop where
 lt:i<j
 hj:j<x.length
 jlt:rd x (j:Int)<rd t (j:Int)
 bef:∀ k:Nat,k<j→rd t (k:Int)≤rd x (k:Int)
 igt:rd t (i:Int)<rd x (i:Int)
 btw:∀ k:Nat,i<k→k<j→rd x (k:Int)≤rd t (k:Int)
theorem least_lt (P:Nat→Prop) (n:Nat):(∃ k,k<n∧P k)→∃ j,j<n∧P j∧∀ k,k<j→¬ P k:=by
 induction n with
 | zero=>rintro ⟨k,hk,_⟩;omega
 | succ n ih =>
  rintro ⟨k,hk,hp⟩
  by_cases h:∃ k,k<n∧P k
  ·obtain ⟨j,h1,h2,h3⟩:=ih h
   exact ⟨j,by omega,h2,h3⟩
  ·refine ⟨k,hk,hp,fun q hq hpq=>h ⟨q,by omega,hpq⟩⟩
theorem last_lt (P:Nat→Prop) (n:Nat):(∃ k,k<n∧P k)→∃ j,j<n∧P j∧∀ k,j<k→k<n→¬ P k:=by
 induction n with
 | zero=>rintro ⟨k,hk,_⟩;omega
 | succ n ih =>
  rintro ⟨k,hk,hp⟩
  by_cases h:P n
  ·exact ⟨n,by omega,h,fun q h1 h2=>by omega⟩
  ·have hk':k<n:=by
    rcases Nat.lt_or_ge k n with h' | h'
    ·exact h'
    ·have:k=n:=by omega
     subst this;exact absurd hp h
   obtain ⟨j,h1,h2,h3⟩:=ih ⟨k,hk',hp⟩;refine ⟨j,by omega,h2,fun q hq hq2 => ?_⟩
   rcases Nat.lt_or_ge q n with h' | h'
   ·exact h3 q hq h'
   ·have:q=n:=by omega
    subst this;exact h
theorem pre_le {x t:List Int} (hl:x.length=t.length):∀ m:Nat,m≤x.length→(∀ k:Nat,k<m→rd x (k:Int)≤rd t (k:Int))→pre x m≤pre t m
 | 0,_,_=>by rw [pre_zero,pre_zero];exact Int.le_refl _
 | m+1,hm,h=>by
  have ih:=pre_le hl m (by omega) (fun k hk=>h k (by omega));have:=h m (by omega);rw [pre_succ (by omega),pre_succ (by omega)];omega
theorem pre_lt {x t:List Int} (hl:x.length=t.length):∀ m:Nat,m≤x.length→(∀ k:Nat,k<m→rd x (k:Int)≤rd t (k:Int))→(∃ k:Nat,k<m∧rd x (k:Int)<rd t (k:Int))→pre x m<pre t m
 | 0,_,_,⟨k,hk,_⟩=>by omega
 | m+1,hm,h,⟨k,hk,hk2⟩=>by
  have h2:=h m (by omega);rw [pre_succ (by omega),pre_succ (by omega)];rcases Nat.lt_or_ge k m with hlt | hge
  ·have:=pre_lt hl m (by omega) (fun k hk=>h k (by omega)) ⟨k,hlt,hk2⟩
   omega
  ·have:k=m:=by omega
   subst this;have:=pre_le hl k (by omega) (fun k hk=>h k (by omega));omega
theorem nx_exists {x t:List Int} (hd:Dom x t) (hne:x≠t):∃ i j,Nx x t i j:=by
 obtain ⟨hl,hs,hp⟩:=hd;have h1:∃ k:Nat,k<x.length∧rd x (k:Int)<rd t (k:Int):=by
  refine Classical.byContradiction fun hno => ?_
  have hge:∀ k:Nat,k<x.length→rd t (k:Int)≤rd x (k:Int):=fun k hk=>by
   rcases Int.lt_or_le (rd x (k:Int)) (rd t (k:Int)) with h | h
   ·exact absurd ⟨k,hk,h⟩ hno
   ·exact h
  refine hne (ext_rd hl fun k hk => ?_)
  rcases Int.lt_or_le (rd t (k:Int)) (rd x (k:Int)) with h | h
  ·have:=pre_lt hl.symm x.length (by omega) (fun k hk=>hge k hk) ⟨k,hk,h⟩
   rw [pre_all (by omega),pre_all (by omega)] at this
   omega
  ·have:=hge k hk
   omega
 obtain ⟨j,hj,hjlt,hbef⟩:=least_lt _ _ h1;have hbef':∀ k:Nat,k<j→rd t (k:Int)≤rd x (k:Int):=fun k hk=>by
  have:=hbef k hk;omega
 have h2:∃ k:Nat,k<j∧rd t (k:Int)<rd x (k:Int):=by
  refine Classical.byContradiction fun hno => ?_
  have hle:∀ k:Nat,k<j+1→rd x (k:Int)≤rd t (k:Int):=fun k hk=>by
   rcases Nat.lt_or_ge k j with h | h
   ·rcases Int.lt_or_le (rd t (k:Int)) (rd x (k:Int)) with h' | h'
    ·exact absurd ⟨k,h,h'⟩ hno
    ·exact h'
   ·have:k=j:=by omega
    subst this;omega
  have:=pre_lt hl (j+1) (by omega) hle ⟨j,by omega,hjlt⟩;have:=hp (j+1);omega
 obtain ⟨i,hi,higt,hbtw⟩:=last_lt _ _ h2;exact ⟨i,j,hi,hj,hjlt,hbef',higt,fun k h1 h2=>by
  have:=hbtw k h1 h2;omega⟩
theorem giveL_length (l:List Int) (f t a:Int):(giveL l f t a).length=l.length:=by
 unfold giveL;rw [List.length_set,List.length_set]
theorem giveL_rd (l:List Int) (i j:Nat) (a:Int) (hi:i<l.length) (hj:j<l.length) (hij:i≠j) (k:Nat):rd (giveL l (i:Int) (j:Int) a) (k:Int)=if k=j then rd l (j:Int)+a else if k=i then rd l (i:Int) - a else rd l (k:Int):=by
 unfold giveL;by_cases h1:k=j
 ·subst h1
  rw [if_pos rfl,rd_set_self _ (by omega) (by rw [List.length_set];omega)]
 ·rw [if_neg h1,rd_set_ne _ (by omega) (by omega) (by omega)]
  by_cases h2:k=i
  ·subst h2
   rw [if_pos rfl,rd_set_self _ (by omega) (by omega)]
  ·rw [if_neg h2,rd_set_ne _ (by omega) (by omega) (by omega)]
theorem giveL_pre (l:List Int) (i j:Nat) (a:Int) (hi:i<l.length) (hj:j<l.length) (hij:i≠j):∀ m:Nat,m≤l.length→pre (giveL l (i:Int) (j:Int) a) m=pre l m - (if i<m then a else 0)+(if j<m then a else 0)
 | 0,_=>by rw [pre_zero,pre_zero,if_neg (by omega),if_neg (by omega)];omega
 | m+1,h=>by
  rw [pre_succ (tabs),pre_succ (by omega),giveL_pre l i j a hi hj hij m (by omega),giveL_rd l i j a hi hj hij m];by_cases h1:m=j
  ·subst h1
   rw [if_pos rfl,if_neg (show ¬ m<m by omega),if_pos (show m<m+1 by omega)];by_cases h3:i<m
   ·rw [if_pos h3,if_pos (by omega)];omega
   ·rw [if_neg h3,if_neg (by omega)];omega
  ·rw [if_neg h1]
   by_cases h2:m=i
   ·subst h2
    rw [if_pos rfl,if_neg (show ¬ m<m by omega),if_pos (show m<m+1 by omega)];by_cases h3:j<m
    ·rw [if_pos h3,if_pos (by omega)];omega
    ·rw [if_neg h3,if_neg (by omega)];omega
   ·rw [if_neg h2]
    have e1:i<m+1↔i<m:=by omega
    have e2:j<m+1↔j<m:=by omega
    simp only [e1,e2];omega
theorem giveL_sum (l:List Int) (i j:Nat) (a:Int) (hi:i<l.length) (hj:j<l.length) (hij:i≠j):(giveL l (i:Int) (j:Int) a).sum=l.sum:=by
 have h:=giveL_pre l i j a hi hj hij l.length (zcf _);rw [pre_all (tabs),pre_all (zcf _),if_pos hi,if_pos hj] at h
 omega
theorem majB_descR (a x:List Int):majB a (descL x)=majB a x:=by
 have h:majB a (descL x)=true↔majB a x=true:=by
  rw [majB_dom,majB_dom,descL_descL]
 cases h1:majB a (descL x) <;> cases h2:majB a x <;> simp_all
def unitB (p a:List Int) (i j:Nat):Bool:=kindB p (i:Int) (j:Int) 1 && majB a (giveL p (i:Int) (j:Int) 1)
def unitF (p a:List Int) (i j:Nat):Option (List Int):=if unitB p a i j=true then some (descL (giveL p (i:Int) (j:Int) 1)) else none
def rowU (p a:List Int) (i j d:Nat):List (List Int):=(List.range' j d).filterMap (unitF p a i)
def allU (p a:List Int) (i d:Nat):List (List Int):=(List.range' i d).flatMap fun i=>rowU p a i 0 p.length
theorem rowU_succ (p a:List Int) (i j d:Nat):rowU p a i j (d+1)=(if unitB p a i j=true then [descL (giveL p (i:Int) (j:Int) 1)] else []) ++ rowU p a i (j+1) d:=by
 unfold rowU;rw [List.range'_succ,List.filterMap_cons];unfold unitF;by_cases h:unitB p a i j=true
 ·simp only [if_pos h]
  rfl
 ·simp only [if_neg h]
  rfl
theorem rowU_le (p a:List Int) (i j d:Nat):(rowU p a i j d).length≤d:=by
 unfold rowU;have:=List.length_filterMap_le (unitF p a i) (List.range' j d);rw [List.length_range'] at this
 exact this
theorem allU_succ (p a:List Int) (i d:Nat):allU p a i (d+1)=rowU p a i 0 p.length ++ allU p a (i+1) d:=by
 unfold allU;rw [List.range'_succ,List.flatMap_cons]
theorem allU_le (p a:List Int):∀ (d i:Nat),(allU p a i d).length≤d*p.length
 | 0,i=>by simp [allU]
 | d+1,i=>by
  rw [allU_succ,List.length_append,Nat.succ_mul];have:=allU_le p a d (i+1);have:=rowU_le p a i 0 p.length;omega
theorem unit_giveI {p:List Int} {i j:Nat} (hg:goodL p=true) (h:kindB p (i:Int) (j:Int) 1=true):canB p (i:Int) (j:Int) 1=true∧goodL (giveL p (i:Int) (j:Int) 1)=true:=by
 unfold kindB at h
 simp only [Bool.and_eq_true,decide_eq_true_eq] at h
 obtain ⟨h1,h2,h3⟩:=h;obtain ⟨q1,q2,q3,q4⟩:=(isG_iff _ _ _ _).1 h1;have b1:=rd_good hg q1.1 q1.2;have b2:=rd_good hg q2.1 q2.2;exact ⟨(canB_iff _ _ _ _).2 ⟨h1,by omega,by omega⟩,(give_good p _ _ _ _ hg q1 q2 q3).2 (by omega)⟩
theorem unit_give {p:List Int} {i j:Nat} (hg:goodL p=true) (h:kindB p (i:Int) (j:Int) 1=true):canB p (i:Int) (j:Int) 1=true∧goodL (giveL p (i:Int) (j:Int) 1)=true∧spec_giDo.f p (i:Int) (j:Int) 1=some (giveL p (i:Int) (j:Int) 1):=by
 unfold kindB at h
 simp only [Bool.and_eq_true,decide_eq_true_eq] at h
 obtain ⟨h1,h2,h3⟩:=h;obtain ⟨q1,q2,q3,q4⟩:=(isG_iff _ _ _ _).1 h1;have b1:=rd_good hg q1.1 q1.2;have b2:=rd_good hg q2.1 q2.2;have hb:=(goodL_iff p).1 hg;refine ⟨(canB_iff _ _ _ _).2 ⟨h1,by omega,by omega⟩,(give_good p _ _ _ _ hg q1 q2 q3).2 (by omega),?_⟩
 rw [giDo_eq p _ _ _ (by omega) q1 q2 q3,w64 (x:=rd p (i:Int) - 1) (by omega) (by omega),w64 (x:=rd p (j:Int)+1) (by omega) (by omega)];rfl
theorem implUnits_row (p a:List Int) (hp:goodL p=true) (ha:Sm a) (i:Nat) (r:List (List Int)):∀ (d j:Nat) (acc:List (List Int)),j+d=p.length→acc.length+d≤1000000→Ev (fun k=>impl_unitsFrom.l0 k p a (acc ++ rowU p a i j d) (p.length:Int) (wrap64 ((i:Int)+1))) r→Ev (fun k=>impl_unitsFrom.l1 k p a acc (i:Int) (p.length:Int) (i:Int) (p.length:Int) (j:Int)) r
 | 0,j,acc,h,hb,hr=>by
  refine Ev.succ ?_
  simp only [impl_unitsFrom.l1,if_neg (show ¬ (j:Int)<(p.length:Int) by omega)];simpa [rowU] using hr
 | d+1,j,acc,h,hb,hr=>by
  have hj:j<p.length:=by omega
  have hlen:=(goodL_iff p).1 hp;refine Ev.succ ?_
  simp only [impl_unitsFrom.l1,if_pos (show (j:Int)<(p.length:Int) by omega),isKind_eq p _ _ _ hp,zbf,wsucc hj (by omega)];rw [rowU_succ] at hr
  by_cases hk:kindB p (i:Int) (j:Int) 1=true
  ·obtain ⟨hc,hgg⟩:=unit_giveI hp hk
   simp only [hk,if_true,given_can p _ _ _ hp hc,ranking_eq (good_sm hgg),zbf];refine Ev.bind (isMajorized_ev a _ ha (sm_desc (good_sm hgg))) ?_
   rw [majB_descR];by_cases hm:majB a (giveL p (i:Int) (j:Int) 1)=true
   ·have hu:unitB p a i j=true:=by unfold unitB;rw [hk,hm];rfl
    rw [if_pos hu] at hr
    simp only [hm,if_true,if_pos (show acc.length<5864062014805 by omega)];exact implUnits_row p a hp ha i r d (j+1) _ (by omega) (tabi) (by rw [List.append_assoc];exact hr)
   ·have hu:¬ unitB p a i j=true:=by unfold unitB;rw [hk,zbk.2 hm];decide
    rw [if_neg hu,List.nil_append] at hr
    simp only [if_neg hm];exact implUnits_row p a hp ha i r d (j+1) _ (by omega) (by omega) hr
  ·have hu:¬ unitB p a i j=true:=by unfold unitB;rw [zbk.2 hk];exact Bool.false_ne_true
   rw [if_neg hu,List.nil_append] at hr
   simp only [if_neg hk];exact implUnits_row p a hp ha i r d (j+1) _ (by omega) (by omega) hr
theorem implUnits_all (p a:List Int) (hp:goodL p=true) (ha:Sm a):∀ (d i:Nat) (acc:List (List Int)),i+d=p.length→acc.length+d*p.length≤1000→Ev (fun k=>impl_unitsFrom.l0 k p a acc (p.length:Int) (i:Int)) (acc ++ allU p a i d)
 | 0,i,acc,h,hb=>by
  refine Ev.succ ?_
  simp only [impl_unitsFrom.l0,if_neg (show ¬ (i:Int)<(p.length:Int) by omega)];simp only [allU,List.range'_zero,List.flatMap_nil,List.append_nil];exact Ev.now _
 | d+1,i,acc,h,hb=>by
  have hlen:=(goodL_iff p).1 hp;rw [Nat.succ_mul] at hb
  refine Ev.succ ?_
  simp only [impl_unitsFrom.l0,if_pos (show (i:Int)<(p.length:Int) by omega)];refine implUnits_row p a hp ha i _ p.length 0 acc (by omega) (by omega) ?_
  rw [wsucc (show i<p.length by omega) (by omega),allU_succ,← List.append_assoc];have hr:=rowU_le p a i 0 p.length;exact implUnits_all p a hp ha d (i+1) _ (by omega) (by rw [List.length_append];omega)
theorem unitsFrom_ev (p a:List Int) (hp:goodL p=true) (ha:Sm a):Ev (fun k=>impl_unitsFrom.f k p a) (allU p a 0 p.length):=by
 have hlen:=(goodL_iff p).1 hp;have hm:p.length*p.length≤8*8:=Nat.mul_le_mul hlen.2.1 hlen.2.1;have:=implUnits_all p a hp ha p.length 0 [] (by omega) (tacp);rw [List.nil_append] at this
 exact this
theorem specBetween_row (p a:List Int) (hp:goodL p=true) (ha:Sm a) (i:Nat) (r:Int × Bool):∀ (d j:Nat) (c:Int),j+d=p.length→0≤c→c+d≤1000000→Ev (fun k=>spec_GiftsBetween.l0 k a p (c+((rowU p a i j d).length:Int)) (p.length:Int) (wrap64 ((i:Int)+1))) r→Ev (fun k=>spec_GiftsBetween.l1 k a p c (i:Int) (p.length:Int) (i:Int) (p.length:Int) (j:Int)) r
 | 0,j,c,h,h0,hb,hr=>by
  refine Ev.succ ?_
  simp only [spec_GiftsBetween.l1,if_neg (show ¬ (j:Int)<(p.length:Int) by omega)];simpa [rowU] using hr
 | d+1,j,c,h,h0,hb,hr=>by
  have hj:j<p.length:=by omega
  have hlen:=(goodL_iff p).1 hp;refine Ev.succ ?_
  simp only [spec_GiftsBetween.l1,if_pos (show (j:Int)<(p.length:Int) by omega),giKind_eq p _ _ _ hp,zbf,wsucc hj (by omega)];rw [rowU_succ] at hr
  by_cases hk:kindB p (i:Int) (j:Int) 1=true
  ·obtain ⟨hc,hgg,hdo⟩:=unit_give hp hk
   simp only [hk,if_true,hdo,zbf];refine Ev.bind (liBelow_ev a _ ha (good_sm hgg)) ?_
   by_cases hm:majB a (giveL p (i:Int) (j:Int) 1)=true
   ·have hu:unitB p a i j=true:=by unfold unitB;rw [hk,hm];rfl
    rw [if_pos hu,List.length_append,List.length_singleton] at hr
    simp only [hm,if_true,w64 (x:=c+1) (by omega) (by omega)];refine specBetween_row p a hp ha i r d (j+1) (c+1) (by omega) (by omega) (by omega) ?_
    rw [show c+1+((rowU p a i (j+1) d).length:Int)=c+((1+(rowU p a i (j+1) d).length:Nat):Int) by omega];exact hr
   ·have hu:¬ unitB p a i j=true:=by unfold unitB;rw [hk,zbk.2 hm];decide
    rw [if_neg hu,List.nil_append] at hr
    simp only [if_neg hm];exact specBetween_row p a hp ha i r d (j+1) c (by omega) h0 (by omega) hr
  ·have hu:¬ unitB p a i j=true:=by unfold unitB;rw [zbk.2 hk];exact Bool.false_ne_true
   rw [if_neg hu,List.nil_append] at hr
   simp only [if_neg hk];exact specBetween_row p a hp ha i r d (j+1) c (by omega) h0 (by omega) hr
theorem specBetween_all (p a:List Int) (hp:goodL p=true) (ha:Sm a):∀ (d i:Nat) (c:Int),i+d=p.length→0≤c→c+d*p.length≤1000→Ev (fun k=>spec_GiftsBetween.l0 k a p c (p.length:Int) (i:Int)) (c+((allU p a i d).length:Int),true)
 | 0,i,c,h,h0,hb=>by
  refine Ev.succ ?_
  simp only [spec_GiftsBetween.l0,if_neg (show ¬ (i:Int)<(p.length:Int) by omega)];simp only [allU,List.range'_zero,List.flatMap_nil,List.length_nil];rw [show c+((0:Nat):Int)=c by omega];exact Ev.now _
 | d+1,i,c,h,h0,hb=>by
  have hlen:=(goodL_iff p).1 hp;have e:((d+1:Nat):Int)*(p.length:Int)=d*p.length+p.length:=by rw [Int.natCast_add,Int.add_mul];simp
  rw [e] at hb
  have hnn:(0:Int)≤d*p.length:=Int.mul_nonneg (by omega) (by omega);refine Ev.succ ?_
  simp only [spec_GiftsBetween.l0,if_pos (show (i:Int)<(p.length:Int) by omega)];refine specBetween_row p a hp ha i _ p.length 0 c (by omega) h0 (by omega) ?_
  have hr:=rowU_le p a i 0 p.length;rw [wsucc (show i<p.length by omega) (by omega),allU_succ,List.length_append,show c+((rowU p a i 0 p.length).length+(allU p a (i+1) d).length:Nat)=c+((rowU p a i 0 p.length).length:Int)+((allU p a (i+1) d).length:Int) by omega];exact specBetween_all p a hp ha d (i+1) _ (by omega) (by omega) (by omega)
def betweenR (a b:List Int):Int × Bool:=if goodL a=true then (if goodL b=true then (if fitB a b=true then (((allU (descL b) a 0 b.length).length:Int),true) else (0,false)) else (0,false)) else (0,false)
theorem specGiftsBetween_ev (a b:List Int) (ha:a.length≤1048576) (hb:b.length≤1048576):Ev (fun k=>spec_GiftsBetween.f k a b) (betweenR a b):=by
 unfold spec_GiftsBetween.f betweenR;have J:Ev (fun k=>spec_GiftsBetween.j0 k a b true) ((0:Int),false):=Ev.succ (by simp only [spec_GiftsBetween.j0,if_true];exact Ev.now _);refine Ev.bind (liGood_ev a (by omega)) (Ev.ite (fun ga => ?_) (fun _=>J))
 refine Ev.bind (liGood_ev b (by omega)) (Ev.ite (fun gb => ?_) (fun _=>J))
 refine Ev.bind (liFit_ev a b (good_sm ga) (good_sm gb)) ?_
 by_cases hf:fitB a b=true
 ·simp only [hf,Bool.not_true,if_true]
  refine Ev.succ ?_
  simp only [spec_GiftsBetween.j0,zbq,if_false];refine Ev.bind (liRank_ev b (by have:=(good_sm gb).1;omega)) ?_
  have gb':goodL (descL b)=true:=by rw [good_desc];exact gb
  have hlen:=(goodL_iff _).1 gb';have hm:(descL b).length*(descL b).length≤8*8:=Nat.mul_le_mul hlen.2.1 hlen.2.1;have:=specBetween_all (descL b) a gb' (good_sm ga) (descL b).length 0 0 (by omega) (by omega) (by rw [← Int.natCast_mul];omega);rw [Int.zero_add,descL_length] at this
  rw [descL_length];exact this
 ·have hf':fitB a b=false:=zbk.2 hf
  simp only [hf',Bool.not_false,zbq,if_false];exact J
theorem implGiftsBetween_ev (a b:List Int) (ha:a.length≤1048576) (hb:b.length≤1048576):Ev (fun k=>impl_GiftsBetween.f k a b) (betweenR a b):=by
 unfold impl_GiftsBetween.f betweenR;have J:Ev (fun k=>impl_GiftsBetween.j0 k a b true) ((0:Int),false):=Ev.succ (by simp only [impl_GiftsBetween.j0,if_true];exact Ev.now _);refine Ev.bind (areLists_ev a b ha hb) ?_
 by_cases ga:goodL a=true
 ·by_cases gb:goodL b=true
  ·simp only [ga,gb,if_true]
   refine Ev.bind (doFit_ev a b (good_sm ga) (good_sm gb)) ?_
   by_cases hf:fitB a b=true
   ·simp only [hf,Bool.not_true,if_true]
    refine Ev.succ ?_
    simp only [impl_GiftsBetween.j0,zbq,if_false,ranking_eq (good_sm gb),zbf];have gb':goodL (descL b)=true:=by rw [good_desc];exact gb
    have:=unitsFrom_ev (descL b) a gb' (good_sm ga);rw [descL_length] at this
    exact Ev.bind this (Ev.now _)
   ·have hf':fitB a b=false:=zbk.2 hf
    simp only [hf',Bool.not_false,zbq,if_false];exact J
  ·simp only [ga,if_true,if_neg gb]
   exact J
 ·simp only [if_neg ga,zbq,if_false]
  exact J
theorem psums_inj:∀ (a b:List Int) (s:Int),psums s a=psums s b→a=b
 | [],[],_,_=>rfl
 | [],y :: b,s,h=>by simp [psums] at h
 | x :: a,[],s,h=>by simp [psums] at h
 | x :: a,y :: b,s,h=>by
  simp only [psums,List.cons.injEq] at h
  have e:x=y:=by omega
  subst e;rw [psums_inj a b _ h.2]
theorem majB_cmp (a b:List Int):majB a b=true↔a.length=b.length∧a.sum=b.sum∧∀ (j:Nat) (h1:j<(partL a).length) (h2:j<(partL b).length),(partL a)[j]≤(partL b)[j]:=by
 unfold majB;by_cases h:fitB a b=true
 ·rw [if_pos h,beq_iff_eq]
  unfold overR;rw [overL_zero _ _ 0 (by omega)];have:=(fitB_iff a b).1 h;exact ⟨fun h'=>⟨this.1,this.2,h'⟩,fun h'=>h'.2.2⟩
 ·rw [if_neg h]
  exact ⟨fun h'=>absurd h' (by decide),fun h'=>absurd ((fitB_iff a b).2 ⟨h'.1,h'.2.1⟩) h⟩
theorem maj_both (a b:List Int):(majB a b=true∧majB b a=true)↔(fitB a b=true∧descL a=descL b):=by
 rw [majB_cmp,majB_cmp,fitB_iff];constructor
 ·rintro ⟨⟨h1,h2,h3⟩,_,_,h4⟩
  refine ⟨⟨h1,h2⟩,psums_inj _ _ 0 ?_⟩
  refine List.ext_getElem (by rw [psums_length,psums_length,descL_length,descL_length,h1]) (fun j h5 h6 => ?_)
  exact Int.le_antisymm (h3 j h5 h6) (h4 j h6 h5)
 ·rintro ⟨⟨h1,h2⟩,h3⟩
  have e:partL a=partL b:=by
   unfold partL;rw [h3]
  refine ⟨⟨h1,h2,?_⟩,h1.symm,h2.symm,?_⟩
  ·intro j h4 h5
   simp only [e];exact Int.le_refl _
  ·intro j h4 h5
   simp only [e];exact Int.le_refl _



end Go.Proofs.YtefbphpgaeffaaaGreatDoor.A
