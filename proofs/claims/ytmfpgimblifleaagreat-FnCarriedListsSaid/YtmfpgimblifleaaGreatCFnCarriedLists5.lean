/- What the law FnCarriedLists reaches, part 5: Lean functions with the same answers as the Go functions, the proofs that the Go code comes to these answers, and lemmas about them; no condition beyond those that each theorem names. -/
import Derived.Test.YtmfpgimblifleaaGreatCFnCarriedListsw1
import Derived.Lib.VarintBits
import Derived.Lib.Zigzag
import Derived.Test.YtmfpgimblifleaaGreatCFnCarriedLists1
import Derived.Test.YtmfpgimblifleaaGreatCFnCarriedLists2
import Derived.Test.YtmfpgimblifleaaGreatCFnCarriedLists3
import Derived.Test.YtmfpgimblifleaaGreatCFnCarriedLists4
set_option linter.unusedVariables false
set_option linter.unusedSimpArgs false
set_option maxHeartbeats 8000000
set_option maxRecDepth 100000
namespace Go.Proofs.YtmfpgimblifleaaGreat.A
open Go.RowKit Go.Proofs.YtmfpgimblifleaaGreatW.PrintWords Go.Proofs.YtmfpgimblifleaaGreatW.PrintLast Go.Proofs.YtmfpgimblifleaaGreatW.PrintMore
attribute [local go_sem] max2_int min2_int max_two min_two max_three min_three max_four min_four
theorem doGood_l (l:List (List Int)) (hl:l.length≤1048576) (hx:∀ x ∈ l,x.length≤1048576):∀ (n i:Nat),i+n=l.length→Ev (fun k=>spec_doGood.l0 k l l (l.length:Int) (i:Int)) (((l.drop i).all (rowB l.length)) && decide ((1:Int)≤l.length∧(l.length:Int)≤6))
 | 0,i,h=>by
  refine Ev.succ ?_
  simp only [spec_doGood.l0,if_neg (show ¬ (i:Int)<(l.length:Int) by omega),l1In_eq,zbd]
  rw [List.drop_eq_nil_of_le (by omega),List.all_nil,Bool.true_and]
  exact Ev.now _
 | n+1,i,h=>by
  have hi:i<l.length:=by omega
  have hxi:=hx _ (List.getElem_mem hi)
  refine Ev.succ ?_
  simp only [spec_doGood.l0,if_pos (show (i:Int)<(l.length:Int) by omega),if_pos (show (0:Int)≤(i:Int) by omega),rd_L1n hi,wsucc hi (by omega)]
  rw [List.drop_eq_getElem_cons hi,List.all_cons]
  by_cases c:((l[i]).length:Int)=(l.length:Int)
  ·simp only [if_pos c]
   refine Ev.bind (l1All_ev l[i] 0 1000000 (by omega)) ?_
   have e:rowB l.length l[i]=inR 0 1000000 l[i]:=by
    unfold rowB
    rw [zba c,Bool.true_and]
   rw [e]
   cases inR 0 1000000 l[i] with
   | true =>
    simp only [if_true,Bool.true_and]
    exact doGood_l l hl hx n (i+1) (by omega)
   | false =>
    simp only [zbm,if_false,Bool.false_and]
    exact Ev.now _
  ·have e:rowB l.length l[i]=false:=by
    unfold rowB
    rw [zbj c,Bool.false_and]
   simp only [if_neg c,e,Bool.false_and]
   exact Ev.now _
theorem doGood_ev (l:List (List Int)) (hl:l.length≤1048576) (ht:totSS l≤1048576):Ev (fun k=>spec_doGood.f k l) (squareB l):=by
 have h:=doGood_l l hl (fun x h=>Nat.le_trans (len_tot h) ht) l.length 0 (by omega)
 rw [List.drop_zero,Bool.and_comm] at h
 exact h
theorem implIsSquare_eq (l:List (List Int)) (hl:l.length≤1048576) (ht:totSS l≤1048576):impl_IsSquare.f l=some (squareB l):=by
 unfold impl_IsSquare.f
 rw [if_pos ⟨List.all_eq_true.2 fun x h=>zba (Nat.le_trans (len_tot h) ht),hl⟩]
def Bg (l:List Int):Prop:=l.length≤1000∧∀ x ∈ l,0≤x∧x≤1000000
theorem liSumB_ev (l:List Int) (h:Bg l):Ev (fun k=>spec_liSum.f k l) l.sum:=by
 unfold spec_liSum.f
 have hl:=h.1
 have h:=ev_fold (xs:=l) (g:=fun k s i=>spec_liSum.l0 k s l (l.length:Int) i) (fun s x=>s+x) (fun s i=>0≤s∧s≤1000000*(i:Int)) id
  (fun s _=>Ev.succ (taev))
  (fun i hi s r hs _ hr=>Ev.succ (by
   have hb:=h.2 _ (List.getElem_mem hi)
   simp only [spec_liSum.l0,if_pos (show (i:Int)<(l.length:Int) by omega),if_pos (show (0:Int)≤(i:Int) by omega),rdn hi,wsucc hi (by omega),w64 (x:=s+l[i]) (by omega) (by omega)]
   exact hr))
  (fun i hi s hs=>by
   have hb:=h.2 _ (List.getElem_mem hi)
   omega) l.length 0 0 (by omega) (by omega)
 rw [List.drop_zero,foldl_add,Int.zero_add] at h
 exact h
theorem totalB_ev (l:List Int) (h:Bg l):Ev (fun k=>impl_total.f k l) l.sum:=by
 unfold impl_total.f
 have hl:=h.1
 have h:=ev_fold (xs:=l) (g:=fun k s i=>impl_total.l0 k s l (l.length:Int) i) (fun s x=>s+x) (fun s i=>0≤s∧s≤1000000*(i:Int)) id
  (fun s _=>Ev.succ (taew))
  (fun i hi s r hs _ hr=>Ev.succ (by
   have hb:=h.2 _ (List.getElem_mem hi)
   simp only [impl_total.l0,if_pos (show (i:Int)<(l.length:Int) by omega),if_pos (show (0:Int)≤(i:Int) by omega),rdn hi,wsucc hi (by omega),w64 (x:=s+l[i]) (by omega) (by omega)]
   exact hr))
  (fun i hi s hs=>by
   have hb:=h.2 _ (List.getElem_mem hi)
   omega) l.length 0 0 (by omega) (by omega)
 rw [List.drop_zero,foldl_add,Int.zero_add] at h
 exact h
def okI (l:List (List Int)) (s:Int) (i:Nat):Bool:=decide ((l.getD i []).sum=s) && decide (((l.map fun x=>rd x (i:Int)).sum)=s)
theorem colP_step {l:List (List Int)} {i j:Nat} (hj:j<l.length):((l.take (j+1)).map fun x=>rd x (i:Int)).sum=((l.take j).map fun x=>rd x (i:Int)).sum+rd l[j] (i:Int):=by
 rw [List.take_succ_eq_append_getElem hj,List.map_append,List.sum_append]
 simp
structure Tab (l:List (List Int)):Prop where
 len:l.length≤6
 row:∀ x ∈ l,x.length=l.length∧∀ y ∈ x,0≤y∧y≤1000000
theorem tab_bg {l:List (List Int)} (h:Tab l) {x:List Int} (hx:x ∈ l):Bg x:=⟨by have:=(h.row x hx).1;have:=h.len;omega,(h.row x hx).2⟩
theorem tab_rd {l:List (List Int)} (h:Tab l) {x:List Int} (hx:x ∈ l) {i:Nat} (hi:i<l.length):0≤rd x (i:Int)∧rd x (i:Int)≤1000000:=by
 have h1:=(h.row x hx).1
 rw [rdn (show i<x.length by omega)]
 exact (h.row x hx).2 _ (List.getElem_mem (by omega))
theorem colP_bd {l:List (List Int)} (h:Tab l) {i:Nat} (hi:i<l.length):∀ j:Nat,j≤l.length→0≤((l.take j).map fun x=>rd x (i:Int)).sum∧((l.take j).map fun x=>rd x (i:Int)).sum≤1000000*j
 | 0,_=>by simp
 | j+1,hj=>by
  have ih:=colP_bd h hi j (by omega)
  have hb:=tab_rd h (List.getElem_mem (show j<l.length by omega)) hi
  rw [colP_step (by omega)]
  omega
theorem specSum_l1 {l:List (List Int)} (h:Tab l) (s:Int) (i:Nat) (hi:i<l.length) (x:List Int) {r:Int} (hr:Ev (fun k=>(spec_liSum.f k x).bind fun t=>if t=s then (if (l.map fun x=>rd x (i:Int)).sum=s then spec_doSum.l0 k l s l (l.length:Int) (wrap64 ((i:Int)+1)) else some (-1:Int)) else some (-1:Int)) r):∀ (n j:Nat),j+n=l.length→Ev (fun k=>spec_doSum.l1 k l s (i:Int) x (((l.take j).map fun x=>rd x (i:Int)).sum) l (l.length:Int) (i:Int) l (l.length:Int) (j:Int)) r
 | 0,j,e=>by
  refine Ev.succ ?_
  simp only [spec_doSum.l1,if_neg (show ¬ (j:Int)<(l.length:Int) by omega)]
  rw [List.take_of_length_le (by omega)]
  exact hr
 | n+1,j,e=>by
  have hj:j<l.length:=by omega
  have hlen:=(h.row _ (List.getElem_mem hj)).1
  have b1:=colP_bd h hi j (by omega)
  have b2:=tab_rd h (List.getElem_mem hj) hi
  have b3:=h.len
  refine Ev.succ ?_
  simp only [spec_doSum.l1,if_pos (show (j:Int)<(l.length:Int) by omega),if_pos (show (0:Int)≤(j:Int) by omega),if_pos (show (0:Int)≤(i:Int) by omega),rd_L1n hj,if_pos (show (i:Int)<((l[j]).length:Int) by omega),wsucc hj (by omega),w64 (x:=((l.take j).map fun x=>rd x (i:Int)).sum+rd l[j] (i:Int)) (by omega) (by omega)]
  rw [← colP_step hj]
  exact specSum_l1 h s i hi x hr n (j+1) (by omega)
theorem specSum_l0 {l:List (List Int)} (h:Tab l) (s:Int):∀ (n i:Nat),i+n=l.length→Ev (fun k=>spec_doSum.l0 k l s l (l.length:Int) (i:Int)) (if (List.range' i n).all (okI l s)=true then s else (-1:Int))
 | 0,i,e=>by
  refine Ev.succ ?_
  simp only [spec_doSum.l0,if_neg (show ¬ (i:Int)<(l.length:Int) by omega),List.range'_zero,List.all_nil,if_true]
  exact Ev.now _
 | n+1,i,e=>by
  have hi:i<l.length:=by omega
  refine Ev.succ ?_
  simp only [spec_doSum.l0,if_pos (show (i:Int)<(l.length:Int) by omega),if_pos (show (0:Int)≤(i:Int) by omega),rd_L1n hi]
  have key:=specSum_l1 h s i hi l[i] (r:=if (List.range' i (n+1)).all (okI l s)=true then s else (-1:Int)) ?_ l.length 0 (by omega)
  ·simp only [List.take_zero,zav,List.sum_nil] at key
   exact key
  ·have ho:okI l s i=(decide ((l[i]).sum=s) && decide (((l.map fun x=>rd x (i:Int)).sum)=s)):=by
    unfold okI
    rw [List.getD_eq_getElem?_getD,List.getElem?_eq_getElem hi]
    rfl
   refine Ev.bind (liSumB_ev l[i] (tab_bg h (List.getElem_mem hi))) ?_
   rw [List.range'_succ,List.all_cons,ho]
   by_cases c1:(l[i]).sum=s
   ·simp only [if_pos c1]
    by_cases c2:(l.map fun x=>rd x (i:Int)).sum=s
    ·simp only [if_pos c2,wsucc hi (by have:=h.len;omega),zba c1,zba c2,Bool.true_and]
     exact specSum_l0 h s n (i+1) (by omega)
    ·simp only [if_neg c2,zbj c2,Bool.and_false,Bool.false_and,zbm,if_false]
     exact Ev.now _
   ·simp only [if_neg c1,zbj c1,Bool.false_and,zbm,if_false]
    exact Ev.now _
theorem implSum_l1 {l:List (List Int)} (h:Tab l) (s:Int) (i:Nat) (hi:i<l.length) (x:List Int) {r:Int × Bool} (hr:Ev (fun k=>(impl_total.f k x).bind fun t=>if t=s then (if (l.map fun x=>rd x (i:Int)).sum=s then impl_equalSum.l0 k l s l (l.length:Int) (wrap64 ((i:Int)+1)) else some ((0:Int),false)) else some ((0:Int),false)) r):∀ (n j:Nat),j+n=l.length→Ev (fun k=>impl_equalSum.l1 k l s (i:Int) x (((l.take j).map fun x=>rd x (i:Int)).sum) l (l.length:Int) (i:Int) l (l.length:Int) (j:Int)) r
 | 0,j,e=>by
  refine Ev.succ ?_
  simp only [impl_equalSum.l1,if_neg (show ¬ (j:Int)<(l.length:Int) by omega)]
  rw [List.take_of_length_le (by omega)]
  exact hr
 | n+1,j,e=>by
  have hj:j<l.length:=by omega
  have hlen:=(h.row _ (List.getElem_mem hj)).1
  have b1:=colP_bd h hi j (by omega)
  have b2:=tab_rd h (List.getElem_mem hj) hi
  have b3:=h.len
  refine Ev.succ ?_
  simp only [impl_equalSum.l1,if_pos (show (j:Int)<(l.length:Int) by omega),if_pos (show (0:Int)≤(j:Int) by omega),if_pos (show (0:Int)≤(i:Int) by omega),rd_L1n hj,if_pos (show (i:Int)<((l[j]).length:Int) by omega),wsucc hj (by omega),w64 (x:=((l.take j).map fun x=>rd x (i:Int)).sum+rd l[j] (i:Int)) (by omega) (by omega)]
  rw [← colP_step hj]
  exact implSum_l1 h s i hi x hr n (j+1) (by omega)
theorem implSum_l0 {l:List (List Int)} (h:Tab l) (s:Int):∀ (n i:Nat),i+n=l.length→Ev (fun k=>impl_equalSum.l0 k l s l (l.length:Int) (i:Int)) (if (List.range' i n).all (okI l s)=true then (s,true) else ((0:Int),false))
 | 0,i,e=>by
  refine Ev.succ ?_
  simp only [impl_equalSum.l0,if_neg (show ¬ (i:Int)<(l.length:Int) by omega),List.range'_zero,List.all_nil,if_true]
  exact Ev.now _
 | n+1,i,e=>by
  have hi:i<l.length:=by omega
  refine Ev.succ ?_
  simp only [impl_equalSum.l0,if_pos (show (i:Int)<(l.length:Int) by omega),if_pos (show (0:Int)≤(i:Int) by omega),rd_L1n hi]
  have key:=implSum_l1 h s i hi l[i] (r:=if (List.range' i (n+1)).all (okI l s)=true then (s,true) else ((0:Int),false)) ?_ l.length 0 (by omega)
  ·simp only [List.take_zero,zav,List.sum_nil] at key
   exact key
  ·have ho:okI l s i=(decide ((l[i]).sum=s) && decide (((l.map fun x=>rd x (i:Int)).sum)=s)):=by
    unfold okI
    rw [List.getD_eq_getElem?_getD,List.getElem?_eq_getElem hi]
    rfl
   refine Ev.bind (totalB_ev l[i] (tab_bg h (List.getElem_mem hi))) ?_
   rw [List.range'_succ,List.all_cons,ho]
   by_cases c1:(l[i]).sum=s
   ·simp only [if_pos c1]
    by_cases c2:(l.map fun x=>rd x (i:Int)).sum=s
    ·simp only [if_pos c2,wsucc hi (by have:=h.len;omega),zba c1,zba c2,Bool.true_and]
     exact implSum_l0 h s n (i+1) (by omega)
    ·simp only [if_neg c2,zbj c2,Bool.and_false,Bool.false_and,zbm,if_false]
     exact Ev.now _
   ·simp only [if_neg c1,zbj c1,Bool.false_and,zbm,if_false]
    exact Ev.now _
theorem square_tab {l:List (List Int)} (h:squareB l=true):Tab l∧1≤l.length:=by
 unfold squareB at h
 rw [Bool.and_eq_true,decide_eq_true_eq,List.all_eq_true] at h
 refine ⟨⟨by omega,fun x hx => ?_⟩,by omega⟩
 have hr:=h.2 x hx
 unfold rowB inR at hr
 rw [Bool.and_eq_true,decide_eq_true_eq,List.all_eq_true] at hr
 exact ⟨by omega,fun y hy=>by simpa using hr.2 y hy⟩
def sum0 (l:List (List Int)):Int:=(l.getD 0 []).sum
def equalR (l:List (List Int)):Int × Bool:=if squareB l=true then (if (List.range' 0 l.length).all (okI l (sum0 l))=true then (sum0 l,true) else (0,false)) else (0,false)
theorem sum0_at {l:List (List Int)} (h:0<l.length):sum0 l=(l[0]).sum:=by
 unfold sum0
 rw [List.getD_eq_getElem?_getD,List.getElem?_eq_getElem h]
 rfl
theorem implEqualSum_ev (l:List (List Int)) (hl:l.length≤1048576) (ht:totSS l≤1048576):Ev (fun k=>impl_EqualSum.f k l) (equalR l):=by
 unfold impl_EqualSum.f equalR
 simp only [implIsSquare_eq l hl ht,zbd]
 refine Ev.ite (fun hq => ?_) (fun _=>Ev.now _)
 obtain ⟨hT,h1⟩:=square_tab hq
 have hd:Ev (fun k=>impl_equalSum.f k l) (if (List.range' 0 l.length).all (okI l (sum0 l))=true then (sum0 l,true) else (0,false)):=by
  unfold impl_equalSum.f
  simp only [if_pos (show (0:Int)<(l.length:Int) by omega)]
  have e:rd_L2 l 0=l[0]:=rd_L1n (i:=0) (by omega)
  rw [e]
  refine Ev.bind (totalB_ev l[0] (tab_bg hT (List.getElem_mem (by omega)))) ?_
  rw [← sum0_at (by omega)]
  exact implSum_l0 hT (sum0 l) l.length 0 (by omega)
 exact Ev.bind hd (Ev.now _)
def goodL (xs:List Int):Bool:=if (1:Int)≤xs.length∧(xs.length:Int)≤8 then inR 0 60 xs else false
theorem goodL_iff (xs:List Int):goodL xs=true↔1≤xs.length∧xs.length≤8∧∀ x ∈ xs,0≤x∧x≤60:=by
 unfold goodL inR
 by_cases h:(1:Int)≤xs.length∧(xs.length:Int)≤8
 ·rw [if_pos h]
  simp only [List.all_eq_true,decide_eq_true_eq]
  exact ⟨fun h'=>⟨by omega,by omega,h'⟩,fun h'=>h'.2.2⟩
 ·rw [if_neg h]
  constructor
  ·intro h'
   cases h'
  ·intro h'
   omega
theorem liGood_ev (xs:List Int) (hx:xs.length≤9223372036854775807):Ev (fun k=>spec_liGood.f k xs) (goodL xs):=by
 unfold spec_liGood.f goodL
 simp only [l1In_eq,zbd,decide_eq_true_eq]
 exact Ev.ite (fun _=>Ev.bind (l1All_ev xs 0 60 hx) (Ev.now _)) (fun _=>Ev.now _)
theorem implIsList_ev (xs:List Int) (hx:xs.length≤9223372036854775807):Ev (fun k=>impl_IsList.f k xs) (goodL xs):=by
 unfold impl_IsList.f goodL
 simp only [within_eq,zbd,decide_eq_true_eq]
 exact Ev.ite (fun _=>Ev.bind (allWithin_ev xs 0 60 hx) (Ev.now _)) (fun _=>Ev.now _)
def dotP (x b:List Int) (j:Nat):Int:=((List.range j).map fun (i:Nat)=>rd x (i:Int)*rd b (i:Int)).sum
theorem dotP_succ (x b:List Int) (j:Nat):dotP x b (j+1)=dotP x b j+rd x (j:Int)*rd b (j:Int):=by
 unfold dotP
 rw [List.range_succ,List.map_append,List.sum_append]
 simp
def carL (b:List Int) (s:Int) (m:Nat):List Int→List (List Int)→List Int × Bool
 | acc,[]=>(acc,true)
 | acc,x :: t=>if Int.tmod (dotP x b m) s=0 then carL b s m (acc ++ [Int.tdiv (dotP x b m) s]) t else ([],false)
theorem carL_len (b:List Int) (s:Int) (m:Nat):∀ (t:List (List Int)) (acc:List Int),(carL b s m acc t).1.length≤acc.length+t.length
 | [],acc=>zcf _
 | x :: t,acc=>by
  unfold carL
  split
  ·have:=carL_len b s m t (acc ++ [Int.tdiv (dotP x b m) s])
   rw [List.length_append] at this
   simp only [List.length_cons,List.length_nil] at this ⊢
   omega
  ·simp
theorem prod_bd {l:List (List Int)} (h:Tab l) {x:List Int} (hx:x ∈ l) {b:List Int} (hbl:b.length=l.length) (hb:∀ y ∈ b,0≤y∧y≤60) {j:Nat} (hj:j<l.length):0≤rd x (j:Int)*rd b (j:Int)∧rd x (j:Int)*rd b (j:Int)≤60000000:=by
 have h1:=tab_rd h hx hj
 have h2:0≤rd b (j:Int)∧rd b (j:Int)≤60:=by
  rw [rdn (show j<b.length by omega)]
  exact hb _ (List.getElem_mem (by omega))
 exact ⟨Int.mul_nonneg h1.1 h2.1,Int.mul_le_mul h1.2 h2.2 h2.1 (by decide)⟩
theorem dot_bd {l:List (List Int)} (h:Tab l) {x:List Int} (hx:x ∈ l) {b:List Int} (hbl:b.length=l.length) (hb:∀ y ∈ b,0≤y∧y≤60):∀ j:Nat,j≤l.length→0≤dotP x b j∧dotP x b j≤60000000*(j:Int)
 | 0,_=>by simp [dotP]
 | j+1,hj=>by
  have ih:=dot_bd h hx hbl hb j (by omega)
  have p:=prod_bd h hx hbl hb (show j<l.length by omega)
  rw [dotP_succ]
  omega
theorem icar_l1 {l:List (List Int)} (h:Tab l) {b:List Int} (hbl:b.length=l.length) (hb:∀ y ∈ b,0≤y∧y≤60) (s:Int) (hs:1≤s) (acc:List Int) (ha:acc.length≤100) (i:Nat) (hi:i<l.length) {r:List Int × Bool} (hr:Ev (fun k=>if Int.tmod (dotP l[i] b l.length) s=0 then impl_CarryList.l0 k b s (acc ++ [Int.tdiv (dotP l[i] b l.length) s]) l (l.length:Int) ((i+1:Nat):Int) else some (([]:List Int),false)) r):∀ (n j:Nat),j+n=l.length→Ev (fun k=>impl_CarryList.l1 k b s acc (dotP l[i] b j) l (l.length:Int) (i:Int) l[i] ((l[i]).length:Int) (j:Int)) r
 | 0,j,e=>by
  have hlen:=(h.row _ (List.getElem_mem hi)).1
  have b3:=h.len
  have d:=dot_bd h (List.getElem_mem hi) hbl hb l.length (zcf _)
  have q1:=Int.tdiv_nonneg d.1 (show 0≤s by omega)
  have q2:=Int.tdiv_le_self s d.1
  have ej:j=l.length:=by omega
  subst ej;refine Ev.succ ?_
  simp only [impl_CarryList.l1,if_neg (show ¬ (l.length:Int)<((l[i]).length:Int) by omega),if_neg (show ¬ s=0 by omega),w64 (x:=Int.tdiv (dotP l[i] b l.length) s) (by omega) (by omega),if_pos (show acc.length<17592186044416 by omega),wsucc hi (by omega)]
  exact hr
 | n+1,j,e=>by
  have hlen:=(h.row _ (List.getElem_mem hi)).1
  have b3:=h.len
  have d:=dot_bd h (List.getElem_mem hi) hbl hb j (by omega)
  have p:=prod_bd h (List.getElem_mem hi) hbl hb (show j<l.length by omega)
  refine Ev.succ ?_
  simp only [impl_CarryList.l1,if_pos (show (j:Int)<((l[i]).length:Int) by omega),if_pos (show (0:Int)≤(j:Int) by omega),if_pos (show (j:Int)<(b.length:Int) by omega),wsucc (n:=(l[i]).length) (i:=j) (by omega) (by omega),w64 (x:=rd l[i] (j:Int)*rd b (j:Int)) (by omega) (by omega),w64 (x:=dotP l[i] b j+rd l[i] (j:Int)*rd b (j:Int)) (by omega) (by omega)]
  rw [← dotP_succ]
  exact icar_l1 h hbl hb s hs acc ha i hi hr n (j+1) (by omega)
theorem icar_l0 {l:List (List Int)} (h:Tab l) {b:List Int} (hbl:b.length=l.length) (hb:∀ y ∈ b,0≤y∧y≤60) (s:Int) (hs:1≤s):∀ (n i:Nat) (acc:List Int),i+n=l.length→acc.length=i→Ev (fun k=>impl_CarryList.l0 k b s acc l (l.length:Int) (i:Int)) (carL b s l.length acc (l.drop i))
 | 0,i,acc,e,ha=>by
  refine Ev.succ ?_
  simp only [impl_CarryList.l0,if_neg (show ¬ (i:Int)<(l.length:Int) by omega)]
  rw [List.drop_eq_nil_of_le (by omega)]
  exact Ev.now _
 | n+1,i,acc,e,ha=>by
  have hi:i<l.length:=by omega
  have b3:=h.len
  refine Ev.succ ?_
  simp only [impl_CarryList.l0,if_pos (show (i:Int)<(l.length:Int) by omega),if_pos (show (0:Int)≤(i:Int) by omega),rd_L1n hi]
  have key:=icar_l1 h hbl hb s hs acc (by omega) i hi (r:=carL b s l.length acc (l.drop i)) ?_ l.length 0 (by omega)
  ·have e0:dotP l[i] b 0=0:=by simp [dotP]
   rw [e0] at key
   exact key
  ·rw [List.drop_eq_getElem_cons hi]
   unfold carL
   by_cases c:Int.tmod (dotP l[i] b l.length) s=0
   ·simp only [if_pos c]
    exact icar_l0 h hbl hb s hs n (i+1) _ (by omega) (by rw [List.length_append];simp [ha])
   ·simp only [if_neg c]
    exact Ev.now _
theorem scar_l1 {l:List (List Int)} (h:Tab l) {b:List Int} (hbl:b.length=l.length) (hb:∀ y ∈ b,0≤y∧y≤60) (s:Int) (hs:1≤s) (acc:List Int) (ha:acc.length≤100) (i:Nat) (hi:i<l.length) {r:List Int × Bool} (hr:Ev (fun k=>if Int.tmod (dotP l[i] b l.length) s=0 then spec_doCarry.l0 k b s (acc ++ [Int.tdiv (dotP l[i] b l.length) s]) l (l.length:Int) ((i+1:Nat):Int) else some (([]:List Int),false)) r):∀ (n j:Nat),j+n=l.length→Ev (fun k=>spec_doCarry.l1 k b s acc (dotP l[i] b j) l (l.length:Int) (i:Int) l[i] ((l[i]).length:Int) (j:Int)) r
 | 0,j,e=>by
  have hlen:=(h.row _ (List.getElem_mem hi)).1
  have b3:=h.len
  have d:=dot_bd h (List.getElem_mem hi) hbl hb l.length (zcf _)
  have q1:=Int.tdiv_nonneg d.1 (show 0≤s by omega)
  have q2:=Int.tdiv_le_self s d.1
  have ej:j=l.length:=by omega
  subst ej;refine Ev.succ ?_
  simp only [spec_doCarry.l1,if_neg (show ¬ (l.length:Int)<((l[i]).length:Int) by omega),if_neg (show ¬ s=0 by omega),w64 (x:=Int.tdiv (dotP l[i] b l.length) s) (by omega) (by omega),if_pos (show acc.length<17592186044416 by omega),wsucc hi (by omega)]
  exact hr
 | n+1,j,e=>by
  have hlen:=(h.row _ (List.getElem_mem hi)).1
  have b3:=h.len
  have d:=dot_bd h (List.getElem_mem hi) hbl hb j (by omega)
  have p:=prod_bd h (List.getElem_mem hi) hbl hb (show j<l.length by omega)
  refine Ev.succ ?_
  simp only [spec_doCarry.l1,if_pos (show (j:Int)<((l[i]).length:Int) by omega),if_pos (show (0:Int)≤(j:Int) by omega),if_pos (show (j:Int)<(b.length:Int) by omega),wsucc (n:=(l[i]).length) (i:=j) (by omega) (by omega),w64 (x:=rd l[i] (j:Int)*rd b (j:Int)) (by omega) (by omega),w64 (x:=dotP l[i] b j+rd l[i] (j:Int)*rd b (j:Int)) (by omega) (by omega)]
  rw [← dotP_succ]
  exact scar_l1 h hbl hb s hs acc ha i hi hr n (j+1) (by omega)
theorem scar_l0 {l:List (List Int)} (h:Tab l) {b:List Int} (hbl:b.length=l.length) (hb:∀ y ∈ b,0≤y∧y≤60) (s:Int) (hs:1≤s):∀ (n i:Nat) (acc:List Int),i+n=l.length→acc.length=i→Ev (fun k=>spec_doCarry.l0 k b s acc l (l.length:Int) (i:Int)) (carL b s l.length acc (l.drop i))
 | 0,i,acc,e,ha=>by
  refine Ev.succ ?_
  simp only [spec_doCarry.l0,if_neg (show ¬ (i:Int)<(l.length:Int) by omega)]
  rw [List.drop_eq_nil_of_le (by omega)]
  exact Ev.now _
 | n+1,i,acc,e,ha=>by
  have hi:i<l.length:=by omega
  have b3:=h.len
  refine Ev.succ ?_
  simp only [spec_doCarry.l0,if_pos (show (i:Int)<(l.length:Int) by omega),if_pos (show (0:Int)≤(i:Int) by omega),rd_L1n hi]
  have key:=scar_l1 h hbl hb s hs acc (by omega) i hi (r:=carL b s l.length acc (l.drop i)) ?_ l.length 0 (by omega)
  ·have e0:dotP l[i] b 0=0:=by simp [dotP]
   rw [e0] at key
   exact key
  ·rw [List.drop_eq_getElem_cons hi]
   unfold carL
   by_cases c:Int.tmod (dotP l[i] b l.length) s=0
   ·simp only [if_pos c]
    exact scar_l0 h hbl hb s hs n (i+1) _ (by omega) (by rw [List.length_append];simp [ha])
   ·simp only [if_neg c]
    exact Ev.now _
theorem sum_pos:∀ l:List Int,(∀ x ∈ l,0≤x)→0≤l.sum
 | [],_=>by simp
 | x :: l,h=>by
  rw [List.sum_cons]
  have:=sum_pos l (fun y hy=>h y (List.mem_cons_of_mem _ hy))
  have:=h x List.mem_cons_self
  omega
theorem sum0_nn {l:List (List Int)} (hT:Tab l) (h1:1≤l.length):0≤sum0 l:=by
 rw [sum0_at (by omega)]
 have:=(tab_bg hT (List.getElem_mem (show 0<l.length by omega))).2
 exact sum_pos _ (fun z hz=>(this z hz).1)
theorem doSum_ev {l:List (List Int)} (hT:Tab l) (h1:1≤l.length):Ev (fun k=>spec_doSum.f k l) (if (List.range' 0 l.length).all (okI l (sum0 l))=true then sum0 l else -1):=by
 unfold spec_doSum.f
 simp only [if_pos (show (0:Int)<(l.length:Int) by omega)]
 have e:rd_L2 l 0=l[0]:=rd_L1n (i:=0) (by omega)
 rw [e]
 refine Ev.bind (liSumB_ev l[0] (tab_bg hT (List.getElem_mem (by omega)))) ?_
 rw [← sum0_at (by omega)]
 exact specSum_l0 hT (sum0 l) l.length 0 (by omega)
theorem equalSum_ev {l:List (List Int)} (hT:Tab l) (h1:1≤l.length):Ev (fun k=>impl_equalSum.f k l) (if (List.range' 0 l.length).all (okI l (sum0 l))=true then (sum0 l,true) else (0,false)):=by
 unfold impl_equalSum.f
 simp only [if_pos (show (0:Int)<(l.length:Int) by omega)]
 have e:rd_L2 l 0=l[0]:=rd_L1n (i:=0) (by omega)
 rw [e]
 refine Ev.bind (totalB_ev l[0] (tab_bg hT (List.getElem_mem (by omega)))) ?_
 rw [← sum0_at (by omega)]
 exact implSum_l0 hT (sum0 l) l.length 0 (by omega)
def carR (t:List (List Int)) (b:List Int):List Int × Bool:=if squareB t=true then (if goodL b=true then (if t.length=b.length then (if (List.range' 0 t.length).all (okI t (sum0 t))=true then (if sum0 t=0 then ([],false) else carL b (sum0 t) t.length [] t) else ([],false)) else ([],false)) else ([],false)) else ([],false)
theorem carR_len (t:List (List Int)) (b:List Int):(carR t b).1.length≤6:=by
 unfold carR
 split
 ·next hq =>
  have hT:=(square_tab hq).1.len
  have:=carL_len b (sum0 t) t.length t []
  repeat' split
  all_goals (simp only [List.length_nil] at this ⊢;omega)
 ·simp
theorem scar_true (t:List (List Int)) (b:List Int):Ev (fun k=>spec_CarryList.j0 k t b true) ([],false):=by
 refine Ev.succ ?_
 simp only [spec_CarryList.j0,if_true]
 exact Ev.now _
theorem icar_true (t:List (List Int)) (b:List Int):Ev (fun k=>impl_CarryList.j0 k t b true) ([],false):=by
 refine Ev.succ ?_
 simp only [impl_CarryList.j0,if_true]
 exact Ev.now _
theorem specCarryList_ev (t:List (List Int)) (b:List Int) (hl:t.length≤1048576) (ht:totSS t≤1048576) (hb:b.length≤1048576):Ev (fun k=>spec_CarryList.f k t b) (carR t b):=by
 unfold spec_CarryList.f carR
 refine Ev.bind (doGood_ev t hl ht) (Ev.ite (fun hq => ?_) (fun _=>scar_true t b))
 obtain ⟨hT,h1⟩:=square_tab hq
 have hs:=sum0_nn hT h1
 have hd:=doSum_ev hT h1
 refine Ev.bind hd ?_
 by_cases c:(List.range' 0 t.length).all (okI t (sum0 t))=true
 ·simp only [if_pos c] at hd ⊢
  by_cases z:sum0 t=0
  ·simp only [if_pos (show sum0 t<1 by omega),if_pos z]
   repeat' split
   all_goals exact scar_true t b
  ·simp only [if_neg (show ¬ sum0 t<1 by omega),if_neg z]
   refine Ev.bind (liGood_ev b (by omega)) (Ev.ite (fun gb => ?_) (fun _=>scar_true t b))
   by_cases e:t.length=b.length
   ·rw [if_pos e]
    have en:((b.length:Int) != (t.length:Int))=false:=by rw [e];simp
    rw [en]
    refine Ev.succ ?_
    simp only [spec_CarryList.j0,zbm,if_false]
    refine Ev.bind hd ?_
    unfold spec_doCarry.f
    exact Ev.bind (scar_l0 hT e.symm ((goodL_iff b).1 gb).2.2 (sum0 t) (by omega) t.length 0 [] (by omega) rfl) (Ev.now _)
   ·rw [if_neg e]
    have en:((b.length:Int) != (t.length:Int))=true:=bne_iff_ne.mpr (by omega)
    rw [en]
    exact scar_true t b
 ·simp only [if_neg c,if_pos (show (-1:Int)<1 by decide)]
  repeat' split
  all_goals exact scar_true t b
theorem implCarryList_ev (t:List (List Int)) (b:List Int) (hl:t.length≤1048576) (ht:totSS t≤1048576) (hb:b.length≤1048576):Ev (fun k=>impl_CarryList.f k t b) (carR t b):=by
 unfold impl_CarryList.f carR
 simp only [implIsSquare_eq t hl ht,zbd]
 refine Ev.ite (fun hq => ?_) (fun _=>icar_true t b)
 obtain ⟨hT,h1⟩:=square_tab hq
 have hs:=sum0_nn hT h1
 have hd:=equalSum_ev hT h1
 refine Ev.bind (implIsList_ev b (by omega)) (Ev.ite (fun gb => ?_) (fun _=>icar_true t b))
 by_cases e:t.length=b.length
 ·rw [if_pos e]
  have en:((t.length:Int) != (b.length:Int))=false:=by rw [e];simp
  rw [en]
  refine Ev.succ ?_
  simp only [impl_CarryList.j0,zbm,if_false]
  refine Ev.bind hd ?_
  by_cases c:(List.range' 0 t.length).all (okI t (sum0 t))=true
  ·simp only [if_pos c,if_true]
   by_cases z:sum0 t=0
   ·have ez:(sum0 t == 0)=true:=by rw [z];rfl
    simp only [ez,if_pos z]
    refine Ev.succ ?_
    simp only [impl_CarryList.j1,if_true]
    exact Ev.now _
   ·have ez:(sum0 t == 0)=false:=zbo.mpr z
    simp only [ez,if_neg z]
    refine Ev.succ ?_
    simp only [impl_CarryList.j1,zbm,if_false]
    exact icar_l0 hT e.symm ((goodL_iff b).1 gb).2.2 (sum0 t) (by omega) t.length 0 [] (by omega) rfl
  ·simp only [if_neg c,zbm,if_false]
   refine Ev.succ ?_
   simp only [impl_CarryList.j1,if_true]
   exact Ev.now _
 ·rw [if_neg e]
  have en:((t.length:Int) != (b.length:Int))=true:=bne_iff_ne.mpr (by omega)
  rw [en]
  exact icar_true t b
def tabG (n:Nat) (G:Nat→Nat→Int):List (List Int):=(List.range n).map fun i=>(List.range n).map fun j=>G i j
theorem tabG_length (n:Nat) (G:Nat→Nat→Int):(tabG n G).length=n:=by simp [tabG]
theorem tabG_get {n:Nat} {G:Nat→Nat→Int} {i:Nat} (h:i<(tabG n G).length):(tabG n G)[i]=(List.range n).map fun j=>G i j:=by simp [tabG]
theorem tabG_row {n:Nat} (G:Nat→Nat→Int) {i:Nat} (h:i<n):rd_L2 (tabG n G) (i:Int)=(List.range n).map fun j=>G i j:=by
 rw [rd_L1n (by rw [tabG_length];exact h),tabG_get]
theorem tabG_rowlen {n:Nat} (G:Nat→Nat→Int) {i:Nat} (h:i<n):(rd_L2 (tabG n G) (i:Int)).length=n:=by rw [tabG_row G h];simp
theorem rowG_at {n:Nat} (g:Nat→Int) {j:Nat} (h:j<n):rd ((List.range n).map g) (j:Int)=g j:=by
 rw [rdn (tabg)]
 simp
theorem tabG_at {n:Nat} (G:Nat→Nat→Int) {i j:Nat} (h:i<n) (h':j<n):rd (rd_L2 (tabG n G) (i:Int)) (j:Int)=G i j:=by rw [tabG_row G h,rowG_at _ h']
theorem tabG_congr {n:Nat} {G G':Nat→Nat→Int} (h:∀ i j,i<n→j<n→G i j=G' i j):tabG n G=tabG n G':=by
 unfold tabG
 refine List.map_congr_left fun i hi=>List.map_congr_left fun j hj=>h i j (List.mem_range.1 hi) (List.mem_range.1 hj)
def updG (G:Nat→Nat→Int) (i j:Nat) (v:Int):Nat→Nat→Int:=fun a b=>if a=i∧b=j then v else G a b
theorem rowG_set {n:Nat} (g:Nat→Int) (j:Nat) (v:Int):((List.range n).map g).set j v=(List.range n).map fun b=>if b=j then v else g b:=by
 apply List.ext_getElem
 ·simp
 ·intro k h1 h2
  simp only [List.length_map,List.length_range,List.length_set] at h1 h2
  rw [List.getElem_set]
  by_cases e:j=k
  ·subst e
   simp
  ·have e':¬ k=j:=fun h=>e h.symm
   simp [e,e']
theorem tabG_set {n:Nat} (G:Nat→Nat→Int) {i:Nat} (j:Nat) (v:Int) (h:i<n):(tabG n G).set i ((rd_L2 (tabG n G) (i:Int)).set j v)=tabG n (updG G i j v):=by
 rw [tabG_row G h,rowG_set]
 apply List.ext_getElem
 ·simp [tabG]
 ·intro k h1 h2
  rw [List.length_set,tabG_length] at h1
  rw [List.getElem_set,tabG_get,tabG_get]
  by_cases e:i=k
  ·subst e
   rw [if_pos rfl]
   refine List.map_congr_left fun b _ => ?_
   unfold updG
   by_cases e2:b=j <;> simp [e2]
  ·rw [if_neg e]
   refine List.map_congr_left fun b _ => ?_
   unfold updG
   rw [if_neg (fun h=>e h.1.symm)]
theorem tabG_zero (n:Nat):List.replicate n (List.replicate n (0:Int))=tabG n (fun _ _=>0):=by
 unfold tabG
 apply List.ext_getElem
 ·simp
 ·intro k h1 h2
  simp only [List.getElem_replicate,List.getElem_map]
  apply List.ext_getElem
  ·simp
  ·intro k h1 h2
   simp
def atG (l:List (List Int)) (i j:Nat):Int:=rd (rd_L2 l (i:Int)) (j:Int)
theorem tabG_self {l:List (List Int)} (h:∀ x ∈ l,x.length=l.length):tabG l.length (atG l)=l:=by
 apply List.ext_getElem
 ·rw [tabG_length]
 ·intro i h1 h2
  rw [tabG_get]
  have hl:=h _ (List.getElem_mem h2)
  apply List.ext_getElem
  ·simp [hl]
  ·intro j h3 h4
   simp only [List.getElem_map,List.getElem_range]
   unfold atG
   rw [rd_L1n h2,rdn h4]
theorem atG_tab {n:Nat} (G:Nat→Nat→Int) {i j:Nat} (h:i<n) (h':j<n):atG (tabG n G) i j=G i j:=tabG_at G h h'
theorem tabG_tot (n:Nat) (G:Nat→Nat→Int):totSS (tabG n G)=n*n:=by
 unfold totSS tabG
 rw [List.map_map]
 have:∀ m:Nat,((List.range m).map (List.length ∘ fun i=>(List.range n).map fun j=>G i j)).sum=m*n:=by
  intro m
  induction m with
  | zero=>simp
  | succ m ih=>rw [List.range_succ,List.map_append,List.sum_append,ih];simp [Nat.succ_mul]
 exact this n
theorem fill_ev {ρ:Type} {r:ρ} (n:Nat) (val:Nat→Nat→Int) (g0:Nat→List (List Int)→Int→Option ρ) (g1:Nat→List (List Int)→Int→Int→Option ρ)
 (hend:Ev (fun k=>g0 k (tabG n val) (n:Int)) r)
 (h0:∀ i,i<n→∀ X:Nat→Nat→Int,Ev (fun k=>g1 k (tabG n X) (i:Int) 0) r→Ev (fun k=>g0 k (tabG n X) (i:Int)) r)
 (h1:∀ i j,i<n→j<n→∀ H:Nat→Nat→Int,H i j=0→Ev (fun k=>g1 k (tabG n (updG H i j (val i j))) (i:Int) ((j+1:Nat):Int)) r→Ev (fun k=>g1 k (tabG n H) (i:Int) (j:Int)) r)
 (h2:∀ i,i<n→∀ X:Nat→Nat→Int,Ev (fun k=>g0 k (tabG n X) ((i+1:Nat):Int)) r→Ev (fun k=>g1 k (tabG n X) (i:Int) (n:Int)) r) :
 Ev (fun k=>g0 k (tabG n fun _ _=>0) 0) r:=by
 have row:∀ i,i<n→(Ev (fun k=>g0 k (tabG n fun a b=>if a<i+1 then val a b else 0) ((i+1:Nat):Int)) r)→∀ (m j:Nat),j+m=n→Ev (fun k=>g1 k (tabG n fun a b=>if a<i∨(a=i∧b<j) then val a b else 0) (i:Int) (j:Int)) r:=by
  intro i hi hr m
  induction m with
  | zero =>
   intro j hj
   have e:j=n:=by omega
   subst e;refine h2 i hi _ ?_
   rw [tabG_congr (G':=fun a b=>if a<i+1 then val a b else 0) (fun a b _ hb=>by
    by_cases c:a<i+1
    ·rw [if_pos c,if_pos (by omega)]
    ·rw [if_neg c,if_neg (by omega)])]
   exact hr
  | succ m ih =>
   intro j hj
   refine h1 i j hi (by omega) _ (taac) ?_
   rw [tabG_congr (G':=fun a b=>if a<i∨(a=i∧b<j+1) then val a b else 0) (fun a b _ hb=>by
    unfold updG
    by_cases c:a=i∧b=j
    ·rw [if_pos c,if_pos (by omega),c.1,c.2]
    ·rw [if_neg c]
     show (if a<i∨(a=i∧b<j) then val a b else 0)=_
     by_cases d:a<i∨(a=i∧b<j)
     ·rw [if_pos d,if_pos (by omega)]
     ·rw [if_neg d,if_neg (by omega)])]
   exact ih (j+1) (by omega)
 have all:∀ (m i:Nat),i+m=n→Ev (fun k=>g0 k (tabG n fun a b=>if a<i then val a b else 0) (i:Int)) r:=by
  intro m
  induction m with
  | zero =>
   intro i hi
   have e:i=n:=by omega
   subst e;rw [tabG_congr (G':=val) (fun a b ha _=>if_pos ha)]
   exact hend
  | succ m ih =>
   intro i hi
   refine h0 i (by omega) _ ?_
   have:=row i (by omega) (ih (i+1) (by omega)) n 0 (by omega)
   rw [tabG_congr (G':=fun a b=>if a<i then val a b else 0) (fun a b _ _=>by
    by_cases c:a<i
    ·rw [if_pos c,if_pos (by omega)]
    ·rw [if_neg c,if_neg (by omega)])] at this
   exact this
 have:=all n 0 (by omega)
 rw [tabG_congr (G':=fun _ _=>0) (fun a b _ _=>if_neg (by omega))] at this
 exact this
def checkR (u:List (List Int)):List (List Int) × Bool:=if squareB u=true then (u,true) else ([],false)
theorem checkR_bd (u:List (List Int)):totSS (checkR u).1≤1000∧(checkR u).1.length≤1000:=by
 unfold checkR
 split
 ·next h =>
  obtain ⟨hT,_⟩:=square_tab h
  have hl:=hT.len
  have e:=tabG_tot u.length (atG u)
  rw [tabG_self (fun x hx=>(hT.row x hx).1)] at e
  have:=Nat.mul_le_mul hl hl
  show totSS u≤1000∧u.length≤1000
  omega
 ·simp [totSS]
theorem checked_eq (u:List (List Int)) (hl:u.length≤1048576) (ht:totSS u≤1048576):impl_checked.f u=some (checkR u):=by
 unfold impl_checked.f checkR
 rw [implIsSquare_eq u hl ht,zbd]
 split <;> rfl
theorem checkedG_eq (n:Nat) (hn:n≤6) (G:Nat→Nat→Int):impl_checked.f (tabG n G)=some (checkR (tabG n G)):=by
 have:=Nat.mul_le_mul hn hn
 exact checked_eq _ (by rw [tabG_length];omega) (by rw [tabG_tot];omega)
theorem doIf_ev (u:List (List Int)) (hl:u.length≤1048576) (ht:totSS u≤1048576):Ev (fun k=>spec_doIf.f k u) (checkR u):=by
 unfold spec_doIf.f checkR
 exact Ev.bind (doGood_ev u hl ht) (Ev.ite (fun _=>Ev.now _) (fun _=>Ev.now _))
theorem doIfG_ev (n:Nat) (hn:n≤6) (G:Nat→Nat→Int):Ev (fun k=>spec_doIf.f k (tabG n G)) (checkR (tabG n G)):=by
 have:=Nat.mul_le_mul hn hn
 exact doIf_ev _ (by rw [tabG_length];omega) (by rw [tabG_tot];omega)
theorem atG_bd {l:List (List Int)} (h:Tab l) {i j:Nat} (hi:i<l.length) (hj:j<l.length):0≤atG l i j∧atG l i j≤1000000:=by
 unfold atG
 rw [rd_L1n hi]
 exact tab_rd h (List.getElem_mem hi) hj
theorem tab_rowlen {l:List (List Int)} (h:Tab l) {i:Nat} (hi:i<l.length):(rd_L2 l (i:Int)).length=l.length:=by
 rw [rd_L1n hi]
 exact (h.row _ (List.getElem_mem hi)).1

def cardB (n:Nat) (S:Nat→Bool):Nat:=(List.range n).countP S
theorem countP_sub {α:Type} (A B D:α→Bool):∀ l:List α,(∀ x ∈ l,A x=true→B x=true∨D x=true)→l.countP A≤l.countP B+l.countP D
 | [],_=>by simp
 | x :: l,h=>by
  have ih:=countP_sub A B D l (fun y hy=>h y (List.mem_cons_of_mem _ hy))
  have hx:=h x List.mem_cons_self
  rw [List.countP_cons,List.countP_cons,List.countP_cons]
  cases hA:A x with
  | false=>simp only [zbm,if_false];omega
  | true =>
   rcases hx hA with hB | hD
   ·rw [hB];simp only [if_true];omega
   ·rw [hD];simp only [if_true];omega
theorem countP_two {α:Type} (A B D:α→Bool):∀ l:List α,(∀ x ∈ l,B x=true→A x=true∧D x=false)→(∀ x ∈ l,D x=true→A x=true)→l.countP B+l.countP D≤l.countP A
 | [],_,_=>by simp
 | x :: l,h,k=>by
  have ih:=countP_two A B D l (fun y hy=>h y (List.mem_cons_of_mem _ hy)) (fun y hy=>k y (List.mem_cons_of_mem _ hy))
  have hx:=h x List.mem_cons_self
  have kx:=k x List.mem_cons_self
  rw [List.countP_cons,List.countP_cons,List.countP_cons]
  cases hB:B x with
  | true =>
   obtain ⟨h1,h2⟩:=hx hB
   rw [h1,h2]
   simp only [if_true,zbm,if_false]
   omega
  | false =>
   cases hD:D x with
   | true =>
    rw [kx hD]
    simp only [if_true,zbm,if_false]
    omega
   | false =>
    simp only [zbm,if_false]
    omega
theorem cardB_pos {n:Nat} {S:Nat→Bool} {i:Nat} (hi:i<n) (h:S i=true):0<cardB n S:=by
 unfold cardB
 rw [List.countP_pos_iff]
 exact ⟨i,List.mem_range.2 hi,h⟩
theorem cardB_ex {n:Nat} {S:Nat→Bool} (h:0<cardB n S):∃ i,i<n∧S i=true:=by
 unfold cardB at h
 rw [List.countP_pos_iff] at h
 obtain ⟨i,hi,hs⟩:=h
 exact ⟨i,List.mem_range.1 hi,hs⟩
theorem cardB_one (n c:Nat):cardB n (fun j=>j == c)≤1:=by
 have h:=List.nodup_iff_count.1 (List.nodup_range (n:=n)) c
 exact h
theorem cardB_le {n:Nat} {A B:Nat→Bool} (h:∀ i,i<n→A i=true→B i=true):cardB n A≤cardB n B:=List.countP_mono_left fun i hi ha=>h i (List.mem_range.1 hi) ha
def nbr (n:Nat) (P:Nat→Nat→Bool) (C S:Nat→Bool) (j:Nat):Bool:=C j && (List.range n).any fun i=>S i && P i j
theorem nbr_iff {n:Nat} {P:Nat→Nat→Bool} {C S:Nat→Bool} {j:Nat}:nbr n P C S j=true↔C j=true∧∃ i,i<n∧S i=true∧P i j=true:=by
 unfold nbr
 simp only [Bool.and_eq_true,List.any_eq_true,List.mem_range]
theorem hall (n:Nat) (P:Nat→Nat→Bool):∀ (m:Nat) (R C:Nat→Bool),cardB n R≤m→(∀ S:Nat→Bool,(∀ i,i<n→S i=true→R i=true)→cardB n S≤cardB n (nbr n P C S))→∃ f:Nat→Nat,(∀ i,i<n→R i=true→f i<n∧C (f i)=true∧P i (f i)=true)∧∀ i j,i<n→j<n→R i=true→R j=true→f i=f j→i=j
 | 0,R,C,hR,_=>by
  have hno:∀ i,i<n→R i=true→False:=fun i hi h=>by have:=cardB_pos hi h;omega
  exact ⟨id,fun i hi h=>(hno i hi h).elim,fun i j hi _ h _ _=>(hno i hi h).elim⟩
 | m+1,R,C,hR,hH=>by
  by_cases hex:0<cardB n R
  ·obtain ⟨r,hr,hRr⟩:=cardB_ex hex
   by_cases hB:∃ S:Nat→Bool,(∀ i,i<n→S i=true→R i=true)∧0<cardB n S∧cardB n S<cardB n R∧cardB n (nbr n P C S)≤cardB n S
   ·obtain ⟨S,hS,h0,h1,h2⟩:=hB
    obtain ⟨f1,a1,b1⟩:=hall n P m S C (by omega) (fun T hT=>hH T (fun i hi h=>hS i hi (hT i hi h)))
    have hsplit:cardB n (fun i=>R i && !S i)+cardB n S≤cardB n R:=countP_two R (fun i=>R i && !S i) S (List.range n) (fun i _ h=>taex) (fun i hi h=>hS i (List.mem_range.1 hi) h)
    obtain ⟨f2,a2,b2⟩:=hall n P m (fun i=>R i && !S i) (fun j=>C j && !nbr n P C S j) (by omega) (fun T hT=>by
     have hT':∀ i,i<n→T i=true→R i=true∧S i=false:=fun i hi h=>by have:=hT i hi h;simp only [Bool.and_eq_true,Bool.not_eq_true'] at this;exact this
     have e1:cardB n T+cardB n S≤cardB n (fun i=>T i || S i):=countP_two (fun i=>T i || S i) T S (List.range n) (fun i hi h=>⟨by simp [h],(hT' i (List.mem_range.1 hi) h).2⟩) (fun i _ h=>by simp [h])
     have e2:=hH (fun i=>T i || S i) (fun i hi h=>by
      simp only [Bool.or_eq_true] at h
      rcases h with h | h
      ·exact (hT' i hi h).1
      ·exact hS i hi h)
     have e3:cardB n (nbr n P C (fun i=>T i || S i))≤cardB n (nbr n P (fun j=>C j && !nbr n P C S j) T)+cardB n (nbr n P C S):=countP_sub _ _ _ (List.range n) (fun j _ h=>by
      obtain ⟨hc,i,hi,hs,hp⟩:=nbr_iff.1 h
      by_cases hn:nbr n P C S j=true
      ·exact .inr hn
      ·refine .inl (nbr_iff.2 ⟨by simp only [Bool.and_eq_true,Bool.not_eq_true'];exact ⟨hc,by simpa using hn⟩,i,hi,?_,hp⟩)
       simp only [Bool.or_eq_true] at hs
       rcases hs with hs | hs
       ·exact hs
       ·exact (hn (nbr_iff.2 ⟨hc,i,hi,hs,hp⟩)).elim)
     omega)
    have q1:∀ i,i<n→S i=true→nbr n P C S (f1 i)=true:=fun i hi h=>by
     obtain ⟨_,hc,hp⟩:=a1 i hi h
     exact nbr_iff.2 ⟨hc,i,hi,h,hp⟩
    have q2:∀ i,i<n→R i=true→¬ S i=true→f2 i<n∧C (f2 i)=true∧nbr n P C S (f2 i)=false∧P i (f2 i)=true:=fun i hi h hs=>by
     obtain ⟨u,v,w⟩:=a2 i hi (tafc)
     simp only [Bool.and_eq_true,Bool.not_eq_true'] at v
     exact ⟨u,v.1,v.2,w⟩
    refine ⟨fun i=>if S i=true then f1 i else f2 i,fun i hi h => ?_,fun i j hi hj h k e => ?_⟩
    ·show (if S i=true then f1 i else f2 i)<n∧C (if S i=true then f1 i else f2 i)=true∧P i (if S i=true then f1 i else f2 i)=true
     by_cases hs:S i=true
     ·rw [if_pos hs]
      exact a1 i hi hs
     ·rw [if_neg hs]
      obtain ⟨u,v,_,w⟩:=q2 i hi h hs
      exact ⟨u,v,w⟩
    ·simp only at e
     by_cases hs:S i=true
     ·by_cases ht:S j=true
      ·rw [if_pos hs,if_pos ht] at e
       exact b1 i j hi hj hs ht e
      ·rw [if_pos hs,if_neg ht] at e
       have x1:=q1 i hi hs
       have x2:=(q2 j hj k ht).2.2.1
       rw [e,x2] at x1
       cases x1
     ·by_cases ht:S j=true
      ·rw [if_neg hs,if_pos ht] at e
       have x1:=q1 j hj ht
       have x2:=(q2 i hi h hs).2.2.1
       rw [← e,x2] at x1
       cases x1
      ·rw [if_neg hs,if_neg ht] at e
       exact b2 i j hi hj (tafc) (tafe) e
   ·have hA:∀ T:Nat→Bool,(∀ i,i<n→T i=true→R i=true)→0<cardB n T→cardB n T<cardB n R→cardB n T+1≤cardB n (nbr n P C T):=fun T h1 h2 h3=>by
     have:¬ cardB n (nbr n P C T)≤cardB n T:=fun h4=>hB ⟨T,h1,h2,h3,h4⟩
     omega
    have hs1:0<cardB n (fun i=>i == r):=cardB_pos hr (taac)
    have hN:=hH (fun i=>i == r) (fun i _ h=>by
     have e:i=r:=by simpa using h
     rw [e]
     exact hRr)
    obtain ⟨c,hc,hnc⟩:=cardB_ex (show 0<cardB n (nbr n P C (fun i=>i == r)) by omega)
    obtain ⟨hCc,i0,_,hi0,hP⟩:=nbr_iff.1 hnc
    have ei0:i0=r:=by simpa using hi0
    subst ei0
    have hsplit:cardB n (fun i=>R i && !(i == i0))+cardB n (fun i=>i == i0)≤cardB n R:=countP_two R (fun i=>R i && !(i == i0)) (fun i=>i == i0) (List.range n) (fun i _ h=>taex) (fun i _ h=>by
     have e:i=i0:=by simpa using h
     rw [e]
     exact hRr)
    obtain ⟨f1,a1,b1⟩:=hall n P m (fun i=>R i && !(i == i0)) (fun j=>C j && !(j == c)) (by omega) (fun T hT=>by
     by_cases ht0:0<cardB n T
     ·have hTR:∀ i,i<n→T i=true→R i=true:=fun i hi h=>by have:=hT i hi h;simp only [Bool.and_eq_true] at this;exact this.1
      have hle:cardB n T≤cardB n (fun i=>R i && !(i == i0)):=cardB_le hT
      have g:=hA T hTR ht0 (by omega)
      have e3:cardB n (nbr n P C T)≤cardB n (nbr n P (fun j=>C j && !(j == c)) T)+cardB n (fun j=>j == c):=countP_sub _ _ _ (List.range n) (fun j _ h=>by
       obtain ⟨hcj,i,hi,hs,hp⟩:=nbr_iff.1 h
       by_cases e:j=c
       ·exact .inr (by simpa using e)
       ·exact .inl (nbr_iff.2 ⟨by simp only [Bool.and_eq_true,Bool.not_eq_true'];exact ⟨hcj,by simpa using e⟩,i,hi,hs,hp⟩))
      have:=cardB_one n c
      omega
     ·omega)
    have q:∀ i,i<n→R i=true→i≠i0→f1 i<n∧C (f1 i)=true∧f1 i≠c∧P i (f1 i)=true:=fun i hi h hne=>by
     obtain ⟨u,v,w⟩:=a1 i hi (by simp only [Bool.and_eq_true,Bool.not_eq_true'];exact ⟨h,by simpa using hne⟩)
     simp only [Bool.and_eq_true,Bool.not_eq_true'] at v
     exact ⟨u,v.1,by simpa using v.2,w⟩
    refine ⟨fun i=>if i=i0 then c else f1 i,fun i hi h => ?_,fun i j hi hj h k e => ?_⟩
    ·show (if i=i0 then c else f1 i)<n∧C (if i=i0 then c else f1 i)=true∧P i (if i=i0 then c else f1 i)=true
     by_cases hs:i=i0
     ·rw [if_pos hs,hs]
      exact ⟨hc,hCc,hP⟩
     ·rw [if_neg hs]
      obtain ⟨u,v,_,w⟩:=q i hi h hs
      exact ⟨u,v,w⟩
    ·simp only at e
     by_cases hs:i=i0
     ·by_cases ht:j=i0
      ·rw [hs,ht]
      ·rw [if_pos hs,if_neg ht] at e
       exact ((q j hj k ht).2.2.1 e.symm).elim
     ·by_cases ht:j=i0
      ·rw [if_neg hs,if_pos ht] at e
       exact ((q i hi h hs).2.2.1 e).elim
      ·rw [if_neg hs,if_neg ht] at e
       exact b1 i j hi hj (tafc) (tafe) e
  ·have hno:∀ i,i<n→R i=true→False:=fun i hi h=>hex (cardB_pos hi h)
   exact ⟨id,fun i hi h=>(hno i hi h).elim,fun i j hi _ h _ _=>(hno i hi h).elim⟩
theorem l1Own_eq (l:List Int) (hx:l.length≤1048576):spec_l1Own.f l=some l:=by
 unfold spec_l1Own.f
 simp only [zbd,List.nil_append,List.length_nil,Nat.zero_add,if_pos (show l.length<17592186044416 by omega)]
def insD:List Int→Int→List Int
 | [],x=>[x]
 | y :: ys,x=>if x≤y then y :: insD ys x else x :: y :: ys
def Desc (l:List Int):Prop:=l.Pairwise fun x y=>y≤x
theorem insD_at (x:Int):∀ (out:List Int) (j:Nat),j≤out.length→(∀ i,i<j→∀ h:i<out.length,x≤out[i])→(∀ h:j<out.length,¬ x≤out[j])→insD out x=out.take j ++ [x] ++ out.drop j
 | [],j,hj,_,_=>by simp [insD]
 | y :: ys,0,_,_,h=>by
  have:=h (taac)
  simp only [List.getElem_cons_zero] at this
  simp [insD,this]
 | y :: ys,j+1,hj,h1,h2=>by
  have h0:=h1 0 (by omega) (taac)
  simp only [List.getElem_cons_zero] at h0
  have ih:=insD_at x ys j (by simpa using hj) (fun i hi h=>by have:=h1 (i+1) (by omega) (tabg);simpa using this) (fun h=>by have:=h2 (tabg);simpa using this)
  simp only [insD,if_pos h0,ih,List.take_succ_cons,List.drop_succ_cons,List.cons_append]
theorem insD_perm (x:Int):∀ out:List Int,(insD out x).Perm (x :: out)
 | []=>List.Perm.refl _
 | y :: ys=>by
  unfold insD
  split
  ·exact ((insD_perm x ys).cons y).trans (List.Perm.swap x y ys)
  ·exact List.Perm.refl _
theorem insD_length (x:Int) (out:List Int):(insD out x).length=out.length+1:=by
 rw [(insD_perm x out).length_eq,List.length_cons]
theorem insD_desc (x:Int):∀ out:List Int,Desc out→Desc (insD out x)
 | [],_=>by simp [insD,Desc]
 | y :: ys,h=>by
  unfold insD
  unfold Desc at h
  rw [List.pairwise_cons] at h
  split
  ·next hc =>
   unfold Desc
   rw [List.pairwise_cons]
   refine ⟨fun z hz => ?_,insD_desc x ys h.2⟩
   rcases List.mem_cons.1 ((insD_perm x ys).mem_iff.1 hz) with rfl | hz
   ·exact hc
   ·exact h.1 z hz
  ·next hc =>
   unfold Desc
   rw [List.pairwise_cons,List.pairwise_cons]
   refine ⟨fun z hz => ?_,h⟩
   rcases List.mem_cons.1 hz with rfl | hz
   ·omega
   ·have:=h.1 z hz
    omega
theorem descL_perm (l:List Int):(descL l).Perm l:=List.mergeSort_perm l _
theorem descL_desc (l:List Int):Desc (descL l):=by
 unfold descL Desc
 have h:=List.pairwise_mergeSort (le:=fun x y:Int=>decide (y≤x)) (fun a b c h1 h2=>by simp only [decide_eq_true_eq] at *;omega) (fun a b=>by simp only [Bool.or_eq_true,decide_eq_true_eq];omega) l
 exact h.imp (fun h=>tabg)
theorem desc_unique {a b:List Int} (h:a.Perm b) (ha:Desc a) (hb:Desc b):a=b :=
 List.Perm.eq_of_pairwise (le:=fun x y:Int=>y≤x) (fun x y _ _ h1 h2=>by omega) ha hb h
theorem descL_length (l:List Int):(descL l).length=l.length:=(descL_perm l).length_eq
theorem descL_mem {l:List Int} {x:Int}:x ∈ descL l↔x ∈ l:=(descL_perm l).mem_iff
theorem perm_sum {a b:List Int} (h:a.Perm b):a.sum=b.sum:=by
 induction h with
 | nil=>rfl
 | cons x _ ih=>simp only [List.sum_cons,ih]
 | swap x y l=>simp only [List.sum_cons];omega
 | trans _ _ ih1 ih2=>exact ih1.trans ih2
theorem descL_sum (l:List Int):(descL l).sum=l.sum:=perm_sum (descL_perm l)
theorem foldl_ins_perm:∀ (l out:List Int),(l.foldl insD out).Perm (out ++ l)
 | [],out=>by simp
 | x :: l,out=>by
  rw [List.foldl_cons]
  refine (foldl_ins_perm l (insD out x)).trans ?_
  refine ((insD_perm x out).append_right l).trans ?_
  exact (List.perm_middle (a:=x) (l₁:=out) (l₂:=l)).symm
theorem foldl_ins_desc:∀ (l out:List Int),Desc out→Desc (l.foldl insD out)
 | [],out,h=>h
 | x :: l,out,h=>by
  rw [List.foldl_cons]
  exact foldl_ins_desc l _ (insD_desc x out h)
theorem foldl_ins (l:List Int):l.foldl insD []=descL l :=
 desc_unique ((by simpa using foldl_ins_perm l []:(l.foldl insD []).Perm l).trans (descL_perm l).symm) (foldl_ins_desc l [] (by simp [Desc])) (descL_desc l)
def Sm (l:List Int):Prop:=l.length≤1000∧∀ x ∈ l,0≤x∧x≤1000
theorem good_sm {l:List Int} (h:goodL l=true):Sm l:=by
 have:=(goodL_iff l).1 h
 exact ⟨by omega,fun x hx=>by have:=this.2.2 x hx;omega⟩
theorem sm_desc {l:List Int} (h:Sm l):Sm (descL l):=⟨by rw [descL_length];exact h.1,fun x hx=>h.2 x (descL_mem.1 hx)⟩
theorem ranking_eq {l:List Int} (h:Sm l):impl_ranking.f l=some (descL l):=by
 unfold impl_ranking.f smallL
 rw [if_pos]
 simp only [Bool.and_eq_true,decide_eq_true_eq,List.all_eq_true]
 exact ⟨by have:=h.1;omega,fun x hx=>by have:=h.2 x hx;omega⟩
theorem liRank_in (l:List Int) (x:Int) (i9:Int) (out:List Int) (hout:out.length≤1000000) (r:List Int) (hr:Ev (fun k=>spec_liRank.l0 k (insD out x) l (l.length:Int) (wrap64 (i9+1))) r) :
 ∀ (n j:Nat),j+n=out.length→(∀ i,i<j→∀ h:i<out.length,x≤out[i])→Ev (fun k=>spec_liRank.l1 k out x (j:Int) l (l.length:Int) i9) r
 | 0,j,h,hall=>by
  refine Ev.succ ?_
  have e:=insD_at x out j (by omega) hall (fun h'=>by omega)
  simp only [spec_liRank.l1,if_neg (show ¬ (j:Int)<(out.length:Int) by omega),if_pos (show (0:Int)≤(j:Int) by omega),if_pos (show (j:Int)≤(out.length:Int) by omega),Int.toNat_natCast,l1Own_eq (out.take j) (by rw [zax];omega),zbd,List.length_append,zax,zaw,List.length_cons,List.length_nil]
  simp only [if_pos (show min j out.length+(0+1)<17592186044416 by omega),if_pos (show min j out.length+(0+1)+(out.length - j)<17592186044416 by omega)]
  rw [e] at hr
  exact hr
 | n+1,j,h,hall=>by
  have hj:j<out.length:=by omega
  refine Ev.succ ?_
  by_cases c:x≤out[j]
  ·simp only [spec_liRank.l1,if_pos (show (j:Int)<(out.length:Int) by omega),if_pos (show (0:Int)≤(j:Int) by omega),rdn hj,if_pos (show out[j]≥x from c),wsucc hj (by omega)]
   refine liRank_in l x i9 out hout r hr n (j+1) (by omega) (fun i hi h' => ?_)
   by_cases e:i=j
   ·subst e
    exact c
   ·exact hall i (by omega) h'
  ·have e:=insD_at x out j (by omega) hall (fun h'=>c)
   simp only [spec_liRank.l1,if_pos (show (j:Int)<(out.length:Int) by omega),if_pos (show (0:Int)≤(j:Int) by omega),rdn hj,if_neg (show ¬ out[j]≥x from c),if_pos (show (j:Int)≤(out.length:Int) by omega),Int.toNat_natCast,l1Own_eq (out.take j) (by rw [zax];omega),zbd,List.length_append,zax,zaw,List.length_cons,List.length_nil]
   simp only [if_pos (show min j out.length+(0+1)<17592186044416 by omega),if_pos (show min j out.length+(0+1)+(out.length - j)<17592186044416 by omega)]
   rw [e] at hr
   exact hr
theorem liRank_ev (l:List Int) (hx:l.length≤1000000):Ev (fun k=>spec_liRank.f k l) (descL l):=by
 unfold spec_liRank.f
 have h:=ev_fold (xs:=l) (g:=fun k out i=>spec_liRank.l0 k out l (l.length:Int) i) insD (fun out i=>out.length=i) id
  (fun s _=>Ev.succ (by simp only [spec_liRank.l0,if_neg (Int.lt_irrefl _)];exact Ev.now _))
  (fun i h s r hs _ hr=>Ev.succ (by
   simp only [spec_liRank.l0,if_pos (show (i:Int)<(l.length:Int) by omega),if_pos (show (0:Int)≤(i:Int) by omega),rdn h]
   exact liRank_in l l[i] (i:Int) s (by omega) r (by rw [wsucc h (by omega)];exact hr) s.length 0 (by omega) (fun j hj=>by omega)))
  (fun i h s hs=>by rw [insD_length,hs]) l.length 0 [] (by omega) rfl
 rw [List.drop_zero,foldl_ins] at h
 exact h
def psums:Int→List Int→List Int
 | _,[]=>[]
 | s,x :: l=>(s+x) :: psums (s+x) l
def psStep (s:List Int × Int) (x:Int):List Int × Int:=(s.1 ++ [s.2+x],s.2+x)
theorem foldl_ps:∀ (l:List Int) (s:List Int × Int),(l.foldl psStep s).1=s.1 ++ psums s.2 l
 | [],s=>by simp [psums]
 | x :: l,s=>by
  rw [List.foldl_cons,foldl_ps l]
  simp [psStep,psums]
theorem psums_length:∀ (l:List Int) (s:Int),(psums s l).length=l.length
 | [],_=>rfl
 | x :: l,s=>by simp [psums,psums_length l]
theorem liSums_ev (l:List Int) (h:Sm l):Ev (fun k=>spec_liSums.f k l) (psums 0 l):=by
 unfold spec_liSums.f
 have hl:=h.1
 have h:=ev_fold (xs:=l) (g:=fun k s i=>spec_liSums.l0 k s.1 s.2 l (l.length:Int) i) psStep (fun s i=>s.1.length=i∧0≤s.2∧s.2≤1000*(i:Int)) (fun s=>s.1)
  (fun s _=>Ev.succ (by simp only [spec_liSums.l0,if_neg (Int.lt_irrefl _)];exact Ev.now _))
  (fun i hi s r hs _ hr=>Ev.succ (by
   have hb:=h.2 _ (List.getElem_mem hi)
   simp only [spec_liSums.l0,if_pos (show (i:Int)<(l.length:Int) by omega),if_pos (show (0:Int)≤(i:Int) by omega),rdn hi,if_pos (show s.1.length<17592186044416 by omega),wsucc hi (by omega),w64 (x:=s.2+l[i]) (by omega) (by omega)]
   exact hr))
  (fun i hi s hs=>by
   have hb:=h.2 _ (List.getElem_mem hi)
   simp only [psStep,List.length_append,List.length_cons,List.length_nil]
   omega) l.length 0 ([],0) (by omega) (taac)
 rw [List.drop_zero,foldl_ps] at h
 exact h
theorem partial_l (l:List Int) (h:Sm l):Ev (fun k=>impl_partial.l0 k [] 0 l (l.length:Int) 0) (psums 0 l):=by
 have hl:=h.1
 have h:=ev_fold (xs:=l) (g:=fun k s i=>impl_partial.l0 k s.1 s.2 l (l.length:Int) i) psStep (fun s i=>s.1.length=i∧0≤s.2∧s.2≤1000*(i:Int)) (fun s=>s.1)
  (fun s _=>Ev.succ (by simp only [impl_partial.l0,if_neg (Int.lt_irrefl _)];exact Ev.now _))
  (fun i hi s r hs _ hr=>Ev.succ (by
   have hb:=h.2 _ (List.getElem_mem hi)
   simp only [impl_partial.l0,if_pos (show (i:Int)<(l.length:Int) by omega),if_pos (show (0:Int)≤(i:Int) by omega),rdn hi,if_pos (show s.1.length<17592186044416 by omega),wsucc hi (by omega),w64 (x:=s.2+l[i]) (by omega) (by omega)]
   exact hr))
  (fun i hi s hs=>by
   have hb:=h.2 _ (List.getElem_mem hi)
   simp only [psStep,List.length_append,List.length_cons,List.length_nil]
   omega) l.length 0 ([],0) (by omega) (taac)
 rw [List.drop_zero,foldl_ps] at h
 exact h
def partL (l:List Int):List Int:=psums 0 (descL l)
theorem liPartial_ev (l:List Int) (h:Sm l):Ev (fun k=>spec_liPartial.f k l) (partL l):=by
 unfold spec_liPartial.f
 exact Ev.bind (liRank_ev l (by have:=h.1;omega)) (Ev.bind (liSums_ev _ (sm_desc h)) (Ev.now _))
theorem partial_ev (l:List Int) (h:Sm l):Ev (fun k=>impl_partial.f k l) (partL l):=by
 unfold impl_partial.f
 simp only [ranking_eq h,zbd]
 exact partial_l _ (sm_desc h)
theorem partL_length (l:List Int):(partL l).length=l.length:=by
 unfold partL
 rw [psums_length,descL_length]
theorem liSum_ev (l:List Int) (h:Sm l):Ev (fun k=>spec_liSum.f k l) l.sum:=by
 unfold spec_liSum.f
 have hl:=h.1
 have h:=ev_fold (xs:=l) (g:=fun k s i=>spec_liSum.l0 k s l (l.length:Int) i) (fun s x=>s+x) (fun s i=>0≤s∧s≤1000*(i:Int)) id
  (fun s _=>Ev.succ (taev))
  (fun i hi s r hs _ hr=>Ev.succ (by
   have hb:=h.2 _ (List.getElem_mem hi)
   simp only [spec_liSum.l0,if_pos (show (i:Int)<(l.length:Int) by omega),if_pos (show (0:Int)≤(i:Int) by omega),rdn hi,wsucc hi (by omega),w64 (x:=s+l[i]) (by omega) (by omega)]
   exact hr))
  (fun i hi s hs=>by
   have hb:=h.2 _ (List.getElem_mem hi)
   omega) l.length 0 0 (by omega) (by omega)
 rw [List.drop_zero,foldl_add,Int.zero_add] at h
 exact h
theorem total_ev (l:List Int) (h:Sm l):Ev (fun k=>impl_total.f k l) l.sum:=by
 unfold impl_total.f
 have hl:=h.1
 have h:=ev_fold (xs:=l) (g:=fun k s i=>impl_total.l0 k s l (l.length:Int) i) (fun s x=>s+x) (fun s i=>0≤s∧s≤1000*(i:Int)) id
  (fun s _=>Ev.succ (taew))
  (fun i hi s r hs _ hr=>Ev.succ (by
   have hb:=h.2 _ (List.getElem_mem hi)
   simp only [impl_total.l0,if_pos (show (i:Int)<(l.length:Int) by omega),if_pos (show (0:Int)≤(i:Int) by omega),rdn hi,wsucc hi (by omega),w64 (x:=s+l[i]) (by omega) (by omega)]
   exact hr))
  (fun i hi s hs=>by
   have hb:=h.2 _ (List.getElem_mem hi)
   omega) l.length 0 0 (by omega) (by omega)
 rw [List.drop_zero,foldl_add,Int.zero_add] at h
 exact h
def fitB (a b:List Int):Bool:=if (a.length:Int)=(b.length:Int) then (a.sum == b.sum) else false
theorem fitB_iff (a b:List Int):fitB a b=true↔a.length=b.length∧a.sum=b.sum:=by
 unfold fitB
 by_cases h:(a.length:Int)=(b.length:Int)
 ·rw [if_pos h,beq_iff_eq]
  exact ⟨fun h'=>⟨by omega,h'⟩,fun h'=>h'.2⟩
 ·rw [if_neg h]
  exact ⟨fun h'=>absurd h' (by decide),fun h'=>absurd h'.1 (by omega)⟩
theorem liFit_ev (a b:List Int) (ha:Sm a) (hb:Sm b):Ev (fun k=>spec_liFit.f k a b) (fitB a b):=by
 unfold spec_liFit.f fitB
 exact Ev.ite (fun _=>Ev.bind (liSum_ev a ha) (Ev.bind (liSum_ev b hb) (Ev.now _))) (fun _=>Ev.now _)
theorem doFit_ev (a b:List Int) (ha:Sm a) (hb:Sm b):Ev (fun k=>impl_doFit.f k a b) (fitB a b):=by
 unfold impl_doFit.f fitB
 exact Ev.ite (fun _=>Ev.bind (total_ev a ha) (Ev.bind (total_ev b hb) (Ev.now _))) (fun _=>Ev.now _)
theorem areLists_ev (a b:List Int) (ha:a.length≤1048576) (hb:b.length≤1048576):Ev (fun k=>impl_areLists.f k a b) (if goodL a=true then goodL b else false):=by
 unfold impl_areLists.f
 exact Ev.bind (implIsList_ev a (by omega)) (Ev.ite (fun _=>Ev.bind (implIsList_ev b (by omega)) (Ev.now _)) (fun _=>Ev.now _))


def overL:Int→List Int→List Int→Int
 | i,x :: xs,y :: ys=>if x>y then i+1 else overL (i+1) xs ys
 | _,_,_=>0
theorem liOver_l (p q:List Int) (h:p.length≤q.length) (hp:p.length≤1000000):∀ (n i:Nat),i+n=p.length→Ev (fun k=>spec_liOver.l0 k p q (p.length:Int) (i:Int)) (overL (i:Int) (p.drop i) (q.drop i))
 | 0,i,hi=>by
  refine Ev.succ ?_
  simp only [spec_liOver.l0,if_neg (show ¬ (i:Int)<(p.length:Int) by omega)]
  rw [List.drop_eq_nil_of_le (by omega),overL]
  exact Ev.now _
  simp
 | n+1,i,hi=>by
  have h1:i<p.length:=by omega
  have h2:i<q.length:=by omega
  refine Ev.succ ?_
  simp only [spec_liOver.l0,if_pos (show (i:Int)<(p.length:Int) by omega),if_pos (show (i:Int)<(q.length:Int) by omega),if_pos (show (0:Int)≤(i:Int) by omega),rdn h1,rdn h2,wsucc h1 (by omega)]
  rw [List.drop_eq_getElem_cons h1,List.drop_eq_getElem_cons h2,overL]
  refine Ev.ite (fun _ => ?_) (fun _ => ?_)
  ·rw [show ((i:Int)+1)=((i+1:Nat):Int) by omega]
   exact Ev.now _
  ·rw [show ((i:Int)+1)=((i+1:Nat):Int) by omega]
   exact liOver_l p q h hp n (i+1) (by omega)
theorem refused_l (p q:List Int) (h:p.length≤q.length) (hp:p.length≤1000000):∀ (n i:Nat),i+n=p.length→Ev (fun k=>impl_refused.l0 k q p (p.length:Int) (i:Int)) (overL (i:Int) (p.drop i) (q.drop i))
 | 0,i,hi=>by
  refine Ev.succ ?_
  simp only [impl_refused.l0,if_neg (show ¬ (i:Int)<(p.length:Int) by omega)]
  rw [List.drop_eq_nil_of_le (by omega),overL]
  exact Ev.now _
  simp
 | n+1,i,hi=>by
  have h1:i<p.length:=by omega
  have h2:i<q.length:=by omega
  refine Ev.succ ?_
  simp only [impl_refused.l0,if_pos (show (i:Int)<(p.length:Int) by omega),if_pos (show (i:Int)<(q.length:Int) by omega),if_pos (show (0:Int)≤(i:Int) by omega),rdn h1,rdn h2,wsucc h1 (by omega)]
  rw [List.drop_eq_getElem_cons h1,List.drop_eq_getElem_cons h2,overL]
  refine Ev.ite (fun _ => ?_) (fun _ => ?_)
  ·rw [show ((i:Int)+1)=((i+1:Nat):Int) by omega]
   exact Ev.now _
  ·rw [show ((i:Int)+1)=((i+1:Nat):Int) by omega]
   exact refused_l p q h hp n (i+1) (by omega)
def overR (a b:List Int):Int:=overL 0 (partL a) (partL b)
theorem liOver_ev (a b:List Int) (ha:Sm a) (hb:Sm b) (h:a.length≤b.length):Ev (fun k=>spec_liOver.f k a b) (overR a b):=by
 unfold spec_liOver.f
 exact Ev.bind (liPartial_ev a ha) (Ev.bind (liPartial_ev b hb) (liOver_l _ _ (by rw [partL_length,partL_length];exact h) (by rw [partL_length];have:=ha.1;omega) (partL a).length 0 (by omega)))
theorem refused_ev (a b:List Int) (ha:Sm a) (hb:Sm b) (h:a.length≤b.length):Ev (fun k=>impl_refused.f k a b) (overR a b):=by
 unfold impl_refused.f
 exact Ev.bind (partial_ev b hb) (Ev.bind (partial_ev a ha) (refused_l _ _ (by rw [partL_length,partL_length];exact h) (by rw [partL_length];have:=ha.1;omega) (partL a).length 0 (by omega)))
theorem overL_zero:∀ (p q:List Int) (i:Int),0≤i→(overL i p q=0↔∀ (j:Nat) (h1:j<p.length) (h2:j<q.length),p[j]≤q[j])
 | [],q,i,_=>by simp [overL]
 | x :: p,[],i,_=>by simp [overL]
 | x :: p,y :: q,i,h=>by
  unfold overL
  by_cases c:x>y
  ·rw [if_pos c]
   refine ⟨fun h'=>by omega,fun h' => ?_⟩
   have:=h' 0 (taac) (taac)
   simp only [List.getElem_cons_zero] at this
   omega
  ·rw [if_neg c,overL_zero p q (i+1) (by omega)]
   constructor
   ·intro h' j h1 h2
    cases j with
    | zero=>simp only [List.getElem_cons_zero];omega
    | succ j =>
     rw [List.getElem_cons_succ,List.getElem_cons_succ]
     exact h' j (by rw [List.length_cons] at h1;omega) (by rw [List.length_cons] at h2;omega)
   ·intro h' j h1 h2
    have h3:=h' (j+1) (by rw [List.length_cons];omega) (by rw [List.length_cons];omega)
    rw [List.getElem_cons_succ,List.getElem_cons_succ] at h3
    exact h3
def majB (a b:List Int):Bool:=if fitB a b=true then (overR a b == 0) else false
theorem liBelow_ev (a b:List Int) (ha:Sm a) (hb:Sm b):Ev (fun k=>spec_liBelow.f k a b) (majB a b):=by
 unfold spec_liBelow.f majB
 exact Ev.bind (liFit_ev a b ha hb) (Ev.ite (fun h=>Ev.bind (liOver_ev a b ha hb (by have:=(fitB_iff a b).1 h;omega)) (Ev.now _)) (fun _=>Ev.now _))
theorem isMajorized_ev (a b:List Int) (ha:Sm a) (hb:Sm b):Ev (fun k=>impl_isMajorized.f k a b) (majB a b):=by
 unfold impl_isMajorized.f majB
 exact Ev.bind (doFit_ev a b ha hb) (Ev.ite (fun h=>Ev.bind (refused_ev a b ha hb (by have:=(fitB_iff a b).1 h;omega)) (Ev.now _)) (fun _=>Ev.now _))
theorem majB_iff (a b:List Int):majB a b=true↔a.length=b.length∧a.sum=b.sum∧∀ (j:Nat) (h1:j<(partL a).length) (h2:j<(partL b).length),(partL a)[j]≤(partL b)[j]:=by
 unfold majB overR
 by_cases h:fitB a b=true
 ·rw [if_pos h,beq_iff_eq,overL_zero _ _ _ (Int.le_refl _)]
  have:=(fitB_iff a b).1 h
  simp only [this,true_and]
 ·rw [if_neg h]
  rw [fitB_iff] at h
  constructor
  ·intro h'
   exact absurd h' (by decide)
  ·intro h'
   exact absurd ⟨h'.1,h'.2.1⟩ h
def giveL (l:List Int) (f t a:Int):List Int:=(l.set f.toNat (rd l f - a)).set t.toNat (rd l t+a)
theorem rd_set_ne {l:List Int} {i j:Int} (x:Int) (h0:0≤i) (h1:0≤j) (h:i≠j):rd (l.set i.toNat x) j=rd l j:=by
 unfold rd
 rw [List.getD_eq_getElem?_getD,List.getD_eq_getElem?_getD,List.getElem?_set_ne (by omega)]
theorem rd_set_self {l:List Int} {i:Int} (x:Int) (h0:0≤i) (h1:i<l.length):rd (l.set i.toNat x) i=x:=by
 unfold rd
 rw [List.getD_eq_getElem?_getD,List.getElem?_set_self (by omega)]
 rfl
theorem rd_mem {l:List Int} {i:Int} (h0:0≤i) (h1:i<l.length):rd l i ∈ l:=by
 have hi:i.toNat<l.length:=by omega
 have e:rd l i=l[i.toNat]:=rdi h0 h1
 rw [e]
 exact List.getElem_mem hi
def pre (x:List Int) (m:Nat):Int:=(x.take m).sum
theorem pre_zero (x:List Int):pre x 0=0:=rfl
theorem pre_succ {x:List Int} {m:Nat} (h:m<x.length):pre x (m+1)=pre x m+rd x (m:Int):=by
 unfold pre
 rw [List.take_succ_eq_append_getElem h,List.sum_append,rdn h,List.sum_cons,List.sum_nil,Int.add_zero]
theorem pre_all {x:List Int} {m:Nat} (h:x.length≤m):pre x m=x.sum:=by
 unfold pre
 rw [List.take_of_length_le h]
theorem psums_get:∀ (l:List Int) (s:Int) (j:Nat) (h:j<(psums s l).length),(psums s l)[j]=s+pre l (j+1)
 | [],s,j,h=>by simp [psums] at h
 | x :: l,s,0,h=>by simp [psums,pre]
 | x :: l,s,j+1,h=>by
  have h':j<(psums (s+x) l).length:=by
   rw [psums,List.length_cons] at h
   omega
  have:=psums_get l (s+x) j h'
  simp only [psums,List.getElem_cons_succ]
  rw [this]
  simp only [pre,List.take_succ_cons,List.sum_cons]
  omega
def Dom (x t:List Int):Prop:=x.length=t.length∧x.sum=t.sum∧∀ m,pre t m≤pre x m
theorem majB_dom (a b:List Int):majB a b=true↔Dom (descL b) (descL a):=by
 rw [majB_iff]
 unfold Dom
 rw [descL_length,descL_length,descL_sum,descL_sum]
 constructor
 ·rintro ⟨h1,h2,h3⟩
  refine ⟨h1.symm,h2.symm,fun m => ?_⟩
  cases m with
  | zero=>rw [pre_zero,pre_zero];exact Int.le_refl _
  | succ m =>
   by_cases hm:m<a.length
   ·have h:=h3 m (by rw [partL_length];exact hm) (by rw [partL_length];omega)
    unfold partL at h
    rw [psums_get,psums_get] at h
    omega
   ·rw [pre_all (by rw [descL_length];omega),pre_all (by rw [descL_length];omega),descL_sum,descL_sum]
    omega
 ·rintro ⟨h1,h2,h3⟩
  refine ⟨h1.symm,h2.symm,fun j q1 q2 => ?_⟩
  have e1:(partL a)[j]=0+pre (descL a) (j+1):=psums_get _ _ _ q1
  have e2:(partL b)[j]=0+pre (descL b) (j+1):=psums_get _ _ _ q2
  have:=h3 (j+1)
  omega
theorem ext_rd {x t:List Int} (hl:x.length=t.length) (h:∀ k:Nat,k<x.length→rd x (k:Int)=rd t (k:Int)):x=t:=by
 refine List.ext_getElem hl fun k h1 h2 => ?_
 have:=h k h1
 rw [rdn h1,rdn h2] at this
 exact this
theorem desc_rd {x:List Int} (h:Desc x) {a b:Nat} (hab:a≤b) (hb:b<x.length):rd x (b:Int)≤rd x (a:Int):=by
 rw [rdn hb,rdn (show a<x.length by omega)]
 rcases Nat.lt_or_ge a b with hlt | hge
 ·unfold Desc at h
  exact List.pairwise_iff_getElem.1 h a b (by omega) hb hlt
 ·have:a=b:=by omega
  subst this;exact Int.le_refl _
theorem desc_of_rd {x:List Int} (h:∀ k:Nat,k+1<x.length→rd x ((k+1:Nat):Int)≤rd x (k:Int)):Desc x:=by
 have key:∀ (d a:Nat),a+d<x.length→rd x ((a+d:Nat):Int)≤rd x (a:Int):=by
  intro d
  induction d with
  | zero=>intro a _;exact Int.le_refl _
  | succ d ih =>
   intro a ha
   have h1:=ih a (by omega)
   have h2:=h (a+d) (by omega)
   have e:a+(d+1)=a+d+1:=by omega
   rw [e]
   omega
 unfold Desc
 rw [List.pairwise_iff_getElem]
 intro i j hi hj hij
 have:=key (j - i) i (by omega)
 rw [show i+(j - i)=j from by omega,rdn hj,rdn hi] at this
 exact this
theorem least_lt (P:Nat→Prop) (n:Nat):(∃ k,k<n∧P k)→∃ j,j<n∧P j∧∀ k,k<j→¬ P k:=by
 induction n with
 | zero=>rintro ⟨k,hk,_⟩;omega
 | succ n ih =>
  rintro ⟨k,hk,hp⟩
  by_cases h:∃ k,k<n∧P k
  ·obtain ⟨j,h1,h2,h3⟩:=ih h
   exact ⟨j,by omega,h2,h3⟩
  ·refine ⟨k,hk,hp,fun q hq hpq=>h ⟨q,by omega,hpq⟩⟩
theorem last_lt (P:Nat→Prop) (n:Nat):(∃ k,k<n∧P k)→∃ j,j<n∧P j∧∀ k,j<k→k<n→¬ P k:=by
 induction n with
 | zero=>rintro ⟨k,hk,_⟩;omega
 | succ n ih =>
  rintro ⟨k,hk,hp⟩
  by_cases h:P n
  ·exact ⟨n,by omega,h,fun q h1 h2=>by omega⟩
  ·have hk':k<n:=by
    rcases Nat.lt_or_ge k n with h' | h'
    ·exact h'
    ·have:k=n:=by omega
     subst this;exact absurd hp h
   obtain ⟨j,h1,h2,h3⟩:=ih ⟨k,hk',hp⟩
   refine ⟨j,by omega,h2,fun q hq hq2 => ?_⟩
   rcases Nat.lt_or_ge q n with h' | h'
   ·exact h3 q hq h'
   ·have:q=n:=by omega
    subst this;exact h
theorem pre_le {x t:List Int} (hl:x.length=t.length):∀ m:Nat,m≤x.length→(∀ k:Nat,k<m→rd x (k:Int)≤rd t (k:Int))→pre x m≤pre t m
 | 0,_,_=>by rw [pre_zero,pre_zero];exact Int.le_refl _
 | m+1,hm,h=>by
  have ih:=pre_le hl m (by omega) (fun k hk=>h k (by omega))
  have:=h m (by omega)
  rw [pre_succ (by omega),pre_succ (by omega)]
  omega
theorem pre_lt {x t:List Int} (hl:x.length=t.length):∀ m:Nat,m≤x.length→(∀ k:Nat,k<m→rd x (k:Int)≤rd t (k:Int))→(∃ k:Nat,k<m∧rd x (k:Int)<rd t (k:Int))→pre x m<pre t m
 | 0,_,_,⟨k,hk,_⟩=>by omega
 | m+1,hm,h,⟨k,hk,hk2⟩=>by
  have h2:=h m (by omega)
  rw [pre_succ (by omega),pre_succ (by omega)]
  rcases Nat.lt_or_ge k m with hlt | hge
  ·have:=pre_lt hl m (by omega) (fun k hk=>h k (by omega)) ⟨k,hlt,hk2⟩
   omega
  ·have:k=m:=by omega
   subst this;have:=pre_le hl k (by omega) (fun k hk=>h k (by omega))
   omega
theorem giveL_length (l:List Int) (f t a:Int):(giveL l f t a).length=l.length:=by
 unfold giveL
 rw [List.length_set,List.length_set]
theorem giveL_rd (l:List Int) (i j:Nat) (a:Int) (hi:i<l.length) (hj:j<l.length) (hij:i≠j) (k:Nat):rd (giveL l (i:Int) (j:Int) a) (k:Int)=if k=j then rd l (j:Int)+a else if k=i then rd l (i:Int) - a else rd l (k:Int):=by
 unfold giveL
 by_cases h1:k=j
 ·subst h1
  rw [if_pos rfl,rd_set_self _ (by omega) (by rw [List.length_set];omega)]
 ·rw [if_neg h1,rd_set_ne _ (by omega) (by omega) (by omega)]
  by_cases h2:k=i
  ·subst h2
   rw [if_pos rfl,rd_set_self _ (by omega) (by omega)]
  ·rw [if_neg h2,rd_set_ne _ (by omega) (by omega) (by omega)]
theorem giveL_pre (l:List Int) (i j:Nat) (a:Int) (hi:i<l.length) (hj:j<l.length) (hij:i≠j):∀ m:Nat,m≤l.length→pre (giveL l (i:Int) (j:Int) a) m=pre l m - (if i<m then a else 0)+(if j<m then a else 0)
 | 0,_=>by rw [pre_zero,pre_zero,if_neg (by omega),if_neg (by omega)];omega
 | m+1,h=>by
  rw [pre_succ (by rw [giveL_length];omega),pre_succ (by omega),giveL_pre l i j a hi hj hij m (by omega),giveL_rd l i j a hi hj hij m]
  by_cases h1:m=j
  ·subst h1
   rw [if_pos rfl,if_neg (show ¬ m<m by omega),if_pos (show m<m+1 by omega)]
   by_cases h3:i<m
   ·rw [if_pos h3,if_pos (by omega)];omega
   ·rw [if_neg h3,if_neg (by omega)];omega
  ·rw [if_neg h1]
   by_cases h2:m=i
   ·subst h2
    rw [if_pos rfl,if_neg (show ¬ m<m by omega),if_pos (show m<m+1 by omega)]
    by_cases h3:j<m
    ·rw [if_pos h3,if_pos (by omega)];omega
    ·rw [if_neg h3,if_neg (by omega)];omega
   ·rw [if_neg h2]
    have e1:i<m+1↔i<m:=by omega
    have e2:j<m+1↔j<m:=by omega
    simp only [e1,e2]
    omega
theorem giveL_sum (l:List Int) (i j:Nat) (a:Int) (hi:i<l.length) (hj:j<l.length) (hij:i≠j):(giveL l (i:Int) (j:Int) a).sum=l.sum:=by
 have h:=giveL_pre l i j a hi hj hij l.length (zcf _)
 rw [pre_all (by rw [giveL_length];omega),pre_all (zcf _),if_pos hi,if_pos hj] at h
 omega
def ex (l:List Int) (t:Int):Int:=(l.map fun x=>max (x - t) 0).sum
theorem ex_nil (t:Int):ex [] t=0:=rfl
theorem ex_cons (x:Int) (l:List Int) (t:Int):ex (x :: l) t=max (x - t) 0+ex l t:=by simp [ex]
theorem ex_perm {a b:List Int} (h:a.Perm b) (t:Int):ex a t=ex b t:=perm_sum (h.map _)
theorem ex_desc (a:List Int) (t:Int):ex (descL a) t=ex a t:=ex_perm (descL_perm a) t
theorem ex_nn:∀ (l:List Int) (t:Int),0≤ex l t
 | [],t=>by rw [ex_nil];exact Int.le_refl _
 | x :: l,t=>by
  have:=ex_nn l t
  rw [ex_cons]
  omega
theorem pre_cons (x:Int) (l:List Int) (m:Nat):pre (x :: l) (m+1)=x+pre l m:=by simp [pre]
theorem pre_ex (t:Int):∀ (l:List Int) (m:Nat),m≤l.length→pre l m≤m*t+ex l t
 | l,0,_=>by
  have:=ex_nn l t
  rw [pre_zero]
  simp
  exact this
 | [],m+1,h=>by simp at h
 | x :: l,m+1,h=>by
  have ih:=pre_ex t l m (tabg)
  rw [pre_cons,ex_cons,Int.natCast_add,Int.add_mul]
  simp only [Int.natCast_one,Int.one_mul]
  omega
theorem pre_ex_eq (t:Int):∀ (l:List Int) (k:Nat),k≤l.length→(∀ i (h:i<l.length),i<k→t≤l[i])→(∀ i (h:i<l.length),k≤i→l[i]≤t)→pre l k=k*t+ex l t
 | [],k,h,_,_=>by
  have:k=0:=by simpa using h
  subst this;simp [pre_zero,ex_nil]
 | x :: l,0,h,h1,h2=>by
  have ih:=pre_ex_eq t l 0 (Nat.zero_le _) (fun i _ hi=>absurd hi (Nat.not_lt_zero _)) (fun i hi _=>h2 (i+1) (by simpa using hi) (Nat.zero_le _))
  have hx:x≤t:=h2 0 (taac) (zcf _)
  rw [pre_zero] at ih ⊢
  rw [ex_cons]
  simp at ih ⊢
  omega
 | x :: l,k+1,h,h1,h2=>by
  have ih:=pre_ex_eq t l k (tabg) (fun i hi hk=>h1 (i+1) (by simpa using hi) (by omega)) (fun i hi hk=>h2 (i+1) (by simpa using hi) (by omega))
  have hx:t≤x:=h1 0 (taac) (by omega)
  rw [pre_cons,ex_cons,Int.natCast_add,Int.add_mul]
  simp only [Int.natCast_one,Int.one_mul]
  omega
theorem cut_exists (t:Int):∀ (l:List Int),Desc l→∃ k,k≤l.length∧(∀ i (h:i<l.length),i<k→t≤l[i])∧(∀ i (h:i<l.length),k≤i→l[i]≤t)
 | [],_=>⟨0,zcf _,fun i h=>absurd h (Nat.not_lt_zero _),fun i h=>absurd h (Nat.not_lt_zero _)⟩
 | x :: l,hd=>by
  unfold Desc at hd
  rw [List.pairwise_cons] at hd
  by_cases hx:t≤x
  ·obtain ⟨k,h1,h2,h3⟩:=cut_exists t l hd.2
   refine ⟨k+1,by simpa using h1,fun i h hi => ?_,fun i h hi => ?_⟩
   ·cases i with
    | zero=>exact hx
    | succ i=>exact h2 i (tabg) (by omega)
   ·cases i with
    | zero=>omega
    | succ i=>exact h3 i (tabg) (by omega)
  ·refine ⟨0,Nat.zero_le _,fun i h hi=>absurd hi (Nat.not_lt_zero _),fun i h _ => ?_⟩
   cases i with
   | zero =>
    show x≤t
    omega
   | succ i =>
    have hi:i<l.length:=by simpa using h
    have:=hd.1 l[i] (List.getElem_mem hi)
    show l[i]≤t
    omega
theorem ex_pre {l:List Int} (hd:Desc l) (t:Int):∃ k,k≤l.length∧pre l k=k*t+ex l t:=by
 obtain ⟨k,h1,h2,h3⟩:=cut_exists t l hd
 exact ⟨k,h1,pre_ex_eq t l k h1 h2 h3⟩
theorem pre_at {l:List Int} (hd:Desc l) (m:Nat) (hm:m<l.length):pre l (m+1)=(m+1:Nat)*rd l (m:Int)+ex l (rd l (m:Int)):=by
 refine pre_ex_eq _ l (m+1) hm (fun i h hi => ?_) (fun i h hi => ?_)
 ·have:=desc_rd hd (show i≤m by omega) hm
  rw [rdn h] at this
  exact this
 ·have:=desc_rd hd (show m≤i by omega) h
  rw [rdn h] at this
  exact this
theorem dom_ex {x y:List Int} (hx:Desc x) (hy:Desc y):Dom y x↔x.length=y.length∧x.sum=y.sum∧∀ t,ex x t≤ex y t:=by
 unfold Dom
 constructor
 ·rintro ⟨h1,h2,h3⟩
  refine ⟨h1.symm,h2.symm,fun t => ?_⟩
  obtain ⟨k,hk,e⟩:=ex_pre hx t
  have a:=h3 k;have b:=pre_ex t y k (by omega)
  omega
 ·rintro ⟨h1,h2,h3⟩
  refine ⟨h1.symm,h2.symm,fun m => ?_⟩
  cases m with
  | zero=>rw [pre_zero,pre_zero];exact Int.le_refl _
  | succ m =>
   by_cases hm:m<y.length
   ·have a:=pre_at hy m hm
    have b:=pre_ex (rd y (m:Int)) x (m+1) (by omega)
    have c:=h3 (rd y (m:Int))
    omega
   ·rw [pre_all (by omega),pre_all (by omega)]
    omega
theorem maj_ex (a b:List Int):majB a b=true↔a.length=b.length∧a.sum=b.sum∧∀ t,ex a t≤ex b t:=by
 rw [majB_dom,dom_ex (descL_desc a) (descL_desc b),descL_length,descL_length,descL_sum,descL_sum]
 simp only [ex_desc]

def gtG (i j:Nat) (s k:Int) (a b:Nat):Int:=if a=b then (if a=i then s - k else if a=j then s - k else s) else if a=i then (if b=j then k else 0) else if a=j then (if b=i then k else 0) else 0
theorem doGift_l (n i j:Nat) (s k:Int) (hn:n≤6) (hij:i<j) (hj:j<n) (hs:1≤s∧s≤1000) (hk:0≤k∧k≤s):∀ (m x:Nat),x+m=n→Ev (fun q=>spec_doGift.l0 q (n:Int) (i:Int) (j:Int) s k (tabG n fun a b=>if a=b∧a<x then s else 0) (x:Int)) (tabG n (gtG i j s k))
 | 0,x,e=>by
  have hxe:x=n:=by omega
  subst hxe;refine Ev.succ ?_
  have hi:i<x:=by omega
  simp only [spec_doGift.l0,if_neg (show ¬ (x:Int)<(x:Int) by omega),if_pos (show (0:Int)≤(i:Int) by omega),if_pos (show (0:Int)≤(j:Int) by omega),tabG_length,if_pos (show (i:Int)<(x:Int) by omega),if_pos (show (j:Int)<(x:Int) by omega),tabG_rowlen _ hi,tabG_rowlen _ hj,Int.toNat_natCast,w64 (x:=s - k) (by omega) (by omega),tabG_set _ _ _ hi,tabG_set _ _ _ hj,zbd]
  have e:tabG x (updG (updG (updG (updG (fun a b=>if a=b∧a<x then s else 0) i i (s - k)) j j (s - k)) i j k) j i k)=tabG x (gtG i j s k):=tabG_congr (fun a b ha hb=>by
   unfold updG gtG
   by_cases c1:a=b
   ·subst c1
    by_cases c2:a=i
    ·subst c2
     simp [show ¬ a=j by omega]
    ·by_cases c3:a=j
     ·subst c3
      simp [c2]
     ·simp [c2,c3,ha]
   ·by_cases c2:a=i
    ·subst c2
     by_cases c3:b=j
     ·subst c3
      simp [c1,show ¬ a=b by omega]
     ·simp [c1,c3,show ¬ a=j by omega,show ¬ b=a by omega]
    ·by_cases c3:a=j
     ·subst c3
      by_cases c4:b=i
      ·subst c4
       simp [c1,c2]
      ·simp [c1,c2,c4,show ¬ b=a from fun h=>c1 h.symm]
     ·simp [c1,c2,c3])
  rw [e]
  exact Ev.now _
 | m+1,x,e=>by
  have hx:x<n:=by omega
  refine Ev.succ ?_
  simp only [spec_doGift.l0,if_pos (show (x:Int)<(n:Int) by omega),if_pos (show (0:Int)≤(x:Int) by omega),tabG_length,tabG_rowlen _ hx,Int.toNat_natCast,tabG_set _ _ _ hx,wsucc hx (by omega)]
  have:=doGift_l n i j s k hn hij hj hs hk m (x+1) (by omega)
  rw [tabG_congr (G':=fun a b=>if a=b∧a<x+1 then s else 0) (fun a b ha hb=>by
   unfold updG
   by_cases c:a=x∧b=x
   ·rw [if_pos c,if_pos (by omega)]
   ·rw [if_neg c]
    show (if a=b∧a<x then s else 0)=_
    by_cases d:a=b∧a<x
    ·rw [if_pos d,if_pos (by omega)]
    ·rw [if_neg d,if_neg (by omega)])]
  exact this
theorem doEmpty_l (n:Nat) (hn:n≤1000):∀ (m i:Nat),i+m=n→Ev (fun k=>spec_doEmpty.l0 k (n:Int) (List.replicate i (List.replicate n 0)) (i:Int)) (tabG n fun _ _=>0)
 | 0,i,e=>by
  have ei:i=n:=by omega
  subst ei;refine Ev.succ ?_
  simp only [spec_doEmpty.l0,if_neg (show ¬ (i:Int)<(i:Int) by omega)]
  rw [tabG_zero]
  exact Ev.now _
 | m+1,i,e=>by
  refine Ev.succ ?_
  have hi:i<n:=by omega
  simp only [spec_doEmpty.l0,if_pos (show (i:Int)<(n:Int) by omega),if_pos (show (0:Int)≤(n:Int) by omega),Int.toNat_natCast,if_pos (show n≤35184372088832 by omega),List.length_replicate,if_pos (show i<5864062014805 by omega),wsucc hi (by omega)]
  have:=doEmpty_l n hn m (i+1) (by omega)
  rw [List.replicate_succ'] at this
  exact this
theorem doEmpty_ev (n:Nat) (hn:n≤1000):Ev (fun k=>spec_doEmpty.f k (n:Int)) (tabG n fun _ _=>0):=by
 unfold spec_doEmpty.f
 exact doEmpty_l n hn n 0 (by omega)
theorem square_l1 (F:Int→Int→Option Int) (G:Nat→Nat→Int) (n:Nat) (hn:n≤1000) (hF:∀ i j,i<n→j<n→F (i:Int) (j:Int)=some (G i j)) (i:Nat) (hi:i<n) (X:List (List Int)) {r:List (List Int)} (hr:Ev (fun k=>if X.length<5864062014805 then impl_square.l0 F k (n:Int) (X ++ [(List.range n).map fun j=>G i j]) (n:Int) ((i+1:Nat):Int) else none) r):∀ (m j:Nat),j+m=n→Ev (fun k=>impl_square.l1 F k (n:Int) X (i:Int) ((List.range j).map fun j=>G i j) (n:Int) (i:Int) (n:Int) (j:Int)) r
 | 0,j,e=>by
  have ej:j=n:=by omega
  subst ej;refine Ev.succ ?_
  simp only [impl_square.l1,if_neg (show ¬ (j:Int)<(j:Int) by omega),wsucc hi (by omega)]
  exact hr
 | m+1,j,e=>by
  refine Ev.succ ?_
  have hj:j<n:=by omega
  simp only [impl_square.l1,if_pos (show (j:Int)<(n:Int) by omega),hF i j hi hj,zbd,List.length_map,List.length_range,if_pos (show j<17592186044416 by omega),wsucc hj (by omega)]
  have:=square_l1 F G n hn hF i hi X hr m (j+1) (by omega)
  rw [List.range_succ,List.map_append] at this
  exact this
theorem square_l0 (F:Int→Int→Option Int) (G:Nat→Nat→Int) (n:Nat) (hn:n≤1000) (hF:∀ i j,i<n→j<n→F (i:Int) (j:Int)=some (G i j)):∀ (m i:Nat),i+m=n→Ev (fun k=>impl_square.l0 F k (n:Int) ((List.range i).map fun i=>(List.range n).map fun j=>G i j) (n:Int) (i:Int)) (tabG n G)
 | 0,i,e=>by
  have ei:i=n:=by omega
  subst ei;refine Ev.succ ?_
  simp only [impl_square.l0,if_neg (show ¬ (i:Int)<(i:Int) by omega)]
  exact Ev.now _
 | m+1,i,e=>by
  refine Ev.succ ?_
  have hi:i<n:=by omega
  simp only [impl_square.l0,if_pos (show (i:Int)<(n:Int) by omega)]
  refine square_l1 F G n hn hF i hi _ ?_ n 0 (by omega)
  simp only [List.length_map,List.length_range,if_pos (show i<5864062014805 by omega)]
  have:=square_l0 F G n hn hF m (i+1) (by omega)
  rw [List.range_succ,List.map_append] at this
  exact this
theorem square_ev (F:Int→Int→Option Int) (G:Nat→Nat→Int) (n:Nat) (hn:n≤1000) (hF:∀ i j,i<n→j<n→F (i:Int) (j:Int)=some (G i j)):Ev (fun k=>impl_square.f F k (n:Int)) (tabG n G):=by
 unfold impl_square.f
 exact square_l0 F G n hn hF n 0 (by omega)
def dotN (l0 l1:List (List Int)) (i j:Nat):Nat→Int
 | 0=>0
 | k+1=>dotN l0 l1 i j k+atG l0 i k*atG l1 k j
theorem dotN_bd {l0 l1:List (List Int)} (T0:Tab l0) (T1:Tab l1) (e:l1.length=l0.length) {i j:Nat} (hi:i<l0.length) (hj:j<l0.length):∀ k,k≤l0.length→0≤dotN l0 l1 i j k∧dotN l0 l1 i j k≤1000000000000*(k:Int)
 | 0,_=>by simp [dotN]
 | k+1,h=>by
  have ih:=dotN_bd T0 T1 e hi hj k (by omega)
  have b0:=atG_bd T0 hi (show k<l0.length by omega)
  have b1:=atG_bd T1 (show k<l1.length by omega) (show j<l1.length by omega)
  have p0:=Int.mul_nonneg b0.1 b1.1
  have p1:atG l0 i k*atG l1 k j≤1000000*1000000:=Int.mul_le_mul b0.2 b1.2 b1.1 (by decide)
  unfold dotN
  omega
theorem prodG_bd {l0 l1:List (List Int)} (T0:Tab l0) (T1:Tab l1) (e:l1.length=l0.length) {i j k:Nat} (hi:i<l0.length) (hj:j<l0.length) (hk:k<l0.length):0≤atG l0 i k*atG l1 k j∧atG l0 i k*atG l1 k j≤1000000000000:=by
 have b0:=atG_bd T0 hi hk
 have b1:=atG_bd T1 (show k<l1.length by omega) (show j<l1.length by omega)
 exact ⟨Int.mul_nonneg b0.1 b1.1,Int.mul_le_mul b0.2 b1.2 b1.1 (by decide)⟩
def timesT (l0 l1:List (List Int)):List (List Int):=tabG l0.length fun i j=>dotN l0 l1 i j l0.length
theorem times_l2 {l0 l1:List (List Int)} (T0:Tab l0) (T1:Tab l1) (e:l1.length=l0.length) {i j:Nat} (hi:i<l0.length) (hj:j<l0.length) (H:Nat→Nat→Int) {r:List (List Int)} (hr:Ev (fun q=>spec_doTimes.l1 q l0 l1 (tabG l0.length (updG H i j (dotN l0 l1 i j l0.length))) (i:Int) (l0.length:Int) (i:Int) (l0.length:Int) ((j+1:Nat):Int)) r):∀ (m k:Nat),k+m=l0.length→Ev (fun q=>spec_doTimes.l2 q l0 l1 (tabG l0.length (updG H i j (dotN l0 l1 i j k))) (i:Int) (j:Int) (l0.length:Int) (i:Int) (l0.length:Int) (j:Int) (l0.length:Int) (k:Int)) r
 | 0,k,ek=>by
  have ej:k=l0.length:=by omega
  subst ej;refine Ev.succ ?_
  have:=T0.len
  simp only [spec_doTimes.l2,if_neg (Int.lt_irrefl _),wsucc hj (by omega)]
  exact hr
 | m+1,k,ek=>by
  have hk:k<l0.length:=by omega
  have b0:=dotN_bd T0 T1 e hi hj k (by omega)
  have b1:=prodG_bd T0 T1 e hi hj hk
  have hl:=T0.len
  refine Ev.succ ?_
  simp only [spec_doTimes.l2,if_pos (show (k:Int)<(l0.length:Int) by omega),if_pos (show (0:Int)≤(i:Int) by omega),if_pos (show (0:Int)≤(j:Int) by omega),if_pos (show (0:Int)≤(k:Int) by omega),tabG_length,tabG_rowlen _ hi,tab_rowlen T0 hi,tab_rowlen T1 (show k<l1.length by omega),if_pos (show (i:Int)<(l0.length:Int) by omega),if_pos (show (j:Int)<(l0.length:Int) by omega),if_pos (show (k:Int)<(l1.length:Int) by omega),if_pos (show (j:Int)<(l1.length:Int) by omega),Int.toNat_natCast,tabG_set _ _ _ hi,tabG_at _ hi hj,wsucc hk (by omega)]
  have hv:wrap64 (updG H i j (dotN l0 l1 i j k) i j+wrap64 (rd (rd_L2 l0 (i:Int)) (k:Int)*rd (rd_L2 l1 (k:Int)) (j:Int)))=dotN l0 l1 i j (k+1):=by
   have h1:updG H i j (dotN l0 l1 i j k) i j=dotN l0 l1 i j k:=if_pos ⟨rfl,rfl⟩
   rw [h1,show rd (rd_L2 l0 (i:Int)) (k:Int)*rd (rd_L2 l1 (k:Int)) (j:Int)=atG l0 i k*atG l1 k j from rfl,w64 (x:=atG l0 i k*atG l1 k j) (by omega) (by omega),w64 (by omega) (by omega)]
   rfl
  rw [hv,tabG_congr (G':=updG H i j (dotN l0 l1 i j (k+1))) (fun a b _ _=>by
   unfold updG
   by_cases c:a=i∧b=j
   ·rw [if_pos c,if_pos c]
   ·rw [if_neg c,if_neg c,if_neg c])]
  exact times_l2 T0 T1 e hi hj H hr m (k+1) (by omega)
theorem doTimes_ev {l0 l1:List (List Int)} (T0:Tab l0) (T1:Tab l1) (e:l1.length=l0.length):Ev (fun k=>spec_doTimes.f k l0 l1) (timesT l0 l1):=by
 have hl:=T0.len
 unfold spec_doTimes.f
 refine Ev.bind (doEmpty_ev l0.length (by omega)) ?_
 refine fill_ev l0.length (fun i j=>dotN l0 l1 i j l0.length) (fun k X i=>spec_doTimes.l0 k l0 l1 X (l0.length:Int) i) (fun k X i j=>spec_doTimes.l1 k l0 l1 X i (l0.length:Int) i (l0.length:Int) j) ?_ ?_ ?_ ?_
 ·refine Ev.succ ?_
  simp only [spec_doTimes.l0,if_neg (Int.lt_irrefl _)]
  exact Ev.now _
 ·intro i hi X hX
  refine Ev.succ ?_
  simp only [spec_doTimes.l0,if_pos (show (i:Int)<(l0.length:Int) by omega)]
  exact hX
 ·intro i j hi hj H hz hX
  refine Ev.succ ?_
  simp only [spec_doTimes.l1,if_pos (show (j:Int)<(l0.length:Int) by omega)]
  have key:=times_l2 T0 T1 e hi hj H hX l0.length 0 (by omega)
  rw [tabG_congr (G':=H) (fun a b _ _=>by
   unfold updG
   by_cases c:a=i∧b=j
   ·rw [if_pos c,c.1,c.2,hz]
    rfl
   ·rw [if_neg c])] at key
  exact key
 ·intro i hi X hX
  refine Ev.succ ?_
  simp only [spec_doTimes.l1,if_neg (Int.lt_irrefl _),wsucc hi (by omega)]
  exact hX
theorem timesG_eq {l0 l1:List (List Int)} (T0:Tab l0) (T1:Tab l1) (e:l1.length=l0.length) {i j:Nat} (hi:i<l0.length) (hj:j<l0.length):∀ (m k:Nat),k+m=l0.length→timesG l0 l1 (i:Int) (j:Int) m (k:Int) (dotN l0 l1 i j k)=some (dotN l0 l1 i j l0.length)
 | 0,k,ek=>by
  have ej:k=l0.length:=by omega
  subst ej;rfl
 | m+1,k,ek=>by
  have hk:k<l0.length:=by omega
  have b0:=dotN_bd T0 T1 e hi hj k (by omega)
  have b1:=prodG_bd T0 T1 e hi hj hk
  have hl:=T0.len
  rw [timesG,if_pos (by rw [tab_rowlen T0 hi,tab_rowlen T1 (show k<l1.length by omega)];omega),show rd (rd_L2 l0 (i:Int)) (k:Int)*rd (rd_L2 l1 (k:Int)) (j:Int)=atG l0 i k*atG l1 k j from rfl,w64 (x:=atG l0 i k*atG l1 k j) (by omega) (by omega),w64 (by omega) (by omega)]
  exact timesG_eq T0 T1 e hi hj m (k+1) (by omega)
theorem product_ev {l0 l1:List (List Int)} (T0:Tab l0) (T1:Tab l1) (e:l1.length=l0.length):Ev (fun k=>impl_product.f k l0 l1) (timesT l0 l1):=by
 have hl:=T0.len
 unfold impl_product.f
 simp only [if_pos (show l0.length≤4611686018427387903 by omega)]
 refine square_ev _ (fun i j=>dotN l0 l1 i j l0.length) l0.length (by omega) (fun i j hi hj => ?_)
 exact timesG_eq T0 T1 e hi hj l0.length 0 (by omega)
def sN (n:Nat) (f:Nat→Int):Int:=((List.range n).map f).sum
theorem sN_zero (f:Nat→Int):sN 0 f=0:=by simp [sN]
theorem sN_succ (n:Nat) (f:Nat→Int):sN (n+1) f=sN n f+f n:=by
 unfold sN
 rw [List.range_succ,List.map_append,List.sum_append]
 simp
theorem sN_congr {n:Nat} {f g:Nat→Int} (h:∀ i,i<n→f i=g i):sN n f=sN n g:=by
 unfold sN
 rw [List.map_congr_left fun i hi=>h i (List.mem_range.1 hi)]
theorem sN_none (n:Nat):sN n (fun _=>0)=0:=by
 induction n with
 | zero=>exact sN_zero _
 | succ n ih=>rw [sN_succ,ih];omega
theorem sN_add (n:Nat) (f g:Nat→Int):sN n (fun i=>f i+g i)=sN n f+sN n g:=by
 induction n with
 | zero=>simp [sN_zero]
 | succ n ih=>rw [sN_succ,sN_succ,sN_succ,ih];omega
theorem sN_mul (n:Nat) (c:Int) (f:Nat→Int):sN n (fun i=>c*f i)=c*sN n f:=by
 induction n with
 | zero=>simp [sN_zero]
 | succ n ih=>rw [sN_succ,sN_succ,ih,Int.mul_add]
theorem sN_comm (n m:Nat) (f:Nat→Nat→Int):sN n (fun i=>sN m (fun j=>f i j))=sN m (fun j=>sN n (fun i=>f i j)):=by
 induction n with
 | zero=>rw [sN_zero,sN_congr (g:=fun _=>0) (fun j _=>sN_zero _),sN_none]
 | succ n ih=>rw [sN_succ,ih,← sN_add,sN_congr (fun j _=>sN_succ n (fun i=>f i j))]
theorem sN_one {n a:Nat} (h:a<n) (v:Int):sN n (fun b=>if b=a then v else 0)=v:=by
 induction n with
 | zero=>omega
 | succ n ih =>
  rw [sN_succ]
  by_cases e:n=a
  ·subst e
   rw [sN_congr (g:=fun _=>0) (fun i hi=>if_neg (by omega)),sN_none,if_pos rfl]
   omega
  ·rw [ih (by omega),if_neg e]
   omega
theorem sN_two {n a c:Nat} (h:a<n) (h':c<n) (e:a≠c) (v w:Int):sN n (fun b=>if b=a then v else if b=c then w else 0)=v+w:=by
 rw [← sN_one h v,← sN_one h' w,← sN_add,sN_one h v,sN_one h' w]
 refine sN_congr fun b _ => ?_
 by_cases e1:b=a
 ·rw [if_pos e1,if_pos e1,if_neg (by omega)]
  omega
 ·rw [if_neg e1,if_neg e1]
  omega
def EqT (n:Nat) (G:Nat→Nat→Int) (s:Int):Prop:=∀ i,i<n→sN n (G i)=s∧sN n (fun k=>G k i)=s
theorem tabG_row_sum {n:Nat} (G:Nat→Nat→Int) {i:Nat} (h:i<n):((tabG n G).getD i []).sum=sN n (G i):=by
 have e:i<(tabG n G).length:=by rw [tabG_length];exact h
 rw [List.getD_eq_getElem?_getD,List.getElem?_eq_getElem e,Option.getD_some,tabG_get]
 rfl
theorem tabG_col_sum {n:Nat} (G:Nat→Nat→Int) {i:Nat} (h:i<n):((tabG n G).map fun x=>rd x (i:Int)).sum=sN n (fun k=>G k i):=by
 unfold tabG sN
 rw [List.map_map]
 refine congrArg List.sum (List.map_congr_left fun k _ => ?_)
 exact rowG_at (G k) h
theorem tabG_all {n:Nat} (G:Nat→Nat→Int) (s:Int):(List.range' 0 n).all (okI (tabG n G) s)=true↔EqT n G s:=by
 rw [List.all_eq_true]
 constructor
 ·intro h i hi
  have k:=h i (by rw [List.mem_range'_1];omega)
  unfold okI at k
  rw [tabG_row_sum G hi,tabG_col_sum G hi,Bool.and_eq_true,decide_eq_true_eq,decide_eq_true_eq] at k
  exact k
 ·intro h i hi
  rw [List.mem_range'_1] at hi
  have k:=h i (by omega)
  unfold okI
  rw [tabG_row_sum G (by omega),tabG_col_sum G (by omega),Bool.and_eq_true,decide_eq_true_eq,decide_eq_true_eq]
  exact k
theorem equal_of {n:Nat} {G:Nat→Nat→Int} {s:Int} (hq:squareB (tabG n G)=true) (h:EqT n G s):equalR (tabG n G)=(s,true):=by
 have h1:=(square_tab hq).2
 rw [tabG_length] at h1
 unfold equalR
 have e:sum0 (tabG n G)=s:=by
  unfold sum0
  rw [tabG_row_sum G (by omega)]
  exact (h 0 (by omega)).1
 rw [if_pos hq,e,tabG_length,if_pos ((tabG_all G s).2 h)]
theorem tab_self {l:List (List Int)} (h:squareB l=true):tabG l.length (atG l)=l:=tabG_self fun x hx=>((square_tab h).1.row x hx).1
theorem dot_sum (l0 l1:List (List Int)) (i j k:Nat):dotN l0 l1 i j k=sN k (fun q=>atG l0 i q*atG l1 q j):=by
 induction k with
 | zero=>rw [sN_zero];rfl
 | succ k ih=>rw [sN_succ,← ih];rfl
theorem gtG_symm (i j:Nat) (s k:Int) (a b:Nat):gtG i j s k a b=gtG i j s k b a:=by
 unfold gtG
 repeat' split
 all_goals first | rfl | omega
theorem gtG_sum {n i j:Nat} (hij:i<j) (hj:j<n) (s k:Int) {a:Nat} (ha:a<n):sN n (gtG i j s k a)=s:=by
 by_cases e1:a=i
 ·have e:∀ b,b<n→gtG i j s k a b=if b=a then s - k else if b=j then k else 0:=by
   intro b _
   unfold gtG
   repeat' split
   all_goals first | rfl | omega
  rw [sN_congr e,sN_two ha hj (by omega)]
  omega
 ·by_cases e2:a=j
  ·have e:∀ b,b<n→gtG i j s k a b=if b=a then s - k else if b=i then k else 0:=by
    intro b _
    unfold gtG
    repeat' split
    all_goals first | rfl | omega
   rw [sN_congr e,sN_two ha (show i<n by omega) (by omega)]
   omega
  ·have e:∀ b,b<n→gtG i j s k a b=if b=a then s else 0:=by
    intro b _
    unfold gtG
    repeat' split
    all_goals first | rfl | omega
   rw [sN_congr e,sN_one ha]
theorem squareG {n:Nat} (h1:1≤n) (h6:n≤6) {G:Nat→Nat→Int} (h:∀ i j,i<n→j<n→0≤G i j∧G i j≤1000000):squareB (tabG n G)=true:=by
 unfold squareB
 rw [Bool.and_eq_true,decide_eq_true_eq,List.all_eq_true,tabG_length]
 refine ⟨by omega,fun x hx => ?_⟩
 unfold tabG at hx
 obtain ⟨i,hi,rfl⟩:=List.mem_map.1 hx
 unfold rowB inR
 rw [Bool.and_eq_true,decide_eq_true_eq,List.all_eq_true,List.length_map,List.length_range]
 refine ⟨rfl,fun y hy => ?_⟩
 obtain ⟨j,hj,rfl⟩:=List.mem_map.1 hy
 have:=h i j (List.mem_range.1 hi) (List.mem_range.1 hj)
 simp [this]
theorem sN_le {n:Nat} {f g:Nat→Int} (h:∀ i,i<n→f i≤g i):sN n f≤sN n g:=by
 induction n with
 | zero=>rw [sN_zero,sN_zero];exact Int.le_refl _
 | succ n ih =>
  have h1:=ih (fun i hi=>h i (by omega))
  have h2:=h n (by omega)
  rw [sN_succ,sN_succ]
  omega
theorem gcd_step (a b:Nat):Nat.gcd b (a % b)=Nat.gcd a b:=by
 rw [Nat.gcd_comm a b,Nat.gcd_rec b a,Nat.gcd_comm]
theorem doGcd_ev:∀ (b a:Nat),Ev (fun k=>spec_doGcd.f k (a:Int) (b:Int)) ((Nat.gcd a b:Nat):Int):=by
 intro b
 induction b using Nat.strongRecOn with
 | _ b ih =>
  intro a
  refine Ev.succ ?_
  by_cases c:b=0
  ·subst c
   simp only [spec_doGcd.f,if_pos (show ((0:Nat):Int)=0 from rfl),Nat.gcd_zero_right]
   exact Ev.now _
  ·simp only [spec_doGcd.f,if_neg (show ¬ (b:Int)=0 by omega),← Int.ofNat_tmod]
   have h:=ih (a % b) (Nat.mod_lt a (by omega)) b
   rw [gcd_step] at h
   exact Ev.bind h (Ev.now _)
theorem divisor_ev:∀ (b a:Nat),Ev (fun k=>impl_divisor.f k (a:Int) (b:Int)) ((Nat.gcd a b:Nat):Int):=by
 unfold impl_divisor.f
 intro b
 induction b using Nat.strongRecOn with
 | _ b ih =>
  intro a
  refine Ev.succ ?_
  by_cases c:b=0
  ·subst c
   simp only [impl_divisor.l0,if_pos (show ((0:Nat):Int)=0 from rfl),Nat.gcd_zero_right]
   exact Ev.now _
  ·simp only [impl_divisor.l0,if_neg (show ¬ (b:Int)=0 by omega),← Int.ofNat_tmod]
   have h:=ih (a % b) (Nat.mod_lt a (by omega)) b
   rw [gcd_step] at h
   exact h
def gcdL (g:Nat) (l:List Int):Nat:=l.foldl (fun g x=>Nat.gcd g x.toNat) g
theorem gcdL_perm {l1 l2:List Int} (h:l1.Perm l2) (g:Nat):gcdL g l1=gcdL g l2:=by
 unfold gcdL
 induction h generalizing g with
 | nil=>rfl
 | cons a _ ih=>exact ih _
 | swap a b l =>
  simp only [List.foldl_cons]
  rw [Nat.gcd_assoc,Nat.gcd_comm b.toNat,← Nat.gcd_assoc]
 | trans _ _ ih1 ih2=>exact (ih1 g).trans (ih2 g)
theorem gcdL_pos:∀ (l:List Int) (g:Nat),(0<g∨∃ x ∈ l,0<x)→0<gcdL g l
 | [],g,h=>by
  rcases h with h | ⟨x,hx,_⟩
  ·exact h
  ·simp at hx
 | a :: l,g,h=>by
  unfold gcdL
  rw [List.foldl_cons]
  refine gcdL_pos l (Nat.gcd g a.toNat) ?_
  rcases h with h | ⟨x,hx,h0⟩
  ·exact Or.inl (Nat.gcd_pos_of_pos_left _ h)
  ·rcases List.mem_cons.1 hx with rfl | hx
   ·exact Or.inl (Nat.gcd_pos_of_pos_right _ (by omega))
   ·exact Or.inr ⟨x,hx,h0⟩
theorem div_l1 (G:Nat→List (List Int)→Int→Option (List (List Int))) (t:List (List Int)) (n:Int) (i:Nat) (hi:i≤100) (x:List Int) (hx:x.length≤100) (hb:∀ y ∈ x,0≤y) {r:List (List Int) × Bool}:∀ (m j g:Nat),j+m=x.length→Ev (fun k=>impl_TableForB.l0 G k t ((gcdL g (x.drop j):Nat):Int) t n ((i:Int)+1)) r→Ev (fun k=>impl_TableForB.l1 G k t (g:Int) t n (i:Int) x (x.length:Int) (j:Int)) r
 | 0,j,g,h,hr=>by
  refine Ev.succ ?_
  simp only [impl_TableForB.l1,if_neg (show ¬ (j:Int)<(x.length:Int) by omega),w64 (x:=(i:Int)+1) (by omega) (by omega)]
  rw [List.drop_eq_nil_of_le (by omega)] at hr
  exact hr
 | m+1,j,g,h,hr=>by
  have hj:j<x.length:=by omega
  have hrd:rd x (j:Int)=x[j]:=by
   unfold rd
   simp [List.getD_eq_getElem?_getD,List.getElem?_eq_getElem hj]
  have h0:=hb x[j] (List.getElem_mem hj)
  refine Ev.succ ?_
  simp only [impl_TableForB.l1,if_pos (show (j:Int)<(x.length:Int) by omega),if_pos (show (0:Int)≤(j:Int) by omega),hrd,w64 (x:=(j:Int)+1) (by omega) (by omega)]
  have hd:=divisor_ev x[j].toNat g
  rw [Int.toNat_of_nonneg h0] at hd
  refine Ev.bind hd ?_
  rw [List.drop_eq_getElem_cons hj] at hr
  exact div_l1 G t n i hi x hx hb m (j+1) _ (by omega) hr
theorem div_l0 (G:Nat→List (List Int)→Int→Option (List (List Int))) (t:List (List Int)) (ht:t.length≤100) (hx:∀ x ∈ t,x.length≤100∧∀ y ∈ x,0≤y) {r:List (List Int) × Bool}:∀ (m i g:Nat),i+m=t.length→Ev (fun k=>(G k t ((gcdL g (t.drop i).flatten:Nat):Int)).bind fun u=>(impl_checked.f u).bind fun b=>some (b.1,b.2)) r→Ev (fun k=>impl_TableForB.l0 G k t (g:Int) t (t.length:Int) (i:Int)) r
 | 0,i,g,h,hr=>by
  refine Ev.succ ?_
  simp only [impl_TableForB.l0,if_neg (show ¬ (i:Int)<(t.length:Int) by omega)]
  rw [List.drop_eq_nil_of_le (by omega)] at hr
  exact hr
 | m+1,i,g,h,hr=>by
  have hi:i<t.length:=by omega
  have hm:=hx t[i] (List.getElem_mem hi)
  refine Ev.succ ?_
  simp only [impl_TableForB.l0,if_pos (show (i:Int)<(t.length:Int) by omega),if_pos (show (0:Int)≤(i:Int) by omega),rd_L1n hi]
  refine div_l1 G t (t.length:Int) i (by omega) t[i] hm.1 hm.2 t[i].length 0 g (by omega) ?_
  rw [List.drop_zero]
  refine div_l0 G t ht hx m (i+1) _ (by omega) ?_
  rw [List.drop_eq_getElem_cons hi,List.flatten_cons] at hr
  unfold gcdL at hr ⊢
  rw [List.foldl_append] at hr
  exact hr
section
open Go.Sort in
def insT (m:Nat) (lt:Fin (m+1)→Fin (m+1)→Bool):Array (Fin (m+1)):=(List.range m).foldl (fun d i=>insInner lt 0 (i+1) d) (Array.ofFn (fun i:Fin (m+1)=>i))
def setsT (n:Nat) (o:List Nat):List Nat:=(List.range o.length).foldl (fun x i=>x.set (o.getD i 0) i) (List.replicate n 0)
def rnkT (m:Nat) (lt:Fin (m+1)→Fin (m+1)→Bool):List Nat:=setsT (m+1) ((insT m lt).toList.map fun i=>i.val)
def plT (m:Nat) (lt:Fin (m+1)→Fin (m+1)→Bool):List Nat:=(List.ofFn (fun i:Fin (m+1)=>i)).map fun i=>(List.ofFn (fun k:Fin (m+1)=>k)).countP fun k=>lt k i || (!lt k i && !lt i k && decide (k<i))
def ltW (n:Nat) (w:List Nat) (i j:Fin n):Bool:=decide (w.getD j.val 0<w.getD i.val 0)
theorem rp1:∀ a:Fin 4,rnkT 0 (ltW 1 [a.val])=plT 0 (ltW 1 [a.val]):=by decide +kernel
theorem rp2:∀ a b:Fin 4,rnkT 1 (ltW 2 [a.val,b.val])=plT 1 (ltW 2 [a.val,b.val]):=by decide +kernel
theorem rp3:∀ a b c:Fin 4,rnkT 2 (ltW 3 [a.val,b.val,c.val])=plT 2 (ltW 3 [a.val,b.val,c.val]):=by decide +kernel
theorem rp4:∀ a b c d:Fin 4,rnkT 3 (ltW 4 [a.val,b.val,c.val,d.val])=plT 3 (ltW 4 [a.val,b.val,c.val,d.val]):=by decide +kernel
theorem insT_eq (m:Nat) (hm:m≤3) (lt:Fin (m+1)→Fin (m+1)→Bool):Go.Sort.insertionSort lt (Array.ofFn (fun i:Fin (m+1)=>i)) 0 (m+1)=insT m lt:=by
 unfold Go.Sort.insertionSort insT
 obtain rfl | rfl | rfl | rfl:m=0∨m=1∨m=2∨m=3:=by omega
 ·rw [insOuter_stop _ _ _ _ _ (by omega)];rfl
 ·rw [insOuter_go _ _ _ _ _ (by omega),insOuter_stop _ _ _ _ _ (by omega)];rfl
 ·rw [insOuter_go _ _ _ _ _ (by omega),insOuter_go _ _ _ _ _ (by omega),insOuter_stop _ _ _ _ _ (by omega)];rfl
 ·rw [insOuter_go _ _ _ _ _ (by omega),insOuter_go _ _ _ _ _ (by omega),insOuter_go _ _ _ _ _ (by omega),insOuter_stop _ _ _ _ _ (by omega)];rfl
def denW (l:List Int):List Nat:=l.map fun x=>l.countP fun y=>decide (y<x)
theorem countP_le_of {l:List Int} {p q:Int→Bool} (h:∀ x ∈ l,p x=true→q x=true):l.countP p≤l.countP q:=List.countP_mono_left h
theorem den_lt (l:List Int) {x y:Int} (hx:x ∈ l) (hy:y ∈ l):(l.countP (fun z=>decide (z<x))<l.countP (fun z=>decide (z<y)))↔x<y:=by
 constructor
 ·intro h
  by_cases c:x<y
  ·exact c
  ·exfalso
   have:=countP_le_of (l:=l) (p:=fun z=>decide (z<y)) (q:=fun z=>decide (z<x)) (fun z _ hz=>by
    simp only [decide_eq_true_eq] at *
    omega)
   omega
 ·intro h
  have h1:l.countP (fun z=>decide (z<y))=l.countP (fun z=>decide (z<x))+l.countP (fun z=>decide (x≤z∧z<y)):=by
   clear hx hy;induction l with
   | nil=>rfl
   | cons a l ih =>
    simp only [List.countP_cons,ih,decide_eq_true_eq]
    by_cases c1:a<x
    ·rw [if_pos (show a<y by omega),if_pos c1,if_neg (show ¬ (x≤a∧a<y) by omega)]
     omega
    ·by_cases c2:a<y
     ·rw [if_pos c2,if_neg c1,if_pos (show x≤a∧a<y by omega)]
      omega
     ·rw [if_neg c2,if_neg c1,if_neg (show ¬ (x≤a∧a<y) by omega)]
      omega
  have h2:0<l.countP (fun z=>decide (x≤z∧z<y)):=List.countP_pos_iff.2 ⟨x,hx,by simp [h]⟩
  omega
theorem den_bd (l:List Int) {x:Int} (hx:x ∈ l):l.countP (fun z=>decide (z<x))<l.length:=by
 have:=List.countP_eq_length (p:=fun z=>decide (z<x)) (l:=l)
 have h2:=List.countP_le_length (p:=fun z=>decide (z<x)) (l:=l)
 by_cases c:l.countP (fun z=>decide (z<x))=l.length
 ·have:=this.1 c x hx
  simp at this
 ·omega
theorem lt_den (l:List Int) (m:Nat) (hm:l.length=m+1):(fun i j:Fin (m+1)=>decide (rd l (j.val:Int)<rd l (i.val:Int)))=ltW (m+1) (denW l):=by
 funext i j
 have gi:∀ i:Fin (m+1),(denW l).getD i.val 0=l.countP (fun z=>decide (z<rd l (i.val:Int)))∧rd l (i.val:Int) ∈ l:=fun i=>by
  have hi:i.val<l.length:=by omega
  have hr:rd l (i.val:Int)=l[i.val]:=by
   unfold rd
   simp [List.getD_eq_getElem?_getD,List.getElem?_eq_getElem hi]
  refine ⟨?_,by rw [hr];exact List.getElem_mem hi⟩
  unfold denW
  rw [List.getD_eq_getElem?_getD,List.getElem?_map,List.getElem?_eq_getElem hi,hr]
  rfl
 unfold ltW
 rw [(gi i).1,(gi j).1]
 exact (decide_eq_decide).2 (den_lt l (gi j).2 (gi i).2).symm
theorem rnk_pl (l:List Int) (m:Nat) (hm:l.length=m+1) (h3:m≤3):rnkT m (fun i j:Fin (m+1)=>decide (rd l (j.val:Int)<rd l (i.val:Int)))=plT m (fun i j:Fin (m+1)=>decide (rd l (j.val:Int)<rd l (i.val:Int))):=by
 rw [lt_den l m hm]
 have hl:(denW l).length=m+1:=by unfold denW;simpa using hm
 have hb:∀ x ∈ denW l,x<4:=fun x hx=>by
  unfold denW at hx
  obtain ⟨y,hy,rfl⟩:=List.mem_map.1 hx
  have:=den_bd l hy
  omega
 generalize denW l=w at *
 obtain rfl | rfl | rfl | rfl:m=0∨m=1∨m=2∨m=3:=by omega
 ·match w,hl with
  | [a],_=>exact rp1 ⟨a,hb a (taac)⟩
 ·match w,hl with
  | [a,b],_=>exact rp2 ⟨a,hb a (taac)⟩ ⟨b,hb b (taac)⟩
 ·match w,hl with
  | [a,b,c],_=>exact rp3 ⟨a,hb a (taac)⟩ ⟨b,hb b (taac)⟩ ⟨c,hb c (taac)⟩
 ·match w,hl with
  | [a,b,c,d],_=>exact rp4 ⟨a,hb a (taac)⟩ ⟨b,hb b (taac)⟩ ⟨c,hb c (taac)⟩ ⟨d,hb d (taac)⟩
theorem ordA_eq (l:List Int) (m:Nat) (h3:m≤3) (hm:l.length=m+1) (hb:∀ x ∈ l,0≤x∧x≤60):ordA l m=insT m (fun i j:Fin (m+1)=>decide (rd l (j.val:Int)<rd l (i.val:Int))):=by
 rw [← insT_eq m h3]
 unfold ordA
 congr 1
 funext i j
 have gi:∀ i:Fin (m+1),0≤rd l (i.val:Int)∧rd l (i.val:Int)≤60:=fun i=>by
  have hi:i.val<l.length:=by omega
  have hr:rd l (i.val:Int)=l[i.val]:=by
   unfold rd
   simp [List.getD_eq_getElem?_getD,List.getElem?_eq_getElem hi]
  rw [hr]
  exact hb _ (List.getElem_mem hi)
 have h1:=gi i;have h2:=gi j;unfold ltOf cfR
 rw [w64 (by omega) (by omega)]
 exact decide_eq_decide.2 (by omega)
theorem pp1:∀ a:Fin 4,(plT 0 (ltW 1 [a.val])).Perm (List.range 1):=by decide +kernel
theorem pp2:∀ a b:Fin 4,(plT 1 (ltW 2 [a.val,b.val])).Perm (List.range 2):=by decide +kernel
theorem pp3:∀ a b c:Fin 4,(plT 2 (ltW 3 [a.val,b.val,c.val])).Perm (List.range 3):=by decide +kernel
theorem pp4:∀ a b c d:Fin 4,(plT 3 (ltW 4 [a.val,b.val,c.val,d.val])).Perm (List.range 4):=by decide +kernel
theorem plT_perm (l:List Int) (m:Nat) (hm:l.length=m+1) (h3:m≤3):(plT m (fun i j:Fin (m+1)=>decide (rd l (j.val:Int)<rd l (i.val:Int)))).Perm (List.range (m+1)):=by
 rw [lt_den l m hm]
 have hl:(denW l).length=m+1:=by unfold denW;simpa using hm
 have hb:∀ x ∈ denW l,x<4:=fun x hx=>by
  unfold denW at hx
  obtain ⟨y,hy,rfl⟩:=List.mem_map.1 hx
  have:=den_bd l hy
  omega
 generalize denW l=w at *
 obtain rfl | rfl | rfl | rfl:m=0∨m=1∨m=2∨m=3:=by omega
 ·match w,hl with
  | [a],_=>exact pp1 ⟨a,hb a (taac)⟩
 ·match w,hl with
  | [a,b],_=>exact pp2 ⟨a,hb a (taac)⟩ ⟨b,hb b (taac)⟩
 ·match w,hl with
  | [a,b,c],_=>exact pp3 ⟨a,hb a (taac)⟩ ⟨b,hb b (taac)⟩ ⟨c,hb c (taac)⟩
 ·match w,hl with
  | [a,b,c,d],_=>exact pp4 ⟨a,hb a (taac)⟩ ⟨b,hb b (taac)⟩ ⟨c,hb c (taac)⟩ ⟨d,hb d (taac)⟩
end
def plcL (l:List Int):List Int:=(plT (l.length - 1) (fun i j:Fin (l.length - 1+1)=>decide (rd l (j.val:Int)<rd l (i.val:Int)))).map fun (x:Nat)=>(x:Int)
theorem idxL_succ (i:Nat):idxL i ++ [(i:Int)]=idxL (i+1):=by
 unfold idxL
 rw [List.range_succ,List.map_append]
 rfl
theorem idxL_len (i:Nat):(idxL i).length=i:=by
 unfold idxL
 simp
theorem rnk_l0 (S:List Int→Option (List Int)) (z:List Int) (n:Nat) (hn:n≤12) {r:List Int} (hr:Ev (fun k=>(S (idxL n)).bind fun t=>impl_ranks.l1 S k z t (t.length:Int) 0) r):∀ (m i:Nat),i+m=n→Ev (fun k=>impl_ranks.l0 S k (idxL i) z (n:Int) (i:Int)) r
 | 0,i,h=>by
  refine Ev.succ ?_
  obtain rfl:i=n:=by omega
  simp only [impl_ranks.l0,if_neg (show ¬ (i:Int)<(i:Int) by omega)]
  exact hr
 | m+1,i,h=>by
  refine Ev.succ ?_
  simp only [impl_ranks.l0,if_pos (show (i:Int)<(n:Int) by omega),if_pos (show (idxL i).length<17592186044416 by rw [idxL_len];omega),w64 (x:=(i:Int)+1) (by omega) (by omega),idxL_succ]
  exact rnk_l0 S z n hn hr m (i+1) (by omega)
theorem rnk_l1 (S:List Int→Option (List Int)) (t:List Int) (n:Nat) (hn:n≤12) (ht:t.length=n) (hb:∀ x ∈ t,0≤x∧x<(n:Int)):∀ (m i:Nat) (z:List Int),i+m=n→z.length=n→Ev (fun k=>impl_ranks.l1 S k z t (n:Int) (i:Int)) ((List.range' i m).foldl (fun x (i:Nat)=>x.set (rd t (i:Int)).toNat (i:Int)) z)
 | 0,i,z,h,hz=>by
  refine Ev.succ ?_
  simp only [impl_ranks.l1,if_neg (show ¬ (i:Int)<(n:Int) by omega)]
  exact Ev.now _
 | m+1,i,z,h,hz=>by
  refine Ev.succ ?_
  have hi:i<t.length:=by omega
  have hr:rd t (i:Int)=t[i]:=by
   unfold rd
   simp [List.getD_eq_getElem?_getD,List.getElem?_eq_getElem hi]
  have hx:=hb t[i] (List.getElem_mem hi)
  simp only [impl_ranks.l1,if_pos (show (i:Int)<(n:Int) by omega),if_pos (show (0:Int)≤(i:Int) by omega),if_pos (show (i:Int)<(t.length:Int) by omega),if_pos (show 0≤rd t (i:Int) by rw [hr];omega),if_pos (show rd t (i:Int)<(z.length:Int) by rw [hr];omega),w64 (x:=(i:Int)+1) (by omega) (by omega)]
  rw [List.range'_succ,List.foldl_cons]
  exact rnk_l1 S t n hn ht hb m (i+1) _ (by omega) (by rw [List.length_set];exact hz)
theorem foldl_set_map (f:Nat→Nat):∀ (is:List Nat) (x:List Nat),(is.foldl (fun x i=>x.set (f i) i) x).map (fun (v:Nat)=>(v:Int))=is.foldl (fun y (i:Nat)=>y.set (f i) (i:Int)) (x.map fun (v:Nat)=>(v:Int))
 | [],x=>rfl
 | i :: is,x=>by
  rw [List.foldl_cons,List.foldl_cons,foldl_set_map f is,List.map_set]
theorem ranks_ev (l:List Int) (h1:1≤l.length) (h4:l.length≤4) (hb:∀ x ∈ l,0≤x∧x≤60):Ev (fun k=>impl_ranks.f k l) (plcL l):=by
 unfold impl_ranks.f
 obtain ⟨m,hm⟩:∃ m,l.length=m+1:=⟨l.length - 1,by omega⟩
 have e1:l.length - 1=m:=by omega
 have hA:=ordA_eq l m (by omega) hm hb
 have hR:=rnk_pl l m hm (by omega)
 have hP:plcL l=(plT m (fun i j:Fin (m+1)=>decide (rd l (j.val:Int)<rd l (i.val:Int)))).map fun (x:Nat)=>(x:Int):=by
  unfold plcL
  rw [e1]
 have hO:ordL l=(ordA l m).toList.map fun i=>(i.val:Int):=by
  unfold ordL
  rw [e1]
 have hsz:(ordA l m).size=m+1:=by
  unfold ordA Go.Sort.insertionSort
  rw [size_insOuter _ _ _ _ _ _ rfl,Array.size_ofFn]
 have hol:(ordL l).length=m+1:=by rw [hO];simp [hsz]
 have hob:∀ x ∈ ordL l,0≤x∧x<((m+1:Nat):Int):=fun x hx=>by
  rw [hO] at hx
  obtain ⟨i,_,rfl⟩:=List.mem_map.1 hx
  have:=i.isLt
  omega
 simp only [if_pos (show (0:Int)≤(l.length:Int) by omega),if_pos (show ((l.length:Int):Int).toNat≤35184372088832 by omega)]
 rw [hP,← hR]
 simp only [hm]
 refine rnk_l0 (sortIdx l) _ (m+1) (by omega) ?_ (m+1) 0 (by omega)
 have hS:sortIdx l (idxL (m+1))=some (ordL l):=by
  unfold sortIdx
  rw [if_pos ⟨h1,by omega,by rw [hm]⟩]
 rw [hS]
 simp only [zbd]
 have hl:=rnk_l1 (sortIdx l) (ordL l) (m+1) (by omega) hol hob (m+1) 0 (List.replicate ((m+1:Nat):Int).toNat 0) (by omega) (taac)
 rw [hol]
 refine cast ?_ hl
 congr 1
 have hsA:(insT m fun i j:Fin (m+1)=>decide (rd l (j.val:Int)<rd l (i.val:Int))).size=m+1:=by rw [← hA];exact hsz
 unfold rnkT setsT
 rw [foldl_set_map (fun i=>((insT m fun i j=>decide (rd l (j.val:Int)<rd l (i.val:Int))).toList.map fun i=>i.val).getD i 0),hO,hA]
 have h0:∀ i:Nat,(rd ((insT m fun i j:Fin (m+1)=>decide (rd l (j.val:Int)<rd l (i.val:Int))).toList.map fun i=>(i.val:Int)) (i:Int)).toNat=((insT m fun i j:Fin (m+1)=>decide (rd l (j.val:Int)<rd l (i.val:Int))).toList.map fun i=>i.val).getD i 0:=fun i=>by
  generalize (insT m fun i j:Fin (m+1)=>decide (rd l (j.val:Int)<rd l (i.val:Int))).toList=o
  unfold rd
  rw [Int.toNat_natCast,List.getD_eq_getElem?_getD,List.getD_eq_getElem?_getD,List.getElem?_map,List.getElem?_map]
  cases o[i]? with
  | none=>rfl
  | some x=>rfl
 simp only [h0,List.length_map,Array.length_toList,hsA,List.map_replicate,Int.toNat_natCast,List.range_eq_range']
 rfl
def aheadB (l:List Int) (i k:Nat):Bool:=decide (rd l (i:Int)<rd l (k:Int)) || (decide (rd l (k:Int)=rd l (i:Int)) && decide (k<i))
def plcI (l:List Int) (i:Nat):Int:=(((List.range l.length).countP (aheadB l i):Nat):Int)
theorem pl_l1 (l:List Int) (hn:l.length≤12) (i:Nat) (hi:i<l.length) (out:List Int) (ho:out.length≤12) {r:List Int}:∀ (m j:Nat) (c:Nat),j+m=l.length→c≤j→Ev (fun k=>spec_doPlaces.l0 k l (out ++ [((c+(List.range' j m).countP (aheadB l i):Nat):Int)]) l (l.length:Int) ((i:Int)+1)) r→Ev (fun k=>spec_doPlaces.l1 k l out (i:Int) (rd l (i:Int)) (c:Int) l (l.length:Int) (i:Int) l (l.length:Int) (j:Int)) r
 | 0,j,c,h,hc,hr=>by
  refine Ev.succ ?_
  simp only [spec_doPlaces.l1,if_neg (show ¬ (j:Int)<(l.length:Int) by omega),if_pos (show out.length<17592186044416 by omega),w64 (x:=(i:Int)+1) (by omega) (by omega)]
  exact hr
 | m+1,j,c,h,hc,hr=>by
  refine Ev.succ ?_
  simp only [spec_doPlaces.l1,if_pos (show (j:Int)<(l.length:Int) by omega),if_pos (show (0:Int)≤(j:Int) by omega),w64 (x:=(c:Int)+1) (by omega) (by omega),w64 (x:=(j:Int)+1) (by omega) (by omega)]
  rw [List.range'_succ,List.countP_cons] at hr
  have up:aheadB l i j=true→Ev (fun k=>spec_doPlaces.l1 k l out (i:Int) (rd l (i:Int)) ((c:Int)+1) l (l.length:Int) (i:Int) l (l.length:Int) ((j:Int)+1)) r:=fun hb=>by
   refine pl_l1 l hn i hi out ho m (j+1) (c+1) (by omega) (by omega) ?_
   rw [if_pos hb] at hr
   rw [show c+1+(List.range' (j+1) m).countP (aheadB l i)=c+((List.range' (j+1) m).countP (aheadB l i)+1) by omega]
   exact hr
  have dn:¬ aheadB l i j=true→Ev (fun k=>spec_doPlaces.l1 k l out (i:Int) (rd l (i:Int)) (c:Int) l (l.length:Int) (i:Int) l (l.length:Int) ((j:Int)+1)) r:=fun hb=>by
   refine pl_l1 l hn i hi out ho m (j+1) c (by omega) (by omega) ?_
   rw [if_neg hb,Nat.add_zero] at hr
   exact hr
  by_cases c1:rd l (j:Int)>rd l (i:Int)
  ·simp only [if_pos c1]
   exact up (by unfold aheadB;simp [show rd l (i:Int)<rd l (j:Int) from c1])
  ·simp only [if_neg c1]
   by_cases c2:rd l (j:Int)=rd l (i:Int)
   ·simp only [if_pos c2]
    by_cases c3:(j:Int)<(i:Int)
    ·simp only [if_pos c3]
     exact up (by unfold aheadB;simp [c2,show j<i by omega])
    ·simp only [if_neg c3]
     exact dn (by unfold aheadB;simp [c2,show ¬ j<i by omega])
   ·simp only [if_neg c2]
    exact dn (by unfold aheadB;simp [show ¬ rd l (i:Int)<rd l (j:Int) by omega,c2])
theorem pl_l0 (l:List Int) (hn:l.length≤12):∀ (m i:Nat) (out:List Int),i+m=l.length→out.length=i→Ev (fun k=>spec_doPlaces.l0 k l out l (l.length:Int) (i:Int)) (out ++ (List.range' i m).map (plcI l))
 | 0,i,out,h,ho=>by
  refine Ev.succ ?_
  simp only [spec_doPlaces.l0,if_neg (show ¬ (i:Int)<(l.length:Int) by omega),List.range'_zero,zav,List.append_nil]
  exact Ev.now _
 | m+1,i,out,h,ho=>by
  refine Ev.succ ?_
  simp only [spec_doPlaces.l0,if_pos (show (i:Int)<(l.length:Int) by omega),if_pos (show (0:Int)≤(i:Int) by omega)]
  refine pl_l1 l hn i (by omega) out (by omega) l.length 0 0 (by omega) (by omega) ?_
  have ih:=pl_l0 l hn m (i+1) (out ++ [plcI l i]) (by omega) (by rw [List.length_append,ho];rfl)
  rw [List.append_assoc] at ih
  rw [Nat.zero_add,← List.range_eq_range']
  exact ih
theorem doPlaces_ev (l:List Int) (h1:1≤l.length) (hn:l.length≤12):Ev (fun k=>spec_doPlaces.f k l) (plcL l):=by
 unfold spec_doPlaces.f
 have h:=pl_l0 l hn l.length 0 [] (by omega) rfl
 refine cast ?_ h
 congr 1
 rw [List.nil_append]
 unfold plcL plT
 rw [List.map_map]
 apply List.ext_getElem
 ·simp
  omega
 ·intro i h1' h2'
  have hi:i<l.length:=by simpa using h1'
  simp only [List.getElem_map,List.getElem_range',List.getElem_ofFn,Function.comp_apply]
  unfold plcI
  congr 1
  rw [Nat.zero_add,Nat.one_mul]
  have e1:l.length - 1+1=l.length:=by omega
  have hr:List.range l.length=(List.ofFn (fun k:Fin (l.length - 1+1)=>k)).map Fin.val:=by
   apply List.ext_getElem
   ·simp
    omega
   ·intro j a b
    simp [-List.ofFn_succ]
  rw [hr,List.countP_map]
  apply List.countP_congr
  intro k _
  simp only [Function.comp_apply]
  unfold aheadB
  by_cases c1:rd l (i:Int)<rd l (k.val:Int)
  ·simp [c1]
  ·by_cases c2:rd l (k.val:Int)<rd l (i:Int)
   ·have c3:¬ rd l (k.val:Int)=rd l (i:Int):=by omega
    simp [c1,c2,c3]
   ·have c3:rd l (k.val:Int)=rd l (i:Int):=by omega
    simp [c3,Fin.lt_def]
theorem plcL_perm (l:List Int) (h1:1≤l.length) (h4:l.length≤4):(plcL l).Perm (idxL l.length):=by
 have h:=plT_perm l (l.length - 1) (by omega) (by omega)
 unfold plcL idxL
 have e:List.range l.length=List.range (l.length - 1+1):=by congr 1;omega
 rw [e]
 exact h.map _
theorem plcL_len (l:List Int) (h1:1≤l.length) (h4:l.length≤4):(plcL l).length=l.length:=by
 rw [(plcL_perm l h1 h4).length_eq,idxL_len]
theorem plcL_mem (l:List Int) (h1:1≤l.length) (h4:l.length≤4) {x:Int} (hx:x ∈ plcL l):0≤x∧x<(l.length:Int):=by
 have h:=(plcL_perm l h1 h4).mem_iff.1 hx
 unfold idxL at h
 obtain ⟨i,hi,rfl⟩:=List.mem_map.1 h
 have:=List.mem_range.1 hi
 omega
theorem plcL_rd (l:List Int) (h1:1≤l.length) (h4:l.length≤4) {i:Nat} (hi:i<l.length):0≤rd (plcL l) (i:Int)∧rd (plcL l) (i:Int)<(l.length:Int):=by
 have hl:=plcL_len l h1 h4
 have hr:rd (plcL l) (i:Int)=(plcL l)[i]'(by omega):=by
  unfold rd
  simp [List.getD_eq_getElem?_getD,List.getElem?_eq_getElem (show i<(plcL l).length by omega)]
 rw [hr]
 exact plcL_mem l h1 h4 (List.getElem_mem _)
def quoG (a b:List Int) (t:List (List Int)) (g:Nat) (i j:Nat):Int:=Int.tdiv (atG t (rd (plcL a) (i:Int)).toNat (rd (plcL b) (j:Int)).toNat) (g:Int)
def tailR (a b:List Int) (t:List (List Int)):List (List Int) × Bool:=checkR (tabG a.length (quoG a b t (gcdL 0 t.flatten)))
theorem tdiv_bd {x:Int} {g:Nat} (h0:0≤x) (h1:x≤1000000) (hg:0<g):0≤Int.tdiv x (g:Int)∧Int.tdiv x (g:Int)≤1000000:=by
 obtain ⟨n,rfl⟩:=Int.eq_ofNat_of_zero_le h0
 rw [← Int.ofNat_tdiv]
 have h2:n / g≤n:=Nat.div_le_self n g
 generalize n / g=q at *
 omega
theorem implTail_ev (a b:List Int) (t:List (List Int)) (h1:1≤a.length) (h4:a.length≤4) (hl:b.length=a.length) (ha:∀ x ∈ a,0≤x∧x≤60) (hb:∀ x ∈ b,0≤x∧x≤60) (T:Tab t) (ht:t.length=a.length) (hp:∃ x ∈ t.flatten,0<x):Ev (fun k=>impl_TableForB.f k a b t (a.length:Int)) (tailR a b t):=by
 unfold impl_TableForB.f
 refine Ev.bind (ranks_ev a h1 h4 ha) (Ev.bind (ranks_ev b (by omega) (by omega) hb) ?_)
 have hnn:∀ x ∈ t,x.length≤100∧∀ y ∈ x,0≤y:=fun x hx=>⟨by have:=T.row x hx;omega,fun y hy=>((T.row x hx).2 y hy).1⟩
 have hg:=gcdL_pos t.flatten 0 (Or.inr hp)
 refine div_l0 _ t (by omega) hnn t.length 0 0 (by omega) ?_
 rw [List.drop_zero]
 refine Ev.bind (square_ev _ (quoG a b t (gcdL 0 t.flatten)) a.length (by omega) (fun i j hi hj => ?_)) ?_
 ·have la:=plcL_len a h1 h4
  have lb:=plcL_len b (by omega) (by omega)
  have ra:=plcL_rd a h1 h4 hi
  have rb:=plcL_rd b (by omega) (by omega) (show j<b.length by omega)
  unfold placeF quoG atG
  generalize rd (plcL a) (i:Int)=x at *
  generalize rd (plcL b) (j:Int)=y at *
  obtain ⟨x,rfl⟩:=Int.eq_ofNat_of_zero_le ra.1
  obtain ⟨y,rfl⟩:=Int.eq_ofNat_of_zero_le rb.1
  simp only [Int.toNat_natCast]
  have hrow:=tab_rowlen T (show x<t.length by omega)
  have bd:=atG_bd T (show x<t.length by omega) (show y<t.length by omega)
  have q:=tdiv_bd bd.1 bd.2 hg
  unfold atG at q
  rw [if_pos ⟨by omega,by omega,by omega,by omega,by omega,by omega,by omega,by rw [hrow];omega,by omega⟩,w64 (by omega) (by omega)]
 ·simp only [checkedG_eq a.length (by omega),zbd]
  exact Ev.now _
theorem fill2_ev {ρ:Type} {r:ρ} (n:Nat) (val S:Nat→Nat→Int) (g0:Nat→List (List Int)→Int→Option ρ) (g1:Nat→List (List Int)→Int→Int→Option ρ)
 (hend:Ev (fun k=>g0 k (tabG n val) (n:Int)) r)
 (h0:∀ i,i<n→∀ X:Nat→Nat→Int,Ev (fun k=>g1 k (tabG n X) (i:Int) 0) r→Ev (fun k=>g0 k (tabG n X) (i:Int)) r)
 (h1:∀ i j,i<n→j<n→∀ H:Nat→Nat→Int,H i j=S i j→Ev (fun k=>g1 k (tabG n (updG H i j (val i j))) (i:Int) ((j+1:Nat):Int)) r→Ev (fun k=>g1 k (tabG n H) (i:Int) (j:Int)) r)
 (h2:∀ i,i<n→∀ X:Nat→Nat→Int,Ev (fun k=>g0 k (tabG n X) ((i+1:Nat):Int)) r→Ev (fun k=>g1 k (tabG n X) (i:Int) (n:Int)) r) :
 Ev (fun k=>g0 k (tabG n S) 0) r:=by
 have row:∀ i,i<n→(Ev (fun k=>g0 k (tabG n fun a b=>if a<i+1 then val a b else S a b) ((i+1:Nat):Int)) r)→∀ (m j:Nat),j+m=n→Ev (fun k=>g1 k (tabG n fun a b=>if a<i∨(a=i∧b<j) then val a b else S a b) (i:Int) (j:Int)) r:=by
  intro i hi hr m
  induction m with
  | zero =>
   intro j hj
   have e:j=n:=by omega
   subst e;refine h2 i hi _ ?_
   rw [tabG_congr (G':=fun a b=>if a<i+1 then val a b else S a b) (fun a b _ hb=>by
    by_cases c:a<i+1
    ·rw [if_pos c,if_pos (by omega)]
    ·rw [if_neg c,if_neg (by omega)])]
   exact hr
  | succ m ih =>
   intro j hj
   refine h1 i j hi (by omega) _ (taac) ?_
   rw [tabG_congr (G':=fun a b=>if a<i∨(a=i∧b<j+1) then val a b else S a b) (fun a b _ hb=>by
    unfold updG
    by_cases c:a=i∧b=j
    ·rw [if_pos c,if_pos (by omega),c.1,c.2]
    ·rw [if_neg c]
     show (if a<i∨(a=i∧b<j) then val a b else S a b)=_
     by_cases d:a<i∨(a=i∧b<j)
     ·rw [if_pos d,if_pos (by omega)]
     ·rw [if_neg d,if_neg (by omega)])]
   exact ih (j+1) (by omega)
 have all:∀ (m i:Nat),i+m=n→Ev (fun k=>g0 k (tabG n fun a b=>if a<i then val a b else S a b) (i:Int)) r:=by
  intro m
  induction m with
  | zero =>
   intro i hi
   have e:i=n:=by omega
   subst e;rw [tabG_congr (G':=val) (fun a b ha _=>if_pos ha)]
   exact hend
  | succ m ih =>
   intro i hi
   refine h0 i (by omega) _ ?_
   have:=row i (by omega) (ih (i+1) (by omega)) n 0 (by omega)
   rw [tabG_congr (G':=fun a b=>if a<i then val a b else S a b) (fun a b _ _=>by
    by_cases c:a<i
    ·rw [if_pos c,if_pos (by omega)]
    ·rw [if_neg c,if_neg (by omega)])] at this
   exact this
 have:=all n 0 (by omega)
 rw [tabG_congr (G':=S) (fun a b _ _=>if_neg (by omega))] at this
 exact this
def gPre (n:Nat) (val:Nat→Nat→Int) (i j:Nat):Nat:=gcdL 0 (((List.range i).flatMap fun a=>(List.range n).map (val a)) ++ (List.range j).map (val i))
theorem gPre_cell (n:Nat) (val:Nat→Nat→Int) (i j:Nat):gPre n val i (j+1)=Nat.gcd (gPre n val i j) (val i j).toNat:=by
 unfold gPre gcdL
 rw [List.range_succ,List.map_append,← List.append_assoc,List.foldl_append]
 rfl
theorem gPre_row (n:Nat) (val:Nat→Nat→Int) (i:Nat):gPre n val i n=gPre n val (i+1) 0:=by
 unfold gPre
 rw [List.range_succ (n:=i),List.flatMap_append]
 simp
theorem gPre_end (n:Nat) (val:Nat→Nat→Int):gPre n val n 0=gcdL 0 (tabG n val).flatten:=by
 unfold gPre tabG
 rw [List.range_zero,zav,List.append_nil,List.flatMap_def]
def prmG (a b:List Int) (t:List (List Int)) (i j:Nat):Int:=atG t (rd (plcL a) (i:Int)).toNat (rd (plcL b) (j:Int)).toNat
theorem specTail_ev (a b:List Int) (t:List (List Int)) (h1:1≤a.length) (h4:a.length≤4) (hl:b.length=a.length) (T:Tab t) (ht:t.length=a.length) (hp:0<gcdL 0 (tabG a.length (prmG a b t)).flatten):Ev (fun k=>spec_TableForB.f k a b t (a.length:Int)) (checkR (tabG a.length fun i j=>Int.tdiv (prmG a b t i j) ((gcdL 0 (tabG a.length (prmG a b t)).flatten:Nat):Int))):=by
 unfold spec_TableForB.f
 refine Ev.bind (doPlaces_ev a h1 (by omega)) (Ev.bind (doPlaces_ev b (by omega) (by omega)) (Ev.bind (doEmpty_ev a.length (by omega)) ?_))
 have la:=plcL_len a h1 h4
 have lb:=plcL_len b (by omega) (by omega)
 have pb:∀ i j,i<a.length→j<a.length→0≤prmG a b t i j∧prmG a b t i j≤1000000:=fun i j hi hj=>by
  have ra:=plcL_rd a h1 h4 hi
  have rb:=plcL_rd b (by omega) (by omega) (show j<b.length by omega)
  exact atG_bd T (by omega) (by omega)
 simp only [tabG_length]
 have key:=fill_ev (r:=checkR (tabG a.length fun i j=>Int.tdiv (prmG a b t i j) ((gcdL 0 (tabG a.length (prmG a b t)).flatten:Nat):Int))) a.length (prmG a b t)
  (fun k X i=>spec_TableForB.l0 k t (plcL a) (plcL b) X ((gPre a.length (prmG a b t) i.toNat 0:Nat):Int) (a.length:Int) i)
  (fun k X i j=>spec_TableForB.l1 k t (plcL a) (plcL b) X ((gPre a.length (prmG a b t) i.toNat j.toNat:Nat):Int) i (a.length:Int) i (a.length:Int) j) ?_ ?_ ?_ ?_
 ·exact key
 ·refine Ev.succ ?_
  simp only [spec_TableForB.l0,if_neg (show ¬ (a.length:Int)<(a.length:Int) by omega),Int.toNat_natCast,gPre_end,tabG_length]
  have key2:=fill2_ev (r:=checkR (tabG a.length fun i j=>Int.tdiv (prmG a b t i j) ((gcdL 0 (tabG a.length (prmG a b t)).flatten:Nat):Int))) a.length (fun i j=>Int.tdiv (prmG a b t i j) ((gcdL 0 (tabG a.length (prmG a b t)).flatten:Nat):Int)) (prmG a b t)
   (fun k X i=>spec_TableForB.l2 k X ((gcdL 0 (tabG a.length (prmG a b t)).flatten:Nat):Int) (a.length:Int) i)
   (fun k X i j=>spec_TableForB.l3 k X ((gcdL 0 (tabG a.length (prmG a b t)).flatten:Nat):Int) i (a.length:Int) i (a.length:Int) j) ?_ ?_ ?_ ?_
  ·exact key2
  ·refine Ev.succ ?_
   simp only [spec_TableForB.l2,if_neg (show ¬ (a.length:Int)<(a.length:Int) by omega)]
   exact Ev.bind (doIfG_ev a.length (by omega) _) (Ev.now _)
  ·intro i hi X hr
   refine Ev.succ ?_
   simp only [spec_TableForB.l2,if_pos (show (i:Int)<(a.length:Int) by omega),tabG_length]
   exact hr
  ·intro i j hi hj H hH hr
   have bd:=pb i j hi hj
   have q:=tdiv_bd bd.1 bd.2 hp
   refine Ev.succ ?_
   simp only [spec_TableForB.l3,if_pos (show (j:Int)<(a.length:Int) by omega),if_pos (show (0:Int)≤(i:Int) by omega),if_pos (show (0:Int)≤(j:Int) by omega),tabG_length,tabG_rowlen _ hi,if_pos (show (i:Int)<(a.length:Int) by omega),if_neg (show ¬ ((gcdL 0 (tabG a.length (prmG a b t)).flatten:Nat):Int)=0 by omega),tabG_at H hi hj,hH,Int.toNat_natCast,w64 (x:=Int.tdiv (prmG a b t i j) ((gcdL 0 (tabG a.length (prmG a b t)).flatten:Nat):Int)) (by omega) (by omega),w64 (x:=(j:Int)+1) (by omega) (by omega)]
   rw [tabG_set H j _ hi]
   exact hr
  ·intro i hi X hr
   refine Ev.succ ?_
   simp only [spec_TableForB.l3,if_neg (show ¬ (a.length:Int)<(a.length:Int) by omega),w64 (x:=(i:Int)+1) (by omega) (by omega)]
   exact hr
 ·intro i hi X hr
  refine Ev.succ ?_
  simp only [spec_TableForB.l0,if_pos (show (i:Int)<(a.length:Int) by omega),tabG_length]
  exact hr
 ·intro i j hi hj H hH hr
  have bd:=pb i j hi hj
  have ra:=plcL_rd a h1 h4 hi
  have rb:=plcL_rd b (by omega) (by omega) (show j<b.length by omega)
  have hrow:=tab_rowlen T (show (rd (plcL a) (i:Int)).toNat<t.length by omega)
  rw [Int.toNat_of_nonneg ra.1] at hrow
  have hv:rd (rd_L2 t (rd (plcL a) (i:Int))) (rd (plcL b) (j:Int))=prmG a b t i j:=by
   unfold prmG atG
   rw [Int.toNat_of_nonneg ra.1,Int.toNat_of_nonneg rb.1]
  refine Ev.succ ?_
  simp only [spec_TableForB.l1,if_pos (show (j:Int)<(a.length:Int) by omega),if_pos (show (0:Int)≤(i:Int) by omega),if_pos (show (0:Int)≤(j:Int) by omega),tabG_length,tabG_rowlen _ hi,if_pos (show (i:Int)<(a.length:Int) by omega),if_pos (show (i:Int)<((plcL a).length:Int) by omega),if_pos (show (j:Int)<((plcL b).length:Int) by omega),if_pos ra.1,if_pos rb.1,if_pos (show rd (plcL a) (i:Int)<(t.length:Int) by omega),if_pos (show rd (plcL b) (j:Int)<((rd_L2 t (rd (plcL a) (i:Int))).length:Int) by omega),hv,Int.toNat_natCast,zbd,tabG_set H j _ hi]
  simp only [tabG_rowlen _ hi,if_pos (show (j:Int)<(a.length:Int) by omega),tabG_at _ hi hj,w64 (x:=(j:Int)+1) (by omega) (by omega)]
  have hu:updG H i j (prmG a b t i j) i j=prmG a b t i j:=if_pos ⟨rfl,rfl⟩
  rw [hu]
  have hd:=doGcd_ev (prmG a b t i j).toNat (gPre a.length (prmG a b t) i j)
  rw [Int.toNat_of_nonneg bd.1,← gPre_cell] at hd
  exact Ev.bind hd hr
 ·intro i hi X hr
  refine Ev.succ ?_
  simp only [spec_TableForB.l1,if_neg (show ¬ (a.length:Int)<(a.length:Int) by omega),w64 (x:=(i:Int)+1) (by omega) (by omega),Int.toNat_natCast,gPre_row]
  exact hr
theorem flat_perm {f f':Int→List Int} (h:∀ x,(f x).Perm (f' x)):∀ L:List Int,(L.map f).flatten.Perm (L.map f').flatten
 | []=>List.Perm.refl _
 | a :: L=>by
  rw [zau,zau,List.flatten_cons,List.flatten_cons]
  exact (h a).append (flat_perm h L)
theorem self_rd (l:List Int):(List.range l.length).map (fun (i:Nat)=>rd l (i:Int))=l:=by
 apply List.ext_getElem
 ·simp
 ·intro i h1 h2
  rw [List.getElem_map,List.getElem_range]
  unfold rd
  simp [List.getD_eq_getElem?_getD,List.getElem?_eq_getElem h2]
theorem flat_perm2:∀ {L L':List (List Int)},L.Perm L'→L.flatten.Perm L'.flatten:=by
 intro L L' h
 induction h with
 | nil=>exact List.Perm.refl _
 | cons a _ ih=>exact List.Perm.append_left a ih
 | swap a b l =>
  simp only [List.flatten_cons]
  rw [← List.append_assoc,← List.append_assoc]
  exact (List.perm_append_comm).append_right _
 | trans _ _ ih1 ih2=>exact ih1.trans ih2
theorem prm_perm (a b:List Int) (t:List (List Int)) (h1:1≤a.length) (h4:a.length≤4) (hl:b.length=a.length) (T:Tab t) (ht:t.length=a.length):(tabG a.length (prmG a b t)).flatten.Perm t.flatten:=by
 have la:=plcL_len a h1 h4
 have lb:=plcL_len b (by omega) (by omega)
 have e1:tabG a.length (prmG a b t)=(plcL a).map fun x=>(plcL b).map fun y=>atG t x.toNat y.toNat:=by
  conv=>rhs;rw [← self_rd (plcL a),← self_rd (plcL b)]
  unfold tabG prmG
  rw [List.map_map,la,lb,hl]
  apply List.map_congr_left
  intro i _
  simp only [Function.comp_apply,List.map_map]
  rfl
 have e2:t=(idxL a.length).map fun x=>(idxL a.length).map fun y=>atG t x.toNat y.toNat:=by
  have hs:=tabG_self (l:=t) (fun x hx=>(T.row x hx).1)
  conv=>lhs;rw [← hs]
  unfold tabG idxL
  rw [ht,List.map_map]
  apply List.map_congr_left
  intro i _
  simp only [Function.comp_apply,List.map_map]
  rfl
 rw [e1]
 conv=>rhs;rw [e2]
 have p1:=plcL_perm a h1 h4
 have p2:=plcL_perm b (by omega) (by omega)
 rw [hl] at p2
 exact (flat_perm2 (p1.map _)).trans (flat_perm (fun x=>p2.map _) _)
theorem tail_eq (a b:List Int) (t:List (List Int)) (h1:1≤a.length) (h4:a.length≤4) (hl:b.length=a.length) (T:Tab t) (ht:t.length=a.length) (hp:∃ x ∈ t.flatten,0<x):Ev (fun k=>spec_TableForB.f k a b t (a.length:Int)) (tailR a b t):=by
 have hg:=gcdL_perm (prm_perm a b t h1 h4 hl T ht) 0
 have h0:=gcdL_pos t.flatten 0 (Or.inr hp)
 have h:=specTail_ev a b t h1 h4 hl T ht (by rw [hg];exact h0)
 rw [hg] at h
 exact h
theorem sN_self (l:List Int):sN l.length (fun i=>rd l (i:Int))=l.sum:=by
 unfold sN
 rw [self_rd]
theorem sN_map (l:List Int) (f:Int→Int):sN l.length (fun i=>f (rd l (i:Int)))=(l.map f).sum:=by
 unfold sN
 conv=>rhs;rw [← self_rd l]
 rw [List.map_map]
 rfl
theorem carried_maj {n:Nat} {G:Nat→Nat→Int} {s:Int} {a b:List Int} (ha:a.length=n) (hb:b.length=n) (hs:0<s) (hE:EqT n G s) (hp:∀ i j,i<n→j<n→0≤G i j) (hc:∀ i,i<n→s*rd a (i:Int)=sN n (fun j=>G i j*rd b (j:Int))):majB a b=true:=by
 refine (maj_ex a b).2 ⟨by omega,?_,fun t => ?_⟩
 ·have h1:s*a.sum=s*b.sum:=by
   rw [← sN_self a,← sN_self b,ha,hb,← sN_mul,← sN_mul,sN_congr hc,sN_comm]
   refine sN_congr fun j hj => ?_
   rw [sN_congr (fun i _=>Int.mul_comm (G i j) (rd b (j:Int))),sN_mul,(hE j hj).2,Int.mul_comm]
  exact Int.eq_of_mul_eq_mul_left (by omega) h1
 ·have e1:ex a t=sN n (fun i=>max (rd a (i:Int) - t) 0):=by
   rw [← ha]
   exact (sN_map a (fun x=>max (x - t) 0)).symm
  have e2:ex b t=sN n (fun i=>max (rd b (i:Int) - t) 0):=by
   rw [← hb]
   exact (sN_map b (fun x=>max (x - t) 0)).symm
  have h1:s*ex a t≤s*ex b t:=by
   rw [e1,e2,← sN_mul,← sN_mul]
   have h2:sN n (fun j=>s*max (rd b (j:Int) - t) 0)=sN n (fun i=>sN n (fun j=>G i j*max (rd b (j:Int) - t) 0)):=by
    rw [sN_comm]
    refine sN_congr fun j hj => ?_
    rw [sN_congr (fun i _=>Int.mul_comm (G i j) _),sN_mul,(hE j hj).2,Int.mul_comm]
   rw [h2]
   refine sN_le fun i hi => ?_
   have h0:0≤sN n (fun j=>G i j*max (rd b (j:Int) - t) 0):=by
    have:=sN_le (n:=n) (f:=fun _=>0) (g:=fun j=>G i j*max (rd b (j:Int) - t) 0) (fun j hj=>Int.mul_nonneg (hp i j hi hj) (by omega))
    rw [sN_none] at this
    exact this
   by_cases c:rd a (i:Int)≤t
   ·rw [show max (rd a (i:Int) - t) 0=0 by omega,Int.mul_zero]
    exact h0
   ·rw [show max (rd a (i:Int) - t) 0=rd a (i:Int) - t by omega,Int.mul_sub,hc i hi]
    have h3:s*t=sN n (fun j=>G i j*t):=by
     rw [sN_congr (fun j _=>Int.mul_comm (G i j) t),sN_mul,(hE i hi).1,Int.mul_comm]
    rw [h3]
    have h4:sN n (fun j=>G i j*rd b (j:Int))=sN n (fun j=>G i j*(rd b (j:Int) - t))+sN n (fun j=>G i j*t):=by
     rw [← sN_add]
     refine sN_congr fun j _ => ?_
     rw [Int.mul_sub]
     omega
    have h5:sN n (fun j=>G i j*(rd b (j:Int) - t))≤sN n (fun j=>G i j*max (rd b (j:Int) - t) 0):=sN_le fun j hj=>Int.mul_le_mul_of_nonneg_left (by omega) (hp i j hi hj)
    omega
  exact Int.le_of_mul_le_mul_left h1 hs
theorem carL_ok (b:List Int) (s:Int) (m:Nat):∀ (t:List (List Int)) (acc r:List Int),carL b s m acc t=(r,true)→r=acc ++ t.map (fun x=>Int.tdiv (dotP x b m) s)∧∀ x ∈ t,Int.tmod (dotP x b m) s=0
 | [],acc,r,h=>by
  unfold carL at h
  obtain rfl:acc=r:=by simpa using h
  simp
 | x :: t,acc,r,h=>by
  unfold carL at h
  by_cases c:Int.tmod (dotP x b m) s=0
  ·rw [if_pos c] at h
   obtain ⟨e,hr⟩:=carL_ok b s m t _ r h
   refine ⟨by rw [e,zau,List.append_assoc];rfl,fun y hy => ?_⟩
   rcases List.mem_cons.1 hy with rfl | hy
   ·exact c
   ·exact hr y hy
  ·rw [if_neg c] at h
   simp at h
theorem carL_of (b:List Int) (s:Int) (m:Nat):∀ (t:List (List Int)) (acc:List Int),(∀ x ∈ t,Int.tmod (dotP x b m) s=0)→carL b s m acc t=(acc ++ t.map (fun x=>Int.tdiv (dotP x b m) s),true)
 | [],acc,_=>by simp [carL]
 | x :: t,acc,h=>by
  unfold carL
  rw [if_pos (h x (List.mem_cons_self ..)),carL_of b s m t _ (fun y hy=>h y (List.mem_cons_of_mem _ hy)),zau,List.append_assoc]
  rfl
theorem dotP_sN (x b:List Int) (m:Nat):dotP x b m=sN m (fun j=>rd x (j:Int)*rd b (j:Int)):=rfl
theorem atG_get {t:List (List Int)} {i:Nat} (hi:i<t.length) (j:Nat):atG t i j=rd t[i] (j:Int):=by
 unfold atG
 rw [rd_L1n hi]
theorem carR_maj {t:List (List Int)} {b a:List Int} (h:carR t b=(a,true)):goodL b=true∧goodL a=true∧majB a b=true:=by
 unfold carR at h
 split at h
 ·next hq =>
  split at h
  ·next hg =>
   split at h
   ·next hl =>
    split at h
    ·next hk =>
     split at h
     ·simp at h
     ·next hz =>
      obtain ⟨hT,h1⟩:=square_tab hq
      have hse:=tab_self hq;have h0:=sum0_nn hT h1
      have hE:EqT t.length (atG t) (sum0 t):=by
       refine (tabG_all (atG t) (sum0 t)).1 ?_
       rw [hse]
       exact hk
      obtain ⟨e,hm⟩:=carL_ok b (sum0 t) t.length t [] a h
      rw [List.nil_append] at e
      have hgb:=(goodL_iff b).1 hg
      have hla:a.length=t.length:=by rw [e,List.length_map]
      have hat:∀ i (hi:i<t.length),rd a (i:Int)=Int.tdiv (dotP t[i] b t.length) (sum0 t):=fun i hi=>by
       rw [rdn (by omega)]
       simp only [e,List.getElem_map]
      have hc:∀ i,i<t.length→sum0 t*rd a (i:Int)=sN t.length (fun j=>atG t i j*rd b (j:Int)):=fun i hi=>by
       have h2:=hm _ (List.getElem_mem hi)
       have h3:=Int.mul_tdiv_add_tmod (dotP t[i] b t.length) (sum0 t)
       rw [hat i hi]
       rw [h2,Int.add_zero] at h3
       rw [h3,dotP_sN]
       exact sN_congr fun j _=>by rw [atG_get hi]
      have hp:∀ i j,i<t.length→j<t.length→0≤atG t i j:=fun i j hi hj=>(atG_bd hT hi hj).1
      refine ⟨hg,(goodL_iff a).2 ⟨by omega,by have:=hT.len;omega,fun x hx => ?_⟩,carried_maj hla hl.symm (by omega) hE hp hc⟩
      obtain ⟨i,hi,rfl⟩:=List.getElem_of_mem hx
      have hi':i<t.length:=by omega
      have h5:=hc i hi'
      rw [rdn hi] at h5
      have hb:∀ j,j<t.length→0≤rd b (j:Int)∧rd b (j:Int)≤60:=fun j hj=>by
       rw [rdn (show j<b.length by omega)]
       exact hgb.2.2 _ (List.getElem_mem _)
      have h6:0≤sum0 t*a[i]:=by
       rw [h5]
       have:=sN_le (n:=t.length) (f:=fun _=>0) (g:=fun j=>atG t i j*rd b (j:Int)) (fun j hj=>Int.mul_nonneg (hp i j hi' hj) (hb j hj).1)
       rw [sN_none] at this
       exact this
      have h7:sum0 t*a[i]≤sum0 t*60:=by
       rw [h5]
       have:=sN_le (n:=t.length) (f:=fun j=>atG t i j*rd b (j:Int)) (g:=fun j=>60*atG t i j) (fun j hj=>by
        rw [Int.mul_comm 60]
        exact Int.mul_le_mul_of_nonneg_left (hb j hj).2 (hp i j hi' hj))
       rw [sN_mul,(hE i hi').1] at this
       omega
      have hs:0<sum0 t:=by omega
      refine ⟨?_,Int.le_of_mul_le_mul_left h7 hs⟩
      refine Int.le_of_mul_le_mul_left (a:=sum0 t) ?_ hs
      omega
    ·simp at h
   ·simp at h
  ·simp at h
 ·simp at h
theorem carR_of {n:Nat} {G:Nat→Nat→Int} {s:Int} {a b:List Int} (h1:1≤n) (h6:n≤6) (hG:∀ i j,i<n→j<n→0≤G i j∧G i j≤1000000) (ha:a.length=n) (hb:b.length=n) (hg:goodL b=true) (hs:0<s) (hE:EqT n G s) (hc:∀ i,i<n→s*rd a (i:Int)=sN n (fun j=>G i j*rd b (j:Int))):carR (tabG n G) b=(a,true):=by
 have hq:=squareG h1 h6 hG
 have hl:=tabG_length n G
 have h0:sum0 (tabG n G)=s:=by
  have:=tabG_row_sum G (show 0<n by omega)
  rw [(hE 0 (by omega)).1] at this
  exact this
 have hk:(List.range' 0 (tabG n G).length).all (okI (tabG n G) (sum0 (tabG n G)))=true:=by
  rw [h0,hl]
  exact (tabG_all G s).2 hE
 unfold carR
 rw [if_pos hq,if_pos hg,if_pos (by omega),if_pos hk,if_neg (by omega),h0,hl]
 have hd:∀ i,i<n→dotP (rd_L2 (tabG n G) (i:Int)) b n=s*rd a (i:Int):=fun i hi=>by
  rw [hc i hi,dotP_sN]
  exact sN_congr fun j hj=>by rw [tabG_at G hi hj]
 rw [carL_of b s n (tabG n G) [] (fun x hx=>by
  obtain ⟨i,hi,rfl⟩:=List.getElem_of_mem hx
  have:=hd i (by omega)
  rw [rd_L1n hi] at this
  rw [this,Int.mul_tmod_right])]
 rw [List.nil_append]
 congr 1
 apply List.ext_getElem
 ·rw [List.length_map]
  omega
 ·intro i hi1 hi2
  rw [List.getElem_map]
  have hi:i<(tabG n G).length:=by simpa using hi1
  have:=hd i (by omega)
  rw [rd_L1n hi] at this
  rw [this,Int.mul_tdiv_cancel_left _ (by omega),rdn hi2]
structure Nt (x y:List Int) (i j:Nat):Prop where
 lt:i<j
 hj:j<x.length
 xi:rd y (i:Int)<rd x (i:Int)
 xj:rd x (j:Int)<rd y (j:Int)
 aft:∀ k,i<k→k<x.length→rd x (k:Int)≤rd y (k:Int)
 bef:∀ k,i<k→k<j→rd x (k:Int)=rd y (k:Int)
theorem nt_exists {x y:List Int} (hd:Dom x y) (hne:x≠y):∃ i j,Nt x y i j:=by
 obtain ⟨hl,hs,hp⟩:=hd
 have h0:∃ k,k<x.length∧rd y (k:Int)<rd x (k:Int):=by
  apply Classical.byContradiction
  intro hc
  have hle:∀ k:Nat,k<x.length→rd x (k:Int)≤rd y (k:Int):=fun k hk=>by
   by_cases c:rd y (k:Int)<rd x (k:Int)
   ·exact absurd ⟨k,hk,c⟩ hc
   ·omega
  by_cases c:∃ k:Nat,k<x.length∧rd x (k:Int)<rd y (k:Int)
  ·have:=pre_lt hl x.length (zcf _) hle c
   have:=hp x.length
   omega
  ·exact hne (ext_rd hl fun k hk=>by
    have:=hle k hk
    by_cases c2:rd x (k:Int)<rd y (k:Int)
    ·exact absurd ⟨k,hk,c2⟩ c
    ·omega)
 obtain ⟨i,hi,hxi,hlast⟩:=last_lt (fun k=>rd y (k:Int)<rd x (k:Int)) x.length h0
 have haft:∀ k,i<k→k<x.length→rd x (k:Int)≤rd y (k:Int):=fun k h1 h2=>by have:=hlast k h1 h2;omega
 have h1:∃ k,k<x.length∧(i<k∧rd x (k:Int)<rd y (k:Int)):=by
  apply Classical.byContradiction
  intro hc
  have heq:∀ k,i<k→k<x.length→rd x (k:Int)=rd y (k:Int):=fun k a b=>by
   have:=haft k a b
   by_cases c:rd x (k:Int)<rd y (k:Int)
   ·exact absurd ⟨k,b,a,c⟩ hc
   ·omega
  have hpre:∀ m,i<m→m≤x.length→pre y m<pre x m:=fun m=>by
   induction m with
   | zero=>intro h;omega
   | succ m ih =>
    intro a b
    rw [pre_succ (by omega),pre_succ (by omega)]
    rcases Nat.lt_or_ge i m with hlt | hge
    ·have:=ih hlt (by omega)
     have:=heq m hlt (by omega)
     omega
    ·obtain rfl:m=i:=by omega
     have:=hp m
     omega
  have:=hpre x.length hi (zcf _)
  rw [pre_all (by omega),pre_all (zcf _)] at this
  omega
 obtain ⟨j,hj,⟨hij,hxj⟩,hfirst⟩:=least_lt (fun k=>i<k∧rd x (k:Int)<rd y (k:Int)) x.length h1
 refine ⟨i,j,hij,hj,hxi,hxj,haft,fun k a b => ?_⟩
 have:=haft k a (by omega)
 have:=hfirst k b
 omega
def ntA (x y:List Int) (i j:Nat):Int:=min (rd x (i:Int) - rd y (i:Int)) (rd y (j:Int) - rd x (j:Int))
theorem ntA_le {x y:List Int} {i j:Nat} (g:Nt x y i j):1≤ntA x y i j∧ntA x y i j≤rd x (i:Int) - rd y (i:Int)∧ntA x y i j≤rd y (j:Int) - rd x (j:Int):=by
 have:=g.xi
 have:=g.xj
 unfold ntA
 omega
theorem nt_dom {x y:List Int} {i j:Nat} (hd:Dom x y) (g:Nt x y i j):Dom (giveL x (i:Int) (j:Int) (ntA x y i j)) y:=by
 obtain ⟨hl,hs,hp⟩:=hd
 have h1:=g.lt
 have h2:=g.hj
 have hA:=ntA_le g;generalize ntA x y i j=a at *
 have key:∀ m:Nat,i<m→m≤j→pre y m+a≤pre x m:=fun m=>by
  induction m with
  | zero=>intro h;omega
  | succ m ih =>
   intro u v
   rw [pre_succ (by omega),pre_succ (by omega)]
   rcases Nat.lt_or_ge i m with hlt | hge
   ·have:=ih hlt (by omega)
    have:=g.bef m hlt (by omega)
    omega
   ·obtain rfl:m=i:=by omega
    have:=hp m
    omega
 refine ⟨by rw [giveL_length];exact hl,by rw [giveL_sum x i j a (by omega) h2 (by omega)];exact hs,fun m => ?_⟩
 rcases Nat.lt_or_ge x.length m with hm | hm
 ·rw [pre_all (by omega),pre_all (by rw [giveL_length];omega),giveL_sum x i j a (by omega) h2 (by omega)]
  omega
 ·rw [giveL_pre x i j a (by omega) h2 (by omega) m hm]
  have:=hp m
  by_cases c1:i<m
  ·by_cases c2:j<m
   ·rw [if_pos c1,if_pos c2];omega
   ·rw [if_pos c1,if_neg c2]
    have:=key m c1 (by omega)
    omega
  ·rw [if_neg c1,if_neg (by omega)];omega
theorem nt_bd {x y:List Int} {i j:Nat} (hl:x.length=y.length) (g:Nt x y i j) (hx:∀ k:Nat,k<x.length→0≤rd x (k:Int)∧rd x (k:Int)≤60) (hy:∀ k:Nat,k<x.length→0≤rd y (k:Int)∧rd y (k:Int)≤60):∀ k:Nat,k<x.length→0≤rd (giveL x (i:Int) (j:Int) (ntA x y i j)) (k:Int)∧rd (giveL x (i:Int) (j:Int) (ntA x y i j)) (k:Int)≤60:=fun k hk=>by
 have h1:=g.lt
 have h2:=g.hj
 have hA:=ntA_le g;rw [giveL_rd x i j _ (by omega) h2 (by omega)]
 have a1:=hx i (by omega)
 have a2:=hx j h2
 have a3:=hy i (by omega)
 have a4:=hy j h2
 have a5:=hx k hk
 split
 ·omega
 ·split
  ·omega
  ·exact a5
theorem nt_gap {x y:List Int} {i j:Nat} (hl:x.length=y.length) (hy:Desc y) (g:Nt x y i j):2*ntA x y i j≤rd x (i:Int) - rd x (j:Int):=by
 have h1:=g.lt
 have h2:=g.hj
 have hA:=ntA_le g;have:=desc_rd hy (a:=i) (b:=j) (by omega) (by omega)
 omega
def unl (x y:List Int):Nat:=(List.range x.length).countP fun (k:Nat)=>decide (rd x (k:Int)≠rd y (k:Int))
theorem cnt_lt {p q:Nat→Bool} (h:∀ k,q k=true→p k=true):∀ (l:List Nat),(∃ k ∈ l,p k=true∧q k=false)→l.countP q<l.countP p
 | [],⟨k,hk,_⟩=>by simp at hk
 | a :: l,⟨k,hk,h1,h2⟩=>by
  rw [List.countP_cons,List.countP_cons]
  have hle:l.countP q≤l.countP p:=List.countP_mono_left fun x _=>h x
  rcases List.mem_cons.1 hk with rfl | hk
  ·rw [h1,h2]
   simp
   omega
  ·have ih:=cnt_lt h l ⟨k,hk,h1,h2⟩
   by_cases c:q a=true
   ·rw [if_pos c,if_pos (h a c)]
    omega
   ·rw [if_neg c]
    omega
theorem cnt_two {p:Nat→Bool} {n i j:Nat} (hij:i<j) (hj:j<n) (h1:p i=true) (h2:p j=true):2≤(List.range n).countP p:=by
 have a1:=cnt_lt (p:=fun k=>decide (k=i)) (q:=fun _=>false) (fun k h=>by cases h) (List.range n) ⟨i,List.mem_range.2 (by omega),zba rfl,rfl⟩
 have a2:=cnt_lt (p:=p) (q:=fun k=>decide (k=i)) (fun k h=>by rw [zas h];exact h1) (List.range n) ⟨j,List.mem_range.2 hj,h2,zbj (by omega)⟩
 omega
theorem nt_unl2 {x y:List Int} {i j:Nat} (g:Nt x y i j):2≤unl x y:=by
 have:=g.xi
 have:=g.xj
 exact cnt_two g.lt g.hj (zba (by omega)) (zba (by omega))
theorem nt_unl {x y:List Int} {i j:Nat} (g:Nt x y i j):unl (giveL x (i:Int) (j:Int) (ntA x y i j)) y<unl x y:=by
 have h1:=g.lt
 have h2:=g.hj
 have h3:=g.xi
 have h4:=g.xj
 have hA:=ntA_le g;have hr:=giveL_rd x i j (ntA x y i j) (by omega) h2 (by omega)
 unfold unl
 rw [giveL_length]
 refine cnt_lt (fun k hk => ?_) _ ?_
 ·have hk:=zas hk
  rw [hr] at hk
  apply zba
  split at hk
  next c=>subst c;omega
  next c =>
   split at hk
   next d=>subst d;omega
   next d=>exact hk
 ·have hm:ntA x y i j=rd x (i:Int) - rd y (i:Int)∨ntA x y i j=rd y (j:Int) - rd x (j:Int):=by
   unfold ntA
   omega
  rcases hm with hm | hm
  ·refine ⟨i,List.mem_range.2 (by omega),zba (by omega),zbj ?_⟩
   rw [hr,if_neg (by omega),if_pos rfl]
   omega
  ·refine ⟨j,List.mem_range.2 h2,zba (by omega),zbj ?_⟩
   rw [hr,if_pos rfl]
   omega
theorem dot_gift (t:List (List Int)) (n i j:Nat) (s d:Int) (hij:i<j) (a b:Nat) (ha:a<n):∀ K:Nat,K≤n→dotN (tabG n (gtG i j s d)) t a b K=(if a<K then gtG i j s d a a*atG t a b else 0)+(if a=i∧j<K then d*atG t j b else 0)+(if a=j∧i<K then d*atG t i b else 0)
 | 0,_=>by simp [dotN]
 | K+1,hK=>by
  show dotN (tabG n (gtG i j s d)) t a b K+atG (tabG n (gtG i j s d)) a K*atG t K b=_
  rw [dot_gift t n i j s d hij a b ha K (by omega),atG_tab _ ha (by omega)]
  by_cases c:a=K
  ·subst c
   rw [if_neg (Nat.lt_irrefl _),if_pos (Nat.lt_succ_self _)]
   by_cases c1:a=i
   ·rw [if_neg (show ¬ (a=i∧j<a) by omega),if_neg (show ¬ (a=j∧i<a) by omega),if_neg (show ¬ (a=i∧j<a+1) by omega),if_neg (show ¬ (a=j∧i<a+1) by omega)]
    omega
   ·by_cases c2:a=j
    ·rw [if_neg (show ¬ (a=i∧j<a) by omega),if_pos (show (a=j∧i<a) by omega),if_neg (show ¬ (a=i∧j<a+1) by omega),if_pos (show (a=j∧i<a+1) by omega)]
     omega
    ·rw [if_neg (show ¬ (a=i∧j<a) by omega),if_neg (show ¬ (a=j∧i<a) by omega),if_neg (show ¬ (a=i∧j<a+1) by omega),if_neg (show ¬ (a=j∧i<a+1) by omega)]
     omega
  ·have e1:(if a<K+1 then gtG i j s d a a*atG t a b else 0)=if a<K then gtG i j s d a a*atG t a b else 0:=by
    by_cases c1:a<K
    ·rw [if_pos c1,if_pos (by omega)]
    ·rw [if_neg c1,if_neg (by omega)]
   rw [e1]
   by_cases c1:a=i∧K=j
   ·have e2:gtG i j s d a K=d:=by
     unfold gtG
     rw [if_neg c,if_pos c1.1,if_pos c1.2]
    rw [e2,if_neg (show ¬ (a=i∧j<K) by omega),if_pos (show (a=i∧j<K+1) by omega),if_neg (show ¬ (a=j∧i<K) by omega),if_neg (show ¬ (a=j∧i<K+1) by omega),c1.2]
    omega
   ·by_cases c2:a=j∧K=i
    ·have e2:gtG i j s d a K=d:=by
      unfold gtG
      rw [if_neg c,if_neg (show ¬ a=i by omega),if_pos c2.1,if_pos c2.2]
     rw [e2,if_neg (show ¬ (a=j∧i<K) by omega),if_pos (show (a=j∧i<K+1) by omega),if_neg (show ¬ (a=i∧j<K) by omega),if_neg (show ¬ (a=i∧j<K+1) by omega),c2.2]
     omega
    ·have e2:gtG i j s d a K=0:=by
      unfold gtG
      rw [if_neg c]
      by_cases u:a=i
      ·rw [if_pos u,if_neg (by omega)]
      ·rw [if_neg u]
       by_cases v:a=j
       ·rw [if_pos v,if_neg (by omega)]
       ·rw [if_neg v]
     have e3:(if a=i∧j<K+1 then d*atG t j b else 0)=if a=i∧j<K then d*atG t j b else 0:=by
      by_cases u:a=i∧j<K
      ·rw [if_pos u,if_pos (by omega)]
      ·rw [if_neg u,if_neg (by omega)]
     have e4:(if a=j∧i<K+1 then d*atG t i b else 0)=if a=j∧i<K then d*atG t i b else 0:=by
      by_cases u:a=j∧i<K
      ·rw [if_pos u,if_pos (by omega)]
      ·rw [if_neg u,if_neg (by omega)]
     rw [e2,e3,e4,Int.zero_mul,Int.add_zero]
structure Kt (n c:Nat) (t:List (List Int)):Prop where
 len:t.length=n
 row:∀ x ∈ t,x.length=n
 bd:∀ a b,a<n→b<n→0≤atG t a b∧atG t a b≤(60 ^ c:Nat)
 pos:∀ a,a<n→∃ b,b<n∧0<atG t a b
theorem kt_tab {n c:Nat} {t:List (List Int)} (hn:n≤4) (hc:c≤3) (h:Kt n c t):Tab t:=by
 refine ⟨by rw [h.len];omega,fun x hx=>⟨by rw [h.row x hx,h.len],fun y hy => ?_⟩⟩
 obtain ⟨a,ha,rfl⟩:=List.getElem_of_mem hx
 obtain ⟨b,hb,rfl⟩:=List.getElem_of_mem hy
 have hr:=h.row _ hx
 have hl:=h.len
 have:=h.bd a b (by omega) (by omega)
 have e:atG t a b=t[a][b]:=by
  unfold atG
  rw [rd_L1n ha,rdn hb]
 rw [e] at this
 have:(60 ^ c:Nat)≤60 ^ 3:=Nat.pow_le_pow_right (by omega) hc
 omega
theorem kt_step {n c i j:Nat} {s d:Int} {t:List (List Int)} (h:Kt n c t) (hij:i<j) (hj:j<n) (hd:1≤d) (hs:2*d≤s) (h60:s≤60):Kt n (c+1) (timesT (tabG n (gtG i j s d)) t):=by
 have hat:∀ a b,a<n→b<n→atG (timesT (tabG n (gtG i j s d)) t) a b=gtG i j s d a a*atG t a b+(if a=i then d*atG t j b else 0)+(if a=j then d*atG t i b else 0):=fun a b ha hb=>by
  unfold timesT
  rw [tabG_length,atG_tab _ ha hb,dot_gift t n i j s d hij a b ha n (zcf _),if_pos ha]
  congr 1
  ·congr 1
   by_cases u:a=i
   ·rw [if_pos u,if_pos ⟨u,hj⟩]
   ·rw [if_neg u,if_neg (fun x=>u x.1)]
  ·by_cases u:a=j
   ·rw [if_pos u,if_pos ⟨u,by omega⟩]
   ·rw [if_neg u,if_neg (fun x=>u x.1)]
 have hgt:∀ a,1≤gtG i j s d a a∧gtG i j s d a a+(if a=i then d else 0)+(if a=j then d else 0)≤60∧0≤gtG i j s d a a:=fun a=>by
  unfold gtG
  rw [if_pos rfl]
  by_cases u:a=i
  ·rw [if_pos u,if_pos u,if_neg (by omega)]
   omega
  ·rw [if_neg u,if_neg u]
   by_cases v:a=j
   ·rw [if_pos v,if_pos v]
    omega
   ·rw [if_neg v,if_neg v]
    omega
 refine ⟨by unfold timesT;rw [tabG_length,tabG_length],fun x hx => ?_,fun a b ha hb => ?_,fun a ha => ?_⟩
 ·unfold timesT at hx
  rw [tabG_length] at hx
  unfold tabG at hx
  obtain ⟨q,_,rfl⟩:=List.mem_map.1 hx
  simp
 ·rw [hat a b ha hb]
  have g:=hgt a;have b0:=h.bd a b ha hb
  have b1:=h.bd i b (by omega) hb
  have b2:=h.bd j b (by omega) hb
  rw [Nat.pow_succ,Int.natCast_mul]
  generalize ((60 ^ c:Nat):Int)=M at *
  have m1:=Int.mul_le_mul_of_nonneg_left b0.2 g.2.2
  have m2:=Int.mul_le_mul_of_nonneg_left b1.2 (show 0≤d by omega)
  have m3:=Int.mul_le_mul_of_nonneg_left b2.2 (show 0≤d by omega)
  have n1:=Int.mul_nonneg g.2.2 b0.1
  have n2:=Int.mul_nonneg (show 0≤d by omega) b1.1
  have n3:=Int.mul_nonneg (show 0≤d by omega) b2.1
  have key:=Int.mul_le_mul_of_nonneg_right g.2.1 (show 0≤M by omega)
  rw [Int.add_mul,Int.add_mul] at key
  by_cases u:a=i
  ·rw [if_pos u,if_neg (show ¬ a=j by omega)]
   rw [if_pos u,if_neg (show ¬ a=j by omega),Int.zero_mul] at key
   omega
  ·by_cases v:a=j
   ·rw [if_neg u,if_pos v]
    rw [if_neg u,if_pos v,Int.zero_mul] at key
    omega
   ·rw [if_neg u,if_neg v]
    rw [if_neg u,if_neg v,Int.zero_mul] at key
    omega
 ·obtain ⟨b,hb,hp⟩:=h.pos a ha
  refine ⟨b,hb,?_⟩
  rw [hat a b ha hb]
  have g:=hgt a;have p1:=Int.mul_pos (show 0<gtG i j s d a a by omega) hp
  have n2:=Int.mul_nonneg (show 0≤d by omega) (h.bd i b (by omega) hb).1
  have n3:=Int.mul_nonneg (show 0≤d by omega) (h.bd j b (by omega) hb).1
  split <;> split <;> omega
theorem given_eq (l:List Int) (f t a:Int) (hx:l.length≤1048576) (h1:0≤f∧f<l.length) (h2:0≤t∧t<l.length) (h3:f≠t):impl_given.f l f t a=some ((l.set f.toNat (wrap64 (rd l f - a))).set t.toNat (wrap64 (rd l t+a))):=by
 unfold impl_given.f slices_Clone_int_int.f
 simp only [if_pos (show l.length≤17592186044416 by omega),zbd,if_pos h1.1,if_pos h1.2,if_pos h2.1,if_pos h2.2,rd_set_ne _ h1.1 h2.1 h3]
theorem istep_l1 {x y:List Int} {i j:Nat} (TB:Nat→List (List Int)→Option (List (List Int) × Bool)) (n:Int) (t:List (List Int)) (hl:x.length=y.length) (hn:x.length≤12) (g:Nt x y i j) {r:List (List Int) × Bool} (hr:Ev (fun K=>impl_TableFor.l2 TB K n x y t (i:Int) ((i:Int)+1)) r):∀ (d k:Nat),i+d=k→k<x.length→Ev (fun K=>impl_TableFor.l1 TB K n x y t (k:Int)) r
 | 0,k,h,hk=>by
  have h1:=g.lt
  have h2:=g.hj
  have h3:=g.xi
  obtain rfl:i=k:=by omega
  refine Ev.succ ?_
  simp only [impl_TableFor.l1,if_pos (show (0:Int)≤(i:Int) by omega),if_pos (show (i:Int)<(x.length:Int) by omega),if_pos (show (i:Int)<(y.length:Int) by omega),if_neg (show ¬ rd x (i:Int)≤rd y (i:Int) by omega),w64 (x:=(i:Int)+1) (by omega) (by omega)]
  exact hr
 | d+1,k,h,hk=>by
  have h5:=g.aft k (by omega) hk
  refine Ev.succ ?_
  simp only [impl_TableFor.l1,if_pos (show (0:Int)≤(k:Int) by omega),if_pos (show (k:Int)<(x.length:Int) by omega),if_pos (show (k:Int)<(y.length:Int) by omega),if_pos h5,w64 (x:=(k:Int) - 1) (by omega) (by omega)]
  rw [show (k:Int) - 1=((k - 1:Nat):Int) by omega]
  exact istep_l1 TB n t hl hn g hr d (k - 1) (by omega) (by omega)
theorem istep_l2 {x y:List Int} {i j:Nat} (TB:Nat→List (List Int)→Option (List (List Int) × Bool)) (n:Int) (t:List (List Int)) (hl:x.length=y.length) (hn:x.length≤12) (hx:∀ k:Nat,k<x.length→0≤rd x (k:Int)∧rd x (k:Int)≤60) (hy:∀ k:Nat,k<x.length→0≤rd y (k:Int)∧rd y (k:Int)≤60) (g:Nt x y i j) {r:List (List Int) × Bool} (hr:Ev (fun K=>(impl_giftTable.f K n (i:Int) (j:Int) (rd x (i:Int) - rd x (j:Int)) (ntA x y i j)).bind fun t1=>(impl_product.f K t1 t).bind fun t2=>(impl_given.f x (i:Int) (j:Int) (ntA x y i j)).bind fun x2=>impl_TableFor.l0 TB K n x2 y t2) r):∀ (d k:Nat),k+d=j→i<k→Ev (fun K=>impl_TableFor.l2 TB K n x y t (i:Int) (k:Int)) r
 | 0,k,h,hk=>by
  have h1:=g.lt
  have h2:=g.hj
  have h4:=g.xj
  obtain rfl:k=j:=by omega
  have b1:=hx i (by omega)
  have b2:=hy i (by omega)
  have b3:=hx k h2
  have b4:=hy k h2
  refine Ev.succ ?_
  have em:mn (rd x (i:Int) - rd y (i:Int)) (rd y (k:Int) - rd x (k:Int))=ntA x y i k:=by
   unfold ntA mn
   omega
  simp only [impl_TableFor.l2,if_pos (show (0:Int)≤(k:Int) by omega),if_pos (show (k:Int)<(x.length:Int) by omega),if_pos (show (k:Int)<(y.length:Int) by omega),if_neg (show ¬ rd x (k:Int)≥rd y (k:Int) by omega),if_pos (show (0:Int)≤(i:Int) by omega),if_pos (show (i:Int)<(x.length:Int) by omega),if_pos (show (i:Int)<(y.length:Int) by omega),w64 (x:=rd x (i:Int) - rd y (i:Int)) (by omega) (by omega),w64 (x:=rd y (k:Int) - rd x (k:Int)) (by omega) (by omega),w64 (x:=rd x (i:Int) - rd x (k:Int)) (by omega) (by omega),em]
  exact hr
 | d+1,k,h,hk=>by
  have h1:=g.lt
  have h2:=g.hj
  have hb:=g.bef k hk (by omega)
  refine Ev.succ ?_
  simp only [impl_TableFor.l2,if_pos (show (0:Int)≤(k:Int) by omega),if_pos (show (k:Int)<(x.length:Int) by omega),if_pos (show (k:Int)<(y.length:Int) by omega),if_pos (show rd x (k:Int)≥rd y (k:Int) by omega),w64 (x:=(k:Int)+1) (by omega) (by omega)]
  exact istep_l2 TB n t hl hn hx hy g hr d (k+1) (by omega) (by omega)
theorem slEqual_l (xs ys:List Int) (hx:xs.length≤9223372036854775807) (hl:xs.length=ys.length):∀ (n i:Nat),i+n=xs.length→Ev (fun k=>slices_Equal_int_int.l0 k xs ys (xs.length:Int) (i:Int)) (decide (xs.drop i=ys.drop i))
 | 0,i,h=>by
  refine Ev.succ ?_
  simp only [slices_Equal_int_int.l0,if_neg (show ¬ (i:Int)<(xs.length:Int) by omega)]
  rw [List.drop_eq_nil_of_le (by omega),List.drop_eq_nil_of_le (by omega)]
  exact Ev.now _
 | n+1,i,h=>by
  have hi:i<xs.length:=by omega
  have hj:i<ys.length:=by omega
  refine Ev.succ ?_
  simp only [slices_Equal_int_int.l0,if_pos (show (i:Int)<(xs.length:Int) by omega),if_pos (show (i:Int)<(ys.length:Int) by omega),if_pos (show (0:Int)≤(i:Int) by omega),rdn hi,rdn hj,wsucc hi hx]
  rw [List.drop_eq_getElem_cons hi,List.drop_eq_getElem_cons hj]
  by_cases c:xs[i]=ys[i]
  ·simp only [c,if_true,List.cons.injEq,true_and]
   exact slEqual_l xs ys hx hl n (i+1) (by omega)
  ·simp only [c,if_false,List.cons.injEq,false_and,decide_false]
   exact Ev.now _
theorem slEqual_ev (xs ys:List Int) (hx:xs.length≤9223372036854775807):Ev (fun k=>slices_Equal_int_int.f k xs ys) (decide (xs=ys)):=by
 unfold slices_Equal_int_int.f
 by_cases h:xs.length=ys.length
 ·simp only [if_pos (show (xs.length:Int)=(ys.length:Int) by omega)]
  exact slEqual_l xs ys hx h xs.length 0 (by omega)
 ·simp only [if_neg (show ¬ (xs.length:Int)=(ys.length:Int) by omega)]
  rw [zbj (fun e=>h (by rw [e]))]
  exact Ev.now _
theorem l1Least_eq (a b:Int):spec_l1Least.f a b=some (min a b):=by
 unfold spec_l1Least.f
 split <;> (congr 1;omega)
theorem step_l1 {x y:List Int} {i j:Nat} (hl:x.length=y.length) (hn:x.length≤12) (hx:∀ k:Nat,k<x.length→0≤rd x (k:Int)∧rd x (k:Int)≤60) (hy:∀ k:Nat,k<x.length→0≤rd y (k:Int)∧rd y (k:Int)≤60) (g:Nt x y i j):∀ (d k:Nat),k+d=j→i<k→Ev (fun K=>spec_doStep.l1 K x y (i:Int) (k:Int)) ((i:Int),(j:Int),ntA x y i j,true)
 | 0,k,h,hk=>by
  have h1:=g.lt
  have h2:=g.hj
  have h4:=g.xj
  obtain rfl:k=j:=by omega
  have b1:=hx i (by omega)
  have b2:=hy i (by omega)
  have b3:=hx k h2
  have b4:=hy k h2
  refine Ev.succ ?_
  simp only [spec_doStep.l1,if_pos (show (0:Int)≤(k:Int) by omega),if_pos (show (k:Int)<(x.length:Int) by omega),if_pos (show (k:Int)<(y.length:Int) by omega),if_neg (show ¬ rd x (k:Int)≥rd y (k:Int) by omega),if_pos (show (0:Int)≤(i:Int) by omega),if_pos (show (i:Int)<(x.length:Int) by omega),if_pos (show (i:Int)<(y.length:Int) by omega),w64 (x:=rd x (i:Int) - rd y (i:Int)) (by omega) (by omega),w64 (x:=rd y (k:Int) - rd x (k:Int)) (by omega) (by omega),l1Least_eq,zbd]
  exact Ev.now _
 | d+1,k,h,hk=>by
  have h1:=g.lt
  have h2:=g.hj
  have hb:=g.bef k hk (by omega)
  refine Ev.succ ?_
  simp only [spec_doStep.l1,if_pos (show (0:Int)≤(k:Int) by omega),if_pos (show (k:Int)<(x.length:Int) by omega),if_pos (show (k:Int)<(y.length:Int) by omega),if_pos (show rd x (k:Int)≥rd y (k:Int) by omega),w64 (x:=(k:Int)+1) (by omega) (by omega)]
  exact step_l1 hl hn hx hy g d (k+1) (by omega) (by omega)
theorem step_l0 {x y:List Int} {i j:Nat} (hl:x.length=y.length) (hn:x.length≤12) (g:Nt x y i j) {r:Int × Int × Int × Bool} (hr:Ev (fun K=>spec_doStep.l1 K x y (i:Int) ((i:Int)+1)) r):∀ (m k:Nat) (cur:Int),k+m=x.length→(i<k→cur=(i:Int))→Ev (fun K=>spec_doStep.l0 K x y cur (x.length:Int) (k:Int)) r
 | 0,k,cur,h,hc=>by
  have h1:=g.lt
  have h2:=g.hj
  obtain rfl:=hc (by omega)
  refine Ev.succ ?_
  simp only [spec_doStep.l0,if_neg (show ¬ (k:Int)<(x.length:Int) by omega),if_neg (show ¬ (i:Int)<0 by omega),w64 (x:=(i:Int)+1) (by omega) (by omega)]
  exact hr
 | m+1,k,cur,h,hc=>by
  have h1:=g.lt
  have h2:=g.hj
  have h3:=g.xi
  refine Ev.succ ?_
  simp only [spec_doStep.l0,if_pos (show (k:Int)<(x.length:Int) by omega),if_pos (show (0:Int)≤(k:Int) by omega),if_pos (show (k:Int)<(y.length:Int) by omega),w64 (x:=(k:Int)+1) (by omega) (by omega)]
  by_cases c:rd x (k:Int)>rd y (k:Int)
  ·simp only [if_pos c]
   refine step_l0 hl hn g hr m (k+1) _ (by omega) (fun hk => ?_)
   rcases Nat.lt_or_ge i k with hlt | hge
   ·have:=g.aft k hlt (by omega)
    omega
   ·omega
  ·simp only [if_neg c]
   refine step_l0 hl hn g hr m (k+1) _ (by omega) (fun hk => ?_)
   rcases Nat.lt_or_ge i k with hlt | hge
   ·exact hc hlt
   ·obtain rfl:i=k:=by omega
    omega
theorem doStep_ev {x y:List Int} {i j:Nat} (hl:x.length=y.length) (hn:x.length≤12) (hx:∀ k:Nat,k<x.length→0≤rd x (k:Int)∧rd x (k:Int)≤60) (hy:∀ k:Nat,k<x.length→0≤rd y (k:Int)∧rd y (k:Int)≤60) (g:Nt x y i j):Ev (fun K=>spec_doStep.f K x y) ((i:Int),(j:Int),ntA x y i j,true):=by
 unfold spec_doStep.f
 have h1:=g.lt
 exact step_l0 hl hn g (by
  have:=step_l1 hl hn hx hy g (j - (i+1)) (i+1) (by omega) (by omega)
  exact this) x.length 0 (-1) (by omega) (fun h=>by omega)
theorem doStep_end (x:List Int) (hn:x.length≤12):∀ (m k:Nat),k+m=x.length→Ev (fun K=>spec_doStep.l0 K x x (-1) (x.length:Int) (k:Int)) (0,0,0,false)
 | 0,k,h=>by
  refine Ev.succ ?_
  simp only [spec_doStep.l0,if_neg (show ¬ (k:Int)<(x.length:Int) by omega),if_pos (show (-1:Int)<0 by omega)]
  exact Ev.now _
 | m+1,k,h=>by
  refine Ev.succ ?_
  simp only [spec_doStep.l0,if_pos (show (k:Int)<(x.length:Int) by omega),if_pos (show (0:Int)≤(k:Int) by omega),if_neg (show ¬ rd x (k:Int)>rd x (k:Int) by omega),w64 (x:=(k:Int)+1) (by omega) (by omega)]
  exact doStep_end x hn m (k+1) (by omega)
def oneG (a b:Nat):Int:=if a=b then 1 else 0
theorem iunit_ev (n:Nat) (hn:n≤6):Ev (fun q=>impl_giftTable.f q (n:Int) (-1) (-1) 1 0) (tabG n oneG):=by
 unfold impl_giftTable.f
 simp only [if_pos (show (0:Int)≤1∧(1:Int)≤1000000∧(0:Int)≤0∧(0:Int)≤1000000 by omega)]
 refine square_ev _ _ n (by omega) (fun a b ha hb => ?_)
 congr 1
 unfold giftE oneG
 simp only [Int.ofNat_inj,if_neg (show ¬ (a:Int) = -1 by omega)]
theorem sunit_l (TB:Nat→List (List Int)→Option (List (List Int) × Bool)) (x y:List Int) (n:Nat) (hn:n≤6) {r:List (List Int) × Bool} (hr:Ev (fun k=>(spec_doStep.f k x y).bind fun bt=>spec_TableFor.l1 TB k (n:Int) x y (tabG n oneG) bt.1 bt.2.1 bt.2.2.1 bt.2.2.2) r):∀ (m i:Nat),i+m=n→Ev (fun k=>spec_TableFor.l0 TB k (n:Int) x y (tabG n fun a b=>if a=b∧a<i then 1 else 0) (n:Int) (i:Int)) r
 | 0,i,h=>by
  obtain rfl:i=n:=by omega
  refine Ev.succ ?_
  simp only [spec_TableFor.l0,if_neg (show ¬ (i:Int)<(i:Int) by omega)]
  rw [tabG_congr (G':=oneG) (fun a b ha hb=>by
   unfold oneG
   by_cases c:a=b
   ·rw [if_pos ⟨c,ha⟩,if_pos c]
   ·rw [if_neg (fun h=>c h.1),if_neg c])]
  exact hr
 | m+1,i,h=>by
  have hi:i<n:=by omega
  refine Ev.succ ?_
  simp only [spec_TableFor.l0,if_pos (show (i:Int)<(n:Int) by omega),if_pos (show (0:Int)≤(i:Int) by omega),tabG_length,tabG_rowlen _ hi,Int.toNat_natCast,w64 (x:=(i:Int)+1) (by omega) (by omega)]
  rw [tabG_set _ i 1 hi]
  rw [tabG_congr (G':=fun a b=>if a=b∧a<i+1 then 1 else 0) (fun a b ha hb=>by
   unfold updG
   by_cases c:a=i∧b=i
   ·rw [if_pos c,if_pos (by omega)]
   ·rw [if_neg c]
    show (if a=b∧a<i then (1:Int) else 0)=_
    by_cases d:a=b∧a<i
    ·rw [if_pos d,if_pos (by omega)]
    ·rw [if_neg d,if_neg (by omega)])]
  exact sunit_l TB x y n hn hr m (i+1) (by omega)
theorem igift_ev (n i j:Nat) (s k:Int) (hn:n≤6) (hs:0≤s∧s≤1000) (hk:0≤k∧k≤1000) (hij:i<j):Ev (fun q=>impl_giftTable.f q (n:Int) (i:Int) (j:Int) s k) (tabG n (gtG i j s k)):=by
 unfold impl_giftTable.f
 simp only [if_pos (show 0≤s∧s≤1000000∧0≤k∧k≤1000000 by omega)]
 refine square_ev _ _ n (by omega) (fun a b ha hb => ?_)
 congr 1
 unfold giftE gtG
 simp only [Int.ofNat_inj]
 by_cases c1:a=b
 ·subst c1
  simp
 ·by_cases c2:a=i
  ·subst c2
   simp [c1,show ¬ a=j by omega]
  ·simp [c1,c2]
theorem sgift_ev (n i j:Nat) (s k:Int) (hn:n≤6) (hij:i<j) (hj:j<n) (h4:1≤s∧s≤1000) (h5:0≤k∧k≤s):Ev (fun q=>spec_doGift.f q (n:Int) (i:Int) (j:Int) s k) (tabG n (gtG i j s k)):=by
 unfold spec_doGift.f
 refine Ev.bind (doEmpty_ev n (by omega)) ?_
 have:=doGift_l n i j s k (by omega) (by omega) (by omega) h4 h5 n 0 (by omega)
 rw [tabG_congr (G':=fun _ _=>0) (fun a b _ _=>taac)] at this
 exact this
structure St (n c:Nat) (x y:List Int) (t:List (List Int)):Prop where
 lx:x.length=n
 ly:y.length=n
 n4:n≤4
 dom:Dom x y
 hx:∀ k:Nat,k<x.length→0≤rd x (k:Int)∧rd x (k:Int)≤60
 hy:∀ k:Nat,k<x.length→0≤rd y (k:Int)∧rd y (k:Int)≤60
 dy:Desc y
 un:unl x y+c≤4
 kt:Kt n c t
theorem st_step {n c i j:Nat} {x y:List Int} {t:List (List Int)} (S:St n c x y t) (g:Nt x y i j):St n (c+1) (giveL x (i:Int) (j:Int) (ntA x y i j)) y (timesT (tabG n (gtG i j (rd x (i:Int) - rd x (j:Int)) (ntA x y i j))) t):=by
 have h1:=g.lt
 have h2:=g.hj
 have hl:x.length=y.length:=by rw [S.lx,S.ly]
 have hA:=ntA_le g;have hG:=nt_gap hl S.dy g
 have b1:=S.hx i (by omega)
 have b2:=S.hx j h2
 have hu:=nt_unl g;have hun:=S.un
 exact ⟨by rw [giveL_length];exact S.lx,S.ly,S.n4,nt_dom S.dom g,fun k hk=>nt_bd hl g S.hx S.hy k (by rw [giveL_length] at hk;exact hk),fun k hk=>S.hy k (by rw [giveL_length] at hk;exact hk),S.dy,by omega,kt_step S.kt h1 (by rw [← S.lx];exact h2) hA.1 hG (by omega)⟩
inductive Rch (n:Nat) (y:List Int):List Int→List (List Int)→List (List Int)→Prop
 | done (t:List (List Int)):Rch n y y t t
 | step {c i j:Nat} {x:List Int} {t T:List (List Int)} (S:St n c x y t) (hc:c≤3) (g:Nt x y i j) (h:Rch n y (giveL x (i:Int) (j:Int) (ntA x y i j)) (timesT (tabG n (gtG i j (rd x (i:Int) - rd x (j:Int)) (ntA x y i j))) t) T):Rch n y x t T
theorem run_both (n:Nat) (y:List Int):∀ (u c:Nat) (x:List Int) (t:List (List Int)),St n c x y t→c≤3→unl x y≤u→∃ T c',Kt n c' T∧c'≤3∧Rch n y x t T∧∀ (TB:Nat→List (List Int)→Option (List (List Int) × Bool)) (r:List (List Int) × Bool),Ev (fun k=>TB k T) r→Ev (fun k=>(spec_doStep.f k x y).bind fun bt=>spec_TableFor.l1 TB k (n:Int) x y t bt.1 bt.2.1 bt.2.2.1 bt.2.2.2) r∧Ev (fun k=>impl_TableFor.l0 TB k (n:Int) x y t) r:=by
 intro u
 induction u with
 | zero =>
  intro c x t S hc hu
  have he:x=y:=by
   apply Classical.byContradiction
   intro hne
   obtain ⟨i,j,g⟩:=nt_exists S.dom hne
   have:=nt_unl2 g
   omega
  subst he;refine ⟨t,c,S.kt,hc,Rch.done t,fun TB r hr => ?_⟩
  have hn:=S.n4
  have hl:=S.lx
  refine ⟨?_,?_⟩
  ·refine Ev.bind (a:=(0,0,0,false)) (by unfold spec_doStep.f;exact doStep_end x (by omega) x.length 0 (by omega)) ?_
   refine Ev.succ ?_
   simp only [spec_TableFor.l1,zbm,if_false]
   exact hr
  ·refine Ev.succ ?_
   simp only [impl_TableFor.l0]
   have hq:=slEqual_ev x x (by omega)
   rw [zba rfl] at hq
   refine Ev.bind hq ?_
   simp only [if_true]
   exact hr
 | succ u ih =>
  intro c x t S hc hu
  by_cases he:x=y
  ·subst he
   refine ⟨t,c,S.kt,hc,Rch.done t,fun TB r hr => ?_⟩
   have hn:=S.n4
   have hl:=S.lx
   refine ⟨?_,?_⟩
   ·refine Ev.bind (a:=(0,0,0,false)) (by unfold spec_doStep.f;exact doStep_end x (by omega) x.length 0 (by omega)) ?_
    refine Ev.succ ?_
    simp only [spec_TableFor.l1,zbm,if_false]
    exact hr
   ·refine Ev.succ ?_
    simp only [impl_TableFor.l0]
    have hq:=slEqual_ev x x (by omega)
    rw [zba rfl] at hq
    refine Ev.bind hq ?_
    simp only [if_true]
    exact hr
  ·obtain ⟨i,j,g⟩:=nt_exists S.dom he
   have h2:=nt_unl2 g;have hun:=S.un
   have hul:=nt_unl g;have S2:=st_step S g
   obtain ⟨T,c',hT,hc',hR,hE⟩:=ih (c+1) _ _ S2 (by omega) (by omega)
   refine ⟨T,c',hT,hc',Rch.step S hc g hR,fun TB r hr => ?_⟩
   obtain ⟨h,hI⟩:=hE TB r hr
   have hn:=S.n4
   have hlx:=S.lx
   have hl:x.length=y.length:=by rw [S.lx,S.ly]
   have g1:=g.lt
   have g2:=g.hj
   have hA:=ntA_le g;have hG:=nt_gap hl S.dy g
   have b1:=S.hx i (by omega)
   have b2:=S.hx j g2
   have b3:=S.hy i (by omega)
   have b4:=S.hy j g2
   have T0:Tab (tabG n (gtG i j (rd x (i:Int) - rd x (j:Int)) (ntA x y i j))):=by
    have hs60:rd x (i:Int) - rd x (j:Int)≤60:=by omega
    clear hE h hI ih S2;generalize ntA x y i j=d at *
    generalize rd x (i:Int) - rd x (j:Int)=s at *
    refine ⟨by rw [tabG_length];omega,fun z hz => ?_⟩
    unfold tabG at hz
    obtain ⟨q,_,rfl⟩:=List.mem_map.1 hz
    refine ⟨by rw [tabG_length];simp,fun w hw => ?_⟩
    obtain ⟨p,_,rfl⟩:=List.mem_map.1 hw
    unfold gtG
    repeat (first | omega | split)
   refine ⟨?_,?_⟩
   ·refine Ev.bind (doStep_ev hl (by omega) S.hx S.hy g) ?_
    refine Ev.succ ?_
    simp only [spec_TableFor.l1,if_pos (show (0:Int)≤(i:Int) by omega),if_pos (show (0:Int)≤(j:Int) by omega),if_pos (show (i:Int)<(x.length:Int) by omega),if_pos (show (j:Int)<(x.length:Int) by omega),w64 (x:=rd x (i:Int) - rd x (j:Int)) (by omega) (by omega),zbd]
    refine Ev.bind (sgift_ev n i j _ _ (by omega) g1 (by omega) (by omega) (by omega)) ?_
    refine Ev.bind (doTimes_ev T0 (kt_tab hn hc S.kt) (by rw [tabG_length];exact S.kt.len)) ?_
    have e1:rd (x.set (i:Int).toNat (wrap64 (rd x (i:Int) - ntA x y i j))) (j:Int)=rd x (j:Int):=by
     unfold rd
     rw [Int.toNat_natCast,Int.toNat_natCast,List.getD_eq_getElem?_getD,List.getElem?_set_ne (by omega),List.getD_eq_getElem?_getD]
    have e2:(x.set (i:Int).toNat (wrap64 (rd x (i:Int) - ntA x y i j))).set (j:Int).toNat (wrap64 (rd (x.set (i:Int).toNat (wrap64 (rd x (i:Int) - ntA x y i j))) (j:Int)+ntA x y i j))=giveL x (i:Int) (j:Int) (ntA x y i j):=by
     rw [e1,w64 (x:=rd x (i:Int) - ntA x y i j) (by omega) (by omega),w64 (x:=rd x (j:Int)+ntA x y i j) (by omega) (by omega)]
     rfl
    simp only [e2]
    exact h
   ·refine Ev.succ ?_
    simp only [impl_TableFor.l0]
    have hq:=slEqual_ev x y (by omega)
    rw [zbj he] at hq
    refine Ev.bind hq ?_
    simp only [zbm,if_false,w64 (x:=(n:Int) - 1) (by omega) (by omega)]
    rw [show (n:Int) - 1=((n - 1:Nat):Int) by omega]
    refine istep_l1 TB (n:Int) t hl (by omega) g ?_ (n - 1 - i) (n - 1) (by omega) (by omega)
    refine istep_l2 TB (n:Int) t hl (by omega) S.hx S.hy g ?_ (j - (i+1)) (i+1) (by omega) (by omega)
    refine Ev.bind (igift_ev n i j _ _ (by omega) (by omega) (by omega) g1) ?_
    refine Ev.bind (product_ev T0 (kt_tab hn hc S.kt) (by rw [tabG_length];exact S.kt.len)) ?_
    simp only [given_eq x _ _ _ (by omega) (show 0≤(i:Int)∧(i:Int)<(x.length:Int) by omega) (show 0≤(j:Int)∧(j:Int)<(x.length:Int) by omega) (show (i:Int)≠(j:Int) by omega),zbd]
    rw [w64 (x:=rd x (i:Int) - ntA x y i j) (by omega) (by omega),w64 (x:=rd x (j:Int)+ntA x y i j) (by omega) (by omega)]
    exact hI
def betB (a b:List Int):Bool:=if goodL a=true then (if goodL b=true then majB a b else false) else false
theorem isBetween_ev (a b:List Int) (ha:a.length≤1048576) (hb:b.length≤1048576):Ev (fun k=>impl_isBetween.f k a b) (betB a b):=by
 unfold impl_isBetween.f betB
 refine Ev.bind (areLists_ev a b ha hb) ?_
 by_cases ga:goodL a=true
 ·by_cases gb:goodL b=true
  ·simp only [ga,gb,if_true]
   exact Ev.bind (isMajorized_ev a b (good_sm ga) (good_sm gb)) (Ev.now _)
  ·simp only [ga,if_true,if_neg gb]
   exact Ev.now _
 ·simp only [if_neg ga,zbm,if_false]
  exact Ev.now _
theorem betB_iff (a b:List Int):betB a b=true↔goodL a=true∧goodL b=true∧majB a b=true:=by
 unfold betB
 split
 ·split <;> simp_all
 ·simp_all
theorem unl_le (x y:List Int):unl x y≤x.length:=by
 unfold unl
 have h:=List.countP_le_length (p:=fun (k:Nat)=>decide (rd x (k:Int)≠rd y (k:Int))) (l:=List.range x.length)
 rw [List.length_range] at h
 exact h
theorem oneG_kt (n:Nat):Kt n 0 (tabG n oneG):=by
 refine ⟨tabG_length _ _,fun x hx => ?_,fun a b ha hb => ?_,fun a ha=>⟨a,ha,?_⟩⟩
 ·unfold tabG at hx
  obtain ⟨i,_,rfl⟩:=List.mem_map.1 hx
  simp
 ·rw [atG_tab _ ha hb]
  unfold oneG
  split <;> simp
 ·rw [atG_tab _ ha ha]
  unfold oneG
  simp
theorem good_rd {l:List Int} (h:goodL l=true) {k:Nat} (hk:k<l.length):0≤rd (descL l) (k:Int)∧rd (descL l) (k:Int)≤60:=by
 have hl:=descL_length l;rw [rdn (show k<(descL l).length by omega)]
 exact ((goodL_iff l).1 h).2.2 _ (descL_mem.1 (List.getElem_mem _))
theorem st_start {a b:List Int} (h:betB a b=true) (h4:a.length≤4):St a.length 0 (descL b) (descL a) (tabG a.length oneG):=by
 obtain ⟨ga,gb,hm⟩:=(betB_iff a b).1 h
 have hd:=(majB_dom a b).1 hm
 have hl:=hd.1
 have la:=descL_length a;have lb:=descL_length b;have hu:=unl_le (descL b) (descL a)
 exact ⟨by omega,la,h4,hd,fun k hk=>good_rd gb (by omega),fun k hk=>good_rd ga (by omega),descL_desc a,by omega,oneG_kt _⟩
theorem kt_pos {n c:Nat} {t:List (List Int)} (h1:1≤n) (h:Kt n c t):∃ x ∈ t.flatten,0<x:=by
 obtain ⟨b,hb,hp⟩:=h.pos 0 (by omega)
 have hl:=h.len
 have hr:=h.row _ (List.getElem_mem (show 0<t.length by omega))
 refine ⟨atG t 0 b,?_,hp⟩
 unfold atG
 rw [rd_L1n (show 0<t.length by omega),rdn (show b<t[0].length by omega)]
 exact List.mem_flatten.2 ⟨t[0],List.getElem_mem _,List.getElem_mem _⟩
theorem tf_run {a b:List Int} (h:betB a b=true) (h4:a.length≤4):∃ T:List (List Int),Tab T∧T.length=a.length∧(∃ x ∈ T.flatten,0<x)∧Rch a.length (descL a) (descL b) (tabG a.length oneG) T∧∀ (TB:Nat→List (List Int)→Option (List (List Int) × Bool)) (r:List (List Int) × Bool),Ev (fun k=>TB k T) r→Ev (fun k=>(spec_doStep.f k (descL b) (descL a)).bind fun bt=>spec_TableFor.l1 TB k (a.length:Int) (descL b) (descL a) (tabG a.length oneG) bt.1 bt.2.1 bt.2.2.1 bt.2.2.2) r∧Ev (fun k=>impl_TableFor.l0 TB k (a.length:Int) (descL b) (descL a) (tabG a.length oneG)) r:=by
 have hg:=(goodL_iff a).1 ((betB_iff a b).1 h).1
 obtain ⟨T,c,hT,hc,hR,hE⟩:=run_both a.length (descL a) _ 0 (descL b) (tabG a.length oneG) (st_start h h4) (by omega) (zcf _)
 exact ⟨T,kt_tab h4 hc hT,hT.len,kt_pos hg.1 hT,hR,hE⟩
noncomputable def tfT (a b:List Int):List (List Int):=if h:betB a b=true∧a.length≤4 then Classical.choose (tf_run h.1 h.2) else []
theorem tfT_spec {a b:List Int} (h:betB a b=true) (h4:a.length≤4):Tab (tfT a b)∧(tfT a b).length=a.length∧(∃ x ∈ (tfT a b).flatten,0<x)∧Rch a.length (descL a) (descL b) (tabG a.length oneG) (tfT a b)∧∀ (TB:Nat→List (List Int)→Option (List (List Int) × Bool)) (r:List (List Int) × Bool),Ev (fun k=>TB k (tfT a b)) r→Ev (fun k=>(spec_doStep.f k (descL b) (descL a)).bind fun bt=>spec_TableFor.l1 TB k (a.length:Int) (descL b) (descL a) (tabG a.length oneG) bt.1 bt.2.1 bt.2.2.1 bt.2.2.2) r∧Ev (fun k=>impl_TableFor.l0 TB k (a.length:Int) (descL b) (descL a) (tabG a.length oneG)) r:=by
 unfold tfT
 rw [dif_pos ⟨h,h4⟩]
 exact Classical.choose_spec (tf_run h h4)
noncomputable def tfR (a b:List Int):List (List Int) × Bool:=if betB a b=true then (if a.length≤4 then tailR a b (tfT a b) else ([],false)) else ([],false)
theorem tfR_bd (a b:List Int):totSS (tfR a b).1≤1000∧(tfR a b).1.length≤1000:=by
 unfold tfR
 split
 ·split
  ·exact checkR_bd _
  ·exact ⟨by decide,by decide⟩
 ·exact ⟨by decide,by decide⟩
theorem bet_len {a b:List Int} (h:betB a b=true):b.length=a.length:=by
 have hd:=((majB_dom a b).1 ((betB_iff a b).1 h).2.2).1
 rw [descL_length,descL_length] at hd
 exact hd
theorem specTableFor_ev (a b:List Int) (ha:a.length≤1048576) (hb:b.length≤1048576):Ev (fun k=>spec_TableFor.f k a b) (tfR a b):=by
 unfold spec_TableFor.f
 by_cases ga:goodL a=true
 ·refine Ev.bind (liGood_ev a (by omega)) ?_
  by_cases gb:goodL b=true
  ·simp only [ga,if_true]
   refine Ev.bind (liGood_ev b (by omega)) ?_
   simp only [gb,if_true]
   by_cases h4:(a.length:Int)>4
   ·simp only [if_pos h4]
    refine Ev.succ ?_
    simp only [spec_TableFor.j0,if_true]
    have e:tfR a b=([],false):=by
     unfold tfR
     rw [if_neg (show ¬ a.length≤4 by omega),ite_self]
    rw [e]
    exact Ev.now _
   ·simp only [if_neg h4]
    refine Ev.bind (liBelow_ev a b (good_sm ga) (good_sm gb)) ?_
    by_cases hm:majB a b=true
    ·have h:=(betB_iff a b).2 ⟨ga,gb,hm⟩
     have h1:=((goodL_iff a).1 ga)
     have h2:=((goodL_iff b).1 gb)
     have hl:=bet_len h;obtain ⟨hT,hTl,hTp,hR,hE⟩:=tfT_spec h (show a.length≤4 by omega)
     refine Ev.succ ?_
     simp only [spec_TableFor.j0,hm,Bool.not_true,zbm,if_false]
     refine Ev.bind (liRank_ev b (by omega)) (Ev.bind (liRank_ev a (by omega)) (Ev.bind (doEmpty_ev a.length (by omega)) ?_))
     have e:tfR a b=tailR a b (tfT a b):=by
      unfold tfR
      rw [if_pos h,if_pos (show a.length≤4 by omega)]
     rw [e,tabG_length]
     have hS:=sunit_l (fun q t=>spec_TableForB.f q a b t (a.length:Int)) (descL b) (descL a) a.length (by omega) (hE (fun q t=>spec_TableForB.f q a b t (a.length:Int)) _ (tail_eq a b (tfT a b) h1.1 (by omega) hl hT hTl hTp)).1 a.length 0 (by omega)
     rw [tabG_congr (G':=fun _ _=>0) (fun i j _ _=>taac)] at hS
     exact hS
    ·refine Ev.succ ?_
     simp only [spec_TableFor.j0,zbi.2 hm,Bool.not_false,if_true]
     have e:tfR a b=([],false):=by
      unfold tfR
      rw [if_neg (fun h=>hm ((betB_iff a b).1 h).2.2)]
     rw [e]
     exact Ev.now _
  ·simp only [ga,if_true]
   refine Ev.bind (liGood_ev b (by omega)) ?_
   simp only [if_neg gb]
   refine Ev.succ ?_
   simp only [spec_TableFor.j0,if_true]
   have e:tfR a b=([],false):=by
    unfold tfR
    rw [if_neg (fun h=>gb ((betB_iff a b).1 h).2.1)]
   rw [e]
   exact Ev.now _
 ·refine Ev.bind (liGood_ev a (by omega)) ?_
  simp only [if_neg ga]
  refine Ev.succ ?_
  simp only [spec_TableFor.j0,if_true]
  have e:tfR a b=([],false):=by
   unfold tfR
   rw [if_neg (fun h=>ga ((betB_iff a b).1 h).1)]
  rw [e]
  exact Ev.now _
theorem implTableFor_ev (a b:List Int) (ha:a.length≤1048576) (hb:b.length≤1048576):Ev (fun k=>impl_TableFor.f k a b) (tfR a b):=by
 unfold impl_TableFor.f
 refine Ev.bind (isBetween_ev a b ha hb) ?_
 by_cases h:betB a b=true
 ·have ga:=((betB_iff a b).1 h).1
  have gb:=((betB_iff a b).1 h).2.1
  have h1:=((goodL_iff a).1 ga)
  have h2:=((goodL_iff b).1 gb)
  have hl:=bet_len h;simp only [h,if_true]
  refine Ev.succ ?_
  by_cases h4:(a.length:Int)>4
  ·simp only [impl_TableFor.j0,zba h4,if_true]
   have e:tfR a b=([],false):=by
    unfold tfR
    rw [if_neg (show ¬ a.length≤4 by omega),ite_self]
   rw [e]
   exact Ev.now _
  ·obtain ⟨hT,hTl,hTp,hR,hE⟩:=tfT_spec h (show a.length≤4 by omega)
   simp only [impl_TableFor.j0,zbj h4,zbm,if_false,ranking_eq (good_sm ga),ranking_eq (good_sm gb),zbd]
   refine Ev.bind (iunit_ev a.length (by omega)) ?_
   have e:tfR a b=tailR a b (tfT a b):=by
    unfold tfR
    rw [if_pos h,if_pos (show a.length≤4 by omega)]
   rw [e]
   exact (hE (fun q t=>impl_TableForB.f q a b t (a.length:Int)) _ (implTail_ev a b (tfT a b) h1.1 (by omega) hl (fun x hx=>h1.2.2 x hx) (fun x hx=>h2.2.2 x hx) hT hTl hTp)).2
 ·simp only [if_neg h]
  refine Ev.succ ?_
  simp only [impl_TableFor.j0,if_true]
  have e:tfR a b=([],false):=by
   unfold tfR
   rw [if_neg h]
  rw [e]
  exact Ev.now _
theorem plcL_eq (l:List Int) (h1:1≤l.length):plcL l=(List.range l.length).map (plcI l):=by
 unfold plcL plT
 rw [List.map_map]
 apply List.ext_getElem
 ·simp
  omega
 ·intro i h1' h2'
  have hi:i<l.length:=by simpa using h2'
  simp only [List.getElem_map,List.getElem_range,List.getElem_ofFn,Function.comp_apply]
  unfold plcI
  congr 1
  have e1:l.length - 1+1=l.length:=by omega
  have hr:List.range l.length=(List.ofFn (fun k:Fin (l.length - 1+1)=>k)).map Fin.val:=by
   apply List.ext_getElem
   ·simp
    omega
   ·intro j a b
    simp [-List.ofFn_succ]
  rw [hr,List.countP_map]
  apply List.countP_congr
  intro k _
  simp only [Function.comp_apply]
  unfold aheadB
  by_cases c1:rd l (i:Int)<rd l (k.val:Int)
  ·simp [c1]
  ·by_cases c2:rd l (k.val:Int)<rd l (i:Int)
   ·have c3:¬ rd l (k.val:Int)=rd l (i:Int):=by omega
    simp [c1,c2,c3]
   ·have c3:rd l (k.val:Int)=rd l (i:Int):=by omega
    simp [c3,Fin.lt_def]
theorem plcL_at (l:List Int) (h1:1≤l.length) {i:Nat} (hi:i<l.length):rd (plcL l) (i:Int)=plcI l i:=by
 rw [plcL_eq l h1,rowG_at _ hi]
theorem ahead_iff (l:List Int) (i k:Nat):aheadB l i k=true↔rd l (i:Int)<rd l (k:Int)∨(rd l (k:Int)=rd l (i:Int)∧k<i):=by
 unfold aheadB
 simp
theorem plcI_lt (l:List Int) {i j:Nat} (hj:j<l.length) (h:aheadB l i j=true):plcI l j<plcI l i:=by
 unfold plcI
 have h1:=(ahead_iff l i j).1 h
 have:=cnt_lt (p:=aheadB l i) (q:=aheadB l j) (fun k hk=>by
  have h2:=(ahead_iff l j k).1 hk
  refine (ahead_iff l i k).2 ?_
  omega) (List.range l.length) ⟨j,List.mem_range.2 hj,h,by
  apply zbi.2
  intro hk
  have h2:=(ahead_iff l j j).1 hk
  omega⟩
 omega
theorem plcI_inj (l:List Int) {i j:Nat} (hi:i<l.length) (hj:j<l.length) (h:plcI l i=plcI l j):i=j:=by
 by_cases c1:aheadB l i j=true
 ·have:=plcI_lt l hj c1
  omega
 ·by_cases c2:aheadB l j i=true
  ·have:=plcI_lt l hi c2
   omega
  ·have h1:=mt (ahead_iff l i j).2 c1
   have h2:=mt (ahead_iff l j i).2 c2
   omega
theorem desc_plc (l:List Int) (h1:1≤l.length) (h4:l.length≤4) {i:Nat} (hi:i<l.length):rd (descL l) (rd (plcL l) (i:Int))=rd l (i:Int):=by
 have hp:=plcL_perm l h1 h4
 have hx:∀ k:Nat,k<l.length→∃ i,i<l.length∧plcI l i=(k:Int):=fun k hk=>by
  have hm:(k:Int) ∈ plcL l:=hp.mem_iff.2 (by
   unfold idxL
   exact List.mem_map.2 ⟨k,List.mem_range.2 hk,rfl⟩)
  rw [plcL_eq l h1] at hm
  obtain ⟨i,hi,e⟩:=List.mem_map.1 hm
  exact ⟨i,List.mem_range.1 hi,e⟩
 have hf:∃ f:Nat→Nat,∀ k,k<l.length→f k<l.length∧plcI l (f k)=(k:Int) :=
  ⟨fun k=>if hk:k<l.length then Classical.choose (hx k hk) else 0,fun k hk=>by
   simp only [dif_pos hk]
   exact Classical.choose_spec (hx k hk)⟩
 obtain ⟨f,hf⟩:=hf
 have hm:descL l=(List.range l.length).map fun k=>rd l (f k:Int):=by
  symm
  refine desc_unique (List.Perm.trans ?_ (descL_perm l).symm) ?_ (descL_desc l)
  ·have e1:((List.range l.length).map fun k=>rd l (f k:Int))=(idxL l.length).map fun z=>rd l (f z.toNat:Int):=by
    unfold idxL
    rw [List.map_map]
    apply List.map_congr_left
    intro k _
    simp
   rw [e1]
   refine (hp.symm.map _).trans (List.Perm.of_eq ?_)
   rw [plcL_eq l h1,List.map_map]
   refine Eq.trans ?_ (self_rd l)
   apply List.map_congr_left
   intro k hk
   have hk':=List.mem_range.1 hk
   simp only [Function.comp_apply]
   have hr:=plcL_rd l h1 h4 hk'
   rw [plcL_at l h1 hk'] at hr
   have e:=hf (plcI l k).toNat (by omega)
   rw [plcI_inj l e.1 hk' (by rw [e.2];omega)]
  ·refine desc_of_rd fun k hk => ?_
   have hk':k+1<l.length:=by simpa using hk
   rw [rowG_at (fun k=>rd l (f k:Int)) hk',rowG_at (fun k=>rd l (f k:Int)) (show k<l.length by omega)]
   apply Classical.byContradiction
   intro hn
   have e1:=hf k (by omega)
   have e2:=hf (k+1) hk'
   have:=plcI_lt l e2.1 ((ahead_iff l (f k) (f (k+1))).2 (Or.inl (by omega)))
   omega
 have hr:=plcL_rd l h1 h4 hi
 rw [plcL_at l h1 hi] at hr ⊢
 have e:=hf (plcI l i).toNat (by omega)
 have e3:plcI l i=((plcI l i).toNat:Int):=by omega
 rw [e3,hm,rowG_at _ (by omega),plcI_inj l e.1 hi (by rw [e.2];omega)]
theorem sN_plc (l:List Int) (h1:1≤l.length) (h4:l.length≤4) (f:Nat→Int):sN l.length (fun j=>f (rd (plcL l) (j:Int)).toNat)=sN l.length f:=by
 have hp:=plcL_perm l h1 h4
 have hl:=plcL_len l h1 h4
 have e1:sN l.length (fun j=>f (rd (plcL l) (j:Int)).toNat)=((plcL l).map fun x=>f x.toNat).sum:=by
  conv=>lhs;rw [← hl]
  exact sN_map (plcL l) (fun x=>f x.toNat)
 rw [e1,perm_sum (hp.map _)]
 unfold idxL sN
 rw [List.map_map]
 congr 1
structure Cy (n:Nat) (t:List (List Int)) (s:Int) (b a:List Int):Prop where
 len:t.length=n
 pos:0<s
 eq:EqT n (atG t) s
 car:∀ i,i<n→s*rd a (i:Int)=sN n (fun j=>atG t i j*rd b (j:Int))
theorem cy_one (n:Nat) (b:List Int):Cy n (tabG n oneG) 1 b b:=by
 refine ⟨tabG_length _ _,by decide,fun i hi=>⟨?_,?_⟩,fun i hi => ?_⟩
 ·rw [sN_congr (g:=fun j=>if j=i then 1 else 0) (fun j hj=>by rw [atG_tab _ hi hj];unfold oneG;by_cases c:i=j <;> simp [c,eq_comm]),sN_one hi]
 ·rw [sN_congr (g:=fun j=>if j=i then 1 else 0) (fun j hj=>by rw [atG_tab _ hj hi];unfold oneG;simp),sN_one hi]
 ·rw [sN_congr (g:=fun j=>if j=i then rd b (i:Int) else 0) (fun j hj=>by
   rw [atG_tab _ hi hj]
   unfold oneG
   by_cases c:i=j
   ·subst c;simp
   ·simp [c,show ¬ j=i by omega]),sN_one hi]
  omega
theorem gr_one (x y d:Int):(x - y - d)*x+d*y=(x - y)*(x - d):=by grind
theorem gr_two (x y d:Int):(x - y - d)*y+d*x=(x - y)*(y+d):=by grind
theorem gt_car {n i j:Nat} {d:Int} (x:List Int) (hij:i<j) (hj:j<n) (hx:x.length=n) {p:Nat} (hp:p<n):sN n (fun q=>gtG i j (rd x (i:Int) - rd x (j:Int)) d p q*rd x (q:Int))=(rd x (i:Int) - rd x (j:Int))*rd (giveL x (i:Int) (j:Int) d) (p:Int):=by
 rw [giveL_rd x i j d (by omega) (by omega) (by omega) p]
 by_cases c1:p=i
 ·subst c1
  rw [if_neg (by omega),if_pos rfl,sN_congr (g:=fun q=>if q=p then (rd x (p:Int) - rd x (j:Int) - d)*rd x (p:Int) else if q=j then d*rd x (j:Int) else 0) (fun q hq=>by
   unfold gtG
   by_cases e1:q=p
   ·subst e1;simp
   ·by_cases e2:q=j
    ·subst e2;simp [show ¬ p=q by omega,e1]
    ·simp [show ¬ p=q by omega,e1,e2]),sN_two (by omega) hj (by omega)]
  exact gr_one _ _ _
 ·by_cases c2:p=j
  ·subst c2
   rw [if_pos rfl,sN_congr (g:=fun q=>if q=p then (rd x (i:Int) - rd x (p:Int) - d)*rd x (p:Int) else if q=i then d*rd x (i:Int) else 0) (fun q hq=>by
    unfold gtG
    by_cases e1:q=p
    ·subst e1;simp [c1]
    ·by_cases e2:q=i
     ·subst e2;simp [show ¬ p=q by omega,e1]
     ·simp [show ¬ p=q by omega,e1,e2,c1]),sN_two (by omega) (by omega) (by omega)]
   exact gr_two _ _ _
  ·rw [if_neg c2,if_neg c1,sN_congr (g:=fun q=>if q=p then (rd x (i:Int) - rd x (j:Int))*rd x (p:Int) else 0) (fun q hq=>by
    unfold gtG
    by_cases e1:q=p
    ·subst e1;simp [c1,c2]
    ·simp [show ¬ p=q by omega,e1,c1,c2]),sN_one hp]
theorem cy_step {n i j:Nat} {s d:Int} {b x:List Int} {t:List (List Int)} (h:Cy n t s b x) (hij:i<j) (hj:j<n) (hx:x.length=n) (hs:0<rd x (i:Int) - rd x (j:Int)):Cy n (timesT (tabG n (gtG i j (rd x (i:Int) - rd x (j:Int)) d)) t) ((rd x (i:Int) - rd x (j:Int))*s) b (giveL x (i:Int) (j:Int) d):=by
 have hl:=tabG_length n (gtG i j (rd x (i:Int) - rd x (j:Int)) d)
 have hat:∀ p q,p<n→q<n→atG (timesT (tabG n (gtG i j (rd x (i:Int) - rd x (j:Int)) d)) t) p q=sN n (fun k=>gtG i j (rd x (i:Int) - rd x (j:Int)) d p k*atG t k q):=fun p q hp hq=>by
  unfold timesT
  rw [hl,atG_tab _ hp hq,dot_sum]
  exact sN_congr fun k hk=>by rw [atG_tab _ hp hk]
 have hg:∀ p,p<n→sN n (gtG i j (rd x (i:Int) - rd x (j:Int)) d p)=rd x (i:Int) - rd x (j:Int):=fun p hp=>gtG_sum hij hj _ _ hp
 refine ⟨by unfold timesT;rw [tabG_length,hl],Int.mul_pos hs h.pos,fun p hp=>⟨?_,?_⟩,fun p hp => ?_⟩
 ·rw [sN_congr (fun q hq=>hat p q hp hq),sN_comm,sN_congr (g:=fun k=>s*gtG i j (rd x (i:Int) - rd x (j:Int)) d p k) (fun k hk=>by rw [sN_mul,(h.eq k hk).1,Int.mul_comm]),sN_mul,hg p hp,Int.mul_comm]
 ·rw [sN_congr (fun q hq=>hat q p hq hp),sN_comm,sN_congr (g:=fun k=>(rd x (i:Int) - rd x (j:Int))*atG t k p) (fun k hk=>by
   rw [sN_congr (fun q _=>Int.mul_comm _ (atG t k p)),sN_mul,sN_congr (fun q _=>gtG_symm i j _ d q k),hg k hk,Int.mul_comm]),sN_mul,(h.eq p hp).2]
 ·rw [sN_congr (g:=fun q=>sN n (fun k=>gtG i j (rd x (i:Int) - rd x (j:Int)) d p k*(atG t k q*rd b (q:Int)))) (fun q hq=>by
   rw [hat p q hp hq,Int.mul_comm,← sN_mul]
   exact sN_congr fun k _=>by rw [Int.mul_comm,Int.mul_assoc]),sN_comm,sN_congr (g:=fun k=>s*(gtG i j (rd x (i:Int) - rd x (j:Int)) d p k*rd x (k:Int))) (fun k hk=>by
   rw [sN_mul,← h.car k hk,← Int.mul_assoc,← Int.mul_assoc,Int.mul_comm s]),sN_mul,gt_car x hij hj hx hp,← Int.mul_assoc,Int.mul_comm s]
theorem cy_run {n:Nat} {y b:List Int}:∀ {x:List Int} {t T:List (List Int)},Rch n y x t T→∀ s:Int,Cy n t s b x→∃ s',Cy n T s' b y:=by
 intro x t T h
 induction h with
 | done t=>exact fun s h=>⟨s,h⟩
 | step S hc g h ih =>
  intro s hC
  have h2:=g.hj
  have hl:=S.lx
  have hA:=ntA_le g;have hG:=nt_gap (by rw [S.lx,S.ly]) S.dy g
  exact ih _ (cy_step hC g.lt (by omega) hl (by omega))
theorem gcdL_dvd:∀ (L:List Int) (g:Nat),gcdL g L ∣ g∧∀ x ∈ L,gcdL g L ∣ x.toNat
 | [],g=>⟨Nat.dvd_refl g,fun x hx=>by simp at hx⟩
 | a :: L,g=>by
  have ih:=gcdL_dvd L (Nat.gcd g a.toNat)
  have e:gcdL g (a :: L)=gcdL (Nat.gcd g a.toNat) L:=rfl
  rw [e]
  refine ⟨Nat.dvd_trans ih.1 (Nat.gcd_dvd_left ..),fun x hx => ?_⟩
  rcases List.mem_cons.1 hx with rfl | hx
  ·exact Nat.dvd_trans ih.1 (Nat.gcd_dvd_right ..)
  ·exact ih.2 x hx
theorem atG_flat {t:List (List Int)} (T:Tab t) {i j:Nat} (hi:i<t.length) (hj:j<t.length):atG t i j ∈ t.flatten:=by
 have hr:=(T.row _ (List.getElem_mem hi)).1
 unfold atG
 rw [rd_L1n hi,rdn (show j<t[i].length by omega)]
 exact List.mem_flatten.2 ⟨t[i],List.getElem_mem _,List.getElem_mem _⟩
theorem tail_law {a b:List Int} {t:List (List Int)} {s:Int} (h1:1≤a.length) (h4:a.length≤4) (hl:b.length=a.length) (hg:goodL b=true) (T:Tab t) (ht:t.length=a.length) (hp:∃ x ∈ t.flatten,0<x) (hC:Cy a.length t s (descL b) (descL a)):∃ s',0<s'∧(tailR a b t).2=true∧carR (tailR a b t).1 b=(a,true)∧equalR (tailR a b t).1=(s',true):=by
 have h0:=gcdL_pos t.flatten 0 (Or.inr hp)
 have hd:=(gcdL_dvd t.flatten 0).2
 unfold tailR
 generalize hge:gcdL 0 t.flatten=g at *
 have hpa:∀ i,i<a.length→0≤rd (plcL a) (i:Int)∧(rd (plcL a) (i:Int)).toNat<a.length:=fun i hi=>by
  have:=plcL_rd a h1 h4 hi
  omega
 have hpb:∀ i,i<a.length→0≤rd (plcL b) (i:Int)∧(rd (plcL b) (i:Int)).toNat<a.length:=fun i hi=>by
  have:=plcL_rd b (by omega) (by omega) (show i<b.length by omega)
  omega
 have hq:∀ i j,i<a.length→j<a.length→0≤quoG a b t g i j∧quoG a b t g i j≤1000000∧(g:Int)*quoG a b t g i j=atG t (rd (plcL a) (i:Int)).toNat (rd (plcL b) (j:Int)).toNat:=fun i j hi hj=>by
  have ha:=(hpa i hi).2
  have hb:=(hpb j hj).2
  unfold quoG
  generalize (rd (plcL a) (i:Int)).toNat=p at *
  generalize (rd (plcL b) (j:Int)).toNat=q at *
  have bd:=atG_bd T (show p<t.length by omega) (show q<t.length by omega)
  have hdv:=hd _ (atG_flat T (show p<t.length by omega) (show q<t.length by omega))
  have tb:=tdiv_bd bd.1 bd.2 h0
  refine ⟨tb.1,tb.2,?_⟩
  generalize atG t p q=z at *
  obtain ⟨z,rfl⟩:=Int.eq_ofNat_of_zero_le bd.1
  rw [Int.toNat_natCast] at hdv
  exact Int.mul_tdiv_cancel' (Int.ofNat_dvd.2 hdv)
 have hrow:∀ i,i<a.length→(g:Int)*sN a.length (quoG a b t g i)=s:=fun i hi=>by
  rw [← sN_mul,sN_congr (fun j hj=>(hq i j hi hj).2.2)]
  have:=sN_plc b (by omega) (by omega) (fun q=>atG t (rd (plcL a) (i:Int)).toNat q)
  rw [hl] at this
  rw [this]
  exact (hC.eq _ (hpa i hi).2).1
 have hcol:∀ j,j<a.length→(g:Int)*sN a.length (fun i=>quoG a b t g i j)=s:=fun j hj=>by
  rw [← sN_mul,sN_congr (fun i hi=>(hq i j hi hj).2.2)]
  have:=sN_plc a h1 h4 (fun p=>atG t p (rd (plcL b) (j:Int)).toNat)
  rw [this]
  exact (hC.eq _ (hpb j hj).2).2
 have hg0:(g:Int)≠0:=by omega
 have hpos:=hC.pos
 have hs0:=hrow 0 (by omega)
 have hs':0<sN a.length (quoG a b t g 0):=by
  apply Classical.byContradiction
  intro hn
  have:(g:Int)*sN a.length (quoG a b t g 0)≤0:=Int.mul_nonpos_of_nonneg_of_nonpos (by omega) (by omega)
  omega
 have hE:EqT a.length (quoG a b t g) (sN a.length (quoG a b t g 0)):=fun i hi=>by
  refine ⟨Int.eq_of_mul_eq_mul_left hg0 ?_,Int.eq_of_mul_eq_mul_left hg0 ?_⟩
  ·rw [hrow i hi,hs0]
  ·rw [hcol i hi,hs0]
 have hcar:∀ i,i<a.length→sN a.length (quoG a b t g 0)*rd a (i:Int)=sN a.length (fun j=>quoG a b t g i j*rd b (j:Int)):=fun i hi=>by
  refine Int.eq_of_mul_eq_mul_left hg0 ?_
  rw [← Int.mul_assoc,hs0,← sN_mul,sN_congr (g:=fun j=>atG t (rd (plcL a) (i:Int)).toNat (rd (plcL b) (j:Int)).toNat*rd (descL b) ((rd (plcL b) (j:Int)).toNat:Int)) (fun j hj=>by
   rw [← Int.mul_assoc,(hq i j hi hj).2.2]
   congr 1
   have:=(hpb j hj).1
   rw [Int.toNat_of_nonneg this,desc_plc b (by omega) (by omega) (by omega)])]
  have:=sN_plc b (by omega) (by omega) (fun q=>atG t (rd (plcL a) (i:Int)).toNat q*rd (descL b) (q:Int))
  rw [hl] at this
  rw [this,← hC.car _ (hpa i hi).2,Int.toNat_of_nonneg (hpa i hi).1,desc_plc a h1 h4 hi]
 have hsq:=squareG h1 (show a.length≤6 by omega) (fun i j hi hj=>⟨(hq i j hi hj).1,(hq i j hi hj).2.1⟩)
 have hck:checkR (tabG a.length (quoG a b t g))=(tabG a.length (quoG a b t g),true):=by
  unfold checkR
  rw [if_pos hsq]
 rw [hck]
 exact ⟨_,hs',rfl,carR_of h1 (by omega) (fun i j hi hj=>⟨(hq i j hi hj).1,(hq i j hi hj).2.1⟩) rfl hl hg hs' hE hcar,equal_of hsq hE⟩
theorem tfR_law {a b:List Int} (h:betB a b=true) (h4:a.length≤4):∃ s,0<s∧(tfR a b).2=true∧carR (tfR a b).1 b=(a,true)∧equalR (tfR a b).1=(s,true):=by
 have ga:=((betB_iff a b).1 h).1
 have gb:=((betB_iff a b).1 h).2.1
 have h1:=((goodL_iff a).1 ga)
 obtain ⟨hT,hTl,hTp,hR,hE⟩:=tfT_spec h h4
 have h2:=cy_one a.length (descL b)
 obtain ⟨s,hC⟩:=cy_run hR 1 h2
 have e:tfR a b=tailR a b (tfT a b):=by
  unfold tfR
  rw [if_pos h,if_pos h4]
 rw [e]
 exact tail_law h1.1 h4 (bet_len h) gb hT hTl hTp hC
theorem tfR_ok {a b:List Int} (h:(tfR a b).2=true):betB a b=true∧a.length≤4:=by
 unfold tfR at h
 split at h
 ·next hb =>
  split at h
  ·next h4=>exact ⟨hb,h4⟩
  ·simp at h
 ·simp at h
theorem tmod_bd (x n:Int) (h0:0≤x) (hn:0<n):0≤Int.tmod x n∧Int.tmod x n<n:=by
 rw [Int.tmod_eq_emod_of_nonneg h0]
 exact ⟨Int.emod_nonneg _ (by omega),Int.emod_lt_of_pos _ hn⟩
theorem and255 (z:Int):0≤Go.bits .and .u64 (IntKind.u64.wrap z / 1099511627776) 255∧Go.bits .and .u64 (IntKind.u64.wrap z / 1099511627776) 255≤255:=by
 have e:=IntKind.wrap_u64 z
 have h:=bits_mask .u64 64 (by decide) wraps_u64 8 (by decide) (IntKind.u64.wrap z / 1099511627776) (by omega) (by omega)
 have h':Go.bits .and .u64 (IntKind.u64.wrap z / 1099511627776) 255=IntKind.u64.wrap z / 1099511627776 % 256:=by simpa using h
 rw [h']
 omega
def Bytes (l:List Int):Prop:=l.length≤1048576∧∀ x ∈ l,0≤x∧x≤255
theorem next_ev (l:List Int) (hl:Bytes l) (a s:Int) (h0:0≤a) (h1:a≤1000000000):∃ x s',spec_l1Cur_next.f l a s=some (x,a+1,s')∧0≤x∧x≤255:=by
 have hb:=hl.1
 unfold spec_l1Cur_next.f
 rw [w64 (x:=a+1) (by omega) (by omega)]
 by_cases c:a<(l.length:Int)
 ·simp only [if_pos c,if_pos h0]
  have hx:=hl.2 _ (rd_mem h0 c)
  by_cases c2:a+1≤(l.length:Int)
  ·simp only [if_pos c2]
   refine ⟨_,_,rfl,?_⟩
   rw [w64 (by omega) (by omega)]
   exact hx
  ·omega
 ·simp only [if_neg c]
  by_cases c2:a+1≤(l.length:Int)
  ·omega
  ·simp only [if_neg c2]
   refine ⟨_,_,rfl,?_⟩
   have:=and255 (IntKind.u64.wrap (IntKind.u64.wrap (s*6364136223846793005)+0)+1442695040888963407)
   rw [w64 (by omega) (by omega)]
   exact this
theorem pick_ev (l:List Int) (hl:Bytes l) (a s n:Int) (h0:0≤a) (h1:a≤900000000):∃ x a' s',spec_l1Cur_pick.f l a s n=some (x,a',s')∧0≤x∧(x=0∨x<n)∧a≤a'∧a'≤a+2:=by
 unfold spec_l1Cur_pick.f
 by_cases c:n≤1
 ·simp only [if_pos c]
  exact ⟨_,_,_,rfl,by omega,by omega,by omega,by omega⟩
 ·simp only [if_neg c]
  obtain ⟨x,s1,e1,b1,b2⟩:=next_ev l hl a s h0 (by omega)
  simp only [e1,zbd]
  by_cases c2:n>200
  ·simp only [if_pos c2]
   obtain ⟨y,s2,e2,b3,b4⟩:=next_ev l hl (a+1) s1 (by omega) (by omega)
   simp only [e2,zbd,if_neg (show ¬ n=0 by omega)]
   have t:=tmod_bd (x*256+y) n (by omega) (by omega)
   refine ⟨_,_,_,rfl,?_⟩
   rw [w64 (x:=x*256) (by omega) (by omega),w64 (x:=x*256+y) (by omega) (by omega)]
   omega
  ·simp only [if_neg c2,if_neg (show ¬ n=0 by omega)]
   have t:=tmod_bd x n (by omega) (by omega)
   exact ⟨_,_,_,rfl,by omega,by omega,by omega,by omega⟩
theorem one_ev (l:List Int) (hl:Bytes l) (a s n:Int) (h0:0≤a) (h1:a≤900000000):∃ x a' s',spec_l1Cur_one.f l a s n=some (x,a',s')∧a≤a'∧a'≤a+2:=by
 unfold spec_l1Cur_one.f
 obtain ⟨x,a',s',e,_,_,b1,b2⟩:=pick_ev l hl a s n h0 h1
 simp only [e,zbd]
 exact ⟨_,_,_,rfl,b1,b2⟩
theorem among_ev (l:List Int) (hl:Bytes l) (a s:Int) (L:List Int) (hL:0<L.length) (h0:0≤a) (h1:a≤900000000):∃ x a' s',spec_l1Cur_among.f l a s L=some (x,a',s')∧x ∈ L∧a≤a'∧a'≤a+2:=by
 unfold spec_l1Cur_among.f
 obtain ⟨x,a',s',e,b0,b,b1,b2⟩:=pick_ev l hl a s (L.length:Int) h0 h1
 simp only [e,zbd,if_pos b0,if_pos (show x<(L.length:Int) by omega)]
 exact ⟨_,_,_,rfl,rd_mem b0 (by omega),b1,b2⟩
structure Bd (n m:Int) (l:List Int):Prop where
 len:(l.length:Int)≤n
 low:∀ x ∈ l,-1≤x
 high:∀ x ∈ l,x≤m
theorem Bd.le {n m n' m':Int} {l:List Int} (h:Bd n m l) (h1:n≤n') (h2:m≤m'):Bd n' m' l:=⟨by have:=h.len;omega,h.low,fun x hx=>by have:=h.high x hx;omega⟩
theorem Bd.snoc {n m:Int} {l:List Int} (h:Bd n m l) {x:Int} (h1 : -1≤x) (h2:x≤m):Bd (n+1) m (l ++ [x]):=by
 refine ⟨by have:=h.len;rw [List.length_append];simp;omega,fun y hy => ?_,fun y hy => ?_⟩
 ·rcases List.mem_append.1 hy with hy | hy
  ·exact h.low y hy
  ·have:y=x:=by simpa using hy
   omega
 ·rcases List.mem_append.1 hy with hy | hy
  ·exact h.high y hy
  ·have:y=x:=by simpa using hy
   omega
theorem Bd.nil (n m:Int) (h:0≤n):Bd n m []:=⟨tabg,fun x hx=>by simp at hx,fun x hx=>by simp at hx⟩
theorem Bd.small {n m:Int} {l:List Int} (h:Bd n m l) (h1:n≤1000):l.length≤1048576:=by
 have:=h.len
 omega
theorem list_l (l:List Int) (hl:Bytes l) (m:Int) (hm:0≤m) (hm2:m≤1000):∀ (d:Nat) (acc:List Int) (a s:Int),(d:Int)≤10→acc.length≤10→0≤a→a≤800000000+10*(10 - (d:Int))→Bd (10 - (d:Int)) m acc→∃ r a' s',Ev (fun k=>spec_l1Cur_list.l0 k m acc (d:Int) l a s) (r,a',s')∧Bd 10 m r∧a≤a'∧a'≤a+2*(d:Int)
 | 0,acc,a,s,hd,hc,h0,h1,hb=>by
  refine ⟨acc,a,s,Ev.succ ?_,hb.le (by omega) (by omega),by omega,by omega⟩
  simp only [spec_l1Cur_list.l0,if_neg (show ¬ ((0:Nat):Int)>0 by omega)]
  exact Ev.now _
 | d+1,acc,a,s,hd,hc,h0,h1,hb=>by
  obtain ⟨x,a1,s1,e,b0,b,b1,b2⟩:=pick_ev l hl a s (m+1) h0 (by omega)
  have hl1:=hb.len
  obtain ⟨r,a',s',h,hr,q1,q2⟩:=list_l l hl m hm hm2 d (acc ++ [x]) a1 s1 (by omega) (tacm) (by omega) (by omega) ((hb.snoc (by omega) (by omega)).le (by omega) (by omega))
  refine ⟨r,a',s',Ev.succ ?_,hr,by omega,by omega⟩
  simp only [spec_l1Cur_list.l0,if_pos (show ((d+1:Nat):Int)>0 by omega),w64 (x:=m+1) (by omega) (by omega),e,zbd,if_pos (show acc.length<17592186044416 by omega),w64 (x:=((d+1:Nat):Int) - 1) (by omega) (by omega)]
  rw [show ((d+1:Nat):Int) - 1=(d:Int) by omega]
  exact h
theorem list_ev (l:List Int) (hl:Bytes l) (m:Int) (hm:0≤m) (hm2:m≤1000) (a s:Int) (h0:0≤a) (h1:a≤700000000):∃ r a' s',Ev (fun k=>spec_l1Cur_list.f k l a s m) (r,a',s')∧Bd 10 m r∧a≤a'∧a'≤a+100:=by
 obtain ⟨x,a1,s1,e,b0,b,b1,b2⟩:=pick_ev l hl a s 6 h0 (by omega)
 obtain ⟨d,hd⟩:=Int.eq_ofNat_of_zero_le (show 0≤1+x by omega)
 have hd':1+x=(d:Int):=hd
 obtain ⟨r,a',s',h,hr,q1,q2⟩:=list_l l hl m hm hm2 d [] a1 s1 (by omega) (taac) (by omega) (by omega) (Bd.nil _ _ (by omega))
 refine ⟨r,a',s',?_,hr,by omega,by omega⟩
 unfold spec_l1Cur_list.f
 simp only [e,zbd,w64 (x:=1+x) (by omega) (by omega)]
 rw [hd']
 exact h
theorem any_l (l:List Int) (hl:Bytes l) (m:Int) (hm:9≤m) (hm2:m≤1000):∀ (d:Nat) (acc:List Int) (a s:Int),d≤12→acc.length+d=12→0≤a→a≤800000000+10*(acc.length:Int)→Bd 12 m acc→∃ r a' s',Ev (fun k=>spec_l1Cur_anyList.l0 k acc l a s) (r,a',s')∧Bd 12 m r∧a≤a'∧a'≤a+2+4*(d:Int)
 | 0,acc,a,s,hd,hc,h0,h1,hb=>by
  obtain ⟨x,a1,s1,e,b0,b,b1,b2⟩:=pick_ev l hl a s 2 h0 (by omega)
  refine ⟨acc,a1,s1,Ev.succ ?_,hb,by omega,by omega⟩
  simp only [spec_l1Cur_anyList.l0,e,zbd,w64 (x:=8+x) (by omega) (by omega),if_neg (show ¬ (acc.length:Int)<8+x by omega)]
  exact Ev.now _
 | d+1,acc,a,s,hd,hc,h0,h1,hb=>by
  obtain ⟨x,a1,s1,e,b0,b,b1,b2⟩:=pick_ev l hl a s 2 h0 (by omega)
  by_cases c:(acc.length:Int)<8+x
  ·obtain ⟨y,a2,s2,e2,c0,c3,c1,c2⟩:=pick_ev l hl a1 s1 9 (by omega) (by omega)
   have hbb:Bd 12 m (acc ++ [y]):=by
    refine ⟨tacm,fun z hz => ?_,fun z hz => ?_⟩
    ·rcases List.mem_append.1 hz with hz | hz
     ·exact hb.low z hz
     ·have:z=y:=by simpa using hz
      omega
    ·rcases List.mem_append.1 hz with hz | hz
     ·exact hb.high z hz
     ·have:z=y:=by simpa using hz
      omega
   obtain ⟨r,a',s',h,hr,q1,q2⟩:=any_l l hl m hm hm2 d (acc ++ [y]) a2 s2 (by omega) (tacm) (by omega) (tacm) hbb
   refine ⟨r,a',s',Ev.succ ?_,hr,by omega,by omega⟩
   simp only [spec_l1Cur_anyList.l0,e,zbd,w64 (x:=8+x) (by omega) (by omega),if_pos c,e2,if_pos (show acc.length<17592186044416 by omega)]
   exact h
  ·refine ⟨acc,a1,s1,Ev.succ ?_,hb,by omega,by omega⟩
   simp only [spec_l1Cur_anyList.l0,e,zbd,w64 (x:=8+x) (by omega) (by omega),if_neg c]
   exact Ev.now _
theorem anyList_ev (l:List Int) (hl:Bytes l) (m:Int) (hm:0≤m) (hm2:m≤1000) (a s:Int) (h0:0≤a) (h1:a≤600000000):∃ r a' s',Ev (fun k=>spec_l1Cur_anyList.f k l a s m) (r,a',s')∧Bd 12 (max m 61) r∧a≤a'∧a'≤a+200:=by
 obtain ⟨L,a1,s1,e1,hL,b1,b2⟩:=list_ev l hl m hm hm2 a s h0 (by omega)
 obtain ⟨x,a2,s2,e2,c0,c3,c1,c2⟩:=pick_ev l hl a1 s1 14 (by omega) (by omega)
 have hlen:=hL.len
 have hL':Bd 12 (max m 61) L:=hL.le (by omega) (by omega)
 by_cases t0:x=0
 ·obtain ⟨y,a3,s3,e3,hy,d1,d2⟩:=among_ev l hl a2 s2 [-1,0,60,61] (taac) (by omega) (by omega)
  have hy' : -1≤y∧y≤61:=by
   simp at hy
   omega
  refine ⟨L ++ [y],a3,s3,?_,(Bd.snoc (hL.le (n':=10) (m':=max m 61) (by omega) (by omega)) hy'.1 (by omega)).le (by omega) (by omega),by omega,by omega⟩
  unfold spec_l1Cur_anyList.f
  refine Ev.bind e1 ?_
  simp only [e2,zbd,if_pos t0,e3,if_pos (show L.length<17592186044416 by omega)]
  exact Ev.now _
 ·by_cases t1:x=1
  ·obtain ⟨r,a3,s3,e3,hr,d1,d2⟩:=any_l l hl (max m 61) (by omega) (by omega) (12 - L.length) L a2 s2 (by omega) (by omega) (by omega) (by omega) hL'
   refine ⟨r,a3,s3,?_,hr,by omega,by omega⟩
   unfold spec_l1Cur_anyList.f
   refine Ev.bind e1 ?_
   simp only [e2,zbd,if_neg t0,if_pos t1]
   exact e3
  ·by_cases t2:x=2
   ·refine ⟨[],a2,s2,?_,Bd.nil _ _ (by omega),by omega,by omega⟩
    unfold spec_l1Cur_anyList.f
    refine Ev.bind e1 ?_
    simp only [e2,zbd,if_neg t0,if_neg t1,if_pos t2]
    exact Ev.now _
   ·refine ⟨L,a2,s2,?_,hL',by omega,by omega⟩
    unfold spec_l1Cur_anyList.f
    refine Ev.bind e1 ?_
    simp only [e2,zbd,if_neg t0,if_neg t1,if_neg t2]
    exact Ev.now _
theorem Bd.set {n m:Int} {l:List Int} (h:Bd n m l) (i:Nat) {x:Int} (h1 : -1≤x) (h2:x≤m):Bd n m (l.set i x):=by
 refine ⟨by rw [List.length_set];exact h.len,fun y hy => ?_,fun y hy => ?_⟩
 ·rcases List.mem_or_eq_of_mem_set hy with hy | rfl
  ·exact h.low y hy
  ·exact h1
 ·rcases List.mem_or_eq_of_mem_set hy with hy | rfl
  ·exact h.high y hy
  ·exact h2
theorem fit_end (l:List Int) (hl:Bytes l) (b acc:List Int) (n:Int) (hb:Bd 12 100 b) (hx:Bd 12 100 acc) (a s:Int) (h0:0≤a) (h1:a≤800000000):∃ x y a' s',Ev (fun k=>spec_l1Cur_fitting.j1 k b acc n false l a s) (x,y,a',s')∧Bd 12 100 x∧Bd 12 100 y∧a≤a'∧a'≤a+10:=by
 obtain ⟨t,a1,s1,e,b1,b2⟩:=one_ev l hl a s 5 h0 (by omega)
 cases t with
 | true =>
  refine ⟨b,acc,a1,s1,Ev.succ ?_,hb,hx,by omega,by omega⟩
  simp only [spec_l1Cur_fitting.j1,zbm,if_false,e,zbd,if_true]
  exact Ev.now _
 | false =>
  refine ⟨acc,b,a1,s1,Ev.succ ?_,hx,hb,by omega,by omega⟩
  simp only [spec_l1Cur_fitting.j1,zbm,if_false,e,zbd]
  exact Ev.now _
theorem fit_l (l:List Int) (hl:Bytes l) (b:List Int) (hb:Bd 12 100 b):∀ (d:Nat) (acc:List Int) (a s:Int),(d:Int)≤12→0≤a→a≤700000000 - 100*(d:Int)→Bd 12 (80 - (d:Int)) acc→∃ x y a' s',Ev (fun k=>spec_l1Cur_fitting.l0 k b acc (d:Int) l a s) (x,y,a',s')∧Bd 12 100 x∧Bd 12 100 y∧a≤a'∧a'≤a+10+30*(d:Int):=by
 intro d
 induction d with
 | zero =>
  intro acc a s hd h0 h1 hacc
  obtain ⟨x,y,a',s',e,q1,q2,q3,q4⟩:=fit_end l hl b acc ((0:Nat):Int) hb (hacc.le (by omega) (by omega)) a s h0 (by omega)
  refine ⟨x,y,a',s',Ev.succ ?_,q1,q2,q3,by omega⟩
  simp only [spec_l1Cur_fitting.l0,if_neg (show ¬ ((0:Nat):Int)>0 by omega)]
  exact e
 | succ d ih =>
  intro acc a s hd h0 h1 hacc
  have hlen:=hacc.len
  have hbig:Bd 12 100 acc:=hacc.le (by omega) (by omega)
  by_cases c:(acc.length:Int)>1
  ·obtain ⟨i,a1,s1,e1,p0,p,p1,p2⟩:=pick_ev l hl a s (acc.length:Int) h0 (by omega)
   obtain ⟨j,a2,s2,e2,r0,r,r1,r2⟩:=pick_ev l hl a1 s1 (acc.length:Int) (by omega) (by omega)
   have hi:i<(acc.length:Int):=by omega
   have hj:j<(acc.length:Int):=by omega
   have b1:=hacc.high _ (rd_mem p0 hi)
   have b2:=hacc.low _ (rd_mem p0 hi)
   have keep:∀ (a3 s3:Int),a2≤a3→a3≤a2+2→∃ x y a' s',Ev (fun k=>spec_l1Cur_fitting.l0 k b acc (wrap64 (((d+1:Nat):Int) - 1)) l a3 s3) (x,y,a',s')∧Bd 12 100 x∧Bd 12 100 y∧a3≤a'∧a'≤a3+10+30*(d:Int):=fun a3 s3 g1 g2=>by
    rw [w64 (by omega) (by omega),show ((d+1:Nat):Int) - 1=(d:Int) by omega]
    exact ih acc a3 s3 (by omega) (by omega) (by omega) (hacc.le (by omega) (by omega))
   have move:rd acc i>0→∀ (a3 s3:Int),a2≤a3→a3≤a2+2→∃ x y a' s',Ev (fun k=>spec_l1Cur_fitting.l0 k b ((acc.set i.toNat (wrap64 (rd acc i - 1))).set j.toNat (wrap64 (rd (acc.set i.toNat (wrap64 (rd acc i - 1))) j+1))) (wrap64 (((d+1:Nat):Int) - 1)) l a3 s3) (x,y,a',s')∧Bd 12 100 x∧Bd 12 100 y∧a3≤a'∧a'≤a3+10+30*(d:Int):=fun hp a3 s3 g1 g2=>by
    rw [w64 (x:=((d+1:Nat):Int) - 1) (by omega) (by omega),show ((d+1:Nat):Int) - 1=(d:Int) by omega,w64 (x:=rd acc i - 1) (by omega) (by omega)]
    have h1:Bd 12 (80 - ((d+1:Nat):Int)) (acc.set i.toNat (rd acc i - 1)):=hacc.set _ (by omega) (by omega)
    have c1:=h1.high _ (rd_mem (l:=acc.set i.toNat (rd acc i - 1)) r0 (by rw [List.length_set];exact hj))
    have c2:=h1.low _ (rd_mem (l:=acc.set i.toNat (rd acc i - 1)) r0 (by rw [List.length_set];exact hj))
    rw [w64 (x:=rd (acc.set i.toNat (rd acc i - 1)) j+1) (by omega) (by omega)]
    exact ih _ a3 s3 (by omega) (by omega) (by omega) ((h1.le (n':=12) (m':=80 - (d:Int)) (by omega) (by omega)).set _ (by omega) (by omega))
   have body:∃ x y a' s',Ev (fun k=>spec_l1Cur_fitting.j1 k b acc ((d+1:Nat):Int) true l a s) (x,y,a',s')∧Bd 12 100 x∧Bd 12 100 y∧a≤a'∧a'≤a+20+30*(d:Int):=by
    by_cases t1:rd acc i>0
    ·by_cases t2:rd acc i>rd acc j
     ·obtain ⟨x,y,a',s',h,q1,q2,q3,q4⟩:=move t1 a2 s2 (by omega) (by omega)
      refine ⟨x,y,a',s',Ev.succ ?_,q1,q2,by omega,by omega⟩
      simp only [spec_l1Cur_fitting.j1,if_true,e1,e2,zbd,if_pos p0,if_pos hi,if_pos t1,if_pos r0,if_pos hj,if_pos t2]
      exact h
     ·obtain ⟨t,a3,s3,e3,f1,f2⟩:=one_ev l hl a2 s2 4 (by omega) (by omega)
      cases t with
      | true =>
       obtain ⟨x,y,a',s',h,q1,q2,q3,q4⟩:=move t1 a3 s3 (by omega) (by omega)
       refine ⟨x,y,a',s',Ev.succ ?_,q1,q2,by omega,by omega⟩
       simp only [spec_l1Cur_fitting.j1,if_true,e1,e2,e3,zbd,if_pos p0,if_pos hi,if_pos t1,if_pos r0,if_pos hj,if_neg t2]
       exact h
      | false =>
       obtain ⟨x,y,a',s',h,q1,q2,q3,q4⟩:=keep a3 s3 (by omega) (by omega)
       refine ⟨x,y,a',s',Ev.succ ?_,q1,q2,by omega,by omega⟩
       simp only [spec_l1Cur_fitting.j1,if_true,e1,e2,e3,zbd,if_pos p0,if_pos hi,if_pos t1,if_pos r0,if_pos hj,if_neg t2,zbm,if_false]
       exact h
    ·obtain ⟨x,y,a',s',h,q1,q2,q3,q4⟩:=keep a2 s2 (by omega) (by omega)
     refine ⟨x,y,a',s',Ev.succ ?_,q1,q2,by omega,by omega⟩
     simp only [spec_l1Cur_fitting.j1,if_true,e1,e2,zbd,if_pos p0,if_pos hi,if_neg t1]
     exact h
   obtain ⟨x,y,a',s',h,q1,q2,q3,q4⟩:=body
   refine ⟨x,y,a',s',Ev.succ ?_,q1,q2,by omega,by omega⟩
   simp only [spec_l1Cur_fitting.l0,if_pos (show ((d+1:Nat):Int)>0 by omega),zba c]
   exact h
  ·obtain ⟨x,y,a',s',e,q1,q2,q3,q4⟩:=fit_end l hl b acc ((d+1:Nat):Int) hb hbig a s h0 (by omega)
   refine ⟨x,y,a',s',Ev.succ ?_,q1,q2,q3,by omega⟩
   simp only [spec_l1Cur_fitting.l0,if_pos (show ((d+1:Nat):Int)>0 by omega),zbj c]
   exact e
theorem fitting_ev (l:List Int) (hl:Bytes l) (m:Int) (hm:0≤m) (hm2:m≤61) (a s:Int) (h0:0≤a) (h1:a≤500000000):∃ x y a' s',Ev (fun k=>spec_l1Cur_fitting.f k l a s m) (x,y,a',s')∧Bd 12 100 x∧Bd 12 100 y∧a≤a'∧a'≤a+1000:=by
 obtain ⟨b,a1,s1,e1,hb,b1,b2⟩:=anyList_ev l hl m hm (by omega) a s h0 (by omega)
 obtain ⟨t,a2,s2,e2,c1,c2⟩:=one_ev l hl a1 s1 5 (by omega) (by omega)
 have hb':Bd 12 100 b:=hb.le (by omega) (by omega)
 cases t with
 | true =>
  obtain ⟨q,a3,s3,e3,hq,d1,d2⟩:=anyList_ev l hl m hm (by omega) a2 s2 (by omega) (by omega)
  refine ⟨q,b,a3,s3,?_,hq.le (by omega) (by omega),hb',by omega,by omega⟩
  unfold spec_l1Cur_fitting.f
  refine Ev.bind e1 ?_
  simp only [e2,zbd,if_true]
  exact Ev.bind e3 (Ev.now _)
 | false =>
  obtain ⟨n,a3,s3,e3,n0,n1,d1,d2⟩:=pick_ev l hl a2 s2 12 (by omega) (by omega)
  obtain ⟨d,hd⟩:=Int.eq_ofNat_of_zero_le n0
  have hd':n=(d:Int):=hd
  have hlen:=hb.len
  obtain ⟨x,y,a',s',h,q1,q2,q3,q4⟩:=fit_l l hl b hb' d b a3 s3 (by omega) (by omega) (by omega) (hb.le (by omega) (by omega))
  refine ⟨x,y,a',s',?_,q1,q2,by omega,by omega⟩
  unfold spec_l1Cur_fitting.f
  refine Ev.bind e1 ?_
  simp only [e2,zbd,zbm,if_false,l1Own_eq b (by omega),e3]
  rw [hd']
  exact h

theorem tot_le {l:List (List Int)} {B:Nat} (h:∀ x ∈ l,x.length≤B):totSS l≤B*l.length:=by
 induction l with
 | nil=>simp [totSS]
 | cons x l ih =>
  have:=ih (fun y hy=>h y (List.mem_cons_of_mem _ hy))
  have:=h x List.mem_cons_self
  simp only [totSS,zau,List.sum_cons,List.length_cons,Nat.mul_succ] at *
  omega
theorem l1Has_l (xs:List Int) (x:Int) (hx:xs.length≤9223372036854775807):∀ (n i:Nat),i+n=xs.length→Ev (fun k=>spec_l1Has.l0 k x xs (xs.length:Int) (i:Int)) (decide (x ∈ xs.drop i))
 | 0,i,h=>by
  refine Ev.succ ?_
  simp only [spec_l1Has.l0,if_neg (show ¬ (i:Int)<(xs.length:Int) by omega)]
  rw [List.drop_eq_nil_of_le (by omega),zbj (taac)]
  exact Ev.now _
 | n+1,i,h=>by
  have hi:i<xs.length:=by omega
  refine Ev.succ ?_
  simp only [spec_l1Has.l0,if_pos (show (i:Int)<(xs.length:Int) by omega),if_pos (show (0:Int)≤(i:Int) by omega),rdn hi,wsucc hi hx]
  rw [List.drop_eq_getElem_cons hi]
  by_cases c:xs[i]=x
  ·simp only [if_pos c]
   rw [zba (by rw [c];exact List.mem_cons_self)]
   exact Ev.now _
  ·simp only [if_neg c,List.mem_cons,show ¬ x=xs[i] from fun e=>c e.symm,false_or]
   exact l1Has_l xs x hx n (i+1) (by omega)
theorem l1Has_ev (xs:List Int) (x:Int) (hx:xs.length≤9223372036854775807):Ev (fun k=>spec_l1Has.f k xs x) (decide (x ∈ xs)):=l1Has_l xs x hx xs.length 0 (by omega)
def placeB (xs:List Int):Bool:=if (1:Int)≤xs.length∧(xs.length:Int)≤6 then (if xs.Nodup then inR 0 ((xs.length:Int) - 1) xs else false) else false
theorem doPlacing_l (xs:List Int) (hx:xs.length≤6):∀ (n i:Nat),i+n=xs.length→(xs.take i).Nodup→Ev (fun k=>spec_doPlacing.l0 k xs xs (xs.length:Int) (i:Int)) (if xs.Nodup then inR 0 ((xs.length:Int) - 1) xs else false)
 | 0,i,h,hn=>by
  refine Ev.succ ?_
  rw [List.take_of_length_le (by omega)] at hn
  simp only [spec_doPlacing.l0,if_neg (show ¬ (i:Int)<(xs.length:Int) by omega),w64 (x:=(xs.length:Int) - 1) (by omega) (by omega),if_pos hn]
  exact Ev.bind (l1All_ev xs _ _ (by omega)) (Ev.now _)
 | n+1,i,h,hn=>by
  have hi:i<xs.length:=by omega
  refine Ev.succ ?_
  simp only [spec_doPlacing.l0,if_pos (show (i:Int)<(xs.length:Int) by omega),if_pos (show (0:Int)≤(i:Int) by omega),if_pos (show (i:Int)≤(xs.length:Int) by omega),rdn hi,wsucc hi (by omega),Int.toNat_natCast]
  refine Ev.bind (l1Has_ev (xs.take i) xs[i] (by rw [zax];omega)) ?_
  by_cases c:xs[i] ∈ xs.take i
  ·simp only [zba c,if_true]
   have hnot:¬ xs.Nodup:=by
    intro hd
    have h1:=hd.sublist (List.take_sublist (i+1) xs)
    rw [List.take_succ_eq_append_getElem hi,List.nodup_append] at h1
    exact h1.2.2 _ c _ List.mem_cons_self rfl
   rw [if_neg hnot]
   exact Ev.now _
  ·simp only [zbj c,if_neg (show ¬ (false=true) by decide)]
   refine doPlacing_l xs hx n (i+1) (by omega) ?_
   rw [List.take_succ_eq_append_getElem hi,List.nodup_append]
   refine ⟨hn,taac,fun a ha b hb => ?_⟩
   rw [List.mem_singleton] at hb
   rw [hb]
   rintro rfl
   exact c ha
theorem doPlacing_ev (xs:List Int):Ev (fun k=>spec_doPlacing.f k xs) (placeB xs):=by
 unfold spec_doPlacing.f placeB
 simp only [l1In_eq,zbd,decide_eq_true_eq]
 exact Ev.ite (fun h=>doPlacing_l xs (by omega) xs.length 0 (by omega) (taac)) (fun _=>Ev.now _)
theorem placeB_len {l0:List Int} (h:placeB l0=true):1≤l0.length∧l0.length≤6∧l0.Nodup∧∀ x ∈ l0,0≤x∧x<(l0.length:Int):=by
 unfold placeB at h
 split at h
 ·next h1 =>
  split at h
  ·next h2 =>
   unfold inR at h
   simp only [List.all_eq_true,decide_eq_true_eq] at h
   exact ⟨by omega,by omega,h2,fun x hx=>by have:=h x hx;omega⟩
  ·cases h
 ·cases h
structure Sq (n:Nat) (T:List (List Int)):Prop where
 len:T.length=n
 row:∀ i,i<n→(rd_L2 T (i:Int)).length=n
theorem Sq.set {n:Nat} {T:List (List Int)} (h:Sq n T) {i:Nat} (hi:i<n) {r:List Int} (hr:r.length=n):Sq n (T.set i r):=by
 refine ⟨by rw [List.length_set,h.len],fun j hj => ?_⟩
 have hl:=h.len
 rw [rd_L1n (show j<(T.set i r).length by rw [List.length_set];omega),List.getElem_set]
 by_cases e:i=j
 ·rw [if_pos e]
  exact hr
 ·rw [if_neg e,← rd_L1n (show j<T.length by omega)]
  exact h.row j hj
theorem Sq.zero (n:Nat):Sq n (tabG n fun _ _=>0):=⟨tabG_length _ _,fun i hi=>tabG_rowlen _ hi⟩
theorem placing_dl (l:List Int) (hl:Bytes l) (n:Nat) (hn:n≤10):∀ (d i:Nat) (acc:List Int) (a s:Int),i+d=n→acc.length=i→0≤a→a≤700000000+10*(i:Int)→∃ r a' s',Ev (fun k=>spec_l1Cur_placing.l0 k (n:Int) acc (i:Int) l a s) (r,a',s')∧r.length=n∧a≤a'∧a'≤a+2*(d:Int)+6
 | 0,i,acc,a,s,hi,hacc,h0,h1=>by
  have e:acc.length=n:=by omega
  have J:∀ a s,Ev (fun k=>spec_l1Cur_placing.j1 k (n:Int) acc false l a s) (acc,a,s):=fun a s=>Ev.succ (by simp only [spec_l1Cur_placing.j1,zbm,if_false];exact Ev.now _)
  by_cases c:(acc.length:Int)>0
  ·obtain ⟨t,a1,s1,e1,b0,b1⟩:=one_ev l hl a s 25 h0 (by omega)
   cases t with
   | false =>
    refine ⟨acc,a1,s1,Ev.succ ?_,e,by omega,by omega⟩
    simp only [spec_l1Cur_placing.l0,if_neg (show ¬ (i:Int)<(n:Int) by omega),if_pos c,e1,zbd]
    exact J _ _
   | true =>
    obtain ⟨x,a2,s2,e2,x0,x1,c0,c1⟩:=pick_ev l hl a1 s1 (acc.length:Int) (by omega) (by omega)
    obtain ⟨y,a3,s3,e3,y0,d0,d1⟩:=among_ev l hl a2 s2 ([(-1),0,(n:Int),4611686018427387904]:List Int) (taac) (by omega) (by omega)
    refine ⟨acc.set x.toNat y,a3,s3,Ev.succ ?_,by rw [List.length_set];exact e,by omega,by omega⟩
    simp only [spec_l1Cur_placing.l0,if_neg (show ¬ (i:Int)<(n:Int) by omega),if_pos c,e1,zbd]
    refine Ev.succ ?_
    simp only [spec_l1Cur_placing.j1,if_true,e2,e3,zbd,if_pos x0,if_pos (show x<(acc.length:Int) by omega)]
    exact Ev.now _
  ·refine ⟨acc,a,s,Ev.succ ?_,e,by omega,by omega⟩
   simp only [spec_l1Cur_placing.l0,if_neg (show ¬ (i:Int)<(n:Int) by omega),if_neg c]
   exact J _ _
 | d+1,i,acc,a,s,hi,hacc,h0,h1=>by
  obtain ⟨x,a1,s1,e1,x0,x1,b0,b1⟩:=pick_ev l hl a s (wrap64 ((i:Int)+1)) h0 (by omega)
  have hw:wrap64 ((i:Int)+1)=((i+1:Nat):Int):=by rw [w64 (by omega) (by omega)];omega
  rw [hw] at e1 x1
  have hx:x≤(acc.length:Int):=by omega
  have hlt:(acc.take x.toNat).length=x.toNat:=by rw [zax];omega
  have hld:(acc.drop x.toNat).length=acc.length - x.toNat:=zaw
  obtain ⟨r,a',s',er,hr,q1,q2⟩:=placing_dl l hl n hn d (i+1) ((([]:List Int) ++ acc.take x.toNat ++ [(i:Int)]) ++ acc.drop x.toNat) a1 s1 (by omega) (by simp only [List.nil_append,List.length_append,List.length_singleton,hlt,hld];omega) (by omega) (by omega)
  refine ⟨r,a',s',Ev.succ ?_,hr,by omega,by omega⟩
  simp only [spec_l1Cur_placing.l0,if_pos (show (i:Int)<(n:Int) by omega),hw,e1,zbd,if_pos x0,if_pos hx,List.length_nil,List.length_append,List.nil_append,List.length_singleton,hlt,hld,if_pos (show 0+x.toNat<17592186044416 by omega),if_pos (show x.toNat<17592186044416 by omega),if_pos (show 0+x.toNat+1+(acc.length - x.toNat)<17592186044416 by omega),if_pos (show x.toNat+1+(acc.length - x.toNat)<17592186044416 by omega)]
  simp only [List.nil_append] at er
  exact er
theorem placing_dev (l:List Int) (hl:Bytes l) (n:Nat) (hn:n≤10) (a s:Int) (h0:0≤a) (h1:a≤700000000):∃ r a' s',Ev (fun k=>spec_l1Cur_placing.f k l a s (n:Int)) (r,a',s')∧r.length=n∧a≤a'∧a'≤a+30:=by
 obtain ⟨r,a',s',e,h,q1,q2⟩:=placing_dl l hl n hn n 0 [] a s (by omega) rfl h0 (by omega)
 exact ⟨r,a',s',e,h,q1,by omega⟩
theorem equal_dl1 (l:List Int) (n:Nat) (hn:n≤10) (p:List Int) (hp:p.length=n) (hb:∀ x ∈ p,0≤x∧x<(n:Int)) (x6 x8 a s:Int) (Q:List (List Int) × Int × Int→Prop) (hr:∀ T,Sq n T→∃ r,Ev (fun k=>spec_l1Cur_equal.l0 k (n:Int) T (wrap64 (x6 - 1)) l a s) r∧Q r):∀ (d i:Nat) (T:List (List Int)),i+d=n→Sq n T→∃ r,Ev (fun k=>spec_l1Cur_equal.l1 k (n:Int) T x6 x8 p (n:Int) (i:Int) l a s) r∧Q r
 | 0,i,T,hi,hT=>by
  obtain ⟨r,e,q⟩:=hr T hT
  refine ⟨r,Ev.succ ?_,q⟩
  simp only [spec_l1Cur_equal.l1,if_neg (show ¬ (i:Int)<(n:Int) by omega)]
  exact e
 | d+1,i,T,hi,hT=>by
  have hip:i<p.length:=by omega
  have hl:=hT.len
  have hrow:=hT.row i (by omega)
  have hx:=hb _ (List.getElem_mem hip)
  obtain ⟨r,e,q⟩:=equal_dl1 l n hn p hp hb x6 x8 a s Q hr d (i+1) (T.set i ((rd_L2 T (i:Int)).set (p[i]).toNat (wrap64 (rd (rd_L2 T (i:Int)) p[i]+x8)))) (by omega) (hT.set (by omega) (by rw [List.length_set,hrow]))
  refine ⟨r,Ev.succ ?_,q⟩
  simp only [spec_l1Cur_equal.l1,if_pos (show (i:Int)<(n:Int) by omega),if_pos (Int.natCast_nonneg i),if_pos (show (i:Int)<(p.length:Int) by omega),if_pos (show (i:Int)<(T.length:Int) by omega),rdn hip,if_pos hx.1,if_pos (show p[i]<((rd_L2 T (i:Int)).length:Int) by omega),Int.toNat_natCast,wsucc (show i<n by omega) (by omega)]
  exact e
theorem equal_dl (l:List Int) (hl:Bytes l) (n:Nat) (hn:n≤10):∀ (c:Nat) (T:List (List Int)) (a s:Int),(c:Int)≤5→Sq n T→0≤a→a≤600000000+40*(5 - (c:Int))→∃ r,Ev (fun k=>spec_l1Cur_equal.l0 k (n:Int) T (c:Int) l a s) r∧(Sq n r.1∧a≤r.2.1∧r.2.1≤a+40*(c:Int))
 | 0,T,a,s,hc,hT,h0,h1=>by
  refine ⟨(T,a,s),Ev.succ ?_,hT,Int.le_refl _,taac⟩
  simp only [spec_l1Cur_equal.l0,if_neg (show ¬ ((0:Nat):Int)>0 by omega)]
  exact Ev.now _
 | c+1,T,a,s,hc,hT,h0,h1=>by
  obtain ⟨p,a1,s1,e1,hp,b0,b1⟩:=placing_dev l hl n hn a s h0 (by omega)
  have hw:wrap64 (((c+1:Nat):Int) - 1)=(c:Int):=by rw [w64 (by omega) (by omega)];omega
  by_cases g:placeB p=true
  ·obtain ⟨x,a2,s2,e2,x0,x1,c0,c1⟩:=pick_ev l hl a1 s1 3 (by omega) (by omega)
   have hb:=(placeB_len g).2.2.2
   rw [hp] at hb
   obtain ⟨r,er,q⟩:=equal_dl1 l n hn p hp hb ((c+1:Nat):Int) (wrap64 (1+x)) a2 s2 (fun r=>Sq n r.1∧a≤r.2.1∧r.2.1≤a+40*((c+1:Nat):Int)) (fun T hT=>by
    obtain ⟨r,er,q1,q2,q3⟩:=equal_dl l hl n hn c T a2 s2 (by omega) hT (by omega) (by omega)
    rw [hw]
    exact ⟨r,er,q1,by omega,by omega⟩) n 0 T (by omega) hT
   refine ⟨r,Ev.succ ?_,q⟩
   simp only [spec_l1Cur_equal.l0,if_pos (show ((c+1:Nat):Int)>0 by omega)]
   refine Ev.bind e1 (Ev.bind (doPlacing_ev p) ?_)
   simp only [g,if_true,e2,zbd,hp]
   exact er
  ·obtain ⟨r,er,q1,q2,q3⟩:=equal_dl l hl n hn c T a1 s1 (by omega) hT (by omega) (by omega)
   refine ⟨r,Ev.succ ?_,q1,by omega,by omega⟩
   simp only [spec_l1Cur_equal.l0,if_pos (show ((c+1:Nat):Int)>0 by omega)]
   refine Ev.bind e1 (Ev.bind (doPlacing_ev p) ?_)
   simp only [if_neg g,hw]
   exact er
theorem equal_dev (l:List Int) (hl:Bytes l) (n:Nat) (hn:n≤10) (a s:Int) (h0:0≤a) (h1:a≤600000000):∃ T a' s',Ev (fun k=>spec_l1Cur_equal.f k l a s (n:Int)) (T,a',s')∧Sq n T∧a≤a'∧a'≤a+300:=by
 obtain ⟨x,a1,s1,e1,x0,x1,b0,b1⟩:=pick_ev l hl a s 5 h0 (by omega)
 obtain ⟨c,rfl⟩:∃ c:Nat,x=(c:Int):=⟨x.toNat,by omega⟩
 have hc:(c:Int)≤5:=by omega
 obtain ⟨r,er,q1,q2,q3⟩:=equal_dl l hl n hn c (tabG n fun _ _=>0) a1 s1 hc (Sq.zero n) (by omega) (by omega)
 refine ⟨r.1,r.2.1,r.2.2,?_,q1,by omega,by omega⟩
 unfold spec_l1Cur_equal.f
 refine Ev.bind (doEmpty_ev n (by omega)) ?_
 simp only [e1,zbd]
 exact er
def Few (T:List (List Int)):Prop:=T.length≤11∧∀ x ∈ T,x.length≤10
theorem Sq.few {n:Nat} {T:List (List Int)} (h:Sq n T) (hn:n≤10):Few T:=by
 refine ⟨by rw [h.len];omega,fun x hx => ?_⟩
 obtain ⟨i,hi,rfl⟩:=List.mem_iff_getElem.1 hx
 have:=h.row i (by rw [← h.len];exact hi)
 rw [rd_L1n hi] at this
 omega
theorem Few.tot {T:List (List Int)} (h:Few T):T.length≤1048576∧totSS T≤1048576:=by
 have:=tot_le h.2
 have h1:=h.1
 have h2:10*T.length≤10*11:=Nat.mul_le_mul_left _ h1
 omega
theorem few_set {T:List (List Int)} (h:Few T) (i:Nat) {r:List Int} (hr:r.length≤10):Few (T.set i r):=by
 refine ⟨by rw [List.length_set];exact h.1,fun x hx => ?_⟩
 rcases List.mem_or_eq_of_mem_set hx with k | k
 ·exact h.2 x k
 ·rw [k]
  exact hr
theorem squareD_j2 (l:List Int) (hl:Bytes l) (n:Nat) (h1n:1≤n) (hn:n≤10) (T:List (List Int)) (hT:Sq n T) (a s:Int) (h0:0≤a) (h1:a≤800000000):∃ r,Ev (fun k=>spec_l1Cur_square.j2 k (n:Int) T l a s) r∧(Few r.1∧a≤r.2.1∧r.2.1≤a+20):=by
 have hlen:=hT.len
 obtain ⟨x,a1,s1,e1,x0,x1,b0,b1⟩:=pick_ev l hl a s 16 h0 (by omega)
 by_cases c0:x=0
 ·obtain ⟨i,a2,s2,e2,i0,i1,p0,p1⟩:=pick_ev l hl a1 s1 (n:Int) (by omega) (by omega)
  obtain ⟨j,a3,s3,e3,j0,j1,q0,q1⟩:=pick_ev l hl a2 s2 (n:Int) (by omega) (by omega)
  obtain ⟨v,a4,s4,e4,v0,r0,r1⟩:=among_ev l hl a3 s3 ([(-1),0,1000000,1000001,4611686018427387904]:List Int) (by decide) (by omega) (by omega)
  obtain ⟨i',rfl⟩:∃ i':Nat,i=(i':Int):=⟨i.toNat,by omega⟩
  have hi:i'<n:=by omega
  have hrow:=hT.row i' hi
  refine ⟨(T.set ((i':Int)).toNat ((rd_L2 T ((i':Int))).set j.toNat v),a4,s4),Ev.succ ?_,few_set (hT.few hn) _ (by rw [List.length_set,hrow];exact hn),by show a≤a4;omega,by show a4≤a+20;omega⟩
  simp only [spec_l1Cur_square.j2,e1,zbd,if_pos c0,e2,e3,e4,if_pos i0,if_pos (show (i':Int)<(T.length:Int) by omega),if_pos j0,if_pos (show j<((rd_L2 T ((i':Int))).length:Int) by rw [hrow];omega)]
  exact Ev.now _
 ·by_cases c1:x=1
  ·refine ⟨(T ++ [List.replicate (n:Int).toNat 0],a1,s1),Ev.succ ?_,⟨by rw [List.length_append,List.length_singleton];omega,fun y hy => ?_⟩,by show a≤a1;omega,tacn⟩
   ·simp only [spec_l1Cur_square.j2,e1,zbd,if_neg c0,if_pos c1,if_pos (Int.natCast_nonneg n),if_pos (show (n:Int).toNat≤35184372088832 by omega),if_pos (show T.length<5864062014805 by omega)]
    exact Ev.now _
   ·rcases List.mem_append.1 hy with k | k
    ·exact (hT.few hn).2 y k
    ·rw [List.mem_singleton.1 k,List.length_replicate]
     omega
  ·by_cases c2:x=2
   ·have hrow:=hT.row 0 (by omega)
    have e0:rd_L2 T 0=rd_L2 T ((0:Nat):Int):=rfl
    refine ⟨(T.set 0 ((rd_L2 T 0).drop 1),a1,s1),Ev.succ ?_,few_set (hT.few hn) _ (by rw [zaw,e0,hrow];omega),by show a≤a1;omega,tacn⟩
    simp only [spec_l1Cur_square.j2,e1,zbd,if_neg c0,if_neg c1,if_pos c2,if_pos (show 0<(T.length:Int) by omega),if_pos (show 1≤((rd_L2 T 0).length:Int) by rw [e0,hrow];omega)]
    exact Ev.now _
   ·by_cases c3:x=3
    ·refine ⟨([],a1,s1),Ev.succ ?_,⟨taac,taac⟩,by show a≤a1;omega,tacn⟩
     simp only [spec_l1Cur_square.j2,e1,zbd,if_neg c0,if_neg c1,if_neg c2,if_pos c3]
     exact Ev.now _
    ·refine ⟨(T,a1,s1),Ev.succ ?_,hT.few hn,by show a≤a1;omega,tacn⟩
     simp only [spec_l1Cur_square.j2,e1,zbd,if_neg c0,if_neg c1,if_neg c2,if_neg c3]
     exact Ev.now _
theorem squareD_l1 (l:List Int) (hl:Bytes l) (n:Nat) (h1n:1≤n) (hn:n≤10) (i:Nat) (hi:i<n) (Q:List (List Int) × Int × Int→Prop) (a0:Int) (hr:∀ T a s,Sq n T→a0≤a→a≤a0+10*(n:Int)→∃ r,Ev (fun k=>spec_l1Cur_square.l0 k (n:Int) T (n:Int) (wrap64 ((i:Int)+1)) l a s) r∧Q r) (h0:0≤a0) (h1:a0≤700000000):∀ (d j:Nat) (T:List (List Int)) (a s:Int),j+d=n→Sq n T→a0≤a→a≤a0+10*(j:Int)→∃ r,Ev (fun k=>spec_l1Cur_square.l1 k (n:Int) T (i:Int) (n:Int) (i:Int) (n:Int) (j:Int) l a s) r∧Q r
 | 0,j,T,a,s,hj,hT,g0,g1=>by
  obtain ⟨r,e,q⟩:=hr T a s hT g0 (by omega)
  refine ⟨r,Ev.succ ?_,q⟩
  simp only [spec_l1Cur_square.l1,if_neg (show ¬ (j:Int)<(n:Int) by omega)]
  exact e
 | d+1,j,T,a,s,hj,hT,g0,g1=>by
  have hlen:=hT.len
  have hrow:=hT.row i hi
  obtain ⟨x,a1,s1,e1,x0,x1,b0,b1⟩:=pick_ev l hl a s 9 (by omega) (by omega)
  obtain ⟨v,a2,s2,e2,v0,c0,c1⟩:=among_ev l hl a1 s1 ([0,0,1,2,x]:List Int) (taac) (by omega) (by omega)
  obtain ⟨r,e,q⟩:=squareD_l1 l hl n h1n hn i hi Q a0 hr h0 h1 d (j+1) (T.set i ((rd_L2 T (i:Int)).set j v)) a2 s2 (by omega) (hT.set hi (by rw [List.length_set,hrow])) (by omega) (by omega)
  refine ⟨r,Ev.succ ?_,q⟩
  simp only [spec_l1Cur_square.l1,if_pos (show (j:Int)<(n:Int) by omega),e1,e2,zbd,if_pos (Int.natCast_nonneg i),if_pos (show (i:Int)<(T.length:Int) by omega),if_pos (Int.natCast_nonneg j),if_pos (show (j:Int)<((rd_L2 T (i:Int)).length:Int) by omega),Int.toNat_natCast,wsucc (show j<n by omega) (by omega)]
  exact e
theorem squareD_l0 (l:List Int) (hl:Bytes l) (n:Nat) (h1n:1≤n) (hn:n≤10) (a0:Int) (h0:0≤a0) (h1:a0≤600000000):∀ (d i:Nat) (T:List (List Int)) (a s:Int),i+d=n→Sq n T→a0≤a→a≤a0+100*(i:Int)→∃ r,Ev (fun k=>spec_l1Cur_square.l0 k (n:Int) T (n:Int) (i:Int) l a s) r∧(Few r.1∧a0≤r.2.1∧r.2.1≤a0+2000)
 | 0,i,T,a,s,hi,hT,g0,g1=>by
  obtain ⟨r,e,q1,q2,q3⟩:=squareD_j2 l hl n h1n hn T hT a s (by omega) (by omega)
  refine ⟨r,Ev.succ ?_,q1,by omega,by omega⟩
  simp only [spec_l1Cur_square.l0,if_neg (show ¬ (i:Int)<(n:Int) by omega)]
  exact e
 | d+1,i,T,a,s,hi,hT,g0,g1=>by
  have hlen:=hT.len
  obtain ⟨r,e,q⟩:=squareD_l1 l hl n h1n hn i (by omega) (fun r=>Few r.1∧a0≤r.2.1∧r.2.1≤a0+2000) a (fun T a' s' hT' k0 k1=>by
   rw [wsucc (show i<n by omega) (by omega)]
   exact squareD_l0 l hl n h1n hn a0 h0 h1 d (i+1) T a' s' (by omega) hT' (by omega) (by omega)) (by omega) (by omega) n 0 T a s (by omega) hT (Int.le_refl _) (by omega)
  refine ⟨r,Ev.succ ?_,q⟩
  simp only [spec_l1Cur_square.l0,if_pos (show (i:Int)<(n:Int) by omega),hlen]
  exact e
theorem side_mem {x:Int} (h:x ∈ ([1,2,3,3,3,4,4,6]:List Int)):1≤x∧x≤6:=by
 simp only [List.mem_cons,List.not_mem_nil,or_false] at h
 omega
theorem square_dev (l:List Int) (hl:Bytes l) (a s:Int) (h0:0≤a) (h1:a≤500000000):∃ T a' s',Ev (fun k=>spec_l1Cur_square.f k l a s) (T,a',s')∧Few T∧a≤a'∧a'≤a+3000:=by
 obtain ⟨x,a1,s1,e1,hx,b0,b1⟩:=among_ev l hl a s ([1,2,3,3,3,4,4,6]:List Int) (by decide) h0 (by omega)
 have hx:=side_mem hx;obtain ⟨n,rfl⟩:∃ n:Nat,x=(n:Int):=⟨x.toNat,by omega⟩
 obtain ⟨T,a2,s2,e2,hT,c0,c1⟩:=equal_dev l hl n (by omega) a1 s1 (by omega) (by omega)
 obtain ⟨t,a3,s3,e3,d0,d1⟩:=one_ev l hl a2 s2 3 (by omega) (by omega)
 have hlen:=hT.len
 have hside:spec_l1Cur_side.f l a s=some ((n:Int),a1,s1):=by
  unfold spec_l1Cur_side.f
  simp only [e1,zbd]
 have key:∃ r:List (List Int) × Int × Int,Ev (fun k=>if t=true then spec_l1Cur_square.l0 k (n:Int) T (T.length:Int) 0 l a3 s3 else spec_l1Cur_square.j2 k (n:Int) T l a3 s3) r∧(Few r.1∧a3≤r.2.1∧r.2.1≤a3+2000):=by
  cases t with
  | true =>
   obtain ⟨r,e,q⟩:=squareD_l0 l hl n (by omega) (by omega) a3 (by omega) (by omega) n 0 T a3 s3 (by omega) hT (Int.le_refl _) (by omega)
   refine ⟨r,?_,q⟩
   simp only [if_true,hlen]
   exact e
  | false =>
   obtain ⟨r,e,q1,q2,q3⟩:=squareD_j2 l hl n (by omega) (by omega) T hT a3 s3 (by omega) (by omega)
   refine ⟨r,?_,q1,q2,by omega⟩
   simp only [zbm,if_false]
   exact e
 obtain ⟨r,e,q1,q2,q3⟩:=key
 refine ⟨r.1,r.2.1,r.2.2,?_,q1,by omega,by omega⟩
 unfold spec_l1Cur_square.f
 simp only [hside,zbd]
 refine Ev.bind e2 ?_
 simp only [e3,zbd]
 exact e
theorem drawCarry_l (l:List Int) (hl:Bytes l) (T:List (List Int)) (hT:T.length≤11):∀ (d i:Nat) (acc:List Int) (a s:Int),i+d=T.length→acc.length=i→0≤a→a+10*(d:Int)≤800000000→∃ r,Ev (fun k=>spec_DrawCarryList.l0 k T acc (T.length:Int) (i:Int) l a s) (T,r)∧r.length≤11
 | 0,i,acc,a,s,hi,hacc,h0,h1=>by
  refine ⟨acc,Ev.succ ?_,by omega⟩
  simp only [spec_DrawCarryList.l0,if_neg (show ¬ (i:Int)<(T.length:Int) by omega)]
  exact Ev.now _
 | d+1,i,acc,a,s,hi,hacc,h0,h1=>by
  obtain ⟨x,a1,s1,e1,x0,x1,b0,b1⟩:=pick_ev l hl a s 7 h0 (by omega)
  obtain ⟨y,a2,s2,e2,y0,c0,c1⟩:=among_ev l hl a1 s1 ([1,2,6]:List Int) (taac) (by omega) (by omega)
  obtain ⟨r,er,hr⟩:=drawCarry_l l hl T hT d (i+1) (acc ++ [wrap64 (x*y)]) a2 s2 (by omega) (by rw [List.length_append,List.length_singleton];omega) (by omega) (by omega)
  refine ⟨r,Ev.succ ?_,hr⟩
  simp only [spec_DrawCarryList.l0,if_pos (show (i:Int)<(T.length:Int) by omega),e1,e2,zbd,if_pos (show acc.length<17592186044416 by omega),wsucc (show i<T.length by omega) (by omega)]
  exact er
theorem drawCarry_j0 (l:List Int) (hl:Bytes l) (T:List (List Int)) (hT:Few T) (a s:Int) (h0:0≤a) (h1:a≤700000000):∃ r,Ev (fun k=>spec_DrawCarryList.j0 k T l a s) (T,r)∧r.length≤11:=by
 obtain ⟨r,e,hr⟩:=drawCarry_l l hl T hT.1 T.length 0 [] a s (by omega) rfl h0 (by have:=hT.1;omega)
 refine ⟨r,Ev.succ ?_,hr⟩
 simp only [spec_DrawCarryList.j0]
 exact e
theorem drawCarry_ev (l:List Int) (hl:Bytes l):∃ T b,Ev (fun k=>spec_DrawCarryList.f k l) (T,b)∧T.length≤1048576∧totSS T≤1048576∧b.length≤1000:=by
 obtain ⟨T,a1,s1,e1,hT,b0,b1⟩:=square_dev l hl 0 0 (by omega) (by omega)
 obtain ⟨t,a2,s2,e2,c0,c1⟩:=one_ev l hl a1 s1 3 (by omega) (by omega)
 have hTt:=hT.tot
 cases t with
 | false =>
  obtain ⟨r,er,hr⟩:=drawCarry_j0 l hl T hT a2 s2 (by omega) (by omega)
  refine ⟨T,r,?_,hTt.1,hTt.2,by omega⟩
  unfold spec_DrawCarryList.f
  refine Ev.bind e1 ?_
  simp only [e2,zbd,zbm,if_false]
  exact er
 | true =>
  obtain ⟨x,y,a3,s3,e3,hx,hy,d0,d1⟩:=fitting_ev l hl 4 (by omega) (by omega) a2 s2 (by omega) (by omega)
  have e4:=specTableFor_ev x y (hx.small (by omega)) (hy.small (by omega))
  by_cases c:(tfR x y).2=true
  ·have bd:=tfR_bd x y
   have hyl:=hy.len
   refine ⟨(tfR x y).1,y,?_,by omega,by omega,by omega⟩
   unfold spec_DrawCarryList.f
   refine Ev.bind e1 ?_
   simp only [e2,zbd,if_true]
   refine Ev.bind e3 (Ev.bind e4 ?_)
   simp only [if_pos c]
   exact Ev.now _
  ·obtain ⟨r,er,hr⟩:=drawCarry_j0 l hl T hT a3 s3 (by omega) (by omega)
   refine ⟨T,r,?_,hTt.1,hTt.2,by omega⟩
   unfold spec_DrawCarryList.f
   refine Ev.bind e1 ?_
   simp only [e2,zbd,if_true]
   refine Ev.bind e3 (Ev.bind e4 ?_)
   simp only [if_neg c]
   exact er
theorem drawTabFor_ev (l:List Int) (hl:Bytes l):∃ x y,Ev (fun k=>spec_DrawTableFor.f k l) (x,y)∧x.length≤1000∧y.length≤1000:=by
 obtain ⟨m,a1,s1,e1,hm,b0,b1⟩:=among_ev l hl 0 0 ([4,4,4,5]:List Int) (taac) (by omega) (by omega)
 have hm4:m=4∨m=5:=by simpa using hm
 obtain ⟨x,y,a2,s2,e2,hx,hy,c0,c1⟩:=fitting_ev l hl m (by omega) (by omega) a1 s1 (by omega) (by omega)
 obtain ⟨t,a3,s3,e3,d0,d1⟩:=one_ev l hl a2 s2 3 (by omega) (by omega)
 have h1:=hx.len
 have h2:=hy.len
 cases t with
 | false =>
  refine ⟨x,y,?_,by omega,by omega⟩
  unfold spec_DrawTableFor.f
  simp only [e1,zbd]
  refine Ev.bind e2 ?_
  simp only [e3,zbd,zbm,if_false]
  exact Ev.now _
 | true =>
  refine ⟨y,x,?_,by omega,by omega⟩
  unfold spec_DrawTableFor.f
  simp only [e1,zbd]
  refine Ev.bind e2 ?_
  simp only [e3,zbd,if_true]
  exact Ev.now _
def majR (a b:List Int):Bool × Bool:=if goodL a=true then (if goodL b=true then (majB a b,true) else (false,false)) else (false,false)
theorem implIsMajorized_ev (a b:List Int) (ha:a.length≤1048576) (hb:b.length≤1048576):Ev (fun k=>impl_IsMajorized.f k a b) (majR a b):=by
 unfold impl_IsMajorized.f majR
 refine Ev.bind (areLists_ev a b ha hb) ?_
 by_cases ga:goodL a=true
 ·by_cases gb:goodL b=true
  ·simp only [ga,gb,if_true]
   exact Ev.bind (isMajorized_ev a b (good_sm ga) (good_sm gb)) (Ev.now _)
  ·simp only [ga,if_true,if_neg gb]
   exact Ev.now _
 ·simp only [if_neg ga,zbm,if_false]
  exact Ev.now _
theorem Ev.ite' {α:Type} {c:Prop} [Decidable c] {g f:Nat→Option α} {r:α} (h:c→Ev g r) (h':¬ c→Ev f r):Ev (fun k=>if c then g k else f k) r:=by
 by_cases hc:c
 ·simp only [hc,if_true]
  exact h hc
 ·simp only [hc,if_false]
  exact h' hc
theorem big_eq (a b:List Int) (ha:a.length≤140737488355328):laws_big.f a b=some (decide ((a.length:Int)>1048576∨(b.length:Int)>1048576 - (a.length:Int))):=by
 unfold laws_big.f
 rw [w64 (x:=1048576 - (a.length:Int)) (by omega) (by omega)]
 by_cases h:(a.length:Int)>1048576
 ·simp [h]
 ·simp only [if_neg h]
  congr 1
  by_cases h2:(b.length:Int)>1048576 - (a.length:Int)
  ·rw [zba h2,zba (.inr h2)]
  ·rw [zbj h2,zbj (by omega)]
theorem bytes_of {l:List Int} (h:l.length≤1048576) (hx:∀ x ∈ l,(Lit.int .u8 x).wf=true):Bytes l:=by
 refine ⟨h,fun x hm => ?_⟩
 have:=hx x hm
 simp only [Lit.wf,Bool.and_eq_true,decide_eq_true_eq] at this
 exact ⟨this.1,this.2⟩
theorem big_cut (l0 l1:List Int) (g0:l0.length*1≤140737488351232) (x0:∀ x ∈ l0,(Lit.int .u8 x).wf=true) (x1:∀ x ∈ l1,(Lit.int .u8 x).wf=true):laws_big.f l0 l1=some true∨laws_big.f l0 l1=some false∧Bytes l0∧Bytes l1:=by
 rw [big_eq l0 l1 (by omega)]
 by_cases hb:(l0.length:Int)>1048576∨(l1.length:Int)>1048576 - (l0.length:Int)
 ·rw [zba hb]
  exact .inl rfl
 ·rw [zbj hb]
  exact .inr ⟨rfl,bytes_of (by omega) x0,bytes_of (by omega) x1⟩
theorem ySame_l (xs ys:List Int) (hx:xs.length≤9223372036854775807) (hl:xs.length=ys.length):∀ (n i:Nat),i+n=xs.length→Ev (fun k=>laws_ySame.l0 k xs ys (xs.length:Int) (i:Int)) (decide (xs.drop i=ys.drop i))
 | 0,i,h=>by
  refine Ev.succ ?_
  simp only [laws_ySame.l0,if_neg (show ¬ (i:Int)<(xs.length:Int) by omega)]
  rw [List.drop_eq_nil_of_le (by omega),List.drop_eq_nil_of_le (by omega),zba rfl]
  exact Ev.now _
 | n+1,i,h=>by
  have hi:i<xs.length:=by omega
  have hj:i<ys.length:=by omega
  refine Ev.succ ?_
  simp only [laws_ySame.l0,if_pos (show (i:Int)<(xs.length:Int) by omega),if_pos (show (0:Int)≤(i:Int) by omega),if_pos (show (i:Int)<(ys.length:Int) by omega),rdn hi,rdn hj,wsucc hi hx]
  rw [List.drop_eq_getElem_cons hi,List.drop_eq_getElem_cons hj]
  by_cases c:xs[i]=ys[i]
  ·simp only [if_pos c,c,List.cons.injEq,true_and]
   exact ySame_l xs ys hx hl n (i+1) (by omega)
  ·simp only [if_neg c,List.cons.injEq,c,false_and,decide_false]
   exact Ev.now _
theorem ySame_ev (xs ys:List Int) (hx:xs.length≤9223372036854775807):Ev (fun k=>laws_ySame.f k xs ys) (decide (xs=ys)):=by
 unfold laws_ySame.f
 by_cases h:(xs.length:Int)=(ys.length:Int)
 ·simp only [if_pos h]
  exact ySame_l xs ys hx (by omega) xs.length 0 (by omega)
 ·simp only [if_neg h]
  rw [zbj (fun e=>h (by rw [e]))]
  exact Ev.now _
theorem ySame_self (xs:List Int) (hx:xs.length≤9223372036854775807):Ev (fun k=>laws_ySame.f k xs xs) true:=by
 have h:=ySame_ev xs xs hx
 rw [zba rfl] at h
 exact h
theorem yRows_l (l:List (List Int)) (hl:l.length≤9223372036854775807) (hx:∀ x ∈ l,x.length≤9223372036854775807):∀ (d i:Nat),i+d=l.length→Ev (fun k=>laws_yRows.l0 k l l (l.length:Int) (i:Int)) true
 | 0,i,e=>by
  refine Ev.succ ?_
  simp only [laws_yRows.l0,if_neg (show ¬ (i:Int)<(l.length:Int) by omega)]
  exact Ev.now _
 | d+1,i,e=>by
  have hi:i<l.length:=by omega
  refine Ev.succ ?_
  simp only [laws_yRows.l0,if_pos (show (i:Int)<(l.length:Int) by omega),if_pos (Int.natCast_nonneg i),rd_L1n hi,wsucc hi (by omega)]
  refine Ev.bind (ySame_self l[i] (hx _ (List.getElem_mem hi))) ?_
  simp only [if_true]
  exact yRows_l l hl hx d (i+1) (by omega)
theorem yRows_self (l:List (List Int)) (hl:l.length≤1000) (ht:totSS l≤1000):Ev (fun k=>laws_yRows.f k l l) true:=by
 unfold laws_yRows.f
 simp only [if_true]
 exact yRows_l l (by omega) (fun x hx=>by have:=len_tot hx;omega) l.length 0 (by omega)
end Go.Proofs.YtmfpgimblifleaaGreat.A
/- The law FnCarriedLists holds of the printed functions, for every argument: numbers and lists alone. -/
namespace Go.Proofs.YtmfpgimblifleaaGreat.Pure
open Go.RowKit Go.Proofs.YtmfpgimblifleaaGreat.A Go.Proofs.YtmfpgimblifleaaGreatW.PrintWords Go.Proofs.YtmfpgimblifleaaGreatW.PrintLast
set_option linter.unusedVariables false
set_option linter.unusedSimpArgs false
theorem maj_ok {x y:List Int} (gx:goodL x=true) (gy:goodL y=true) (h:majB x y=true):majR x y=(true,true):=by
 unfold majR
 simp [gx,gy,h]
theorem tf_is {x y:List Int} (h:(majR x y).2=true) (h4:x.length≤4):(tfR x y).2=(majR x y).1:=by
 have key:(majR x y).1=betB x y:=by
  unfold majR betB
  repeat' split
  all_goals first | rfl | simp_all
 rw [key]
 cases hb:betB x y with
 | true =>
  obtain ⟨s,_,h,_⟩:=tfR_law hb h4
  exact h
 | false =>
  apply zbi.2
  intro h
  have:=(tfR_ok h).1
  rw [hb] at this
  cases this
theorem cl_j3 (x y:List Int) (hx:x.length≤1000) (hy:y.length≤1000):Ev (fun k=>laws_FnCarriedLists.j3 k x y (tfR x y).1 (tfR x y).2 false) true:=by
 have bd:=tfR_bd x y
 refine Ev.succ ?_
 simp only [laws_FnCarriedLists.j3,zbm,if_false]
 refine Ev.ite' (fun c => ?_) (fun _=>Ev.now _)
 obtain ⟨hb,h4⟩:=tfR_ok c
 obtain ⟨s,hs,_,hc,he⟩:=tfR_law hb h4
 refine Ev.bind (implCarryList_ev _ y (by omega) (by omega) (by omega)) (Ev.bind (implEqualSum_ev _ (by omega) (by omega)) ?_)
 simp only [hc,he,if_true]
 refine Ev.bind (ySame_self x (by omega)) ?_
 simp only [if_true,zba (show s>0 from hs)]
 exact Ev.now _
theorem cl_j1 (l:List Int) (hl:Bytes l):Ev (fun k=>laws_FnCarriedLists.j1 k l) true:=by
 obtain ⟨x,y,e,hx,hy⟩:=drawTabFor_ev l hl
 have bd:=tfR_bd x y
 refine Ev.succ ?_
 simp only [laws_FnCarriedLists.j1]
 refine Ev.bind e (Ev.bind (implTableFor_ev x y (by omega) (by omega)) (Ev.bind (specTableFor_ev x y (by omega) (by omega)) ?_))
 simp only [bne_self_eq_false,zbm,if_false]
 refine Ev.bind (yRows_self _ bd.2 bd.1) ?_
 simp only [Bool.not_true]
 refine Ev.succ ?_
 simp only [laws_FnCarriedLists.j2,zbm,if_false]
 refine Ev.bind (implIsMajorized_ev x y (by omega) (by omega)) ?_
 refine Ev.ite' (fun c => ?_) (fun _=>cl_j3 x y hx hy)
 refine Ev.ite' (fun c4 => ?_) (fun _=>cl_j3 x y hx hy)
 rw [← tf_is c (by omega),bne_self_eq_false]
 exact cl_j3 x y hx hy
theorem FnCarriedLists:laws_FnCarriedLists.Pure:=by
 intro l0 l1 _ g0 x0 _ g1 x1
 apply Ev.get
 unfold laws_FnCarriedLists.f
 rcases big_cut l0 l1 g0 x0 x1 with hb | ⟨hb,b0,b1⟩
 ·simp only [hb,zbd,if_true]
  exact Ev.now _
 ·simp only [hb,zbd,zbm,if_false]
  obtain ⟨t,b,e,h1,h2,h3⟩:=drawCarry_ev l0 b0
  have hc:=carR_len t b
  refine Ev.bind e (Ev.bind (implCarryList_ev t b h1 h2 (by omega)) (Ev.bind (specCarryList_ev t b h1 h2 (by omega)) ?_))
  simp only [bne_self_eq_false,zbm,if_false]
  refine Ev.bind (ySame_self _ (by omega)) ?_
  simp only [Bool.not_true]
  refine Ev.succ ?_
  simp only [laws_FnCarriedLists.j0,zbm,if_false]
  refine Ev.ite' (fun c => ?_) (fun _=>cl_j1 l1 b1)
  obtain ⟨gb,ga,hm⟩:=carR_maj (t:=t) (b:=b) (a:=(carR t b).1) (by rw [← c])
  refine Ev.bind (implIsMajorized_ev _ b (by omega) (by omega)) ?_
  simp only [maj_ok ga gb hm,if_true]
  exact cl_j1 l1 b1
end Go.Proofs.YtmfpgimblifleaaGreat.Pure

