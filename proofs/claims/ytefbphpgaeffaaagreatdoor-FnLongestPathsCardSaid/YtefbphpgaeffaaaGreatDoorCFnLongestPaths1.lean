/- What the law FnLongestPaths reaches, part 1: Lean functions with the same answers as the Go functions, the proofs that the Go code comes to these answers, and lemmas about them; no condition beyond those that each theorem names. -/
import Derived.Test.YtefbphpgaeffaaaGreatDoorCFnLongestPathsw1
import Derived.Test.YtefbphpgaeffaaaGreatDoorProg
import Derived.Below
import Derived.Deep.Draws
import Derived.Deep.AppendLies
import Derived.Maps.AppendAt
import Derived.OwnWalk
import Derived.Laws.BytesArg
import Derived.Laws.MakeOwn
import Derived.Laws.OwnMore
import Derived.Deep.OwnRows
import Derived.Tactics
import Derived.Lib.ConvBytes
import Derived.Laws.Slices
import Derived.WalkKit
import Derived.KernelRfl
import Derived.RowKit3
import Derived.Deep.LoopGhost
import Derived.Deep.QuietTactic
import Derived.BigQuiet
import Derived.WideLaws
import Derived.Deep.DeepCutAuto
import Derived.Deep.CutBlock
import Derived.Deep.RegionHeld3
import Derived.Laws.Rows
import Derived.Lib.AppendStr
import Derived.ArgAppend
import Derived.Laws.IdiomCopy
import Derived.OrdersHeld
import Derived.Laws.BitsLemmas
import Derived.RowKit
import Derived.Lib.SliceRun
import Derived.Shelf.SlSortCmp.NoneTotal
import Derived.Shelf.SlGeneric
import Derived.Ground.SlsfProg
set_option linter.unusedVariables false
set_option linter.unusedSimpArgs false
set_option maxHeartbeats 8000000
set_option maxRecDepth 100000
namespace Go.Proofs.YtefbphpgaeffaaaGreatDoor.A
open Go.RowKit Go.Proofs.YtefbphpgaeffaaaGreatDoorW.PrintWords Go.Proofs.YtefbphpgaeffaaaGreatDoorW.PrintLast Go.Proofs.YtefbphpgaeffaaaGreatDoorW.PrintMore
attribute [local go_sem] max2_int min2_int max_two min_two max_three min_three max_four min_four
abbrev zaa:=@List.setIfInBounds_toArray
abbrev zab:=@List.set_cons_zero
abbrev zac:=@List.set_cons_succ
abbrev zad:=@Aside0.mk
abbrev zae:=@pw_below_drewN
abbrev zaf:=@below_drew1
abbrev zag:=@below_alloc
abbrev zah:=@below_set
abbrev zai:=@Kd.R_alloc
abbrev zaj:=@Kd.R_drewN
abbrev zak:=@Kd.R_drew
abbrev zal:=@Kd.C_alloc
abbrev zam:=@Kd.C_drewN
abbrev zan:=@Kd.C_drew
abbrev zao:=@KeepBut.set_
abbrev zap:=@keep_drewN
abbrev zaq:=@keep_drew
abbrev zar:=@keep_alloc
abbrev zas:=@of_decide_eq_true
abbrev zat:=@List.map_toArray
abbrev zau:=@List.map_cons
abbrev zav:=@List.map_nil
abbrev zaw:=@List.length_drop
abbrev zax:=@List.length_take
abbrev zay:=@Option.bind_eq_some_iff
abbrev zaz:=@World.block_lt_of_cell?
abbrev zba:=@decide_eq_true
abbrev zbb:=@of_eq_true
abbrev zbc:=@Kd.V_alloc
abbrev zbd:=@Kd.V_drewN
abbrev zbe:=@Kd.V_drew
abbrev zbf:=@Option.bind_some
abbrev zbg:=@Option.some.inj
abbrev zbh:=@Kd.R_reads'
abbrev zbi:=@below_step
abbrev zbj:=@gate_callee
abbrev zbk:=@Bool.eq_false_iff
abbrev zbl:=@decide_eq_false
abbrev zbm:=@blk_cell
abbrev zbn:=@blk_frozen
abbrev zbo:=@below_size
abbrev zbp:=@Option.some.injEq
abbrev zbq:=@Bool.false_eq_true
abbrev zbr:=@goesL_
abbrev zbs:=@beq_eq_false_iff_ne
abbrev zbt:=@Prod.mk.injEq
abbrev zbu:=@Kd.R_mono
abbrev zbv:=@Kd.R_keep
abbrev zbw:=@KeepBut.trans
abbrev zbx:=@Kd.R_below
abbrev zby:=@Kd.R_lower
abbrev zbz:=@Kd.R_slice
abbrev zca:=@Kd.at_int
abbrev zcb:=@Kd.R_elder'
abbrev zcc:=@Kd.R_new'
abbrev zcd:=@Kd.R_base
abbrev zce:=@Kd.R_lt
abbrev zcf:=@Nat.le_refl
theorem puA {P:Program} {md:Region.Mode} {ops:Array Oper} {Q:Exit→Act→World→Prop} {S:World→Prop} {ds:List Nat} {oi:Oper} {fuel:Nat} {l:Array Bool} {a:Act} {w:World} {v:Value} {a':Act} (i:Nat) (N:Option Tmp) (l':Array Bool) (h:wpAnyLast P md ops Q S ds fuel l' a' w) (hc:anyB md ops l l' i=true:=by exact any_of HT_.out (by kernel_rfl)) (hi:ops[i]? = some oi:=by exact rfl) (hN:oi.dst=N:=by exact rfl) (hw:Region.wanted oi (yielded ops a.tmps)=true:=by rfl) (hy:∀ w',(execOp a.eval oi).run P w' = .ok (.value v) w':=by (intro w';go_simp;with_reducible rfl)) (ha:a.put N v=a':=by (simp only [Act.put,List.setIfInBounds_toArray,List.set_cons_zero,List.set_cons_succ,i64_w,i32_w];rfl)) (hQ:∀ c a w,Q (.panic c) (a.put oi.dst v) w→Q (.panic c) a w:=by exact fun _ _ _ h=>h):wpAnyLast P md ops Q S ds (fuel+1) l a w:=pure_ (i:=i) (N:=N) l' hi hN hc hQ (Or.inl ⟨hw,hy⟩) ha h
theorem puB {P:Program} {md:Region.Mode} {ops:Array Oper} {Q:Exit→Act→World→Prop} {S:World→Prop} {ds:List Nat} {oi:Oper} {fuel:Nat} {l:Array Bool} {a:Act} {w:World} {a':Act} (i:Nat) (N:Option Tmp) (l':Array Bool) (h:wpAnyLast P md ops Q S ds fuel l' a' w) (hc:anyB md ops l l' i=true:=by exact any_of HT_.out (by kernel_rfl)) (hi:ops[i]? = some oi:=by exact rfl) (hN:oi.dst=N:=by exact rfl) (hw:Region.wanted oi (yielded ops a.tmps)=false:=by rfl) (ha:a.put N undef=a':=by (simp only [Act.put,List.setIfInBounds_toArray,List.set_cons_zero,List.set_cons_succ,i64_w,i32_w];rfl)) (hQ:∀ c a w,Q (.panic c) (a.put oi.dst undef) w→Q (.panic c) a w:=by exact fun _ _ _ h=>h):wpAnyLast P md ops Q S ds (fuel+1) l a w:=pure_ (i:=i) (N:=N) l' hi hN hc hQ (Or.inr ⟨hw,rfl⟩) ha h
theorem tkA {P:Program} {md:Region.Mode} {ops:Array Oper} {Q:Exit→Act→World→Prop} {S:World→Prop} {ds:List Nat} {oi:Oper} {fuel:Nat} {l:Array Bool} {a:Act} {w:World} {v:Value} {a':Act} (i:Nat) (N:Option Tmp) (l':Array Bool) (hi:ops[i]? = some oi) (hN:oi.dst=N) (hy:∀ w',S w'→(execOp a.eval oi).run P w' = .ok (.value v) w') (hS:S w) (h:wpAnyLast P md ops Q S ds fuel l' a' w) (hc:takeB md ops ds l l' i=true:=by exact take_ofW HT_.out HW_.out (by kernel_rfl)) (hw:Region.wanted oi (yielded ops a.tmps)=true:=by rfl) (ha:a.put N v=a':=by (simp only [Act.put,List.setIfInBounds_toArray,List.set_cons_zero,List.set_cons_succ,i64_w,i32_w];rfl)) (hQ:∀ c a w,Q (.panic c) (a.put oi.dst v) w→Q (.panic c) a w:=by exact fun _ _ _ h=>h):wpAnyLast P md ops Q S ds (fuel+1) l a w:=take_ (i:=i) (N:=N) l' hi hN hc hQ (Or.inl ⟨hw,hy⟩) hS ha h
abbrev qaaa_:Array Bool:=#[true,false,false,false,false,false,false,false,false,false,false,false]
abbrev qaab_:Array Bool:=#[true,true,false,false,false,false,false,false,false,false,false,false]
abbrev qaac_:Array Bool:=#[true,true,true,false,false,false,false,false,false,false,false,false]
abbrev qaad_:Array Bool:=#[true,true,true,false,true,false,false,false,false,false,false,false]
abbrev qaae_:Array Bool:=#[true,true,true,false,true,false,false,true,false,false,false,false]
abbrev qaaf_:Array Bool:=#[true,true,true,false,true,false,false,true,true,false,false,false]
abbrev qaag_:Array Bool:=#[true,true,true,false,true,false,false,true,true,true,false,false]
abbrev qaah_:Array Bool:=#[true,true,true,true,true,true,true,true,true,true,true,true]
abbrev qaai_:Array Bool:=#[true,false,false,false,false,false,false,false,false,false]
abbrev qaaj_:Array Bool:=#[true,true,false,false,false,false,false,false,false,false]
abbrev qaak_:Array Bool:=#[true,true,false,false,false,true,false,false,false,false]
abbrev qaal_:Array Bool:=#[true,true,true,true,false,true,false,false,false,false]
abbrev qaam_:Array Bool:=#[true,true,true,true,true,true,true,true,false,false]
abbrev qaan_:Array Bool:=#[true,true,true,true,true,true,true,true,true,false]
abbrev qaao_:Array Bool:=#[true,true,true,false,false,true,false,false,false,false]
abbrev qaap_:Array Bool:=#[true,true,true,true,true,true,false,false,false,false]
abbrev qaaq_:Array Bool:=#[true,true,true,true,true,true,true,false,false,false]
abbrev qaar_:Array Bool:=#[true,false,false,false,false,false,false,false,false,false,false,false,false,false,false,false,false,false,false,false,false,false,false,false,false]
abbrev qaas_:Array Bool:=#[true,true,false,false,false,false,false,false,false,false,false,false,false,false,false,false,false,false,false,false,false,false,false,false,false]
abbrev qaat_:Array Bool:=#[true,true,false,false,false,true,false,false,false,false,false,false,false,false,false,false,false,false,false,false,false,false,false,false,false]
abbrev qaau_:Array Bool:=#[true,true,false,false,false,true,true,false,false,false,false,false,false,false,false,false,false,false,false,false,false,false,false,false,false]
abbrev qaav_:Array Bool:=#[true,true,false,false,false,true,true,false,false,false,false,true,false,false,false,false,false,false,false,false,false,false,false,false,false]
abbrev qaaw_:Array Bool:=#[true,true,false,false,false,true,true,false,false,false,false,true,true,false,false,false,false,false,false,false,false,false,false,false,false]
abbrev qaax_:Array Bool:=#[true,true,false,false,false,true,true,false,false,false,false,true,true,false,false,false,true,false,false,false,false,false,false,false,false]
abbrev qaay_:Array Bool:=#[true,true,false,false,false,true,true,false,false,false,false,true,true,false,false,false,true,true,false,false,false,false,false,false,false]
abbrev qaaz_:Array Bool:=#[true,true,true,true,false,true,true,false,false,false,false,true,true,false,false,false,true,true,false,false,false,false,false,false,false]
abbrev qaba_:Array Bool:=#[true,true,true,true,true,true,true,true,true,false,false,true,true,false,false,false,true,true,false,false,false,false,false,false,false]
abbrev qabb_:Array Bool:=#[true,true,true,true,true,true,true,true,true,true,true,true,true,false,false,false,true,true,false,false,false,false,false,false,false]
abbrev qabc_:Array Bool:=#[true,true,true,true,true,true,true,true,true,true,true,true,true,true,true,false,true,true,false,false,false,false,false,false,false]
abbrev qabd_:Array Bool:=#[true,true,true,true,true,true,true,true,true,true,true,true,true,true,true,true,true,true,true,true,false,false,false,false,false]
abbrev qabe_:Array Bool:=#[true,true,true,true,true,true,true,true,true,true,true,true,true,true,true,true,true,true,true,true,true,true,false,false,false]
abbrev qabf_:Array Bool:=#[true,true,true,true,true,true,true,true,true,true,true,true,true,true,true,true,true,true,true,true,true,true,true,true,false]
abbrev qabg_:Array Bool:=#[true,true,true,false,false,true,true,false,false,false,false,true,true,false,false,false,true,true,false,false,false,false,false,false,false]
abbrev qabh_:Array Bool:=#[true,true,true,true,true,true,true,false,false,false,false,true,true,false,false,false,true,true,false,false,false,false,false,false,false]
abbrev qabi_:Array Bool:=#[true,true,true,true,true,true,true,true,false,false,false,true,true,false,false,false,true,true,false,false,false,false,false,false,false]
abbrev qabj_:Array Bool:=#[true,true,true,true,true,true,true,true,true,true,false,true,true,false,false,false,true,true,false,false,false,false,false,false,false]
abbrev qabk_:Array Bool:=#[true,true,true,true,true,true,true,true,true,true,true,true,true,true,false,false,true,true,false,false,false,false,false,false,false]
abbrev qabl_:Array Bool:=#[true,true,true,true,true,true,true,true,true,true,true,true,true,true,true,true,true,true,false,false,false,false,false,false,false]
abbrev qabm_:Array Bool:=#[true,true,true,true,true,true,true,true,true,true,true,true,true,true,true,true,true,true,true,false,false,false,false,false,false]
abbrev qabn_:Array Bool:=#[true,true,true,true,true,true,true,true,true,true,true,true,true,true,true,true,true,true,true,true,true,false,false,false,false]
abbrev qabo_:Array Bool:=#[true,true,true,true,false,false,false,false,false,false,false,false,false,false,false,false,false,false,false,false,false,false,false,false,false]
abbrev qabp_:Array Bool:=#[true,true,true,true,true,false,false,false,false,false,false,false,false,false,false,false,false,false,false,false,false,false,false,false,false]
abbrev qabq_:Array Bool:=#[true,true,true,true,true,false,true,false,false,false,false,false,false,false,false,false,false,false,false,false,false,false,false,false,false]
abbrev qabr_:Array Bool:=#[true,true,true,true,true,false,true,true,false,false,false,false,false,false,false,false,false,false,false,false,false,false,false,false,false]
abbrev qabs_:Array Bool:=#[true,true,true,true,true,true,true,true,true,true,false,false,false,false,false,false,false,false,false,false,false,false,false,false,false]
abbrev qabt_:Array Bool:=#[true,true,true,true,true,true,true,true,true,true,true,true,false,false,false,false,false,false,false,false,false,false,false,false,false]
abbrev qabu_:Array Bool:=#[true,true,true,true,true,true,true,true,true,true,true,true,true,false,false,false,false,false,false,false,false,false,false,false,false]
abbrev qabv_:Array Bool:=#[true,true,true,true,true,true,true,true,true,true,true,true,true,true,false,false,false,false,false,false,false,false,false,false,false]
abbrev qabw_:Array Bool:=#[true,true,true,true,true,true,true,true,true,true,true,true,true,true,true,false,false,false,false,false,false,false,false,false,false]
abbrev qabx_:Array Bool:=#[true,true,true,true,true,true,true,true,true,true,true,true,true,true,true,false,true,false,false,false,false,false,false,false,false]
abbrev qaby_:Array Bool:=#[true,true,true,true,true,true,true,true,true,true,true,true,true,true,true,true,true,true,true,true,true,true,true,false,false]
abbrev qabz_:Array Bool:=#[true,true,true,true,true,true,true,true,true,true,true,true,true,true,true,true,true,true,true,true,true,true,true,true,true]
abbrev qaca_:Array Bool:=#[true,true,true,true,true,true,true,true,false,false,false,false,false,false,false,false,false,false,false,false,false,false,false,false,false]
abbrev qacb_:Array Bool:=#[true,true,true,true,true,true,true,true,true,false,false,false,false,false,false,false,false,false,false,false,false,false,false,false,false]
abbrev qacc_:Array Bool:=#[true,true,true,true,true,true,true,true,true,true,true,false,false,false,false,false,false,false,false,false,false,false,false,false,false]
abbrev qacd_:Array Bool:=#[true,true,true,true,true,true,true,true,true,true,true,true,true,true,true,true,false,false,false,false,false,false,false,false,false]
abbrev qace_:Array Bool:=#[true,true,true,true,true,true,true,true,true,true,true,true,true,true,true,true,true,false,false,false,false,false,false,false,false]
abbrev qacf_:Array Bool:=#[true,true,true,true,true,true,false,false,false,false,false,false,false,false,false,false,false,false,false,false,false,false,false,false,false]
abbrev qacg_:Array Bool:=#[true,true,true,true,true,true,true,false,false,false,false,false,false,false,false,false,false,false,false,false,false,false,false,false,false]
abbrev qach_:Array Bool:=#[true,false,false,false,false,false,false,false,false,false,false,false,false,false,false,false,false,false,false,false,false,false,false]
abbrev qaci_:Array Bool:=#[true,true,true,true,false,false,false,false,false,false,false,false,false,false,false,false,false,false,false,false,false,false,false]
abbrev qacj_:Array Bool:=#[true,true,true,true,true,false,false,false,false,false,false,false,false,false,false,false,false,false,false,false,false,false,false]
abbrev qack_:Array Bool:=#[true,true,true,true,true,true,false,false,false,false,false,false,false,false,false,false,false,false,false,false,false,false,false]
abbrev qacl_:Array Bool:=#[true,true,true,true,true,true,false,false,false,true,false,false,false,false,false,false,false,false,false,false,false,false,false]
abbrev qacm_:Array Bool:=#[true,true,true,true,true,true,false,false,false,true,false,false,true,false,false,false,false,false,false,false,false,false,false]
abbrev qacn_:Array Bool:=#[true,true,true,true,true,true,false,false,false,true,false,false,true,true,false,false,false,false,false,false,false,false,false]
abbrev qaco_:Array Bool:=#[true,true,true,true,true,true,false,false,false,true,false,false,true,true,false,false,false,true,false,false,false,false,false]
abbrev qacp_:Array Bool:=#[true,true,true,true,true,true,true,true,false,true,false,false,true,true,false,false,false,true,false,false,false,false,false]
abbrev qacq_:Array Bool:=#[true,true,true,true,true,true,true,true,true,true,true,true,true,true,false,false,false,true,false,false,false,false,false]
abbrev qacr_:Array Bool:=#[true,true,true,true,true,true,true,true,true,true,true,true,true,true,true,true,false,true,false,false,false,false,false]
abbrev qacs_:Array Bool:=#[true,true,true,true,true,true,true,true,true,true,true,true,true,true,true,true,true,true,true,true,false,false,false]
abbrev qact_:Array Bool:=#[true,true,true,true,true,true,true,true,true,true,true,true,true,true,true,true,true,true,true,true,true,false,false]
abbrev qacu_:Array Bool:=#[true,true,true,true,true,true,true,true,true,true,true,true,true,true,true,true,true,true,true,true,true,true,false]
abbrev qacv_:Array Bool:=#[true,true,true,true,true,true,true,true,true,true,true,true,true,true,true,true,true,true,true,true,true,true,true]
abbrev qacw_:Array Bool:=#[true,true,false,false,false,false,false,false,false,false,false,false,false,false,false,false,false,false,false,false,false,false,false]
abbrev qacx_:Array Bool:=#[true,true,true,true,true,true,true,false,false,true,false,false,true,true,false,false,false,true,false,false,false,false,false]
abbrev qacy_:Array Bool:=#[true,true,true,true,true,true,true,true,true,true,false,false,true,true,false,false,false,true,false,false,false,false,false]
abbrev qacz_:Array Bool:=#[true,true,true,true,true,true,true,true,true,true,true,false,true,true,false,false,false,true,false,false,false,false,false]
abbrev qada_:Array Bool:=#[true,true,true,true,true,true,true,true,true,true,true,true,true,true,true,false,false,true,false,false,false,false,false]
abbrev qadb_:Array Bool:=#[true,true,true,true,true,true,true,true,true,true,true,true,true,true,true,true,true,true,false,false,false,false,false]
abbrev qadc_:Array Bool:=#[true,true,true,true,true,true,true,true,true,true,true,true,true,true,true,true,true,true,true,false,false,false,false]
abbrev qadd_:Array Bool:=#[true,true,true,true,true,true,true,false,false,false,false,false,false,false,false,false,false,false,false,false,false,false,false]
abbrev qade_:Array Bool:=#[true,true,true,true,true,true,true,true,false,false,false,false,false,false,false,false,false,false,false,false,false,false,false]
abbrev qadf_:Array Bool:=#[true,true,true,true,true,true,true,true,true,false,false,false,false,false,false,false,false,false,false,false,false,false,false]
abbrev qadg_:Array Bool:=#[true,true,true,true,true,true,true,true,true,true,false,false,false,false,false,false,false,false,false,false,false,false,false]
abbrev qadh_:Array Bool:=#[true,true,true,true,true,true,true,true,true,true,true,false,false,false,false,false,false,false,false,false,false,false,false]
abbrev qadi_:Array Bool:=#[true,true,true,true,true,true,true,true,true,true,true,true,false,false,false,false,false,false,false,false,false,false,false]
abbrev qadj_:Array Bool:=#[true,true,true,true,true,true,true,true,true,true,true,true,true,false,false,false,false,false,false,false,false,false,false]
abbrev qadk_:Array Bool:=#[true,true,true,true,true,true,true,true,true,true,true,true,true,true,false,false,false,false,false,false,false,false,false]
abbrev qadl_:Array Bool:=#[true,true,true,true,true,true,true,true,true,true,true,true,true,true,true,false,false,false,false,false,false,false,false]
abbrev qadm_:Array Bool:=#[true,true,true,true,true,true,true,true,true,true,true,true,true,true,true,true,false,false,false,false,false,false,false]
abbrev qadn_:Array Bool:=#[true,true,true,true,true,true,true,true,true,true,true,true,true,true,true,true,true,false,false,false,false,false,false]
abbrev qado_:Array Bool:=#[true,false,false,false,false,false,false,false,false,false,false,false,false,false,false,false,false,false,false,false,false,false,false,false,false,false,false,false]
abbrev qadp_:Array Bool:=#[true,true,true,true,false,false,false,false,false,false,false,false,false,false,false,false,false,false,false,false,false,false,false,false,false,false,false,false]
abbrev qadq_:Array Bool:=#[true,true,true,true,true,false,false,false,false,false,false,false,false,false,false,false,false,false,false,false,false,false,false,false,false,false,false,false]
abbrev qadr_:Array Bool:=#[true,true,true,true,true,true,true,false,false,false,false,false,false,false,false,false,false,false,false,false,false,false,false,false,false,false,false,false]
abbrev qads_:Array Bool:=#[true,true,true,true,true,true,true,true,false,false,false,false,false,false,false,false,false,false,false,false,false,false,false,false,false,false,false,false]
abbrev qadt_:Array Bool:=#[true,true,true,true,true,true,true,true,true,false,false,false,false,false,false,false,false,false,false,false,false,false,false,false,false,false,false,false]
abbrev qadu_:Array Bool:=#[true,true,true,true,true,true,true,true,true,true,false,false,false,false,false,false,false,false,false,false,false,false,false,false,false,false,false,false]
abbrev qadv_:Array Bool:=#[true,true,true,true,true,true,true,true,true,true,true,false,false,false,false,false,false,false,false,false,false,false,false,false,false,false,false,false]
abbrev qadw_:Array Bool:=#[true,true,true,true,true,true,true,true,true,true,true,false,false,false,true,false,false,false,false,false,false,false,false,false,false,false,false,false]
abbrev qadx_:Array Bool:=#[true,true,true,true,true,true,true,true,true,true,true,false,false,false,true,false,false,true,false,false,false,false,false,false,false,false,false,false]
abbrev qady_:Array Bool:=#[true,true,true,true,true,true,true,true,true,true,true,false,false,false,true,false,false,true,true,false,false,false,false,false,false,false,false,false]
abbrev qadz_:Array Bool:=#[true,true,true,true,true,true,true,true,true,true,true,false,false,false,true,false,false,true,true,false,false,false,true,false,false,false,false,false]
abbrev qaea_:Array Bool:=#[true,true,true,true,true,true,true,true,true,true,true,true,true,false,true,false,false,true,true,false,false,false,true,false,false,false,false,false]
abbrev qaeb_:Array Bool:=#[true,true,true,true,true,true,true,true,true,true,true,true,true,true,true,true,true,true,true,false,false,false,true,false,false,false,false,false]
abbrev qaec_:Array Bool:=#[true,true,true,true,true,true,true,true,true,true,true,true,true,true,true,true,true,true,true,true,true,false,true,false,false,false,false,false]
abbrev qaed_:Array Bool:=#[true,true,true,true,true,true,true,true,true,true,true,true,true,true,true,true,true,true,true,true,true,true,true,true,true,false,false,false]
abbrev qaee_:Array Bool:=#[true,true,true,true,true,true,true,true,true,true,true,true,true,true,true,true,true,true,true,true,true,true,true,true,true,true,false,false]
abbrev qaef_:Array Bool:=#[true,true,true,true,true,true,true,true,true,true,true,true,true,true,true,true,true,true,true,true,true,true,true,true,true,true,true,false]
abbrev qaeg_:Array Bool:=#[true,true,true,true,true,true,true,true,true,true,true,true,true,true,true,true,true,true,true,true,true,true,true,true,true,true,true,true]
abbrev qaeh_:Array Bool:=#[true,true,false,false,false,false,false,false,false,false,false,false,false,false,false,false,false,false,false,false,false,false,false,false,false,false,false,false]
abbrev qaei_:Array Bool:=#[true,true,true,true,true,true,false,false,false,false,false,false,false,false,false,false,false,false,false,false,false,false,false,false,false,false,false,false]
abbrev qaej_:Array Bool:=#[true,true,true,true,true,true,true,true,true,true,true,true,false,false,true,false,false,true,true,false,false,false,true,false,false,false,false,false]
abbrev qaek_:Array Bool:=#[true,true,true,true,true,true,true,true,true,true,true,true,true,true,true,false,false,true,true,false,false,false,true,false,false,false,false,false]
abbrev qael_:Array Bool:=#[true,true,true,true,true,true,true,true,true,true,true,true,true,true,true,true,false,true,true,false,false,false,true,false,false,false,false,false]
abbrev qaem_:Array Bool:=#[true,true,true,true,true,true,true,true,true,true,true,true,true,true,true,true,true,true,true,true,false,false,true,false,false,false,false,false]
abbrev qaen_:Array Bool:=#[true,true,true,true,true,true,true,true,true,true,true,true,true,true,true,true,true,true,true,true,true,true,true,false,false,false,false,false]
abbrev qaeo_:Array Bool:=#[true,true,true,true,true,true,true,true,true,true,true,true,true,true,true,true,true,true,true,true,true,true,true,true,false,false,false,false]
abbrev qaep_:Array Bool:=#[true,true,true,true,true,true,true,true,true,true,true,true,false,false,false,false,false,false,false,false,false,false,false,false,false,false,false,false]
abbrev qaeq_:Array Bool:=#[true,true,true,true,true,true,true,true,true,true,true,true,true,false,false,false,false,false,false,false,false,false,false,false,false,false,false,false]
abbrev qaer_:Array Bool:=#[true,true,true,true,true,true,true,true,true,true,true,true,true,true,false,false,false,false,false,false,false,false,false,false,false,false,false,false]
abbrev qaes_:Array Bool:=#[true,true,true,true,true,true,true,true,true,true,true,true,true,true,true,false,false,false,false,false,false,false,false,false,false,false,false,false]
abbrev qaet_:Array Bool:=#[true,true,true,true,true,true,true,true,true,true,true,true,true,true,true,true,false,false,false,false,false,false,false,false,false,false,false,false]
abbrev qaeu_:Array Bool:=#[true,true,true,true,true,true,true,true,true,true,true,true,true,true,true,true,true,false,false,false,false,false,false,false,false,false,false,false]
abbrev qaev_:Array Bool:=#[true,true,true,true,true,true,true,true,true,true,true,true,true,true,true,true,true,true,false,false,false,false,false,false,false,false,false,false]
abbrev qaew_:Array Bool:=#[true,true,true,true,true,true,true,true,true,true,true,true,true,true,true,true,true,true,true,false,false,false,false,false,false,false,false,false]
abbrev qaex_:Array Bool:=#[true,true,true,true,true,true,true,true,true,true,true,true,true,true,true,true,true,true,true,true,false,false,false,false,false,false,false,false]
abbrev qaey_:Array Bool:=#[true,true,true,true,true,true,true,true,true,true,true,true,true,true,true,true,true,true,true,true,true,false,false,false,false,false,false,false]
abbrev qaez_:Array Bool:=#[true,true,true,true,true,true,true,true,true,true,true,true,true,true,true,true,true,true,true,true,true,true,false,false,false,false,false,false]
abbrev qafa_:Array Bool:=#[true,false,false,false,false,false,false,false,false,false,false,false,false,false,false,false,false,false,false,false]
abbrev qafb_:Array Bool:=#[true,true,false,false,false,false,false,false,false,false,false,false,false,false,false,false,false,false,false,false]
abbrev qafc_:Array Bool:=#[true,true,true,false,false,false,false,false,false,false,false,false,false,false,false,false,false,false,false,false]
abbrev qafd_:Array Bool:=#[true,true,true,true,true,false,false,false,false,false,false,false,false,false,false,false,false,false,false,false]
abbrev qafe_:Array Bool:=#[true,true,true,true,true,true,false,false,false,false,false,false,false,false,false,false,false,false,false,false]
abbrev qaff_:Array Bool:=#[true,true,true,true,true,true,true,false,false,false,false,false,false,false,false,false,false,false,false,false]
abbrev qafg_:Array Bool:=#[true,true,true,true,true,true,true,true,false,false,false,false,false,false,false,false,false,false,false,false]
abbrev qafh_:Array Bool:=#[true,true,true,true,true,true,true,true,true,false,false,false,false,false,false,false,false,false,false,false]
abbrev qafi_:Array Bool:=#[true,true,true,true,true,true,true,true,true,false,true,false,false,false,false,false,false,false,false,false]
abbrev qafj_:Array Bool:=#[true,true,true,true,true,true,true,true,true,false,true,true,false,false,false,false,false,false,false,false]
abbrev qafk_:Array Bool:=#[true,true,true,true,true,true,true,true,true,false,true,true,true,false,false,false,false,false,false,false]
abbrev qafl_:Array Bool:=#[true,true,true,true,true,true,true,true,true,true,true,true,true,true,true,false,false,false,false,false]
abbrev qafm_:Array Bool:=#[true,true,true,true,true,true,true,true,true,true,true,true,true,true,true,true,false,false,false,false]
abbrev qafn_:Array Bool:=#[true,true,true,true,true,true,true,true,true,true,true,true,true,true,true,true,true,true,true,false]
abbrev qafo_:Array Bool:=#[true,true,true,true,true,true,true,true,true,true,true,true,true,true,true,true,true,true,true,true]
abbrev qafp_:Array Bool:=#[true,true,true,true,true,true,true,true,true,true,true,true,true,true,true,true,true,false,false,false]
abbrev qafq_:Array Bool:=#[true,true,true,true,false,false,false,false,false,false,false,false,false,false,false,false,false,false,false,false]
abbrev qafr_:Array Bool:=#[true,true,true,true,true,true,true,true,true,true,true,true,true,false,false,false,false,false,false,false]
abbrev qafs_:Array Bool:=#[true,true,true,true,true,true,true,true,true,true,true,true,true,true,false,false,false,false,false,false]
abbrev qaft_:Array Bool:=#[true,true,true,true,true,true,true,true,true,true,true,true,true,true,true,true,true,true,false,false]
abbrev qafu_:Array Bool:=#[true,true,true,true,true,true,true,true,true,true,false,false,false,false,false,false,false,false,false,false]
abbrev qafv_:Array Bool:=#[true,true,true,true,true,true,true,true,true,true,true,false,false,false,false,false,false,false,false,false]
abbrev qafw_:Array Bool:=#[true,true,true,true,true,true,true,true,true,true,true,true,false,false,false,false,false,false,false,false]
abbrev qafx_:Array Bool:=#[true,false,false,false,false,false,false,false,false]
abbrev qafy_:Array Bool:=#[true,true,false,false,false,false,false,false,false]
abbrev qafz_:Array Bool:=#[true,true,true,false,false,false,false,false,false]
abbrev qaga_:Array Bool:=#[true,true,true,false,true,false,false,false,false]
abbrev qagb_:Array Bool:=#[true,true,true,false,true,true,false,false,false]
abbrev qagc_:Array Bool:=#[true,true,true,false,true,true,true,false,false]
abbrev qagd_:Array Bool:=#[true,true,true,true,true,true,true,true,true]
abbrev qage_:Array Bool:=#[true,false,false,false,true,false,false,false,false,false]
abbrev qagf_:Array Bool:=#[true,true,true,true,true,true,true,true,true,true]
abbrev qagg_:Array Bool:=#[true,false,false,false,false,false,false,false,false,false,false,false,false,false,false,false,false,false,false,false,false]
abbrev qagh_:Array Bool:=#[true,true,false,false,false,false,false,false,false,false,false,false,false,false,false,false,false,false,false,false,false]
abbrev qagi_:Array Bool:=#[true,true,true,false,false,false,false,false,false,false,false,false,false,false,false,false,false,false,false,false,false]
abbrev qagj_:Array Bool:=#[true,true,true,false,true,false,false,false,false,false,false,false,false,false,false,false,false,false,false,false,false]
abbrev qagk_:Array Bool:=#[true,true,true,false,true,true,false,false,false,false,false,false,false,false,false,false,false,false,false,false,false]
abbrev qagl_:Array Bool:=#[true,true,true,false,true,true,true,false,false,false,false,false,false,false,false,false,false,false,false,false,false]
abbrev qagm_:Array Bool:=#[true,true,true,false,true,true,true,false,false,true,false,false,false,false,false,false,false,false,false,false,false]
abbrev qagn_:Array Bool:=#[true,true,true,false,true,true,true,false,false,true,true,false,false,false,false,false,false,false,false,false,false]
abbrev qago_:Array Bool:=#[true,true,true,false,true,true,true,false,false,true,true,true,false,false,false,false,false,false,false,false,false]
abbrev qagp_:Array Bool:=#[true,true,true,false,true,true,true,false,false,true,true,true,false,true,false,false,false,false,false,false,false]
abbrev qagq_:Array Bool:=#[true,true,true,false,true,true,true,false,false,true,true,true,false,true,true,false,false,false,false,false,false]
abbrev qagr_:Array Bool:=#[true,true,true,false,true,true,true,false,false,true,true,true,false,true,true,true,false,false,false,false,false]
abbrev qags_:Array Bool:=#[true,true,true,true,true,true,true,true,true,true,true,true,false,true,true,true,false,false,false,false,false]
abbrev qagt_:Array Bool:=#[true,true,true,true,true,true,true,true,true,true,true,true,true,true,true,true,true,true,false,false,false]
abbrev qagu_:Array Bool:=#[true,true,true,true,true,true,true,true,true,true,true,true,true,true,true,true,true,true,true,false,false]
abbrev qagv_:Array Bool:=#[true,true,true,true,true,true,true,true,true,true,true,true,true,true,true,true,true,true,true,true,false]
abbrev qagw_:Array Bool:=#[true,true,true,true,true,true,true,false,false]
abbrev qagx_:Array Bool:=#[true,true,true,true,true,true,true,true,false]
abbrev qagy_:Array Bool:=#[true,true,false,false,true,false,false,false,false,false]
abbrev qagz_:Array Bool:=#[true,true,false,false,true,true,false,false,false,false]
abbrev qaha_:Array Bool:=#[true,true,true,true,true,true,true,false,false,true,true,true,false,true,true,true,false,false,false,false,false]
abbrev qahb_:Array Bool:=#[true,true,true,true,true,true,true,true,false,true,true,true,false,true,true,true,false,false,false,false,false]
abbrev qahc_:Array Bool:=#[true,true,true,true,true,true,true,true,true,true,true,true,true,true,true,true,false,false,false,false,false]
abbrev qahd_:Array Bool:=#[true,true,true,true,true,true,true,true,true,true,true,true,true,true,true,true,true,false,false,false,false]
abbrev qahe_:Array Bool:=#[true,false,false,false,false,false,false,false,false,false,false,false,false,false]
abbrev qahf_:Array Bool:=#[true,true,false,false,false,false,false,false,false,false,false,false,false,false]
abbrev qahg_:Array Bool:=#[true,true,true,false,false,false,false,false,false,false,false,false,false,false]
abbrev qahh_:Array Bool:=#[true,true,true,true,false,false,false,false,false,false,false,false,false,false]
abbrev qahi_:Array Bool:=#[true,true,true,true,true,false,false,false,false,false,false,false,false,false]
abbrev qahj_:Array Bool:=#[true,true,true,true,true,true,false,false,false,false,false,false,false,false]
abbrev qahk_:Array Bool:=#[true,true,true,true,true,true,true,false,false,false,false,false,false,false]
abbrev qahl_:Array Bool:=#[true,true,true,true,true,true,true,false,true,false,false,false,false,false]
abbrev qahm_:Array Bool:=#[true,true,true,true,true,true,true,true,true,true,true,true,false,false]
abbrev qahn_:Array Bool:=#[true,true,true,true,true,true,true,true,true,true,true,true,true,false]
abbrev qaho_:Array Bool:=#[true,true,true,true,true,true,true,true,true,true,true,true,true,true]
abbrev qahp_:Array Bool:=#[true,true,true,true,true,true,true,true,true,false,false,false,false,false]
abbrev qahq_:Array Bool:=#[true,true,true,true,true,true,true,true,false,false,false,false,false,false]
abbrev qahr_:Array Bool:=#[true,true,true,true,true,true,true,true,true,true,false,false,false,false]
abbrev qahs_:Array Bool:=#[true,true,true,true,true,true,true,true,true,true,true,false,false,false]
theorem taaa {P:Prop} (h:P:=by repeat (first | (with_reducible first | exact HB.out | apply zag | apply zae | apply zaf) | exact HB.out)):P:=h
theorem taab {P:Prop} (h:P:=by first | (with_reducible assumption) | assumption):P:=h
theorem taac {P:Prop} (h:P:=by (try simp only [zat,zau,zav]);first | done | rfl | (simp only [zaw,zax];rfl)):P:=h
theorem taad {P:Prop} (h:P:=by simp):P:=h
theorem taae {P:Prop} (h:P:=by first | rfl | (simp;done) | (simp [*];done)):P:=h
theorem taaf {P:Prop} (h:P:=by repeat (first | (with_reducible first | exact HK.out | apply zao | apply zap | apply zaq | apply zar) | exact HK.out)):P:=h
theorem taag {P:Prop} (h:P:=by repeat (first | (with_reducible first | exact HI0.out | apply zcg | apply zch | apply zci | apply zcl | apply zcm) | exact HI0.out)):P:=h
theorem taah {P:Prop} (h:P:=by first | rfl | (simp [errW_none,errW_some] <;> rfl) | (simp [*,errW_none,errW_some] <;> rfl)):P:=h
theorem taai {P:Prop} (h:P:=by (with_reducible repeat (first | apply zai | apply zaj | apply zak));exact HO_6.out):P:=h
theorem taaj {P:Prop} (h:P:=by (with_reducible repeat (first | apply zai | apply zaj | apply zak));exact HO_7.out):P:=h
theorem taak {P:Prop} (h:P:=by repeat (first | exact Drawn0.refl _ | apply Drawn0.step)):P:=h
theorem taal {P:Prop} (h:P:=by (with_reducible repeat (first | apply zai | apply zaj | apply zak));exact HO_5.out):P:=h
theorem taam {P:Prop} (h:P:=by repeat (first | (with_reducible first | exact HB.out | apply zag | apply zae | apply zaf | refine zah ?_ (zck HI0.out)) | exact HB.out)):P:=h
theorem taan {P:Prop} (h:P:=by (with_reducible repeat (first | apply zai | apply zaj | apply zak));exact HO_3.out):P:=h
theorem taao {P:Prop} (h:P:=by (with_reducible repeat (first | apply zai | apply zaj | apply zak));exact HO200.out):P:=h
theorem taap {P:Prop} (h:P:=by have:=HK1.out;omega):P:=h
theorem taaq {P:Prop} (h:P:=by repeat (first | (with_reducible first | exact HB.out | apply zag | apply zae | apply zaf | refine zah ?_ GE416.out) | exact HB.out)):P:=h
theorem taar {P:Prop} (h:P:=by repeat (first | (with_reducible first | exact HB.out | apply zag | apply zae | apply zaf | refine zah ?_ GE551.out) | exact HB.out)):P:=h
theorem taas {P:Prop} (h:P:=by (with_reducible repeat (first | apply Kd.S_alloc | apply Kd.S_drewN | apply Kd.S_drew));exact HO_3.out):P:=h
theorem taat {P:Prop} (h:P:=by (with_reducible repeat (first | apply zai | apply zaj | apply zak));exact HO_8.out):P:=h
theorem taau {P:Prop} (h:P:=by repeat (first | (with_reducible first | exact HB.out | apply zag | apply zae | apply zaf | refine zah ?_ GE495.out) | exact HB.out)):P:=h
theorem taav {P:Prop} (h:P:=by (with_reducible repeat (first | apply Kd.S_alloc | apply Kd.S_drewN | apply Kd.S_drew));exact HO_5.out):P:=h
theorem taaw {P:Prop} (h:P:=by (with_reducible repeat (first | apply Kd.S_alloc | apply Kd.S_drewN | apply Kd.S_drew));exact HO_7.out):P:=h
theorem taax {P:Prop} (h:P:=by simpa using h):P:=h
theorem taay {P:Prop} (h:P:=by (with_reducible repeat (first | apply zai | apply zaj | apply zak));exact HO_11.out):P:=h
theorem taaz {P:Prop} (h:P:=by first | exact Kd.R_nil _ _ _ _ _ | exact Kd.N_nil _ _ _ _ _ | exact Kd.V_nil _ _ _ _ _ | exact Kd.Q_nil _ _ _ _ _ | exact Kd.S_nil _ _ _ _ _):P:=h
theorem taba {P:Prop} (h:P:=by have:=HK1.out;have:=HK2.out;omega):P:=h
theorem tabb {P:Prop} (h:P:=by repeat (first | (with_reducible first | exact HB.out | apply zag | apply zae | apply zaf | refine zah ?_ GE584.out) | exact HB.out)):P:=h
theorem tabc {P:Prop} (h:P:=by (with_reducible repeat (first | apply Kd.N_alloc | apply Kd.N_drewN | apply Kd.N_drew));exact HO_10.out):P:=h
theorem tabd {P:Prop} (h:P:=by (with_reducible repeat (first | apply zai | apply zaj | apply zak));exact HO376.out):P:=h
theorem tabe {P:Prop} (h:P:=by repeat (first | (with_reducible first | exact HBr.out | apply zag | apply zae | apply zaf) | exact HBr.out)):P:=h
theorem tabf {P:Prop} (h:P:=by first | omega | exact zcf _):P:=h
theorem tabg {P:Prop} (h:P:=by (with_reducible repeat (first | apply zbc | apply zbd | apply zbe));exact HO_0.out):P:=h
theorem tabh {P:Prop} (h:P:=by (with_reducible repeat (first | apply zai | apply zaj | apply zak));exact HO126.out):P:=h
theorem tabi {P:Prop} (h:P:=by rw [List.length_append,List.length_singleton];omega):P:=h
theorem tabj {P:Prop} (h:P:=by (with_reducible repeat (first | apply zai | apply zaj | apply zak));exact HO_9.out):P:=h
theorem tabk {P:Prop} (h:P:=by (with_reducible repeat (first | apply zai | apply zaj | apply zak));exact HO555.out):P:=h
theorem tabl {P:Prop} (h:P:=by have:=HK1.out;first | omega | exact zcf _):P:=h
theorem tabm {P:Prop} (h:P:=by (with_reducible repeat (first | refine blk_drewN ?_ _ | refine blk_drew ?_ | refine blk_alloc ?_ _));exact BK416.out):P:=h
theorem tabn {P:Prop} (h:P:=by first | omega | (have h1_:=zbb p4;have h2_:=zbb q4;omega) | (have h1_:=zbb p412;have h2_:=zbb q412;omega) | (have h1_:=zbb p413;have h2_:=zbb q413;omega) | (have h1_:=zbb p414;have h2_:=zbb q414;omega) | (have h1_:=zbb p415;have h2_:=zbb q415;omega) | (have h1_:=zbb p426;have h2_:=zbb q426;omega) | (have h1_:=zbb p427;have h2_:=zbb q427;omega) | (have h1_:=zbb p428;have h2_:=zbb q428;omega) | (have h1_:=zbb p429;have h2_:=zbb q429;omega)):P:=h
theorem tabo {P:Prop} (h:P:=by (with_reducible repeat (first | apply zai | apply zaj | apply zak));exact HO_12.out):P:=h
theorem tabp {P:Prop} (h:P:=by (with_reducible repeat (first | refine blk_drewN ?_ _ | refine blk_drew ?_ | refine blk_alloc ?_ _));exact BK551.out):P:=h
theorem tabq {P:Prop} (h:P:=by (with_reducible repeat (first | apply zai | apply zaj | apply zak));exact HO158.out):P:=h
theorem tabr {P:Prop} (h:P:=by (with_reducible repeat (first | apply Kd.N_alloc | apply Kd.N_drewN | apply Kd.N_drew));exact HO_3.out):P:=h
theorem tabs {P:Prop} (h:P:=by rw [giveL_length];omega):P:=h
theorem tabt {P:Prop} (h:P:=by first | (simp [Act.eval,Act.put];done) | rfl | (go_simp;done) | (go_simp;rfl)):P:=h
theorem tabu {P:Prop} (h:P:=by repeat (first | (with_reducible first | exact HBW.out | apply zag | apply zae | apply zaf) | exact HBW.out)):P:=h
theorem tabv {P:Prop} (h:P:=by rw [evenL_length];omega):P:=h
theorem tabw {P:Prop} (h:P:=by repeat (first | (with_reducible exact HR286.out) | (with_reducible refine zal ?_ _) | (with_reducible refine zam ?_ _) | (with_reducible refine zan ?_) | exact HR286.out)):P:=h
theorem tabx {P:Prop} (h:P:=by repeat (first | (with_reducible exact HR306.out) | (with_reducible refine zal ?_ _) | (with_reducible refine zam ?_ _) | (with_reducible refine zan ?_) | exact HR306.out)):P:=h
theorem taby {P:Prop} (h:P:=by repeat (first | (with_reducible first | exact HB.out | apply zag | apply zae | apply zaf | refine zah ?_ GE540.out) | exact HB.out)):P:=h
theorem tabz {P:Prop} (h:P:=by repeat (first | (with_reducible first | exact HB.out | apply zag | apply zae | apply zaf | refine zah ?_ GE574.out) | exact HB.out)):P:=h
theorem taca {P:Prop} (h:P:=by (with_reducible repeat (first | apply zai | apply zaj | apply zak));exact HO335.out):P:=h
theorem tacb {P:Prop} (h:P:=by (with_reducible repeat (first | apply zai | apply zaj | apply zak));exact (zbu (Kd.R_far (p:=⟨gb584,2,none⟩) (Kd.R_far (p:=⟨gb584,1,none⟩) (Kd.R_far (p:=⟨gb584,0,none⟩) (Kd.R_types HO_6.out BK584.out (by decide)) (fun _ hk=>hk.2) (.int .i64 x29_2)) (fun _ hk=>hk.2) (.int .i64 x34_3)) (fun _ hk=>hk.2) (.int .i64 1)) (fun _ h_=>h_.1))):P:=h
theorem tacc {P:Prop} (h:P:=by (with_reducible repeat (first | apply zai | apply zaj | apply zak));exact HO593.out):P:=h
theorem tacd {P:Prop} (h:P:=by have:=HK1.out;have:=HJ16.out;omega):P:=h
theorem tace {P:Prop} (h:P:=by first | (rw [add_block];exact Kd.own_blk (IsS45.own_ne HI0.out HO_7.out (by decide))) | (show (Addr.add _ _).block≠_;rw [add_block];exact Kd.own_blk (IsS45.own_ne HI0.out HO_7.out (by decide))) | exact Kd.own_blk (IsS45.own_ne HI0.out HO_7.out (by decide))):P:=h
theorem tacf {P:Prop} (h:P:=by first | exact Kd.S_nil _ _ _ _ _ | exact Kd.N_nil _ _ _ _ _ | exact Kd.V_nil _ _ _ _ _ | exact Kd.Q_nil _ _ _ _ _ | exact Kd.R_nil _ _ _ _ _):P:=h
theorem tacg {P:Prop} (h:P:=by repeat (first | exact Below.refl _ _ | apply zag | apply zae | apply zaf)):P:=h
theorem tach {P:Prop} (h:P:=by repeat (first | exact HG4.out | apply gb_drewN)):P:=h
theorem taci {P:Prop} (h:P:=by (try simp only [zat,zau,zav]);first | done | rfl):P:=h
theorem tacj {P:Prop} (h:P:=by repeat (first | (with_reducible exact HR661_0.out) | (with_reducible refine zal ?_ _) | (with_reducible refine zam ?_ _) | (with_reducible refine zan ?_) | exact HR661_0.out)):P:=h
theorem tack {P:Prop} (h:P:=by (with_reducible repeat (first | apply Kd.S_alloc | apply Kd.S_drewN | apply Kd.S_drew));exact HO_164.out):P:=h
theorem tacl {P:Prop} (h:P:=by (with_reducible repeat (first | apply zai | apply zaj | apply zak));exact HO292.out):P:=h
theorem tacm {P:Prop} (h:P:=by (with_reducible repeat (first | apply zai | apply zaj | apply zak));exact HO312.out):P:=h
theorem tacn {P:Prop} (h:P:=by repeat (first | (with_reducible first | exact HB.out | apply zag | apply zae | apply zaf | refine zah ?_ GE480.out) | exact HB.out)):P:=h
theorem taco {P:Prop} (h:P:=by (with_reducible repeat (first | apply zai | apply zaj | apply zak));exact zbu HO_6.out (fun _ hk=>⟨trivial,hk⟩)):P:=h
theorem tacp {P:Prop} (h:P:=by rw [List.length_nil];omega):P:=h
theorem tacq {P:Prop} (h:P:=by rw [List.length_append];simp;omega):P:=h
theorem tacr {P:Prop} (h:P:=by repeat (first | (with_reducible exact HR299.out) | (with_reducible refine zal ?_ _) | (with_reducible refine zam ?_ _) | (with_reducible refine zan ?_) | exact HR299.out)):P:=h
theorem tacs {P:Prop} (h:P:=by simp only [putAll,Act.put,zaa,zab,zac]):P:=h
theorem tact {P:Prop} (h:P:=by repeat (first | (with_reducible exact HR319.out) | (with_reducible refine zal ?_ _) | (with_reducible refine zam ?_ _) | (with_reducible refine zan ?_) | exact HR319.out)):P:=h
theorem tacu {P:Prop} (h:P:=by (with_reducible repeat (first | refine blk_drewN ?_ _ | refine blk_drew ?_ | refine blk_alloc ?_ _));exact BK480.out):P:=h
theorem tacv {P:Prop} (h:P:=by (with_reducible repeat (first | refine blk_drewN ?_ _ | refine blk_drew ?_ | refine blk_alloc ?_ _));exact BK495.out):P:=h
theorem tacw {P:Prop} (h:P:=by repeat (first | (with_reducible first | exact HB.out | apply zag | apply zae | apply zaf | refine zah ?_ GE537.out) | exact HB.out)):P:=h
theorem tacx {P:Prop} (h:P:=by repeat (first | (with_reducible first | exact HB.out | apply zag | apply zae | apply zaf | refine zah ?_ GE544.out) | exact HB.out)):P:=h
theorem tacy {P:Prop} (h:P:=by repeat (first | (with_reducible first | exact HB.out | apply zag | apply zae | apply zaf | refine zah ?_ GE571.out) | exact HB.out)):P:=h
theorem tacz {P:Prop} (h:P:=by (with_reducible repeat (first | refine blk_drewN ?_ _ | refine blk_drew ?_ | refine blk_alloc ?_ _));exact BK584.out):P:=h
theorem tada {P:Prop} (h:P:=by have:=HJ2.out;have:=HK2.out;have:=HK3.out;omega):P:=h
theorem tadb {P:Prop} (h:P:=by (try simp only [Int.add_zero]);repeat (first | (with_reducible first | exact HI0.out | apply IsS45.alloc | apply IsS45.drewN | apply IsS45.drew | apply IsS45.set_1 | apply IsS45.set_2) | exact HI0.out)):P:=h
theorem tadc {P:Prop} (h:P:=by repeat (first | (with_reducible first | exact HB.out | apply zag | apply zae | apply zaf | refine zah ?_ (IsS45.ge HI0.out)) | exact HB.out)):P:=h
theorem tadd {P:Prop} (h:P:=by rw [hw];exact HP35.2):P:=h
theorem tade {P:Prop} (h:P:=by (with_reducible repeat (first | apply zai | apply zaj | apply zak));exact HL353_0.out):P:=h
theorem tadf {P:Prop} (h:P:=by repeat (first | (with_reducible exact HR367_0.out) | (with_reducible refine zal ?_ _) | (with_reducible refine zam ?_ _) | (with_reducible refine zan ?_) | exact HR367_0.out)):P:=h
theorem tadg {P:Prop} (h:P:=by rw [List.length_set];exact h2.2):P:=h
theorem tadh {P:Prop} (h:P:=by rw [descL_length];omega):P:=h
theorem tadi {P:Prop} (h:P:=by (with_reducible repeat (first | apply zai | apply zaj | apply zak));exact HL611_0.out):P:=h
theorem tadj {P:Prop} (h:P:=by repeat (first | (with_reducible first | exact HBR.out | apply zag | apply zae | apply zaf) | exact HBR.out)):P:=h
theorem tadk {P:Prop} (h:P:=by have:=zaz _ _ hw427_0;first | rwa [add_block] at this | exact this):P:=h
theorem tadl {P:Prop} (h:P:=by have:=zaz _ _ hw428_0;first | rwa [add_block] at this | exact this):P:=h
theorem tadm {P:Prop} (h:P:=by repeat (first | (with_reducible first | exact HBr.out | apply zag | apply zae | apply zaf | refine zah ?_ GE.out) | exact HBr.out)):P:=h
theorem tadn {P:Prop} (h:P:=by show (w.alloc (.cells #[.slice A1 l1.length c1] 24)).cell? ⟨w.heap.size,0,none⟩=_;simp):P:=h
theorem tado {P:Prop} (h:P:=by repeat (first | (with_reducible first | exact HB1.out | apply zag | apply zae | apply zaf) | exact HB1.out)):P:=h
theorem tadp {P:Prop} (h:P:=by (with_reducible repeat (first | apply zai | apply zaj | apply zak));exact HO625.out):P:=h
theorem tadq {P:Prop} (h:P:=by (with_reducible repeat (first | apply zai | apply zaj | apply zak));exact HO627.out):P:=h
theorem tadr {P:Prop} (h:P:=by (with_reducible repeat (first | apply zai | apply zaj | apply zak));exact HO648.out):P:=h
theorem tads {P:Prop} (h:P:=by have:=HJ7.out;have:=HJ18.out;have:=HJ28.out;have:=HJ54.out;first | omega | exact zcf _):P:=h
theorem tadt {P:Prop} (h:P:=by (with_reducible repeat (first | refine blk_drewN ?_ _ | refine blk_drew ?_ | refine blk_alloc ?_ _));refine blk_put (cs:=#[.int .i64 t492,.int .i64 t493,.int .i64 0]) ?_ 2 _ rfl;(with_reducible repeat (first | refine blk_drewN ?_ _ | refine blk_drew ?_ | refine blk_alloc ?_ _));refine blk_put (cs:=#[.int .i64 t492,.int .i64 0,.int .i64 0]) ?_ 1 _ rfl;(with_reducible repeat (first | refine blk_drewN ?_ _ | refine blk_drew ?_ | refine blk_alloc ?_ _));refine blk_put (cs:=#[.int .i64 0,.int .i64 0,.int .i64 0]) ?_ 0 _ rfl;(with_reducible repeat (first | refine blk_drewN ?_ _ | refine blk_drew ?_ | refine blk_alloc ?_ _));exact BK495.out):P:=h
theorem tadu {P:Prop} (h:P:=by (with_reducible repeat (first | refine blk_drewN ?_ _ | refine blk_drew ?_ | refine blk_alloc ?_ _));exact BK540.out):P:=h
theorem tadv {P:Prop} (h:P:=by (with_reducible repeat (first | apply Kd.S_alloc | apply Kd.S_drewN | apply Kd.S_drew));exact (Kd.S_mono (Kd.S_far (p:=⟨gb551,2,none⟩) (Kd.S_far (p:=⟨gb551,1,none⟩) (Kd.S_far (p:=⟨gb551,0,none⟩) (Kd.S_types HO_5.out BK551.out (by decide)) (fun _ hk=>hk.2) (.int .i64 x13_1)) (fun _ hk=>hk.2) (.int .i64 x18_2)) (fun _ hk=>hk.2) (.int .i64 1)) (fun _ h_=>h_.1))):P:=h
theorem tadw {P:Prop} (h:P:=by (with_reducible repeat (first | refine blk_drewN ?_ _ | refine blk_drew ?_ | refine blk_alloc ?_ _));refine blk_put (cs:=#[.int .i64 x13_1,.int .i64 x18_2,.int .i64 0]) ?_ 2 _ rfl;(with_reducible repeat (first | refine blk_drewN ?_ _ | refine blk_drew ?_ | refine blk_alloc ?_ _));refine blk_put (cs:=#[.int .i64 x13_1,.int .i64 0,.int .i64 0]) ?_ 1 _ rfl;(with_reducible repeat (first | refine blk_drewN ?_ _ | refine blk_drew ?_ | refine blk_alloc ?_ _));refine blk_put (cs:=#[.int .i64 0,.int .i64 0,.int .i64 0]) ?_ 0 _ rfl;(with_reducible repeat (first | refine blk_drewN ?_ _ | refine blk_drew ?_ | refine blk_alloc ?_ _));exact BK551.out):P:=h
theorem tadx {P:Prop} (h:P:=by (with_reducible repeat (first | refine blk_drewN ?_ _ | refine blk_drew ?_ | refine blk_alloc ?_ _));exact BK574.out):P:=h
theorem tady {P:Prop} (h:P:=by (with_reducible repeat (first | refine blk_drewN ?_ _ | refine blk_drew ?_ | refine blk_alloc ?_ _));refine blk_put (cs:=#[.int .i64 x29_2,.int .i64 x34_3,.int .i64 0]) ?_ 2 _ rfl;(with_reducible repeat (first | refine blk_drewN ?_ _ | refine blk_drew ?_ | refine blk_alloc ?_ _));refine blk_put (cs:=#[.int .i64 x29_2,.int .i64 0,.int .i64 0]) ?_ 1 _ rfl;(with_reducible repeat (first | refine blk_drewN ?_ _ | refine blk_drew ?_ | refine blk_alloc ?_ _));refine blk_put (cs:=#[.int .i64 0,.int .i64 0,.int .i64 0]) ?_ 0 _ rfl;(with_reducible repeat (first | refine blk_drewN ?_ _ | refine blk_drew ?_ | refine blk_alloc ?_ _));exact BK584.out):P:=h
theorem tadz {P:Prop} (h:P:=by (with_reducible repeat (first | apply zai | apply zaj | apply zak));exact HO134.out):P:=h
theorem taea {P:Prop} (h:P:=by (with_reducible repeat (first | apply zai | apply zaj | apply zak));exact zbu HO_6.out (fun _ hk=>hk.2)):P:=h
theorem taeb {P:Prop} (h:P:=by (with_reducible repeat (first | apply zai | apply zaj | apply zak));exact HO216.out):P:=h
theorem taec {P:Prop} (h:P:=by rw [hw,Ny229.out];exact HP33.1):P:=h
theorem taed {P:Prop} (h:P:=by rw [hw,Ny231.out];exact HP35.1):P:=h
theorem taee {P:Prop} (h:P:=by repeat (first | (with_reducible first | exact HB.out | apply zag | apply zae | apply zaf | refine zah ?_ (zck HI232.out)) | exact HB.out)):P:=h
theorem taef {P:Prop} (h:P:=by (with_reducible repeat (first | apply Kd.S_alloc | apply Kd.S_drewN | apply Kd.S_drew));exact HO_36.out):P:=h
theorem taeg {P:Prop} (h:P:=by rw [hw,Ny378.out];exact HP18.1):P:=h
theorem taeh {P:Prop} (h:P:=by rw [hw,Ny380.out];exact HP20.1):P:=h
theorem taei {P:Prop} (h:P:=by first | (rw [show y380.length=t374.length from (zbh HO376.out).1.symm] <;> rfl) | rfl):P:=h
theorem taej {P:Prop} (h:P:=by (with_reducible repeat (first | apply Kd.S_alloc | apply Kd.S_drewN | apply Kd.S_drew));exact Kd.S_mono HO_3.out (fun k_ hk=>⟨hk.1.2,fun e_=>hk.2 e_⟩)):P:=h
theorem taek {P:Prop} (h:P:=by intro e;injection e with e;exact hne e):P:=h
theorem tael {P:Prop} (h:P:=by (with_reducible repeat (first | apply Kd.S_alloc | apply Kd.S_drewN | apply Kd.S_drew));exact HO_38.out):P:=h
theorem taem {P:Prop} (h:P:=by first | (simp;done) | (simp;omega)):P:=h
theorem taen {P:Prop} (h:P:=by repeat (first | (with_reducible exact HR200_0.out) | (with_reducible refine zal ?_ _) | (with_reducible refine zam ?_ _) | (with_reducible refine zan ?_) | exact HR200_0.out)):P:=h
theorem taeo {P:Prop} (h:P:=by repeat (first | exact gb_refl _ _ | apply gb_drewN)):P:=h
theorem taep {P:Prop} (h:P:=by have:=HK1.out;have:=HK2.out;have:=HK3.out;omega):P:=h
theorem taeq {P:Prop} (h:P:=by (with_reducible repeat (first | apply zai | apply zaj | apply zak));exact HO442.out):P:=h
theorem taer {P:Prop} (h:P:=by (with_reducible repeat (first | apply zai | apply zaj | apply zak));exact HN.out):P:=h
theorem taes {P:Prop} (h:P:=by repeat (first | (with_reducible first | exact HB0.out | apply zag | apply zae | apply zaf) | exact HB0.out)):P:=h
theorem taet {P:Prop} (h:P:=by (with_reducible repeat (first | apply zai | apply zaj | apply zak));exact HL661_0.out):P:=h
theorem taeu {P:Prop} (h:P:=by have:=HJ7.out;have:=HJ18.out;have:=HJ28.out;have:=HJ54.out;have:=HJ61.out;have:=HK6.out;omega):P:=h
theorem taev {P:Prop} (h:P:=by (with_reducible repeat (first | apply zai | apply zaj | apply zak));exact HO289.out):P:=h
theorem taew {P:Prop} (h:P:=by (with_reducible repeat (first | apply zai | apply zaj | apply zak));exact zbu HO289.out (fun _ hk=>⟨hk.2,hk.1.2⟩)):P:=h
theorem taex {P:Prop} (h:P:=by (with_reducible repeat (first | apply zai | apply zaj | apply zak));exact zbu HO292.out (fun _ hk=>⟨hk.2,hk.1.2⟩)):P:=h
theorem taey {P:Prop} (h:P:=by (with_reducible repeat (first | apply zai | apply zaj | apply zak));exact zbu HO_3.out (fun _ hk=>⟨hk.1.2,hk.2⟩)):P:=h
theorem taez {P:Prop} (h:P:=by (with_reducible repeat (first | apply zai | apply zaj | apply zak));exact zbu HO_3.out (fun _ hk=>⟨hk.2,hk.1.2⟩)):P:=h
theorem tafa {P:Prop} (h:P:=by (with_reducible repeat (first | apply zai | apply zaj | apply zak));exact zbu HO_3.out (fun _ hk=>⟨hk.2,hk.1⟩)):P:=h
theorem tafb {P:Prop} (h:P:=by (with_reducible repeat (first | apply zai | apply zaj | apply zak));exact HO309.out):P:=h
theorem tafc {P:Prop} (h:P:=by (with_reducible repeat (first | apply zai | apply zaj | apply zak));exact zbu HO309.out (fun _ hk=>⟨hk.2,hk.1.2⟩)):P:=h
theorem tafd {P:Prop} (h:P:=by (with_reducible repeat (first | apply zai | apply zaj | apply zak));exact zbu HO312.out (fun _ hk=>⟨hk.2,hk.1.2⟩)):P:=h
theorem tafe {P:Prop} (h:P:=by repeat (first | (with_reducible first | exact HB.out | apply zag | apply zae | apply zaf | refine zah ?_ GE472.out) | exact HB.out)):P:=h
theorem taff {P:Prop} (h:P:=by (with_reducible repeat (first | apply zai | apply zaj | apply zak));exact HQ14.out):P:=h
theorem tafg {P:Prop} (h:P:=by repeat (first | (with_reducible first | exact HB.out | apply zag | apply zae | apply zaf | refine zah ?_ GB6.out | refine zah ?_ GE472.out) | exact HB.out)):P:=h
theorem tafh {P:Prop} (h:P:=by (with_reducible repeat (first | apply zai | apply zaj | apply zak));exact HQ17.out):P:=h
theorem tafi {P:Prop} (h:P:=by (with_reducible repeat (first | apply zai | apply zaj | apply zak));exact HO487.out):P:=h
theorem tafj {P:Prop} (h:P:=by (with_reducible repeat (first | apply zai | apply zaj | apply zak));exact zbu (Kd.R_far (p:=⟨gb495,2,none⟩) (Kd.R_far (p:=⟨gb495,1,none⟩) (Kd.R_far (p:=⟨gb495,0,none⟩) (zbu HO_9.out (fun k_ hk=>(⟨hk,hk.2⟩:_∧k_≠gb495))) (fun _ hk=>hk.2) (.int .i64 t492)) (fun _ hk=>hk.2) (.int .i64 t493)) (fun _ hk=>hk.2) (.int .i64 t494)) (fun _ hk=>hk.1.2)):P:=h
theorem tafk {P:Prop} (h:P:=by (with_reducible repeat (first | refine blk_drewN ?_ _ | refine blk_drew ?_ | refine blk_alloc ?_ _));refine blk_put (cs:=#[.int .i64 t492,.int .i64 t493,.int .i64 t494]) ?_ 2 _ rfl;(with_reducible repeat (first | refine blk_drewN ?_ _ | refine blk_drew ?_ | refine blk_alloc ?_ _));exact BK495.out):P:=h
theorem tafl {P:Prop} (h:P:=by (with_reducible repeat (first | apply zai | apply zaj | apply zak));exact (zbu (Kd.R_far (p:=⟨gb495,2,none⟩) (zbu HO_9.out (fun k_ hk=>(⟨hk,hk⟩:_∧k_≠gb495))) (fun _ hk=>hk.2) (.int .i64 t500)) (fun _ h_=>h_.1))):P:=h
theorem tafm {P:Prop} (h:P:=by (with_reducible repeat (first | apply zai | apply zaj | apply zak));exact HO503.out):P:=h
theorem tafn {P:Prop} (h:P:=by (with_reducible repeat (first | apply zai | apply zaj | apply zak));exact HO506.out):P:=h
theorem tafo {P:Prop} (h:P:=by (with_reducible repeat (first | apply zai | apply zaj | apply zak));exact zbu HO_7.out (fun _ hk=>hk.2)):P:=h
theorem tafp {P:Prop} (h:P:=by (with_reducible repeat (first | apply zai | apply zaj | apply zak));exact (zbu (Kd.R_far (p:=⟨gb495,2,none⟩) (Kd.R_far (p:=⟨gb495,1,none⟩) (Kd.R_far (p:=⟨gb495,0,none⟩) (zbu HO_9.out (fun k_ hk=>(⟨hk,hk.2⟩:_∧k_≠gb495))) (fun _ hk=>hk.2) (.int .i64 t492)) (fun _ hk=>hk.2) (.int .i64 t493)) (fun _ hk=>hk.2) (.int .i64 t494)) (fun _ h_=>h_.1))):P:=h
theorem tafq {P:Prop} (h:P:=by (with_reducible repeat (first | apply zai | apply zaj | apply zak));exact HO512.out):P:=h
theorem tafr {P:Prop} (h:P:=by (with_reducible repeat (first | apply zai | apply zaj | apply zak));exact HO515.out):P:=h
theorem tafs {P:Prop} (h:P:=by (with_reducible repeat (first | apply zai | apply zaj | apply zak));exact HO254.out):P:=h
theorem taft {P:Prop} (h:P:=by (with_reducible repeat (first | apply zai | apply zaj | apply zak));exact HO264.out):P:=h
theorem tafu {P:Prop} (h:P:=by (with_reducible repeat (first | refine blk_drewN ?_ _ | refine blk_drew ?_ | refine blk_alloc ?_ _));exact BK544.out):P:=h
theorem tafv {P:Prop} (h:P:=by repeat (first | (with_reducible first | exact HB.out | apply zag | apply zae | apply zaf | refine zah ?_ GE400.out) | exact HB.out)):P:=h
theorem tafw {P:Prop} (h:P:=by repeat (first | (with_reducible first | exact HB.out | apply zag | apply zae | apply zaf | refine zah ?_ GB6.out | refine zah ?_ GE400.out) | exact HB.out)):P:=h
theorem tafx {P:Prop} (h:P:=by (with_reducible repeat (first | apply zai | apply zaj | apply zak));exact HO558.out):P:=h
theorem tafy {P:Prop} (h:P:=by (with_reducible repeat (first | apply zai | apply zaj | apply zak));exact HO567.out):P:=h
theorem tafz {P:Prop} (h:P:=by (with_reducible repeat (first | apply zai | apply zaj | apply zak));exact HO329.out):P:=h
theorem taga {P:Prop} (h:P:=by (with_reducible repeat (first | apply zai | apply zaj | apply zak));exact HO588.out):P:=h
theorem tagb {P:Prop} (h:P:=by (with_reducible repeat (first | apply zai | apply zaj | apply zak));exact zbu HO_6.out (fun _ hk=>trivial)):P:=h
theorem tagc {P:Prop} (h:P:=by (with_reducible repeat (first | apply zai | apply zaj | apply zak));exact zbu HO158.out (fun _ hk=>hk.2)):P:=h
theorem tagd {P:Prop} (h:P:=by (with_reducible repeat (first | apply Kd.S_alloc | apply Kd.S_drewN | apply Kd.S_drew));exact Kd.S_mono HO_7.out (fun _ hk=>hk.2)):P:=h
theorem tage {P:Prop} (h:P:=by repeat (first | (with_reducible exact HR353_0.out) | (with_reducible refine zal ?_ _) | (with_reducible refine zam ?_ _) | (with_reducible refine zan ?_) | exact HR353_0.out)):P:=h
theorem tagf {P:Prop} (h:P:=by (with_reducible repeat (first | apply Kd.S_alloc | apply Kd.S_drewN | apply Kd.S_drew));exact Kd.S_mono HO_7.out (fun k_ hk=>⟨hk.1,fun e_=>hk.2 e_⟩)):P:=h
theorem tagg {P:Prop} (h:P:=by (with_reducible repeat (first | apply Kd.S_alloc | apply Kd.S_drewN | apply Kd.S_drew));exact Kd.S_mono HO_7.out (fun _ hk=>trivial)):P:=h
theorem tagh {P:Prop} (h:P:=by (with_reducible repeat (first | apply zbc | apply zbd | apply zbe));exact HL367_0.out):P:=h
theorem tagi {P:Prop} (h:P:=by simp only [Bool.and_eq_true,Bool.not_eq_true'] at h;exact h):P:=h
theorem tagj {P:Prop} (h:P:=by repeat (first | (with_reducible exact HR611_0.out) | (with_reducible refine zal ?_ _) | (with_reducible refine zam ?_ _) | (with_reducible refine zan ?_) | exact HR611_0.out)):P:=h
theorem tagk {P:Prop} (h:P:=by (with_reducible repeat (first | apply zai | apply zaj | apply zak));exact HW3.out):P:=h
theorem tagl {P:Prop} (h:P:=by (with_reducible repeat (first | apply zai | apply zaj | apply zak));exact HW4.out):P:=h
theorem tagm {P:Prop} (h:P:=by repeat (first | (with_reducible first | exact HB.out | apply zag | apply zae | apply zaf | refine zah ?_ (zck HI392.out)) | exact HB.out)):P:=h
theorem tagn {P:Prop} (h:P:=by (with_reducible repeat (first | apply zbc | apply zbd | apply zbe));exact HO0.out):P:=h
theorem tago {P:Prop} (h:P:=by (with_reducible repeat (first | apply zbc | apply zbd | apply zbe));exact Kd.V_mono (Kd.V_far (p:=⟨gb416,2,none⟩) (Kd.V_far (p:=⟨gb416,1,none⟩) (Kd.V_far (p:=⟨gb416,0,none⟩) (Kd.V_mono HO_0.out (fun k_ hk=>(⟨hk,hk.2⟩:_∧k_≠gb416))) (fun _ hk=>hk.2) (.int .i64 x9_3)) (fun _ hk=>hk.2) (.int .i64 x8_2)) (fun _ hk=>hk.2) (.int .i64 1)) (fun _ hk=>⟨hk.1.1.1,⟨hk.1.1.2,hk.1.2⟩⟩)):P:=h
theorem tagp {P:Prop} (h:P:=by (with_reducible repeat (first | apply zai | apply zaj | apply zak));exact zbu (Kd.R_far (p:=⟨gb416,2,none⟩) (Kd.R_far (p:=⟨gb416,1,none⟩) (Kd.R_far (p:=⟨gb416,0,none⟩) (zbu HO_7.out (fun k_ hk=>(⟨hk,hk.2⟩:_∧k_≠gb416))) (fun _ hk=>hk.2) (.int .i64 x9_3)) (fun _ hk=>hk.2) (.int .i64 x8_2)) (fun _ hk=>hk.2) (.int .i64 1)) (fun _ hk=>⟨hk.1.1,hk.1.2⟩)):P:=h
theorem tagq {P:Prop} (h:P:=by (with_reducible repeat (first | refine blk_drewN ?_ _ | refine blk_drew ?_ | refine blk_alloc ?_ _));refine blk_put (cs:=#[.int .i64 x9_3,.int .i64 x8_2,.int .i64 0]) ?_ 2 _ rfl;(with_reducible repeat (first | refine blk_drewN ?_ _ | refine blk_drew ?_ | refine blk_alloc ?_ _));refine blk_put (cs:=#[.int .i64 x9_3,.int .i64 0,.int .i64 0]) ?_ 1 _ rfl;(with_reducible repeat (first | refine blk_drewN ?_ _ | refine blk_drew ?_ | refine blk_alloc ?_ _));refine blk_put (cs:=#[.int .i64 0,.int .i64 0,.int .i64 0]) ?_ 0 _ rfl;(with_reducible repeat (first | refine blk_drewN ?_ _ | refine blk_drew ?_ | refine blk_alloc ?_ _));exact BK416.out):P:=h
theorem tagr {P:Prop} (h:P:=by (with_reducible repeat (first | apply zbc | apply zbd | apply zbe));exact Kd.V_mono HO_0.out (fun _ hk=>⟨⟨hk.1,hk.2.2⟩,hk.2.1⟩)):P:=h
theorem tags {P:Prop} (h:P:=by (with_reducible repeat (first | apply zai | apply zaj | apply zak));exact HO419.out):P:=h
theorem tagt {P:Prop} (h:P:=by (with_reducible repeat (first | apply zai | apply zaj | apply zak));exact HO422.out):P:=h
theorem tagu {P:Prop} (h:P:=by have hk:=And.intro (hk0.1.1.1) (hk0.2);first | exact ⟨(.inr (hk.1)),hk.2⟩ | exact (.inr (hk))):P:=h
theorem tagv {P:Prop} (h:P:=by (with_reducible repeat (first | apply zai | apply zaj | apply zak));exact HO432.out):P:=h
theorem tagw {P:Prop} (h:P:=by (with_reducible repeat (first | apply zai | apply zaj | apply zak));exact HO435.out):P:=h
theorem tagx {P:Prop} (h:P:=by (with_reducible repeat (first | apply Kd.S_alloc | apply Kd.S_drewN | apply Kd.S_drew));exact HSS.out):P:=h
theorem tagy {P:Prop} (h:P:=by (with_reducible repeat (first | apply zai | apply zaj | apply zak));exact HZ.out):P:=h
theorem tagz {P:Prop} (h:P:=by (with_reducible repeat (first | apply zai | apply zaj | apply zak));exact HL1525_0.out):P:=h
theorem taha {P:Prop} (h:P:=by repeat (first | (with_reducible exact HR1525_0.out) | (with_reducible refine zal ?_ _) | (with_reducible refine zam ?_ _) | (with_reducible refine zan ?_) | exact HR1525_0.out)):P:=h
theorem tahb {P:Prop} (h:P:=by (with_reducible repeat (first | apply zai | apply zaj | apply zak));exact HO634.out):P:=h
theorem tahc {P:Prop} (h:P:=by (with_reducible repeat (first | apply zai | apply zaj | apply zak));exact HO638.out):P:=h
theorem tahd {P:Prop} (h:P:=by (with_reducible repeat (first | apply zai | apply zaj | apply zak));exact zbu HO634.out (fun _ hk=>⟨hk.1.2,hk.2⟩)):P:=h
theorem tahe {P:Prop} (h:P:=by (with_reducible repeat (first | apply zai | apply zaj | apply zak));exact zbu HO638.out (fun _ hk=>trivial)):P:=h
theorem tahf {P:Prop} (h:P:=by have:=HJ7.out;have:=HJ18.out;first | omega | exact zcf _):P:=h
theorem tahg {P:Prop} (h:P:=by have:=HJ7.out;have:=HJ18.out;have:=HJ28.out;first | omega | exact zcf _):P:=h
theorem tahh {P:Prop} (h:P:=by exact taag):P:=h
theorem tahi {P:Prop} (h:P:=by rw [hg];exact (zbo (taaa))):P:=h
theorem tahj {P:Prop} (h:P:=by simp only [Bool.and_eq_true,Bool.not_eq_true'];exact ⟨h,by simpa using hs⟩):P:=h
theorem tahk {P:Prop} (h:P:=by first | exact q661 | exact zas (taab) | (have e_:=(Kd.S_reads' HO_164.out).1;omega)):P:=h
theorem tahl {P:Prop} (h:P:=by first | exact q367 | exact zas (taab) | (have e_:=(Kd.N_reads' HO_10.out).1;omega)):P:=h
theorem tahm {P:Prop} (h:P:=by simp only [Bool.and_eq_true,Bool.not_eq_true'];exact ⟨k,by simpa using ht⟩):P:=h
theorem tahn {P:Prop} (h:P:=by first | exact (Kd.F_in (Kd.V_F HO_0.out) rfl (tabn) (by decide)).2.2 | (rw [add_block];exact (Kd.F_in (Kd.V_F HO_0.out) rfl (tabn) (by decide)).2.2) | (show (Addr.add _ _).block≠_;rw [add_block];exact (Kd.F_in (Kd.V_F HO_0.out) rfl (tabn) (by decide)).2.2) | (dsimp only;exact (Kd.F_in (Kd.V_F HO_0.out) rfl (tabn) (by decide)).2.2)):P:=h
theorem taho {P:Prop} (h:P:=by exact tahh):P:=h
theorem tahp {P:Prop} (h:P:=by exact taho):P:=h
theorem tahq {P:Prop} (h:P:=by (repeat (first | exact HR0.out | (with_reducible refine zal ?_ _) | (with_reducible refine zam ?_ _) | (with_reducible refine zan ?_)));done):P:=h
theorem tahr {P:Prop} (h:P:=by (repeat (first | exact (Kd.C_below HR0.out HB.out) | (with_reducible refine zal ?_ _) | (with_reducible refine zam ?_ _) | (with_reducible refine zan ?_)));done):P:=h
theorem tahs {P:Prop} (h:P:=by (repeat (first | (with_reducible first | exact HI0.out | apply zcg | apply zch | apply zci | apply zcl | apply zcm) | exact HI0.out));done):P:=h
theorem taht {P:Prop} (h:P:=by (repeat (first | (with_reducible first | exact HB.out | apply zag | apply zae | apply zaf | refine zah ?_ (zck HI0.out)) | exact HB.out));done):P:=h
theorem tahu {P:Prop} (h:P:=by (repeat (first | exact HR1.out | (with_reducible refine zal ?_ _) | (with_reducible refine zam ?_ _) | (with_reducible refine zan ?_)));done):P:=h
theorem tahv {P:Prop} (h:P:=by (exact (zbh HO_6.out).2.1);done):P:=h
theorem tahw {P:Prop} (h:P:=by (repeat (first | exact (Kd.C_below HR1.out HB.out) | (with_reducible refine zal ?_ _) | (with_reducible refine zam ?_ _) | (with_reducible refine zan ?_)));done):P:=h
theorem tahx {P:Prop} (h:P:=by (repeat (first | exact (zbh HO_11.out).2.2 | (with_reducible refine zal ?_ _) | (with_reducible refine zam ?_ _) | (with_reducible refine zan ?_)));done):P:=h
theorem tahy {P:Prop} (h:P:=by (exact (zbh HO_11.out).2.1);done):P:=h
theorem tahz {P:Prop} (h:P:=by (repeat (first | exact (zbh HO_8.out).2.2 | (with_reducible refine zal ?_ _) | (with_reducible refine zam ?_ _) | (with_reducible refine zan ?_)));done):P:=h
theorem taia {P:Prop} (h:P:=by (exact (zbh HO_8.out).2.1);done):P:=h
theorem taib {P:Prop} (h:P:=by (repeat (first | exact (zbh HO_6.out).2.2 | (with_reducible refine zal ?_ _) | (with_reducible refine zam ?_ _) | (with_reducible refine zan ?_)));done):P:=h
theorem taic {P:Prop} (h:P:=by (repeat (first | exact (zbh HO_5.out).2.2 | (with_reducible refine zal ?_ _) | (with_reducible refine zam ?_ _) | (with_reducible refine zan ?_)));done):P:=h
theorem taid {P:Prop} (h:P:=by (exact (zbh HO_5.out).2.1);done):P:=h
theorem taie {P:Prop} (h:P:=by (repeat (first | exact (zbh HO_7.out).2.2 | (with_reducible refine zal ?_ _) | (with_reducible refine zam ?_ _) | (with_reducible refine zan ?_)));done):P:=h
theorem taif {P:Prop} (h:P:=by (repeat (first | exact (Kd.V_reads' HO_0.out).2.2 | (with_reducible refine zal ?_ _) | (with_reducible refine zam ?_ _) | (with_reducible refine zan ?_)));done):P:=h
theorem taig {P:Prop} (h:P:=by (exact (Kd.V_reads' HO_0.out).2.1);done):P:=h
theorem taih {P:Prop} (h:P:=by (repeat (first | exact (zbh HO648.out).2.2 | (with_reducible refine zal ?_ _) | (with_reducible refine zam ?_ _) | (with_reducible refine zan ?_)));done):P:=h
theorem taii {P:Prop} (h:P:=by (repeat (first | exact (zbh HO_12.out).2.2 | (with_reducible refine zal ?_ _) | (with_reducible refine zam ?_ _) | (with_reducible refine zan ?_)));done):P:=h
theorem taij {P:Prop} (h:P:=by (repeat (first | exact (Kd.C_below HR0.out (taaa)) | (with_reducible refine zal ?_ _) | (with_reducible refine zam ?_ _) | (with_reducible refine zan ?_)));done):P:=h
theorem taik {P:Prop} (h:P:=by (repeat (first | exact (tacj) | (with_reducible refine zal ?_ _) | (with_reducible refine zam ?_ _) | (with_reducible refine zan ?_)));done):P:=h
theorem tail {P:Prop} (h:P:=by (repeat (first | exact (tabw) | (with_reducible refine zal ?_ _) | (with_reducible refine zam ?_ _) | (with_reducible refine zan ?_)));done):P:=h
theorem taim {P:Prop} (h:P:=by (repeat (first | exact (tabx) | (with_reducible refine zal ?_ _) | (with_reducible refine zam ?_ _) | (with_reducible refine zan ?_)));done):P:=h
theorem tain {P:Prop} (h:P:=by (repeat (first | exact (zbh HO555.out).2.2 | (with_reducible refine zal ?_ _) | (with_reducible refine zam ?_ _) | (with_reducible refine zan ?_)));done):P:=h
theorem taio {P:Prop} (h:P:=by (repeat (first | exact (zbh HO558.out).2.2 | (with_reducible refine zal ?_ _) | (with_reducible refine zam ?_ _) | (with_reducible refine zan ?_)));done):P:=h
theorem taip {P:Prop} (h:P:=by (repeat (first | exact (Kd.C_below HR1.out (taaa)) | (with_reducible refine zal ?_ _) | (with_reducible refine zam ?_ _) | (with_reducible refine zan ?_)));done):P:=h
theorem taiq {P:Prop} (h:P:=by (repeat (first | exact (zbh HO588.out).2.2 | (with_reducible refine zal ?_ _) | (with_reducible refine zam ?_ _) | (with_reducible refine zan ?_)));done):P:=h
theorem tair {P:Prop} (h:P:=by (repeat (first | exact (tadf) | (with_reducible refine zal ?_ _) | (with_reducible refine zam ?_ _) | (with_reducible refine zan ?_)));done):P:=h
theorem tais {P:Prop} (h:P:=by (repeat (first | exact (taen) | (with_reducible refine zal ?_ _) | (with_reducible refine zam ?_ _) | (with_reducible refine zan ?_)));done):P:=h
theorem tait {P:Prop} (h:P:=by (repeat (first | exact (zbh HO625.out).2.2 | (with_reducible refine zal ?_ _) | (with_reducible refine zam ?_ _) | (with_reducible refine zan ?_)));done):P:=h
theorem taiu {P:Prop} (h:P:=by (repeat (first | exact (zbh HO627.out).2.2 | (with_reducible refine zal ?_ _) | (with_reducible refine zam ?_ _) | (with_reducible refine zan ?_)));done):P:=h
theorem taiv {P:Prop} (h:P:=by (repeat (first | exact (zbh HO634.out).2.2 | (with_reducible refine zal ?_ _) | (with_reducible refine zam ?_ _) | (with_reducible refine zan ?_)));done):P:=h
def errW:Option Int→Value
 | none => .nilIface
 | some c => .iface 0 (.int .i64 c)
theorem errW_none:errW none = .nilIface:=rfl
theorem errW_some (c:Int):errW (some c) = .iface 0 (.int .i64 c):=rfl
theorem info3:(Tryz.prog.info? 3).map (fun i=>(i.zero,i.size,i.bytes))=some (some (.int .i64 0),1,8):=by kernel_rfl
theorem info9:(Tryz.prog.info? 9).map (fun i=>(i.zero,i.size,i.bytes))=some (some (.string ⟨#[]⟩),1,16):=by kernel_rfl
theorem info24:(Tryz.prog.info? 24).map (fun i=>(i.zero,i.size,i.bytes))=some (some (.slice none 0 0),1,24):=by kernel_rfl
theorem info59:(Tryz.prog.info? 59).map (fun i=>(i.zero,i.size,i.bytes))=some (some (.agg #[(.int .i64 0),(.int .i64 0),(.int .i64 0)]),3,24):=by kernel_rfl
def rd_L2 (xs:List (List Int)) (i:Int):(List Int):=xs.getD i.toNat ([]:List Int)
theorem at_L2 {w:World} {A:Option Addr} {n:Nat} {xs:List (List Int)} (h:Kd.C (Kd.slice 3 (Kd.int .i64)) w A n xs) (i:Int) (h0:0≤i) (h1:i<n):∃ ad A0 c0,A=some ad∧w.cell? (ad.add i.toNat)=some (.slice A0 (rd_L2 xs i).length c0)∧(rd_L2 xs i).length≤c0∧(Kd.int .i64).C w A0 (rd_L2 xs i).length (rd_L2 xs i):=by
 obtain ⟨ad,c,e,_,hK,hc0⟩:=Kd.C_get h ([]:List Int) i h0 h1;have hc:∀ j u,c[j]? = some u→w.cell? (ad.add (i.toNat*1+j))=some u:=hc0;obtain ⟨A0,c0,rfl,l0,g0⟩:=hK;exact ⟨ad,A0,c0,e,by have hq:=hc 0 _ rfl;rwa [Nat.mul_one,Nat.add_zero] at hq,l0,g0⟩
structure S59 where
 f0:Int
 f1:Int
 f2:Int
def z59:S59:=⟨(0:Int),(0:Int),(0:Int)⟩
def k59:Kd S59:=Kd.iso (Kd.pair (Kd.int .i64) (Kd.pair (Kd.int .i64) (Kd.int .i64))) (fun x:S59=>(x.f0,x.f1,x.f2))
theorem k59_open {w:World} {x:S59} {cs:List Value} (h:k59.K w x cs):cs=[.int .i64 x.f0,.int .i64 x.f1,.int .i64 x.f2]:=by
 obtain ⟨_,_,rfl,rfl,⟨_,_,rfl,rfl,rfl⟩⟩:=h;exact rfl
theorem k59_mkM (w:World) (base:Nat) (ok:Nat→Prop) (x:S59)  : k59.M w base ok x [.int .i64 x.f0,.int .i64 x.f1,.int .i64 x.f2]:=⟨[.int .i64 x.f0],[.int .i64 x.f1,.int .i64 x.f2],rfl,rfl,⟨[.int .i64 x.f1],[.int .i64 x.f2],rfl,rfl,rfl⟩⟩
def rd_T59 (xs:List S59) (i:Int):S59:=xs.getD i.toNat z59
theorem at_T59 {w:World} {A:Option Addr} {n:Nat} {xs:List S59} (h:Kd.C k59 w A n xs) (i:Int) (h0:0≤i) (h1:i<n):∃ ad ,A=some ad∧w.cell? (ad.add (i.toNat*3))=some (.int .i64 (rd_T59 xs i).f0)∧w.cell? ⟨(ad.add (i.toNat*3)).block,(ad.add (i.toNat*3)).off+1,none⟩=some (.int .i64 (rd_T59 xs i).f1)∧w.cell? ⟨(ad.add (i.toNat*3)).block,(ad.add (i.toNat*3)).off+2,none⟩=some (.int .i64 (rd_T59 xs i).f2):=by
 obtain ⟨ad,c,e,_,hK,hc0⟩:=Kd.C_get h z59 i h0 h1;have hc:∀ j u,c[j]? = some u→w.cell? (ad.add (i.toNat*3+j))=some u:=hc0;obtain rfl:=k59_open hK;exact ⟨ad,e,hc 0 _ rfl,by rw [← add_field _ _ 1 (by omega)];exact hc 1 _ rfl,by rw [← add_field _ _ 2 (by omega)];exact hc 2 _ rfl⟩
def spec_liSum.l0:Nat→Int→List Int→Int→Int→Option (Int)
 | 0,_,_,_,_=>none
 | k+1,x3,x6,x7,x8=>if x8<x7 then (if 0≤x8 then (if x8<(x6.length:Int) then (spec_liSum.l0 k (wrap64 (x3+(rd x6 x8))) x6 x7 (wrap64 (x8+1))) else (none)) else (none)) else (some x3)
def spec_liSum.f (k:Nat) (l0:List Int):Option (Int):=spec_liSum.l0 k 0 l0 (l0.length:Int) 0
theorem spec_liSum.calls (k:Nat) (A0:Option Addr) (c0:Nat) (l0:List Int) (r:Int) (w:World) (hr0:Kd.C (Kd.int .i64) w A0 l0.length l0) (hc0:l0.length≤c0) (h:spec_liSum.f k l0=some r) :
 Calls Tryz.prog 27 #[.slice A0 l0.length c0] w fun e w'=>e = .returned (.int .i64 r)∧Drawn0 w w':=by
 have HR0:=zad hr0;have HC0:=zad hc0;clear hr0 hc0;have H:(spec_liSum.l0 k 0 l0 (l0.length:Int) 0)=some r:=h;clear h;have H':=zad H;clear H;go_enter Tryz.func27,Tryz.ntmps27;go_wp2
 go_loopg [3,8] k (fun kq v3 v8 w'=>∃ (x3_1:Int) (x8_1:Int),v3 = .int .i64 x3_1∧v8 = .int .i64 x8_1∧Aside0 (spec_liSum.l0 kq x3_1 l0 (l0.length:Int) x8_1=some r)∧Aside0 (kq≤k)∧Drawn0 w w')
 case atStart=>exact ⟨(0),(0),(taae),(taae),H',⟨zcf _⟩,taak⟩
 case round =>
  clear H';obtain ⟨x3_1,x8_1,rfl,rfl,HA,HK1,⟨m1,rfl⟩⟩:=hrel;cases gk with
  | zero=>exact absurd HA.out (by simp [spec_liSum.l0])
  | succ k1 =>
   have H:=HA.out;clear HA;simp only [spec_liSum.l0] at H;by_cases c2:x8_1<(l0.length:Int)
   ·rw [if_pos c2] at H
    have c2b0:decide (x8_1<(l0.length:Int))=true:=zba c2;clear c2;by_cases c3:0≤x8_1
    ·rw [if_pos c3] at H
     have c3b0:decide (0≤x8_1)=true:=zba c3;clear c3;by_cases c4:x8_1<(l0.length:Int)
     ·rw [if_pos c4] at H
      have c4b0:decide (x8_1<(l0.length:Int))=true:=zba c4;clear c4;have H':=zad H;clear H;have p278:0≤(x8_1:Int):=zas (taab);have q278:x8_1<(l0.length:Int):=zas (taab);obtain ⟨ad278,e278,hx278_0⟩:=zca HR0.out x8_1 p278 q278;cases e278;replace p278:=eq_true p278;replace q278:=eq_true q278;go_wp2
      go_roundg k1
      case measure=>have:=HK1.out;omega
      case rel=>exact ⟨(wrap64 (x3_1+(rd l0 x8_1))),(wrap64 (x8_1+1)),(taae),(taae),H',⟨taap⟩,taak⟩
     ·rw [if_neg c4] at H
      exact absurd H (taad)
    ·rw [if_neg c3] at H
     exact absurd H (taad)
   ·rw [if_neg c2] at H
    have c2b0:decide (x8_1<(l0.length:Int))=false:=zbl c2;clear c2;obtain rfl:=zbg H;go_wp2
    go_ret
    exact ⟨taae,taak⟩
def spec_l1In.f (a0:Int) (a1:Int) (a2:Int):Option (Bool):=if a0≥a1 then (some (decide (a0≤a2))) else (some false)
theorem spec_l1In.calls (a0:Int) (a1:Int) (a2:Int) (r:Bool) (w:World) (h:spec_l1In.f a0 a1 a2=some r) :
 Calls Tryz.prog 73 #[.int .i64 a0,.int .i64 a1,.int .i64 a2] w fun e w'=>e = .returned (.bool r)∧Drawn0 w w':=by
 have H:(if a0≥a1 then (some (decide (a0≤a2))) else (some false))=some r:=h;clear h;by_cases c4:a0≥a1
 ·rw [if_pos c4] at H
  have c4b0:decide (a1≤a0)=true:=zba c4;clear c4;obtain rfl:=zbg H;go_enter Tryz.func73,Tryz.ntmps73;go_wp2
  go_ret
  exact ⟨taae,taak⟩
 ·rw [if_neg c4] at H
  have c4b0:decide (a1≤a0)=false:=zbl c4;clear c4;obtain rfl:=zbg H;go_enter Tryz.func73,Tryz.ntmps73;go_wp2
  go_ret
  exact ⟨taae,taak⟩
def spec_l1All.l0:Nat→Int→Int→List Int→Int→Int→Option (Bool)
 | 0,_,_,_,_,_=>none
 | k+1,x1,x2,x9,x10,x11=>if x11<x10 then (if 0≤x11 then (if x11<(x9.length:Int) then ((spec_l1In.f (rd x9 x11) x1 x2).bind fun t275=>(if t275=true then (spec_l1All.l0 k x1 x2 x9 x10 (wrap64 (x11+1))) else (some false))) else (none)) else (none)) else (some true)
def spec_l1All.f (k:Nat) (l0:List Int) (a1:Int) (a2:Int):Option (Bool):=spec_l1All.l0 k a1 a2 l0 (l0.length:Int) 0
theorem spec_l1All.calls (k:Nat) (A0:Option Addr) (c0:Nat) (l0:List Int) (a1:Int) (a2:Int) (r:Bool) (w:World) (hr0:Kd.C (Kd.int .i64) w A0 l0.length l0) (hc0:l0.length≤c0) (h:spec_l1All.f k l0 a1 a2=some r) :
 Calls Tryz.prog 74 #[.slice A0 l0.length c0,.int .i64 a1,.int .i64 a2] w fun e w'=>e = .returned (.bool r)∧Drawn0 w w':=by
 have HR0:=zad hr0;have HC0:=zad hc0;clear hr0 hc0;have H:(spec_l1All.l0 k a1 a2 l0 (l0.length:Int) 0)=some r:=h;clear h;have H':=zad H;clear H;go_enter Tryz.func74,Tryz.ntmps74;go_wp2
 go_loopg [11] k (fun kq v11 w'=>∃ (x11_1:Int),v11 = .int .i64 x11_1∧Aside0 (spec_l1All.l0 kq a1 a2 l0 (l0.length:Int) x11_1=some r)∧Aside0 (kq≤k)∧Drawn0 w w')
 case atStart=>exact ⟨(0),(taae),H',⟨zcf _⟩,taak⟩
 case round =>
  clear H';try clear p2
  obtain ⟨x11_1,rfl,HA,HK1,⟨m1,rfl⟩⟩:=hrel;cases gk with
  | zero=>exact absurd HA.out (by simp [spec_l1All.l0])
  | succ k1 =>
   have H:=HA.out;clear HA;simp only [spec_l1All.l0] at H;by_cases c4:x11_1<(l0.length:Int)
   ·rw [if_pos c4] at H
    have c4b0:decide (x11_1<(l0.length:Int))=true:=zba c4;clear c4;by_cases c5:0≤x11_1
    ·rw [if_pos c5] at H
     have c5b0:decide (0≤x11_1)=true:=zba c5;clear c5;by_cases c6:x11_1<(l0.length:Int)
     ·rw [if_pos c6] at H
      have c6b0:decide (x11_1<(l0.length:Int))=true:=zba c6;clear c6;replace H:=zay.mp H;obtain ⟨t275,A70,H⟩:=H;replace H:(if t275=true then (spec_l1All.l0 k1 a1 a2 l0 (l0.length:Int) (wrap64 (x11_1+1))) else (some false))=some r:=H;have A7:=zad A70;clear A70;by_cases c8:t275=true
      ·subst c8
       have H1:(spec_l1All.l0 k1 a1 a2 l0 (l0.length:Int) (wrap64 (x11_1+1)))=some r:=by rw [if_pos rfl] at H;exact H
       clear H;have H:=H1;clear H1;have H':=zad H;clear H;have p274:0≤(x11_1:Int):=zas (taab);have q274:x11_1<(l0.length:Int):=zas (taab);obtain ⟨ad274,e274,hx274_0⟩:=zca HR0.out x11_1 p274 q274;cases e274;replace p274:=eq_true p274;replace q274:=eq_true q274;go_wp2_with (first | ((with_reducible refine zbj (f:=73) rfl ?_);refine zbr (some 18) rfl rfl Tryz.func73 (by kernel_rfl) rfl #[.int .i64 (rd l0 x11_1),.int .i64 a1,.int .i64 a2] rfl (taac) ?_;(with_reducible refine (spec_l1In.calls (rd l0 x11_1) a1 a2 true _ A7.out).mono ?_);rintro e w' ⟨rfl,⟨nd,rfl⟩⟩;refine ⟨_,rfl,?_⟩))
       go_roundg k1
       case measure=>have:=HK1.out;omega
       case rel=>exact ⟨(wrap64 (x11_1+1)),(taae),H',⟨taap⟩,taak⟩
      ·replace c8:=zbk.mpr c8
       subst c8;have H1:(some false)=some r:=by rw [if_neg (show ¬ (false=true) by decide)] at H;exact H
       clear H;have H:=H1;clear H1;obtain rfl:=zbg H;have p274:0≤(x11_1:Int):=zas (taab);have q274:x11_1<(l0.length:Int):=zas (taab);obtain ⟨ad274,e274,hx274_0⟩:=zca HR0.out x11_1 p274 q274;cases e274;replace p274:=eq_true p274;replace q274:=eq_true q274;go_wp2_with (first | ((with_reducible refine zbj (f:=73) rfl ?_);refine zbr (some 18) rfl rfl Tryz.func73 (by kernel_rfl) rfl #[.int .i64 (rd l0 x11_1),.int .i64 a1,.int .i64 a2] rfl (taac) ?_;(with_reducible refine (spec_l1In.calls (rd l0 x11_1) a1 a2 false _ A7.out).mono ?_);rintro e w' ⟨rfl,⟨nd,rfl⟩⟩;refine ⟨_,rfl,?_⟩))
       go_ret
       exact ⟨taae,taak⟩
     ·rw [if_neg c6] at H
      exact absurd H (taad)
    ·rw [if_neg c5] at H
     exact absurd H (taad)
   ·rw [if_neg c4] at H
    have c4b0:decide (x11_1<(l0.length:Int))=false:=zbl c4;clear c4;obtain rfl:=zbg H;go_wp2
    go_ret
    exact ⟨taae,taak⟩
def spec_liGood.f (k:Nat) (l0:List Int):Option (Bool):=(spec_l1In.f (l0.length:Int) 1 8).bind fun t276=>(if t276=true then ((spec_l1All.f k l0 0 60).bind fun t277=>(some t277)) else (some false))
theorem spec_liGood.calls (k:Nat) (A0:Option Addr) (c0:Nat) (l0:List Int) (r:Bool) (w:World) (hr0:Kd.C (Kd.int .i64) w A0 l0.length l0) (hc0:l0.length≤c0) (h:spec_liGood.f k l0=some r) :
 Calls Tryz.prog 33 #[.slice A0 l0.length c0] w fun e w'=>e = .returned (.bool r)∧Drawn0 w w':=by
 have HR0:=zad hr0;have HC0:=zad hc0;clear hr0 hc0;have H:((spec_l1In.f (l0.length:Int) 1 8).bind fun t276=>(if t276=true then ((spec_l1All.f k l0 0 60).bind fun t277=>(some t277)) else (some false)))=some r:=h;clear h;replace H:=zay.mp H;obtain ⟨t276,A20,H⟩:=H;replace H:(if t276=true then ((spec_l1All.f k l0 0 60).bind fun t277=>(some t277)) else (some false))=some r:=H;have A2:=zad A20;clear A20;by_cases c3:t276=true
 ·subst c3
  have H1:((spec_l1All.f k l0 0 60).bind fun t277=>(some t277))=some r:=by rw [if_pos rfl] at H;exact H
  clear H;have H:=H1;clear H1;replace H:=zay.mp H;obtain ⟨t277,A40,H⟩:=H;replace H:(some t277)=some r:=H;have A4:=zad A40;clear A40;obtain rfl:=zbg H;go_enter Tryz.func33,Tryz.ntmps33;go_wp2_with (first | ((with_reducible refine zbj (f:=73) rfl ?_);refine zbr (some 5) rfl rfl Tryz.func73 (by kernel_rfl) rfl #[.int .i64 (l0.length:Int),.int .i64 1,.int .i64 8] rfl (taac) ?_;(with_reducible refine (spec_l1In.calls (l0.length:Int) 1 8 true _ A2.out).mono ?_);rintro e w' ⟨rfl,⟨nd,rfl⟩⟩;refine ⟨_,rfl,?_⟩) | (go_at_call 74;(with_reducible refine (spec_l1All.calls k _ _ l0 0 60 t277 _ ?side1 ?side2 A4.out).mono ?_);(case side1=>exact tahq);(case side2=>exact HC0.out);rintro e w' ⟨rfl,⟨nd,rfl⟩⟩))
  go_ret
  exact ⟨taae,taak⟩
 ·replace c3:=zbk.mpr c3
  subst c3;have H1:(some false)=some r:=by rw [if_neg (show ¬ (false=true) by decide)] at H;exact H
  clear H;have H:=H1;clear H1;obtain rfl:=zbg H;go_enter Tryz.func33,Tryz.ntmps33;go_wp2_with (first | ((with_reducible refine zbj (f:=73) rfl ?_);refine zbr (some 5) rfl rfl Tryz.func73 (by kernel_rfl) rfl #[.int .i64 (l0.length:Int),.int .i64 1,.int .i64 8] rfl (taac) ?_;(with_reducible refine (spec_l1In.calls (l0.length:Int) 1 8 false _ A2.out).mono ?_);rintro e w' ⟨rfl,⟨nd,rfl⟩⟩;refine ⟨_,rfl,?_⟩))
  go_ret
  exact ⟨taae,taak⟩
mutual
def spec_MostEven.j0:Nat→Int→Int→Bool→Option (List Int × Bool)
 | 0,_,_,_=>none
 | k+1,x0,x1,x17=>if x17=true then (some (([]:List Int),false)) else (spec_MostEven.l0 k x0 x1 ([]:List Int) 0)
def spec_MostEven.l0:Nat→Int→Int→List Int→Int→Option (List Int × Bool)
 | 0,_,_,_,_=>none
 | k+1,x0,x1,x6,x7=>if x7<x0 then (if x0=0 then (none) else (if x6.length<17592186044416 then (spec_MostEven.l0 k x0 x1 (x6 ++ [wrap64 (Int.tdiv (wrap64 ((wrap64 ((wrap64 (x1+x0)) - 1)) - x7)) x0)]) (wrap64 (x7+1))) else (none))) else (some (x6,true))
end
def spec_MostEven.f (k:Nat) (a0:Int) (a1:Int):Option (List Int × Bool):=(spec_l1In.f a0 1 8).bind fun t467=>(if t467=true then ((spec_l1In.f a1 0 (wrap64 (a0*60))).bind fun t468=>(spec_MostEven.j0 k a0 a1 (!t468))) else (spec_MostEven.j0 k a0 a1 true))
theorem spec_MostEven.calls (k:Nat) (a0:Int) (a1:Int) (r1:List Int) (r2:Bool) (w:World) (h:spec_MostEven.f k a0 a1=some (r1,r2)) :
 Calls Tryz.prog 34 #[.int .i64 a0,.int .i64 a1] w fun e w'=>∃ v0_:Value,e = .returned (.tuple #[v0_,.bool r2])∧Kd.R (Kd.int .i64) 3 w' w.heap.size (fun _=>True) v0_ r1∧Below w.heap.size w w':=by
 have HB:=zad (Below.refl w.heap.size w);have H:((spec_l1In.f a0 1 8).bind fun t467=>(if t467=true then ((spec_l1In.f a1 0 (wrap64 (a0*60))).bind fun t468=>(spec_MostEven.j0 k a0 a1 (!t468))) else (spec_MostEven.j0 k a0 a1 true)))=some (r1,r2):=h;clear h;have HC3:=zad H;clear H;go_enter Tryz.func34,Tryz.ntmps34;go_upto_region 1 with (fail)
 go_cut [17] (fun v17 wc=>∃ (kq:Nat) (x17_2:Bool),v17 = .bool x17_2∧Aside0 (spec_MostEven.j0 kq a0 a1 x17_2=some (r1,r2))∧Aside0 (kq≤k)∧Aside0 (Below w.heap.size w wc))
 case first =>
  have H:=HC3.out;clear HC3;replace H:=zay.mp H;obtain ⟨t467,A40,H⟩:=H;replace H:(if t467=true then ((spec_l1In.f a1 0 (wrap64 (a0*60))).bind fun t468=>(spec_MostEven.j0 k a0 a1 (!t468))) else (spec_MostEven.j0 k a0 a1 true))=some (r1,r2):=H;have A4:=zad A40;clear A40;by_cases c5:t467=true
  ·subst c5
   have H1:((spec_l1In.f a1 0 (wrap64 (a0*60))).bind fun t468=>(spec_MostEven.j0 k a0 a1 (!t468)))=some (r1,r2):=by rw [if_pos rfl] at H;exact H
   clear H;have H:=H1;clear H1;replace H:=zay.mp H;obtain ⟨t468,A60,H⟩:=H;replace H:(spec_MostEven.j0 k a0 a1 (!t468))=some (r1,r2):=H;have A6:=zad A60;clear A60;have H':=zad H;clear H;go_wp2_with (first | ((with_reducible refine zbj (f:=73) rfl ?_);refine zbr (some 9) rfl rfl Tryz.func73 (by kernel_rfl) rfl #[.int .i64 a0,.int .i64 1,.int .i64 8] rfl (taac) ?_;(with_reducible refine (spec_l1In.calls a0 1 8 true _ A4.out).mono ?_);rintro e w' ⟨rfl,⟨nd,rfl⟩⟩;refine ⟨_,rfl,?_⟩) | (go_at_call 73;(with_reducible refine (spec_l1In.calls a1 0 (wrap64 (a0*60)) t468 _ A6.out).mono ?_);rintro e w' ⟨rfl,⟨nd,rfl⟩⟩))
   go_meet
   case rel=>exact ⟨_,(!t468),(taae),H',⟨tabf⟩,⟨taaa⟩⟩
  ·replace c5:=zbk.mpr c5
   subst c5;have H1:(spec_MostEven.j0 k a0 a1 true)=some (r1,r2):=by rw [if_neg (show ¬ (false=true) by decide)] at H;exact H
   clear H;have H:=H1;clear H1;have H':=zad H;clear H;go_wp2_with (first | ((with_reducible refine zbj (f:=73) rfl ?_);refine zbr (some 9) rfl rfl Tryz.func73 (by kernel_rfl) rfl #[.int .i64 a0,.int .i64 1,.int .i64 8] rfl (taac) ?_;(with_reducible refine (spec_l1In.calls a0 1 8 false _ A4.out).mono ?_);rintro e w' ⟨rfl,⟨nd,rfl⟩⟩;refine ⟨_,rfl,?_⟩))
   go_meet
   case rel=>exact ⟨_,(true),(taae),H',⟨tabf⟩,⟨taaa⟩⟩
 case rest =>
  clear HC3;try clear p2
  try clear c3
  try clear c5
  try clear p6
  obtain ⟨kq,x17_2,rfl,HA,HJ2,HB⟩:=hcut;cases kq with
  | zero=>exact absurd HA.out (by simp [spec_MostEven.j0])
  | succ kj2 =>
   have H:=HA.out;clear HA;simp only [spec_MostEven.j0] at H;by_cases c7:x17_2=true
   ·subst c7
    have H1:(some (([]:List Int),false))=some (r1,r2):=by rw [if_pos rfl] at H;exact H
    clear H;have H:=H1;clear H1;simp only [zbp,zbt] at H;obtain ⟨rfl,rfl⟩:=H;go_wp2
    go_ret2
    exact ⟨_,taah,taaz,taaa⟩
   ·replace c7:=zbk.mpr c7
    subst c7;have H1:(spec_MostEven.l0 kj2 a0 a1 ([]:List Int) 0)=some (r1,r2):=by rw [if_neg (show ¬ (false=true) by decide)] at H;exact H
    clear H;have H:=H1;clear H1;have H':=zad H;clear H;go_wp2
    go_loopg [6,7] kj2 (fun kq v6 v7 w'=>∃ (x6_2:List Int) (x7_2:Int),v7 = .int .i64 x7_2∧Aside0 (spec_MostEven.l0 kq a0 a1 x6_2 x7_2=some (r1,r2))∧Aside0 (kq≤kj2)∧Aside0 (Kd.R (Kd.int .i64) 3 w' w.heap.size (fun _=>True) v6 x6_2)∧Aside0 (Below w.heap.size w w'))
    case atStart=>exact ⟨(([]:List Int)),(0),(taae),H',⟨zcf _⟩,⟨taaz⟩,⟨taaa⟩⟩
    case round =>
     clear H';try clear p2
     try clear c3
     try clear c5
     try clear p6
     try clear c7
     try clear p2
     try clear p6
     obtain ⟨x6_2,x7_2,rfl,HA,HK2,HO_6,HB⟩:=hrel;cases gk with
     | zero=>exact absurd HA.out (by simp [spec_MostEven.l0])
     | succ k2 =>
      have H:=HA.out;clear HA;simp only [spec_MostEven.l0] at H;by_cases c8:x7_2<a0
      ·rw [if_pos c8] at H
       have c8b0:decide (x7_2<a0)=true:=zba c8;clear c8;by_cases c9:a0=0
       ·rw [if_pos c9] at H
        exact absurd H (taad)
       ·rw [if_neg c9] at H
        have c9b0:(a0 == 0)=false:=zbs.mpr c9;have c9b1:(a0 != 0)=true:=bne_iff_ne.mpr c9;by_cases c10:x6_2.length<17592186044416
        ·rw [if_pos c10] at H
         have LMc10:=zad c10;clear c10;obtain ⟨y469,hy469⟩:∃ y_:List Int,y_=(x6_2 ++ [wrap64 (Int.tdiv (wrap64 ((wrap64 ((wrap64 (a1+a0)) - 1)) - x7_2)) a0)]):=⟨_,rfl⟩;replace H:(spec_MostEven.l0 k2 a0 a1 y469 (wrap64 (x7_2+1)))=some (r1,r2):=by first | (rw [hy469];with_reducible exact H) | (have H2_:=(zbf _ _).symm.trans H;rw [hy469];with_reducible exact H2_) | (have H2_:=(zbf _ _).symm.trans H;with_reducible exact H2_) | with_reducible exact H | (rw [hy469];exact H) | exact H
         have Ny469:=zad hy469;clear hy469;have H':=zad H;clear H;go_wp2_with (first | ((with_reducible refine gate_builtin (b := .append) (xs:=#[.tmp 23,.tmp 32]) rfl ?_);at_builtin;refine Kd.R_append (Kd.int .i64) (w0:=w) w.heap.size rfl (.tmp 23) (.tmp 32) 24 3 (.int .i64 0) 8 rfl Tryz.underlying24 info3 rfl (by decide) (by omega) u6 x6_2 (wrap64 (Int.tdiv (wrap64 ((wrap64 ((wrap64 (a1+a0)) - 1)) - x7_2)) a0)) [.int .i64 (wrap64 (Int.tdiv (wrap64 ((wrap64 ((wrap64 (a1+a0)) - 1)) - x7_2)) a0))] (fun _=>True) (fun _=>False) rfl rfl ?aP (fun _ hk=>hk.elim) ?aF ?aO ?aB ?aS ?aL ?_;(case aP=>exact rfl);(case aB=>exact (taaa));(case aF=>exact (fun _ _=>trivial));(case aO=>exact (taai));(case aS=>exact (zbo (taaa)));(case aL=>have:=LMc10.out;omega);intro v470 w11 ho hb hg hat;rw [← Ny469.out] at ho;have n0_:=zad (hb);have n1_:=zad (ho);clear HB HO_6;have HB:=n0_;have HO471:=n1_;clear n0_ n1_ ho hb hg hat))
         go_roundg k2
         case measure=>have:=HJ2.out;have:=HK2.out;omega
         case rel=>exact ⟨(y469),(wrap64 (x7_2+1)),(taae),H',⟨by have:=HJ2.out;have:=HK2.out;omega⟩,⟨by (with_reducible repeat (first | apply zai | apply zaj | apply zak));exact HO471.out⟩,⟨taaa⟩⟩
        ·rw [if_neg c10] at H
         exact absurd H (taad)
      ·rw [if_neg c8] at H
       have c8b0:decide (x7_2<a0)=false:=zbl c8;clear c8;simp only [zbp,zbt] at H;obtain ⟨rfl,rfl⟩:=H;go_wp2
       go_ret2
       exact ⟨_,taah,taai,taaa⟩
def spec_l1Own.f (l0:List Int):Option (List Int):=(some (([]:List Int):List Int)).bind fun y150=>(if y150.length+l0.length<17592186044416 then (some (y150 ++ l0)) else (none))
theorem spec_l1Own.calls (A0:Option Addr) (c0:Nat) (l0:List Int) (r:List Int) (w:World) (hr0:Kd.C (Kd.int .i64) w A0 l0.length l0) (hc0:l0.length≤c0) (h:spec_l1Own.f l0=some r) :
 Calls Tryz.prog 57 #[.slice A0 l0.length c0] w fun e w'=>∃ v0_:Value,e = .returned (v0_)∧Kd.R (Kd.int .i64) 3 w' w.heap.size (fun _=>True) v0_ r∧Below w.heap.size w w':=by
 have HR0:=zad hr0;have HC0:=zad hc0;clear hr0 hc0;have HB:=zad (Below.refl w.heap.size w);have H:((some (([]:List Int):List Int)).bind fun y150=>(if y150.length+l0.length<17592186044416 then (some (y150 ++ l0)) else (none)))=some r:=h;clear h;obtain ⟨y150,hy150⟩:∃ y_:List Int,y_=(([]:List Int)):=⟨_,rfl⟩;replace H:(if y150.length+l0.length<17592186044416 then (some (y150 ++ l0)) else (none))=some r:=by first | (rw [hy150];with_reducible exact H) | (have H2_:=(zbf _ _).symm.trans H;rw [hy150];with_reducible exact H2_) | (have H2_:=(zbf _ _).symm.trans H;with_reducible exact H2_) | with_reducible exact H | (rw [hy150];exact H) | exact H
 have Ny150:=zad hy150;clear hy150;by_cases c2:y150.length+l0.length<17592186044416
 ·rw [if_pos c2] at H
  have LMc2:=zad c2;clear c2;obtain ⟨y153,hy153⟩:∃ y_:List Int,y_=(y150 ++ l0):=⟨_,rfl⟩;replace H:(some y153)=some r:=by first | (rw [hy153];with_reducible exact H) | (have H2_:=(zbf _ _).symm.trans H;rw [hy153];with_reducible exact H2_) | (have H2_:=(zbf _ _).symm.trans H;with_reducible exact H2_) | with_reducible exact H | (rw [hy153];exact H) | exact H
  have Ny153:=zad hy153;clear hy153;obtain rfl:=zbg H;go_enter Tryz.func57,Tryz.ntmps57;go_wp2_with (first | ((with_reducible refine gate_dst (N:=3) rfl ?_);refine Kd.R_lit (Kd.int .i64) _ 3 ?hg (N:=3) ?hd (xs:=([]:List Int)) (inner:=[]) (ok:=fun _=>True) (okp:=fun _=>True) ?hr ?hp (fun _ hk=>hk) trivial (Below.refl _ _) (zcf _) (taad) ?_;(case hd=>rfl);(case hg=>rfl);(case hr=>first | (go_simp;done) | (go_simp;rfl));(case hp=>exact (Reps.none _ _));intro v151 w3 ho4 hb hg_ hnew_;clear hg_ hnew_;(first | rw [← Ny150.out] at ho4 | (simp only [Int.reduceToNat] at ho4;rw [← Ny150.out] at ho4));have n0_:=zad (zby ho4 (zbo (taaa)));have n1_:=zad (zbi (taaa) hb);clear HB;have HO152:=n0_;have HB:=n1_;clear n0_ n1_ hb ho4) | ((with_reducible refine gate_builtin (b := .append) (xs:=#[.tmp 3,.tmp 4]) rfl ?_);at_builtin;refine Kd.R_append_rows (Kd.int .i64) (w0:=w) w.heap.size rfl (.tmp 3) (.tmp 4) 24 3 (.int .i64 0) 8 rfl Tryz.underlying24 info3 rfl (by decide) (by omega) v151 y150 l0 _ _ _ (fun _=>True) (fun _=>False) rfl rfl ?aO ?aR (fun _ _ h=>h) (fun _ h=>h.elim) ?aF ?aB ?aS ?aL ?_;(case aR=>repeat (first | exact (Kd.C_below HR0.out HB.out) | (with_reducible refine zal ?_ _) | (with_reducible refine zam ?_ _) | (with_reducible refine zan ?_)));(case aB=>exact (taaa));(case aF=>exact (fun _ _=>trivial));(case aO=>exact (by (with_reducible repeat (first | apply zai | apply zaj | apply zak));exact HO152.out));(case aS=>exact (zbo (taaa)));(case aL=>have:=LMc2.out;omega);intro v154 w5 ho hb hg hat;rw [← Ny153.out] at ho;have n0_:=zad (hb);have n1_:=zad (ho);clear HB HO152;have HB:=n0_;have HO155:=n1_;clear n0_ n1_ ho hb hg hat))
  go_ret
  exact ⟨_,taah,by (with_reducible repeat (first | apply zai | apply zaj | apply zak));exact HO155.out,taaa⟩
 ·rw [if_neg c2] at H
  exact absurd H (taad)
mutual
def spec_liRank.l0:Nat→List Int→List Int→Int→Int→Option (List Int)
 | 0,_,_,_,_=>none
 | k+1,x3,x7,x8,x9=>if x9<x8 then (if 0≤x9 then (if x9<(x7.length:Int) then (spec_liRank.l1 k x3 (rd x7 x9) 0 x7 x8 x9) else (none)) else (none)) else (some x3)
def spec_liRank.l1:Nat→List Int→Int→Int→List Int→Int→Int→Option (List Int)
 | 0,_,_,_,_,_,_=>none
 | k+1,x3,x5,x6,x7,x8,x9=>if x6<(x3.length:Int) then (if 0≤x6 then (if (rd x3 x6)≥x5 then (spec_liRank.l1 k x3 x5 (wrap64 (x6+1)) x7 x8 x9) else (if x6≤(x3.length:Int) then ((spec_l1Own.f (x3.take (x6:Int).toNat)).bind fun t287=>((some (([x5]:List Int):List Int)).bind fun y290=>(if t287.length+y290.length<17592186044416 then ((some (t287 ++ y290:List Int)).bind fun y293=>((some (x3.drop (x6:Int).toNat:List Int)).bind fun y296=>(if y293.length+y296.length<17592186044416 then (spec_liRank.l0 k (y293 ++ y296) x7 x8 (wrap64 (x9+1))) else (none)))) else (none)))) else (none))) else (none)) else (if 0≤x6 then (if x6≤(x3.length:Int) then ((spec_l1Own.f (x3.take (x6:Int).toNat)).bind fun t307=>((some (([x5]:List Int):List Int)).bind fun y310=>(if t307.length+y310.length<17592186044416 then ((some (t307 ++ y310:List Int)).bind fun y313=>((some (x3.drop (x6:Int).toNat:List Int)).bind fun y316=>(if y313.length+y316.length<17592186044416 then (spec_liRank.l0 k (y313 ++ y316) x7 x8 (wrap64 (x9+1))) else (none)))) else (none)))) else (none)) else (none))
end
def spec_liRank.f (k:Nat) (l0:List Int):Option (List Int):=spec_liRank.l0 k ([]:List Int) l0 (l0.length:Int) 0
def spec_liRank.T8:Bool × List (List Nat × List Nat):=(true,[([],[]),([],[]),([0,1],[0,1]),([2],[2]),([],[]),([4],[4]),([3,5,3],[3,5]),([],[]),([],[]),([7,8],[7,8]),([6,9,6],[6,9]),([10,10,0,1,2,3,4,5,6,7,8,9,10],[0,7,10])])
def spec_liRank.B8:List Nat:=[0,0,3,7,0,16,63,0,0,384,1023,2047]
theorem spec_liRank.tab8:rtab .any (opsOf Tryz.f46 8)=spec_liRank.T8:=by kernel_rfl
theorem spec_liRank.bits8:waitsOk spec_liRank.T8.2 spec_liRank.B8=true:=by kernel_rfl
theorem spec_liRank.calls (k:Nat) (A0:Option Addr) (c0:Nat) (l0:List Int) (r:List Int) (w:World) (hr0:Kd.C (Kd.int .i64) w A0 l0.length l0) (hc0:l0.length≤c0) (h:spec_liRank.f k l0=some r) :
 Calls Tryz.prog 46 #[.slice A0 l0.length c0] w fun e w'=>∃ v0_:Value,e = .returned (v0_)∧Kd.R (Kd.int .i64) 3 w' w.heap.size (fun _=>True) v0_ r∧Below w.heap.size w w':=by
 have HR0:=zad hr0;have HC0:=zad hc0;clear hr0 hc0;have HB:=zad (Below.refl w.heap.size w);have H:(spec_liRank.l0 k ([]:List Int) l0 (l0.length:Int) 0)=some r:=h;clear h;have H':=zad H;clear H;go_enter Tryz.func46,Tryz.ntmps46;go_wp2
 go_loopg [3,9] k (fun kq v3 v9 w'=>∃ (x3_1:List Int) (x9_1:Int),v9 = .int .i64 x9_1∧Aside0 (spec_liRank.l0 kq x3_1 l0 (l0.length:Int) x9_1=some r)∧Aside0 (kq≤k)∧Aside0 (Kd.R (Kd.int .i64) 3 w' w.heap.size (fun _=>True) v3 x3_1)∧Aside0 (Below w.heap.size w w'))
 case atStart=>exact ⟨(([]:List Int)),(0),(taae),H',⟨zcf _⟩,⟨taaz⟩,⟨taaa⟩⟩
 case round =>
  clear H';obtain ⟨x3_1,x9_1,rfl,HA,HK1,HO_3,HB⟩:=hrel;cases gk with
  | zero=>exact absurd HA.out (by simp [spec_liRank.l0])
  | succ k1 =>
   have H:=HA.out;clear HA;simp only [spec_liRank.l0] at H;by_cases c2:x9_1<(l0.length:Int)
   ·rw [if_pos c2] at H
    have c2b0:decide (x9_1<(l0.length:Int))=true:=zba c2;clear c2;by_cases c3:0≤x9_1
    ·rw [if_pos c3] at H
     have c3b0:decide (0≤x9_1)=true:=zba c3;clear c3;by_cases c4:x9_1<(l0.length:Int)
     ·rw [if_pos c4] at H
      have c4b0:decide (x9_1<(l0.length:Int))=true:=zba c4;clear c4;have H':=zad H;clear H;have p281:0≤(x9_1:Int):=zas (taab);have q281:x9_1<(l0.length:Int):=zas (taab);obtain ⟨ad281,e281,hx281_0⟩:=zca HR0.out x9_1 p281 q281;cases e281;replace hx281_0:=(HB.out.cell (zaz w _ hx281_0)).trans hx281_0;replace p281:=eq_true p281;replace q281:=eq_true q281;go_wp2
      go_loopg [6] k1 (fun kq v6 w'=>∃ (x6_2:Int),v6 = .int .i64 x6_2∧Aside0 (spec_liRank.l1 kq x3_1 (rd l0 x9_1) x6_2 l0 (l0.length:Int) x9_1=some r)∧Aside0 (kq≤k1)∧Aside0 (Kd.R (Kd.int .i64) 3 w' w.heap.size (fun _=>True) u3 x3_1)∧Aside0 (Below w.heap.size w w'))
      case atStart=>exact ⟨(0),(taae),H',⟨zcf _⟩,⟨taan⟩,⟨taaa⟩⟩
      case round =>
       clear H';try clear c2
       try clear c2b0
       try clear p2
       try clear q2
       try clear hx2
       try clear c3
       try clear c3b0
       try clear c4
       try clear c4b0
       try clear hx281_0
       try clear p281
       try clear q281
       obtain ⟨x6_2,rfl,HA,HK2,HO_3,HB⟩:=hrel;cases gk with
       | zero=>exact absurd HA.out (by simp [spec_liRank.l1])
       | succ k2 =>
        have H:=HA.out;clear HA;simp only [spec_liRank.l1] at H;by_cases c5:x6_2<(x3_1.length:Int)
        ·rw [if_pos c5] at H
         have c5b0:decide (x6_2<(x3_1.length:Int))=true:=zba c5;clear c5;by_cases c6:0≤x6_2
         ·rw [if_pos c6] at H
          have c6b0:decide (0≤x6_2)=true:=zba c6;clear c6;by_cases c7:(rd x3_1 x6_2)≥(rd l0 x9_1)
          ·rw [if_pos c7] at H
           have c7b0:decide ((rd l0 x9_1)≤(rd x3_1 x6_2))=true:=zba c7;clear c7;have H':=zad H;clear H;obtain ⟨Ao8,co8,eo8⟩:=zbz HO_3.out;subst eo8;have p282:0≤(x6_2:Int):=zas (taab);have q282:x6_2<(x3_1.length:Int):=zas (taab);obtain ⟨ad282,e282,hx282_0⟩:=zca (zbh HO_3.out).2.2 x6_2 p282 q282;cases e282;replace p282:=eq_true p282;replace q282:=eq_true q282;go_wp2
           go_roundg k2
           case measure=>have:=HK1.out;have:=HK2.out;omega
           case rel=>exact ⟨(wrap64 (x6_2+1)),(taae),H',⟨taba⟩,⟨taan⟩,⟨taaa⟩⟩
          ·rw [if_neg c7] at H
           have c7b0:decide ((rd l0 x9_1)≤(rd x3_1 x6_2))=false:=zbl c7;clear c7;have c9b0:=eq_true (zas (taab):0≤x6_2);by_cases c10:x6_2≤(x3_1.length:Int)
           ·rw [if_pos c10] at H
            have c10b0:=eq_true c10;have c10b1:decide (x6_2≤(x3_1.length:Int))=true:=zba c10;clear c10;obtain ⟨y283,hy283⟩:∃ y_:List Int,y_=(x3_1.take (x6_2:Int).toNat):=⟨_,rfl⟩;replace H:((spec_l1Own.f y283).bind fun t287=>((some (([(rd l0 x9_1)]:List Int):List Int)).bind fun y290=>(if t287.length+y290.length<17592186044416 then ((some (t287 ++ y290:List Int)).bind fun y293=>((some (x3_1.drop (x6_2:Int).toNat:List Int)).bind fun y296=>(if y293.length+y296.length<17592186044416 then (spec_liRank.l0 k2 (y293 ++ y296) l0 (l0.length:Int) (wrap64 (x9_1+1))) else (none)))) else (none))))=some r:=by first | (rw [hy283];with_reducible exact H) | (have H2_:=(zbf _ _).symm.trans H;rw [hy283];with_reducible exact H2_) | (have H2_:=(zbf _ _).symm.trans H;with_reducible exact H2_) | with_reducible exact H | (rw [hy283];exact H) | exact H
            have Ny283:=zad hy283;clear hy283;replace H:=zay.mp H;obtain ⟨t287,A110,H⟩:=H;replace H:((some (([(rd l0 x9_1)]:List Int):List Int)).bind fun y290=>(if t287.length+y290.length<17592186044416 then ((some (t287 ++ y290:List Int)).bind fun y293=>((some (x3_1.drop (x6_2:Int).toNat:List Int)).bind fun y296=>(if y293.length+y296.length<17592186044416 then (spec_liRank.l0 k2 (y293 ++ y296) l0 (l0.length:Int) (wrap64 (x9_1+1))) else (none)))) else (none)))=some r:=H;have A11:=zad A110;clear A110;obtain ⟨y290,hy290⟩:∃ y_:List Int,y_=(([(rd l0 x9_1)]:List Int)):=⟨_,rfl⟩;replace H:(if t287.length+y290.length<17592186044416 then ((some (t287 ++ y290:List Int)).bind fun y293=>((some (x3_1.drop (x6_2:Int).toNat:List Int)).bind fun y296=>(if y293.length+y296.length<17592186044416 then (spec_liRank.l0 k2 (y293 ++ y296) l0 (l0.length:Int) (wrap64 (x9_1+1))) else (none)))) else (none))=some r:=by first | (rw [hy290];with_reducible exact H) | (have H2_:=(zbf _ _).symm.trans H;rw [hy290];with_reducible exact H2_) | (have H2_:=(zbf _ _).symm.trans H;with_reducible exact H2_) | with_reducible exact H | (rw [hy290];exact H) | exact H
            have Ny290:=zad hy290;clear hy290;by_cases c12:t287.length+y290.length<17592186044416
            ·rw [if_pos c12] at H
             have LMc12:=zad c12;clear c12;obtain ⟨y293,hy293⟩:∃ y_:List Int,y_=(t287 ++ y290):=⟨_,rfl⟩;replace H:((some (x3_1.drop (x6_2:Int).toNat:List Int)).bind fun y296=>(if y293.length+y296.length<17592186044416 then (spec_liRank.l0 k2 (y293 ++ y296) l0 (l0.length:Int) (wrap64 (x9_1+1))) else (none)))=some r:=by first | (rw [hy293];with_reducible exact H) | (have H2_:=(zbf _ _).symm.trans H;rw [hy293];with_reducible exact H2_) | (have H2_:=(zbf _ _).symm.trans H;with_reducible exact H2_) | with_reducible exact H | (rw [hy293];exact H) | exact H
             have Ny293:=zad hy293;clear hy293;have c13b0:=eq_true (zas (taab):0≤x6_2);have c14b0:=eq_true (zas (taab):x6_2≤(x3_1.length:Int));obtain ⟨y296,hy296⟩:∃ y_:List Int,y_=(x3_1.drop (x6_2:Int).toNat):=⟨_,rfl⟩;replace H:(if y293.length+y296.length<17592186044416 then (spec_liRank.l0 k2 (y293 ++ y296) l0 (l0.length:Int) (wrap64 (x9_1+1))) else (none))=some r:=by first | (rw [hy296];with_reducible exact H) | (have H2_:=(zbf _ _).symm.trans H;rw [hy296];with_reducible exact H2_) | (have H2_:=(zbf _ _).symm.trans H;with_reducible exact H2_) | with_reducible exact H | (rw [hy296];exact H) | exact H
             have Ny296:=zad hy296;clear hy296;by_cases c15:y293.length+y296.length<17592186044416
             ·rw [if_pos c15] at H
              have LMc15:=zad c15;clear c15;obtain ⟨y300,hy300⟩:∃ y_:List Int,y_=(y293 ++ y296):=⟨_,rfl⟩;replace H:(spec_liRank.l0 k2 y300 l0 (l0.length:Int) (wrap64 (x9_1+1)))=some r:=by first | (rw [hy300];with_reducible exact H) | (have H2_:=(zbf _ _).symm.trans H;rw [hy300];with_reducible exact H2_) | (have H2_:=(zbf _ _).symm.trans H;with_reducible exact H2_) | with_reducible exact H | (rw [hy300];exact H) | exact H
              have Ny300:=zad hy300;clear hy300;have H':=zad H;clear H;obtain ⟨Ao16,co16,eo16⟩:=zbz HO_3.out;subst eo16;have p282:0≤(x6_2:Int):=zas (taab);have q282:x6_2<(x3_1.length:Int):=zas (taab);obtain ⟨ad282,e282,hx282_0⟩:=zca (zbh HO_3.out).2.2 x6_2 p282 q282;cases e282;replace p282:=eq_true p282;replace q282:=eq_true q282;try go_wp2
              have n0_:=zad (zak HO_3.out);have n1_:=zad (zaf HB.out);clear HO_3 HB;have HO_3:=n0_;have HB:=n1_;clear n0_ n1_;have q18:(x6_2:Int)≤((x3_1.length:Int):Int):=zas (taab);obtain ⟨i018,hi018,_,hsz18,_⟩:=info_parts info3;have hroom18:x3_1.length≤co16:=(zbh HO_3.out).2.1;have hC18:Kd.C (Kd.int .i64) _ (some ad282) x3_1.length x3_1:=(zbh HO_3.out).2.2;have hcut18:=cut_to (P:=Tryz.prog) 24 3 .i64 Tryz.underlying24 hi018 (some ad282) x3_1.length co16 x6_2 (zas (taab)) q18 hroom18;have hr18:=Kd.C_take (m:=(x6_2:Int).toNat) hC18 (by omega);have hy18:y283.length=(x6_2:Int).toNat:=(by rw [Ny283.out,zax];omega);rw [← Ny283.out] at hr18
              rw [← hy18] at hcut18
              have HR286:=zad hr18;have HC286:=zad (show y283.length≤co16 from by omega);clear hr18 hC18 hroom18 hi018 hsz18;have KY18:=zad hy18;clear hy18;have KL18:=zad (show (x6_2:Int).toNat≤x3_1.length from by omega);replace q18:=eq_true q18;have q19:(x6_2:Int)≤((x3_1.length:Int):Int):=zas (taab);obtain ⟨i019,hi019,_,hsz19,_⟩:=info_parts info3;have hroom19:x3_1.length≤co16:=(zbh HO_3.out).2.1;have hC19:Kd.C (Kd.int .i64) _ (some ad282) x3_1.length x3_1:=(zbh HO_3.out).2.2;have q019:(0:Int)≤(x6_2:Int):=zas (taab);have hcut19:=cut_from (P:=Tryz.prog) 24 3 .i64 Tryz.underlying24 hi019 1 hsz19 (some ad282) x3_1.length co16 x6_2 q019 q19;have hr19:=Kd.C_drop (m:=(x6_2:Int).toNat) (c:=co16) hC19 (by omega) hroom19;obtain ⟨A19,hA19⟩:∃ A1,A1=(if co16=(x6_2:Int).toNat then (some ad282) else ((some ad282):Option Addr).map (·.add ((x6_2:Int).toNat*1))):=⟨_,rfl⟩;obtain ⟨c19,hc19⟩:∃ c1,c1=co16 - (x6_2:Int).toNat:=⟨_,rfl⟩;have hy19:y296.length=x3_1.length - (x6_2:Int).toNat:=(by rw [Ny296.out,zaw] <;> omega);rw [show (x3_1).drop (x6_2:Int).toNat=y296 from Ny296.out.symm] at hr19
              replace hr19:Kd.C (Kd.int .i64) _ A19 y296.length y296:=(by rw [hA19];exact hr19);rw [← hy19,← hA19,← hc19] at hcut19
              have HR299:=zad hr19;have HC299:=zad (show y296.length≤c19 from by rw [hy19,hc19];exact Nat.sub_le_sub_right hroom19 _);clear hr19 hC19 hroom19 hi019 hsz19 hc19;have KY19:=zad hy19;have KA19:=zad hA19;clear hy19 hA19;have KL19:=zad (show (x6_2:Int).toNat≤x3_1.length from by omega);replace q19:=eq_true q19;refine start_ (n:=12) (S:=fun w'=>True) (ds:=[]) #[false,false,false,false,false,false,false,false,false,false,false,false] (by kernel_rfl) rfl rfl trivial (fun hHeld => ?_);refine with_tabW spec_liRank.tab8 spec_liRank.bits8 (fun HT_ HW_ => ?_)
              generalize wr.drew=w17 at HO_3 HB HR286 HR299 hHeld ⊢
              refine puA 0 (some 27) qaaa_ ?_;refine puA 1 (some 28) qaab_ ?_;refine puA 2 (some 29) qaac_ ?_;refine puA 4 (some 31) qaad_ ?_;refine puA 7 (some 34) qaae_ ?_;refine puA 8 (some 35) qaaf_ ?_;refine puA 9 (some 36) qaag_ ?_;refine join_ (σ:=Value × Value) 3 #[true,true,true,true,true,true,false,true,true,true,false,false] (fun s_=>[(30,s_.1),(32,s_.2)]) (fun s_ w'=>(Kd.R (Kd.int .i64) 3 w' w.heap.size (fun k_=>some k_≠(s_.2:Value).ownBlock∧some k_≠(.slice (some ad282) x3_1.length co16:Value).ownBlock) s_.1 t287)∧(Kd.R (Kd.int .i64) 3 w' w.heap.size (fun k_=>some k_≠(s_.1:Value).ownBlock∧some k_≠(.slice (some ad282) x3_1.length co16:Value).ownBlock) s_.2 y290)∧(Kd.R (Kd.int .i64) 3 w' w.heap.size (fun k_=>some k_≠(s_.1:Value).ownBlock∧some k_≠(s_.2:Value).ownBlock) (.slice (some ad282) x3_1.length co16) x3_1)∧(Below w.heap.size w w')) ?_ ?_
              rotate_left
              ·intro hCont
               refine two_ (i:=3) (j:=5) (Ni:=some 30) (Nj:=some 32) #[true,true,true,true,true,false,false,true,true,true,false,false] #[true,true,true,false,true,true,false,true,true,true,false,false] rfl rfl rfl rfl (two_of HT_.out (by kernel_rfl)) (by decide) (by decide) (fun K hK => ?_) (fun K hK => ?_)
               ·skip
                refine goes_ Tryz.func57 (by kernel_rfl) rfl #[.slice (some ad282) y283.length co16] (by rfl) rfl rfl (taac) ?_
                with_reducible refine (spec_l1Own.calls _ _ y283 t287 _ ?side1 ?side2 A11.out).mono ?_
                (case side1=>exact tail)
                (case side2=>exact HC286.out)
                rintro e w20 ⟨v288,rfl,ho0,hb⟩
                refine ⟨_,rfl,?_⟩
                have n0_:=zad (zcb (taan) (zcd ho0) hb);have n1_:=zad (zby (zcc ho0 (zce (taan))) (zbo (taaa)));have n2_:=zad (Kd.C_below (tabw) hb);have n3_:=zad (Kd.C_below (tacr) hb);have n4_:=zad (zbi (taaa) hb);clear HO_3 HR286 HR299 HB;have HO_3:=n0_;have HO289:=n1_;have HR286:=n2_;have HR299:=n3_;have HB:=n4_;clear n0_ n1_ n2_ n3_ n4_;(try clear hb);(try clear hb2);(try clear hk);(try clear hi);(try clear ho0);refine hK.out _ _ trivial (fun hHeld => ?_)
                clear hK K;refine norm_ (a' := ?_) ?_ ?_
                rotate_left
                ·show Act.put _ (some 30) _=_
                 simp only [Act.put,zaa,zab,zac,i64_w,i32_w];rfl
                refine one_ (i:=5) (N:=some 32) #[true,true,true,true,true,true,false,true,true,true,false,false] rfl rfl (one_of HT_.out (by kernel_rfl)) (by decide) (fun K hK => ?_)
                refine Kd.R_lit_step (Kd.int .i64) _ 3 ?hg (N:=32) ?hd (xs:=([(rd l0 x9_1)]:List Int)) (inner:=[.int .i64 (rd l0 x9_1)]) (ok:=fun _=>True) (okp:=fun _=>True) ?hr ?hp (fun _ hk=>hk) trivial (Below.refl _ _) (zcf _) (taad) ?_;(case hd=>rfl);(case hg=>rfl);(case hr=>first | (go_simp;done) | (go_simp;rfl));(case hp=>exact (Reps.one (show Kd.M (Kd.int .i64) _ _ _ (rd l0 x9_1) [.int .i64 (rd l0 x9_1)] from rfl) (Reps.none _ _)))
                intro v291 w21 ho22 hb hg_ hnew_
                clear hg_ hnew_;(first | rw [← Ny290.out] at ho22 | (simp only [Int.reduceToNat] at ho22;rw [← Ny290.out] at ho22))
                have n0_:=zad (zcb (taan) (zcd ho22) hb);have n1_:=zad (zcb (taev) (zcd ho22) hb);have n2_:=zad (zby (zcc (zcc ho22 (zce (taan))) (zce (taev))) (zbo (taaa)));have n3_:=zad (Kd.C_below (tabw) hb);have n4_:=zad (Kd.C_below (tacr) hb);have n5_:=zad (zbi (taaa) hb);clear HO_3 HO289 HR286 HR299 HB;have HO_3:=n0_;have HO289:=n1_;have HO292:=n2_;have HR286:=n3_;have HR299:=n4_;have HB:=n5_;clear n0_ n1_ n2_ n3_ n4_ n5_ hb ho22;refine hK.out _ _ trivial (fun hHeld => ?_)
                clear hK K;refine norm_ (a' := ?_) ?_ ?_
                rotate_left
                ·show Act.put _ (some 32) _=_
                 simp only [Act.put,zaa,zab,zac,i64_w,i32_w];rfl
                exact norm_ (tacs) (hCont (v288,v291) _ ⟨(taew),(taex),(taey),(taaa)⟩)
               ·skip
                refine Kd.R_lit_step (Kd.int .i64) _ 3 ?hg (N:=32) ?hd (xs:=([(rd l0 x9_1)]:List Int)) (inner:=[.int .i64 (rd l0 x9_1)]) (ok:=fun _=>True) (okp:=fun _=>True) ?hr ?hp (fun _ hk=>hk) trivial (Below.refl _ _) (zcf _) (taad) ?_;(case hd=>rfl);(case hg=>rfl);(case hr=>first | (go_simp;done) | (go_simp;rfl));(case hp=>exact (Reps.one (show Kd.M (Kd.int .i64) _ _ _ (rd l0 x9_1) [.int .i64 (rd l0 x9_1)] from rfl) (Reps.none _ _)))
                intro v291 w20 ho21 hb hg_ hnew_
                clear hg_ hnew_;(first | rw [← Ny290.out] at ho21 | (simp only [Int.reduceToNat] at ho21;rw [← Ny290.out] at ho21))
                have n0_:=zad (zcb (taan) (zcd ho21) hb);have n1_:=zad (zby (zcc ho21 (zce (taan))) (zbo (taaa)));have n2_:=zad (Kd.C_below (tabw) hb);have n3_:=zad (Kd.C_below (tacr) hb);have n4_:=zad (zbi (taaa) hb);clear HO_3 HR286 HR299 HB;have HO_3:=n0_;have HO292:=n1_;have HR286:=n2_;have HR299:=n3_;have HB:=n4_;clear n0_ n1_ n2_ n3_ n4_ hb ho21;refine hK.out _ _ trivial (fun hHeld => ?_)
                clear hK K;refine norm_ (a' := ?_) ?_ ?_
                rotate_left
                ·show Act.put _ (some 32) _=_
                 simp only [Act.put,zaa,zab,zac,i64_w,i32_w];rfl
                refine one_ (i:=3) (N:=some 30) #[true,true,true,true,true,true,false,true,true,true,false,false] rfl rfl (one_of HT_.out (by kernel_rfl)) (by decide) (fun K hK => ?_)
                refine goes_ Tryz.func57 (by kernel_rfl) rfl #[.slice (some ad282) y283.length co16] (by rfl) rfl rfl (taac) ?_
                with_reducible refine (spec_l1Own.calls _ _ y283 t287 _ ?side1 ?side2 A11.out).mono ?_
                (case side1=>exact tail)
                (case side2=>exact HC286.out)
                rintro e w22 ⟨v288,rfl,ho0,hb⟩
                refine ⟨_,rfl,?_⟩
                have n0_:=zad (zcb (taan) (zcd ho0) hb);have n1_:=zad (zcb (tacl) (zcd ho0) hb);have n2_:=zad (zby (zcc (zcc ho0 (zce (taan))) (zce (tacl))) (zbo (taaa)));have n3_:=zad (Kd.C_below (tabw) hb);have n4_:=zad (Kd.C_below (tacr) hb);have n5_:=zad (zbi (taaa) hb);clear HO_3 HO292 HR286 HR299 HB;have HO_3:=n0_;have HO292:=n1_;have HO289:=n2_;have HR286:=n3_;have HR299:=n4_;have HB:=n5_;clear n0_ n1_ n2_ n3_ n4_ n5_;(try clear hb);(try clear hb2);(try clear hk);(try clear hi);(try clear ho0);refine hK.out _ _ trivial (fun hHeld => ?_)
                clear hK K;refine norm_ (a' := ?_) ?_ ?_
                rotate_left
                ·show Act.put _ (some 30) _=_
                 simp only [Act.put,zaa,zab,zac,i64_w,i32_w];rfl
                exact norm_ (tacs) (hCont (v288,v291) _ ⟨(taew),(taex),(taez),(taaa)⟩)
              rintro ⟨v288,v291⟩ w23 ⟨h0_,h1_,h2_,h3_⟩
              have n0_:Aside0 (Kd.R (Kd.int .i64) 3 w23 w.heap.size (fun k_=>some k_≠(v291:Value).ownBlock∧some k_≠(.slice (some ad282) x3_1.length co16:Value).ownBlock) v288 t287):=⟨h0_⟩;have n1_:Aside0 (Kd.R (Kd.int .i64) 3 w23 w.heap.size (fun k_=>some k_≠(v288:Value).ownBlock∧some k_≠(.slice (some ad282) x3_1.length co16:Value).ownBlock) v291 y290):=⟨h1_⟩;have n2_:Aside0 (Kd.R (Kd.int .i64) 3 w23 w.heap.size (fun k_=>some k_≠(v288:Value).ownBlock∧some k_≠(v291:Value).ownBlock) (.slice (some ad282) x3_1.length co16) x3_1):=⟨h2_⟩;have n3_:Aside0 (Below w.heap.size w w23):=⟨h3_⟩;clear HO_3 HB h0_ h1_ h2_ h3_;have HO289:=n0_;have HO292:=n1_;have HO_3:=n2_;have HB:=n3_;clear n0_ n1_ n2_ n3_;have hHeld:=trivial;obtain ⟨Ao25,co25,eo25⟩:=zbz HO292.out;(first | subst eo25 | (injection eo25 with f1_ f2_ f3_;have f4_:=f1_.symm;have f5_:=f3_.symm;clear f1_ f2_ f3_;subst f4_;subst f5_))
              refine norm_ (a' := ?_) ?_ ?_
              rotate_left
              ·simp only [putAll,Act.put,zaa,zab,zac]
               rfl
              refine one_ (i:=6) (N:=some 33) #[true,true,true,true,true,true,true,true,true,true,false,false] rfl rfl (one_of HT_.out (by kernel_rfl)) (by decide) (fun K hK => ?_)
              refine Kd.R_append_rows_step (Kd.int .i64) (w0:=w) w.heap.size (by rfl) (.tmp 30) (.tmp 32) 24 3 (.int .i64 0) 8 rfl Tryz.underlying24 info3 rfl (by decide) (by omega) v288 t287 y290 _ _ _ (fun k_=>some k_≠(.slice (some ad282) x3_1.length co16:Value).ownBlock∧some k_≠(.slice Ao25 y290.length co25:Value).ownBlock) (fun _=>False) rfl rfl ?aO ?aR (fun _ _ h=>h) (fun _ h=>h.elim) ?aF ?aB ?aS ?aL ?_
              (case aR=>repeat (first | exact (zbh HO292.out).2.2 | (with_reducible refine zal ?_ _) | (with_reducible refine zam ?_ _) | (with_reducible refine zan ?_)))
              (case aB=>exact (taaa))
              (case aF=>exact (fun k_ hk=>⟨Kd.fresh' (zce (taan)) k_ hk,Kd.fresh' (zce (tacl)) k_ hk⟩))
              (case aO=>exact (by (with_reducible repeat (first | apply zai | apply zaj | apply zak));exact zbu HO289.out (fun _ hk=>⟨hk.2,hk.1⟩)))
              (case aS=>exact (zbo (taaa)))
              (case aL=>have:=LMc12.out;omega)
              intro v294 w24 ho hb hg hat
              rw [← Ny293.out] at ho
              have n0_:=zad (Kd.R_after (ok:=(fun k_=>some k_≠(.slice Ao25 y290.length co25:Value).ownBlock)) (tafa) hg hat);have n1_:=zad (Kd.R_after (ok:=(fun k_=>some k_≠(.slice (some ad282) x3_1.length co16:Value).ownBlock)) (by (with_reducible repeat (first | apply zai | apply zaj | apply zak));exact zbu HO292.out (fun _ hk=>⟨hk.2,hk.1⟩)) hg hat);have n2_:=zad (hb);have n3_:=zad (ho);clear HO_3 HO292 HB HO289;have HO_3:=n0_;have HO292:=n1_;have HB:=n2_;have HO295:=n3_;clear n0_ n1_ n2_ n3_ ho hb hg hat;refine hK.out _ _ trivial (fun hHeld => ?_)
              clear hK K;refine norm_ (a' := ?_) ?_ ?_
              rotate_left
              ·show Act.put _ (some 33) _=_
               simp only [Act.put,zaa,zab,zac,i64_w,i32_w];rfl
              refine one_ (i:=10) (N:=some 37) #[true,true,true,true,true,true,true,true,true,true,true,false] rfl rfl (one_of HT_.out (by kernel_rfl)) (by decide) (fun K hK => ?_)
              refine Kd.R_append_rows_step (Kd.int .i64) (w0:=w) w.heap.size (by rfl) (.tmp 33) (.tmp 36) 24 3 (.int .i64 0) 8 rfl Tryz.underlying24 info3 rfl (by decide) (by omega) v294 y293 y296 _ _ _ (fun k_=>some k_≠(.slice (some ad282) x3_1.length co16:Value).ownBlock∧some k_≠(.slice Ao25 y290.length co25:Value).ownBlock) (fun _=>False) rfl rfl ?aO ?aR (fun _ _ h=>h) (fun _ h=>h.elim) ?aF ?aB ?aS ?aL ?_
              (case aR=>repeat (first | exact (show Kd.C (Kd.int .i64) _ A19 y296.length y296 from by rw [Ny296.out,KA19.out];exact Kd.C_drop (m:=(x6_2:Int).toNat) (c:=co16) ((zbh HO_3.out).2.2) KL19.out ((zbh HO_3.out).2.1)) | (with_reducible refine zal ?_ _) | (with_reducible refine zam ?_ _) | (with_reducible refine zan ?_)))
              (case aB=>exact (taaa))
              (case aF=>exact (fun k_ hk=>⟨Kd.fresh' (zce (taan)) k_ hk,Kd.fresh' (zce (tacl)) k_ hk⟩))
              (case aO=>exact (by (with_reducible repeat (first | apply zai | apply zaj | apply zak));exact HO295.out))
              (case aS=>exact (zbo (taaa)))
              (case aL=>have:=LMc15.out;omega)
              intro v301 w26 ho hb hg hat
              rw [← Ny300.out] at ho
              have n0_:=zad (Kd.R_after (ok:=(fun k_=>some k_≠(.slice Ao25 y290.length co25:Value).ownBlock)) (taan) hg hat);have n1_:=zad (Kd.R_after (ok:=(fun k_=>some k_≠(.slice (some ad282) x3_1.length co16:Value).ownBlock)) (tacl) hg hat);have n2_:=zad (hb);have n3_:=zad (ho);clear HO_3 HO292 HB HO295;have HO_3:=n0_;have HO292:=n1_;have HB:=n2_;have HO302:=n3_;clear n0_ n1_ n2_ n3_ ho hb hg hat;refine hK.out _ _ trivial (fun hHeld => ?_)
              clear hK K;refine norm_ (a' := ?_) ?_ ?_
              rotate_left
              ·show Act.put _ (some 37) _=_
               simp only [Act.put,zaa,zab,zac,i64_w,i32_w];rfl
              refine puA 11 (some 3) qaah_ ?_;refine done_ (done_of HT_.out (by kernel_rfl)) ?_
              try go_wp2
              go_roundg k2
              case measure=>have:=HK1.out;have:=HK2.out;omega
              case rel=>exact ⟨(y300),(wrap64 (x9_1+1)),(taae),H',⟨taba⟩,⟨by (with_reducible repeat (first | apply zai | apply zaj | apply zak));exact zbu HO302.out (fun _ hk=>trivial)⟩,⟨taaa⟩⟩
             ·rw [if_neg c15] at H
              exact absurd H (taad)
            ·rw [if_neg c12] at H
             exact absurd H (taad)
           ·rw [if_neg c10] at H
            exact absurd H (taad)
         ·rw [if_neg c6] at H
          exact absurd H (taad)
        ·rw [if_neg c5] at H
         have c5b0:decide (x6_2<(x3_1.length:Int))=false:=zbl c5;clear c5;by_cases c27:0≤x6_2
         ·rw [if_pos c27] at H
          have c27b0:=eq_true c27;have c27b1:decide (0≤x6_2)=true:=zba c27;clear c27;by_cases c28:x6_2≤(x3_1.length:Int)
          ·rw [if_pos c28] at H
           have c28b0:=eq_true c28;have c28b1:decide (x6_2≤(x3_1.length:Int))=true:=zba c28;clear c28;obtain ⟨y303,hy303⟩:∃ y_:List Int,y_=(x3_1.take (x6_2:Int).toNat):=⟨_,rfl⟩;replace H:((spec_l1Own.f y303).bind fun t307=>((some (([(rd l0 x9_1)]:List Int):List Int)).bind fun y310=>(if t307.length+y310.length<17592186044416 then ((some (t307 ++ y310:List Int)).bind fun y313=>((some (x3_1.drop (x6_2:Int).toNat:List Int)).bind fun y316=>(if y313.length+y316.length<17592186044416 then (spec_liRank.l0 k2 (y313 ++ y316) l0 (l0.length:Int) (wrap64 (x9_1+1))) else (none)))) else (none))))=some r:=by first | (rw [hy303];with_reducible exact H) | (have H2_:=(zbf _ _).symm.trans H;rw [hy303];with_reducible exact H2_) | (have H2_:=(zbf _ _).symm.trans H;with_reducible exact H2_) | with_reducible exact H | (rw [hy303];exact H) | exact H
           have Ny303:=zad hy303;clear hy303;replace H:=zay.mp H;obtain ⟨t307,A290,H⟩:=H;replace H:((some (([(rd l0 x9_1)]:List Int):List Int)).bind fun y310=>(if t307.length+y310.length<17592186044416 then ((some (t307 ++ y310:List Int)).bind fun y313=>((some (x3_1.drop (x6_2:Int).toNat:List Int)).bind fun y316=>(if y313.length+y316.length<17592186044416 then (spec_liRank.l0 k2 (y313 ++ y316) l0 (l0.length:Int) (wrap64 (x9_1+1))) else (none)))) else (none)))=some r:=H;have A29:=zad A290;clear A290;obtain ⟨y310,hy310⟩:∃ y_:List Int,y_=(([(rd l0 x9_1)]:List Int)):=⟨_,rfl⟩;replace H:(if t307.length+y310.length<17592186044416 then ((some (t307 ++ y310:List Int)).bind fun y313=>((some (x3_1.drop (x6_2:Int).toNat:List Int)).bind fun y316=>(if y313.length+y316.length<17592186044416 then (spec_liRank.l0 k2 (y313 ++ y316) l0 (l0.length:Int) (wrap64 (x9_1+1))) else (none)))) else (none))=some r:=by first | (rw [hy310];with_reducible exact H) | (have H2_:=(zbf _ _).symm.trans H;rw [hy310];with_reducible exact H2_) | (have H2_:=(zbf _ _).symm.trans H;with_reducible exact H2_) | with_reducible exact H | (rw [hy310];exact H) | exact H
           have Ny310:=zad hy310;clear hy310;by_cases c30:t307.length+y310.length<17592186044416
           ·rw [if_pos c30] at H
            have LMc30:=zad c30;clear c30;obtain ⟨y313,hy313⟩:∃ y_:List Int,y_=(t307 ++ y310):=⟨_,rfl⟩;replace H:((some (x3_1.drop (x6_2:Int).toNat:List Int)).bind fun y316=>(if y313.length+y316.length<17592186044416 then (spec_liRank.l0 k2 (y313 ++ y316) l0 (l0.length:Int) (wrap64 (x9_1+1))) else (none)))=some r:=by first | (rw [hy313];with_reducible exact H) | (have H2_:=(zbf _ _).symm.trans H;rw [hy313];with_reducible exact H2_) | (have H2_:=(zbf _ _).symm.trans H;with_reducible exact H2_) | with_reducible exact H | (rw [hy313];exact H) | exact H
            have Ny313:=zad hy313;clear hy313;have c31b0:=eq_true (zas (taab):0≤x6_2);have c32b0:=eq_true (zas (taab):x6_2≤(x3_1.length:Int));obtain ⟨y316,hy316⟩:∃ y_:List Int,y_=(x3_1.drop (x6_2:Int).toNat):=⟨_,rfl⟩;replace H:(if y313.length+y316.length<17592186044416 then (spec_liRank.l0 k2 (y313 ++ y316) l0 (l0.length:Int) (wrap64 (x9_1+1))) else (none))=some r:=by first | (rw [hy316];with_reducible exact H) | (have H2_:=(zbf _ _).symm.trans H;rw [hy316];with_reducible exact H2_) | (have H2_:=(zbf _ _).symm.trans H;with_reducible exact H2_) | with_reducible exact H | (rw [hy316];exact H) | exact H
            have Ny316:=zad hy316;clear hy316;by_cases c33:y313.length+y316.length<17592186044416
            ·rw [if_pos c33] at H
             have LMc33:=zad c33;clear c33;obtain ⟨y320,hy320⟩:∃ y_:List Int,y_=(y313 ++ y316):=⟨_,rfl⟩;replace H:(spec_liRank.l0 k2 y320 l0 (l0.length:Int) (wrap64 (x9_1+1)))=some r:=by first | (rw [hy320];with_reducible exact H) | (have H2_:=(zbf _ _).symm.trans H;rw [hy320];with_reducible exact H2_) | (have H2_:=(zbf _ _).symm.trans H;with_reducible exact H2_) | with_reducible exact H | (rw [hy320];exact H) | exact H
             have Ny320:=zad hy320;clear hy320;have H':=zad H;clear H;obtain ⟨Ao34,co34,eo34⟩:=zbz HO_3.out;subst eo34;try go_wp2
             have n0_:=zad (zak HO_3.out);have n1_:=zad (zaf HB.out);clear HO_3 HB;have HO_3:=n0_;have HB:=n1_;clear n0_ n1_;have q36:(x6_2:Int)≤((x3_1.length:Int):Int):=zas (taab);obtain ⟨i036,hi036,_,hsz36,_⟩:=info_parts info3;have hroom36:x3_1.length≤co34:=(zbh HO_3.out).2.1;have hC36:Kd.C (Kd.int .i64) _ Ao34 x3_1.length x3_1:=(zbh HO_3.out).2.2;have hcut36:=cut_to (P:=Tryz.prog) 24 3 .i64 Tryz.underlying24 hi036 Ao34 x3_1.length co34 x6_2 (zas (taab)) q36 hroom36;have hr36:=Kd.C_take (m:=(x6_2:Int).toNat) hC36 (by omega);have hy36:y303.length=(x6_2:Int).toNat:=(by rw [Ny303.out,zax];omega);rw [← Ny303.out] at hr36
             rw [← hy36] at hcut36
             have HR306:=zad hr36;have HC306:=zad (show y303.length≤co34 from by omega);clear hr36 hC36 hroom36 hi036 hsz36;have KY36:=zad hy36;clear hy36;have KL36:=zad (show (x6_2:Int).toNat≤x3_1.length from by omega);replace q36:=eq_true q36;have q37:(x6_2:Int)≤((x3_1.length:Int):Int):=zas (taab);obtain ⟨i037,hi037,_,hsz37,_⟩:=info_parts info3;have hroom37:x3_1.length≤co34:=(zbh HO_3.out).2.1;have hC37:Kd.C (Kd.int .i64) _ Ao34 x3_1.length x3_1:=(zbh HO_3.out).2.2;have q037:(0:Int)≤(x6_2:Int):=zas (taab);have hcut37:=cut_from (P:=Tryz.prog) 24 3 .i64 Tryz.underlying24 hi037 1 hsz37 Ao34 x3_1.length co34 x6_2 q037 q37;have hr37:=Kd.C_drop (m:=(x6_2:Int).toNat) (c:=co34) hC37 (by omega) hroom37;obtain ⟨A37,hA37⟩:∃ A1,A1=(if co34=(x6_2:Int).toNat then Ao34 else (Ao34:Option Addr).map (·.add ((x6_2:Int).toNat*1))):=⟨_,rfl⟩;obtain ⟨c37,hc37⟩:∃ c1,c1=co34 - (x6_2:Int).toNat:=⟨_,rfl⟩;have hy37:y316.length=x3_1.length - (x6_2:Int).toNat:=(by rw [Ny316.out,zaw] <;> omega);rw [show (x3_1).drop (x6_2:Int).toNat=y316 from Ny316.out.symm] at hr37
             replace hr37:Kd.C (Kd.int .i64) _ A37 y316.length y316:=(by rw [hA37];exact hr37);rw [← hy37,← hA37,← hc37] at hcut37
             have HR319:=zad hr37;have HC319:=zad (show y316.length≤c37 from by rw [hy37,hc37];exact Nat.sub_le_sub_right hroom37 _);clear hr37 hC37 hroom37 hi037 hsz37 hc37;have KY37:=zad hy37;have KA37:=zad hA37;clear hy37 hA37;have KL37:=zad (show (x6_2:Int).toNat≤x3_1.length from by omega);replace q37:=eq_true q37;refine start_ (n:=12) (S:=fun w'=>True) (ds:=[]) #[false,false,false,false,false,false,false,false,false,false,false,false] (by kernel_rfl) rfl rfl trivial (fun hHeld => ?_);refine with_tabW spec_liRank.tab8 spec_liRank.bits8 (fun HT_ HW_ => ?_)
             generalize wr.drew=w35 at HO_3 HB HR306 HR319 hHeld ⊢
             refine puA 0 (some 27) qaaa_ ?_;refine puA 1 (some 28) qaab_ ?_;refine puA 2 (some 29) qaac_ ?_;refine puA 4 (some 31) qaad_ ?_;refine puA 7 (some 34) qaae_ ?_;refine puA 8 (some 35) qaaf_ ?_;refine puA 9 (some 36) qaag_ ?_;refine join_ (σ:=Value × Value) 3 #[true,true,true,true,true,true,false,true,true,true,false,false] (fun s_=>[(30,s_.1),(32,s_.2)]) (fun s_ w'=>(Kd.R (Kd.int .i64) 3 w' w.heap.size (fun k_=>some k_≠(s_.2:Value).ownBlock∧some k_≠(.slice Ao34 x3_1.length co34:Value).ownBlock) s_.1 t307)∧(Kd.R (Kd.int .i64) 3 w' w.heap.size (fun k_=>some k_≠(s_.1:Value).ownBlock∧some k_≠(.slice Ao34 x3_1.length co34:Value).ownBlock) s_.2 y310)∧(Kd.R (Kd.int .i64) 3 w' w.heap.size (fun k_=>some k_≠(s_.1:Value).ownBlock∧some k_≠(s_.2:Value).ownBlock) (.slice Ao34 x3_1.length co34) x3_1)∧(Below w.heap.size w w')) ?_ ?_
             rotate_left
             ·intro hCont
              refine two_ (i:=3) (j:=5) (Ni:=some 30) (Nj:=some 32) #[true,true,true,true,true,false,false,true,true,true,false,false] #[true,true,true,false,true,true,false,true,true,true,false,false] rfl rfl rfl rfl (two_of HT_.out (by kernel_rfl)) (by decide) (by decide) (fun K hK => ?_) (fun K hK => ?_)
              ·skip
               refine goes_ Tryz.func57 (by kernel_rfl) rfl #[.slice Ao34 y303.length co34] (by rfl) rfl rfl (taac) ?_
               with_reducible refine (spec_l1Own.calls _ _ y303 t307 _ ?side1 ?side2 A29.out).mono ?_
               (case side1=>exact taim)
               (case side2=>exact HC306.out)
               rintro e w38 ⟨v308,rfl,ho0,hb⟩
               refine ⟨_,rfl,?_⟩
               have n0_:=zad (zcb (taan) (zcd ho0) hb);have n1_:=zad (zby (zcc ho0 (zce (taan))) (zbo (taaa)));have n2_:=zad (Kd.C_below (tabx) hb);have n3_:=zad (Kd.C_below (tact) hb);have n4_:=zad (zbi (taaa) hb);clear HO_3 HR306 HR319 HB;have HO_3:=n0_;have HO309:=n1_;have HR306:=n2_;have HR319:=n3_;have HB:=n4_;clear n0_ n1_ n2_ n3_ n4_;(try clear hb);(try clear hb2);(try clear hk);(try clear hi);(try clear ho0);refine hK.out _ _ trivial (fun hHeld => ?_)
               clear hK K;refine norm_ (a' := ?_) ?_ ?_
               rotate_left
               ·show Act.put _ (some 30) _=_
                simp only [Act.put,zaa,zab,zac,i64_w,i32_w];rfl
               refine one_ (i:=5) (N:=some 32) #[true,true,true,true,true,true,false,true,true,true,false,false] rfl rfl (one_of HT_.out (by kernel_rfl)) (by decide) (fun K hK => ?_)
               refine Kd.R_lit_step (Kd.int .i64) _ 3 ?hg (N:=32) ?hd (xs:=([(rd l0 x9_1)]:List Int)) (inner:=[.int .i64 (rd l0 x9_1)]) (ok:=fun _=>True) (okp:=fun _=>True) ?hr ?hp (fun _ hk=>hk) trivial (Below.refl _ _) (zcf _) (taad) ?_;(case hd=>rfl);(case hg=>rfl);(case hr=>first | (go_simp;done) | (go_simp;rfl));(case hp=>exact (Reps.one (show Kd.M (Kd.int .i64) _ _ _ (rd l0 x9_1) [.int .i64 (rd l0 x9_1)] from rfl) (Reps.none _ _)))
               intro v311 w39 ho40 hb hg_ hnew_
               clear hg_ hnew_;(first | rw [← Ny310.out] at ho40 | (simp only [Int.reduceToNat] at ho40;rw [← Ny310.out] at ho40))
               have n0_:=zad (zcb (taan) (zcd ho40) hb);have n1_:=zad (zcb (tafb) (zcd ho40) hb);have n2_:=zad (zby (zcc (zcc ho40 (zce (taan))) (zce (tafb))) (zbo (taaa)));have n3_:=zad (Kd.C_below (tabx) hb);have n4_:=zad (Kd.C_below (tact) hb);have n5_:=zad (zbi (taaa) hb);clear HO_3 HO309 HR306 HR319 HB;have HO_3:=n0_;have HO309:=n1_;have HO312:=n2_;have HR306:=n3_;have HR319:=n4_;have HB:=n5_;clear n0_ n1_ n2_ n3_ n4_ n5_ hb ho40;refine hK.out _ _ trivial (fun hHeld => ?_)
               clear hK K;refine norm_ (a' := ?_) ?_ ?_
               rotate_left
               ·show Act.put _ (some 32) _=_
                simp only [Act.put,zaa,zab,zac,i64_w,i32_w];rfl
               exact norm_ (tacs) (hCont (v308,v311) _ ⟨(tafc),(tafd),(taey),(taaa)⟩)
              ·skip
               refine Kd.R_lit_step (Kd.int .i64) _ 3 ?hg (N:=32) ?hd (xs:=([(rd l0 x9_1)]:List Int)) (inner:=[.int .i64 (rd l0 x9_1)]) (ok:=fun _=>True) (okp:=fun _=>True) ?hr ?hp (fun _ hk=>hk) trivial (Below.refl _ _) (zcf _) (taad) ?_;(case hd=>rfl);(case hg=>rfl);(case hr=>first | (go_simp;done) | (go_simp;rfl));(case hp=>exact (Reps.one (show Kd.M (Kd.int .i64) _ _ _ (rd l0 x9_1) [.int .i64 (rd l0 x9_1)] from rfl) (Reps.none _ _)))
               intro v311 w38 ho39 hb hg_ hnew_
               clear hg_ hnew_;(first | rw [← Ny310.out] at ho39 | (simp only [Int.reduceToNat] at ho39;rw [← Ny310.out] at ho39))
               have n0_:=zad (zcb (taan) (zcd ho39) hb);have n1_:=zad (zby (zcc ho39 (zce (taan))) (zbo (taaa)));have n2_:=zad (Kd.C_below (tabx) hb);have n3_:=zad (Kd.C_below (tact) hb);have n4_:=zad (zbi (taaa) hb);clear HO_3 HR306 HR319 HB;have HO_3:=n0_;have HO312:=n1_;have HR306:=n2_;have HR319:=n3_;have HB:=n4_;clear n0_ n1_ n2_ n3_ n4_ hb ho39;refine hK.out _ _ trivial (fun hHeld => ?_)
               clear hK K;refine norm_ (a' := ?_) ?_ ?_
               rotate_left
               ·show Act.put _ (some 32) _=_
                simp only [Act.put,zaa,zab,zac,i64_w,i32_w];rfl
               refine one_ (i:=3) (N:=some 30) #[true,true,true,true,true,true,false,true,true,true,false,false] rfl rfl (one_of HT_.out (by kernel_rfl)) (by decide) (fun K hK => ?_)
               refine goes_ Tryz.func57 (by kernel_rfl) rfl #[.slice Ao34 y303.length co34] (by rfl) rfl rfl (taac) ?_
               with_reducible refine (spec_l1Own.calls _ _ y303 t307 _ ?side1 ?side2 A29.out).mono ?_
               (case side1=>exact taim)
               (case side2=>exact HC306.out)
               rintro e w40 ⟨v308,rfl,ho0,hb⟩
               refine ⟨_,rfl,?_⟩
               have n0_:=zad (zcb (taan) (zcd ho0) hb);have n1_:=zad (zcb (tacm) (zcd ho0) hb);have n2_:=zad (zby (zcc (zcc ho0 (zce (taan))) (zce (tacm))) (zbo (taaa)));have n3_:=zad (Kd.C_below (tabx) hb);have n4_:=zad (Kd.C_below (tact) hb);have n5_:=zad (zbi (taaa) hb);clear HO_3 HO312 HR306 HR319 HB;have HO_3:=n0_;have HO312:=n1_;have HO309:=n2_;have HR306:=n3_;have HR319:=n4_;have HB:=n5_;clear n0_ n1_ n2_ n3_ n4_ n5_;(try clear hb);(try clear hb2);(try clear hk);(try clear hi);(try clear ho0);refine hK.out _ _ trivial (fun hHeld => ?_)
               clear hK K;refine norm_ (a' := ?_) ?_ ?_
               rotate_left
               ·show Act.put _ (some 30) _=_
                simp only [Act.put,zaa,zab,zac,i64_w,i32_w];rfl
               exact norm_ (tacs) (hCont (v308,v311) _ ⟨(tafc),(tafd),(taez),(taaa)⟩)
             rintro ⟨v308,v311⟩ w41 ⟨h0_,h1_,h2_,h3_⟩
             have n0_:Aside0 (Kd.R (Kd.int .i64) 3 w41 w.heap.size (fun k_=>some k_≠(v311:Value).ownBlock∧some k_≠(.slice Ao34 x3_1.length co34:Value).ownBlock) v308 t307):=⟨h0_⟩;have n1_:Aside0 (Kd.R (Kd.int .i64) 3 w41 w.heap.size (fun k_=>some k_≠(v308:Value).ownBlock∧some k_≠(.slice Ao34 x3_1.length co34:Value).ownBlock) v311 y310):=⟨h1_⟩;have n2_:Aside0 (Kd.R (Kd.int .i64) 3 w41 w.heap.size (fun k_=>some k_≠(v308:Value).ownBlock∧some k_≠(v311:Value).ownBlock) (.slice Ao34 x3_1.length co34) x3_1):=⟨h2_⟩;have n3_:Aside0 (Below w.heap.size w w41):=⟨h3_⟩;clear HO_3 HB h0_ h1_ h2_ h3_;have HO309:=n0_;have HO312:=n1_;have HO_3:=n2_;have HB:=n3_;clear n0_ n1_ n2_ n3_;have hHeld:=trivial;obtain ⟨Ao43,co43,eo43⟩:=zbz HO312.out;(first | subst eo43 | (injection eo43 with f1_ f2_ f3_;have f4_:=f1_.symm;have f5_:=f3_.symm;clear f1_ f2_ f3_;subst f4_;subst f5_))
             refine norm_ (a' := ?_) ?_ ?_
             rotate_left
             ·simp only [putAll,Act.put,zaa,zab,zac]
              rfl
             refine one_ (i:=6) (N:=some 33) #[true,true,true,true,true,true,true,true,true,true,false,false] rfl rfl (one_of HT_.out (by kernel_rfl)) (by decide) (fun K hK => ?_)
             refine Kd.R_append_rows_step (Kd.int .i64) (w0:=w) w.heap.size (by rfl) (.tmp 30) (.tmp 32) 24 3 (.int .i64 0) 8 rfl Tryz.underlying24 info3 rfl (by decide) (by omega) v308 t307 y310 _ _ _ (fun k_=>some k_≠(.slice Ao34 x3_1.length co34:Value).ownBlock∧some k_≠(.slice Ao43 y310.length co43:Value).ownBlock) (fun _=>False) rfl rfl ?aO ?aR (fun _ _ h=>h) (fun _ h=>h.elim) ?aF ?aB ?aS ?aL ?_
             (case aR=>repeat (first | exact (zbh HO312.out).2.2 | (with_reducible refine zal ?_ _) | (with_reducible refine zam ?_ _) | (with_reducible refine zan ?_)))
             (case aB=>exact (taaa))
             (case aF=>exact (fun k_ hk=>⟨Kd.fresh' (zce (taan)) k_ hk,Kd.fresh' (zce (tacm)) k_ hk⟩))
             (case aO=>exact (by (with_reducible repeat (first | apply zai | apply zaj | apply zak));exact zbu HO309.out (fun _ hk=>⟨hk.2,hk.1⟩)))
             (case aS=>exact (zbo (taaa)))
             (case aL=>have:=LMc30.out;omega)
             intro v314 w42 ho hb hg hat
             rw [← Ny313.out] at ho
             have n0_:=zad (Kd.R_after (ok:=(fun k_=>some k_≠(.slice Ao43 y310.length co43:Value).ownBlock)) (tafa) hg hat);have n1_:=zad (Kd.R_after (ok:=(fun k_=>some k_≠(.slice Ao34 x3_1.length co34:Value).ownBlock)) (by (with_reducible repeat (first | apply zai | apply zaj | apply zak));exact zbu HO312.out (fun _ hk=>⟨hk.2,hk.1⟩)) hg hat);have n2_:=zad (hb);have n3_:=zad (ho);clear HO_3 HO312 HB HO309;have HO_3:=n0_;have HO312:=n1_;have HB:=n2_;have HO315:=n3_;clear n0_ n1_ n2_ n3_ ho hb hg hat;refine hK.out _ _ trivial (fun hHeld => ?_)
             clear hK K;refine norm_ (a' := ?_) ?_ ?_
             rotate_left
             ·show Act.put _ (some 33) _=_
              simp only [Act.put,zaa,zab,zac,i64_w,i32_w];rfl
             refine one_ (i:=10) (N:=some 37) #[true,true,true,true,true,true,true,true,true,true,true,false] rfl rfl (one_of HT_.out (by kernel_rfl)) (by decide) (fun K hK => ?_)
             refine Kd.R_append_rows_step (Kd.int .i64) (w0:=w) w.heap.size (by rfl) (.tmp 33) (.tmp 36) 24 3 (.int .i64 0) 8 rfl Tryz.underlying24 info3 rfl (by decide) (by omega) v314 y313 y316 _ _ _ (fun k_=>some k_≠(.slice Ao34 x3_1.length co34:Value).ownBlock∧some k_≠(.slice Ao43 y310.length co43:Value).ownBlock) (fun _=>False) rfl rfl ?aO ?aR (fun _ _ h=>h) (fun _ h=>h.elim) ?aF ?aB ?aS ?aL ?_
             (case aR=>repeat (first | exact (show Kd.C (Kd.int .i64) _ A37 y316.length y316 from by rw [Ny316.out,KA37.out];exact Kd.C_drop (m:=(x6_2:Int).toNat) (c:=co34) ((zbh HO_3.out).2.2) KL37.out ((zbh HO_3.out).2.1)) | (with_reducible refine zal ?_ _) | (with_reducible refine zam ?_ _) | (with_reducible refine zan ?_)))
             (case aB=>exact (taaa))
             (case aF=>exact (fun k_ hk=>⟨Kd.fresh' (zce (taan)) k_ hk,Kd.fresh' (zce (tacm)) k_ hk⟩))
             (case aO=>exact (by (with_reducible repeat (first | apply zai | apply zaj | apply zak));exact HO315.out))
             (case aS=>exact (zbo (taaa)))
             (case aL=>have:=LMc33.out;omega)
             intro v321 w44 ho hb hg hat
             rw [← Ny320.out] at ho
             have n0_:=zad (Kd.R_after (ok:=(fun k_=>some k_≠(.slice Ao43 y310.length co43:Value).ownBlock)) (taan) hg hat);have n1_:=zad (Kd.R_after (ok:=(fun k_=>some k_≠(.slice Ao34 x3_1.length co34:Value).ownBlock)) (tacm) hg hat);have n2_:=zad (hb);have n3_:=zad (ho);clear HO_3 HO312 HB HO315;have HO_3:=n0_;have HO312:=n1_;have HB:=n2_;have HO322:=n3_;clear n0_ n1_ n2_ n3_ ho hb hg hat;refine hK.out _ _ trivial (fun hHeld => ?_)
             clear hK K;refine norm_ (a' := ?_) ?_ ?_
             rotate_left
             ·show Act.put _ (some 37) _=_
              simp only [Act.put,zaa,zab,zac,i64_w,i32_w];rfl
             refine puA 11 (some 3) qaah_ ?_;refine done_ (done_of HT_.out (by kernel_rfl)) ?_
             try go_wp2
             go_roundg k2
             case measure=>have:=HK1.out;have:=HK2.out;omega
             case rel=>exact ⟨(y320),(wrap64 (x9_1+1)),(taae),H',⟨taba⟩,⟨by (with_reducible repeat (first | apply zai | apply zaj | apply zak));exact zbu HO322.out (fun _ hk=>trivial)⟩,⟨taaa⟩⟩
            ·rw [if_neg c33] at H
             exact absurd H (taad)
           ·rw [if_neg c30] at H
            exact absurd H (taad)
          ·rw [if_neg c28] at H
           exact absurd H (taad)
         ·rw [if_neg c27] at H
          exact absurd H (taad)
     ·rw [if_neg c4] at H
      exact absurd H (taad)
    ·rw [if_neg c3] at H
     exact absurd H (taad)
   ·rw [if_neg c2] at H
    have c2b0:decide (x9_1<(l0.length:Int))=false:=zbl c2;clear c2;obtain rfl:=zbg H;go_wp2
    go_ret
    exact ⟨_,taah,taan,taaa⟩
def spec_giDo.f (l0:List Int) (a1_0:Int) (a1_1:Int) (a1_2:Int):Option (List Int):=(spec_l1Own.f l0).bind fun t473=>(if 0≤a1_0 then (if a1_0<(t473.length:Int) then ((some (t473.set (a1_0:Int).toNat (wrap64 ((rd t473 a1_0) - a1_2)):List Int)).bind fun y477=>(if 0≤a1_1 then (if a1_1<(t473.length:Int) then (some (y477.set (a1_1:Int).toNat (wrap64 ((rd y477 a1_1)+a1_2)))) else (none)) else (none))) else (none)) else (none))
def spec_giDo.T2:Bool × List (List Nat × List Nat):=(true,[([],[]),([],[]),([1],[1]),([0,2],[0,2]),([3],[3]),([],[]),([5],[5]),([4,6],[4,6]),([0,2,0,1,2,3,4,5,6,7],[0,2]),([8,7,0,1,2,3,4,5,6,7],[7,8])])
def spec_giDo.B2:List Nat:=[0,0,2,7,15,0,32,127,255,511]
theorem spec_giDo.tab2:rtab .any (opsOf Tryz.f49 2)=spec_giDo.T2:=by kernel_rfl
theorem spec_giDo.bits2:waitsOk spec_giDo.T2.2 spec_giDo.B2=true:=by kernel_rfl
def spec_giDo.T3:Bool × List (List Nat × List Nat):=(true,[([],[]),([],[]),([1],[1]),([0,2],[0,2]),([3],[3]),([],[]),([5],[5]),([4,6],[4,6]),([0,2,0,1,2,3,4,5,6,7],[0,2]),([8,7,0,1,2,3,4,5,6,7],[7,8])])
def spec_giDo.B3:List Nat:=[0,0,2,7,15,0,32,127,255,511]
theorem spec_giDo.tab3:rtab .any (opsOf Tryz.f49 3)=spec_giDo.T3:=by kernel_rfl
theorem spec_giDo.bits3:waitsOk spec_giDo.T3.2 spec_giDo.B3=true:=by kernel_rfl
theorem spec_giDo.calls (A0:Option Addr) (c0:Nat) (l0:List Int) (a1_0:Int) (a1_1:Int) (a1_2:Int) (r:List Int) (w:World) (hr0:Kd.C (Kd.int .i64) w A0 l0.length l0) (hc0:l0.length≤c0) (h:spec_giDo.f l0 a1_0 a1_1 a1_2=some r) :
 Calls Tryz.prog 49 #[.slice A0 l0.length c0,.agg #[.int .i64 a1_0,.int .i64 a1_1,.int .i64 a1_2]] w fun e w'=>∃ v0_:Value,e = .returned (v0_)∧Kd.R (Kd.int .i64) 3 w' w.heap.size (fun _=>True) v0_ r∧Below w.heap.size w w':=by
 have hu59:=Tryz.underlying59;have HR0:=zad hr0;have HC0:=zad hc0;clear hr0 hc0;have HB:=zad (Below.refl w.heap.size w);have H:((spec_l1Own.f l0).bind fun t473=>(if 0≤a1_0 then (if a1_0<(t473.length:Int) then ((some (t473.set (a1_0:Int).toNat (wrap64 ((rd t473 a1_0) - a1_2)):List Int)).bind fun y477=>(if 0≤a1_1 then (if a1_1<(t473.length:Int) then (some (y477.set (a1_1:Int).toNat (wrap64 ((rd y477 a1_1)+a1_2)))) else (none)) else (none))) else (none)) else (none)))=some r:=h;clear h;replace H:=zay.mp H;obtain ⟨t473,A30,H⟩:=H;replace H:(if 0≤a1_0 then (if a1_0<(t473.length:Int) then ((some (t473.set (a1_0:Int).toNat (wrap64 ((rd t473 a1_0) - a1_2)):List Int)).bind fun y477=>(if 0≤a1_1 then (if a1_1<(t473.length:Int) then (some (y477.set (a1_1:Int).toNat (wrap64 ((rd y477 a1_1)+a1_2)))) else (none)) else (none))) else (none)) else (none))=some r:=H;have A3:=zad A30;clear A30;by_cases c4:0≤a1_0
 ·rw [if_pos c4] at H
  have c4b0:decide (0≤a1_0)=true:=zba c4;clear c4;by_cases c5:a1_0<(t473.length:Int)
  ·rw [if_pos c5] at H
   have c5b0:decide (a1_0<(t473.length:Int))=true:=zba c5;clear c5;obtain ⟨y477,hy477⟩:∃ y_:List Int,y_=(t473.set (a1_0:Int).toNat (wrap64 ((rd t473 a1_0) - a1_2))):=⟨_,rfl⟩;replace H:(if 0≤a1_1 then (if a1_1<(t473.length:Int) then (some (y477.set (a1_1:Int).toNat (wrap64 ((rd y477 a1_1)+a1_2)))) else (none)) else (none))=some r:=by first | (rw [hy477];with_reducible exact H) | (have H2_:=(zbf _ _).symm.trans H;rw [hy477];with_reducible exact H2_) | (have H2_:=(zbf _ _).symm.trans H;with_reducible exact H2_) | with_reducible exact H | (rw [hy477];exact H) | exact H
   have Ny477:=zad hy477;clear hy477;by_cases c7:0≤a1_1
   ·rw [if_pos c7] at H
    have c7b0:decide (0≤a1_1)=true:=zba c7;clear c7;by_cases c8:a1_1<(t473.length:Int)
    ·rw [if_pos c8] at H
     have c8b0:decide (a1_1<(t473.length:Int))=true:=zba c8;clear c8;obtain ⟨y479,hy479⟩:∃ y_:List Int,y_=(y477.set (a1_1:Int).toNat (wrap64 ((rd y477 a1_1)+a1_2))):=⟨_,rfl⟩;replace H:(some y479)=some r:=by first | (rw [hy479];with_reducible exact H) | (have H2_:=(zbf _ _).symm.trans H;rw [hy479];with_reducible exact H2_) | (have H2_:=(zbf _ _).symm.trans H;with_reducible exact H2_) | with_reducible exact H | (rw [hy479];exact H) | exact H
     have Ny479:=zad hy479;clear hy479;obtain rfl:=zbg H;go_enter Tryz.func49,Tryz.ntmps49;try go_wp2_with (first | ((with_reducible refine gate_dst (N:=3) rfl ?_);refine box_event ?hg (N:=3) ?hd (cs:=#[.int .i64 a1_0,.int .i64 a1_1,.int .i64 a1_2]) (t:=59) ?hr ?_;(case hd=>rfl);(case hg=>rfl);(case hr=>first | (go_simp;done) | (go_simp;rfl));intro gb472 hg w10 hbox hb;have n0_:=zad (zbi (taaa) hb);have n1_:=zad (hbox);have n2_:=zad ((tahi:w.heap.size≤gb472));have n3_:=zad ((tahi:w.heap.size≤gb472));clear HB;have HB:=n0_;have BK472:=n1_;have GW472:=n2_;have GE472:=n3_;clear n0_ n1_ n2_ n3_ hb hbox hg) | ((with_reducible refine zbj (f:=57) rfl ?_);refine zbr (some 7) rfl rfl Tryz.func57 (by kernel_rfl) rfl #[.slice A0 l0.length c0] rfl (taac) ?_;(with_reducible refine (spec_l1Own.calls _ _ l0 t473 _ ?side1 ?side2 A3.out).mono ?_);(case side1=>exact tahr);(case side2=>exact HC0.out);rintro e w11 ⟨v474,rfl,ho0,hb⟩;refine ⟨_,rfl,?_⟩;have n0_:=zad (zby ho0 (zbo (tafe)));have n1_:=zad (blk_below (g:=gb472) (o := .cells #[.int .i64 a1_0,.int .i64 a1_1,.int .i64 a1_2] 59 (0,0)) (by (with_reducible repeat (first | refine blk_drewN ?_ _ | refine blk_drew ?_ | refine blk_alloc ?_ _));exact BK472.out) hb);have n2_:=zad (zbi (tafe) hb);clear BK472 HB;have HO475:=n0_;have BK472:=n1_;have HB:=n2_;clear n0_ n1_ n2_;(try clear hb);(try clear hb2);(try clear hk);(try clear hi);(try clear ho0)))
     have n0_:=zad (zak HO475.out);have n1_:=zad (blk_drew BK472.out);have n2_:=zad (zaf HB.out);clear HO475 BK472 HB;have HO475:=n0_;have BK472:=n1_;have HB:=n2_;clear n0_ n1_ n2_;obtain ⟨Ao13,co13,eo13⟩:=zbz HO475.out;(first | subst eo13 | (injection eo13 with f1_ f2_ f3_;have f4_:=f1_.symm;have f5_:=f3_.symm;clear f1_ f2_ f3_;subst f4_;subst f5_))
     have p476:0≤(a1_0:Int):=zas (taab);have q476:a1_0<(t473.length:Int):=zas (taab);obtain ⟨ad476,e476,hx476_0⟩:=zca (zbh HO475.out).2.2 a1_0 p476 q476;cases e476;replace p476:=eq_true p476;replace q476:=eq_true q476;have p6:0≤(a1_0:Int):=zas (taab);have q6:(a1_0:Int)<((t473.length:Int):Int):=zas (taab);obtain ⟨go6,co6,eo6,gb6,gl6,cl6,HG6⟩:=Kd.R_form HO475.out (by omega);(first | cases eo6 | (injection eo6 with ea_ en_ ec_;(first | subst ea_ | (injection ea_ with ea_;subst ea_));subst ec_;clear en_))
     have GB6:=zad gb6;have GG6:=zad HG6;clear gb6 gl6 HG6;(first | simp only [add_plain] at hx476_0 | skip)
     obtain ⟨hx6_0,hf6_0⟩:=Kd.R_celln 0 HO475.out (a1_0:Int) p6 q6;replace p6:=eq_true p6;replace q6:=eq_true q6;have HP14:=Kd.R_putn HO475.out (a1_0:Int) (wrap64 ((rd t473 a1_0) - a1_2));rw [← Ny477.out] at HP14;have HQ14:=zad HP14;clear HP14;refine start_ (n:=10) (S:=fun w'=>w'.cell? ⟨gb472,0,none⟩=some (.int .i64 a1_0)∧w'.cell? ⟨gb472,1,none⟩=some (.int .i64 a1_1)∧w'.cell? ⟨gb472,2,none⟩=some (.int .i64 a1_2)∧w'.cell? ⟨go6,(a1_0).toNat,none⟩=some (.int .i64 (rd t473 a1_0))) (ds:=[9]) #[false,false,false,false,false,false,false,false,false,false] (by kernel_rfl) rfl rfl ⟨(zbm BK472.out 0).trans rfl,(zbm BK472.out 1).trans rfl,(zbm BK472.out 2).trans rfl,hx476_0⟩ (fun hHeld => ?_);refine with_tabW spec_giDo.tab2 spec_giDo.bits2 (fun HT_ HW_ => ?_)
     generalize w11.drew=w12 at HO475 BK472 HB GG6 HQ14 hf6_0 hx476_0 hx6_0 hHeld ⊢
     refine puA 0 (some 8) qaai_ ?_;refine puA 1 (some 9) qaaj_ ?_;refine puA 5 (some 13) qaak_ ?_;refine tkA 2 (some 10) qaao_ rfl rfl (by rintro w' ⟨s0,s1,s2,s3⟩;go_simp;with_reducible rfl) hHeld ?_;refine puA 3 (some 11) qaal_ ?_;refine tkA 4 (some 12) qaap_ rfl rfl (by rintro w' ⟨s0,s1,s2,s3⟩;go_simp;with_reducible rfl) hHeld ?_;refine tkA 6 (some 14) qaaq_ rfl rfl (by rintro w' ⟨s0,s1,s2,s3⟩;go_simp;with_reducible rfl) hHeld ?_;refine puA 7 (some 15) qaam_ ?_;refine puA 8 (some 16) qaan_ ?_;refine last_ (i:=9) (N:=none) #[true,true,true,true,true,true,true,true,true,true] rfl rfl (one_of HT_.out (by kernel_rfl)) (by decide) (fun K hK => ?_)
     refine skip_ (w1 := ?_) (by rfl) rfl ?_ ?_
     rotate_left
     ·go_simp
      rfl
     refine hK.out _ _ ?_
     clear hK K;refine done_ (done_of HT_.out (by kernel_rfl)) ?_
     try go_wp2
     have n0_:Aside0 (Kd.R (Kd.int .i64) 3 (w12.setCell ⟨go6,(a1_0:Int).toNat,none⟩ (.int .i64 (wrap64 ((rd t473 a1_0) - a1_2)))) w.heap.size (fun _=>True) (.slice (some ⟨go6,0,none⟩) t473.length co13) y477):=⟨taff⟩;have n1_:Aside0 ((w12.setCell ⟨go6,(a1_0:Int).toNat,none⟩ (.int .i64 (wrap64 ((rd t473 a1_0) - a1_2)))).heap[gb472]? = some (.cells #[.int .i64 a1_0,.int .i64 a1_1,.int .i64 a1_2] 59 (0,0))):=⟨by (with_reducible repeat (first | refine blk_drewN ?_ _ | refine blk_drew ?_ | refine blk_alloc ?_ _));refine blk_far ?_ (by have h_:=Kd.R_ne HO475.out BK472.out (by decide);intro e_;exact h_ (by rw [e_];rfl)) _;(with_reducible repeat (first | refine blk_drewN ?_ _ | refine blk_drew ?_ | refine blk_alloc ?_ _));exact BK472.out⟩;have n2_:Aside0 (Below w.heap.size w (w12.setCell ⟨go6,(a1_0:Int).toNat,none⟩ (.int .i64 (wrap64 ((rd t473 a1_0) - a1_2))))):=⟨tafg⟩;(try clear HO475);(try clear BK472);(try clear HB);generalize (w12.setCell ⟨go6,(a1_0:Int).toNat,none⟩ (.int .i64 (wrap64 ((rd t473 a1_0) - a1_2))))=w15 at n0_ n1_ n2_ ⊢
     have HO475:=n0_;have BK472:=n1_;have HB:=n2_;clear n0_ n1_ n2_;have n0_:=zad (zak HO475.out);have n1_:=zad (blk_drew BK472.out);have n2_:=zad (zaf HB.out);clear HO475 BK472 HB;have HO475:=n0_;have BK472:=n1_;have HB:=n2_;clear n0_ n1_ n2_;have p478:0≤(a1_1:Int):=zas (taab);have q478:a1_1<(y477.length:Int):=(by have h_:(a1_1:Int)<((t473.length:Int):Int):=zas (taab);first | (have e_:=(zbh HO475.out).1;omega) | simpa only [Ny477.out,List.length_set] using h_);have ql478:((a1_1:Int)<((t473.length:Int):Int))=True:=eq_true (zas (taab));obtain ⟨ad478,e478,hx478_0⟩:=zca (zbh HO475.out).2.2 a1_1 p478 q478;obtain rfl:(⟨go6,0,none⟩:Addr)=ad478:=(by injection e478);(first | simp only [add_plain] at hx478_0 | simp only [add_at] at hx478_0 | simp only [Addr.add,Nat.zero_add] at hx478_0 | skip)
     replace p478:=eq_true p478;replace q478:=eq_true q478;have p9:0≤(a1_1:Int):=zas (taab);have q9:(a1_1:Int)<((t473.length:Int):Int):=zas (taab);obtain ⟨hx9_0,hf9_0⟩:=Kd.R_celln 0 HO475.out (a1_1:Int) p9 q9;replace p9:=eq_true p9;replace q9:=eq_true q9;have HP17:=Kd.R_putn HO475.out (a1_1:Int) (wrap64 ((rd y477 a1_1)+a1_2));rw [← Ny479.out] at HP17;have HQ17:=zad HP17;clear HP17;refine start_ (n:=10) (S:=fun w'=>w'.cell? ⟨gb472,0,none⟩=some (.int .i64 a1_0)∧w'.cell? ⟨gb472,1,none⟩=some (.int .i64 a1_1)∧w'.cell? ⟨gb472,2,none⟩=some (.int .i64 a1_2)∧w'.cell? ⟨go6,(a1_1).toNat,none⟩=some (.int .i64 (rd y477 a1_1))) (ds:=[9]) #[false,false,false,false,false,false,false,false,false,false] (by kernel_rfl) rfl rfl ⟨(zbm BK472.out 0).trans rfl,(zbm BK472.out 1).trans rfl,(zbm BK472.out 2).trans rfl,hx478_0⟩ (fun hHeld => ?_);refine with_tabW spec_giDo.tab3 spec_giDo.bits3 (fun HT_ HW_ => ?_)
     generalize w15.drew=w16 at HO475 BK472 HB HQ14 HQ17 hf9_0 hx478_0 hx9_0 hHeld ⊢
     refine puA 0 (some 17) qaai_ ?_;refine puA 1 (some 18) qaaj_ ?_;refine puA 5 (some 22) qaak_ ?_;refine tkA 2 (some 19) qaao_ rfl rfl (by rintro w' ⟨s0,s1,s2,s3⟩;go_simp;with_reducible rfl) hHeld ?_;refine puA 3 (some 20) qaal_ ?_;refine tkA 4 (some 21) qaap_ rfl rfl (by rintro w' ⟨s0,s1,s2,s3⟩;go_simp;with_reducible rfl) hHeld ?_;refine tkA 6 (some 23) qaaq_ rfl rfl (by rintro w' ⟨s0,s1,s2,s3⟩;go_simp;with_reducible rfl) hHeld ?_;refine puA 7 (some 24) qaam_ ?_;refine puA 8 (some 25) qaan_ ?_;refine last_ (i:=9) (N:=none) #[true,true,true,true,true,true,true,true,true,true] rfl rfl (one_of HT_.out (by kernel_rfl)) (by decide) (fun K hK => ?_)
     refine skip_ (w1 := ?_) (by rfl) rfl ?_ ?_
     rotate_left
     ·go_simp
      rfl
     refine hK.out _ _ ?_
     clear hK K;refine done_ (done_of HT_.out (by kernel_rfl)) ?_
     try go_wp2
     go_ret
     exact ⟨_,taah,tafh,tafg⟩
    ·rw [if_neg c8] at H
     exact absurd H (taad)
   ·rw [if_neg c7] at H
    exact absurd H (taad)
  ·rw [if_neg c5] at H
   exact absurd H (taad)
 ·rw [if_neg c4] at H
  exact absurd H (taad)
def spec_l1Same.l0:Nat→List Int→List Int→Int→Int→Option (Bool)
 | 0,_,_,_,_=>none
 | k+1,x0,x1,x12,x13=>if x13<x12 then (if 0≤x13 then (if x13<(x0.length:Int) then (if x13<(x1.length:Int) then (if (rd x0 x13)=(rd x1 x13) then (spec_l1Same.l0 k x0 x1 x12 (wrap64 (x13+1))) else (some false)) else (none)) else (none)) else (none)) else (some true)
def spec_l1Same.f (k:Nat) (l0:List Int) (l1:List Int):Option (Bool):=if (l0.length:Int)=(l1.length:Int) then (spec_l1Same.l0 k l0 l1 (l0.length:Int) 0) else (some false)
theorem spec_l1Same.calls (k:Nat) (A0:Option Addr) (c0:Nat) (l0:List Int) (A1:Option Addr) (c1:Nat) (l1:List Int) (r:Bool) (w:World) (hr0:Kd.C (Kd.int .i64) w A0 l0.length l0) (hc0:l0.length≤c0) (hr1:Kd.C (Kd.int .i64) w A1 l1.length l1) (hc1:l1.length≤c1) (h:spec_l1Same.f k l0 l1=some r) :
 Calls Tryz.prog 68 #[.slice A0 l0.length c0,.slice A1 l1.length c1] w fun e w'=>e = .returned (.bool r)∧Drawn0 w w':=by
 have HR0:=zad hr0;have HC0:=zad hc0;clear hr0 hc0;have HR1:=zad hr1;have HC1:=zad hc1;clear hr1 hc1;have H:(if (l0.length:Int)=(l1.length:Int) then (spec_l1Same.l0 k l0 l1 (l0.length:Int) 0) else (some false))=some r:=h;clear h;by_cases c3:(l0.length:Int)=(l1.length:Int)
 ·rw [if_pos c3] at H
  have c3b0:((l0.length:Int) == (l1.length:Int))=true:=beq_iff_eq.mpr c3;have c3b1:((l0.length:Int) != (l1.length:Int))=false:=bne_eq_false_iff_eq.mpr c3;have c3b2:(l0.length == l1.length)=true:=by first | simpa using c3 | (simp at c3 ⊢;omega)
  clear c3;have H':=zad H;clear H;go_enter Tryz.func68,Tryz.ntmps68;go_wp2
  repeat (go_quiet (fail);try go_wp2)
  go_loopg [13] k (fun kq v13 w'=>∃ (x13_1:Int),v13 = .int .i64 x13_1∧Aside0 (spec_l1Same.l0 kq l0 l1 (l0.length:Int) x13_1=some r)∧Aside0 (kq≤k)∧Drawn0 w w')
  case atStart=>exact ⟨(0),(taae),H',⟨zcf _⟩,taak⟩
  case round =>
   clear H';try clear c1
   try clear p2
   try clear c3
   try clear c3b0
   try clear c3b1
   try clear c3b2
   obtain ⟨x13_1,rfl,HA,HK1,⟨m1,rfl⟩⟩:=hrel;cases gk with
   | zero=>exact absurd HA.out (by simp [spec_l1Same.l0])
   | succ k1 =>
    have H:=HA.out;clear HA;simp only [spec_l1Same.l0] at H;by_cases c4:x13_1<(l0.length:Int)
    ·rw [if_pos c4] at H
     have c4b0:decide (x13_1<(l0.length:Int))=true:=zba c4;clear c4;by_cases c5:0≤x13_1
     ·rw [if_pos c5] at H
      have c5b0:decide (0≤x13_1)=true:=zba c5;clear c5;by_cases c6:x13_1<(l0.length:Int)
      ·rw [if_pos c6] at H
       have c6b0:decide (x13_1<(l0.length:Int))=true:=zba c6;clear c6;by_cases c7:x13_1<(l1.length:Int)
       ·rw [if_pos c7] at H
        have c7b0:decide (x13_1<(l1.length:Int))=true:=zba c7;clear c7;by_cases c8:(rd l0 x13_1)=(rd l1 x13_1)
        ·rw [if_pos c8] at H
         have c8b0:((rd l0 x13_1) == (rd l1 x13_1))=true:=beq_iff_eq.mpr c8;have c8b1:((rd l0 x13_1) != (rd l1 x13_1))=false:=bne_eq_false_iff_eq.mpr c8;clear c8;have H':=zad H;clear H;have p387:0≤(x13_1:Int):=zas (taab);have q387:x13_1<(l0.length:Int):=zas (taab);obtain ⟨ad387,e387,hx387_0⟩:=zca HR0.out x13_1 p387 q387;cases e387;replace p387:=eq_true p387;replace q387:=eq_true q387;have p388:0≤(x13_1:Int):=zas (taab);have q388:x13_1<(l1.length:Int):=zas (taab);obtain ⟨ad388,e388,hx388_0⟩:=zca HR1.out x13_1 p388 q388;cases e388;replace p388:=eq_true p388;replace q388:=eq_true q388;go_wp2
         repeat (go_quiet (fail);try go_wp2)
         go_roundg k1
         case measure=>have:=HK1.out;omega
         case rel=>exact ⟨(wrap64 (x13_1+1)),(taae),H',⟨taap⟩,taak⟩
        ·rw [if_neg c8] at H
         have c8b0:((rd l0 x13_1) == (rd l1 x13_1))=false:=zbs.mpr c8;have c8b1:((rd l0 x13_1) != (rd l1 x13_1))=true:=bne_iff_ne.mpr c8;obtain rfl:=zbg H;have p387:0≤(x13_1:Int):=zas (taab);have q387:x13_1<(l0.length:Int):=zas (taab);obtain ⟨ad387,e387,hx387_0⟩:=zca HR0.out x13_1 p387 q387;cases e387;replace p387:=eq_true p387;replace q387:=eq_true q387;have p388:0≤(x13_1:Int):=zas (taab);have q388:x13_1<(l1.length:Int):=zas (taab);obtain ⟨ad388,e388,hx388_0⟩:=zca HR1.out x13_1 p388 q388;cases e388;replace p388:=eq_true p388;replace q388:=eq_true q388;go_wp2
         repeat (go_quiet (fail);try go_wp2)
         go_ret
         exact ⟨taae,taak⟩
       ·rw [if_neg c7] at H
        exact absurd H (taad)
      ·rw [if_neg c6] at H
       exact absurd H (taad)
     ·rw [if_neg c5] at H
      exact absurd H (taad)
    ·rw [if_neg c4] at H
     have c4b0:decide (x13_1<(l0.length:Int))=false:=zbl c4;clear c4;obtain rfl:=zbg H;go_wp2
     repeat (go_quiet (fail);try go_wp2)
     go_ret
     exact ⟨taae,taak⟩
 ·rw [if_neg c3] at H
  have c3b0:((l0.length:Int) == (l1.length:Int))=false:=zbs.mpr c3;have c3b1:((l0.length:Int) != (l1.length:Int))=true:=bne_iff_ne.mpr c3;have c3b2:(l0.length == l1.length)=false:=by first | simpa using c3 | (simp at c3 ⊢;omega)
  obtain rfl:=zbg H;go_enter Tryz.func68,Tryz.ntmps68;go_wp2
  repeat (go_quiet (fail);try go_wp2)
  go_ret
  exact ⟨taae,taak⟩
mutual
def spec_giNext.l0:Nat→List Int→List Int→Int→Option (Int × Int × Int)
 | 0,_,_,_=>none
 | k+1,x0,x1,x5=>if 0≤x5 then (if x5<(x1.length:Int) then (if x5<(x0.length:Int) then (if (rd x1 x5)≥(rd x0 x5) then (spec_giNext.l0 k x0 x1 (wrap64 (x5+1))) else (spec_giNext.l1 k x0 x1 x5 (wrap64 (x5 - 1)))) else (none)) else (none)) else (none)
def spec_giNext.l1:Nat→List Int→List Int→Int→Int→Option (Int × Int × Int)
 | 0,_,_,_,_=>none
 | k+1,x0,x1,x5,x6=>if 0≤x6 then (if x6<(x1.length:Int) then (if x6<(x0.length:Int) then (if (rd x1 x6)≤(rd x0 x6) then (spec_giNext.l1 k x0 x1 x5 (wrap64 (x6 - 1))) else (some (x6,x5,1))) else (none)) else (none)) else (none)
end
def spec_giNext.f (k:Nat) (l0:List Int) (l1:List Int):Option (Int × Int × Int):=spec_giNext.l0 k l0 l1 0
theorem spec_giNext.calls (k:Nat) (A0:Option Addr) (c0:Nat) (l0:List Int) (A1:Option Addr) (c1:Nat) (l1:List Int) (r1:Int) (r2:Int) (r3:Int) (w:World) (hr0:Kd.C (Kd.int .i64) w A0 l0.length l0) (hc0:l0.length≤c0) (hr1:Kd.C (Kd.int .i64) w A1 l1.length l1) (hc1:l1.length≤c1) (h:spec_giNext.f k l0 l1=some (r1,r2,r3)) :
 Calls Tryz.prog 75 #[.slice A0 l0.length c0,.slice A1 l1.length c1] w fun e w'=>e = .returned (.agg #[.int .i64 r1,.int .i64 r2,.int .i64 r3])∧Below w.heap.size w w':=by
 have hu59:=Tryz.underlying59;have HR0:=zad hr0;have HC0:=zad hc0;clear hr0 hc0;have HR1:=zad hr1;have HC1:=zad hc1;clear hr1 hc1;have HB:=zad (Below.refl w.heap.size w);have H:(spec_giNext.l0 k l0 l1 0)=some (r1,r2,r3):=h;clear h;have H':=zad H;clear H;go_enter Tryz.func75,Tryz.ntmps75;go_wp2_with (first | ((with_reducible refine gate_dst (N:=4) rfl ?_);refine box_event ?hg (N:=4) ?hd (cs:=#[.int .i64 0,.int .i64 0,.int .i64 0]) (t:=59) ?hr ?_;(case hd=>rfl);(case hg=>rfl);(case hr=>first | (go_simp;done) | (go_simp;rfl));intro gb480 hg w3 hbox hb;have n0_:=zad (zbi (taaa) hb);have n1_:=zad (hbox);have n2_:=zad ((tahi:w.heap.size≤gb480));have n3_:=zad ((tahi:w.heap.size≤gb480));clear HB;have HB:=n0_;have BK480:=n1_;have GW480:=n2_;have GE480:=n3_;clear n0_ n1_ n2_ n3_ hb hbox hg))
 repeat (go_quiet (first | ((with_reducible refine gate_dst (N:=4) rfl ?_);refine box_event ?hg (N:=4) ?hd (cs:=#[.int .i64 0,.int .i64 0,.int .i64 0]) (t:=59) ?hr ?_;(case hd=>rfl);(case hg=>rfl);(case hr=>first | (go_simp;done) | (go_simp;rfl));intro gb480 hg w3 hbox hb;have n0_:=zad (zbi (taaa) hb);have n1_:=zad (hbox);have n2_:=zad ((tahi:w.heap.size≤gb480));have n3_:=zad ((tahi:w.heap.size≤gb480));clear HB;have HB:=n0_;have BK480:=n1_;have GW480:=n2_;have GE480:=n3_;clear n0_ n1_ n2_ n3_ hb hbox hg));try go_wp2_with (first | ((with_reducible refine gate_dst (N:=4) rfl ?_);refine box_event ?hg (N:=4) ?hd (cs:=#[.int .i64 0,.int .i64 0,.int .i64 0]) (t:=59) ?hr ?_;(case hd=>rfl);(case hg=>rfl);(case hr=>first | (go_simp;done) | (go_simp;rfl));intro gb480 hg w3 hbox hb;have n0_:=zad (zbi (taaa) hb);have n1_:=zad (hbox);have n2_:=zad ((tahi:w.heap.size≤gb480));have n3_:=zad ((tahi:w.heap.size≤gb480));clear HB;have HB:=n0_;have BK480:=n1_;have GW480:=n2_;have GE480:=n3_;clear n0_ n1_ n2_ n3_ hb hbox hg)))
 go_loopg [5] k (fun kq v5 w'=>∃ (x5_1:Int),v5 = .int .i64 x5_1∧Aside0 (spec_giNext.l0 kq l0 l1 x5_1=some (r1,r2,r3))∧Aside0 (kq≤k)∧Aside0 (w'.heap[gb480]? = some (.cells #[.int .i64 0,.int .i64 0,.int .i64 0] 59 (0,0)))∧Aside0 (Below w.heap.size w w'))
 case atStart=>exact ⟨(0),(taae),H',⟨zcf _⟩,⟨tacu⟩,⟨tacn⟩⟩
 case round =>
  clear H';try clear c1
  try clear p2
  obtain ⟨x5_1,rfl,HA,HK1,BK480,HB⟩:=hrel;cases gk with
  | zero=>exact absurd HA.out (by simp [spec_giNext.l0])
  | succ k1 =>
   have H:=HA.out;clear HA;simp only [spec_giNext.l0] at H;by_cases c4:0≤x5_1
   ·rw [if_pos c4] at H
    have c4b0:decide (0≤x5_1)=true:=zba c4;clear c4;by_cases c5:x5_1<(l1.length:Int)
    ·rw [if_pos c5] at H
     have c5b0:decide (x5_1<(l1.length:Int))=true:=zba c5;clear c5;by_cases c6:x5_1<(l0.length:Int)
     ·rw [if_pos c6] at H
      have c6b0:decide (x5_1<(l0.length:Int))=true:=zba c6;clear c6;by_cases c7:(rd l1 x5_1)≥(rd l0 x5_1)
      ·rw [if_pos c7] at H
       have c7b0:decide ((rd l0 x5_1)≤(rd l1 x5_1))=true:=zba c7;clear c7;have H':=zad H;clear H;have p481:0≤(x5_1:Int):=zas (taab);have q481:x5_1<(l1.length:Int):=zas (taab);obtain ⟨ad481,e481,hx481_0⟩:=zca HR1.out x5_1 p481 q481;cases e481;replace hx481_0:=(HB.out.cell (zaz w _ hx481_0)).trans hx481_0;replace p481:=eq_true p481;replace q481:=eq_true q481;have p482:0≤(x5_1:Int):=zas (taab);have q482:x5_1<(l0.length:Int):=zas (taab);obtain ⟨ad482,e482,hx482_0⟩:=zca HR0.out x5_1 p482 q482;cases e482;replace hx482_0:=(HB.out.cell (zaz w _ hx482_0)).trans hx482_0;replace p482:=eq_true p482;replace q482:=eq_true q482;go_wp2
       repeat (go_quiet (fail);try go_wp2)
       go_roundg k1
       case measure=>have:=HK1.out;omega
       case rel=>exact ⟨(wrap64 (x5_1+1)),(taae),H',⟨taap⟩,⟨tacu⟩,⟨tacn⟩⟩
      ·rw [if_neg c7] at H
       have c7b0:decide ((rd l0 x5_1)≤(rd l1 x5_1))=false:=zbl c7;clear c7;have H':=zad H;clear H;have p481:0≤(x5_1:Int):=zas (taab);have q481:x5_1<(l1.length:Int):=zas (taab);obtain ⟨ad481,e481,hx481_0⟩:=zca HR1.out x5_1 p481 q481;cases e481;replace hx481_0:=(HB.out.cell (zaz w _ hx481_0)).trans hx481_0;replace p481:=eq_true p481;replace q481:=eq_true q481;have p482:0≤(x5_1:Int):=zas (taab);have q482:x5_1<(l0.length:Int):=zas (taab);obtain ⟨ad482,e482,hx482_0⟩:=zca HR0.out x5_1 p482 q482;cases e482;replace hx482_0:=(HB.out.cell (zaz w _ hx482_0)).trans hx482_0;replace p482:=eq_true p482;replace q482:=eq_true q482;go_wp2
       repeat (go_quiet (fail);try go_wp2)
       go_loopg [6] k1 (fun kq v6 w'=>∃ (x6_2:Int),v6 = .int .i64 x6_2∧Aside0 (spec_giNext.l1 kq l0 l1 x5_1 x6_2=some (r1,r2,r3))∧Aside0 (kq≤k1)∧Aside0 (w'.heap[gb480]? = some (.cells #[.int .i64 0,.int .i64 0,.int .i64 0] 59 (0,0)))∧Aside0 (Below w.heap.size w w'))
       case atStart=>exact ⟨(wrap64 (x5_1 - 1)),(taae),H',⟨zcf _⟩,⟨tacu⟩,⟨tacn⟩⟩
       case round =>
        clear H';try clear c1
        try clear p2
        try clear c4
        try clear c4b0
        try clear p4
        try clear q4
        try clear hx4
        try clear c5
        try clear c5b0
        try clear c6
        try clear c6b0
        try clear p6
        try clear c7
        try clear c7b0
        try clear hx481_0
        try clear hx482_0
        try clear p2
        try clear p481
        try clear p482
        try clear q481
        try clear q482
        obtain ⟨x6_2,rfl,HA,HK2,BK480,HB⟩:=hrel;cases gk with
        | zero=>exact absurd HA.out (by simp [spec_giNext.l1])
        | succ k2 =>
         have H:=HA.out;clear HA;simp only [spec_giNext.l1] at H;by_cases c8:0≤x6_2
         ·rw [if_pos c8] at H
          have c8b0:decide (0≤x6_2)=true:=zba c8;clear c8;by_cases c9:x6_2<(l1.length:Int)
          ·rw [if_pos c9] at H
           have c9b0:decide (x6_2<(l1.length:Int))=true:=zba c9;clear c9;by_cases c10:x6_2<(l0.length:Int)
           ·rw [if_pos c10] at H
            have c10b0:decide (x6_2<(l0.length:Int))=true:=zba c10;clear c10;by_cases c11:(rd l1 x6_2)≤(rd l0 x6_2)
            ·rw [if_pos c11] at H
             have c11b0:decide ((rd l1 x6_2)≤(rd l0 x6_2))=true:=zba c11;clear c11;have H':=zad H;clear H;have p483:0≤(x6_2:Int):=zas (taab);have q483:x6_2<(l1.length:Int):=zas (taab);obtain ⟨ad483,e483,hx483_0⟩:=zca HR1.out x6_2 p483 q483;obtain rfl:ad481=ad483:=(by injection e483);replace hx483_0:=(HB.out.cell (zaz w _ hx483_0)).trans hx483_0;replace p483:=eq_true p483;replace q483:=eq_true q483;have p484:0≤(x6_2:Int):=zas (taab);have q484:x6_2<(l0.length:Int):=zas (taab);obtain ⟨ad484,e484,hx484_0⟩:=zca HR0.out x6_2 p484 q484;obtain rfl:ad482=ad484:=(by injection e484);replace hx484_0:=(HB.out.cell (zaz w _ hx484_0)).trans hx484_0;replace p484:=eq_true p484;replace q484:=eq_true q484;go_wp2
             repeat (go_quiet (fail);try go_wp2)
             go_roundg k2
             case measure=>have:=HK1.out;have:=HK2.out;omega
             case rel=>exact ⟨(wrap64 (x6_2 - 1)),(taae),H',⟨taba⟩,⟨tacu⟩,⟨tacn⟩⟩
            ·rw [if_neg c11] at H
             have c11b0:decide ((rd l1 x6_2)≤(rd l0 x6_2))=false:=zbl c11;clear c11;simp only [zbp,zbt] at H;obtain ⟨rfl,rfl,rfl⟩:=H;have p483:0≤(x6_2:Int):=zas (taab);have q483:x6_2<(l1.length:Int):=zas (taab);obtain ⟨ad483,e483,hx483_0⟩:=zca HR1.out x6_2 p483 q483;obtain rfl:ad481=ad483:=(by injection e483);replace hx483_0:=(HB.out.cell (zaz w _ hx483_0)).trans hx483_0;replace p483:=eq_true p483;replace q483:=eq_true q483;have p484:0≤(x6_2:Int):=zas (taab);have q484:x6_2<(l0.length:Int):=zas (taab);obtain ⟨ad484,e484,hx484_0⟩:=zca HR0.out x6_2 p484 q484;obtain rfl:ad482=ad484:=(by injection e484);replace hx484_0:=(HB.out.cell (zaz w _ hx484_0)).trans hx484_0;replace p484:=eq_true p484;replace q484:=eq_true q484;have hcz12_0:wr.cell? ⟨gb480,0,none⟩=some (.int .i64 0):=(zbm BK480.out 0).trans rfl;have hcz12_1:wr.cell? ⟨gb480,1,none⟩=some (.int .i64 0):=(zbm BK480.out 1).trans rfl;have hcz12_2:wr.cell? ⟨gb480,2,none⟩=some (.int .i64 0):=(zbm BK480.out 2).trans rfl;have hfz12_0:=zbn BK480.out 0;have hfz12_1:=zbn BK480.out 1;have hfz12_2:=zbn BK480.out 2;go_wp2
             repeat (go_quiet (fail);try go_wp2)
             refine bodyPost_ret (results_cell_row rfl _ _ gb480 59 #[.int .i64 x6_2,.int .i64 x5_1,.int .i64 1] (0,0) _ rfl (by (with_reducible repeat (first | refine blk_drewN ?_ _ | refine blk_drew ?_ | refine blk_alloc ?_ _));refine blk_put (cs:=#[.int .i64 x6_2,.int .i64 x5_1,.int .i64 0]) ?_ 2 _ rfl;(with_reducible repeat (first | refine blk_drewN ?_ _ | refine blk_drew ?_ | refine blk_alloc ?_ _));refine blk_put (cs:=#[.int .i64 x6_2,.int .i64 0,.int .i64 0]) ?_ 1 _ rfl;(with_reducible repeat (first | refine blk_drewN ?_ _ | refine blk_drew ?_ | refine blk_alloc ?_ _));refine blk_put (cs:=#[.int .i64 0,.int .i64 0,.int .i64 0]) ?_ 0 _ rfl;(with_reducible repeat (first | refine blk_drewN ?_ _ | refine blk_drew ?_ | refine blk_alloc ?_ _));exact BK480.out) Tryz.underlying59 rfl (by kernel_rfl)) rfl ?_
             exact ⟨taah,tacn⟩
           ·rw [if_neg c10] at H
            exact absurd H (taad)
          ·rw [if_neg c9] at H
           exact absurd H (taad)
         ·rw [if_neg c8] at H
          exact absurd H (taad)
     ·rw [if_neg c6] at H
      exact absurd H (taad)
    ·rw [if_neg c5] at H
     exact absurd H (taad)
   ·rw [if_neg c4] at H
    exact absurd H (taad)
def spec_l1Least.f (a0:Int) (a1:Int):Option (Int):=if a0<a1 then (some a0) else (some a1)
theorem spec_l1Least.calls (a0:Int) (a1:Int) (r:Int) (w:World) (h:spec_l1Least.f a0 a1=some r) :
 Calls Tryz.prog 76 #[.int .i64 a0,.int .i64 a1] w fun e w'=>e = .returned (.int .i64 r)∧Drawn0 w w':=by
 have H:(if a0<a1 then (some a0) else (some a1))=some r:=h;clear h;by_cases c3:a0<a1
 ·rw [if_pos c3] at H
  have c3b0:decide (a0<a1)=true:=zba c3;clear c3;obtain rfl:=zbg H;go_enter Tryz.func76,Tryz.ntmps76;go_wp2
  go_ret
  exact ⟨taae,taak⟩
 ·rw [if_neg c3] at H
  have c3b0:decide (a0<a1)=false:=zbl c3;clear c3;obtain rfl:=zbg H;go_enter Tryz.func76,Tryz.ntmps76;go_wp2
  go_ret
  exact ⟨taae,taak⟩
def spec_giPath.l0:Nat→Bool→List Int→List Int→List (S59)→Option ((List (S59)))
 | 0,_,_,_,_=>none
 | k+1,x2,x7,x8,x9=>(spec_l1Same.f k x7 x8).bind fun t491=>(if t491=true then (some x9) else ((spec_giNext.f k x7 x8).bind fun bt492=>(if x2=true then (if 0≤bt492.1 then (if bt492.1<(x8.length:Int) then (if bt492.1<(x7.length:Int) then (if 0≤bt492.2.1 then (if bt492.2.1<(x7.length:Int) then (if bt492.2.1<(x8.length:Int) then ((spec_l1Least.f (wrap64 ((rd x8 bt492.1) - (rd x7 bt492.1))) (wrap64 ((rd x7 bt492.2.1) - (rd x8 bt492.2.1)))).bind fun t500=>(if x9.length<5864062014805 then ((spec_giDo.f x8 bt492.1 bt492.2.1 t500).bind fun t504=>((spec_liRank.f k t504).bind fun t507=>(spec_giPath.l0 k x2 x7 t507 (x9 ++ [(⟨bt492.1,bt492.2.1,t500⟩:S59)])))) else (none))) else (none)) else (none)) else (none)) else (none)) else (none)) else (none)) else (if x9.length<5864062014805 then ((spec_giDo.f x8 bt492.1 bt492.2.1 bt492.2.2).bind fun t513=>((spec_liRank.f k t513).bind fun t516=>(spec_giPath.l0 k x2 x7 t516 (x9 ++ [(⟨bt492.1,bt492.2.1,bt492.2.2⟩:S59)])))) else (none)))))
def spec_giPath.f (k:Nat) (l0:List Int) (l1:List Int) (a2:Bool):Option ((List (S59))):=(spec_liRank.f k l0).bind fun t485=>((spec_liRank.f k l1).bind fun t488=>(spec_giPath.l0 k a2 t485 t488 ([]:List (S59))))
def spec_giPath.T6:Bool × List (List Nat × List Nat):=(true,[([],[]),([],[]),([1],[1]),([0,2],[0,2]),([3],[3]),([],[]),([],[]),([6],[6]),([5,7],[5,7]),([8],[8]),([4,9],[4,9]),([],[]),([],[]),([12],[12]),([11,13],[11,13]),([14],[14]),([],[]),([],[]),([17],[17]),([16,18],[16,18]),([19],[19]),([15,20],[15,20]),([10,21],[10,21]),([0,1,2,3,4,5,6,7,8,9,10,11,12,13,14,15,16,17,18,19,20,21,22],[]),([23,22,22,0,1,2,3,4,5,6,7,8,9,10,11,12,13,14,15,16,17,18,19,20,21,22],[22,23])])
def spec_giPath.B6:List Nat:=[0,0,2,7,15,0,0,64,224,480,1023,0,0,4096,14336,30720,0,0,131072,458752,983040,2095104,4194303,8388607,16777215]
theorem spec_giPath.tab6:rtab .any (opsOf Tryz.f35 6)=spec_giPath.T6:=by kernel_rfl
theorem spec_giPath.bits6:waitsOk spec_giPath.T6.2 spec_giPath.B6=true:=by kernel_rfl
theorem spec_giPath.calls (k:Nat) (A0:Option Addr) (c0:Nat) (l0:List Int) (A1:Option Addr) (c1:Nat) (l1:List Int) (a2:Bool) (r:List (S59)) (w:World) (hr0:Kd.C (Kd.int .i64) w A0 l0.length l0) (hc0:l0.length≤c0) (hr1:Kd.C (Kd.int .i64) w A1 l1.length l1) (hc1:l1.length≤c1) (h:spec_giPath.f k l0 l1 a2=some r) :
 Calls Tryz.prog 35 #[.slice A0 l0.length c0,.slice A1 l1.length c1,.bool a2] w fun e w'=>∃ v0_:Value,e = .returned (v0_)∧Kd.R k59 59 w' w.heap.size (fun _=>True) v0_ r∧Below w.heap.size w w':=by
 have hu59:=Tryz.underlying59;have HR0:=zad hr0;have HC0:=zad hc0;clear hr0 hc0;have HR1:=zad hr1;have HC1:=zad hc1;clear hr1 hc1;have HB:=zad (Below.refl w.heap.size w);have H:((spec_liRank.f k l0).bind fun t485=>((spec_liRank.f k l1).bind fun t488=>(spec_giPath.l0 k a2 t485 t488 ([]:List (S59)))))=some r:=h;clear h;replace H:=zay.mp H;obtain ⟨t485,A40,H⟩:=H;replace H:((spec_liRank.f k l1).bind fun t488=>(spec_giPath.l0 k a2 t485 t488 ([]:List (S59))))=some r:=H;have A4:=zad A40;clear A40;replace H:=zay.mp H;obtain ⟨t488,A50,H⟩:=H;replace H:(spec_giPath.l0 k a2 t485 t488 ([]:List (S59)))=some r:=H;have A5:=zad A50;clear A50;have H':=zad H;clear H;go_enter Tryz.func35,Tryz.ntmps35;go_wp2_with (first | ((with_reducible refine zbj (f:=46) rfl ?_);refine zbr (some 12) rfl rfl Tryz.func46 (by kernel_rfl) rfl #[.slice A0 l0.length c0] rfl (taac) ?_;(with_reducible refine (spec_liRank.calls k _ _ l0 t485 _ ?side1 ?side2 A4.out).mono ?_);(case side1=>repeat (first | exact HR0.out | (with_reducible refine zal ?_ _) | (with_reducible refine zam ?_ _) | (with_reducible refine zan ?_)));(case side2=>exact HC0.out);rintro e w6 ⟨v486,rfl,ho0,hb⟩;refine ⟨_,rfl,?_⟩;have n0_:=zad (zby ho0 (zbo (taaa)));have n1_:=zad (zbi (taaa) hb);clear HB;have HO487:=n0_;have HB:=n1_;clear n0_ n1_;(try clear hb);(try clear hb2);(try clear hk);(try clear hi);(try clear ho0)) | ((with_reducible refine zbj (f:=46) rfl ?_);refine zbr (some 14) rfl rfl Tryz.func46 (by kernel_rfl) rfl #[.slice A1 l1.length c1] rfl (taac) ?_;(with_reducible refine (spec_liRank.calls k _ _ l1 t488 _ ?side1 ?side2 A5.out).mono ?_);(case side1=>repeat (first | exact (Kd.C_below HR1.out HB.out) | (with_reducible refine zal ?_ _) | (with_reducible refine zam ?_ _) | (with_reducible refine zan ?_)));(case side2=>exact HC1.out);rintro e w7 ⟨v489,rfl,ho0,hb⟩;refine ⟨_,rfl,?_⟩;have n0_:=zad (zcb (tafi) (zcd ho0) hb);have n1_:=zad (zby (zcc ho0 (zce (tafi))) (zbo (taaa)));have n2_:=zad (zbi (taaa) hb);clear HO487 HB;have HO487:=n0_;have HO490:=n1_;have HB:=n2_;clear n0_ n1_ n2_;(try clear hb);(try clear hb2);(try clear hk);(try clear hi);(try clear ho0)))
 go_loopg [8,9] k (fun kq v8 v9 w'=>∃ (x8_1:List Int) (x9_1:List (S59)),Aside0 (spec_giPath.l0 kq a2 t485 x8_1 x9_1=some r)∧Aside0 (kq≤k)∧Aside0 (Kd.R (Kd.int .i64) 3 w' w.heap.size (fun k_=>some k_≠(v8:Value).ownBlock) v486 t485)∧Aside0 (Kd.R (Kd.int .i64) 3 w' w.heap.size (fun k_=>some k_≠(v486:Value).ownBlock) v8 x8_1)∧Aside0 (Kd.R k59 59 w' w.heap.size (fun _=>True) v9 x9_1)∧Aside0 (Below w.heap.size w w'))
 case atStart=>exact ⟨(t488),(([]:List (S59))),H',⟨zcf _⟩,⟨by (with_reducible repeat (first | apply zai | apply zaj | apply zak));exact zbu HO487.out (fun _ hk=>hk.2)⟩,⟨by (with_reducible repeat (first | apply zai | apply zaj | apply zak));exact zbu HO490.out (fun _ hk=>hk.2)⟩,⟨taaz⟩,⟨taaa⟩⟩
 case round =>
  clear H';try clear c1
  try clear p2
  try clear c3
  try clear c4
  obtain ⟨x8_1,x9_1,HA,HK1,HO_7,HO_8,HO_9,HB⟩:=hrel;cases gk with
  | zero=>exact absurd HA.out (by simp [spec_giPath.l0])
  | succ k1 =>
   have H:=HA.out;clear HA;simp only [spec_giPath.l0] at H;replace H:=zay.mp H;obtain ⟨t491,A80,H⟩:=H;replace H:(if t491=true then (some x9_1) else ((spec_giNext.f k1 t485 x8_1).bind fun bt492=>(if a2=true then (if 0≤bt492.1 then (if bt492.1<(x8_1.length:Int) then (if bt492.1<(t485.length:Int) then (if 0≤bt492.2.1 then (if bt492.2.1<(t485.length:Int) then (if bt492.2.1<(x8_1.length:Int) then ((spec_l1Least.f (wrap64 ((rd x8_1 bt492.1) - (rd t485 bt492.1))) (wrap64 ((rd t485 bt492.2.1) - (rd x8_1 bt492.2.1)))).bind fun t500=>(if x9_1.length<5864062014805 then ((spec_giDo.f x8_1 bt492.1 bt492.2.1 t500).bind fun t504=>((spec_liRank.f k1 t504).bind fun t507=>(spec_giPath.l0 k1 a2 t485 t507 (x9_1 ++ [(⟨bt492.1,bt492.2.1,t500⟩:S59)])))) else (none))) else (none)) else (none)) else (none)) else (none)) else (none)) else (none)) else (if x9_1.length<5864062014805 then ((spec_giDo.f x8_1 bt492.1 bt492.2.1 bt492.2.2).bind fun t513=>((spec_liRank.f k1 t513).bind fun t516=>(spec_giPath.l0 k1 a2 t485 t516 (x9_1 ++ [(⟨bt492.1,bt492.2.1,bt492.2.2⟩:S59)])))) else (none)))))=some r:=H;have A8:=zad A80;clear A80;by_cases c9:t491=true
   ·subst c9
    have H1:(some x9_1)=some r:=by rw [if_pos rfl] at H;exact H
    clear H;have H:=H1;clear H1;obtain rfl:=zbg H;obtain ⟨Ao10,co10,eo10⟩:=zbz HO_7.out;subst eo10;obtain ⟨Ao11,co11,eo11⟩:=zbz HO_8.out;subst eo11;go_wp2_with (first | ((with_reducible refine zbj (f:=68) rfl ?_);refine zbr (some 17) rfl rfl Tryz.func68 (by kernel_rfl) rfl #[.slice Ao10 t485.length co10,.slice Ao11 x8_1.length co11] rfl (taac) ?_;(with_reducible refine (spec_l1Same.calls k1 _ _ t485 _ _ x8_1 true _ ?side1 ?side2 ?side3 ?side4 A8.out).mono ?_);(case side1=>exact taie);(case side2=>exact (zbh HO_7.out).2.1);(case side3=>exact tahz);(case side4=>exact taia);rintro e w' ⟨rfl,⟨nd,rfl⟩⟩;refine ⟨_,rfl,?_⟩))
    go_ret
    exact ⟨_,taah,tabj,taaa⟩
   ·replace c9:=zbk.mpr c9
    subst c9;have H1:((spec_giNext.f k1 t485 x8_1).bind fun bt492=>(if a2=true then (if 0≤bt492.1 then (if bt492.1<(x8_1.length:Int) then (if bt492.1<(t485.length:Int) then (if 0≤bt492.2.1 then (if bt492.2.1<(t485.length:Int) then (if bt492.2.1<(x8_1.length:Int) then ((spec_l1Least.f (wrap64 ((rd x8_1 bt492.1) - (rd t485 bt492.1))) (wrap64 ((rd t485 bt492.2.1) - (rd x8_1 bt492.2.1)))).bind fun t500=>(if x9_1.length<5864062014805 then ((spec_giDo.f x8_1 bt492.1 bt492.2.1 t500).bind fun t504=>((spec_liRank.f k1 t504).bind fun t507=>(spec_giPath.l0 k1 a2 t485 t507 (x9_1 ++ [(⟨bt492.1,bt492.2.1,t500⟩:S59)])))) else (none))) else (none)) else (none)) else (none)) else (none)) else (none)) else (none)) else (if x9_1.length<5864062014805 then ((spec_giDo.f x8_1 bt492.1 bt492.2.1 bt492.2.2).bind fun t513=>((spec_liRank.f k1 t513).bind fun t516=>(spec_giPath.l0 k1 a2 t485 t516 (x9_1 ++ [(⟨bt492.1,bt492.2.1,bt492.2.2⟩:S59)])))) else (none))))=some r:=by rw [if_neg (show ¬ (false=true) by decide)] at H;exact H
    clear H;have H:=H1;clear H1;replace H:=zay.mp H;obtain ⟨⟨t492,t493,t494⟩,A120,H⟩:=H;replace H:(if a2=true then (if 0≤t492 then (if t492<(x8_1.length:Int) then (if t492<(t485.length:Int) then (if 0≤t493 then (if t493<(t485.length:Int) then (if t493<(x8_1.length:Int) then ((spec_l1Least.f (wrap64 ((rd x8_1 t492) - (rd t485 t492))) (wrap64 ((rd t485 t493) - (rd x8_1 t493)))).bind fun t500=>(if x9_1.length<5864062014805 then ((spec_giDo.f x8_1 t492 t493 t500).bind fun t504=>((spec_liRank.f k1 t504).bind fun t507=>(spec_giPath.l0 k1 a2 t485 t507 (x9_1 ++ [(⟨t492,t493,t500⟩:S59)])))) else (none))) else (none)) else (none)) else (none)) else (none)) else (none)) else (none)) else (if x9_1.length<5864062014805 then ((spec_giDo.f x8_1 t492 t493 t494).bind fun t513=>((spec_liRank.f k1 t513).bind fun t516=>(spec_giPath.l0 k1 a2 t485 t516 (x9_1 ++ [(⟨t492,t493,t494⟩:S59)])))) else (none)))=some r:=H;have A12:=zad A120;clear A120;by_cases c13:a2=true
    ·subst c13
     have H1:(if 0≤t492 then (if t492<(x8_1.length:Int) then (if t492<(t485.length:Int) then (if 0≤t493 then (if t493<(t485.length:Int) then (if t493<(x8_1.length:Int) then ((spec_l1Least.f (wrap64 ((rd x8_1 t492) - (rd t485 t492))) (wrap64 ((rd t485 t493) - (rd x8_1 t493)))).bind fun t500=>(if x9_1.length<5864062014805 then ((spec_giDo.f x8_1 t492 t493 t500).bind fun t504=>((spec_liRank.f k1 t504).bind fun t507=>(spec_giPath.l0 k1 true t485 t507 (x9_1 ++ [(⟨t492,t493,t500⟩:S59)])))) else (none))) else (none)) else (none)) else (none)) else (none)) else (none)) else (none))=some r:=by rw [if_pos rfl] at H;exact H
     clear H;have H:=H1;clear H1;by_cases c14:0≤t492
     ·rw [if_pos c14] at H
      have c14b0:decide (0≤t492)=true:=zba c14;clear c14;by_cases c15:t492<(x8_1.length:Int)
      ·rw [if_pos c15] at H
       have c15b0:decide (t492<(x8_1.length:Int))=true:=zba c15;clear c15;by_cases c16:t492<(t485.length:Int)
       ·rw [if_pos c16] at H
        have c16b0:decide (t492<(t485.length:Int))=true:=zba c16;clear c16;by_cases c17:0≤t493
        ·rw [if_pos c17] at H
         have c17b0:decide (0≤t493)=true:=zba c17;clear c17;by_cases c18:t493<(t485.length:Int)
         ·rw [if_pos c18] at H
          have c18b0:decide (t493<(t485.length:Int))=true:=zba c18;clear c18;by_cases c19:t493<(x8_1.length:Int)
          ·rw [if_pos c19] at H
           have c19b0:decide (t493<(x8_1.length:Int))=true:=zba c19;clear c19;replace H:=zay.mp H;obtain ⟨t500,A200,H⟩:=H;replace H:(if x9_1.length<5864062014805 then ((spec_giDo.f x8_1 t492 t493 t500).bind fun t504=>((spec_liRank.f k1 t504).bind fun t507=>(spec_giPath.l0 k1 true t485 t507 (x9_1 ++ [(⟨t492,t493,t500⟩:S59)])))) else (none))=some r:=H;have A20:=zad A200;clear A200;by_cases c21:x9_1.length<5864062014805
           ·rw [if_pos c21] at H
            have LMc21:=zad c21;clear c21;obtain ⟨y501,hy501⟩:∃ y_:List (S59),y_=(x9_1 ++ [(⟨t492,t493,t500⟩:S59)]):=⟨_,rfl⟩;replace H:((spec_giDo.f x8_1 t492 t493 t500).bind fun t504=>((spec_liRank.f k1 t504).bind fun t507=>(spec_giPath.l0 k1 true t485 t507 y501)))=some r:=by first | (rw [hy501];with_reducible exact H) | (have H2_:=(zbf _ _).symm.trans H;rw [hy501];with_reducible exact H2_) | (have H2_:=(zbf _ _).symm.trans H;with_reducible exact H2_) | with_reducible exact H | (rw [hy501];exact H) | exact H
            have Ny501:=zad hy501;clear hy501;replace H:=zay.mp H;obtain ⟨t504,A220,H⟩:=H;replace H:((spec_liRank.f k1 t504).bind fun t507=>(spec_giPath.l0 k1 true t485 t507 y501))=some r:=H;have A22:=zad A220;clear A220;replace H:=zay.mp H;obtain ⟨t507,A230,H⟩:=H;replace H:(spec_giPath.l0 k1 true t485 t507 y501)=some r:=H;have A23:=zad A230;clear A230;have H':=zad H;clear H;obtain ⟨Ao24,co24,eo24⟩:=zbz HO_7.out;subst eo24;obtain ⟨Ao25,co25,eo25⟩:=zbz HO_8.out;subst eo25;try go_wp2_with (first | ((with_reducible refine zbj (f:=68) rfl ?_);refine zbr (some 17) rfl rfl Tryz.func68 (by kernel_rfl) rfl #[.slice Ao24 t485.length co24,.slice Ao25 x8_1.length co25] rfl (taac) ?_;(with_reducible refine (spec_l1Same.calls k1 _ _ t485 _ _ x8_1 false _ ?side1 ?side2 ?side3 ?side4 A8.out).mono ?_);(case side1=>exact taie);(case side2=>exact (zbh HO_7.out).2.1);(case side3=>exact tahz);(case side4=>exact taia);rintro e w' ⟨rfl,⟨nd,rfl⟩⟩;refine ⟨_,rfl,?_⟩;(try (rw [drewN_self wr];generalize hq_:World.drewN wr _=wr;have n0_:Aside0 (Kd.R (Kd.int .i64) 3 wr w.heap.size (fun k_=>some k_≠(.slice Ao25 x8_1.length co25:Value).ownBlock) (.slice Ao24 t485.length co24) t485):=⟨by rw [← hq_];exact (taaj)⟩;have n1_:Aside0 (Kd.R (Kd.int .i64) 3 wr w.heap.size (fun k_=>some k_≠(.slice Ao24 t485.length co24:Value).ownBlock) (.slice Ao25 x8_1.length co25) x8_1):=⟨by rw [← hq_];exact (taat)⟩;have n2_:Aside0 (Kd.R k59 59 wr w.heap.size (fun _=>True) u9 x9_1):=⟨by rw [← hq_];exact (tabj)⟩;have n3_:Aside0 (Below w.heap.size w wr):=⟨by rw [← hq_];exact (taaa)⟩;clear HO_7 HO_8 HO_9 HB hq_;have HO_7:=n0_;have HO_8:=n1_;have HO_9:=n2_;have HB:=n3_;clear n0_ n1_ n2_ n3_))) | ((with_reducible refine zbj (f:=75) rfl ?_);refine zbr (some 21) rfl rfl Tryz.func75 (by kernel_rfl) rfl #[.slice Ao24 t485.length co24,.slice Ao25 x8_1.length co25] rfl (taac) ?_;(with_reducible refine (spec_giNext.calls k1 _ _ t485 _ _ x8_1 t492 t493 t494 _ ?side1 ?side2 ?side3 ?side4 A12.out).mono ?_);(case side1=>exact taie);(case side2=>exact (zbh HO_7.out).2.1);(case side3=>exact tahz);(case side4=>exact taia);rintro e w26 ⟨rfl,hb⟩;refine ⟨_,rfl,?_⟩;have n0_:=zad (zbx (taaj) hb);have n1_:=zad (zbx (taat) hb);have n2_:=zad (zbx (tabj) hb);have n3_:=zad (zbi (taaa) hb);clear HO_7 HO_8 HO_9 HB;have HO_7:=n0_;have HO_8:=n1_;have HO_9:=n2_;have HB:=n3_;clear n0_ n1_ n2_ n3_;(try clear hb);(try clear hb2);(try clear hk);(try clear hi)) | ((with_reducible refine gate_dst (N:=10) rfl ?_);refine box_event ?hg (N:=10) ?hd (cs:=#[.int .i64 0,.int .i64 0,.int .i64 0]) (t:=59) ?hr ?_;(case hd=>rfl);(case hg=>rfl);(case hr=>first | (go_simp;done) | (go_simp;rfl));intro gb495 hg w27 hbox hb;have n0_:=zad (zbx (taaj) hb);have n1_:=zad (zbx (taat) hb);have n2_:=zad (zbx (Kd.R_elderB (tabj) gb495 (Nat.le_of_eq hg.symm)) hb);have n3_:=zad (zbi (taaa) hb);have n4_:=zad (hbox);have n5_:=zad ((tahi:w.heap.size≤gb495));have n6_:=zad ((tahi:w.heap.size≤gb495));clear HO_7 HO_8 HO_9 HB;have HO_7:=n0_;have HO_8:=n1_;have HO_9:=n2_;have HB:=n3_;have BK495:=n4_;have GW495:=n5_;have GE495:=n6_;clear n0_ n1_ n2_ n3_ n4_ n5_ n6_ hb hbox hg;have hcz28_0:w27.cell? ⟨gb495,0,none⟩=some (.int .i64 0):=(zbm BK495.out 0).trans rfl;have hcz28_1:w27.cell? ⟨gb495,1,none⟩=some (.int .i64 0):=(zbm BK495.out 1).trans rfl;have hcz28_2:w27.cell? ⟨gb495,2,none⟩=some (.int .i64 0):=(zbm BK495.out 2).trans rfl;have hfz28_0:=zbn BK495.out 0;have hfz28_1:=zbn BK495.out 1;have hfz28_2:=zbn BK495.out 2))
            have n0_:Aside0 (Kd.R (Kd.int .i64) 3 (((w27.setCell ⟨gb495,0,none⟩ (.int .i64 t492)).setCell ⟨gb495,1,none⟩ (.int .i64 t493)).setCell ⟨gb495,2,none⟩ (.int .i64 t494)) w.heap.size (fun k_=>some k_≠(.slice Ao25 x8_1.length co25:Value).ownBlock) (.slice Ao24 t485.length co24) t485):=⟨by (with_reducible repeat (first | apply zai | apply zaj | apply zak));exact zbu (Kd.R_far (p:=⟨gb495,2,none⟩) (Kd.R_far (p:=⟨gb495,1,none⟩) (Kd.R_far (p:=⟨gb495,0,none⟩) (Kd.R_types HO_7.out BK495.out (by decide)) (fun _ hk=>hk.2) (.int .i64 t492)) (fun _ hk=>hk.2) (.int .i64 t493)) (fun _ hk=>hk.2) (.int .i64 t494)) (fun _ hk=>hk.1)⟩;have n1_:Aside0 (Kd.R (Kd.int .i64) 3 (((w27.setCell ⟨gb495,0,none⟩ (.int .i64 t492)).setCell ⟨gb495,1,none⟩ (.int .i64 t493)).setCell ⟨gb495,2,none⟩ (.int .i64 t494)) w.heap.size (fun k_=>some k_≠(.slice Ao24 t485.length co24:Value).ownBlock) (.slice Ao25 x8_1.length co25) x8_1):=⟨by (with_reducible repeat (first | apply zai | apply zaj | apply zak));exact zbu (Kd.R_far (p:=⟨gb495,2,none⟩) (Kd.R_far (p:=⟨gb495,1,none⟩) (Kd.R_far (p:=⟨gb495,0,none⟩) (Kd.R_types HO_8.out BK495.out (by decide)) (fun _ hk=>hk.2) (.int .i64 t492)) (fun _ hk=>hk.2) (.int .i64 t493)) (fun _ hk=>hk.2) (.int .i64 t494)) (fun _ hk=>hk.1)⟩;have n2_:Aside0 (Kd.R k59 59 (((w27.setCell ⟨gb495,0,none⟩ (.int .i64 t492)).setCell ⟨gb495,1,none⟩ (.int .i64 t493)).setCell ⟨gb495,2,none⟩ (.int .i64 t494)) w.heap.size (fun k_=>k_≠gb495) u9 x9_1):=⟨tafj⟩;have n3_:Aside0 ((((w27.setCell ⟨gb495,0,none⟩ (.int .i64 t492)).setCell ⟨gb495,1,none⟩ (.int .i64 t493)).setCell ⟨gb495,2,none⟩ (.int .i64 t494)).heap[gb495]? = some (.cells #[.int .i64 t492,.int .i64 t493,.int .i64 t494] 59 (0,0))):=⟨tadt⟩;have n4_:Aside0 (Below w.heap.size w (((w27.setCell ⟨gb495,0,none⟩ (.int .i64 t492)).setCell ⟨gb495,1,none⟩ (.int .i64 t493)).setCell ⟨gb495,2,none⟩ (.int .i64 t494))):=⟨taau⟩;(try clear HO_7);(try clear HO_8);(try clear HO_9);(try clear BK495);(try clear HB);generalize (((w27.setCell ⟨gb495,0,none⟩ (.int .i64 t492)).setCell ⟨gb495,1,none⟩ (.int .i64 t493)).setCell ⟨gb495,2,none⟩ (.int .i64 t494))=w29 at n0_ n1_ n2_ n3_ n4_ ⊢
            have HO_7:=n0_;have HO_8:=n1_;have HO_9:=n2_;have BK495:=n3_;have HB:=n4_;clear n0_ n1_ n2_ n3_ n4_;have n0_:=zad (zak HO_7.out);have n1_:=zad (zak HO_8.out);have n2_:=zad (zak HO_9.out);have n3_:=zad (blk_drew BK495.out);have n4_:=zad (zaf HB.out);clear HO_7 HO_8 HO_9 BK495 HB;have HO_7:=n0_;have HO_8:=n1_;have HO_9:=n2_;have BK495:=n3_;have HB:=n4_;clear n0_ n1_ n2_ n3_ n4_;have p496:0≤(t492:Int):=zas (taab);have q496:t492<(x8_1.length:Int):=zas (taab);obtain ⟨ad496,e496,hx496_0⟩:=zca (zbh HO_8.out).2.2 t492 p496 q496;cases e496;replace p496:=eq_true p496;replace q496:=eq_true q496;have p497:0≤(t492:Int):=zas (taab);have q497:t492<(t485.length:Int):=zas (taab);obtain ⟨ad497,e497,hx497_0⟩:=zca (zbh HO_7.out).2.2 t492 p497 q497;cases e497;replace p497:=eq_true p497;replace q497:=eq_true q497;have p498:0≤(t493:Int):=zas (taab);have q498:t493<(t485.length:Int):=zas (taab);obtain ⟨ad498,e498,hx498_0⟩:=zca (zbh HO_7.out).2.2 t493 p498 q498;obtain rfl:ad497=ad498:=(by injection e498);replace p498:=eq_true p498;replace q498:=eq_true q498;have p499:0≤(t493:Int):=zas (taab);have q499:t493<(x8_1.length:Int):=zas (taab);obtain ⟨ad499,e499,hx499_0⟩:=zca (zbh HO_8.out).2.2 t493 p499 q499;obtain rfl:ad496=ad499:=(by injection e499);replace p499:=eq_true p499;replace q499:=eq_true q499;refine start_ (n:=25) (S:=fun w'=>w'.cell? ⟨gb495,0,none⟩=some (.int .i64 t492)∧w'.cell? ⟨gb495,1,none⟩=some (.int .i64 t493)∧w'.cell? ⟨gb495,2,none⟩=some (.int .i64 t494)∧w'.cell? (ad496.add (t492).toNat)=some (.int .i64 (rd x8_1 t492))∧w'.cell? (ad497.add (t492).toNat)=some (.int .i64 (rd t485 t492))∧w'.cell? (ad497.add (t493).toNat)=some (.int .i64 (rd t485 t493))∧w'.cell? (ad496.add (t493).toNat)=some (.int .i64 (rd x8_1 t493))) (ds:=[24]) #[false,false,false,false,false,false,false,false,false,false,false,false,false,false,false,false,false,false,false,false,false,false,false,false,false] (by kernel_rfl) rfl rfl ⟨(zbm BK495.out 0).trans rfl,(zbm BK495.out 1).trans rfl,(zbm BK495.out 2).trans rfl,hx496_0,hx497_0,hx498_0,hx499_0⟩ (fun hHeld => ?_);refine with_tabW spec_giPath.tab6 spec_giPath.bits6 (fun HT_ HW_ => ?_)
            generalize w29.drew=w30 at HO_7 HO_8 HO_9 BK495 HB hx496_0 hx497_0 hx498_0 hx499_0 hHeld ⊢
            refine puA 0 (some 23) qaar_ ?_;refine puA 1 (some 24) qaas_ ?_;refine puA 5 (some 28) qaat_ ?_;refine puA 6 (some 29) qaau_ ?_;refine puA 11 (some 34) qaav_ ?_;refine puA 12 (some 35) qaaw_ ?_;refine puA 16 (some 39) qaax_ ?_;refine puA 17 (some 40) qaay_ ?_;refine tkA 2 (some 25) qabg_ rfl rfl (by rintro w' ⟨s0,s1,s2,s3,s4,s5,s6⟩;go_simp;with_reducible rfl) hHeld ?_;refine puA 3 (some 26) qaaz_ ?_;refine tkA 4 (some 27) qabh_ rfl rfl (by rintro w' ⟨s0,s1,s2,s3,s4,s5,s6⟩;go_simp;with_reducible rfl) hHeld ?_;refine tkA 7 (some 30) qabi_ rfl rfl (by rintro w' ⟨s0,s1,s2,s3,s4,s5,s6⟩;go_simp;with_reducible rfl) hHeld ?_;refine puA 8 (some 31) qaba_ ?_;refine tkA 9 (some 32) qabj_ rfl rfl (by rintro w' ⟨s0,s1,s2,s3,s4,s5,s6⟩;go_simp;with_reducible rfl) hHeld ?_;refine puA 10 (some 33) qabb_ ?_;refine tkA 13 (some 36) qabk_ rfl rfl (by rintro w' ⟨s0,s1,s2,s3,s4,s5,s6⟩;go_simp;with_reducible rfl) hHeld ?_;refine puA 14 (some 37) qabc_ ?_;refine tkA 15 (some 38) qabl_ rfl rfl (by rintro w' ⟨s0,s1,s2,s3,s4,s5,s6⟩;go_simp;with_reducible rfl) hHeld ?_;refine tkA 18 (some 41) qabm_ rfl rfl (by rintro w' ⟨s0,s1,s2,s3,s4,s5,s6⟩;go_simp;with_reducible rfl) hHeld ?_;refine puA 19 (some 42) qabd_ ?_;refine tkA 20 (some 43) qabn_ rfl rfl (by rintro w' ⟨s0,s1,s2,s3,s4,s5,s6⟩;go_simp;with_reducible rfl) hHeld ?_;refine puA 21 (some 44) qabe_ ?_;refine one_ (i:=22) (N:=some 45) #[true,true,true,true,true,true,true,true,true,true,true,true,true,true,true,true,true,true,true,true,true,true,true,false,false] rfl rfl (one_of HT_.out (by kernel_rfl)) (by decide) (fun K hK => ?_)
            refine goes_ Tryz.func76 (by kernel_rfl) rfl #[.int .i64 (wrap64 ((rd x8_1 t492) - (rd t485 t492))),.int .i64 (wrap64 ((rd t485 t493) - (rd x8_1 t493)))] (by rfl) rfl rfl (taac) ?_
            with_reducible refine (spec_l1Least.calls (wrap64 ((rd x8_1 t492) - (rd t485 t492))) (wrap64 ((rd t485 t493) - (rd x8_1 t493))) t500 _ A20.out).mono ?_
            rintro e w' ⟨rfl,⟨nd,rfl⟩⟩
            refine ⟨_,rfl,?_⟩
            refine hK.out _ _ ⟨(zbm BK495.out 0).trans rfl,(zbm BK495.out 1).trans rfl,(zbm BK495.out 2).trans rfl,hHeld.2.2.2.1,hHeld.2.2.2.2.1,hHeld.2.2.2.2.2.1,hHeld.2.2.2.2.2.2⟩ (fun hHeld => ?_)
            clear hK K;refine norm_ (a' := ?_) ?_ ?_
            rotate_left
            ·show Act.put _ (some 45) _=_
             simp only [Act.put,zaa,zab,zac,i64_w,i32_w];rfl
            refine puA 23 (some 46) qabf_ ?_;refine last_ (i:=24) (N:=none) #[true,true,true,true,true,true,true,true,true,true,true,true,true,true,true,true,true,true,true,true,true,true,true,true,true] rfl rfl (one_of HT_.out (by kernel_rfl)) (by decide) (fun K hK => ?_)
            have hs31:w30.cell? ⟨gb495,2,none⟩=some (.int .i64 t494):=(zbm BK495.out 2).trans rfl;have hfs31:=zbn BK495.out 2;refine skip_ (w1 := ?_) (by rfl) rfl ?_ ?_
            rotate_left
            ·go_simp
             rfl
            refine hK.out _ _ ?_
            clear hK K;refine done_ (done_of HT_.out (by kernel_rfl)) ?_
            have hcz32_0:w30.cell? ⟨gb495,0,none⟩=some (.int .i64 t492):=(zbm BK495.out 0).trans rfl;have hcz32_1:w30.cell? ⟨gb495,1,none⟩=some (.int .i64 t493):=(zbm BK495.out 1).trans rfl;have hcz32_2:w30.cell? ⟨gb495,2,none⟩=some (.int .i64 t494):=(zbm BK495.out 2).trans rfl;have hfz32_0:=zbn BK495.out 0;have hfz32_1:=zbn BK495.out 1;have hfz32_2:=zbn BK495.out 2;try go_wp2_with (first | ((with_reducible refine gate_builtin (b := .append) (xs:=#[.tmp 47,.tmp 49]) rfl ?_);at_builtin;refine Kd.R_append k59 (w0:=w) w.heap.size rfl (.tmp 47) (.tmp 49) 30 59 (.agg #[(.int .i64 0),(.int .i64 0),(.int .i64 0)]) 24 rfl Tryz.underlying30 info59 rfl (by decide) (by omega) u9 x9_1 (⟨t492,t493,t500⟩:S59) [.int .i64 t492,.int .i64 t493,.int .i64 t500] (fun k_=>k_≠gb495) (fun _=>False) rfl (by first | (go_simp;done) | (go_simp;rfl)) ?aP (fun _ hk=>hk.elim) ?aF ?aO ?aB ?aS ?aL ?_;(case aP=>exact k59_mkM _ _ _ (⟨t492,t493,t500⟩:S59));(case aB=>exact (taau));(case aF=>exact (fun k_ hk=>Kd.freshB (g:=gb495) (o := .cells #[.int .i64 t492,.int .i64 t493,.int .i64 t500] 59 (0,0)) (tafk) k_ hk));(case aO=>exact (by (with_reducible repeat (first | apply zai | apply zaj | apply zak));exact zbu (Kd.R_far (p:=⟨gb495,2,none⟩) (zbu HO_9.out (fun k_ hk=>(⟨hk,hk⟩:_∧k_≠gb495))) (fun _ hk=>hk.2) (.int .i64 t500)) (fun _ hk=>hk.1)));(case aS=>exact (zbo (taau)));(case aL=>have:=LMc21.out;omega);intro v502 w33 ho hb hg hat;rw [← Ny501.out] at ho;have n0_:=zad (Kd.R_over' (by (with_reducible repeat (first | apply zai | apply zaj | apply zak));exact (zbu (Kd.R_far (p:=⟨gb495,2,none⟩) (Kd.R_types HO_7.out BK495.out (by decide)) (fun _ hk=>hk.2) (.int .i64 t500)) (fun _ h_=>h_.1))) (Kd.R_typed (tafl)) (by decide) hg);have n1_:=zad (Kd.R_over' (by (with_reducible repeat (first | apply zai | apply zaj | apply zak));exact (zbu (Kd.R_far (p:=⟨gb495,2,none⟩) (Kd.R_types HO_8.out BK495.out (by decide)) (fun _ hk=>hk.2) (.int .i64 t500)) (fun _ h_=>h_.1))) (Kd.R_typed (tafl)) (by decide) hg);have n2_:=zad (blk_grown (g:=gb495) (o := .cells #[.int .i64 t492,.int .i64 t493,.int .i64 t500] 59 (0,0)) (tafk) hg (Kd.R_away HO_9.out (fun _ hk=>hk)));have n3_:=zad (hb);have n4_:=zad (ho);clear HO_7 HO_8 BK495 HB HO_9;have HO_7:=n0_;have HO_8:=n1_;have BK495:=n2_;have HB:=n3_;have HO503:=n4_;clear n0_ n1_ n2_ n3_ n4_ ho hb hg hat;have hcz34_0:w33.cell? ⟨gb495,0,none⟩=some (.int .i64 t492):=(zbm BK495.out 0).trans rfl;have hcz34_1:w33.cell? ⟨gb495,1,none⟩=some (.int .i64 t493):=(zbm BK495.out 1).trans rfl;have hcz34_2:w33.cell? ⟨gb495,2,none⟩=some (.int .i64 t500):=(zbm BK495.out 2).trans rfl;have hfz34_0:=zbn BK495.out 0;have hfz34_1:=zbn BK495.out 1;have hfz34_2:=zbn BK495.out 2) | ((with_reducible refine zbj (f:=49) rfl ?_);refine zbr (some 53) rfl rfl Tryz.func49 (by kernel_rfl) rfl #[.slice (some ad496) x8_1.length co25,.agg #[.int .i64 t492,.int .i64 t493,.int .i64 t500]] rfl (taac) ?_;(with_reducible refine (spec_giDo.calls _ _ x8_1 t492 t493 t500 t504 _ ?side1 ?side2 A22.out).mono ?_);(case side1=>exact tahz);(case side2=>exact taia);rintro e w35 ⟨v505,rfl,ho0,hb⟩;refine ⟨_,rfl,?_⟩;have n0_:=zad (zcb (taaj) (zcd ho0) hb);have n1_:=zad (zcb (taat) (zcd ho0) hb);have n2_:=zad (zbx (tafm) hb);have n3_:=zad (zby (zcc (zcc ho0 (zce (taaj))) (zce (taat))) (zbo (taau)));have n4_:=zad (blk_below (g:=gb495) (o := .cells #[.int .i64 t492,.int .i64 t493,.int .i64 t500] 59 (0,0)) (tacv) hb);have n5_:=zad (zbi (taau) hb);clear HO_7 HO_8 HO503 BK495 HB;have HO_7:=n0_;have HO_8:=n1_;have HO503:=n2_;have HO506:=n3_;have BK495:=n4_;have HB:=n5_;clear n0_ n1_ n2_ n3_ n4_ n5_;(try clear hb);(try clear hb2);(try clear hk);(try clear hi);(try clear ho0);obtain ⟨Ao36,co36,eo36⟩:=zbz HO506.out;subst eo36) | ((with_reducible refine zbj (f:=46) rfl ?_);refine zbr (some 54) rfl rfl Tryz.func46 (by kernel_rfl) rfl #[.slice Ao36 t504.length co36] rfl (taac) ?_;(with_reducible refine (spec_liRank.calls k1 _ _ t504 t507 _ ?side1 ?side2 A23.out).mono ?_);(case side1=>repeat (first | exact (zbh HO506.out).2.2 | (with_reducible refine zal ?_ _) | (with_reducible refine zam ?_ _) | (with_reducible refine zan ?_)));(case side2=>exact (zbh HO506.out).2.1);rintro e w37 ⟨v508,rfl,ho0,hb⟩;refine ⟨_,rfl,?_⟩;have n0_:=zad (zcb (taaj) (zcd ho0) hb);have n1_:=zad (zcb (taat) (zcd ho0) hb);have n2_:=zad (zbx (tafm) hb);have n3_:=zad (zcb (tafn) (zcd ho0) hb);have n4_:=zad (zby (zcc (zcc (zcc ho0 (zce (taaj))) (zce (taat))) (zce (tafn))) (zbo (taau)));have n5_:=zad (blk_below (g:=gb495) (o := .cells #[.int .i64 t492,.int .i64 t493,.int .i64 t500] 59 (0,0)) (tacv) hb);have n6_:=zad (zbi (taau) hb);clear HO_7 HO_8 HO503 HO506 BK495 HB;have HO_7:=n0_;have HO_8:=n1_;have HO503:=n2_;have HO506:=n3_;have HO509:=n4_;have BK495:=n5_;have HB:=n6_;clear n0_ n1_ n2_ n3_ n4_ n5_ n6_;(try clear hb);(try clear hb2);(try clear hk);(try clear hi);(try clear ho0)))
            go_roundg k1
            case measure=>have:=HK1.out;omega
            case rel=>exact ⟨(t507),(y501),H',⟨taap⟩,⟨tafo⟩,⟨by (with_reducible repeat (first | apply zai | apply zaj | apply zak));exact zbu HO509.out (fun _ hk=>hk.1.1.2)⟩,⟨by (with_reducible repeat (first | apply zai | apply zaj | apply zak));exact zbu HO503.out (fun _ hk=>trivial)⟩,⟨taau⟩⟩
           ·rw [if_neg c21] at H
            exact absurd H (taad)
          ·rw [if_neg c19] at H
           exact absurd H (taad)
         ·rw [if_neg c18] at H
          exact absurd H (taad)
        ·rw [if_neg c17] at H
         exact absurd H (taad)
       ·rw [if_neg c16] at H
        exact absurd H (taad)
      ·rw [if_neg c15] at H
       exact absurd H (taad)
     ·rw [if_neg c14] at H
      exact absurd H (taad)
    ·replace c13:=zbk.mpr c13
     subst c13;have H1:(if x9_1.length<5864062014805 then ((spec_giDo.f x8_1 t492 t493 t494).bind fun t513=>((spec_liRank.f k1 t513).bind fun t516=>(spec_giPath.l0 k1 false t485 t516 (x9_1 ++ [(⟨t492,t493,t494⟩:S59)])))) else (none))=some r:=by rw [if_neg (show ¬ (false=true) by decide)] at H;exact H
     clear H;have H:=H1;clear H1;by_cases c38:x9_1.length<5864062014805
     ·rw [if_pos c38] at H
      have LMc38:=zad c38;clear c38;obtain ⟨y510,hy510⟩:∃ y_:List (S59),y_=(x9_1 ++ [(⟨t492,t493,t494⟩:S59)]):=⟨_,rfl⟩;replace H:((spec_giDo.f x8_1 t492 t493 t494).bind fun t513=>((spec_liRank.f k1 t513).bind fun t516=>(spec_giPath.l0 k1 false t485 t516 y510)))=some r:=by first | (rw [hy510];with_reducible exact H) | (have H2_:=(zbf _ _).symm.trans H;rw [hy510];with_reducible exact H2_) | (have H2_:=(zbf _ _).symm.trans H;with_reducible exact H2_) | with_reducible exact H | (rw [hy510];exact H) | exact H
      have Ny510:=zad hy510;clear hy510;replace H:=zay.mp H;obtain ⟨t513,A390,H⟩:=H;replace H:((spec_liRank.f k1 t513).bind fun t516=>(spec_giPath.l0 k1 false t485 t516 y510))=some r:=H;have A39:=zad A390;clear A390;replace H:=zay.mp H;obtain ⟨t516,A400,H⟩:=H;replace H:(spec_giPath.l0 k1 false t485 t516 y510)=some r:=H;have A40:=zad A400;clear A400;have H':=zad H;clear H;obtain ⟨Ao41,co41,eo41⟩:=zbz HO_7.out;subst eo41;obtain ⟨Ao42,co42,eo42⟩:=zbz HO_8.out;subst eo42;go_wp2_with (first | ((with_reducible refine zbj (f:=68) rfl ?_);refine zbr (some 17) rfl rfl Tryz.func68 (by kernel_rfl) rfl #[.slice Ao41 t485.length co41,.slice Ao42 x8_1.length co42] rfl (taac) ?_;(with_reducible refine (spec_l1Same.calls k1 _ _ t485 _ _ x8_1 false _ ?side1 ?side2 ?side3 ?side4 A8.out).mono ?_);(case side1=>exact taie);(case side2=>exact (zbh HO_7.out).2.1);(case side3=>exact tahz);(case side4=>exact taia);rintro e w' ⟨rfl,⟨nd,rfl⟩⟩;refine ⟨_,rfl,?_⟩;(try (rw [drewN_self wr];generalize hq_:World.drewN wr _=wr;have n0_:Aside0 (Kd.R (Kd.int .i64) 3 wr w.heap.size (fun k_=>some k_≠(.slice Ao42 x8_1.length co42:Value).ownBlock) (.slice Ao41 t485.length co41) t485):=⟨by rw [← hq_];exact (taaj)⟩;have n1_:Aside0 (Kd.R (Kd.int .i64) 3 wr w.heap.size (fun k_=>some k_≠(.slice Ao41 t485.length co41:Value).ownBlock) (.slice Ao42 x8_1.length co42) x8_1):=⟨by rw [← hq_];exact (taat)⟩;have n2_:Aside0 (Kd.R k59 59 wr w.heap.size (fun _=>True) u9 x9_1):=⟨by rw [← hq_];exact (tabj)⟩;have n3_:Aside0 (Below w.heap.size w wr):=⟨by rw [← hq_];exact (taaa)⟩;clear HO_7 HO_8 HO_9 HB hq_;have HO_7:=n0_;have HO_8:=n1_;have HO_9:=n2_;have HB:=n3_;clear n0_ n1_ n2_ n3_))) | ((with_reducible refine zbj (f:=75) rfl ?_);refine zbr (some 21) rfl rfl Tryz.func75 (by kernel_rfl) rfl #[.slice Ao41 t485.length co41,.slice Ao42 x8_1.length co42] rfl (taac) ?_;(with_reducible refine (spec_giNext.calls k1 _ _ t485 _ _ x8_1 t492 t493 t494 _ ?side1 ?side2 ?side3 ?side4 A12.out).mono ?_);(case side1=>exact taie);(case side2=>exact (zbh HO_7.out).2.1);(case side3=>exact tahz);(case side4=>exact taia);rintro e w43 ⟨rfl,hb⟩;refine ⟨_,rfl,?_⟩;have n0_:=zad (zbx (taaj) hb);have n1_:=zad (zbx (taat) hb);have n2_:=zad (zbx (tabj) hb);have n3_:=zad (zbi (taaa) hb);clear HO_7 HO_8 HO_9 HB;have HO_7:=n0_;have HO_8:=n1_;have HO_9:=n2_;have HB:=n3_;clear n0_ n1_ n2_ n3_;(try clear hb);(try clear hb2);(try clear hk);(try clear hi)) | ((with_reducible refine gate_dst (N:=10) rfl ?_);refine box_event ?hg (N:=10) ?hd (cs:=#[.int .i64 0,.int .i64 0,.int .i64 0]) (t:=59) ?hr ?_;(case hd=>rfl);(case hg=>rfl);(case hr=>first | (go_simp;done) | (go_simp;rfl));intro gb495 hg w44 hbox hb;have n0_:=zad (zbx (taaj) hb);have n1_:=zad (zbx (taat) hb);have n2_:=zad (zbx (Kd.R_elderB (tabj) gb495 (Nat.le_of_eq hg.symm)) hb);have n3_:=zad (zbi (taaa) hb);have n4_:=zad (hbox);have n5_:=zad ((tahi:w.heap.size≤gb495));have n6_:=zad ((tahi:w.heap.size≤gb495));clear HO_7 HO_8 HO_9 HB;have HO_7:=n0_;have HO_8:=n1_;have HO_9:=n2_;have HB:=n3_;have BK495:=n4_;have GW495:=n5_;have GE495:=n6_;clear n0_ n1_ n2_ n3_ n4_ n5_ n6_ hb hbox hg;have hcz45_0:w44.cell? ⟨gb495,0,none⟩=some (.int .i64 0):=(zbm BK495.out 0).trans rfl;have hcz45_1:w44.cell? ⟨gb495,1,none⟩=some (.int .i64 0):=(zbm BK495.out 1).trans rfl;have hcz45_2:w44.cell? ⟨gb495,2,none⟩=some (.int .i64 0):=(zbm BK495.out 2).trans rfl;have hfz45_0:=zbn BK495.out 0;have hfz45_1:=zbn BK495.out 1;have hfz45_2:=zbn BK495.out 2) | ((with_reducible refine gate_builtin (b := .append) (xs:=#[.tmp 47,.tmp 49]) rfl ?_);at_builtin;refine Kd.R_append k59 (w0:=w) w.heap.size rfl (.tmp 47) (.tmp 49) 30 59 (.agg #[(.int .i64 0),(.int .i64 0),(.int .i64 0)]) 24 rfl Tryz.underlying30 info59 rfl (by decide) (by omega) u9 x9_1 (⟨t492,t493,t494⟩:S59) [.int .i64 t492,.int .i64 t493,.int .i64 t494] (fun k_=>k_≠gb495) (fun _=>False) rfl (by first | (go_simp;done) | (go_simp;rfl)) ?aP (fun _ hk=>hk.elim) ?aF ?aO ?aB ?aS ?aL ?_;(case aP=>exact k59_mkM _ _ _ (⟨t492,t493,t494⟩:S59));(case aB=>exact (taau));(case aF=>exact (fun k_ hk=>Kd.freshB (g:=gb495) (o := .cells #[.int .i64 t492,.int .i64 t493,.int .i64 t494] 59 (0,0)) (tadt) k_ hk));(case aO=>exact (tafj));(case aS=>exact (zbo (taau)));(case aL=>have:=LMc38.out;omega);intro v511 w46 ho hb hg hat;rw [← Ny510.out] at ho;have n0_:=zad (Kd.R_over' (by (with_reducible repeat (first | apply zai | apply zaj | apply zak));exact (zbu (Kd.R_far (p:=⟨gb495,2,none⟩) (Kd.R_far (p:=⟨gb495,1,none⟩) (Kd.R_far (p:=⟨gb495,0,none⟩) (Kd.R_types HO_7.out BK495.out (by decide)) (fun _ hk=>hk.2) (.int .i64 t492)) (fun _ hk=>hk.2) (.int .i64 t493)) (fun _ hk=>hk.2) (.int .i64 t494)) (fun _ h_=>h_.1))) (Kd.R_typed (tafp)) (by decide) hg);have n1_:=zad (Kd.R_over' (by (with_reducible repeat (first | apply zai | apply zaj | apply zak));exact (zbu (Kd.R_far (p:=⟨gb495,2,none⟩) (Kd.R_far (p:=⟨gb495,1,none⟩) (Kd.R_far (p:=⟨gb495,0,none⟩) (Kd.R_types HO_8.out BK495.out (by decide)) (fun _ hk=>hk.2) (.int .i64 t492)) (fun _ hk=>hk.2) (.int .i64 t493)) (fun _ hk=>hk.2) (.int .i64 t494)) (fun _ h_=>h_.1))) (Kd.R_typed (tafp)) (by decide) hg);have n2_:=zad (blk_grown (g:=gb495) (o := .cells #[.int .i64 t492,.int .i64 t493,.int .i64 t494] 59 (0,0)) (tadt) hg (Kd.R_away HO_9.out (fun _ hk=>hk.2)));have n3_:=zad (hb);have n4_:=zad (ho);clear HO_7 HO_8 BK495 HB HO_9;have HO_7:=n0_;have HO_8:=n1_;have BK495:=n2_;have HB:=n3_;have HO512:=n4_;clear n0_ n1_ n2_ n3_ n4_ ho hb hg hat;have hcz47_0:w46.cell? ⟨gb495,0,none⟩=some (.int .i64 t492):=(zbm BK495.out 0).trans rfl;have hcz47_1:w46.cell? ⟨gb495,1,none⟩=some (.int .i64 t493):=(zbm BK495.out 1).trans rfl;have hcz47_2:w46.cell? ⟨gb495,2,none⟩=some (.int .i64 t494):=(zbm BK495.out 2).trans rfl;have hfz47_0:=zbn BK495.out 0;have hfz47_1:=zbn BK495.out 1;have hfz47_2:=zbn BK495.out 2) | ((with_reducible refine zbj (f:=49) rfl ?_);refine zbr (some 53) rfl rfl Tryz.func49 (by kernel_rfl) rfl #[.slice Ao42 x8_1.length co42,.agg #[.int .i64 t492,.int .i64 t493,.int .i64 t494]] rfl (taac) ?_;(with_reducible refine (spec_giDo.calls _ _ x8_1 t492 t493 t494 t513 _ ?side1 ?side2 A39.out).mono ?_);(case side1=>exact tahz);(case side2=>exact taia);rintro e w48 ⟨v514,rfl,ho0,hb⟩;refine ⟨_,rfl,?_⟩;have n0_:=zad (zcb (taaj) (zcd ho0) hb);have n1_:=zad (zcb (taat) (zcd ho0) hb);have n2_:=zad (zbx (tafq) hb);have n3_:=zad (zby (zcc (zcc ho0 (zce (taaj))) (zce (taat))) (zbo (taau)));have n4_:=zad (blk_below (g:=gb495) (o := .cells #[.int .i64 t492,.int .i64 t493,.int .i64 t494] 59 (0,0)) (tacv) hb);have n5_:=zad (zbi (taau) hb);clear HO_7 HO_8 HO512 BK495 HB;have HO_7:=n0_;have HO_8:=n1_;have HO512:=n2_;have HO515:=n3_;have BK495:=n4_;have HB:=n5_;clear n0_ n1_ n2_ n3_ n4_ n5_;(try clear hb);(try clear hb2);(try clear hk);(try clear hi);(try clear ho0);obtain ⟨Ao49,co49,eo49⟩:=zbz HO515.out;subst eo49) | ((with_reducible refine zbj (f:=46) rfl ?_);refine zbr (some 54) rfl rfl Tryz.func46 (by kernel_rfl) rfl #[.slice Ao49 t513.length co49] rfl (taac) ?_;(with_reducible refine (spec_liRank.calls k1 _ _ t513 t516 _ ?side1 ?side2 A40.out).mono ?_);(case side1=>repeat (first | exact (zbh HO515.out).2.2 | (with_reducible refine zal ?_ _) | (with_reducible refine zam ?_ _) | (with_reducible refine zan ?_)));(case side2=>exact (zbh HO515.out).2.1);rintro e w50 ⟨v517,rfl,ho0,hb⟩;refine ⟨_,rfl,?_⟩;have n0_:=zad (zcb (taaj) (zcd ho0) hb);have n1_:=zad (zcb (taat) (zcd ho0) hb);have n2_:=zad (zbx (tafq) hb);have n3_:=zad (zcb (tafr) (zcd ho0) hb);have n4_:=zad (zby (zcc (zcc (zcc ho0 (zce (taaj))) (zce (taat))) (zce (tafr))) (zbo (taau)));have n5_:=zad (blk_below (g:=gb495) (o := .cells #[.int .i64 t492,.int .i64 t493,.int .i64 t494] 59 (0,0)) (tacv) hb);have n6_:=zad (zbi (taau) hb);clear HO_7 HO_8 HO512 HO515 BK495 HB;have HO_7:=n0_;have HO_8:=n1_;have HO512:=n2_;have HO515:=n3_;have HO518:=n4_;have BK495:=n5_;have HB:=n6_;clear n0_ n1_ n2_ n3_ n4_ n5_ n6_;(try clear hb);(try clear hb2);(try clear hk);(try clear hi);(try clear ho0)))
      go_roundg k1
      case measure=>have:=HK1.out;omega
      case rel=>exact ⟨(t516),(y510),H',⟨taap⟩,⟨tafo⟩,⟨by (with_reducible repeat (first | apply zai | apply zaj | apply zak));exact zbu HO518.out (fun _ hk=>hk.1.1.2)⟩,⟨by (with_reducible repeat (first | apply zai | apply zaj | apply zak));exact zbu HO512.out (fun _ hk=>trivial)⟩,⟨taau⟩⟩
     ·rw [if_neg c38] at H
      exact absurd H (taad)
def spec_LevelOff.f (k:Nat) (l0:List Int):Option ((List (S59)) × Bool):=(spec_liGood.f k l0).bind fun t519=>(if t519=true then ((spec_liSum.f k l0).bind fun t520=>((spec_MostEven.f k (l0.length:Int) t520).bind fun bt521=>((spec_giPath.f k bt521.1 l0 false).bind fun t525=>(some (t525,true))))) else (some (([]:List (S59)),false)))
theorem spec_LevelOff.calls (k:Nat) (A0:Option Addr) (c0:Nat) (l0:List Int) (r1:List (S59)) (r2:Bool) (w:World) (hr0:Kd.C (Kd.int .i64) w A0 l0.length l0) (hc0:l0.length≤c0) (h:spec_LevelOff.f k l0=some (r1,r2)) :
 Calls Tryz.prog 10 #[.slice A0 l0.length c0] w fun e w'=>∃ v0_:Value,e = .returned (.tuple #[v0_,.bool r2])∧Kd.R k59 59 w' w.heap.size (fun _=>True) v0_ r1∧Below w.heap.size w w':=by
 have HR0:=zad hr0;have HC0:=zad hc0;clear hr0 hc0;have HB:=zad (Below.refl w.heap.size w);have H:((spec_liGood.f k l0).bind fun t519=>(if t519=true then ((spec_liSum.f k l0).bind fun t520=>((spec_MostEven.f k (l0.length:Int) t520).bind fun bt521=>((spec_giPath.f k bt521.1 l0 false).bind fun t525=>(some (t525,true))))) else (some (([]:List (S59)),false))))=some (r1,r2):=h;clear h;replace H:=zay.mp H;obtain ⟨t519,A20,H⟩:=H;replace H:(if t519=true then ((spec_liSum.f k l0).bind fun t520=>((spec_MostEven.f k (l0.length:Int) t520).bind fun bt521=>((spec_giPath.f k bt521.1 l0 false).bind fun t525=>(some (t525,true))))) else (some (([]:List (S59)),false)))=some (r1,r2):=H;have A2:=zad A20;clear A20;by_cases c3:t519=true
 ·subst c3
  have H1:((spec_liSum.f k l0).bind fun t520=>((spec_MostEven.f k (l0.length:Int) t520).bind fun bt521=>((spec_giPath.f k bt521.1 l0 false).bind fun t525=>(some (t525,true)))))=some (r1,r2):=by rw [if_pos rfl] at H;exact H
  clear H;have H:=H1;clear H1;replace H:=zay.mp H;obtain ⟨t520,A40,H⟩:=H;replace H:((spec_MostEven.f k (l0.length:Int) t520).bind fun bt521=>((spec_giPath.f k bt521.1 l0 false).bind fun t525=>(some (t525,true))))=some (r1,r2):=H;have A4:=zad A40;clear A40;replace H:=zay.mp H;obtain ⟨⟨t521,t522⟩,A50,H⟩:=H;replace H:((spec_giPath.f k t521 l0 false).bind fun t525=>(some (t525,true)))=some (r1,r2):=H;have A5:=zad A50;clear A50;replace H:=zay.mp H;obtain ⟨t525,A60,H⟩:=H;replace H:(some (t525,true))=some (r1,r2):=H;have A6:=zad A60;clear A60;simp only [zbp,zbt] at H;obtain ⟨rfl,rfl⟩:=H;go_enter Tryz.func10,Tryz.ntmps10;go_wp2_with (first | ((with_reducible refine zbj (f:=33) rfl ?_);refine zbr (some 7) rfl rfl Tryz.func33 (by kernel_rfl) rfl #[.slice A0 l0.length c0] rfl (taac) ?_;(with_reducible refine (spec_liGood.calls k _ _ l0 true _ ?side1 ?side2 A2.out).mono ?_);(case side1=>exact tahq);(case side2=>exact HC0.out);rintro e w' ⟨rfl,⟨nd,rfl⟩⟩;refine ⟨_,rfl,?_⟩) | ((with_reducible refine zbj (f:=27) rfl ?_);refine zbr (some 13) rfl rfl Tryz.func27 (by kernel_rfl) rfl #[.slice A0 l0.length c0] rfl (taac) ?_;(with_reducible refine (spec_liSum.calls k _ _ l0 t520 _ ?side1 ?side2 A4.out).mono ?_);(case side1=>exact tahq);(case side2=>exact HC0.out);rintro e w' ⟨rfl,⟨nd,rfl⟩⟩;refine ⟨_,rfl,?_⟩) | ((with_reducible refine zbj (f:=34) rfl ?_);refine zbr (some 14) rfl rfl Tryz.func34 (by kernel_rfl) rfl #[.int .i64 (l0.length:Int),.int .i64 t520] rfl (taac) ?_;(with_reducible refine (spec_MostEven.calls k (l0.length:Int) t520 t521 t522 _ A5.out).mono ?_);rintro e w7 ⟨v523,rfl,ho0,hb⟩;refine ⟨_,rfl,?_⟩;have n0_:=zad (zby ho0 (zbo (taaa)));have n1_:=zad (zbi (taaa) hb);clear HB;have HO524:=n0_;have HB:=n1_;clear n0_ n1_;(try clear hb);(try clear hb2);(try clear hk);(try clear hi);(try clear ho0);obtain ⟨Ao8,co8,eo8⟩:=zbz HO524.out;subst eo8) | ((with_reducible refine zbj (f:=35) rfl ?_);refine zbr (some 19) rfl rfl Tryz.func35 (by kernel_rfl) rfl #[.slice Ao8 t521.length co8,.slice A0 l0.length c0,.bool false] rfl (taac) ?_;(with_reducible refine (spec_giPath.calls k _ _ t521 _ _ l0 false t525 _ ?side1 ?side2 ?side3 ?side4 A6.out).mono ?_);(case side1=>repeat (first | exact (zbh HO524.out).2.2 | (with_reducible refine zal ?_ _) | (with_reducible refine zam ?_ _) | (with_reducible refine zan ?_)));(case side2=>exact (zbh HO524.out).2.1);(case side3=>exact tahr);(case side4=>exact HC0.out);rintro e w9 ⟨v526,rfl,ho0,hb⟩;refine ⟨_,rfl,?_⟩;have n0_:=zad (zbx (by (with_reducible repeat (first | apply zai | apply zaj | apply zak));exact HO524.out) hb);have n1_:=zad (zby ho0 (zbo (taaa)));have n2_:=zad (zbi (taaa) hb);clear HO524 HB;have HO524:=n0_;have HO527:=n1_;have HB:=n2_;clear n0_ n1_ n2_;(try clear hb);(try clear hb2);(try clear hk);(try clear hi);(try clear ho0)))
  go_ret2
  exact ⟨_,taah,by (with_reducible repeat (first | apply zai | apply zaj | apply zak));exact HO527.out,taaa⟩
 ·replace c3:=zbk.mpr c3
  subst c3;have H1:(some (([]:List (S59)),false))=some (r1,r2):=by rw [if_neg (show ¬ (false=true) by decide)] at H;exact H
  clear H;have H:=H1;clear H1;simp only [zbp,zbt] at H;obtain ⟨rfl,rfl⟩:=H;go_enter Tryz.func10,Tryz.ntmps10;go_wp2_with (first | ((with_reducible refine zbj (f:=33) rfl ?_);refine zbr (some 7) rfl rfl Tryz.func33 (by kernel_rfl) rfl #[.slice A0 l0.length c0] rfl (taac) ?_;(with_reducible refine (spec_liGood.calls k _ _ l0 false _ ?side1 ?side2 A2.out).mono ?_);(case side1=>exact tahq);(case side2=>exact HC0.out);rintro e w' ⟨rfl,⟨nd,rfl⟩⟩;refine ⟨_,rfl,?_⟩))
  go_ret2
  exact ⟨_,taah,taaz,taaa⟩
theorem eqA59 (d:Nat) (w:World) (x0 y0:Int) (x1 y1:Int) (x2 y2:Int) :
 (Op.equalIn (d+2) 59 (.agg #[.int .i64 x0,.int .i64 x1,.int .i64 x2]) (.agg #[.int .i64 y0,.int .i64 y1,.int .i64 y2])).run Tryz.prog w = .ok (x0 == y0 && (x1 == y1 && (x2 == y2))) w:=by
 refine eqA_of Tryz.underlying59 (by kernel_rfl) ?_
 refine eqf_cons (by rfl) (by go_simp;rfl) (by go_simp;rfl) (by go_simp) ?_
 refine eqf_cons (by rfl) (by go_simp;rfl) (by go_simp;rfl) (by go_simp) ?_
 exact eqf_last (by rfl) (by go_simp;rfl) (by go_simp;rfl) (by go_simp)
section
attribute [local go_sem high] eqA59
def laws_pGifts.l0:Nat→List (S59)→List (S59)→Int→Int→Option (Bool)
 | 0,_,_,_,_=>none
 | k+1,x0,x1,x12,x13=>if x13<x12 then (if 0≤x13 then (if x13<(x0.length:Int) then (if x13<(x1.length:Int) then (if (!(((rd_T59 x0 x13).f0) == ((rd_T59 x1 x13).f0)) || (!(((rd_T59 x0 x13).f1) == ((rd_T59 x1 x13).f1)) || (!(((rd_T59 x0 x13).f2) == ((rd_T59 x1 x13).f2)))))=true then (some false) else (laws_pGifts.l0 k x0 x1 x12 (wrap64 (x13+1)))) else (none)) else (none)) else (none)) else (some true)
def laws_pGifts.f (k:Nat) (l0:List (S59)) (l1:List (S59)):Option (Bool):=if (l0.length:Int)=(l1.length:Int) then (laws_pGifts.l0 k l0 l1 (l0.length:Int) 0) else (some false)
theorem laws_pGifts.calls (k:Nat) (A0:Option Addr) (c0:Nat) (l0:List (S59)) (A1:Option Addr) (c1:Nat) (l1:List (S59)) (r:Bool) (w:World) (hr0:Kd.C k59 w A0 l0.length l0) (hc0:l0.length≤c0) (hr1:Kd.C k59 w A1 l1.length l1) (hc1:l1.length≤c1) (h:laws_pGifts.f k l0 l1=some r) :
 Calls Tryz.prog 11 #[.slice A0 l0.length c0,.slice A1 l1.length c1] w fun e w'=>e = .returned (.bool r)∧Drawn0 w w':=by
 have hu59:=Tryz.underlying59;have HR0:=zad hr0;have HC0:=zad hc0;clear hr0 hc0;have HR1:=zad hr1;have HC1:=zad hc1;clear hr1 hc1;have H:(if (l0.length:Int)=(l1.length:Int) then (laws_pGifts.l0 k l0 l1 (l0.length:Int) 0) else (some false))=some r:=h;clear h;by_cases c3:(l0.length:Int)=(l1.length:Int)
 ·rw [if_pos c3] at H
  have c3b0:((l0.length:Int) == (l1.length:Int))=true:=beq_iff_eq.mpr c3;have c3b1:((l0.length:Int) != (l1.length:Int))=false:=bne_eq_false_iff_eq.mpr c3;have c3b2:(l0.length == l1.length)=true:=by first | simpa using c3 | (simp at c3 ⊢;omega)
  clear c3;have H':=zad H;clear H;go_enter Tryz.func11,Tryz.ntmps11;go_wp2
  repeat (go_quiet (fail);try go_wp2)
  go_loopg [13] k (fun kq v13 w'=>∃ (x13_1:Int),v13 = .int .i64 x13_1∧Aside0 (laws_pGifts.l0 kq l0 l1 (l0.length:Int) x13_1=some r)∧Aside0 (kq≤k)∧Drawn0 w w')
  case atStart=>exact ⟨(0),(taae),H',⟨zcf _⟩,taak⟩
  case round =>
   clear H';try clear c1
   try clear p2
   try clear c3
   try clear c3b0
   try clear c3b1
   try clear c3b2
   obtain ⟨x13_1,rfl,HA,HK1,⟨m1,rfl⟩⟩:=hrel;cases gk with
   | zero=>exact absurd HA.out (by simp [laws_pGifts.l0])
   | succ k1 =>
    have H:=HA.out;clear HA;simp only [laws_pGifts.l0] at H;by_cases c4:x13_1<(l0.length:Int)
    ·rw [if_pos c4] at H
     have c4b0:decide (x13_1<(l0.length:Int))=true:=zba c4;clear c4;by_cases c5:0≤x13_1
     ·rw [if_pos c5] at H
      have c5b0:decide (0≤x13_1)=true:=zba c5;clear c5;by_cases c6:x13_1<(l0.length:Int)
      ·rw [if_pos c6] at H
       have c6b0:decide (x13_1<(l0.length:Int))=true:=zba c6;clear c6;by_cases c7:x13_1<(l1.length:Int)
       ·rw [if_pos c7] at H
        have c7b0:decide (x13_1<(l1.length:Int))=true:=zba c7;clear c7;by_cases c8:(!(((rd_T59 l0 x13_1).f0) == ((rd_T59 l1 x13_1).f0)) || (!(((rd_T59 l0 x13_1).f1) == ((rd_T59 l1 x13_1).f1)) || (!(((rd_T59 l0 x13_1).f2) == ((rd_T59 l1 x13_1).f2)))))=true
        ·rw [if_pos c8] at H
         have c8b0:(!(((rd_T59 l0 x13_1).f0) == ((rd_T59 l1 x13_1).f0)) || (!(((rd_T59 l0 x13_1).f1) == ((rd_T59 l1 x13_1).f1)) || (!(((rd_T59 l0 x13_1).f2) == ((rd_T59 l1 x13_1).f2)))))=true:=c8;clear c8;obtain rfl:=zbg H;have p528:0≤(x13_1:Int):=zas (taab);have q528:x13_1<(l0.length:Int):=zas (taab);obtain ⟨ad528,e528,hx528_0,hx528_1,hx528_2⟩:=at_T59 HR0.out x13_1 p528 q528;cases e528;replace p528:=eq_true p528;replace q528:=eq_true q528;have p529:0≤(x13_1:Int):=zas (taab);have q529:x13_1<(l1.length:Int):=zas (taab);obtain ⟨ad529,e529,hx529_0,hx529_1,hx529_2⟩:=at_T59 HR1.out x13_1 p529 q529;cases e529;replace p529:=eq_true p529;replace q529:=eq_true q529;go_wp2
         repeat (go_quiet (fail);try go_wp2)
         go_ret
         exact ⟨taae,taak⟩
        ·rw [if_neg c8] at H
         have c8b0:(!(((rd_T59 l0 x13_1).f0) == ((rd_T59 l1 x13_1).f0)) || (!(((rd_T59 l0 x13_1).f1) == ((rd_T59 l1 x13_1).f1)) || (!(((rd_T59 l0 x13_1).f2) == ((rd_T59 l1 x13_1).f2)))))=false:=by simpa using c8
         clear c8;have H':=zad H;clear H;have p528:0≤(x13_1:Int):=zas (taab);have q528:x13_1<(l0.length:Int):=zas (taab);obtain ⟨ad528,e528,hx528_0,hx528_1,hx528_2⟩:=at_T59 HR0.out x13_1 p528 q528;cases e528;replace p528:=eq_true p528;replace q528:=eq_true q528;have p529:0≤(x13_1:Int):=zas (taab);have q529:x13_1<(l1.length:Int):=zas (taab);obtain ⟨ad529,e529,hx529_0,hx529_1,hx529_2⟩:=at_T59 HR1.out x13_1 p529 q529;cases e529;replace p529:=eq_true p529;replace q529:=eq_true q529;go_wp2
         repeat (go_quiet (fail);try go_wp2)
         go_roundg k1
         case measure=>have:=HK1.out;omega
         case rel=>exact ⟨(wrap64 (x13_1+1)),(taae),H',⟨taap⟩,taak⟩
       ·rw [if_neg c7] at H
        exact absurd H (taad)
      ·rw [if_neg c6] at H
       exact absurd H (taad)
     ·rw [if_neg c5] at H
      exact absurd H (taad)
    ·rw [if_neg c4] at H
     have c4b0:decide (x13_1<(l0.length:Int))=false:=zbl c4;clear c4;obtain rfl:=zbg H;go_wp2
     repeat (go_quiet (fail);try go_wp2)
     go_ret
     exact ⟨taae,taak⟩
 ·rw [if_neg c3] at H
  have c3b0:((l0.length:Int) == (l1.length:Int))=false:=zbs.mpr c3;have c3b1:((l0.length:Int) != (l1.length:Int))=true:=bne_iff_ne.mpr c3;have c3b2:(l0.length == l1.length)=false:=by first | simpa using c3 | (simp at c3 ⊢;omega)
  obtain rfl:=zbg H;go_enter Tryz.func11,Tryz.ntmps11;go_wp2
  repeat (go_quiet (fail);try go_wp2)
  go_ret
  exact ⟨taae,taak⟩
end
def impl_mostEven.l0:Nat→Int→Int→List Int→Int→Int→Option (List Int)
 | 0,_,_,_,_,_=>none
 | k+1,x0,x1,x5,x9,x10=>if x10<x9 then (if x0=0 then (none) else (if x10<(Int.tmod x1 x0) then (if x5.length<17592186044416 then (impl_mostEven.l0 k x0 x1 (x5 ++ [wrap64 ((wrap64 (Int.tdiv x1 x0))+1)]) x9 (wrap64 (x10+1))) else (none)) else (if x5.length<17592186044416 then (impl_mostEven.l0 k x0 x1 (x5 ++ [wrap64 (Int.tdiv x1 x0)]) x9 (wrap64 (x10+1))) else (none)))) else (some x5)
def impl_mostEven.f (k:Nat) (a0:Int) (a1:Int):Option (List Int):=impl_mostEven.l0 k a0 a1 (([]:List Int)) a0 0
theorem impl_mostEven.calls (k:Nat) (a0:Int) (a1:Int) (r:List Int) (w:World) (h:impl_mostEven.f k a0 a1=some r) :
 Calls Tryz.prog 32 #[.int .i64 a0,.int .i64 a1] w fun e w'=>∃ v0_:Value,e = .returned (v0_)∧Kd.R (Kd.int .i64) 3 w' w.heap.size (fun _=>True) v0_ r∧Below w.heap.size w w':=by
 have HB:=zad (Below.refl w.heap.size w);have H:(impl_mostEven.l0 k a0 a1 (([]:List Int)) a0 0)=some r:=h;clear h;obtain ⟨y449,hy449⟩:∃ y_:List Int,y_=(([]:List Int)):=⟨_,rfl⟩;replace H:(impl_mostEven.l0 k a0 a1 y449 a0 0)=some r:=by first | (rw [hy449];with_reducible exact H) | (have H2_:=(zbf _ _).symm.trans H;rw [hy449];with_reducible exact H2_) | (have H2_:=(zbf _ _).symm.trans H;with_reducible exact H2_) | with_reducible exact H | (rw [hy449];exact H) | exact H
 have Ny449:=zad hy449;clear hy449;have H':=zad H;clear H;go_enter Tryz.func32,Tryz.ntmps32;go_wp2_with (first | ((with_reducible refine gate_dst (N:=8) rfl ?_);refine Kd.R_lit (Kd.int .i64) _ 3 ?hg (N:=8) ?hd (xs:=([]:List Int)) (inner:=[]) (ok:=fun _=>True) (okp:=fun _=>True) ?hr ?hp (fun _ hk=>hk) trivial (Below.refl _ _) (zcf _) (taad) ?_;(case hd=>rfl);(case hg=>rfl);(case hr=>first | (go_simp;done) | (go_simp;rfl));(case hp=>exact (Reps.none _ _));intro v450 w3 ho4 hb hg_ hnew_;clear hg_ hnew_;(first | rw [← Ny449.out] at ho4 | (simp only [Int.reduceToNat] at ho4;rw [← Ny449.out] at ho4));have n0_:=zad (zby ho4 (zbo (taaa)));have n1_:=zad (zbi (taaa) hb);clear HB;have HO451:=n0_;have HB:=n1_;clear n0_ n1_ hb ho4))
 go_loopg [5,10] k (fun kq v5 v10 w'=>∃ (x5_1:List Int) (x10_1:Int),v10 = .int .i64 x10_1∧Aside0 (impl_mostEven.l0 kq a0 a1 x5_1 a0 x10_1=some r)∧Aside0 (kq≤k)∧Aside0 (Kd.R (Kd.int .i64) 3 w' w.heap.size (fun _=>True) v5 x5_1)∧Aside0 (Below w.heap.size w w'))
 case atStart=>exact ⟨(y449),(0),(taae),H',⟨zcf _⟩,⟨by (with_reducible repeat (first | apply zai | apply zaj | apply zak));exact HO451.out⟩,⟨taaa⟩⟩
 case round =>
  clear H';try clear p2
  try clear c3
  obtain ⟨x5_1,x10_1,rfl,HA,HK1,HO_5,HB⟩:=hrel;cases gk with
  | zero=>exact absurd HA.out (by simp [impl_mostEven.l0])
  | succ k1 =>
   have H:=HA.out;clear HA;simp only [impl_mostEven.l0] at H;by_cases c5:x10_1<a0
   ·rw [if_pos c5] at H
    have c5b0:decide (x10_1<a0)=true:=zba c5;clear c5;by_cases c6:a0=0
    ·rw [if_pos c6] at H
     exact absurd H (taad)
    ·rw [if_neg c6] at H
     have c6b0:(a0 == 0)=false:=zbs.mpr c6;have c6b1:(a0 != 0)=true:=bne_iff_ne.mpr c6;by_cases c7:x10_1<(Int.tmod a1 a0)
     ·rw [if_pos c7] at H
      have c7b0:decide (x10_1<(Int.tmod a1 a0))=true:=zba c7;clear c7;by_cases c8:x5_1.length<17592186044416
      ·rw [if_pos c8] at H
       have LMc8:=zad c8;clear c8;obtain ⟨y452,hy452⟩:∃ y_:List Int,y_=(x5_1 ++ [wrap64 ((wrap64 (Int.tdiv a1 a0))+1)]):=⟨_,rfl⟩;replace H:(impl_mostEven.l0 k1 a0 a1 y452 a0 (wrap64 (x10_1+1)))=some r:=by first | (rw [hy452];with_reducible exact H) | (have H2_:=(zbf _ _).symm.trans H;rw [hy452];with_reducible exact H2_) | (have H2_:=(zbf _ _).symm.trans H;with_reducible exact H2_) | with_reducible exact H | (rw [hy452];exact H) | exact H
       have Ny452:=zad hy452;clear hy452;have H':=zad H;clear H;go_wp2_with (first | ((with_reducible refine gate_builtin (b := .append) (xs:=#[.tmp 23,.tmp 25]) rfl ?_);at_builtin;refine Kd.R_append (Kd.int .i64) (w0:=w) w.heap.size rfl (.tmp 23) (.tmp 25) 24 3 (.int .i64 0) 8 rfl Tryz.underlying24 info3 rfl (by decide) (by omega) u5 x5_1 (wrap64 ((wrap64 (Int.tdiv a1 a0))+1)) [.int .i64 (wrap64 ((wrap64 (Int.tdiv a1 a0))+1))] (fun _=>True) (fun _=>False) rfl rfl ?aP (fun _ hk=>hk.elim) ?aF ?aO ?aB ?aS ?aL ?_;(case aP=>exact rfl);(case aB=>exact (taaa));(case aF=>exact (fun _ _=>trivial));(case aO=>exact (taal));(case aS=>exact (zbo (taaa)));(case aL=>have:=LMc8.out;omega);intro v453 w9 ho hb hg hat;rw [← Ny452.out] at ho;have n0_:=zad (hb);have n1_:=zad (ho);clear HB HO_5;have HB:=n0_;have HO454:=n1_;clear n0_ n1_ ho hb hg hat))
       go_roundg k1
       case measure=>have:=HK1.out;omega
       case rel=>exact ⟨(y452),(wrap64 (x10_1+1)),(taae),H',⟨taap⟩,⟨by (with_reducible repeat (first | apply zai | apply zaj | apply zak));exact HO454.out⟩,⟨taaa⟩⟩
      ·rw [if_neg c8] at H
       exact absurd H (taad)
     ·rw [if_neg c7] at H
      have c7b0:decide (x10_1<(Int.tmod a1 a0))=false:=zbl c7;clear c7;by_cases c10:x5_1.length<17592186044416
      ·rw [if_pos c10] at H
       have LMc10:=zad c10;clear c10;obtain ⟨y455,hy455⟩:∃ y_:List Int,y_=(x5_1 ++ [wrap64 (Int.tdiv a1 a0)]):=⟨_,rfl⟩;replace H:(impl_mostEven.l0 k1 a0 a1 y455 a0 (wrap64 (x10_1+1)))=some r:=by first | (rw [hy455];with_reducible exact H) | (have H2_:=(zbf _ _).symm.trans H;rw [hy455];with_reducible exact H2_) | (have H2_:=(zbf _ _).symm.trans H;with_reducible exact H2_) | with_reducible exact H | (rw [hy455];exact H) | exact H
       have Ny455:=zad hy455;clear hy455;have H':=zad H;clear H;go_wp2_with (first | ((with_reducible refine gate_builtin (b := .append) (xs:=#[.tmp 23,.tmp 25]) rfl ?_);at_builtin;refine Kd.R_append (Kd.int .i64) (w0:=w) w.heap.size rfl (.tmp 23) (.tmp 25) 24 3 (.int .i64 0) 8 rfl Tryz.underlying24 info3 rfl (by decide) (by omega) u5 x5_1 (wrap64 (Int.tdiv a1 a0)) [.int .i64 (wrap64 (Int.tdiv a1 a0))] (fun _=>True) (fun _=>False) rfl rfl ?aP (fun _ hk=>hk.elim) ?aF ?aO ?aB ?aS ?aL ?_;(case aP=>exact rfl);(case aB=>exact (taaa));(case aF=>exact (fun _ _=>trivial));(case aO=>exact (taal));(case aS=>exact (zbo (taaa)));(case aL=>have:=LMc10.out;omega);intro v456 w11 ho hb hg hat;rw [← Ny455.out] at ho;have n0_:=zad (hb);have n1_:=zad (ho);clear HB HO_5;have HB:=n0_;have HO457:=n1_;clear n0_ n1_ ho hb hg hat))
       go_roundg k1
       case measure=>have:=HK1.out;omega
       case rel=>exact ⟨(y455),(wrap64 (x10_1+1)),(taae),H',⟨taap⟩,⟨by (with_reducible repeat (first | apply zai | apply zaj | apply zak));exact HO457.out⟩,⟨taaa⟩⟩
      ·rw [if_neg c10] at H
       exact absurd H (taad)
   ·rw [if_neg c5] at H
    have c5b0:decide (x10_1<a0)=false:=zbl c5;clear c5;obtain rfl:=zbg H;go_wp2
    go_ret
    exact ⟨_,taah,taal,taaa⟩
def impl_within.f (a0:Int) (a1:Int) (a2:Int):Option (Bool):=if a0≥a1 then (some (decide (a0≤a2))) else (some false)
theorem impl_within.calls (a0:Int) (a1:Int) (a2:Int) (r:Bool) (w:World) (h:impl_within.f a0 a1 a2=some r) :
 Calls Tryz.prog 37 #[.int .i64 a0,.int .i64 a1,.int .i64 a2] w fun e w'=>e = .returned (.bool r)∧Drawn0 w w':=by
 have H:(if a0≥a1 then (some (decide (a0≤a2))) else (some false))=some r:=h;clear h;by_cases c4:a0≥a1
 ·rw [if_pos c4] at H
  have c4b0:decide (a1≤a0)=true:=zba c4;clear c4;obtain rfl:=zbg H;go_enter Tryz.func37,Tryz.ntmps37;go_wp2
  go_ret
  exact ⟨taae,taak⟩
 ·rw [if_neg c4] at H
  have c4b0:decide (a1≤a0)=false:=zbl c4;clear c4;obtain rfl:=zbg H;go_enter Tryz.func37,Tryz.ntmps37;go_wp2
  go_ret
  exact ⟨taae,taak⟩
def impl_isMany.f (a0:Int):Option (Bool):=(impl_within.f a0 1 8).bind fun t530=>(some t530)
theorem impl_isMany.calls (a0:Int) (r:Bool) (w:World) (h:impl_isMany.f a0=some r) :
 Calls Tryz.prog 36 #[.int .i64 a0] w fun e w'=>e = .returned (.bool r)∧Drawn0 w w':=by
 have H:((impl_within.f a0 1 8).bind fun t530=>(some t530))=some r:=h;clear h;replace H:=zay.mp H;obtain ⟨t530,A20,H⟩:=H;replace H:(some t530)=some r:=H;have A2:=zad A20;clear A20;obtain rfl:=zbg H;go_enter Tryz.func36,Tryz.ntmps36;go_wp2_with (first | ((with_reducible refine zbj (f:=37) rfl ?_);refine zbr (some 4) rfl rfl Tryz.func37 (by kernel_rfl) rfl #[.int .i64 a0,.int .i64 1,.int .i64 8] rfl (taac) ?_;(with_reducible refine (impl_within.calls a0 1 8 t530 _ A2.out).mono ?_);rintro e w' ⟨rfl,⟨nd,rfl⟩⟩;refine ⟨_,rfl,?_⟩))
 go_ret
 exact ⟨taae,taak⟩
def impl_MostEven.f (k:Nat) (a0:Int) (a1:Int):Option (List Int × Bool):=(impl_isMany.f a0).bind fun t531=>(if t531=true then ((impl_within.f a1 0 (wrap64 (a0*60))).bind fun t532=>(if t532=true then ((impl_mostEven.f k a0 a1).bind fun t533=>(some (t533,true))) else (some (([]:List Int),false)))) else (some (([]:List Int),false)))
theorem impl_MostEven.calls (k:Nat) (a0:Int) (a1:Int) (r1:List Int) (r2:Bool) (w:World) (h:impl_MostEven.f k a0 a1=some (r1,r2)) :
 Calls Tryz.prog 12 #[.int .i64 a0,.int .i64 a1] w fun e w'=>∃ v0_:Value,e = .returned (.tuple #[v0_,.bool r2])∧Kd.R (Kd.int .i64) 3 w' w.heap.size (fun _=>True) v0_ r1∧Below w.heap.size w w':=by
 have HB:=zad (Below.refl w.heap.size w);have H:((impl_isMany.f a0).bind fun t531=>(if t531=true then ((impl_within.f a1 0 (wrap64 (a0*60))).bind fun t532=>(if t532=true then ((impl_mostEven.f k a0 a1).bind fun t533=>(some (t533,true))) else (some (([]:List Int),false)))) else (some (([]:List Int),false))))=some (r1,r2):=h;clear h;replace H:=zay.mp H;obtain ⟨t531,A30,H⟩:=H;replace H:(if t531=true then ((impl_within.f a1 0 (wrap64 (a0*60))).bind fun t532=>(if t532=true then ((impl_mostEven.f k a0 a1).bind fun t533=>(some (t533,true))) else (some (([]:List Int),false)))) else (some (([]:List Int),false)))=some (r1,r2):=H;have A3:=zad A30;clear A30;by_cases c4:t531=true
 ·subst c4
  have H1:((impl_within.f a1 0 (wrap64 (a0*60))).bind fun t532=>(if t532=true then ((impl_mostEven.f k a0 a1).bind fun t533=>(some (t533,true))) else (some (([]:List Int),false))))=some (r1,r2):=by rw [if_pos rfl] at H;exact H
  clear H;have H:=H1;clear H1;replace H:=zay.mp H;obtain ⟨t532,A50,H⟩:=H;replace H:(if t532=true then ((impl_mostEven.f k a0 a1).bind fun t533=>(some (t533,true))) else (some (([]:List Int),false)))=some (r1,r2):=H;have A5:=zad A50;clear A50;by_cases c6:t532=true
  ·subst c6
   have H1:((impl_mostEven.f k a0 a1).bind fun t533=>(some (t533,true)))=some (r1,r2):=by rw [if_pos rfl] at H;exact H
   clear H;have H:=H1;clear H1;replace H:=zay.mp H;obtain ⟨t533,A70,H⟩:=H;replace H:(some (t533,true))=some (r1,r2):=H;have A7:=zad A70;clear A70;simp only [zbp,zbt] at H;obtain ⟨rfl,rfl⟩:=H;go_enter Tryz.func12,Tryz.ntmps12;go_wp2_with (first | ((with_reducible refine zbj (f:=36) rfl ?_);refine zbr (some 7) rfl rfl Tryz.func36 (by kernel_rfl) rfl #[.int .i64 a0] rfl (taac) ?_;(with_reducible refine (impl_isMany.calls a0 true _ A3.out).mono ?_);rintro e w' ⟨rfl,⟨nd,rfl⟩⟩;refine ⟨_,rfl,?_⟩) | (go_at_call 37;(with_reducible refine (impl_within.calls a1 0 (wrap64 (a0*60)) true _ A5.out).mono ?_);rintro e w' ⟨rfl,⟨nd,rfl⟩⟩) | ((with_reducible refine zbj (f:=32) rfl ?_);refine zbr (some 18) rfl rfl Tryz.func32 (by kernel_rfl) rfl #[.int .i64 a0,.int .i64 a1] rfl (taac) ?_;(with_reducible refine (impl_mostEven.calls k a0 a1 t533 _ A7.out).mono ?_);rintro e w8 ⟨v534,rfl,ho0,hb⟩;refine ⟨_,rfl,?_⟩;have n0_:=zad (zby ho0 (zbo (taaa)));have n1_:=zad (zbi (taaa) hb);clear HB;have HO535:=n0_;have HB:=n1_;clear n0_ n1_;(try clear hb);(try clear hb2);(try clear hk);(try clear hi);(try clear ho0)))
   go_ret2
   exact ⟨_,taah,by (with_reducible repeat (first | apply zai | apply zaj | apply zak));exact HO535.out,taaa⟩
  ·replace c6:=zbk.mpr c6
   subst c6;have H1:(some (([]:List Int),false))=some (r1,r2):=by rw [if_neg (show ¬ (false=true) by decide)] at H;exact H
   clear H;have H:=H1;clear H1;simp only [zbp,zbt] at H;obtain ⟨rfl,rfl⟩:=H;go_enter Tryz.func12,Tryz.ntmps12;go_wp2_with (first | ((with_reducible refine zbj (f:=36) rfl ?_);refine zbr (some 7) rfl rfl Tryz.func36 (by kernel_rfl) rfl #[.int .i64 a0] rfl (taac) ?_;(with_reducible refine (impl_isMany.calls a0 true _ A3.out).mono ?_);rintro e w' ⟨rfl,⟨nd,rfl⟩⟩;refine ⟨_,rfl,?_⟩) | (go_at_call 37;(with_reducible refine (impl_within.calls a1 0 (wrap64 (a0*60)) false _ A5.out).mono ?_);rintro e w' ⟨rfl,⟨nd,rfl⟩⟩))
   go_ret2
   exact ⟨_,taah,taaz,taaa⟩
 ·replace c4:=zbk.mpr c4
  subst c4;have H1:(some (([]:List Int),false))=some (r1,r2):=by rw [if_neg (show ¬ (false=true) by decide)] at H;exact H
  clear H;have H:=H1;clear H1;simp only [zbp,zbt] at H;obtain ⟨rfl,rfl⟩:=H;go_enter Tryz.func12,Tryz.ntmps12;go_wp2_with (first | ((with_reducible refine zbj (f:=36) rfl ?_);refine zbr (some 7) rfl rfl Tryz.func36 (by kernel_rfl) rfl #[.int .i64 a0] rfl (taac) ?_;(with_reducible refine (impl_isMany.calls a0 false _ A3.out).mono ?_);rintro e w' ⟨rfl,⟨nd,rfl⟩⟩;refine ⟨_,rfl,?_⟩))
  go_ret2
  exact ⟨_,taah,taaz,taaa⟩
def laws_pSum.l0:Nat→Int→List Int→Int→Int→Option (Int)
 | 0,_,_,_,_=>none
 | k+1,x3,x6,x7,x8=>if x8<x7 then (if 0≤x8 then (if x8<(x6.length:Int) then (laws_pSum.l0 k (wrap64 (x3+(rd x6 x8))) x6 x7 (wrap64 (x8+1))) else (none)) else (none)) else (some x3)
def laws_pSum.f (k:Nat) (l0:List Int):Option (Int):=laws_pSum.l0 k 0 l0 (l0.length:Int) 0
theorem laws_pSum.calls (k:Nat) (A0:Option Addr) (c0:Nat) (l0:List Int) (r:Int) (w:World) (hr0:Kd.C (Kd.int .i64) w A0 l0.length l0) (hc0:l0.length≤c0) (h:laws_pSum.f k l0=some r) :
 Calls Tryz.prog 13 #[.slice A0 l0.length c0] w fun e w'=>e = .returned (.int .i64 r)∧Drawn0 w w':=by
 have HR0:=zad hr0;have HC0:=zad hc0;clear hr0 hc0;have H:(laws_pSum.l0 k 0 l0 (l0.length:Int) 0)=some r:=h;clear h;have H':=zad H;clear H;go_enter Tryz.func13,Tryz.ntmps13;go_wp2
 go_loopg [3,8] k (fun kq v3 v8 w'=>∃ (x3_1:Int) (x8_1:Int),v3 = .int .i64 x3_1∧v8 = .int .i64 x8_1∧Aside0 (laws_pSum.l0 kq x3_1 l0 (l0.length:Int) x8_1=some r)∧Aside0 (kq≤k)∧Drawn0 w w')
 case atStart=>exact ⟨(0),(0),(taae),(taae),H',⟨zcf _⟩,taak⟩
 case round =>
  clear H';try clear c1
  obtain ⟨x3_1,x8_1,rfl,rfl,HA,HK1,⟨m1,rfl⟩⟩:=hrel;cases gk with
  | zero=>exact absurd HA.out (by simp [laws_pSum.l0])
  | succ k1 =>
   have H:=HA.out;clear HA;simp only [laws_pSum.l0] at H;by_cases c2:x8_1<(l0.length:Int)
   ·rw [if_pos c2] at H
    have c2b0:decide (x8_1<(l0.length:Int))=true:=zba c2;clear c2;by_cases c3:0≤x8_1
    ·rw [if_pos c3] at H
     have c3b0:decide (0≤x8_1)=true:=zba c3;clear c3;by_cases c4:x8_1<(l0.length:Int)
     ·rw [if_pos c4] at H
      have c4b0:decide (x8_1<(l0.length:Int))=true:=zba c4;clear c4;have H':=zad H;clear H;have p536:0≤(x8_1:Int):=zas (taab);have q536:x8_1<(l0.length:Int):=zas (taab);obtain ⟨ad536,e536,hx536_0⟩:=zca HR0.out x8_1 p536 q536;cases e536;replace p536:=eq_true p536;replace q536:=eq_true q536;go_wp2
      go_roundg k1
      case measure=>have:=HK1.out;omega
      case rel=>exact ⟨(wrap64 (x3_1+(rd l0 x8_1))),(wrap64 (x8_1+1)),(taae),(taae),H',⟨taap⟩,taak⟩
     ·rw [if_neg c4] at H
      exact absurd H (taad)
    ·rw [if_neg c3] at H
     exact absurd H (taad)
   ·rw [if_neg c2] at H
    have c2b0:decide (x8_1<(l0.length:Int))=false:=zbl c2;clear c2;obtain rfl:=zbg H;go_wp2
    go_ret
    exact ⟨taae,taak⟩
def impl_total.l0:Nat→Int→List Int→Int→Int→Option (Int)
 | 0,_,_,_,_=>none
 | k+1,x3,x6,x7,x8=>if x8<x7 then (if 0≤x8 then (if x8<(x6.length:Int) then (impl_total.l0 k (wrap64 (x3+(rd x6 x8))) x6 x7 (wrap64 (x8+1))) else (none)) else (none)) else (some x3)
def impl_total.f (k:Nat) (l0:List Int):Option (Int):=impl_total.l0 k 0 l0 (l0.length:Int) 0
theorem impl_total.calls (k:Nat) (A0:Option Addr) (c0:Nat) (l0:List Int) (r:Int) (w:World) (hr0:Kd.C (Kd.int .i64) w A0 l0.length l0) (hc0:l0.length≤c0) (h:impl_total.f k l0=some r) :
 Calls Tryz.prog 21 #[.slice A0 l0.length c0] w fun e w'=>e = .returned (.int .i64 r)∧Drawn0 w w':=by
 have HR0:=zad hr0;have HC0:=zad hc0;clear hr0 hc0;have H:(impl_total.l0 k 0 l0 (l0.length:Int) 0)=some r:=h;clear h;have H':=zad H;clear H;go_enter Tryz.func21,Tryz.ntmps21;go_wp2
 go_loopg [3,8] k (fun kq v3 v8 w'=>∃ (x3_1:Int) (x8_1:Int),v3 = .int .i64 x3_1∧v8 = .int .i64 x8_1∧Aside0 (impl_total.l0 kq x3_1 l0 (l0.length:Int) x8_1=some r)∧Aside0 (kq≤k)∧Drawn0 w w')
 case atStart=>exact ⟨(0),(0),(taae),(taae),H',⟨zcf _⟩,taak⟩
 case round =>
  clear H';obtain ⟨x3_1,x8_1,rfl,rfl,HA,HK1,⟨m1,rfl⟩⟩:=hrel;cases gk with
  | zero=>exact absurd HA.out (by simp [impl_total.l0])
  | succ k1 =>
   have H:=HA.out;clear HA;simp only [impl_total.l0] at H;by_cases c2:x8_1<(l0.length:Int)
   ·rw [if_pos c2] at H
    have c2b0:decide (x8_1<(l0.length:Int))=true:=zba c2;clear c2;by_cases c3:0≤x8_1
    ·rw [if_pos c3] at H
     have c3b0:decide (0≤x8_1)=true:=zba c3;clear c3;by_cases c4:x8_1<(l0.length:Int)
     ·rw [if_pos c4] at H
      have c4b0:decide (x8_1<(l0.length:Int))=true:=zba c4;clear c4;have H':=zad H;clear H;have p247:0≤(x8_1:Int):=zas (taab);have q247:x8_1<(l0.length:Int):=zas (taab);obtain ⟨ad247,e247,hx247_0⟩:=zca HR0.out x8_1 p247 q247;cases e247;replace p247:=eq_true p247;replace q247:=eq_true q247;go_wp2
      go_roundg k1
      case measure=>have:=HK1.out;omega
      case rel=>exact ⟨(wrap64 (x3_1+(rd l0 x8_1))),(wrap64 (x8_1+1)),(taae),(taae),H',⟨taap⟩,taak⟩
     ·rw [if_neg c4] at H
      exact absurd H (taad)
    ·rw [if_neg c3] at H
     exact absurd H (taad)
   ·rw [if_neg c2] at H
    have c2b0:decide (x8_1<(l0.length:Int))=false:=zbl c2;clear c2;obtain rfl:=zbg H;go_wp2
    go_ret
    exact ⟨taae,taak⟩
def impl_doFit.f (k:Nat) (l0:List Int) (l1:List Int):Option (Bool):=if (l0.length:Int)=(l1.length:Int) then ((impl_total.f k l0).bind fun t248=>((impl_total.f k l1).bind fun t249=>(some (t248 == t249)))) else (some false)
theorem impl_doFit.calls (k:Nat) (A0:Option Addr) (c0:Nat) (l0:List Int) (A1:Option Addr) (c1:Nat) (l1:List Int) (r:Bool) (w:World) (hr0:Kd.C (Kd.int .i64) w A0 l0.length l0) (hc0:l0.length≤c0) (hr1:Kd.C (Kd.int .i64) w A1 l1.length l1) (hc1:l1.length≤c1) (h:impl_doFit.f k l0 l1=some r) :
 Calls Tryz.prog 39 #[.slice A0 l0.length c0,.slice A1 l1.length c1] w fun e w'=>e = .returned (.bool r)∧Drawn0 w w':=by
 have HR0:=zad hr0;have HC0:=zad hc0;clear hr0 hc0;have HR1:=zad hr1;have HC1:=zad hc1;clear hr1 hc1;have H:(if (l0.length:Int)=(l1.length:Int) then ((impl_total.f k l0).bind fun t248=>((impl_total.f k l1).bind fun t249=>(some (t248 == t249)))) else (some false))=some r:=h;clear h;by_cases c3:(l0.length:Int)=(l1.length:Int)
 ·rw [if_pos c3] at H
  have c3b0:((l0.length:Int) == (l1.length:Int))=true:=beq_iff_eq.mpr c3;have c3b1:((l0.length:Int) != (l1.length:Int))=false:=bne_eq_false_iff_eq.mpr c3;have c3b2:(l0.length == l1.length)=true:=by first | simpa using c3 | (simp at c3 ⊢;omega)
  clear c3;replace H:=zay.mp H;obtain ⟨t248,A40,H⟩:=H;replace H:((impl_total.f k l1).bind fun t249=>(some (t248 == t249)))=some r:=H;have A4:=zad A40;clear A40;replace H:=zay.mp H;obtain ⟨t249,A50,H⟩:=H;replace H:(some (t248 == t249))=some r:=H;have A5:=zad A50;clear A50;obtain rfl:=zbg H;go_enter Tryz.func39,Tryz.ntmps39;go_wp2_with (first | (go_at_call 21;(with_reducible refine (impl_total.calls k _ _ l0 t248 _ ?side1 ?side2 A4.out).mono ?_);(case side1=>repeat (first | exact HR0.out | (with_reducible refine zal ?_ _) | (with_reducible refine zam ?_ _) | (with_reducible refine zan ?_)));(case side2=>exact HC0.out);rintro e w' ⟨rfl,⟨nd,rfl⟩⟩) | (go_at_call 21;(with_reducible refine (impl_total.calls k _ _ l1 t249 _ ?side1 ?side2 A5.out).mono ?_);(case side1=>repeat (first | exact HR1.out | (with_reducible refine zal ?_ _) | (with_reducible refine zam ?_ _) | (with_reducible refine zan ?_)));(case side2=>exact HC1.out);rintro e w' ⟨rfl,⟨nd,rfl⟩⟩))
  go_ret
  exact ⟨taae,taak⟩
 ·rw [if_neg c3] at H
  have c3b0:((l0.length:Int) == (l1.length:Int))=false:=zbs.mpr c3;have c3b1:((l0.length:Int) != (l1.length:Int))=true:=bne_iff_ne.mpr c3;have c3b2:(l0.length == l1.length)=false:=by first | simpa using c3 | (simp at c3 ⊢;omega)
  obtain rfl:=zbg H;go_enter Tryz.func39,Tryz.ntmps39;go_wp2
  go_ret
  exact ⟨taae,taak⟩
def slices_Clone_int_int.f (l0:List Int):Option (List Int):=if l0.length≤17592186044416 then some l0 else none
theorem slices_Clone_int_int.calls (A0:Option Addr) (c0:Nat) (l0:List Int) (r:List Int) (w:World) (hr0:Kd.C (Kd.int .i64) w A0 l0.length l0) (hc0:l0.length≤c0) (h:slices_Clone_int_int.f l0=some r) :
 Calls Tryz.prog 59 #[.slice A0 l0.length c0] w fun e w'=>∃ v0_:Value,e = .returned (v0_)∧Kd.R (Kd.int .i64) 3 w' w.heap.size (fun _=>True) v0_ r∧Below w.heap.size w w':=by
 have hl:l0.length≤17592186044416∧l0=r:=by
  unfold slices_Clone_int_int.f at h
  by_cases c:l0.length≤17592186044416
  ·rw [if_pos c] at h
   exact ⟨c,zbg h⟩
  ·rw [if_neg c] at h
   cases h
 clear h;obtain ⟨hl,rfl⟩:=hl;have hn:=(Kd.reads_of_C (d:=(0:Int)) (h1:=fun _=>rfl) hr0).2.2;clear hr0;have q:=fun (w:World) (a:Option Addr) (n c n' c':Nat)=>Lib.run_eql_slice_nil (P:=Tryz.prog) w 24 3 a n c n' c' Tryz.underlying24
 cases A0 with
 | none =>
  have e0:l0=[]:=by
   cases l0 with
   | nil=>rfl
   | cons x t =>
    obtain ⟨ad,e',_⟩:=hn (taad);cases e'
  subst e0;clear hn;go_enter Tryz.func59,Tryz.ntmps59;go_wp2
  go_ret
  exact ⟨_,rfl,Kd.R_nil _ _ _ _ _,Below.refl _ _⟩
 | some ad =>
  have HC:Aside0 (∀ j u,(encs (Value.int .i64) l0)[j]? = some u→w.cell? (ad.add j)=some u):=⟨by
   intro j u hj
   have hjl:j<l0.length:=by
    have:=(List.getElem?_eq_some_iff.1 hj).1;rwa [encs_length] at this
   obtain ⟨ad',e',hcell⟩:=hn (by omega);cases e';rw [encs_get (d:=(0:Int)) l0 j hjl] at hj
   injection hj with hj
   rw [← hj];exact hcell j hjl⟩
  clear hn;obtain ⟨i0,hi,hzz⟩:=Option.map_eq_some_iff.1 info3;simp only [zbt] at hzz
  obtain ⟨hz0,hz1,hz2⟩:=hzz;have Hl:=zad hl;have Hc:=zad hc0;clear hl hc0;go_enter Tryz.func59,Tryz.ntmps59;go_wp2_with (at_builtin;refine wpList_append_own _ rfl _ _ 24 rfl w.heap.size 3 i0 (.int .i64 0) 1 8 Tryz.underlying24 hi hz0 hz1 hz2 rfl (by decide) _ _ _ rfl (World.ownsRow_made w #[] 0 (zcf _) (Nat.zero_le _) (taad)) ad l0.length c0 (encs (Value.int .i64) l0) rfl ?qc1 ?qc2 ?qc3 ?qc4 ?qc5 ?qc6 ?_)
  case qc1=>rw [encs_length,Nat.mul_one]
  case qc2 =>
   intro j u hj
   exact Lib.cell?_alloc_some _ (HC.out j u hj)
  case qc3 =>
   intro u hu
   obtain ⟨x,_,rfl⟩:=List.mem_map.1 hu;rfl
  case qc4 =>
   have:=Hl.out;unfold maxLen;omega
  case qc5 =>
   have:=Hl.out;omega
  case qc6=>simp
  intro v' w1 hown hgrow hnil
  go_wp2
  go_ret
  refine ⟨v',rfl,?_,?_⟩
  ·refine Kd.R_of_own ?_ (fun _ _=>trivial)
   simpa using hown
  ·exact ((Below.refl _ w).alloc (zcf _) _).grown hgrow (taad) (by intro k hk;simp [Value.ownBlock] at hk;omega)
section
open Go.Shelf Go.Lib Go.Sort
theorem heap_sorted {α:Type} [Inhabited α] (enc:α→Value) (w:World) (blk off m:Nat) (d:Array α) (os:Array Obj) (k:Nat) (hk:k<w.heap.size) :
 (sortWorld enc w blk off m d os).heap[k]? = if blk=k then (w.heap[k]?).map (onCells (putCells enc off d)) else w.heap[k]? := by
 have h1:(sortWorld enc w blk off m d os).heap=(w.heap.modify blk (onCells (putCells enc off d))) ++ os:=rfl;rw [h1,Array.getElem?_append_left (by rw [Array.size_modify];exact hk),Array.getElem?_modify]
theorem size_sorted {α:Type} [Inhabited α] (enc:α→Value) (w:World) (blk off m:Nat) (d:Array α) (os:Array Obj):w.heap.size≤(sortWorld enc w blk off m d os).heap.size:=by
 have h1:(sortWorld enc w blk off m d os).heap=(w.heap.modify blk (onCells (putCells enc off d))) ++ os:=rfl;rw [h1,Array.size_append,Array.size_modify];omega
theorem below_sorted {α:Type} [Inhabited α] (enc:α→Value) {w w1:World} (hb:Below w.heap.size w w1) {blk off m:Nat} (d:Array α) (os:Array Obj) (hg:w.heap.size≤blk):Below w.heap.size w (sortWorld enc w1 blk off m d os):=by
 refine ⟨hb.os,hb.tape,hb.output,Nat.le_trans hb.size (size_sorted _ _ _ _ _ _ _),fun k hk => ?_⟩
 rw [heap_sorted _ _ _ _ _ _ _ _ (Nat.lt_of_lt_of_le hk hb.size),if_neg (by omega)];exact hb.block k hk
theorem putCells_take {α:Type} [Inhabited α] (enc:α→Value) (d:Array α) (cur:Array Value) (h:d.size≤cur.size):(putCells enc 0 d cur).toList.take d.size=d.toList.map enc:=by
 apply List.ext_getElem?
 intro i
 by_cases hi:i<d.size
 ·rw [List.getElem?_take_of_lt hi,List.getElem?_map,Array.getElem?_toList,Array.getElem?_toList,Array.getElem?_eq_getElem hi]
  unfold putCells;rw [Array.getElem?_mapIdx,Array.getElem?_eq_getElem (show i<cur.size by omega)];simp [hi,getElem!_pos]
 ·rw [List.getElem?_eq_none (by rw [zax];omega),List.getElem?_eq_none (by simp;omega)]
theorem own_sorted {α:Type} [Inhabited α] (enc:α→Value) {w1:World} {base e n g cap m:Nat} {cur:Array Value} (d:Array α) (os:Array Obj) (hb:base≤g) (hh:w1.heap[g]? = some (.cells cur e (0,0))) (hn:n≤cap) (hc:cap≤maxLen) (hs:cur.size=cap*1) (hd:d.size=n) :
 (sortWorld enc w1 g 0 m d os).ownsRow base e 1 (.slice (some ⟨g,0,none⟩) n cap) n (d.toList.map enc):=by
 have hg:g<w1.heap.size:=(Array.getElem?_eq_some_iff.1 hh).1;refine ⟨by simp [hd],.inr ⟨g,cap,putCells enc 0 d cur,rfl,hb,?_,hn,hc,?_,?_⟩⟩
 ·rw [heap_sorted _ _ _ _ _ _ _ _ hg,if_pos rfl,hh]
  rfl
 ·unfold putCells
  rw [Array.size_mapIdx];exact hs
 ·rw [Nat.mul_one,← hd]
  exact putCells_take enc d cur (by omega)
theorem holds_own {α:Type} [Inhabited α] (enc:α→Value) {w1:World} {e n g cap:Nat} {cur:Array Value} (d:Array α) (hh:w1.heap[g]? = some (.cells cur e (0,0))) (hn:n≤cap) (hs:cur.size=cap*1) (hd:d.size=n) (ht:cur.toList.take (n*1)=d.toList.map enc):Holds enc w1 g 0 d:=by
 intro j hj
 have h1:(cur.toList.take (n*1))[j]? = (d.toList.map enc)[j]? := by rw [ht]
 rw [List.getElem?_take_of_lt (by omega),List.getElem?_map,Array.getElem?_toList,Array.getElem?_toList,Array.getElem?_eq_getElem hj] at h1
 rw [Nat.zero_add];refine ⟨?_,zbn hh j⟩
 rw [zbm hh j,h1,getElem!_pos d j hj];rfl
end
end Go.Proofs.YtefbphpgaeffaaaGreatDoor.A
/-
 DERIVED: THE SHELF's CONTRACTS AT THIS DUMP,IN PLAIN WORDS (tools/lay-plain.mjs out of 'YtefbphpgaeffaaaGreatDoorShelf.lean',which tools/lay-shelf.mjs wrote): THE SAME DECLARATIONS UNDER THE SAME NAMES: 'import','namespace','open','def','theorem' AND NOTHING ELSE: no command of the shelf's: FOR A HAND-IN. Each laying: the table of numbers ('.._ren') and one theorem,a field a fact of the dump's own or the kernel's comparison;each contract: ONE APPLICATION.
-/
namespace Go.Proofs
open Go.Shelf
def Tryz.sortL_ren:Go.Shelf.Ren:=⟨fun | 6=>60 | 15=>87 | 14=>86 | 28=>104 | 29=>105 | 20=>96 | 21=>97 | 22=>98 | 23=>99 | 24=>100 | 25=>101 | 26=>102 | 27=>103 | 46=>110 | 47=>111 | 48=>112 | 49=>113 | 50=>114 | 57=>121 | n=>n,fun | 22=>24 | 24=>3 | 25=>71 | 3=>3 | 39=>84 | 0=>0 | 53=>102 | 55=>43 | 4=>4 | 46=>96 | 45=>95 | 50=>27 | 5=>5 | 9=>9 | 66=>106 | 70=>110 | 76=>119 | 77=>120 | n=>n,fun | n=>n⟩
theorem Tryz.sortL:Go.Proofs.SlLaysF.n6 Tryz.prog Tryz.sortL_ren:={
 mixed:=by kernel_rfl
 f6:=⟨Tryz.f60.name,by decide,Tryz.func60.trans (congrArg some (by kernel_rfl))⟩
 f14:=⟨Tryz.f86.name,by decide,Tryz.func86.trans (congrArg some (by kernel_rfl))⟩
 f15:=Tryz.func87.trans (congrArg some (by kernel_rfl))
 f20:=⟨Tryz.f96.name,by decide,Tryz.func96.trans (congrArg some (by kernel_rfl))⟩
 f21:=⟨Tryz.f97.name,by decide,Tryz.func97.trans (congrArg some (by kernel_rfl))⟩
 f22:=⟨Tryz.f98.name,by decide,Tryz.func98.trans (congrArg some (by kernel_rfl))⟩
 f23:=⟨Tryz.f99.name,by decide,Tryz.func99.trans (congrArg some (by kernel_rfl))⟩
 f24:=⟨Tryz.f100.name,by decide,Tryz.func100.trans (congrArg some (by kernel_rfl))⟩
 f25:=⟨Tryz.f101.name,by decide,Tryz.func101.trans (congrArg some (by kernel_rfl))⟩
 f26:=⟨Tryz.f102.name,by decide,Tryz.func102.trans (congrArg some (by kernel_rfl))⟩
 f27:=⟨Tryz.f103.name,by decide,Tryz.func103.trans (congrArg some (by kernel_rfl))⟩
 f28:=Tryz.func104.trans (congrArg some (by kernel_rfl))
 f29:=Tryz.func105.trans (congrArg some (by kernel_rfl))
 f46:=⟨Tryz.f110.name,by decide,Tryz.func110.trans (congrArg some (by kernel_rfl))⟩
 f47:=Tryz.func111.trans (congrArg some (by kernel_rfl))
 f48:=Tryz.func112.trans (congrArg some (by kernel_rfl))
 f49:=⟨Tryz.f113.name,by decide,Tryz.func113.trans (congrArg some (by kernel_rfl))⟩
 f50:=⟨Tryz.f114.name,by decide,Tryz.func114.trans (congrArg some (by kernel_rfl))⟩
 f57:=⟨Tryz.f121.name,by decide,Tryz.func121.trans (congrArg some (by kernel_rfl))⟩
 t0:=Tryz.underlying0
 a0:=Tryz.isAgg0
 z0:=Tryz.sizeOf0
 v0:=Tryz.zeroValue0
 t3:=Tryz.underlying3
 a3:=Tryz.isAgg3
 z3:=Tryz.sizeOf3
 v3:=Tryz.zeroValue3
 t4:=Tryz.underlying4
 a4:=Tryz.isAgg4
 z4:=Tryz.sizeOf4
 v4:=Tryz.zeroValue4
 t5:=Tryz.underlying5
 a5:=Tryz.isAgg5
 z5:=Tryz.sizeOf5
 v5:=Tryz.zeroValue5
 t9:=Tryz.underlying9
 a9:=Tryz.isAgg9
 z9:=Tryz.sizeOf9
 v9:=Tryz.zeroValue9
 t22:=Tryz.underlying24
 a22:=Tryz.isAgg24
 z22:=Tryz.sizeOf24
 v22:=Tryz.zeroValue24
 a24:=Tryz.isAgg3
 z24:=Tryz.sizeOf3
 t25:=Tryz.underlying71
 a25:=Tryz.isAgg71
 z25:=Tryz.sizeOf71
 v25:=Tryz.zeroValue71
 t39:=Tryz.underlying84
 a39:=Tryz.isAgg84
 z39:=Tryz.sizeOf84
 v39:=Tryz.zeroValue84
 t45:=Tryz.underlying95
 a45:=Tryz.isAgg95
 z45:=Tryz.sizeOf95
 v45:=Tryz.zeroValue95
 t46:=Tryz.underlying96
 a46:=Tryz.isAgg96
 z46:=Tryz.sizeOf96
 v46:=Tryz.zeroValue96
 t50:=Tryz.underlying27
 a50:=Tryz.isAgg27
 z50:=Tryz.sizeOf27
 v50:=Tryz.zeroValue27
 t53:=Tryz.underlying102
 a53:=Tryz.isAgg102
 z53:=Tryz.sizeOf102
 v53:=Tryz.zeroValue102
 t55:=Tryz.underlying43
 a55:=Tryz.isAgg43
 z55:=Tryz.sizeOf43
 v55:=Tryz.zeroValue43
 t66:=Tryz.underlying106
 a66:=Tryz.isAgg106
 z66:=Tryz.sizeOf106
 v66:=Tryz.zeroValue106
 t70:=Tryz.underlying110
 a70:=Tryz.isAgg110
 z70:=Tryz.sizeOf110
 v70:=Tryz.zeroValue110
 t76:=Tryz.underlying119
 a76:=Tryz.isAgg119
 z76:=Tryz.sizeOf119
 v76:=Tryz.zeroValue119
 t77:=Tryz.underlying120
 a77:=Tryz.isAgg120
 z77:=Tryz.sizeOf120
 v77:=Tryz.zeroValue120 }
end Go.Proofs

namespace Go.Proofs.YtefbphpgaeffaaaGreatDoor.A
open Go.RowKit Go.Proofs.YtefbphpgaeffaaaGreatDoorW.PrintWords Go.Proofs.YtefbphpgaeffaaaGreatDoorW.PrintLast Go.Proofs.YtefbphpgaeffaaaGreatDoorW.PrintMore
attribute [local go_sem] max2_int min2_int max_two min_two max_three min_three max_four min_four
section
open Go.Shelf Go.Lib Go.Sort
def descL (l:List Int):List Int:=l.mergeSort fun x y=>decide (y≤x)
def smallL (l:List Int):Bool:=decide (l.length≤1000000) && l.all fun x=>decide (0≤x∧x≤1000000)
def impl_ranking.f (l0:List Int):Option (List Int):=if smallL l0=true then some (descL l0) else none
abbrev SmallI:Type:={ x:Int // 0≤x∧x≤1000000 }
instance:Inhabited SmallI:=⟨⟨0,by omega,by omega⟩⟩
def encI (x:SmallI):Value := .int .i64 x.1
def cfI (x y:SmallI):Int:=y.1 - x.1
theorem ltI (x y:SmallI):ltOf cfI x y=decide (y.1<x.1):=by
 unfold ltOf cfI;by_cases h:y.1<x.1
 ·simp [h]
  omega
 ·simp [h]
  omega
theorem swoI:SWO (ltOf cfI) where
 irrefl x:=by rw [ltI];simp
 trans x y z h1 h2:=by rw [ltI] at *;simp at *;omega
 ntrans x y z h1 h2:=by rw [ltI] at *;simp at *;omega
theorem totI (x y:SmallI) (h1:ltOf cfI x y=false) (h2:ltOf cfI y x=false):x=y:=by
 rw [ltI] at *
 simp at *
 exact Subtype.ext (by omega)
theorem geI:(fun x y:SmallI => !ltOf cfI y x)=fun x y=>decide (y.1≤x.1):=by
 funext x y
 rw [ltI];by_cases h:y.1≤x.1
 ·have h':¬ x.1<y.1:=by omega
  simp [h,h']
 ·have h':x.1<y.1:=by omega
  simp [h,h']
theorem ranking_cmp (x y:SmallI) (W:World):Calls Tryz.prog 61 #[encI x,encI y] W fun e w'=>e = .returned (.int .i64 (cfI x y))∧∃ q,w'=W.drewN q:=by
 obtain ⟨x,hx0,hx1⟩:=x;obtain ⟨y,hy0,hy1⟩:=y;unfold encI cfI;go_enter Tryz.func61,Tryz.ntmps61;go_wp2
 go_ret
 exact ⟨rfl,0,rfl⟩
theorem attach_enc (l:List Int) (h:∀ x ∈ l,0≤x∧x≤1000000):(l.attachWith (fun x=>0≤x∧x≤1000000) h).map encI=encs (Value.int .i64) l:=by
 unfold encs;rw [show encI=(Value.int .i64) ∘ Subtype.val from rfl,← List.map_map,List.attachWith_map_subtype_val]
theorem descL_attach (l:List Int) (h:∀ x ∈ l,0≤x∧x≤1000000):((l.attachWith (fun x=>0≤x∧x≤1000000) h).mergeSort fun x y=>decide (y.1≤x.1)).map encI=encs (Value.int .i64) (descL l):=by
 have h1:((l.attachWith (fun x=>0≤x∧x≤1000000) h).mergeSort fun x y=>decide (y.1≤x.1)).map Subtype.val=descL l:=by
  unfold descL;rw [List.map_mergeSort (s:=fun x y=>decide (y≤x)) (fun a _ b _=>rfl),List.attachWith_map_subtype_val]
 unfold encs;rw [← h1,List.map_map];rfl
theorem impl_ranking.calls (A0:Option Addr) (c0:Nat) (l0:List Int) (r:List Int) (w:World) (hr0:Kd.C (Kd.int .i64) w A0 l0.length l0) (hc0:l0.length≤c0) (h:impl_ranking.f l0=some r) :
 Calls Tryz.prog 22 #[.slice A0 l0.length c0] w fun e w'=>∃ v0_:Value,e = .returned (v0_)∧Kd.R (Kd.int .i64) 3 w' w.heap.size (fun _=>True) v0_ r∧Below w.heap.size w w':=by
 have hl:smallL l0=true∧descL l0=r:=by
  unfold impl_ranking.f at h
  by_cases c:smallL l0=true
  ·rw [if_pos c] at h
   exact ⟨c,zbg h⟩
  ·rw [if_neg c] at h
   cases h
 clear h;obtain ⟨hs,rfl⟩:=hl;unfold smallL at hs
 simp only [Bool.and_eq_true,decide_eq_true_eq,List.all_eq_true] at hs
 obtain ⟨hl,hall⟩:=hs;have HCl:=zad (slices_Clone_int_int.calls A0 c0 l0 l0 w hr0 hc0 (by unfold slices_Clone_int_int.f;rw [if_pos (by omega)]));have Hall:=zad hall;have Hl:=zad hl;clear hall hl hr0 hc0;have eg:∀ args w,(callFunc 61 args).run Tryz.prog w = .ok (.enter 61 args) w:=enters_of Tryz.func61 (by kernel_rfl) rfl;have Heg:=zad eg;clear eg;go_enter Tryz.func22,Tryz.ntmps22;go_wp2_with fail
 refine HCl.out.mono ?_
 rintro e w1 ⟨v,rfl,hR,hb⟩
 have ho:=Kd.own_of_R hR;clear hR HCl;have Hb:=zad hb;clear hb;obtain ⟨hlen',hcase⟩:=ho;rcases hcase with ⟨rfl,h0⟩ | ⟨g,cap,cur,rfl,hg,hh,hnc,hcm,hcs,htake⟩
 ·have hnil:l0=[]:=List.length_eq_zero_iff.1 h0
  subst hnil;clear h0 hlen' Hall Hl;have hS:=AnyF.slices_SortFunc_none (P:=Tryz.prog) (ρ:=Tryz.sortL_ren) { Tryz.sortL with } none 0 (.func (.func 61) #[] #[]) w1;change Calls Tryz.prog 60 _ _ _ at hS
  have HS:=zad hS;clear hS;go_wp2_with fail
  refine HS.out.mono ?_
  rintro e w2 ⟨rfl,rfl⟩
  go_wp2
  go_ret
  exact ⟨_,rfl,by unfold descL;simp only [List.mergeSort];exact Kd.R_nil _ _ _ _ _,Hb.out⟩
 ·have hd:(l0.attachWith (fun x=>0≤x∧x≤1000000) Hall.out).toArray.size=l0.length:=by simp
  have hH:=holds_own encI (l0.attachWith (fun x=>0≤x∧x≤1000000) Hall.out).toArray hh hnc hcs hd (by
   rw [htake,List.toList_toArray,attach_enc])
  have hS:=Any.slices_SortFunc_total Tryz.sortL encI (fun _=>rfl) cfI swoI 61 #[] g 0 cap (l0.attachWith (fun x=>0≤x∧x≤1000000) Hall.out).toArray w1 Heg.out
   (CmpReads.lays (fun _ _ _ _ x y=>ranking_cmp x y _)) hH (Array.getElem?_eq_some_iff.1 hh).1 (by have:=Hl.out;rw [hd];omega) totI
  rw [geI,hd] at hS
  change Calls Tryz.prog 60 _ _ _ at hS
  have HS:=zad hS;have HF:Aside0 (∀ m os,Kd.R (Kd.int .i64) 3 (sortWorld encI w1 g 0 m ((l0.attachWith (fun x=>0≤x∧x≤1000000) Hall.out).mergeSort fun x y=>decide (y.1≤x.1)).toArray os) w.heap.size (fun _=>True) (.slice (some ⟨g,0,none⟩) l0.length cap) (descL l0)∧Below w.heap.size w (sortWorld encI w1 g 0 m ((l0.attachWith (fun x=>0≤x∧x≤1000000) Hall.out).mergeSort fun x y=>decide (y.1≤x.1)).toArray os)):=⟨fun m os=>by
   refine ⟨?_,below_sorted encI Hb.out _ os hg⟩
   have hdl:(descL l0).length=l0.length:=List.length_mergeSort l0;have ho:=own_sorted encI (m:=m) ((l0.attachWith (fun x=>0≤x∧x≤1000000) Hall.out).mergeSort fun x y=>decide (y.1≤x.1)).toArray os hg hh hnc hcm hcs (by simp [List.length_mergeSort]);rw [List.toList_toArray,descL_attach] at ho
   exact Kd.R_of_own (by rw [hdl];exact ho) (fun _ _=>trivial)⟩
  clear hS hH hd hh hnc hcm hcs htake hlen' hg;go_wp2_with fail
  refine HS.out.mono ?_
  rintro e w2 ⟨rfl,n,os,rfl⟩
  have hF:=HF.out n os;have HF2:=zad hF;clear hF;generalize sortWorld encI w1 g 0 n ((l0.attachWith (fun x=>0≤x∧x≤1000000) Hall.out).mergeSort fun x y=>decide (y.1≤x.1)).toArray os=w2 at HF2 ⊢
  go_wp2
  go_ret
  exact ⟨_,rfl,HF2.out.1,HF2.out.2⟩
end
end Go.Proofs.YtefbphpgaeffaaaGreatDoor.A
