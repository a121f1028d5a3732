/- What the law FnCarriedLists reaches, part 1: Lean functions with the same answers as the Go functions, the proofs that the Go code comes to these answers, and lemmas about them; no condition beyond those that each theorem names. -/
import Derived.Test.YtmfpgimblifleaaGreatCFnCarriedListsw1
import Derived.Test.YtmfpgimblifleaaGreatProg
import Derived.Below
import Derived.Deep.Draws
import Derived.Deep.AppendLies
import Derived.Maps.AppendAt
import Derived.OwnWalk
import Derived.Laws.BytesArg
import Derived.Laws.MakeOwn
import Derived.Laws.OwnMore
import Derived.Deep.OwnRows
import Derived.Tactics
import Derived.Lib.ConvBytes
import Derived.Laws.Slices
import Derived.WalkKit
import Derived.KernelRfl
import Derived.RowKit3
import Derived.Deep.LoopGhost
import Derived.Deep.QuietTactic
import Derived.BigQuiet
import Derived.WideLaws
import Derived.Deep.DeepCutAuto
import Derived.Deep.CutBlock
import Derived.Deep.RegionHeld3
import Derived.Laws.Rows
import Derived.Lib.AppendStr
import Derived.ArgAppend
import Derived.Laws.IdiomCopy
import Derived.OrdersHeld
import Derived.Laws.BitsLemmas
import Derived.RowKit
import Derived.Shelf.SlicesE.IndexFunc
import Derived.Shelf.SlGeneric
import Derived.Shelf.SlLaysH
import Derived.Ground.SlgfProg
set_option linter.unusedVariables false
set_option linter.unusedSimpArgs false
set_option maxHeartbeats 8000000
set_option maxRecDepth 100000
namespace Go.Proofs.YtmfpgimblifleaaGreat.A
open Go.RowKit Go.Proofs.YtmfpgimblifleaaGreatW.PrintWords Go.Proofs.YtmfpgimblifleaaGreatW.PrintLast Go.Proofs.YtmfpgimblifleaaGreatW.PrintMore
attribute [local go_sem] max2_int min2_int max_two min_two max_three min_three max_four min_four
abbrev zaa:=@List.setIfInBounds_toArray
abbrev zab:=@List.set_cons_zero
abbrev zac:=@List.set_cons_succ
abbrev zad:=@Aside0.mk
abbrev zae:=@pw_below_drewN
abbrev zaf:=@below_drew1
abbrev zag:=@below_alloc
abbrev zah:=@below_set
abbrev zai:=@Kd.R_alloc
abbrev zaj:=@Kd.R_drewN
abbrev zak:=@Kd.R_drew
abbrev zal:=@Kd.C_alloc
abbrev zam:=@Kd.C_drewN
abbrev zan:=@Kd.C_drew
abbrev zao:=@KeepBut.set_
abbrev zap:=@keep_drewN
abbrev zaq:=@keep_drew
abbrev zar:=@keep_alloc
abbrev zas:=@of_decide_eq_true
abbrev zat:=@List.map_toArray
abbrev zau:=@List.map_cons
abbrev zav:=@List.map_nil
abbrev zaw:=@List.length_drop
abbrev zax:=@List.length_take
abbrev zay:=@Option.bind_eq_some_iff
abbrev zaz:=@World.block_lt_of_cell?
abbrev zba:=@decide_eq_true
abbrev zbb:=@Kd.V_alloc
abbrev zbc:=@Kd.V_drewN
abbrev zbd:=@Option.bind_some
abbrev zbe:=@Option.some.inj
abbrev zbf:=@Kd.R_reads'
abbrev zbg:=@below_step
abbrev zbh:=@gate_callee
abbrev zbi:=@Bool.eq_false_iff
abbrev zbj:=@decide_eq_false
abbrev zbk:=@below_size
abbrev zbl:=@Option.some.injEq
abbrev zbm:=@Bool.false_eq_true
abbrev zbn:=@goesL_
abbrev zbo:=@beq_eq_false_iff_ne
abbrev zbp:=@Prod.mk.injEq
abbrev zbq:=@Kd.R_mono
abbrev zbr:=@Kd.R_keep
abbrev zbs:=@KeepBut.trans
abbrev zbt:=@Kd.R_below
abbrev zbu:=@Kd.R_lower
abbrev zbv:=@Kd.R_slice
abbrev zbw:=@i64_w
abbrev zbx:=@i32_w
abbrev zby:=@any_of
abbrev zbz:=@take_ofW
abbrev zca:=@Kd.at_int
abbrev zcb:=@Kd.R_elder'
abbrev zcc:=@Kd.R_new'
abbrev zcd:=@Kd.R_base
abbrev zce:=@Kd.R_lt
abbrev zcf:=@Nat.le_refl
theorem taaa {P:Prop} (h:P:=by first | (with_reducible assumption) | assumption):P:=h
theorem taab {P:Prop} (h:P:=by repeat (first | (with_reducible first | exact HB.out | apply zag | apply zae | apply zaf) | exact HB.out)):P:=h
theorem taac {P:Prop} (h:P:=by simp):P:=h
theorem taad {P:Prop} (h:P:=by first | rfl | (simp;done) | (simp [*];done)):P:=h
theorem taae {P:Prop} (h:P:=by (try simp only [zat,zau,zav]);first | done | rfl | (simp only [zaw,zax];rfl)):P:=h
theorem taaf {P:Prop} (h:P:=by repeat (first | (with_reducible first | exact HK.out | apply zao | apply zap | apply zaq | apply zar) | exact HK.out)):P:=h
theorem taag {P:Prop} (h:P:=by repeat (first | (with_reducible first | exact HI0.out | apply zcg | apply zch | apply zci | apply zcl | apply zcm) | exact HI0.out)):P:=h
theorem taah {P:Prop} (h:P:=by repeat (first | exact Drawn0.refl _ | apply Drawn0.step)):P:=h
theorem taai {P:Prop} (h:P:=by first | rfl | (simp [errW_none,errW_some] <;> rfl) | (simp [*,errW_none,errW_some] <;> rfl)):P:=h
theorem taaj {P:Prop} (h:P:=by repeat (first | (with_reducible first | exact HB.out | apply zag | apply zae | apply zaf | refine zah ?_ (zck HI0.out)) | exact HB.out)):P:=h
theorem taak {P:Prop} (h:P:=by (with_reducible repeat (first | apply zai | apply zaj | apply zak));exact HO_7.out):P:=h
theorem taal {P:Prop} (h:P:=by (with_reducible repeat (first | apply zai | apply zaj | apply zak));exact HO_3.out):P:=h
theorem taam {P:Prop} (h:P:=by (with_reducible repeat (first | apply zai | apply zaj | apply zak));exact HO_5.out):P:=h
theorem taan {P:Prop} (h:P:=by repeat (first | (with_reducible first | exact HB.out | apply zag | apply zae | apply zaf | refine zah ?_ (zck HI402.out)) | exact HB.out)):P:=h
theorem taao {P:Prop} (h:P:=by have:=HK1.out;have:=HK2.out;omega):P:=h
theorem taap {P:Prop} (h:P:=by (with_reducible repeat (first | apply zai | apply zaj | apply zak));exact HO_8.out):P:=h
theorem taaq {P:Prop} (h:P:=by have:=HK1.out;omega):P:=h
theorem taar {P:Prop} (h:P:=by (with_reducible repeat (first | apply zai | apply zaj | apply zak));exact HO_6.out):P:=h
theorem taas {P:Prop} (h:P:=by first | omega | exact zcf _):P:=h
theorem taat {P:Prop} (h:P:=by (with_reducible repeat (first | apply zai | apply zaj | apply zak));exact HO_13.out):P:=h
theorem taau {P:Prop} (h:P:=by (with_reducible repeat (first | apply zai | apply zaj | apply zak));exact HO_14.out):P:=h
theorem taav {P:Prop} (h:P:=by (with_reducible repeat (first | apply Kd.S_alloc | apply Kd.S_drewN | apply Kd.S_drew));exact HO_9.out):P:=h
theorem taaw {P:Prop} (h:P:=by repeat (first | (with_reducible first | exact HI402.out | apply zcg | apply zch | apply zci | apply zcl | apply zcm) | exact HI402.out)):P:=h
theorem taax {P:Prop} (h:P:=by first | exact Kd.R_nil _ _ _ _ _ | exact Kd.N_nil _ _ _ _ _ | exact Kd.V_nil _ _ _ _ _ | exact Kd.Q_nil _ _ _ _ _ | exact Kd.S_nil _ _ _ _ _):P:=h
theorem taay {P:Prop} (h:P:=by repeat (first | (with_reducible first | exact HI509.out | apply zcg | apply zch | apply zci | apply zcl | apply zcm) | exact HI509.out)):P:=h
theorem taaz {P:Prop} (h:P:=by (with_reducible repeat (first | apply Kd.S_alloc | apply Kd.S_drewN | apply Kd.S_drew));exact HO_5.out):P:=h
theorem taba {P:Prop} (h:P:=by (with_reducible repeat (first | apply Kd.S_alloc | apply Kd.S_drewN | apply Kd.S_drew));exact HO_4.out):P:=h
theorem tabb {P:Prop} (h:P:=by (with_reducible repeat (first | apply Kd.S_alloc | apply Kd.S_drewN | apply Kd.S_drew));exact HO_15.out):P:=h
theorem tabc {P:Prop} (h:P:=by repeat (first | (with_reducible first | exact HB.out | apply zag | apply zae | apply zaf | refine zah ?_ (zck HI509.out)) | exact HB.out)):P:=h
theorem tabd {P:Prop} (h:P:=by (with_reducible repeat (first | apply zai | apply zaj | apply zak));exact HO512.out):P:=h
theorem tabe {P:Prop} (h:P:=by (with_reducible repeat (first | apply zai | apply zaj | apply zak));exact HO336.out):P:=h
theorem tabf {P:Prop} (h:P:=by repeat (first | (with_reducible first | exact HBR.out | apply zag | apply zae | apply zaf) | exact HBR.out)):P:=h
theorem tabg {P:Prop} (h:P:=by simpa using h):P:=h
theorem tabh {P:Prop} (h:P:=by repeat (first | exact Below.refl _ _ | apply zag | apply zae | apply zaf)):P:=h
theorem tabi {P:Prop} (h:P:=by (with_reducible repeat (first | apply zai | apply zaj | apply zak));exact HO362.out):P:=h
theorem tabj {P:Prop} (h:P:=by first | (rw [add_block];exact Kd.own_blk (IsS43.own_ne HI0.out HO_7.out (by decide))) | (show (Addr.add _ _).block≠_;rw [add_block];exact Kd.own_blk (IsS43.own_ne HI0.out HO_7.out (by decide))) | exact Kd.own_blk (IsS43.own_ne HI0.out HO_7.out (by decide))):P:=h
theorem tabk {P:Prop} (h:P:=by (with_reducible repeat (first | apply zai | apply zaj | apply zak));exact HO292.out):P:=h
theorem tabl {P:Prop} (h:P:=by repeat (first | (with_reducible exact HR119.out) | (with_reducible refine zal ?_ _) | (with_reducible refine zam ?_ _) | (with_reducible refine zan ?_) | exact HR119.out)):P:=h
theorem tabm {P:Prop} (h:P:=by simp only [putAll,Act.put,zaa,zab,zac]):P:=h
theorem tabn {P:Prop} (h:P:=by repeat (first | (with_reducible exact HR139.out) | (with_reducible refine zal ?_ _) | (with_reducible refine zam ?_ _) | (with_reducible refine zan ?_) | exact HR139.out)):P:=h
theorem tabo {P:Prop} (h:P:=by (with_reducible repeat (first | apply zai | apply zaj | apply zak));exact HO168.out):P:=h
theorem tabp {P:Prop} (h:P:=by (with_reducible repeat (first | apply zai | apply zaj | apply zak));exact HO246.out):P:=h
theorem tabq {P:Prop} (h:P:=by (with_reducible repeat (first | apply zbb | apply zbc | apply Kd.V_drew));exact HO405.out):P:=h
theorem tabr {P:Prop} (h:P:=by (with_reducible repeat (first | apply zai | apply zaj | apply zak));exact HO_10.out):P:=h
theorem tabs {P:Prop} (h:P:=by simp [go_sem]):P:=h
theorem tabt {P:Prop} (h:P:=by first | (simp;done) | (simp;omega)):P:=h
theorem tabu {P:Prop} (h:P:=by (with_reducible repeat (first | apply zai | apply zaj | apply zak));exact HO566.out):P:=h
theorem tabv {P:Prop} (h:P:=by (with_reducible repeat (first | apply zai | apply zaj | apply zak));exact HO568.out):P:=h
theorem tabw {P:Prop} (h:P:=by have:=HK1.out;first | omega | exact zcf _):P:=h
theorem tabx {P:Prop} (h:P:=by first | exact Kd.S_nil _ _ _ _ _ | exact Kd.N_nil _ _ _ _ _ | exact Kd.V_nil _ _ _ _ _ | exact Kd.Q_nil _ _ _ _ _ | exact Kd.R_nil _ _ _ _ _):P:=h
theorem taby {P:Prop} (h:P:=by (with_reducible repeat (first | apply zai | apply zaj | apply zak));exact HO125.out):P:=h
theorem tabz {P:Prop} (h:P:=by (with_reducible repeat (first | apply zai | apply zaj | apply zak));exact HO145.out):P:=h
theorem taca {P:Prop} (h:P:=by (with_reducible repeat (first | apply zai | apply zaj | apply zak));exact HO_4.out):P:=h
theorem tacb {P:Prop} (h:P:=by (try simp only [Int.add_zero]);repeat (first | (with_reducible first | exact HI0.out | apply IsS43.alloc | apply IsS43.drewN | apply IsS43.drew | apply IsS43.set_1 | apply IsS43.set_2) | exact HI0.out)):P:=h
theorem tacc {P:Prop} (h:P:=by repeat (first | (with_reducible first | exact HB.out | apply zag | apply zae | apply zaf | refine zah ?_ (IsS43.ge HI0.out)) | exact HB.out)):P:=h
theorem tacd {P:Prop} (h:P:=by have:=HK1.out;have:=HJ16.out;omega):P:=h
theorem tace {P:Prop} (h:P:=by repeat (first | (with_reducible exact HR132.out) | (with_reducible refine zal ?_ _) | (with_reducible refine zam ?_ _) | (with_reducible refine zan ?_) | exact HR132.out)):P:=h
theorem tacf {P:Prop} (h:P:=by repeat (first | (with_reducible exact HR152.out) | (with_reducible refine zal ?_ _) | (with_reducible refine zam ?_ _) | (with_reducible refine zan ?_) | exact HR152.out)):P:=h
theorem tacg {P:Prop} (h:P:=by have:=HK1.out;have:=HK2.out;have:=HK3.out;omega):P:=h
theorem tach {P:Prop} (h:P:=by (with_reducible repeat (first | apply zai | apply zaj | apply zak));exact HO243.out):P:=h
theorem taci {P:Prop} (h:P:=by (with_reducible repeat (first | apply zai | apply zaj | apply zak));exact HO413.out):P:=h
theorem tacj {P:Prop} (h:P:=by (with_reducible repeat (first | apply zai | apply zaj | apply zak));exact HO416.out):P:=h
theorem tack {P:Prop} (h:P:=by (with_reducible repeat (first | apply zai | apply zaj | apply zak));exact HO551.out):P:=h
theorem tacl {P:Prop} (h:P:=by (with_reducible repeat (first | apply zai | apply zaj | apply zak));exact HO583.out):P:=h
theorem tacm {P:Prop} (h:P:=by rw [List.length_append];simp;omega):P:=h
theorem tacn {P:Prop} (h:P:=by show a1≤a+20;omega):P:=h
theorem taco {P:Prop} (h:P:=by (with_reducible repeat (first | apply zai | apply zaj | apply zak));exact HO344.out):P:=h
theorem tacp {P:Prop} (h:P:=by (with_reducible repeat (first | apply Kd.S_alloc | apply Kd.S_drewN | apply Kd.S_drew));exact Kd.S_mono HO_5.out (fun _ hk=>hk.2)):P:=h
theorem tacq {P:Prop} (h:P:=by (with_reducible repeat (first | apply Kd.S_alloc | apply Kd.S_drewN | apply Kd.S_drew));exact HO296.out):P:=h
theorem tacr {P:Prop} (h:P:=by (with_reducible repeat (first | apply Kd.S_alloc | apply Kd.S_drewN | apply Kd.S_drew));exact HO265.out):P:=h
theorem tacs {P:Prop} (h:P:=by (try simp only [hl17_1]);(try simp only [hl17_2]);(with_reducible repeat (first | apply Kd.S_alloc | apply Kd.S_drewN | apply Kd.S_drew));exact HO_17.out):P:=h
theorem tact {P:Prop} (h:P:=by (with_reducible repeat (first | apply zbb | apply zbc | apply Kd.V_drew));exact HO_5.out):P:=h
theorem tacu {P:Prop} (h:P:=by (with_reducible repeat (first | apply zai | apply zaj | apply zak));exact HO357.out):P:=h
theorem tacv {P:Prop} (h:P:=by (with_reducible repeat (first | apply zai | apply zaj | apply zak));exact HO360.out):P:=h
theorem tacw {P:Prop} (h:P:=by repeat (first | exact HX15.out | apply BX_drewN | apply BX_drew)):P:=h
theorem tacx {P:Prop} (h:P:=by (with_reducible repeat (first | apply Kd.S_alloc | apply Kd.S_drewN | apply Kd.S_drew));exact HO316.out):P:=h
theorem tacy {P:Prop} (h:P:=by have:=HJ7.out;have:=HJ18.out;have:=HJ32.out;first | omega | exact zcf _):P:=h
theorem tacz {P:Prop} (h:P:=by (with_reducible repeat (first | apply zai | apply zaj | apply zak));exact zbq HO362.out (fun _ hk=>hk.2)):P:=h
theorem tada {P:Prop} (h:P:=by (with_reducible repeat (first | apply zai | apply zaj | apply zak));exact zbq HO_6.out (fun _ hk=>⟨trivial,hk⟩)):P:=h
theorem tadb {P:Prop} (h:P:=by (with_reducible repeat (first | apply zai | apply zaj | apply zak));exact zbq HO_6.out (fun _ hk=>hk.2)):P:=h
theorem tadc {P:Prop} (h:P:=by (with_reducible repeat (first | apply zai | apply zaj | apply zak));exact HO518.out):P:=h
theorem tadd {P:Prop} (h:P:=by (with_reducible repeat (first | apply zai | apply zaj | apply zak));exact HO521.out):P:=h
theorem tade {P:Prop} (h:P:=by (with_reducible repeat (first | apply zai | apply zaj | apply zak));exact zbq HO521.out (fun _ hk=>hk.1)):P:=h
theorem tadf {P:Prop} (h:P:=by (with_reducible repeat (first | apply zai | apply zaj | apply zak));exact zbq HO518.out (fun _ hk=>hk.1)):P:=h
theorem tadg {P:Prop} (h:P:=by (with_reducible repeat (first | apply Kd.S_alloc | apply Kd.S_drewN | apply Kd.S_drew));exact HO_3.out):P:=h
theorem tadh {P:Prop} (h:P:=by (with_reducible repeat (first | apply Kd.S_alloc | apply Kd.S_drewN | apply Kd.S_drew));exact HO305.out):P:=h
theorem tadi {P:Prop} (h:P:=by (with_reducible repeat (first | apply zai | apply zaj | apply zak));exact HO311.out):P:=h
theorem tadj {P:Prop} (h:P:=by (try simp only [hl4_1]);(with_reducible repeat (first | apply Kd.S_alloc | apply Kd.S_drewN | apply Kd.S_drew));exact HO_4.out):P:=h
theorem tadk {P:Prop} (h:P:=by (with_reducible repeat (first | apply zai | apply zaj | apply zak));exact HO122.out):P:=h
theorem tadl {P:Prop} (h:P:=by (with_reducible repeat (first | apply zai | apply zaj | apply zak));exact zbq HO122.out (fun _ hk=>⟨hk.2,hk.1.2⟩)):P:=h
theorem tadm {P:Prop} (h:P:=by (with_reducible repeat (first | apply zai | apply zaj | apply zak));exact zbq HO125.out (fun _ hk=>⟨hk.2,hk.1.2⟩)):P:=h
theorem tadn {P:Prop} (h:P:=by (with_reducible repeat (first | apply zai | apply zaj | apply zak));exact zbq HO_3.out (fun _ hk=>⟨hk.1.2,hk.2⟩)):P:=h
theorem tado {P:Prop} (h:P:=by (with_reducible repeat (first | apply zai | apply zaj | apply zak));exact zbq HO_3.out (fun _ hk=>⟨hk.2,hk.1.2⟩)):P:=h
theorem tadp {P:Prop} (h:P:=by (with_reducible repeat (first | apply zai | apply zaj | apply zak));exact zbq HO_3.out (fun _ hk=>⟨hk.2,hk.1⟩)):P:=h
theorem tadq {P:Prop} (h:P:=by (with_reducible repeat (first | apply zai | apply zaj | apply zak));exact HO142.out):P:=h
theorem tadr {P:Prop} (h:P:=by (with_reducible repeat (first | apply zai | apply zaj | apply zak));exact zbq HO142.out (fun _ hk=>⟨hk.2,hk.1.2⟩)):P:=h
theorem tads {P:Prop} (h:P:=by (with_reducible repeat (first | apply zai | apply zaj | apply zak));exact zbq HO145.out (fun _ hk=>⟨hk.2,hk.1.2⟩)):P:=h
theorem tadt {P:Prop} (h:P:=by (with_reducible repeat (first | apply zai | apply zaj | apply zak));exact HO162.out):P:=h
theorem tadu {P:Prop} (h:P:=by (with_reducible repeat (first | apply Kd.S_alloc | apply Kd.S_drewN | apply Kd.S_drew));exact HO_11.out):P:=h
theorem tadv {P:Prop} (h:P:=by (with_reducible repeat (first | apply zai | apply zaj | apply zak));exact HO249.out):P:=h
theorem tadw {P:Prop} (h:P:=by (with_reducible repeat (first | apply zai | apply zaj | apply zak));exact zbq HO246.out (fun _ hk=>⟨hk.1.1,hk.2⟩)):P:=h
theorem tadx {P:Prop} (h:P:=by (try simp only [hl9_2]);(with_reducible repeat (first | apply zai | apply zaj | apply zak));exact HO_7.out):P:=h
theorem tady {P:Prop} (h:P:=by (try simp only [hl9_2]);(with_reducible repeat (first | apply zai | apply zaj | apply zak));exact HO_8.out):P:=h
theorem tadz {P:Prop} (h:P:=by (try simp only [hl9_2]);(with_reducible repeat (first | apply Kd.S_alloc | apply Kd.S_drewN | apply Kd.S_drew));exact HO_9.out):P:=h
theorem taea {P:Prop} (h:P:=by (try simp only [hl17_1]);(try simp only [hl17_2]);(with_reducible repeat (first | apply zai | apply zaj | apply zak));exact HO_15.out):P:=h
theorem taeb {P:Prop} (h:P:=by (try simp only [hl17_1]);(try simp only [hl17_2]);(with_reducible repeat (first | apply zai | apply zaj | apply zak));exact HO_16.out):P:=h
theorem taec {P:Prop} (h:P:=by (try simp only [hl17_1]);(try simp only [hl17_2]);(try simp only [hl17_3]);(with_reducible repeat (first | apply Kd.S_alloc | apply Kd.S_drewN | apply Kd.S_drew));exact HO_17.out):P:=h
theorem taed {P:Prop} (h:P:=by (with_reducible repeat (first | apply zai | apply zaj | apply zak));exact HO428.out):P:=h
theorem taee {P:Prop} (h:P:=by have:=HJ2.out;have:=HJ12.out;have:=HK3.out;have:=HK4.out;omega):P:=h
theorem taef {P:Prop} (h:P:=by (with_reducible repeat (first | apply zai | apply zaj | apply zak));exact HO489.out):P:=h
theorem taeg {P:Prop} (h:P:=by (with_reducible repeat (first | apply zai | apply zaj | apply zak));exact HO499.out):P:=h
theorem taeh {P:Prop} (h:P:=by repeat (first | (with_reducible first | exact HB.out | apply zag | apply zae | apply zaf | refine zah ?_ GE531.out) | exact HB.out)):P:=h
theorem taei {P:Prop} (h:P:=by repeat (first | (with_reducible first | exact HB.out | apply zag | apply zae | apply zaf | refine zah ?_ GB6.out | refine zah ?_ GE531.out) | exact HB.out)):P:=h
theorem taej {P:Prop} (h:P:=by (with_reducible repeat (first | apply zai | apply zaj | apply zak));exact zbq HO357.out (fun _ hk=>hk.2)):P:=h
theorem taek {P:Prop} (h:P:=by (with_reducible repeat (first | apply zai | apply zaj | apply zak));exact zbq HO360.out (fun _ hk=>hk.2)):P:=h
theorem tael {P:Prop} (h:P:=by (with_reducible repeat (first | apply zai | apply zaj | apply zak));exact HO295.out):P:=h
theorem taem {P:Prop} (h:P:=by have:=HJ2.out;have:=HK2.out;have:=HK3.out;have:=HK4.out;omega):P:=h
theorem taen {P:Prop} (h:P:=by (try simp only [zat,zau,zav]);first | done | (simp only [hji38];rfl) | rfl | (simp only [zaw,zax];rfl)):P:=h
theorem taeo {P:Prop} (h:P:=by (with_reducible repeat (first | apply zbb | apply zbc | apply Kd.V_drew));exact HO548.out):P:=h
theorem taep {P:Prop} (h:P:=by (with_reducible repeat (first | apply zai | apply zaj | apply zak));exact HO555.out):P:=h
theorem taeq {P:Prop} (h:P:=by (with_reducible repeat (first | apply zai | apply zaj | apply zak));exact zbq HO551.out (fun _ hk=>hk.1.2)):P:=h
theorem taer {P:Prop} (h:P:=by (with_reducible repeat (first | apply zai | apply zaj | apply zak));exact zbq HO555.out (fun _ hk=>hk.1.2)):P:=h
theorem taes {P:Prop} (h:P:=by (with_reducible repeat (first | apply Kd.S_alloc | apply Kd.S_drewN | apply Kd.S_drew));exact HO572.out):P:=h
theorem taet {P:Prop} (h:P:=by have:=HJ7.out;have:=HJ18.out;first | omega | exact zcf _):P:=h
theorem taeu {P:Prop} (h:P:=by (with_reducible repeat (first | apply Kd.S_alloc | apply Kd.S_drewN | apply Kd.S_drew));exact Kd.S_mono HO572.out (fun _ hk=>⟨hk.1.2,hk.2⟩)):P:=h
theorem taev {P:Prop} (h:P:=by simp only [spec_liSum.l0,if_neg (Int.lt_irrefl _)];exact Ev.now _):P:=h
theorem taew {P:Prop} (h:P:=by simp only [impl_total.l0,if_neg (Int.lt_irrefl _)];exact Ev.now _):P:=h
theorem taex {P:Prop} (h:P:=by simp only [Bool.and_eq_true,Bool.not_eq_true'] at h;exact h):P:=h
theorem taey {P:Prop} (h:P:=by exact taag):P:=h
theorem taez {P:Prop} (h:P:=by exact taay):P:=h
theorem tafa {P:Prop} (h:P:=by rw [hg];exact (zbk (taab))):P:=h
theorem tafb {P:Prop} (h:P:=by rw [Ny267.out];exact Kd.C_take (m:=(t261:Int).toNat) ((zbf (Kd.R_after (ok:=(fun _=>True)) (taam) hg hat)).2.2) KL15.out):P:=h
theorem tafc {P:Prop} (h:P:=by simp only [Bool.and_eq_true,Bool.not_eq_true'];exact ⟨h,by simpa using hs⟩):P:=h
theorem tafd {P:Prop} (h:P:=by (try simp only [zat,zau,zav]);first | done | (rw [show (l0.take (x11_1:Int).toNat).length=x11_1.toNat from (by rw [zax];have h_:(x11_1:Int)≤(l0.length:Int):=zas (taaa);omega)] <;> rfl) | rfl | (simp only [zaw,zax];rfl)):P:=h
theorem tafe {P:Prop} (h:P:=by simp only [Bool.and_eq_true,Bool.not_eq_true'];exact ⟨k,by simpa using ht⟩):P:=h
theorem taff {P:Prop} (h:P:=by exact taey):P:=h
theorem tafg {P:Prop} (h:P:=by exact taez):P:=h
theorem tafh {P:Prop} (h:P:=by exact taff):P:=h
theorem tafi {P:Prop} (h:P:=by exact tafg):P:=h
theorem tafj {P:Prop} (h:P:=by (repeat (first | (with_reducible first | exact HI0.out | apply zcg | apply zch | apply zci | apply zcl | apply zcm) | exact HI0.out));done):P:=h
theorem tafk {P:Prop} (h:P:=by (repeat (first | (with_reducible first | exact HB.out | apply zag | apply zae | apply zaf | refine zah ?_ (zck HI0.out)) | exact HB.out));done):P:=h
theorem tafl {P:Prop} (h:P:=by (repeat (first | exact HR0.out | (with_reducible refine zal ?_ _) | (with_reducible refine zam ?_ _) | (with_reducible refine zan ?_)));done):P:=h
theorem tafm {P:Prop} (h:P:=by (repeat (first | exact (Kd.C_below HR0.out HB.out) | (with_reducible refine zal ?_ _) | (with_reducible refine zam ?_ _) | (with_reducible refine zan ?_)));done):P:=h
theorem tafn {P:Prop} (h:P:=by (repeat (first | exact (zbf HO_7.out).2.2 | (with_reducible refine zal ?_ _) | (with_reducible refine zam ?_ _) | (with_reducible refine zan ?_)));done):P:=h
theorem tafo {P:Prop} (h:P:=by (exact (zbf HO_7.out).2.1);done):P:=h
theorem tafp {P:Prop} (h:P:=by (repeat (first | exact HR1.out | (with_reducible refine zal ?_ _) | (with_reducible refine zam ?_ _) | (with_reducible refine zan ?_)));done):P:=h
theorem tafq {P:Prop} (h:P:=by (repeat (first | exact HR442_0.out | (with_reducible refine zal ?_ _) | (with_reducible refine zam ?_ _) | (with_reducible refine zan ?_)));done):P:=h
theorem tafr {P:Prop} (h:P:=by (repeat (first | exact (zbf HO_8.out).2.2 | (with_reducible refine zal ?_ _) | (with_reducible refine zam ?_ _) | (with_reducible refine zan ?_)));done):P:=h
theorem tafs {P:Prop} (h:P:=by (repeat (first | exact HR461_0.out | (with_reducible refine zal ?_ _) | (with_reducible refine zam ?_ _) | (with_reducible refine zan ?_)));done):P:=h
theorem taft {P:Prop} (h:P:=by (repeat (first | exact (zbf HO_6.out).2.2 | (with_reducible refine zal ?_ _) | (with_reducible refine zam ?_ _) | (with_reducible refine zan ?_)));done):P:=h
theorem tafu {P:Prop} (h:P:=by (repeat (first | exact HR539_0.out | (with_reducible refine zal ?_ _) | (with_reducible refine zam ?_ _) | (with_reducible refine zan ?_)));done):P:=h
theorem tafv {P:Prop} (h:P:=by (repeat (first | exact HR540_0.out | (with_reducible refine zal ?_ _) | (with_reducible refine zam ?_ _) | (with_reducible refine zan ?_)));done):P:=h
theorem tafw {P:Prop} (h:P:=by (repeat (first | exact HR300.out | (with_reducible refine zal ?_ _) | (with_reducible refine zam ?_ _) | (with_reducible refine zan ?_)));done):P:=h
theorem tafx {P:Prop} (h:P:=by (repeat (first | exact (tabl) | (with_reducible refine zal ?_ _) | (with_reducible refine zam ?_ _) | (with_reducible refine zan ?_)));done):P:=h
theorem tafy {P:Prop} (h:P:=by (repeat (first | exact (tabn) | (with_reducible refine zal ?_ _) | (with_reducible refine zam ?_ _) | (with_reducible refine zan ?_)));done):P:=h
theorem tafz {P:Prop} (h:P:=by (repeat (first | exact HR237_0.out | (with_reducible refine zal ?_ _) | (with_reducible refine zam ?_ _) | (with_reducible refine zan ?_)));done):P:=h
theorem taga {P:Prop} (h:P:=by (repeat (first | exact (Kd.V_reads' HO0.out).2.2 | (with_reducible refine zal ?_ _) | (with_reducible refine zam ?_ _) | (with_reducible refine zan ?_)));done):P:=h
theorem tagb {P:Prop} (h:P:=by (repeat (first | exact (Kd.S_reads' HO_9.out).2.2 | (with_reducible refine zal ?_ _) | (with_reducible refine zam ?_ _) | (with_reducible refine zan ?_)));done):P:=h
theorem tagc {P:Prop} (h:P:=by (repeat (first | exact (Kd.C_below HR1.out HB.out) | (with_reducible refine zal ?_ _) | (with_reducible refine zam ?_ _) | (with_reducible refine zan ?_)));done):P:=h
abbrev tagd:Array Bool:=#[true,false,false,false,false,false,false,false,false,false,false,false,false,false,false,false,false,false,false,false]
abbrev tage:Array Bool:=#[true,true,false,false,false,false,false,false,false,false,false,false,false,false,false,false,false,false,false,false]
abbrev tagf:Array Bool:=#[true,true,true,false,false,false,false,false,false,false,false,false,false,false,false,false,false,false,false,false]
abbrev tagg:Array Bool:=#[true,true,true,true,false,false,false,false,false,false,false,false,false,false,false,false,false,false,false,false]
abbrev tagh:Array Bool:=#[true,true,true,true,true,false,false,false,false,false,false,false,false,false,false,false,false,false,false,false]
abbrev tagi:Array Bool:=#[true,true,true,true,true,true,false,false,false,false,false,false,false,false,false,false,false,false,false,false]
abbrev tagj:Array Bool:=#[true,true,true,true,true,true,true,false,false,false,false,false,false,false,false,false,false,false,false,false]
abbrev tagk:Array Bool:=#[true,true,true,true,true,true,true,true,false,false,false,false,false,false,false,false,false,false,false,false]
abbrev tagl:Array Bool:=#[true,true,true,true,true,true,true,true,true,false,false,false,false,false,false,false,false,false,false,false]
abbrev tagm:Array Bool:=#[true,true,true,true,true,true,true,true,true,false,true,false,false,false,false,false,false,false,false,false]
abbrev tagn:Array Bool:=#[true,true,true,true,true,true,true,true,true,false,true,true,false,false,false,false,false,false,false,false]
abbrev tago:Array Bool:=#[true,true,true,true,true,true,true,true,true,false,true,true,true,false,false,false,false,false,false,false]
abbrev tagp:Array Bool:=#[true,true,true,true,true,true,true,true,true,true,true,true,true,false,false,false,false,false,false,false]
abbrev tagq:Array Bool:=#[true,true,true,true,true,true,true,true,true,true,true,true,true,true,false,false,false,false,false,false]
abbrev tagr:Array Bool:=#[true,true,true,true,true,true,true,true,true,true,true,true,true,true,true,false,false,false,false,false]
abbrev tags:Array Bool:=#[true,true,true,true,true,true,true,true,true,true,true,true,true,true,true,true,false,false,false,false]
abbrev tagt:Array Bool:=#[true,true,true,true,true,true,true,true,true,true,true,true,true,true,true,true,true,false,false,false]
abbrev tagu:Array Bool:=#[true,true,true,true,true,true,true,true,true,true,true,true,true,true,true,true,true,true,false,false]
abbrev tagv:Array Bool:=#[true,true,true,true,true,true,true,true,true,true,true,true,true,true,true,true,true,true,true,false]
abbrev tagw:Array Bool:=#[true,true,true,true,true,true,true,true,true,true,true,true,true,true,true,true,true,true,true,true]
abbrev tagx:Array Bool:=#[true,false,false,false,false,false,false,false,false,false,false,false,false,false,false,false,false]
abbrev tagy:Array Bool:=#[true,true,false,false,false,false,false,false,false,false,false,false,false,false,false,false,false]
abbrev tagz:Array Bool:=#[true,true,true,false,false,false,false,false,false,false,false,false,false,false,false,false,false]
abbrev taha:Array Bool:=#[true,true,true,true,false,false,false,false,false,false,false,false,false,false,false,false,false]
abbrev tahb:Array Bool:=#[true,true,true,true,true,false,false,false,false,false,false,false,false,false,false,false,false]
abbrev tahc:Array Bool:=#[true,true,true,true,true,true,false,false,false,false,false,false,false,false,false,false,false]
abbrev tahd:Array Bool:=#[true,true,true,true,true,true,false,true,false,false,false,false,false,false,false,false,false]
abbrev tahe:Array Bool:=#[true,true,true,true,true,true,false,true,true,false,false,false,false,false,false,false,false]
abbrev tahf:Array Bool:=#[true,true,true,true,true,true,false,true,true,true,false,false,false,false,false,false,false]
abbrev tahg:Array Bool:=#[true,true,true,true,true,true,false,true,true,true,false,false,true,false,false,false,false]
abbrev tahh:Array Bool:=#[true,true,true,true,true,true,false,true,true,true,false,false,true,false,true,false,false]
abbrev tahi:Array Bool:=#[true,true,true,true,true,true,true,true,true,true,false,false,true,false,true,false,false]
abbrev tahj:Array Bool:=#[true,true,true,true,true,true,true,true,true,true,true,false,true,false,true,false,false]
abbrev tahk:Array Bool:=#[true,true,true,true,true,true,true,true,true,true,true,true,true,false,true,false,false]
abbrev tahl:Array Bool:=#[true,true,true,false,true,false,false,false,false,false,false,false,false,false,false,false,false,false,false,false]
abbrev tahm:Array Bool:=#[true,true,true,false,true,true,false,false,false,false,false,false,false,false,false,false,false,false,false,false]
abbrev tahn:Array Bool:=#[true,true,true,false,true,true,true,false,false,false,false,false,false,false,false,false,false,false,false,false]
abbrev taho:Array Bool:=#[true,false,false,false,false,false,false,false,false]
abbrev tahp:Array Bool:=#[true,true,false,false,false,false,false,false,false]
abbrev tahq:Array Bool:=#[true,true,true,false,false,false,false,false,false]
abbrev tahr:Array Bool:=#[true,true,true,false,true,false,false,false,false]
abbrev tahs:Array Bool:=#[true,true,true,false,true,true,false,false,false]
abbrev taht:Array Bool:=#[true,true,true,false,true,true,true,false,false]
abbrev tahu:Array Bool:=#[true,true,true,true,true,true,true,false,false]
abbrev tahv:Array Bool:=#[true,true,true,true,true,true,true,true,false]
abbrev tahw:Array Bool:=#[true,true,true,true,true,true,true,true,true]
def errW:Option Int→Value
 | none => .nilIface
 | some c => .iface 0 (.int .i64 c)
theorem errW_none:errW none = .nilIface:=rfl
theorem errW_some (c:Int):errW (some c) = .iface 0 (.int .i64 c):=rfl
theorem info3:(Tryz.prog.info? 3).map (fun i=>(i.zero,i.size,i.bytes))=some (some (.int .i64 0),1,8):=by kernel_rfl
theorem info25:(Tryz.prog.info? 25).map (fun i=>(i.zero,i.size,i.bytes))=some (some (.slice none 0 0),1,24):=by kernel_rfl
def rd_L2 (xs:List (List Int)) (i:Int):(List Int):=xs.getD i.toNat ([]:List Int)
theorem at_L2 {w:World} {A:Option Addr} {n:Nat} {xs:List (List Int)} (h:Kd.C (Kd.slice 3 (Kd.int .i64)) w A n xs) (i:Int) (h0:0≤i) (h1:i<n):∃ ad A0 c0,A=some ad∧w.cell? (ad.add i.toNat)=some (.slice A0 (rd_L2 xs i).length c0)∧(rd_L2 xs i).length≤c0∧(Kd.int .i64).C w A0 (rd_L2 xs i).length (rd_L2 xs i):=by
 obtain ⟨ad,c,e,_,hK,hc0⟩:=Kd.C_get h ([]:List Int) i h0 h1
 have hc:∀ j u,c[j]? = some u→w.cell? (ad.add (i.toNat*1+j))=some u:=hc0
 obtain ⟨A0,c0,rfl,l0,g0⟩:=hK
 exact ⟨ad,A0,c0,e,by have hq:=hc 0 _ rfl;rwa [Nat.mul_one,Nat.add_zero] at hq,l0,g0⟩
def IsS43 (w0 W:World) (g:Nat) (f0:List Int) (f1:Int) (f2:Int):Prop:=∃ A0 c0,W.heap[g]? = some (.cells #[.slice A0 f0.length c0,.int .i64 f1,.int .u64 f2] 43 (0,0))∧w0.heap.size≤g∧Kd.C (Kd.int .u8) w0 A0 f0.length f0
theorem IsS43.grown {w0 W:World} {g:Nat} {f0:List Int} {f1:Int} {f2:Int} {W1:World} {row:Option Nat} (h:IsS43 w0 W g f0 f1 f2) (hw:W.grownBy W1 row) (hne:some g≠row):IsS43 w0 W1 g f0 f1 f2:=by
 obtain ⟨A0,c0,hb,hg,hr0⟩:=h
 exact ⟨A0,c0,blk_grown hb hw hne,hg,hr0⟩
theorem IsS43.fresh {w0 W:World} {g:Nat} {f0:List Int} {f1:Int} {f2:Int} (h:IsS43 w0 W g f0 f1 f2):∀ k,W.heap.size≤k→k≠g:=by
 obtain ⟨A0,c0,hb,hg,hr0⟩:=h
 exact Kd.freshB hb
theorem IsS43.below {w0 W:World} {g:Nat} {f0:List Int} {f1:Int} {f2:Int} {W1:World} (h:IsS43 w0 W g f0 f1 f2) (hw:Below W.heap.size W W1):IsS43 w0 W1 g f0 f1 f2:=h.grown (grown_of_below hw none) (taac)
theorem IsS43.alloc {w0 W:World} {g:Nat} {f0:List Int} {f1:Int} {f2:Int} (h:IsS43 w0 W g f0 f1 f2) (o:Obj):IsS43 w0 (W.alloc o) g f0 f1 f2:=h.below (zag (Below.refl _ _) o)
theorem IsS43.drewN {w0 W:World} {g:Nat} {f0:List Int} {f1:Int} {f2:Int} (h:IsS43 w0 W g f0 f1 f2) (m:Nat):IsS43 w0 (W.drewN m) g f0 f1 f2:=h
theorem IsS43.drew {w0 W:World} {g:Nat} {f0:List Int} {f1:Int} {f2:Int} (h:IsS43 w0 W g f0 f1 f2):IsS43 w0 W.drew g f0 f1 f2:=h
theorem IsS43.apart {w0 W:World} {g:Nat} {f0:List Int} {f1:Int} {f2:Int} {α:Type} {d:Kd α} {e:Nat} {base:Nat} {ok:Nat→Prop} {v:Value} {xs:List α} (h:IsS43 w0 W g f0 f1 f2) (ho:d.R e W base ok v xs) (ht:∀ q,q ∈ e :: d.E→q≠43):d.R e W base (fun k=>ok k∧k≠g) v xs:=by
 obtain ⟨A0,c0,hb,hg,hr0⟩:=h
 exact Kd.R_types ho hb ht
theorem IsS43.own_ne {w0 W:World} {g:Nat} {f0:List Int} {f1:Int} {f2:Int} {α:Type} {d:Kd α} {e:Nat} {base:Nat} {ok:Nat→Prop} {v:Value} {xs:List α} (h:IsS43 w0 W g f0 f1 f2) (ho:d.R e W base ok v xs) (ht:e≠43):some g≠v.ownBlock:=by
 obtain ⟨A0,c0,hb,hg,hr0⟩:=h
 exact Kd.R_ne ho hb ht
theorem IsS43.apartS {w0 W:World} {g:Nat} {f0:List Int} {f1:Int} {f2:Int} {α:Type} {d:Kd α} {e:Nat} {base:Nat} {ok:Nat→Prop} {v:Value} {xs:List α} (h:IsS43 w0 W g f0 f1 f2) (ho:d.S e W base ok v xs) (ht:∀ q,q ∈ e :: d.E→q≠43):d.S e W base (fun k=>ok k∧k≠g) v xs:=by
 obtain ⟨A0,c0,hb,hg,hr0⟩:=h
 exact Kd.S_types ho hb ht
theorem IsS43.own_neS {w0 W:World} {g:Nat} {f0:List Int} {f1:Int} {f2:Int} {α:Type} {d:Kd α} {e:Nat} {base:Nat} {ok:Nat→Prop} {v:Value} {xs:List α} (h:IsS43 w0 W g f0 f1 f2) (ho:d.S e W base ok v xs) (ht:e≠43):some g≠v.ownBlock:=by
 obtain ⟨A0,c0,hb,hg,hr0⟩:=h
 exact Kd.S_ne ho hb ht
theorem IsS43.lt {w0 W:World} {g:Nat} {f0:List Int} {f1:Int} {f2:Int} (h:IsS43 w0 W g f0 f1 f2):g<W.heap.size:=by
 obtain ⟨A0,c0,hb,hg,hr0⟩:=h
 exact blk_lt hb
theorem IsS43.ge {w0 W:World} {g:Nat} {f0:List Int} {f1:Int} {f2:Int} (h:IsS43 w0 W g f0 f1 f2):w0.heap.size≤g:=by
 obtain ⟨A0,c0,hb,hg,hr0⟩:=h
 exact hg
theorem cellS43_0 {W:World} {g:Nat} {A0:Option Addr} {c0:Nat} {f0:List Int} {f1:Int} {f2:Int} (h:W.heap[g]? = some (.cells #[.slice A0 f0.length c0,.int .i64 f1,.int .u64 f2] 43 (0,0))):W.cell? ⟨g,0,none⟩=some (.slice A0 f0.length c0):=(blk_cell h 0).trans rfl
theorem cellS43_1 {W:World} {g:Nat} {A0:Option Addr} {c0:Nat} {f0:List Int} {f1:Int} {f2:Int} (h:W.heap[g]? = some (.cells #[.slice A0 f0.length c0,.int .i64 f1,.int .u64 f2] 43 (0,0))):W.cell? ⟨g,1,none⟩=some (.int .i64 f1):=(blk_cell h 1).trans rfl
theorem IsS43.set_1 {w0 W:World} {g:Nat} {f0:List Int} {f1:Int} {f2:Int} (h:IsS43 w0 W g f0 f1 f2) (x:Int):IsS43 w0 (W.setCell ⟨g,1,none⟩ (.int .i64 x)) g f0 x f2:=by
 obtain ⟨A0,c0,hb,hg,hr0⟩:=h
 exact ⟨A0,c0,by simpa using blk_set hb 1 (.int .i64 x),hg,hr0⟩
theorem cellS43_2 {W:World} {g:Nat} {A0:Option Addr} {c0:Nat} {f0:List Int} {f1:Int} {f2:Int} (h:W.heap[g]? = some (.cells #[.slice A0 f0.length c0,.int .i64 f1,.int .u64 f2] 43 (0,0))):W.cell? ⟨g,2,none⟩=some (.int .u64 f2):=(blk_cell h 2).trans rfl
theorem IsS43.set_2 {w0 W:World} {g:Nat} {f0:List Int} {f1:Int} {f2:Int} (h:IsS43 w0 W g f0 f1 f2) (x:Int):IsS43 w0 (W.setCell ⟨g,2,none⟩ (.int .u64 x)) g f0 f1 x:=by
 obtain ⟨A0,c0,hb,hg,hr0⟩:=h
 exact ⟨A0,c0,by simpa using blk_set hb 2 (.int .u64 x),hg,hr0⟩
def spec_l1Cur_next.f (s0_0:List Int) (s0_1:Int) (s0_2:Int):Option (Int × Int × Int):=if s0_1<(s0_0.length:Int) then (if 0≤s0_1 then (if (wrap64 (s0_1+1))≤(s0_0.length:Int) then (some (wrap64 (rd s0_0 s0_1),wrap64 (s0_1+1),IntKind.u64.wrap ((IntKind.u64.wrap ((IntKind.u64.wrap (s0_2*6364136223846793005))+(IntKind.u64.wrap (wrap64 (rd s0_0 s0_1)))))+1442695040888963407))) else (some (wrap64 (Go.bits .and .u64 ((IntKind.u64.wrap ((IntKind.u64.wrap ((IntKind.u64.wrap (s0_2*6364136223846793005))+(IntKind.u64.wrap (wrap64 (rd s0_0 s0_1)))))+1442695040888963407)) / 1099511627776) 255),wrap64 (s0_1+1),IntKind.u64.wrap ((IntKind.u64.wrap ((IntKind.u64.wrap (s0_2*6364136223846793005))+(IntKind.u64.wrap (wrap64 (rd s0_0 s0_1)))))+1442695040888963407)))) else (none)) else (if (wrap64 (s0_1+1))≤(s0_0.length:Int) then (some (0,wrap64 (s0_1+1),IntKind.u64.wrap ((IntKind.u64.wrap ((IntKind.u64.wrap (s0_2*6364136223846793005))+0))+1442695040888963407))) else (some (wrap64 (Go.bits .and .u64 ((IntKind.u64.wrap ((IntKind.u64.wrap ((IntKind.u64.wrap (s0_2*6364136223846793005))+0))+1442695040888963407)) / 1099511627776) 255),wrap64 (s0_1+1),IntKind.u64.wrap ((IntKind.u64.wrap ((IntKind.u64.wrap (s0_2*6364136223846793005))+0))+1442695040888963407))))
theorem spec_l1Cur_next.calls (g:Nat) (s0_0:List Int) (s0_1:Int) (s0_2:Int) (r1:Int) (r2:Int) (r3:Int) (w0 w:World) (hI:IsS43 w0 w g s0_0 s0_1 s0_2) (hB:Below w0.heap.size w0 w) (h:spec_l1Cur_next.f s0_0 s0_1 s0_2=some (r1,r2,r3)) :
 Calls Tryz.prog 53 #[.pointer (some ⟨g,0,none⟩)] w fun e w'=>e = .returned (.int .i64 r1)∧IsS43 w0 w' g s0_0 r2 r3∧Below w0.heap.size w0 w'∧KeepBut w w' g none:=by
 have HI0:=zad hI;have HK:=zad (KeepBut.refl w g none)
 have HL:=zad hB.size;clear hI;have HW0:=zad hB.size;have HB:=zad hB;clear hB;have H:(if s0_1<(s0_0.length:Int) then (if 0≤s0_1 then (if (wrap64 (s0_1+1))≤(s0_0.length:Int) then (some (wrap64 (rd s0_0 s0_1),wrap64 (s0_1+1),IntKind.u64.wrap ((IntKind.u64.wrap ((IntKind.u64.wrap (s0_2*6364136223846793005))+(IntKind.u64.wrap (wrap64 (rd s0_0 s0_1)))))+1442695040888963407))) else (some (wrap64 (Go.bits .and .u64 ((IntKind.u64.wrap ((IntKind.u64.wrap ((IntKind.u64.wrap (s0_2*6364136223846793005))+(IntKind.u64.wrap (wrap64 (rd s0_0 s0_1)))))+1442695040888963407)) / 1099511627776) 255),wrap64 (s0_1+1),IntKind.u64.wrap ((IntKind.u64.wrap ((IntKind.u64.wrap (s0_2*6364136223846793005))+(IntKind.u64.wrap (wrap64 (rd s0_0 s0_1)))))+1442695040888963407)))) else (none)) else (if (wrap64 (s0_1+1))≤(s0_0.length:Int) then (some (0,wrap64 (s0_1+1),IntKind.u64.wrap ((IntKind.u64.wrap ((IntKind.u64.wrap (s0_2*6364136223846793005))+0))+1442695040888963407))) else (some (wrap64 (Go.bits .and .u64 ((IntKind.u64.wrap ((IntKind.u64.wrap ((IntKind.u64.wrap (s0_2*6364136223846793005))+0))+1442695040888963407)) / 1099511627776) 255),wrap64 (s0_1+1),IntKind.u64.wrap ((IntKind.u64.wrap ((IntKind.u64.wrap (s0_2*6364136223846793005))+0))+1442695040888963407)))))=some (r1,r2,r3):=h
 clear h;by_cases c2:s0_1<(s0_0.length:Int)
 ·rw [if_pos c2] at H
  have c2b0:decide (s0_1<(s0_0.length:Int))=true:=zba c2
  clear c2;by_cases c3:0≤s0_1
  ·rw [if_pos c3] at H
   have c3b0:decide (0≤s0_1)=true:=zba c3
   clear c3;by_cases c4:(wrap64 (s0_1+1))≤(s0_0.length:Int)
   ·rw [if_pos c4] at H
    have c4b0:decide ((wrap64 (s0_1+1))≤(s0_0.length:Int))=true:=zba c4
    clear c4;simp only [zbl,zbp] at H
    obtain ⟨rfl,rfl,rfl⟩:=H
    obtain ⟨ASz5_0,cSz5_0,HGz5,hgz5,HSz5_0⟩:=HI0.out
    have hcz5_0:=cellS43_0 HGz5;have hcz5_1:=cellS43_1 HGz5;have hcz5_2:=cellS43_2 HGz5;have hfz5_1:=blk_frozen HGz5 1
    have hfz5_2:=blk_frozen HGz5 2
    clear HGz5 hgz5;have p241:0≤(s0_1:Int):=zas (taaa)
    have q241:s0_1<(s0_0.length:Int):=zas (taaa)
    obtain ⟨ad241,e241,hx241_0⟩:=zca HSz5_0 s0_1 p241 q241
    cases e241
    replace hx241_0:=pw_cell_below HB.out hx241_0
    replace p241:=eq_true p241
    replace q241:=eq_true q241
    go_enter Tryz.func53,Tryz.ntmps53
    go_wp2
    repeat (go_quiet (fail);try go_wp2)
    go_ret
    exact ⟨taai,tacb,tacc,taaf⟩
   ·rw [if_neg c4] at H
    have c4b0:decide ((wrap64 (s0_1+1))≤(s0_0.length:Int))=false:=zbj c4
    clear c4;simp only [zbl,zbp] at H
    obtain ⟨rfl,rfl,rfl⟩:=H
    obtain ⟨ASz6_0,cSz6_0,HGz6,hgz6,HSz6_0⟩:=HI0.out
    have hcz6_0:=cellS43_0 HGz6;have hcz6_1:=cellS43_1 HGz6;have hcz6_2:=cellS43_2 HGz6;have hfz6_1:=blk_frozen HGz6 1
    have hfz6_2:=blk_frozen HGz6 2
    clear HGz6 hgz6;have p241:0≤(s0_1:Int):=zas (taaa)
    have q241:s0_1<(s0_0.length:Int):=zas (taaa)
    obtain ⟨ad241,e241,hx241_0⟩:=zca HSz6_0 s0_1 p241 q241
    cases e241
    replace hx241_0:=pw_cell_below HB.out hx241_0
    replace p241:=eq_true p241
    replace q241:=eq_true q241
    go_enter Tryz.func53,Tryz.ntmps53
    go_wp2
    repeat (go_quiet (fail);try go_wp2)
    go_ret
    exact ⟨taai,tacb,tacc,taaf⟩
  ·rw [if_neg c3] at H
   exact absurd H (taac)
 ·rw [if_neg c2] at H
  have c2b0:decide (s0_1<(s0_0.length:Int))=false:=zbj c2
  clear c2;by_cases c7:(wrap64 (s0_1+1))≤(s0_0.length:Int)
  ·rw [if_pos c7] at H
   have c7b0:decide ((wrap64 (s0_1+1))≤(s0_0.length:Int))=true:=zba c7
   clear c7;simp only [zbl,zbp] at H
   obtain ⟨rfl,rfl,rfl⟩:=H
   obtain ⟨ASz8_0,cSz8_0,HGz8,hgz8,HSz8_0⟩:=HI0.out
   have hcz8_0:=cellS43_0 HGz8;have hcz8_1:=cellS43_1 HGz8;have hcz8_2:=cellS43_2 HGz8;have hfz8_1:=blk_frozen HGz8 1
   have hfz8_2:=blk_frozen HGz8 2
   clear HGz8 hgz8;go_enter Tryz.func53,Tryz.ntmps53
   go_wp2
   repeat (go_quiet (fail);try go_wp2)
   go_ret
   exact ⟨taai,tacb,tacc,taaf⟩
  ·rw [if_neg c7] at H
   have c7b0:decide ((wrap64 (s0_1+1))≤(s0_0.length:Int))=false:=zbj c7
   clear c7;simp only [zbl,zbp] at H
   obtain ⟨rfl,rfl,rfl⟩:=H
   obtain ⟨ASz9_0,cSz9_0,HGz9,hgz9,HSz9_0⟩:=HI0.out
   have hcz9_0:=cellS43_0 HGz9;have hcz9_1:=cellS43_1 HGz9;have hcz9_2:=cellS43_2 HGz9;have hfz9_1:=blk_frozen HGz9 1
   have hfz9_2:=blk_frozen HGz9 2
   clear HGz9 hgz9;go_enter Tryz.func53,Tryz.ntmps53
   go_wp2
   repeat (go_quiet (fail);try go_wp2)
   go_ret
   exact ⟨taai,tacb,tacc,taaf⟩
abbrev zcg:=@IsS43.alloc
abbrev zch:=@IsS43.drewN
abbrev zci:=@IsS43.drew
abbrev zcj:=@IsS43.apart
abbrev zck:=@IsS43.ge
abbrev zcl:=@IsS43.set_1
abbrev zcm:=@IsS43.set_2
def spec_l1Cur_pick.f (s0_0:List Int) (s0_1:Int) (s0_2:Int) (a1:Int):Option (Int × Int × Int):=if a1≤1 then (some (0,s0_1,s0_2)) else ((spec_l1Cur_next.f s0_0 s0_1 s0_2).bind fun bt242=>(if a1>200 then ((spec_l1Cur_next.f s0_0 bt242.2.1 bt242.2.2).bind fun bt245=>(if a1=0 then (none) else (some (Int.tmod (wrap64 ((wrap64 (bt242.1*256))+bt245.1)) a1,bt245.2.1,bt245.2.2)))) else (if a1=0 then (none) else (some (Int.tmod bt242.1 a1,bt242.2.1,bt242.2.2)))))
theorem spec_l1Cur_pick.calls (g:Nat) (s0_0:List Int) (s0_1:Int) (s0_2:Int) (a1:Int) (r1:Int) (r2:Int) (r3:Int) (w0 w:World) (hI:IsS43 w0 w g s0_0 s0_1 s0_2) (hB:Below w0.heap.size w0 w) (h:spec_l1Cur_pick.f s0_0 s0_1 s0_2 a1=some (r1,r2,r3)) :
 Calls Tryz.prog 18 #[.pointer (some ⟨g,0,none⟩),.int .i64 a1] w fun e w'=>e = .returned (.int .i64 r1)∧IsS43 w0 w' g s0_0 r2 r3∧Below w0.heap.size w0 w'∧KeepBut w w' g none:=by
 have HI0:=zad hI;have HK:=zad (KeepBut.refl w g none)
 have HL:=zad hB.size;clear hI;have HW0:=zad hB.size;have HB:=zad hB;clear hB;have H:(if a1≤1 then (some (0,s0_1,s0_2)) else ((spec_l1Cur_next.f s0_0 s0_1 s0_2).bind fun bt242=>(if a1>200 then ((spec_l1Cur_next.f s0_0 bt242.2.1 bt242.2.2).bind fun bt245=>(if a1=0 then (none) else (some (Int.tmod (wrap64 ((wrap64 (bt242.1*256))+bt245.1)) a1,bt245.2.1,bt245.2.2)))) else (if a1=0 then (none) else (some (Int.tmod bt242.1 a1,bt242.2.1,bt242.2.2))))))=some (r1,r2,r3):=h
 clear h;by_cases c3:a1≤1
 ·rw [if_pos c3] at H
  have c3b0:decide (a1≤1)=true:=zba c3
  clear c3;simp only [zbl,zbp] at H
  obtain ⟨rfl,rfl,rfl⟩:=H
  go_enter Tryz.func18,Tryz.ntmps18
  go_wp2
  go_ret
  exact ⟨taai,taag,taaj,taaf⟩
 ·rw [if_neg c3] at H
  have c3b0:decide (a1≤1)=false:=zbj c3
  clear c3;replace H:=zay.mp H;obtain ⟨⟨t242,t243,t244⟩,A40,H⟩:=H
  replace H:(if a1>200 then ((spec_l1Cur_next.f s0_0 t243 t244).bind fun bt245=>(if a1=0 then (none) else (some (Int.tmod (wrap64 ((wrap64 (t242*256))+bt245.1)) a1,bt245.2.1,bt245.2.2)))) else (if a1=0 then (none) else (some (Int.tmod t242 a1,t243,t244))))=some (r1,r2,r3):=H
  have A4:=zad A40;clear A40;by_cases c5:a1>200
  ·rw [if_pos c5] at H
   have c5b0:decide (200<a1)=true:=zba c5
   clear c5;replace H:=zay.mp H;obtain ⟨⟨t245,t246,t247⟩,A60,H⟩:=H
   replace H:(if a1=0 then (none) else (some (Int.tmod (wrap64 ((wrap64 (t242*256))+t245)) a1,t246,t247)))=some (r1,r2,r3):=H
   have A6:=zad A60;clear A60;by_cases c7:a1=0
   ·rw [if_pos c7] at H
    exact absurd H (taac)
   ·rw [if_neg c7] at H
    have c7b0:(a1 == 0)=false:=zbo.mpr c7
    have c7b1:(a1 != 0)=true:=bne_iff_ne.mpr c7
    simp only [zbl,zbp] at H
    obtain ⟨rfl,rfl,rfl⟩:=H
    go_enter Tryz.func18,Tryz.ntmps18
    go_wp2_with (first | ((with_reducible refine zbh (f:=53) rfl ?_);refine zbn (some 9) rfl rfl Tryz.func53 (by kernel_rfl) rfl #[.pointer (some ⟨g,0,none⟩)] rfl (taae) ?_;(with_reducible refine (spec_l1Cur_next.calls g s0_0 s0_1 s0_2 t242 t243 t244 w0 _ ?side1 ?side2 A4.out).mono ?_);(case side1=>repeat (first | (with_reducible first | exact HI0.out | apply zcg | apply zch | apply zci | apply zcl | apply zcm) | exact HI0.out));(case side2=>repeat (first | (with_reducible first | exact HB.out | apply zag | apply zae | apply zaf | refine zah ?_ (zck HI0.out)) | exact HB.out));rintro e w8 ⟨rfl,hi,hb,hk⟩;refine ⟨_,rfl,?_⟩;have n0_:=zad (zbs (taaf) hk (.inl rfl));have n1_:=zad (hb);have n2_:=zad (hi);clear HK HB HI0;have HK:=n0_;have HB:=n1_;have HI0:=n2_;clear n0_ n1_ n2_;(try clear hb);(try clear hb2);(try clear hk);(try clear hi)) | ((with_reducible refine zbh (f:=53) rfl ?_);refine zbn (some 15) rfl rfl Tryz.func53 (by kernel_rfl) rfl #[.pointer (some ⟨g,0,none⟩)] rfl (taae) ?_;(with_reducible refine (spec_l1Cur_next.calls g s0_0 t243 t244 t245 t246 t247 w0 _ ?side1 ?side2 A6.out).mono ?_);(case side1=>repeat (first | (with_reducible first | exact HI0.out | apply zcg | apply zch | apply zci | apply zcl | apply zcm) | exact HI0.out));(case side2=>repeat (first | (with_reducible first | exact HB.out | apply zag | apply zae | apply zaf | refine zah ?_ (zck HI0.out)) | exact HB.out));rintro e w9 ⟨rfl,hi,hb,hk⟩;refine ⟨_,rfl,?_⟩;have n0_:=zad (zbs (taaf) hk (.inl rfl));have n1_:=zad (hb);have n2_:=zad (hi);clear HK HB HI0;have HK:=n0_;have HB:=n1_;have HI0:=n2_;clear n0_ n1_ n2_;(try clear hb);(try clear hb2);(try clear hk);(try clear hi)))
    go_ret
    exact ⟨taai,taag,taaj,taaf⟩
  ·rw [if_neg c5] at H
   have c5b0:decide (200<a1)=false:=zbj c5
   clear c5;by_cases c10:a1=0
   ·rw [if_pos c10] at H
    exact absurd H (taac)
   ·rw [if_neg c10] at H
    have c10b0:(a1 == 0)=false:=zbo.mpr c10
    have c10b1:(a1 != 0)=true:=bne_iff_ne.mpr c10
    simp only [zbl,zbp] at H
    obtain ⟨rfl,rfl,rfl⟩:=H
    go_enter Tryz.func18,Tryz.ntmps18
    go_wp2_with (first | ((with_reducible refine zbh (f:=53) rfl ?_);refine zbn (some 9) rfl rfl Tryz.func53 (by kernel_rfl) rfl #[.pointer (some ⟨g,0,none⟩)] rfl (taae) ?_;(with_reducible refine (spec_l1Cur_next.calls g s0_0 s0_1 s0_2 t242 t243 t244 w0 _ ?side1 ?side2 A4.out).mono ?_);(case side1=>exact tafj);(case side2=>exact tafk);rintro e w11 ⟨rfl,hi,hb,hk⟩;refine ⟨_,rfl,?_⟩;have n0_:=zad (zbs (taaf) hk (.inl rfl));have n1_:=zad (hb);have n2_:=zad (hi);clear HK HB HI0;have HK:=n0_;have HB:=n1_;have HI0:=n2_;clear n0_ n1_ n2_;(try clear hb);(try clear hb2);(try clear hk);(try clear hi)))
    go_ret
    exact ⟨taai,taag,taaj,taaf⟩
abbrev zcn:=@spec_l1Cur_pick.calls
def spec_l1Cur_one.f (s0_0:List Int) (s0_1:Int) (s0_2:Int) (a1:Int):Option (Bool × Int × Int):=(spec_l1Cur_pick.f s0_0 s0_1 s0_2 a1).bind fun bt248=>(some ((bt248.1 == 0),bt248.2.1,bt248.2.2))
theorem spec_l1Cur_one.calls (g:Nat) (s0_0:List Int) (s0_1:Int) (s0_2:Int) (a1:Int) (r1:Bool) (r2:Int) (r3:Int) (w0 w:World) (hI:IsS43 w0 w g s0_0 s0_1 s0_2) (hB:Below w0.heap.size w0 w) (h:spec_l1Cur_one.f s0_0 s0_1 s0_2 a1=some (r1,r2,r3)) :
 Calls Tryz.prog 16 #[.pointer (some ⟨g,0,none⟩),.int .i64 a1] w fun e w'=>e = .returned (.bool r1)∧IsS43 w0 w' g s0_0 r2 r3∧Below w0.heap.size w0 w'∧KeepBut w w' g none:=by
 have HI0:=zad hI;have HK:=zad (KeepBut.refl w g none)
 have HL:=zad hB.size;clear hI;have HW0:=zad hB.size;have HB:=zad hB;clear hB;have H:((spec_l1Cur_pick.f s0_0 s0_1 s0_2 a1).bind fun bt248=>(some ((bt248.1 == 0),bt248.2.1,bt248.2.2)))=some (r1,r2,r3):=h
 clear h;replace H:=zay.mp H;obtain ⟨⟨t248,t249,t250⟩,A30,H⟩:=H
 replace H:(some ((t248 == 0),t249,t250))=some (r1,r2,r3):=H
 have A3:=zad A30;clear A30;simp only [zbl,zbp] at H
 obtain ⟨rfl,rfl,rfl⟩:=H
 go_enter Tryz.func16,Tryz.ntmps16
 go_wp2_with (first | ((with_reducible refine zbh (f:=18) rfl ?_);refine zbn (some 7) rfl rfl Tryz.func18 (by kernel_rfl) rfl #[.pointer (some ⟨g,0,none⟩),.int .i64 a1] rfl (taae) ?_;(with_reducible refine (zcn g s0_0 s0_1 s0_2 a1 t248 t249 t250 w0 _ ?side1 ?side2 A3.out).mono ?_);(case side1=>exact tafj);(case side2=>exact tafk);rintro e w4 ⟨rfl,hi,hb,hk⟩;refine ⟨_,rfl,?_⟩;have n0_:=zad (zbs (taaf) hk (.inl rfl));have n1_:=zad (hb);have n2_:=zad (hi);clear HK HB HI0;have HK:=n0_;have HB:=n1_;have HI0:=n2_;clear n0_ n1_ n2_;(try clear hb);(try clear hb2);(try clear hk);(try clear hi)))
 go_ret
 exact ⟨taai,taag,taaj,taaf⟩
def spec_l1Cur_among.f (s0_0:List Int) (s0_1:Int) (s0_2:Int) (l1:List Int):Option (Int × Int × Int):=(spec_l1Cur_pick.f s0_0 s0_1 s0_2 (l1.length:Int)).bind fun bt251=>(if 0≤bt251.1 then (if bt251.1<(l1.length:Int) then (some (rd l1 bt251.1,bt251.2.1,bt251.2.2)) else (none)) else (none))
theorem spec_l1Cur_among.calls (g:Nat) (s0_0:List Int) (s0_1:Int) (s0_2:Int) (A1:Option Addr) (c1:Nat) (l1:List Int) (r1:Int) (r2:Int) (r3:Int) (w0 w:World) (hI:IsS43 w0 w g s0_0 s0_1 s0_2) (hB:Below w0.heap.size w0 w) (hr1:Kd.C (Kd.int .i64) w A1 l1.length l1) (hc1:l1.length≤c1) (hf1:∀ ad,A1=some ad→0<l1.length→ad.block≠g) (h:spec_l1Cur_among.f s0_0 s0_1 s0_2 l1=some (r1,r2,r3)) :
 Calls Tryz.prog 19 #[.pointer (some ⟨g,0,none⟩),.slice A1 l1.length c1] w fun e w'=>e = .returned (.int .i64 r1)∧IsS43 w0 w' g s0_0 r2 r3∧Below w0.heap.size w0 w'∧KeepBut w w' g none:=by
 have HR1:=zad hr1;have HC1:=zad hc1;clear hr1 hc1;have HI0:=zad hI;have HK:=zad (KeepBut.refl w g none)
 have HL:=zad hB.size;clear hI;have HW0:=zad hB.size;have HB:=zad hB;clear hB;have H:((spec_l1Cur_pick.f s0_0 s0_1 s0_2 (l1.length:Int)).bind fun bt251=>(if 0≤bt251.1 then (if bt251.1<(l1.length:Int) then (some (rd l1 bt251.1,bt251.2.1,bt251.2.2)) else (none)) else (none)))=some (r1,r2,r3):=h
 clear h;replace H:=zay.mp H;obtain ⟨⟨t251,t252,t253⟩,A30,H⟩:=H
 replace H:(if 0≤t251 then (if t251<(l1.length:Int) then (some (rd l1 t251,t252,t253)) else (none)) else (none))=some (r1,r2,r3):=H
 have A3:=zad A30;clear A30;by_cases c4:0≤t251
 ·rw [if_pos c4] at H
  have c4b0:decide (0≤t251)=true:=zba c4
  clear c4;by_cases c5:t251<(l1.length:Int)
  ·rw [if_pos c5] at H
   have c5b0:decide (t251<(l1.length:Int))=true:=zba c5
   clear c5;simp only [zbl,zbp] at H
   obtain ⟨rfl,rfl,rfl⟩:=H
   go_enter Tryz.func19,Tryz.ntmps19
   go_wp2_with (first | ((with_reducible refine zbh (f:=18) rfl ?_);refine zbn (some 9) rfl rfl Tryz.func18 (by kernel_rfl) rfl #[.pointer (some ⟨g,0,none⟩),.int .i64 (l1.length:Int)] rfl (taae) ?_;(with_reducible refine (zcn g s0_0 s0_1 s0_2 (l1.length:Int) t251 t252 t253 w0 _ ?side1 ?side2 A3.out).mono ?_);(case side1=>exact tafj);(case side2=>exact tafk);rintro e w6 ⟨rfl,hi,hb,hk⟩;refine ⟨_,rfl,?_⟩;have n0_:=zad (zbs (taaf) hk (.inl rfl));have n1_:=zad (hb);have n2_:=zad (hi);clear HK HB HI0;have HK:=n0_;have HB:=n1_;have HI0:=n2_;clear n0_ n1_ n2_;(try clear hb);(try clear hb2);(try clear hk);(try clear hi);have p254:0≤(t251:Int):=zas (taaa);have q254:t251<(l1.length:Int):=zas (taaa);obtain ⟨ad254,e254,hx254_0⟩:=zca HR1.out t251 p254 q254;cases e254;replace hx254_0:=keep_cell HK.out hx254_0 (by first | (rw [add_block];exact hf1 _ rfl (by omega)) | exact hf1 _ rfl (by omega) | exact hf1 ad254 rfl (by omega));replace p254:=eq_true p254;replace q254:=eq_true q254))
   go_ret
   exact ⟨taai,taag,taaj,taaf⟩
  ·rw [if_neg c5] at H
   exact absurd H (taac)
 ·rw [if_neg c4] at H
  exact absurd H (taac)
def spec_l1Cur_list.l0:Nat→Int→List Int→Int→List Int→Int→Int→Option (List Int × Int × Int)
 | 0,_,_,_,_,_,_=>none
 | k+1,x1,x5,x6,x1000,x1001,x1002=>if x6>0 then ((spec_l1Cur_pick.f x1000 x1001 x1002 (wrap64 (x1+1))).bind fun bt328=>(if x5.length<17592186044416 then (spec_l1Cur_list.l0 k x1 (x5 ++ [bt328.1]) (wrap64 (x6 - 1)) x1000 bt328.2.1 bt328.2.2) else (none))) else (some (x5,x1001,x1002))
def spec_l1Cur_list.f (k:Nat) (s0_0:List Int) (s0_1:Int) (s0_2:Int) (a1:Int):Option (List Int × Int × Int):=(spec_l1Cur_pick.f s0_0 s0_1 s0_2 6).bind fun bt325=>(spec_l1Cur_list.l0 k a1 ([]:List Int) (wrap64 (1+bt325.1)) s0_0 bt325.2.1 bt325.2.2)
theorem spec_l1Cur_list.calls (k:Nat) (g:Nat) (s0_0:List Int) (s0_1:Int) (s0_2:Int) (a1:Int) (r1:List Int) (r2:Int) (r3:Int) (w0 w:World) (hI:IsS43 w0 w g s0_0 s0_1 s0_2) (hB:Below w0.heap.size w0 w) (h:spec_l1Cur_list.f k s0_0 s0_1 s0_2 a1=some (r1,r2,r3)) :
 Calls Tryz.prog 76 #[.pointer (some ⟨g,0,none⟩),.int .i64 a1] w fun e w'=>∃ v0_:Value,e = .returned (v0_)∧Kd.R (Kd.int .i64) 3 w' w.heap.size (fun _=>True) v0_ r1∧IsS43 w0 w' g s0_0 r2 r3∧Below w0.heap.size w0 w'∧KeepBut w w' g none:=by
 have HI0:=zad hI;have HK:=zad (KeepBut.refl w g none)
 have HL:=zad hB.size;clear hI;have HW0:=zad hB.size;have HB:=zad hB;clear hB;have H:((spec_l1Cur_pick.f s0_0 s0_1 s0_2 6).bind fun bt325=>(spec_l1Cur_list.l0 k a1 ([]:List Int) (wrap64 (1+bt325.1)) s0_0 bt325.2.1 bt325.2.2))=some (r1,r2,r3):=h
 clear h;replace H:=zay.mp H;obtain ⟨⟨t325,t326,t327⟩,A30,H⟩:=H
 replace H:(spec_l1Cur_list.l0 k a1 ([]:List Int) (wrap64 (1+t325)) s0_0 t326 t327)=some (r1,r2,r3):=H
 have A3:=zad A30;clear A30;have H':=zad H
 clear H;go_enter Tryz.func76,Tryz.ntmps76
 go_wp2_with (first | ((with_reducible refine zbh (f:=18) rfl ?_);refine zbn (some 8) rfl rfl Tryz.func18 (by kernel_rfl) rfl #[.pointer (some ⟨g,0,none⟩),.int .i64 6] rfl (taae) ?_;(with_reducible refine (zcn g s0_0 s0_1 s0_2 6 t325 t326 t327 w0 _ ?side1 ?side2 A3.out).mono ?_);(case side1=>exact tafj);(case side2=>exact tafk);rintro e w4 ⟨rfl,hi,hb,hk⟩;refine ⟨_,rfl,?_⟩;have n0_:=zad (zbs (taaf) hk (.inl rfl));have n1_:=zad (hb);have n2_:=zad (hi);clear HK HB HI0;have HK:=n0_;have HB:=n1_;have HI0:=n2_;clear n0_ n1_ n2_;(try clear hb);(try clear hb2);(try clear hk);(try clear hi)))
 go_loopg [5,6] k (fun kq v5 v6 w'=>∃ (x5_1:List Int) (x6_1:Int) (x1001_1:Int) (x1002_1:Int),v6 = .int .i64 x6_1∧Aside0 (spec_l1Cur_list.l0 kq a1 x5_1 x6_1 s0_0 x1001_1 x1002_1=some (r1,r2,r3))∧Aside0 (kq≤k)∧Aside0 (Kd.R (Kd.int .i64) 3 w' w.heap.size (fun _=>True) v5 x5_1)∧Aside0 (IsS43 w0 w' g s0_0 x1001_1 x1002_1)∧Aside0 (KeepBut w w' g none)∧Aside0 (Below w0.heap.size w0 w'))
 case atStart=>exact ⟨(([]:List Int)),(wrap64 (1+t325)),(t326),(t327),(taad),H',⟨zcf _⟩,⟨taax⟩,⟨taag⟩,⟨taaf⟩,⟨taaj⟩⟩
 case round =>
  clear H'
  try clear c1
  try clear p2
  obtain ⟨x5_1,x6_1,x1001_1,x1002_1,rfl,HA,HK1,HO_5,HI0,HK,HB⟩:=hrel
  cases gk with
  | zero=>exact absurd HA.out (by simp [spec_l1Cur_list.l0])
  | succ k1 =>
   have H:=HA.out
   clear HA;simp only [spec_l1Cur_list.l0] at H
   by_cases c5:x6_1>0
   ·rw [if_pos c5] at H
    have c5b0:decide (0<x6_1)=true:=zba c5
    clear c5;replace H:=zay.mp H;obtain ⟨⟨t328,t329,t330⟩,A60,H⟩:=H
    replace H:(if x5_1.length<17592186044416 then (spec_l1Cur_list.l0 k1 a1 (x5_1 ++ [t328]) (wrap64 (x6_1 - 1)) s0_0 t329 t330) else (none))=some (r1,r2,r3):=H
    have A6:=zad A60;clear A60;by_cases c7:x5_1.length<17592186044416
    ·rw [if_pos c7] at H
     have LMc7:=zad c7;clear c7;obtain ⟨y331,hy331⟩:∃ y_:List Int,y_=(x5_1 ++ [t328]):=⟨_,rfl⟩
     replace H:(spec_l1Cur_list.l0 k1 a1 y331 (wrap64 (x6_1 - 1)) s0_0 t329 t330)=some (r1,r2,r3):=by first | (rw [hy331];with_reducible exact H) | (have H2_:=(zbd _ _).symm.trans H;rw [hy331];with_reducible exact H2_) | (have H2_:=(zbd _ _).symm.trans H;with_reducible exact H2_) | with_reducible exact H | (rw [hy331];exact H) | exact H
     have Ny331:=zad hy331;clear hy331;have H':=zad H
     clear H;go_wp2_with (first | ((with_reducible refine zbh (f:=18) rfl ?_);refine zbn (some 18) rfl rfl Tryz.func18 (by kernel_rfl) rfl #[.pointer (some ⟨g,0,none⟩),.int .i64 (wrap64 (a1+1))] rfl (taae) ?_;(with_reducible refine (zcn g s0_0 x1001_1 x1002_1 (wrap64 (a1+1)) t328 t329 t330 w0 _ ?side1 ?side2 A6.out).mono ?_);(case side1=>exact tafj);(case side2=>exact tafk);rintro e w8 ⟨rfl,hi,hb,hk⟩;refine ⟨_,rfl,?_⟩;have n0_:=zad (zbq (zbr (zcj (show IsS43 w0 _ g s0_0 x1001_1 x1002_1 from by exact tafh) (taam) (by decide)) hk (fun _ h=>h.2)) (fun _ h=>h.1));have n1_:=zad (zbs (taaf) hk (.inl rfl));have n2_:=zad (hb);have n3_:=zad (hi);clear HO_5 HK HB HI0;have HO_5:=n0_;have HK:=n1_;have HB:=n2_;have HI0:=n3_;clear n0_ n1_ n2_ n3_;(try clear hb);(try clear hb2);(try clear hk);(try clear hi)) | ((with_reducible refine gate_builtin (b := .append) (xs:=#[.tmp 14,.tmp 19]) rfl ?_);at_builtin;refine Kd.R_append (Kd.int .i64) w.heap.size rfl (.tmp 14) (.tmp 19) 25 3 (.int .i64 0) 8 rfl Tryz.underlying25 info3 rfl (by decide) (by omega) u5 x5_1 t328 [.int .i64 t328] (fun _=>True) (fun _=>False) rfl rfl ?aP (fun _ hk=>hk.elim) ?aF ?aO (Below.refl _ _) ?aS ?aL ?_;(case aP=>exact rfl);(case aF=>exact (fun _ _=>trivial));(case aO=>exact (taam));(case aS=>exact (keep_size (w:=w) (g:=g) (row:=none) (taaf)));(case aL=>have:=LMc7.out;omega);intro v332 w9 ho hb hg hat;rw [← Ny331.out] at ho;have n0_:=zad (IsS43.grown (taag) hg (IsS43.own_ne HI0.out HO_5.out (by decide)));have n1_:=zad (below_weaken (taaj) HL.out hb);have n2_:=zad (zbs (taaf) (KeepBut.of_grown hg g) (Kd.R_base2 HO_5.out));have n3_:=zad (ho);clear HI0 HB HK HO_5;have HI0:=n0_;have HB:=n1_;have HK:=n2_;have HO333:=n3_;clear n0_ n1_ n2_ n3_ ho hb hg hat))
     go_roundg k1
     case measure=>have:=HK1.out;omega
     case rel=>exact ⟨(y331),(wrap64 (x6_1 - 1)),(t329),(t330),(taad),H',⟨taaq⟩,⟨by (with_reducible repeat (first | apply zai | apply zaj | apply zak));exact HO333.out⟩,⟨taag⟩,⟨taaf⟩,⟨taaj⟩⟩
    ·rw [if_neg c7] at H
     exact absurd H (taac)
   ·rw [if_neg c5] at H
    have c5b0:decide (0<x6_1)=false:=zbj c5
    clear c5;simp only [zbl,zbp] at H
    obtain ⟨rfl,rfl,rfl⟩:=H
    go_wp2
    go_ret
    exact ⟨_,taai,taam,taag,taaj,taaf⟩
def spec_l1Cur_anyList.l0:Nat→List Int→List Int→Int→Int→Option (List Int × Int × Int)
 | 0,_,_,_,_=>none
 | k+1,x5,x1000,x1001,x1002=>(spec_l1Cur_pick.f x1000 x1001 x1002 2).bind fun bt351=>(if (x5.length:Int)<(wrap64 (8+bt351.1)) then ((spec_l1Cur_pick.f x1000 bt351.2.1 bt351.2.2 9).bind fun bt354=>(if x5.length<17592186044416 then (spec_l1Cur_anyList.l0 k (x5 ++ [bt354.1]) x1000 bt354.2.1 bt354.2.2) else (none))) else (some (x5,bt351.2.1,bt351.2.2)))
def spec_l1Cur_anyList.f (k:Nat) (s0_0:List Int) (s0_1:Int) (s0_2:Int) (a1:Int):Option (List Int × Int × Int):=(spec_l1Cur_list.f k s0_0 s0_1 s0_2 a1).bind fun bt334=>((spec_l1Cur_pick.f s0_0 bt334.2.1 bt334.2.2 14).bind fun bt339=>(if bt339.1=0 then ((spec_l1Cur_among.f s0_0 bt339.2.1 bt339.2.2 (([(-1),0,60,61]:List Int))).bind fun bt345=>(if bt334.1.length<17592186044416 then (some ((bt334.1 ++ [bt345.1]),bt345.2.1,bt345.2.2)) else (none))) else (if bt339.1=1 then (spec_l1Cur_anyList.l0 k bt334.1 s0_0 bt339.2.1 bt339.2.2) else (if bt339.1=2 then (some (([]:List Int),bt339.2.1,bt339.2.2)) else (some (bt334.1,bt339.2.1,bt339.2.2))))))
theorem spec_l1Cur_anyList.calls (k:Nat) (g:Nat) (s0_0:List Int) (s0_1:Int) (s0_2:Int) (a1:Int) (r1:List Int) (r2:Int) (r3:Int) (w0 w:World) (hI:IsS43 w0 w g s0_0 s0_1 s0_2) (hB:Below w0.heap.size w0 w) (h:spec_l1Cur_anyList.f k s0_0 s0_1 s0_2 a1=some (r1,r2,r3)) :
 Calls Tryz.prog 51 #[.pointer (some ⟨g,0,none⟩),.int .i64 a1] w fun e w'=>∃ v0_:Value,e = .returned (v0_)∧Kd.R (Kd.int .i64) 3 w' w.heap.size (fun _=>True) v0_ r1∧IsS43 w0 w' g s0_0 r2 r3∧Below w0.heap.size w0 w'∧KeepBut w w' g none:=by
 have HI0:=zad hI;have HK:=zad (KeepBut.refl w g none)
 have HL:=zad hB.size;clear hI;have HW0:=zad hB.size;have HB:=zad hB;clear hB;have H:((spec_l1Cur_list.f k s0_0 s0_1 s0_2 a1).bind fun bt334=>((spec_l1Cur_pick.f s0_0 bt334.2.1 bt334.2.2 14).bind fun bt339=>(if bt339.1=0 then ((spec_l1Cur_among.f s0_0 bt339.2.1 bt339.2.2 (([(-1),0,60,61]:List Int))).bind fun bt345=>(if bt334.1.length<17592186044416 then (some ((bt334.1 ++ [bt345.1]),bt345.2.1,bt345.2.2)) else (none))) else (if bt339.1=1 then (spec_l1Cur_anyList.l0 k bt334.1 s0_0 bt339.2.1 bt339.2.2) else (if bt339.1=2 then (some (([]:List Int),bt339.2.1,bt339.2.2)) else (some (bt334.1,bt339.2.1,bt339.2.2)))))))=some (r1,r2,r3):=h
 clear h;replace H:=zay.mp H;obtain ⟨⟨t334,t337,t338⟩,A30,H⟩:=H
 replace H:((spec_l1Cur_pick.f s0_0 t337 t338 14).bind fun bt339=>(if bt339.1=0 then ((spec_l1Cur_among.f s0_0 bt339.2.1 bt339.2.2 (([(-1),0,60,61]:List Int))).bind fun bt345=>(if t334.length<17592186044416 then (some ((t334 ++ [bt345.1]),bt345.2.1,bt345.2.2)) else (none))) else (if bt339.1=1 then (spec_l1Cur_anyList.l0 k t334 s0_0 bt339.2.1 bt339.2.2) else (if bt339.1=2 then (some (([]:List Int),bt339.2.1,bt339.2.2)) else (some (t334,bt339.2.1,bt339.2.2))))))=some (r1,r2,r3):=H
 have A3:=zad A30;clear A30;replace H:=zay.mp H;obtain ⟨⟨t339,t340,t341⟩,A40,H⟩:=H
 replace H:(if t339=0 then ((spec_l1Cur_among.f s0_0 t340 t341 (([(-1),0,60,61]:List Int))).bind fun bt345=>(if t334.length<17592186044416 then (some ((t334 ++ [bt345.1]),bt345.2.1,bt345.2.2)) else (none))) else (if t339=1 then (spec_l1Cur_anyList.l0 k t334 s0_0 t340 t341) else (if t339=2 then (some (([]:List Int),t340,t341)) else (some (t334,t340,t341)))))=some (r1,r2,r3):=H
 have A4:=zad A40;clear A40;by_cases c5:t339=0
 ·rw [if_pos c5] at H
  have c5b0:(t339 == 0)=true:=beq_iff_eq.mpr c5
  have c5b1:(t339 != 0)=false:=bne_eq_false_iff_eq.mpr c5
  clear c5;obtain ⟨y342,hy342⟩:∃ y_:List Int,y_=(([(-1),0,60,61]:List Int)):=⟨_,rfl⟩
  replace H:((spec_l1Cur_among.f s0_0 t340 t341 y342).bind fun bt345=>(if t334.length<17592186044416 then (some ((t334 ++ [bt345.1]),bt345.2.1,bt345.2.2)) else (none)))=some (r1,r2,r3):=by first | (rw [hy342];with_reducible exact H) | (have H2_:=(zbd _ _).symm.trans H;rw [hy342];with_reducible exact H2_) | (have H2_:=(zbd _ _).symm.trans H;with_reducible exact H2_) | with_reducible exact H | (rw [hy342];exact H) | exact H
  have Ny342:=zad hy342;clear hy342;replace H:=zay.mp H;obtain ⟨⟨t345,t346,t347⟩,A60,H⟩:=H
  replace H:(if t334.length<17592186044416 then (some ((t334 ++ [t345]),t346,t347)) else (none))=some (r1,r2,r3):=H
  have A6:=zad A60;clear A60;by_cases c7:t334.length<17592186044416
  ·rw [if_pos c7] at H
   have LMc7:=zad c7;clear c7;obtain ⟨y348,hy348⟩:∃ y_:List Int,y_=(t334 ++ [t345]):=⟨_,rfl⟩
   replace H:(some (y348,t346,t347))=some (r1,r2,r3):=by first | (rw [hy348];with_reducible exact H) | (have H2_:=(zbd _ _).symm.trans H;rw [hy348];with_reducible exact H2_) | (have H2_:=(zbd _ _).symm.trans H;with_reducible exact H2_) | with_reducible exact H | (rw [hy348];exact H) | exact H
   have Ny348:=zad hy348;clear hy348;simp only [zbl,zbp] at H
   obtain ⟨rfl,rfl,rfl⟩:=H
   go_enter Tryz.func51,Tryz.ntmps51
   go_wp2_with (first | ((with_reducible refine zbh (f:=76) rfl ?_);refine zbn (some 8) rfl rfl Tryz.func76 (by kernel_rfl) rfl #[.pointer (some ⟨g,0,none⟩),.int .i64 a1] rfl (taae) ?_;(with_reducible refine (spec_l1Cur_list.calls k g s0_0 s0_1 s0_2 a1 t334 t337 t338 w0 _ ?side1 ?side2 A3.out).mono ?_);(case side1=>repeat (first | (with_reducible first | exact HI0.out | apply zcg | apply zch | apply zci | apply zcl | apply zcm) | exact HI0.out));(case side2=>repeat (first | (with_reducible first | exact HB.out | apply zag | apply zae | apply zaf | refine zah ?_ (zck HI0.out)) | exact HB.out));rintro e w8 ⟨v335,rfl,ho0,hi,hb,hk⟩;refine ⟨_,rfl,?_⟩;have n0_:=zad (zbu ho0 (keep_size (w:=w) (g:=g) (row:=none) (taaf)));have n1_:=zad (zbs (taaf) hk (.inl rfl));have n2_:=zad (hb);have n3_:=zad (hi);clear HK HB HI0;have HO336:=n0_;have HK:=n1_;have HB:=n2_;have HI0:=n3_;clear n0_ n1_ n2_ n3_;(try clear hb);(try clear hb2);(try clear hk);(try clear hi);(try clear ho0)) | ((with_reducible refine zbh (f:=18) rfl ?_);refine zbn (some 10) rfl rfl Tryz.func18 (by kernel_rfl) rfl #[.pointer (some ⟨g,0,none⟩),.int .i64 14] rfl (taae) ?_;(with_reducible refine (zcn g s0_0 t337 t338 14 t339 t340 t341 w0 _ ?side1 ?side2 A4.out).mono ?_);(case side1=>repeat (first | (with_reducible first | exact HI0.out | apply zcg | apply zch | apply zci | apply zcl | apply zcm) | exact HI0.out));(case side2=>repeat (first | (with_reducible first | exact HB.out | apply zag | apply zae | apply zaf | refine zah ?_ (zck HI0.out)) | exact HB.out));rintro e w9 ⟨rfl,hi,hb,hk⟩;refine ⟨_,rfl,?_⟩;have n0_:=zad (zbq (zbr (zcj (show IsS43 w0 _ g s0_0 t337 t338 from by exact tafh) (tabe) (by decide)) hk (fun _ h=>h.2)) (fun _ h=>h.1));have n1_:=zad (zbs (taaf) hk (.inl rfl));have n2_:=zad (hb);have n3_:=zad (hi);clear HO336 HK HB HI0;have HO336:=n0_;have HK:=n1_;have HB:=n2_;have HI0:=n3_;clear n0_ n1_ n2_ n3_;(try clear hb);(try clear hb2);(try clear hk);(try clear hi)) | ((with_reducible refine gate_dst (N:=15) rfl ?_);refine Kd.R_lit (Kd.int .i64) _ 3 ?hg (N:=15) ?hd (xs:=([(-1),0,60,61]:List Int)) (inner:=[.int .i64 (-1),.int .i64 0,.int .i64 60,.int .i64 61]) (ok:=fun _=>True) (okp:=fun _=>True) ?hr ?hp (fun _ hk=>hk) trivial (Below.refl _ _) (zcf _) (taac) ?_;(case hd=>rfl);(case hg=>rfl);(case hr=>first | (go_simp;done) | (go_simp;rfl));(case hp=>exact (Reps.one (show Kd.M (Kd.int .i64) _ _ _ (-1) [.int .i64 (-1)] from rfl) (Reps.one (show Kd.M (Kd.int .i64) _ _ _ 0 [.int .i64 0] from rfl) (Reps.one (show Kd.M (Kd.int .i64) _ _ _ 60 [.int .i64 60] from rfl) (Reps.one (show Kd.M (Kd.int .i64) _ _ _ 61 [.int .i64 61] from rfl) (Reps.none _ _))))));intro v343 w10 ho11 hb hg_ hnew_;clear hg_ hnew_;(first | rw [← Ny342.out] at ho11 | (simp only [Int.reduceToNat] at ho11;rw [← Ny342.out] at ho11));have n0_:=zad (zcb (tabe) (zcd ho11) hb);have n1_:=zad (zbu (zcc ho11 (zce (tabe))) (keep_size (w:=w) (g:=g) (row:=none) (taaf)));have n2_:=zad (IsS43.below (taag) hb);have n3_:=zad (zbs (taaf) (KeepBut.of_below hb g none) (.inl rfl));have n4_:=zad (zbg (taaj) hb);clear HO336 HI0 HK HB;have HO336:=n0_;have HO344:=n1_;have HI0:=n2_;have HK:=n3_;have HB:=n4_;clear n0_ n1_ n2_ n3_ n4_ hb ho11;obtain ⟨Ao12,co12,eo12⟩:=zbv HO344.out;subst eo12) | ((with_reducible refine zbh (f:=19) rfl ?_);refine zbn (some 16) rfl rfl Tryz.func19 (by kernel_rfl) rfl #[.pointer (some ⟨g,0,none⟩),.slice Ao12 y342.length co12] rfl (taae) ?_;(with_reducible refine (spec_l1Cur_among.calls g s0_0 t340 t341 _ _ y342 t345 t346 t347 w0 _ ?side1 ?side2 ?side3 ?side4 ?side5 A6.out).mono ?_);(case side1=>repeat (first | (with_reducible first | exact HI0.out | apply zcg | apply zch | apply zci | apply zcl | apply zcm) | exact HI0.out));(case side2=>repeat (first | (with_reducible first | exact HB.out | apply zag | apply zae | apply zaf | refine zah ?_ (zck HI0.out)) | exact HB.out));(case side3=>repeat (first | exact (zbf HO344.out).2.2 | (with_reducible refine zal ?_ _) | (with_reducible refine zam ?_ _) | (with_reducible refine zan ?_)));(case side4=>exact (zbf HO344.out).2.1);(case side5=>exact far_slice (IsS43.own_ne HI0.out HO344.out (by decide)));rintro e w13 ⟨rfl,hi,hb,hk⟩;refine ⟨_,rfl,?_⟩;have n0_:=zad (zbq (zbr (zcj (show IsS43 w0 _ g s0_0 t340 t341 from by exact tafh) (tabe) (by decide)) hk (fun _ h=>h.2)) (fun _ h=>h.1));have n1_:=zad (zbq (zbr (zcj (show IsS43 w0 _ g s0_0 t340 t341 from by exact tafh) (taco) (by decide)) hk (fun _ h=>h.2)) (fun _ h=>h.1));have n2_:=zad (zbs (taaf) hk (.inl rfl));have n3_:=zad (hb);have n4_:=zad (hi);clear HO336 HO344 HK HB HI0;have HO336:=n0_;have HO344:=n1_;have HK:=n2_;have HB:=n3_;have HI0:=n4_;clear n0_ n1_ n2_ n3_ n4_;(try clear hb);(try clear hb2);(try clear hk);(try clear hi)) | ((with_reducible refine gate_builtin (b := .append) (xs:=#[.tmp 13,.tmp 17]) rfl ?_);at_builtin;refine Kd.R_append (Kd.int .i64) w.heap.size rfl (.tmp 13) (.tmp 17) 25 3 (.int .i64 0) 8 rfl Tryz.underlying25 info3 rfl (by decide) (by omega) v335 t334 t345 [.int .i64 t345] (fun k_=>some k_≠(.slice Ao12 y342.length co12:Value).ownBlock) (fun _=>False) rfl rfl ?aP (fun _ hk=>hk.elim) ?aF ?aO (Below.refl _ _) ?aS ?aL ?_;(case aP=>exact rfl);(case aF=>exact (fun k_ hk=>Kd.fresh' (zce (taco)) k_ hk));(case aO=>exact (by (with_reducible repeat (first | apply zai | apply zaj | apply zak));exact zbq HO336.out (fun _ hk=>hk.2)));(case aS=>exact (keep_size (w:=w) (g:=g) (row:=none) (taaf)));(case aL=>have:=LMc7.out;omega);intro v349 w14 ho hb hg hat;rw [← Ny348.out] at ho;have n0_:=zad (IsS43.grown (taag) hg (IsS43.own_ne HI0.out HO336.out (by decide)));have n1_:=zad (Kd.R_after (ok:=(fun _=>True)) (taco) hg hat);have n2_:=zad (below_weaken (taaj) HL.out hb);have n3_:=zad (zbs (taaf) (KeepBut.of_grown hg g) (Kd.R_base2 HO336.out));have n4_:=zad (ho);clear HI0 HO344 HB HK HO336;have HI0:=n0_;have HO344:=n1_;have HB:=n2_;have HK:=n3_;have HO350:=n4_;clear n0_ n1_ n2_ n3_ n4_ ho hb hg hat))
   go_ret
   exact ⟨_,taai,by (with_reducible repeat (first | apply zai | apply zaj | apply zak));exact zbq HO350.out (fun _ hk=>trivial),taag,taaj,taaf⟩
  ·rw [if_neg c7] at H
   exact absurd H (taac)
 ·rw [if_neg c5] at H
  have c5b0:(t339 == 0)=false:=zbo.mpr c5
  have c5b1:(t339 != 0)=true:=bne_iff_ne.mpr c5
  by_cases c15:t339=1
  ·rw [if_pos c15] at H
   have c15b0:(t339 == 1)=true:=beq_iff_eq.mpr c15
   have c15b1:(t339 != 1)=false:=bne_eq_false_iff_eq.mpr c15
   clear c15;have H':=zad H
   clear H;go_enter Tryz.func51,Tryz.ntmps51
   go_wp2_with (first | ((with_reducible refine zbh (f:=76) rfl ?_);refine zbn (some 8) rfl rfl Tryz.func76 (by kernel_rfl) rfl #[.pointer (some ⟨g,0,none⟩),.int .i64 a1] rfl (taae) ?_;(with_reducible refine (spec_l1Cur_list.calls k g s0_0 s0_1 s0_2 a1 t334 t337 t338 w0 _ ?side1 ?side2 A3.out).mono ?_);(case side1=>repeat (first | (with_reducible first | exact HI0.out | apply zcg | apply zch | apply zci | apply zcl | apply zcm) | exact HI0.out));(case side2=>repeat (first | (with_reducible first | exact HB.out | apply zag | apply zae | apply zaf | refine zah ?_ (zck HI0.out)) | exact HB.out));rintro e w16 ⟨v335,rfl,ho0,hi,hb,hk⟩;refine ⟨_,rfl,?_⟩;have n0_:=zad (zbu ho0 (keep_size (w:=w) (g:=g) (row:=none) (taaf)));have n1_:=zad (zbs (taaf) hk (.inl rfl));have n2_:=zad (hb);have n3_:=zad (hi);clear HK HB HI0;have HO336:=n0_;have HK:=n1_;have HB:=n2_;have HI0:=n3_;clear n0_ n1_ n2_ n3_;(try clear hb);(try clear hb2);(try clear hk);(try clear hi);(try clear ho0)) | ((with_reducible refine zbh (f:=18) rfl ?_);refine zbn (some 10) rfl rfl Tryz.func18 (by kernel_rfl) rfl #[.pointer (some ⟨g,0,none⟩),.int .i64 14] rfl (taae) ?_;(with_reducible refine (zcn g s0_0 t337 t338 14 t339 t340 t341 w0 _ ?side1 ?side2 A4.out).mono ?_);(case side1=>repeat (first | (with_reducible first | exact HI0.out | apply zcg | apply zch | apply zci | apply zcl | apply zcm) | exact HI0.out));(case side2=>repeat (first | (with_reducible first | exact HB.out | apply zag | apply zae | apply zaf | refine zah ?_ (zck HI0.out)) | exact HB.out));rintro e w17 ⟨rfl,hi,hb,hk⟩;refine ⟨_,rfl,?_⟩;have n0_:=zad (zbq (zbr (zcj (show IsS43 w0 _ g s0_0 t337 t338 from by exact tafh) (tabe) (by decide)) hk (fun _ h=>h.2)) (fun _ h=>h.1));have n1_:=zad (zbs (taaf) hk (.inl rfl));have n2_:=zad (hb);have n3_:=zad (hi);clear HO336 HK HB HI0;have HO336:=n0_;have HK:=n1_;have HB:=n2_;have HI0:=n3_;clear n0_ n1_ n2_ n3_;(try clear hb);(try clear hb2);(try clear hk);(try clear hi)))
   go_loopg [5] k (fun kq v5 w'=>∃ (x5_1:List Int) (x1001_1:Int) (x1002_1:Int),Aside0 (spec_l1Cur_anyList.l0 kq x5_1 s0_0 x1001_1 x1002_1=some (r1,r2,r3))∧Aside0 (kq≤k)∧Aside0 (Kd.R (Kd.int .i64) 3 w' w.heap.size (fun _=>True) v5 x5_1)∧Aside0 (IsS43 w0 w' g s0_0 x1001_1 x1002_1)∧Aside0 (KeepBut w w' g none)∧Aside0 (Below w0.heap.size w0 w'))
   case atStart=>exact ⟨(t334),(t340),(t341),H',⟨zcf _⟩,⟨tabe⟩,⟨taag⟩,⟨taaf⟩,⟨taaj⟩⟩
   case round =>
    clear H'
    try clear c1
    try clear p2
    try clear c5
    try clear c5b0
    try clear c5b1
    try clear c7
    try clear c15
    try clear c15b0
    try clear c15b1
    obtain ⟨x5_1,x1001_1,x1002_1,HA,HK1,HO_5,HI0,HK,HB⟩:=hrel
    cases gk with
    | zero=>exact absurd HA.out (by simp [spec_l1Cur_anyList.l0])
    | succ k1 =>
     have H:=HA.out
     clear HA;simp only [spec_l1Cur_anyList.l0] at H
     replace H:=zay.mp H;obtain ⟨⟨t351,t352,t353⟩,A180,H⟩:=H
     replace H:(if (x5_1.length:Int)<(wrap64 (8+t351)) then ((spec_l1Cur_pick.f s0_0 t352 t353 9).bind fun bt354=>(if x5_1.length<17592186044416 then (spec_l1Cur_anyList.l0 k1 (x5_1 ++ [bt354.1]) s0_0 bt354.2.1 bt354.2.2) else (none))) else (some (x5_1,t352,t353)))=some (r1,r2,r3):=H
     have A18:=zad A180;clear A180;by_cases c19:(x5_1.length:Int)<(wrap64 (8+t351))
     ·rw [if_pos c19] at H
      have c19b0:decide ((x5_1.length:Int)<(wrap64 (8+t351)))=true:=zba c19
      clear c19;replace H:=zay.mp H;obtain ⟨⟨t354,t355,t356⟩,A200,H⟩:=H
      replace H:(if x5_1.length<17592186044416 then (spec_l1Cur_anyList.l0 k1 (x5_1 ++ [t354]) s0_0 t355 t356) else (none))=some (r1,r2,r3):=H
      have A20:=zad A200;clear A200;by_cases c21:x5_1.length<17592186044416
      ·rw [if_pos c21] at H
       have LMc21:=zad c21;clear c21;obtain ⟨y357,hy357⟩:∃ y_:List Int,y_=(x5_1 ++ [t354]):=⟨_,rfl⟩
       replace H:(spec_l1Cur_anyList.l0 k1 y357 s0_0 t355 t356)=some (r1,r2,r3):=by first | (rw [hy357];with_reducible exact H) | (have H2_:=(zbd _ _).symm.trans H;rw [hy357];with_reducible exact H2_) | (have H2_:=(zbd _ _).symm.trans H;with_reducible exact H2_) | with_reducible exact H | (rw [hy357];exact H) | exact H
       have Ny357:=zad hy357;clear hy357;have H':=zad H
       clear H;obtain ⟨Ao22,co22,eo22⟩:=zbv HO_5.out
       subst eo22;go_wp2_with (first | ((with_reducible refine zbh (f:=18) rfl ?_);refine zbn (some 24) rfl rfl Tryz.func18 (by kernel_rfl) rfl #[.pointer (some ⟨g,0,none⟩),.int .i64 2] rfl (taae) ?_;(with_reducible refine (zcn g s0_0 x1001_1 x1002_1 2 t351 t352 t353 w0 _ ?side1 ?side2 A18.out).mono ?_);(case side1=>repeat (first | (with_reducible first | exact HI0.out | apply zcg | apply zch | apply zci | apply zcl | apply zcm) | exact HI0.out));(case side2=>repeat (first | (with_reducible first | exact HB.out | apply zag | apply zae | apply zaf | refine zah ?_ (zck HI0.out)) | exact HB.out));rintro e w23 ⟨rfl,hi,hb,hk⟩;refine ⟨_,rfl,?_⟩;have n0_:=zad (zbq (zbr (zcj (show IsS43 w0 _ g s0_0 x1001_1 x1002_1 from by exact tafh) (taam) (by decide)) hk (fun _ h=>h.2)) (fun _ h=>h.1));have n1_:=zad (zbs (taaf) hk (.inl rfl));have n2_:=zad (hb);have n3_:=zad (hi);clear HO_5 HK HB HI0;have HO_5:=n0_;have HK:=n1_;have HB:=n2_;have HI0:=n3_;clear n0_ n1_ n2_ n3_;(try clear hb);(try clear hb2);(try clear hk);(try clear hi)) | ((with_reducible refine zbh (f:=18) rfl ?_);refine zbn (some 29) rfl rfl Tryz.func18 (by kernel_rfl) rfl #[.pointer (some ⟨g,0,none⟩),.int .i64 9] rfl (taae) ?_;(with_reducible refine (zcn g s0_0 t352 t353 9 t354 t355 t356 w0 _ ?side1 ?side2 A20.out).mono ?_);(case side1=>repeat (first | (with_reducible first | exact HI0.out | apply zcg | apply zch | apply zci | apply zcl | apply zcm) | exact HI0.out));(case side2=>repeat (first | (with_reducible first | exact HB.out | apply zag | apply zae | apply zaf | refine zah ?_ (zck HI0.out)) | exact HB.out));rintro e w24 ⟨rfl,hi,hb,hk⟩;refine ⟨_,rfl,?_⟩;have n0_:=zad (zbq (zbr (zcj (show IsS43 w0 _ g s0_0 t352 t353 from by exact tafh) (taam) (by decide)) hk (fun _ h=>h.2)) (fun _ h=>h.1));have n1_:=zad (zbs (taaf) hk (.inl rfl));have n2_:=zad (hb);have n3_:=zad (hi);clear HO_5 HK HB HI0;have HO_5:=n0_;have HK:=n1_;have HB:=n2_;have HI0:=n3_;clear n0_ n1_ n2_ n3_;(try clear hb);(try clear hb2);(try clear hk);(try clear hi)) | ((with_reducible refine gate_builtin (b := .append) (xs:=#[.tmp 27,.tmp 30]) rfl ?_);at_builtin;refine Kd.R_append (Kd.int .i64) w.heap.size rfl (.tmp 27) (.tmp 30) 25 3 (.int .i64 0) 8 rfl Tryz.underlying25 info3 rfl (by decide) (by omega) (.slice Ao22 x5_1.length co22) x5_1 t354 [.int .i64 t354] (fun _=>True) (fun _=>False) rfl rfl ?aP (fun _ hk=>hk.elim) ?aF ?aO (Below.refl _ _) ?aS ?aL ?_;(case aP=>exact rfl);(case aF=>exact (fun _ _=>trivial));(case aO=>exact (taam));(case aS=>exact (keep_size (w:=w) (g:=g) (row:=none) (taaf)));(case aL=>have:=LMc21.out;omega);intro v358 w25 ho hb hg hat;rw [← Ny357.out] at ho;have n0_:=zad (IsS43.grown (taag) hg (IsS43.own_ne HI0.out HO_5.out (by decide)));have n1_:=zad (below_weaken (taaj) HL.out hb);have n2_:=zad (zbs (taaf) (KeepBut.of_grown hg g) (Kd.R_base2 HO_5.out));have n3_:=zad (ho);clear HI0 HB HK HO_5;have HI0:=n0_;have HB:=n1_;have HK:=n2_;have HO359:=n3_;clear n0_ n1_ n2_ n3_ ho hb hg hat))
       go_roundg k1
       case measure=>have:=HK1.out;omega
       case rel=>exact ⟨(y357),(t355),(t356),H',⟨taaq⟩,⟨by (with_reducible repeat (first | apply zai | apply zaj | apply zak));exact HO359.out⟩,⟨taag⟩,⟨taaf⟩,⟨taaj⟩⟩
      ·rw [if_neg c21] at H
       exact absurd H (taac)
     ·rw [if_neg c19] at H
      have c19b0:decide ((x5_1.length:Int)<(wrap64 (8+t351)))=false:=zbj c19
      clear c19;simp only [zbl,zbp] at H
      obtain ⟨rfl,rfl,rfl⟩:=H
      obtain ⟨Ao26,co26,eo26⟩:=zbv HO_5.out
      subst eo26;go_wp2_with (first | ((with_reducible refine zbh (f:=18) rfl ?_);refine zbn (some 24) rfl rfl Tryz.func18 (by kernel_rfl) rfl #[.pointer (some ⟨g,0,none⟩),.int .i64 2] rfl (taae) ?_;(with_reducible refine (zcn g s0_0 x1001_1 x1002_1 2 t351 t352 t353 w0 _ ?side1 ?side2 A18.out).mono ?_);(case side1=>exact tafj);(case side2=>exact tafk);rintro e w27 ⟨rfl,hi,hb,hk⟩;refine ⟨_,rfl,?_⟩;have n0_:=zad (zbq (zbr (zcj (show IsS43 w0 _ g s0_0 x1001_1 x1002_1 from by exact tafh) (taam) (by decide)) hk (fun _ h=>h.2)) (fun _ h=>h.1));have n1_:=zad (zbs (taaf) hk (.inl rfl));have n2_:=zad (hb);have n3_:=zad (hi);clear HO_5 HK HB HI0;have HO_5:=n0_;have HK:=n1_;have HB:=n2_;have HI0:=n3_;clear n0_ n1_ n2_ n3_;(try clear hb);(try clear hb2);(try clear hk);(try clear hi)))
      go_ret
      exact ⟨_,taai,taam,taag,taaj,taaf⟩
  ·rw [if_neg c15] at H
   have c15b0:(t339 == 1)=false:=zbo.mpr c15
   have c15b1:(t339 != 1)=true:=bne_iff_ne.mpr c15
   by_cases c28:t339=2
   ·rw [if_pos c28] at H
    have c28b0:(t339 == 2)=true:=beq_iff_eq.mpr c28
    have c28b1:(t339 != 2)=false:=bne_eq_false_iff_eq.mpr c28
    clear c28;simp only [zbl,zbp] at H
    obtain ⟨rfl,rfl,rfl⟩:=H
    go_enter Tryz.func51,Tryz.ntmps51
    go_wp2_with (first | ((with_reducible refine zbh (f:=76) rfl ?_);refine zbn (some 8) rfl rfl Tryz.func76 (by kernel_rfl) rfl #[.pointer (some ⟨g,0,none⟩),.int .i64 a1] rfl (taae) ?_;(with_reducible refine (spec_l1Cur_list.calls k g s0_0 s0_1 s0_2 a1 t334 t337 t338 w0 _ ?side1 ?side2 A3.out).mono ?_);(case side1=>repeat (first | (with_reducible first | exact HI0.out | apply zcg | apply zch | apply zci | apply zcl | apply zcm) | exact HI0.out));(case side2=>repeat (first | (with_reducible first | exact HB.out | apply zag | apply zae | apply zaf | refine zah ?_ (zck HI0.out)) | exact HB.out));rintro e w29 ⟨v335,rfl,ho0,hi,hb,hk⟩;refine ⟨_,rfl,?_⟩;have n0_:=zad (zbu ho0 (keep_size (w:=w) (g:=g) (row:=none) (taaf)));have n1_:=zad (zbs (taaf) hk (.inl rfl));have n2_:=zad (hb);have n3_:=zad (hi);clear HK HB HI0;have HO336:=n0_;have HK:=n1_;have HB:=n2_;have HI0:=n3_;clear n0_ n1_ n2_ n3_;(try clear hb);(try clear hb2);(try clear hk);(try clear hi);(try clear ho0)) | ((with_reducible refine zbh (f:=18) rfl ?_);refine zbn (some 10) rfl rfl Tryz.func18 (by kernel_rfl) rfl #[.pointer (some ⟨g,0,none⟩),.int .i64 14] rfl (taae) ?_;(with_reducible refine (zcn g s0_0 t337 t338 14 t339 t340 t341 w0 _ ?side1 ?side2 A4.out).mono ?_);(case side1=>repeat (first | (with_reducible first | exact HI0.out | apply zcg | apply zch | apply zci | apply zcl | apply zcm) | exact HI0.out));(case side2=>repeat (first | (with_reducible first | exact HB.out | apply zag | apply zae | apply zaf | refine zah ?_ (zck HI0.out)) | exact HB.out));rintro e w30 ⟨rfl,hi,hb,hk⟩;refine ⟨_,rfl,?_⟩;have n0_:=zad (zbq (zbr (zcj (show IsS43 w0 _ g s0_0 t337 t338 from by exact tafh) (tabe) (by decide)) hk (fun _ h=>h.2)) (fun _ h=>h.1));have n1_:=zad (zbs (taaf) hk (.inl rfl));have n2_:=zad (hb);have n3_:=zad (hi);clear HO336 HK HB HI0;have HO336:=n0_;have HK:=n1_;have HB:=n2_;have HI0:=n3_;clear n0_ n1_ n2_ n3_;(try clear hb);(try clear hb2);(try clear hk);(try clear hi)))
    go_ret
    exact ⟨_,taai,taax,taag,taaj,taaf⟩
   ·rw [if_neg c28] at H
    have c28b0:(t339 == 2)=false:=zbo.mpr c28
    have c28b1:(t339 != 2)=true:=bne_iff_ne.mpr c28
    simp only [zbl,zbp] at H
    obtain ⟨rfl,rfl,rfl⟩:=H
    go_enter Tryz.func51,Tryz.ntmps51
    go_wp2_with (first | ((with_reducible refine zbh (f:=76) rfl ?_);refine zbn (some 8) rfl rfl Tryz.func76 (by kernel_rfl) rfl #[.pointer (some ⟨g,0,none⟩),.int .i64 a1] rfl (taae) ?_;(with_reducible refine (spec_l1Cur_list.calls k g s0_0 s0_1 s0_2 a1 t334 t337 t338 w0 _ ?side1 ?side2 A3.out).mono ?_);(case side1=>repeat (first | (with_reducible first | exact HI0.out | apply zcg | apply zch | apply zci | apply zcl | apply zcm) | exact HI0.out));(case side2=>repeat (first | (with_reducible first | exact HB.out | apply zag | apply zae | apply zaf | refine zah ?_ (zck HI0.out)) | exact HB.out));rintro e w31 ⟨v335,rfl,ho0,hi,hb,hk⟩;refine ⟨_,rfl,?_⟩;have n0_:=zad (zbu ho0 (keep_size (w:=w) (g:=g) (row:=none) (taaf)));have n1_:=zad (zbs (taaf) hk (.inl rfl));have n2_:=zad (hb);have n3_:=zad (hi);clear HK HB HI0;have HO336:=n0_;have HK:=n1_;have HB:=n2_;have HI0:=n3_;clear n0_ n1_ n2_ n3_;(try clear hb);(try clear hb2);(try clear hk);(try clear hi);(try clear ho0)) | ((with_reducible refine zbh (f:=18) rfl ?_);refine zbn (some 10) rfl rfl Tryz.func18 (by kernel_rfl) rfl #[.pointer (some ⟨g,0,none⟩),.int .i64 14] rfl (taae) ?_;(with_reducible refine (zcn g s0_0 t337 t338 14 t339 t340 t341 w0 _ ?side1 ?side2 A4.out).mono ?_);(case side1=>repeat (first | (with_reducible first | exact HI0.out | apply zcg | apply zch | apply zci | apply zcl | apply zcm) | exact HI0.out));(case side2=>repeat (first | (with_reducible first | exact HB.out | apply zag | apply zae | apply zaf | refine zah ?_ (zck HI0.out)) | exact HB.out));rintro e w32 ⟨rfl,hi,hb,hk⟩;refine ⟨_,rfl,?_⟩;have n0_:=zad (zbq (zbr (zcj (show IsS43 w0 _ g s0_0 t337 t338 from by exact tafh) (tabe) (by decide)) hk (fun _ h=>h.2)) (fun _ h=>h.1));have n1_:=zad (zbs (taaf) hk (.inl rfl));have n2_:=zad (hb);have n3_:=zad (hi);clear HO336 HK HB HI0;have HO336:=n0_;have HK:=n1_;have HB:=n2_;have HI0:=n3_;clear n0_ n1_ n2_ n3_;(try clear hb);(try clear hb2);(try clear hk);(try clear hi)))
    go_ret
    exact ⟨_,taai,tabe,taag,taaj,taaf⟩
def spec_l1Own.f (l0:List Int):Option (List Int):=(some (([]:List Int):List Int)).bind fun y108=>(if y108.length+l0.length<17592186044416 then (some (y108 ++ l0)) else (none))
theorem spec_l1Own.calls (A0:Option Addr) (c0:Nat) (l0:List Int) (r:List Int) (w:World) (hr0:Kd.C (Kd.int .i64) w A0 l0.length l0) (hc0:l0.length≤c0) (h:spec_l1Own.f l0=some r) :
 Calls Tryz.prog 52 #[.slice A0 l0.length c0] w fun e w'=>∃ v0_:Value,e = .returned (v0_)∧Kd.R (Kd.int .i64) 3 w' w.heap.size (fun _=>True) v0_ r∧Below w.heap.size w w':=by
 have HR0:=zad hr0;have HC0:=zad hc0;clear hr0 hc0;have HB:=zad (Below.refl w.heap.size w)
 have H:((some (([]:List Int):List Int)).bind fun y108=>(if y108.length+l0.length<17592186044416 then (some (y108 ++ l0)) else (none)))=some r:=h
 clear h;obtain ⟨y108,hy108⟩:∃ y_:List Int,y_=(([]:List Int)):=⟨_,rfl⟩
 replace H:(if y108.length+l0.length<17592186044416 then (some (y108 ++ l0)) else (none))=some r:=by first | (rw [hy108];with_reducible exact H) | (have H2_:=(zbd _ _).symm.trans H;rw [hy108];with_reducible exact H2_) | (have H2_:=(zbd _ _).symm.trans H;with_reducible exact H2_) | with_reducible exact H | (rw [hy108];exact H) | exact H
 have Ny108:=zad hy108;clear hy108;by_cases c2:y108.length+l0.length<17592186044416
 ·rw [if_pos c2] at H
  have LMc2:=zad c2;clear c2;obtain ⟨y111,hy111⟩:∃ y_:List Int,y_=(y108 ++ l0):=⟨_,rfl⟩
  replace H:(some y111)=some r:=by first | (rw [hy111];with_reducible exact H) | (have H2_:=(zbd _ _).symm.trans H;rw [hy111];with_reducible exact H2_) | (have H2_:=(zbd _ _).symm.trans H;with_reducible exact H2_) | with_reducible exact H | (rw [hy111];exact H) | exact H
  have Ny111:=zad hy111;clear hy111;obtain rfl:=zbe H
  go_enter Tryz.func52,Tryz.ntmps52
  go_wp2_with (first | ((with_reducible refine gate_dst (N:=3) rfl ?_);refine Kd.R_lit (Kd.int .i64) _ 3 ?hg (N:=3) ?hd (xs:=([]:List Int)) (inner:=[]) (ok:=fun _=>True) (okp:=fun _=>True) ?hr ?hp (fun _ hk=>hk) trivial (Below.refl _ _) (zcf _) (taac) ?_;(case hd=>rfl);(case hg=>rfl);(case hr=>first | (go_simp;done) | (go_simp;rfl));(case hp=>exact (Reps.none _ _));intro v109 w3 ho4 hb hg_ hnew_;clear hg_ hnew_;(first | rw [← Ny108.out] at ho4 | (simp only [Int.reduceToNat] at ho4;rw [← Ny108.out] at ho4));have n0_:=zad (zbu ho4 (zbk (taab)));have n1_:=zad (zbg (taab) hb);clear HB;have HO110:=n0_;have HB:=n1_;clear n0_ n1_ hb ho4) | ((with_reducible refine gate_builtin (b := .append) (xs:=#[.tmp 3,.tmp 4]) rfl ?_);at_builtin;refine Kd.R_append_rows (Kd.int .i64) (w0:=w) w.heap.size rfl (.tmp 3) (.tmp 4) 25 3 (.int .i64 0) 8 rfl Tryz.underlying25 info3 rfl (by decide) (by omega) v109 y108 l0 _ _ _ (fun _=>True) (fun _=>False) rfl rfl ?aO ?aR (fun _ _ h=>h) (fun _ h=>h.elim) ?aF ?aB ?aS ?aL ?_;(case aR=>repeat (first | exact (Kd.C_below HR0.out HB.out) | (with_reducible refine zal ?_ _) | (with_reducible refine zam ?_ _) | (with_reducible refine zan ?_)));(case aB=>exact (taab));(case aF=>exact (fun _ _=>trivial));(case aO=>exact (by (with_reducible repeat (first | apply zai | apply zaj | apply zak));exact HO110.out));(case aS=>exact (zbk (taab)));(case aL=>have:=LMc2.out;omega);intro v112 w5 ho hb hg hat;rw [← Ny111.out] at ho;have n0_:=zad (hb);have n1_:=zad (ho);clear HB HO110;have HB:=n0_;have HO113:=n1_;clear n0_ n1_ ho hb hg hat))
  go_ret
  exact ⟨_,taai,by (with_reducible repeat (first | apply zai | apply zaj | apply zak));exact HO113.out,taab⟩
 ·rw [if_neg c2] at H
  exact absurd H (taac)
mutual
def spec_l1Cur_fitting.l0:Nat→List Int→List Int→Int→List Int→Int→Int→Option (List Int × List Int × Int × Int)
 | 0,_,_,_,_,_,_=>none
 | k+1,x6,x7,x8,x1000,x1001,x1002=>if x8>0 then (spec_l1Cur_fitting.j1 k x6 x7 x8 (decide ((x7.length:Int)>1)) x1000 x1001 x1002) else (spec_l1Cur_fitting.j1 k x6 x7 x8 false x1000 x1001 x1002)
def spec_l1Cur_fitting.j1:Nat→List Int→List Int→Int→Bool→List Int→Int→Int→Option (List Int × List Int × Int × Int)
 | 0,_,_,_,_,_,_,_=>none
 | k+1,x6,x7,x8,x30,x1000,x1001,x1002=>if x30=true then ((spec_l1Cur_pick.f x1000 x1001 x1002 (x7.length:Int)).bind fun bt382=>((spec_l1Cur_pick.f x1000 bt382.2.1 bt382.2.2 (x7.length:Int)).bind fun bt385=>(if 0≤bt382.1 then (if bt382.1<(x7.length:Int) then (if (rd x7 bt382.1)>0 then (if 0≤bt385.1 then (if bt385.1<(x7.length:Int) then (if (rd x7 bt382.1)>(rd x7 bt385.1) then ((some (x7.set (bt382.1:Int).toNat (wrap64 ((rd x7 bt382.1) - 1)):List Int)).bind fun y392=>(spec_l1Cur_fitting.l0 k x6 (y392.set (bt385.1:Int).toNat (wrap64 ((rd y392 bt385.1)+1))) (wrap64 (x8 - 1)) x1000 bt385.2.1 bt385.2.2)) else ((spec_l1Cur_one.f x1000 bt385.2.1 bt385.2.2 4).bind fun bt395=>(if bt395.1=true then ((some (x7.set (bt382.1:Int).toNat (wrap64 ((rd x7 bt382.1) - 1)):List Int)).bind fun y399=>(spec_l1Cur_fitting.l0 k x6 (y399.set (bt385.1:Int).toNat (wrap64 ((rd y399 bt385.1)+1))) (wrap64 (x8 - 1)) x1000 bt395.2.1 bt395.2.2)) else (spec_l1Cur_fitting.l0 k x6 x7 (wrap64 (x8 - 1)) x1000 bt395.2.1 bt395.2.2)))) else (none)) else (none)) else (spec_l1Cur_fitting.l0 k x6 x7 (wrap64 (x8 - 1)) x1000 bt385.2.1 bt385.2.2)) else (none)) else (none)))) else ((spec_l1Cur_one.f x1000 x1001 x1002 5).bind fun bt379=>(if bt379.1=true then (some (x6,x7,bt379.2.1,bt379.2.2)) else (some (x7,x6,bt379.2.1,bt379.2.2))))
end
def spec_l1Cur_fitting.f (k:Nat) (s0_0:List Int) (s0_1:Int) (s0_2:Int) (a1:Int):Option (List Int × List Int × Int × Int):=(spec_l1Cur_anyList.f k s0_0 s0_1 s0_2 a1).bind fun bt360=>((spec_l1Cur_one.f s0_0 bt360.2.1 bt360.2.2 5).bind fun bt365=>(if bt365.1=true then ((spec_l1Cur_anyList.f k s0_0 bt365.2.1 bt365.2.2 a1).bind fun bt368=>(some (bt368.1,bt360.1,bt368.2.1,bt368.2.2))) else ((spec_l1Own.f bt360.1).bind fun t373=>((spec_l1Cur_pick.f s0_0 bt365.2.1 bt365.2.2 12).bind fun bt376=>(spec_l1Cur_fitting.l0 k bt360.1 t373 bt376.1 s0_0 bt376.2.1 bt376.2.2)))))
def spec_l1Cur_fitting.T9:Bool × List (List Nat × List Nat):=(true,[([],[]),([],[]),([0,1],[0,1]),([2],[2]),([3],[3]),([4],[4]),([5],[5]),([5],[5]),([6,7,5],[5,6,7]),([8,5],[5,8]),([5],[5]),([5],[5]),([10,11,5],[5,10,11]),([12,5],[5,12]),([9,13,5],[5,9,13]),([14,5,5],[5,14]),([15],[15]),([16,15,15],[15,16]),([15,17,5],[5,15,17]),([5,18],[5,18])])
def spec_l1Cur_fitting.B9:List Nat:=[0,0,3,7,15,31,63,63,255,511,63,63,3135,7231,16383,32767,65535,131071,262143,524287]
theorem spec_l1Cur_fitting.tab9:rtab .any (opsOf Tryz.f17 9)=spec_l1Cur_fitting.T9:=by kernel_rfl
theorem spec_l1Cur_fitting.bits9:waitsOk spec_l1Cur_fitting.T9.2 spec_l1Cur_fitting.B9=true:=by kernel_rfl
theorem spec_l1Cur_fitting.calls (k:Nat) (g:Nat) (s0_0:List Int) (s0_1:Int) (s0_2:Int) (a1:Int) (r1:List Int) (r2:List Int) (r3:Int) (r4:Int) (w0 w:World) (hI:IsS43 w0 w g s0_0 s0_1 s0_2) (hB:Below w0.heap.size w0 w) (h:spec_l1Cur_fitting.f k s0_0 s0_1 s0_2 a1=some (r1,r2,r3,r4)) :
 Calls Tryz.prog 17 #[.pointer (some ⟨g,0,none⟩),.int .i64 a1] w fun e w'=>∃ v0_ v1_:Value,e = .returned (.tuple #[v0_,v1_])∧Kd.R (Kd.int .i64) 3 w' w.heap.size (fun k_=>some k_≠(v1_:Value).ownBlock) v0_ r1∧Kd.R (Kd.int .i64) 3 w' w.heap.size (fun k_=>some k_≠(v0_:Value).ownBlock) v1_ r2∧IsS43 w0 w' g s0_0 r3 r4∧Below w0.heap.size w0 w'∧KeepBut w w' g none:=by
 have HI0:=zad hI;have HK:=zad (KeepBut.refl w g none)
 have HL:=zad hB.size;clear hI;have HW0:=zad hB.size;have HB:=zad hB;clear hB;have H:((spec_l1Cur_anyList.f k s0_0 s0_1 s0_2 a1).bind fun bt360=>((spec_l1Cur_one.f s0_0 bt360.2.1 bt360.2.2 5).bind fun bt365=>(if bt365.1=true then ((spec_l1Cur_anyList.f k s0_0 bt365.2.1 bt365.2.2 a1).bind fun bt368=>(some (bt368.1,bt360.1,bt368.2.1,bt368.2.2))) else ((spec_l1Own.f bt360.1).bind fun t373=>((spec_l1Cur_pick.f s0_0 bt365.2.1 bt365.2.2 12).bind fun bt376=>(spec_l1Cur_fitting.l0 k bt360.1 t373 bt376.1 s0_0 bt376.2.1 bt376.2.2))))))=some (r1,r2,r3,r4):=h
 clear h;replace H:=zay.mp H;obtain ⟨⟨t360,t363,t364⟩,A30,H⟩:=H
 replace H:((spec_l1Cur_one.f s0_0 t363 t364 5).bind fun bt365=>(if bt365.1=true then ((spec_l1Cur_anyList.f k s0_0 bt365.2.1 bt365.2.2 a1).bind fun bt368=>(some (bt368.1,t360,bt368.2.1,bt368.2.2))) else ((spec_l1Own.f t360).bind fun t373=>((spec_l1Cur_pick.f s0_0 bt365.2.1 bt365.2.2 12).bind fun bt376=>(spec_l1Cur_fitting.l0 k t360 t373 bt376.1 s0_0 bt376.2.1 bt376.2.2)))))=some (r1,r2,r3,r4):=H
 have A3:=zad A30;clear A30;replace H:=zay.mp H;obtain ⟨⟨t365,t366,t367⟩,A40,H⟩:=H
 replace H:(if t365=true then ((spec_l1Cur_anyList.f k s0_0 t366 t367 a1).bind fun bt368=>(some (bt368.1,t360,bt368.2.1,bt368.2.2))) else ((spec_l1Own.f t360).bind fun t373=>((spec_l1Cur_pick.f s0_0 t366 t367 12).bind fun bt376=>(spec_l1Cur_fitting.l0 k t360 t373 bt376.1 s0_0 bt376.2.1 bt376.2.2))))=some (r1,r2,r3,r4):=H
 have A4:=zad A40;clear A40;by_cases c5:t365=true
 ·subst c5
  have H1:((spec_l1Cur_anyList.f k s0_0 t366 t367 a1).bind fun bt368=>(some (bt368.1,t360,bt368.2.1,bt368.2.2)))=some (r1,r2,r3,r4):=by rw [if_pos rfl] at H;exact H
  clear H;have H:=H1;clear H1;replace H:=zay.mp H;obtain ⟨⟨t368,t371,t372⟩,A60,H⟩:=H
  replace H:(some (t368,t360,t371,t372))=some (r1,r2,r3,r4):=H
  have A6:=zad A60;clear A60;simp only [zbl,zbp] at H
  obtain ⟨rfl,rfl,rfl,rfl⟩:=H
  go_enter Tryz.func17,Tryz.ntmps17
  go_wp2_with (first | ((with_reducible refine zbh (f:=51) rfl ?_);refine zbn (some 13) rfl rfl Tryz.func51 (by kernel_rfl) rfl #[.pointer (some ⟨g,0,none⟩),.int .i64 a1] rfl (taae) ?_;(with_reducible refine (spec_l1Cur_anyList.calls k g s0_0 s0_1 s0_2 a1 t360 t363 t364 w0 _ ?side1 ?side2 A3.out).mono ?_);(case side1=>repeat (first | (with_reducible first | exact HI0.out | apply zcg | apply zch | apply zci | apply zcl | apply zcm) | exact HI0.out));(case side2=>repeat (first | (with_reducible first | exact HB.out | apply zag | apply zae | apply zaf | refine zah ?_ (zck HI0.out)) | exact HB.out));rintro e w7 ⟨v361,rfl,ho0,hi,hb,hk⟩;refine ⟨_,rfl,?_⟩;have n0_:=zad (zbu ho0 (keep_size (w:=w) (g:=g) (row:=none) (taaf)));have n1_:=zad (zbs (taaf) hk (.inl rfl));have n2_:=zad (hb);have n3_:=zad (hi);clear HK HB HI0;have HO362:=n0_;have HK:=n1_;have HB:=n2_;have HI0:=n3_;clear n0_ n1_ n2_ n3_;(try clear hb);(try clear hb2);(try clear hk);(try clear hi);(try clear ho0)) | ((with_reducible refine zbh (f:=16) rfl ?_);refine zbn (some 15) rfl rfl Tryz.func16 (by kernel_rfl) rfl #[.pointer (some ⟨g,0,none⟩),.int .i64 5] rfl (taae) ?_;(with_reducible refine (spec_l1Cur_one.calls g s0_0 t363 t364 5 true t366 t367 w0 _ ?side1 ?side2 A4.out).mono ?_);(case side1=>repeat (first | (with_reducible first | exact HI0.out | apply zcg | apply zch | apply zci | apply zcl | apply zcm) | exact HI0.out));(case side2=>repeat (first | (with_reducible first | exact HB.out | apply zag | apply zae | apply zaf | refine zah ?_ (zck HI0.out)) | exact HB.out));rintro e w8 ⟨rfl,hi,hb,hk⟩;refine ⟨_,rfl,?_⟩;have n0_:=zad (zbq (zbr (zcj (show IsS43 w0 _ g s0_0 t363 t364 from by exact tafh) (tabi) (by decide)) hk (fun _ h=>h.2)) (fun _ h=>h.1));have n1_:=zad (zbs (taaf) hk (.inl rfl));have n2_:=zad (hb);have n3_:=zad (hi);clear HO362 HK HB HI0;have HO362:=n0_;have HK:=n1_;have HB:=n2_;have HI0:=n3_;clear n0_ n1_ n2_ n3_;(try clear hb);(try clear hb2);(try clear hk);(try clear hi)) | ((with_reducible refine zbh (f:=51) rfl ?_);refine zbn (some 18) rfl rfl Tryz.func51 (by kernel_rfl) rfl #[.pointer (some ⟨g,0,none⟩),.int .i64 a1] rfl (taae) ?_;(with_reducible refine (spec_l1Cur_anyList.calls k g s0_0 t366 t367 a1 t368 t371 t372 w0 _ ?side1 ?side2 A6.out).mono ?_);(case side1=>repeat (first | (with_reducible first | exact HI0.out | apply zcg | apply zch | apply zci | apply zcl | apply zcm) | exact HI0.out));(case side2=>repeat (first | (with_reducible first | exact HB.out | apply zag | apply zae | apply zaf | refine zah ?_ (zck HI0.out)) | exact HB.out));rintro e w9 ⟨v369,rfl,ho0,hi,hb,hk⟩;refine ⟨_,rfl,?_⟩;have n0_:=zad (zbq (Kd.R_told (Kd.R_oldK (zcj (show IsS43 w0 _ g s0_0 t366 t367 from by exact tafh) (tabi) (by decide)) hk) (zcd ho0)) (fun _ h_=>h_.1));have n1_:=zad (zbu (zcc ho0 (zce (tabi))) (keep_size (w:=w) (g:=g) (row:=none) (taaf)));have n2_:=zad (zbs (taaf) hk (.inl rfl));have n3_:=zad (hb);have n4_:=zad (hi);clear HO362 HK HB HI0;have HO362:=n0_;have HO370:=n1_;have HK:=n2_;have HB:=n3_;have HI0:=n4_;clear n0_ n1_ n2_ n3_ n4_;(try clear hb);(try clear hb2);(try clear hk);(try clear hi);(try clear ho0)))
  go_ret2
  exact ⟨_,_,taai,by (with_reducible repeat (first | apply zai | apply zaj | apply zak));exact zbq HO370.out (fun _ hk=>hk.2),tacz,taag,taaj,taaf⟩
 ·replace c5:=zbi.mpr c5
  subst c5;have H1:((spec_l1Own.f t360).bind fun t373=>((spec_l1Cur_pick.f s0_0 t366 t367 12).bind fun bt376=>(spec_l1Cur_fitting.l0 k t360 t373 bt376.1 s0_0 bt376.2.1 bt376.2.2)))=some (r1,r2,r3,r4):=by rw [if_neg (show ¬ (false=true) by decide)] at H;exact H
  clear H;have H:=H1;clear H1;replace H:=zay.mp H;obtain ⟨t373,A100,H⟩:=H
  replace H:((spec_l1Cur_pick.f s0_0 t366 t367 12).bind fun bt376=>(spec_l1Cur_fitting.l0 k t360 t373 bt376.1 s0_0 bt376.2.1 bt376.2.2))=some (r1,r2,r3,r4):=H
  have A10:=zad A100;clear A100;replace H:=zay.mp H;obtain ⟨⟨t376,t377,t378⟩,A110,H⟩:=H
  replace H:(spec_l1Cur_fitting.l0 k t360 t373 t376 s0_0 t377 t378)=some (r1,r2,r3,r4):=H
  have A11:=zad A110;clear A110;have H':=zad H
  clear H;go_enter Tryz.func17,Tryz.ntmps17
  go_wp2_with (first | ((with_reducible refine zbh (f:=51) rfl ?_);refine zbn (some 13) rfl rfl Tryz.func51 (by kernel_rfl) rfl #[.pointer (some ⟨g,0,none⟩),.int .i64 a1] rfl (taae) ?_;(with_reducible refine (spec_l1Cur_anyList.calls k g s0_0 s0_1 s0_2 a1 t360 t363 t364 w0 _ ?side1 ?side2 A3.out).mono ?_);(case side1=>repeat (first | (with_reducible first | exact HI0.out | apply zcg | apply zch | apply zci | apply zcl | apply zcm) | exact HI0.out));(case side2=>repeat (first | (with_reducible first | exact HB.out | apply zag | apply zae | apply zaf | refine zah ?_ (zck HI0.out)) | exact HB.out));rintro e w12 ⟨v361,rfl,ho0,hi,hb,hk⟩;refine ⟨_,rfl,?_⟩;have n0_:=zad (zbu ho0 (keep_size (w:=w) (g:=g) (row:=none) (taaf)));have n1_:=zad (zbs (taaf) hk (.inl rfl));have n2_:=zad (hb);have n3_:=zad (hi);clear HK HB HI0;have HO362:=n0_;have HK:=n1_;have HB:=n2_;have HI0:=n3_;clear n0_ n1_ n2_ n3_;(try clear hb);(try clear hb2);(try clear hk);(try clear hi);(try clear ho0)) | ((with_reducible refine zbh (f:=16) rfl ?_);refine zbn (some 15) rfl rfl Tryz.func16 (by kernel_rfl) rfl #[.pointer (some ⟨g,0,none⟩),.int .i64 5] rfl (taae) ?_;(with_reducible refine (spec_l1Cur_one.calls g s0_0 t363 t364 5 false t366 t367 w0 _ ?side1 ?side2 A4.out).mono ?_);(case side1=>repeat (first | (with_reducible first | exact HI0.out | apply zcg | apply zch | apply zci | apply zcl | apply zcm) | exact HI0.out));(case side2=>repeat (first | (with_reducible first | exact HB.out | apply zag | apply zae | apply zaf | refine zah ?_ (zck HI0.out)) | exact HB.out));rintro e w13 ⟨rfl,hi,hb,hk⟩;refine ⟨_,rfl,?_⟩;have n0_:=zad (zbq (zbr (zcj (show IsS43 w0 _ g s0_0 t363 t364 from by exact tafh) (tabi) (by decide)) hk (fun _ h=>h.2)) (fun _ h=>h.1));have n1_:=zad (zbs (taaf) hk (.inl rfl));have n2_:=zad (hb);have n3_:=zad (hi);clear HO362 HK HB HI0;have HO362:=n0_;have HK:=n1_;have HB:=n2_;have HI0:=n3_;clear n0_ n1_ n2_ n3_;(try clear hb);(try clear hb2);(try clear hk);(try clear hi);obtain ⟨Ao14,co14,eo14⟩:=zbv HO362.out;subst eo14) | ((with_reducible refine zbh (f:=52) rfl ?_);refine zbn (some 21) rfl rfl Tryz.func52 (by kernel_rfl) rfl #[.slice Ao14 t360.length co14] rfl (taae) ?_;(with_reducible refine (spec_l1Own.calls _ _ t360 t373 _ ?side1 ?side2 A10.out).mono ?_);(case side1=>repeat (first | exact (zbf HO362.out).2.2 | (with_reducible refine zal ?_ _) | (with_reducible refine zam ?_ _) | (with_reducible refine zan ?_)));(case side2=>exact (zbf HO362.out).2.1);rintro e w15 ⟨v374,rfl,ho0,hb⟩;refine ⟨_,rfl,?_⟩;have n0_:=zad (zcb (tabi) (zcd ho0) hb);have n1_:=zad (zbu (zcc ho0 (zce (tabi))) (keep_size (w:=w) (g:=g) (row:=none) (taaf)));have n2_:=zad (IsS43.below (taag) hb);have n3_:=zad (zbs (taaf) (KeepBut.of_below hb g none) (.inl rfl));have n4_:=zad (zbg (taaj) hb);clear HO362 HI0 HK HB;have HO362:=n0_;have HO375:=n1_;have HI0:=n2_;have HK:=n3_;have HB:=n4_;clear n0_ n1_ n2_ n3_ n4_;(try clear hb);(try clear hb2);(try clear hk);(try clear hi);(try clear ho0)) | ((with_reducible refine zbh (f:=18) rfl ?_);refine zbn (some 23) rfl rfl Tryz.func18 (by kernel_rfl) rfl #[.pointer (some ⟨g,0,none⟩),.int .i64 12] rfl (taae) ?_;(with_reducible refine (zcn g s0_0 t366 t367 12 t376 t377 t378 w0 _ ?side1 ?side2 A11.out).mono ?_);(case side1=>repeat (first | (with_reducible first | exact HI0.out | apply zcg | apply zch | apply zci | apply zcl | apply zcm) | exact HI0.out));(case side2=>repeat (first | (with_reducible first | exact HB.out | apply zag | apply zae | apply zaf | refine zah ?_ (zck HI0.out)) | exact HB.out));rintro e w16 ⟨rfl,hi,hb,hk⟩;refine ⟨_,rfl,?_⟩;have n0_:=zad (zbq (zbr (zcj (show IsS43 w0 _ g s0_0 t366 t367 from by exact tafh) (tabi) (by decide)) hk (fun _ h=>h.2)) (fun _ h=>h.1));have n1_:=zad (zbq (zbr (zcj (show IsS43 w0 _ g s0_0 t366 t367 from by exact tafh) (by (with_reducible repeat (first | apply zai | apply zaj | apply zak));exact HO375.out) (by decide)) hk (fun _ h=>h.2)) (fun _ h=>h.1));have n2_:=zad (zbs (taaf) hk (.inl rfl));have n3_:=zad (hb);have n4_:=zad (hi);clear HO362 HO375 HK HB HI0;have HO362:=n0_;have HO375:=n1_;have HK:=n2_;have HB:=n3_;have HI0:=n4_;clear n0_ n1_ n2_ n3_ n4_;(try clear hb);(try clear hb2);(try clear hk);(try clear hi)))
  go_loopg [8] k (fun kq v8 w'=>∃ (x7_1:List Int) (x8_1:Int) (x1001_1:Int) (x1002_1:Int),v8 = .int .i64 x8_1∧Aside0 (spec_l1Cur_fitting.l0 kq t360 x7_1 x8_1 s0_0 x1001_1 x1002_1=some (r1,r2,r3,r4))∧Aside0 (kq≤k)∧Aside0 (Kd.R (Kd.int .i64) 3 w' w.heap.size (fun k_=>some k_≠(v374:Value).ownBlock) (.slice Ao14 t360.length co14) t360)∧Aside0 (Kd.R (Kd.int .i64) 3 w' w.heap.size (fun k_=>some k_≠((.slice Ao14 t360.length co14):Value).ownBlock) v374 x7_1)∧Aside0 (IsS43 w0 w' g s0_0 x1001_1 x1002_1)∧Aside0 (KeepBut w w' g none)∧Aside0 (Below w0.heap.size w0 w'))
  case atStart=>exact ⟨(t373),(t376),(t377),(t378),(taad),H',⟨zcf _⟩,⟨tacz⟩,⟨by (with_reducible repeat (first | apply zai | apply zaj | apply zak));exact zbq HO375.out (fun _ hk=>hk.2)⟩,⟨taag⟩,⟨taaf⟩,⟨taaj⟩⟩
  case round =>
   clear H'
   try clear c1
   try clear p2
   try clear c5
   try clear c16
   obtain ⟨x7_1,x8_1,x1001_1,x1002_1,rfl,HA,HK1,HO_6,HO_7,HI0,HK,HB⟩:=hrel
   cases gk with
   | zero=>exact absurd HA.out (by simp [spec_l1Cur_fitting.l0])
   | succ k1 =>
    have H:=HA.out
    clear HA;simp only [spec_l1Cur_fitting.l0] at H
    have HC17:=zad H;clear H;go_upto_region 6 with (fail)
    go_cut [30] (fun v30 wc=>∃ (kq:Nat) (x30_16:Bool),v30 = .bool x30_16∧Aside0 (spec_l1Cur_fitting.j1 kq t360 x7_1 x8_1 x30_16 s0_0 x1001_1 x1002_1=some (r1,r2,r3,r4))∧Aside0 (kq≤k1)∧Aside0 (Kd.R (Kd.int .i64) 3 wc w.heap.size (fun k_=>some k_≠(v374:Value).ownBlock) (.slice Ao14 t360.length co14) t360)∧Aside0 (Kd.R (Kd.int .i64) 3 wc w.heap.size (fun k_=>some k_≠((.slice Ao14 t360.length co14):Value).ownBlock) v374 x7_1)∧Aside0 (IsS43 w0 wc g s0_0 x1001_1 x1002_1)∧Aside0 (KeepBut w wc g none)∧Aside0 (Below w0.heap.size w0 wc))
    case first =>
     have H:=HC17.out
     clear HC17;by_cases c18:x8_1>0
     ·rw [if_pos c18] at H
      have c18b0:decide (0<x8_1)=true:=zba c18
      clear c18;(first | rw [c18b0] | (simp only [zbw,zbx];rw [c18b0]) | skip)
      have H':=zad H
      clear H;obtain ⟨Ao19,co19,eo19⟩:=zbv HO_7.out
      subst eo19;go_wp2
      go_meet
      case rel=>exact ⟨_,(decide ((x7_1.length:Int)>1)),(taad),H',⟨tabw⟩,⟨taar⟩,⟨taak⟩,⟨taag⟩,⟨taaf⟩,⟨taaj⟩⟩
     ·rw [if_neg c18] at H
      have c18b0:decide (0<x8_1)=false:=zbj c18
      clear c18;(first | rw [c18b0] | (simp only [zbw,zbx];rw [c18b0]) | skip)
      have H':=zad H
      clear H;go_wp2
      go_meet
      case rel=>exact ⟨_,(false),(taad),H',⟨tabw⟩,⟨taar⟩,⟨taak⟩,⟨taag⟩,⟨taaf⟩,⟨taaj⟩⟩
    case rest =>
     clear HC17;try clear c1
     try clear p2
     try clear c5
     try clear c16
     try clear c17
     try clear c18
     try clear c18b0
     try clear p2
     obtain ⟨kq,x30_16,rfl,HA,HJ16,HO_6,HO_7,HI0,HK,HB⟩:=hcut
     cases kq with
     | zero=>exact absurd HA.out (by simp [spec_l1Cur_fitting.j1])
     | succ kj16 =>
      have H:=HA.out
      clear HA;simp only [spec_l1Cur_fitting.j1] at H
      by_cases c20:x30_16=true
      ·subst c20
       have H1:((spec_l1Cur_pick.f s0_0 x1001_1 x1002_1 (x7_1.length:Int)).bind fun bt382=>((spec_l1Cur_pick.f s0_0 bt382.2.1 bt382.2.2 (x7_1.length:Int)).bind fun bt385=>(if 0≤bt382.1 then (if bt382.1<(x7_1.length:Int) then (if (rd x7_1 bt382.1)>0 then (if 0≤bt385.1 then (if bt385.1<(x7_1.length:Int) then (if (rd x7_1 bt382.1)>(rd x7_1 bt385.1) then ((some (x7_1.set (bt382.1:Int).toNat (wrap64 ((rd x7_1 bt382.1) - 1)):List Int)).bind fun y392=>(spec_l1Cur_fitting.l0 kj16 t360 (y392.set (bt385.1:Int).toNat (wrap64 ((rd y392 bt385.1)+1))) (wrap64 (x8_1 - 1)) s0_0 bt385.2.1 bt385.2.2)) else ((spec_l1Cur_one.f s0_0 bt385.2.1 bt385.2.2 4).bind fun bt395=>(if bt395.1=true then ((some (x7_1.set (bt382.1:Int).toNat (wrap64 ((rd x7_1 bt382.1) - 1)):List Int)).bind fun y399=>(spec_l1Cur_fitting.l0 kj16 t360 (y399.set (bt385.1:Int).toNat (wrap64 ((rd y399 bt385.1)+1))) (wrap64 (x8_1 - 1)) s0_0 bt395.2.1 bt395.2.2)) else (spec_l1Cur_fitting.l0 kj16 t360 x7_1 (wrap64 (x8_1 - 1)) s0_0 bt395.2.1 bt395.2.2)))) else (none)) else (none)) else (spec_l1Cur_fitting.l0 kj16 t360 x7_1 (wrap64 (x8_1 - 1)) s0_0 bt385.2.1 bt385.2.2)) else (none)) else (none))))=some (r1,r2,r3,r4):=by rw [if_pos rfl] at H;exact H
       clear H;have H:=H1;clear H1;replace H:=zay.mp H;obtain ⟨⟨t382,t383,t384⟩,A210,H⟩:=H
       replace H:((spec_l1Cur_pick.f s0_0 t383 t384 (x7_1.length:Int)).bind fun bt385=>(if 0≤t382 then (if t382<(x7_1.length:Int) then (if (rd x7_1 t382)>0 then (if 0≤bt385.1 then (if bt385.1<(x7_1.length:Int) then (if (rd x7_1 t382)>(rd x7_1 bt385.1) then ((some (x7_1.set (t382:Int).toNat (wrap64 ((rd x7_1 t382) - 1)):List Int)).bind fun y392=>(spec_l1Cur_fitting.l0 kj16 t360 (y392.set (bt385.1:Int).toNat (wrap64 ((rd y392 bt385.1)+1))) (wrap64 (x8_1 - 1)) s0_0 bt385.2.1 bt385.2.2)) else ((spec_l1Cur_one.f s0_0 bt385.2.1 bt385.2.2 4).bind fun bt395=>(if bt395.1=true then ((some (x7_1.set (t382:Int).toNat (wrap64 ((rd x7_1 t382) - 1)):List Int)).bind fun y399=>(spec_l1Cur_fitting.l0 kj16 t360 (y399.set (bt385.1:Int).toNat (wrap64 ((rd y399 bt385.1)+1))) (wrap64 (x8_1 - 1)) s0_0 bt395.2.1 bt395.2.2)) else (spec_l1Cur_fitting.l0 kj16 t360 x7_1 (wrap64 (x8_1 - 1)) s0_0 bt395.2.1 bt395.2.2)))) else (none)) else (none)) else (spec_l1Cur_fitting.l0 kj16 t360 x7_1 (wrap64 (x8_1 - 1)) s0_0 bt385.2.1 bt385.2.2)) else (none)) else (none)))=some (r1,r2,r3,r4):=H
       have A21:=zad A210;clear A210;replace H:=zay.mp H;obtain ⟨⟨t385,t386,t387⟩,A220,H⟩:=H
       replace H:(if 0≤t382 then (if t382<(x7_1.length:Int) then (if (rd x7_1 t382)>0 then (if 0≤t385 then (if t385<(x7_1.length:Int) then (if (rd x7_1 t382)>(rd x7_1 t385) then ((some (x7_1.set (t382:Int).toNat (wrap64 ((rd x7_1 t382) - 1)):List Int)).bind fun y392=>(spec_l1Cur_fitting.l0 kj16 t360 (y392.set (t385:Int).toNat (wrap64 ((rd y392 t385)+1))) (wrap64 (x8_1 - 1)) s0_0 t386 t387)) else ((spec_l1Cur_one.f s0_0 t386 t387 4).bind fun bt395=>(if bt395.1=true then ((some (x7_1.set (t382:Int).toNat (wrap64 ((rd x7_1 t382) - 1)):List Int)).bind fun y399=>(spec_l1Cur_fitting.l0 kj16 t360 (y399.set (t385:Int).toNat (wrap64 ((rd y399 t385)+1))) (wrap64 (x8_1 - 1)) s0_0 bt395.2.1 bt395.2.2)) else (spec_l1Cur_fitting.l0 kj16 t360 x7_1 (wrap64 (x8_1 - 1)) s0_0 bt395.2.1 bt395.2.2)))) else (none)) else (none)) else (spec_l1Cur_fitting.l0 kj16 t360 x7_1 (wrap64 (x8_1 - 1)) s0_0 t386 t387)) else (none)) else (none))=some (r1,r2,r3,r4):=H
       have A22:=zad A220;clear A220;by_cases c23:0≤t382
       ·rw [if_pos c23] at H
        have c23b0:decide (0≤t382)=true:=zba c23
        clear c23;by_cases c24:t382<(x7_1.length:Int)
        ·rw [if_pos c24] at H
         have c24b0:decide (t382<(x7_1.length:Int))=true:=zba c24
         clear c24;by_cases c25:(rd x7_1 t382)>0
         ·rw [if_pos c25] at H
          have c25b0:decide (0<(rd x7_1 t382))=true:=zba c25
          clear c25;by_cases c26:0≤t385
          ·rw [if_pos c26] at H
           have c26b0:decide (0≤t385)=true:=zba c26
           clear c26;by_cases c27:t385<(x7_1.length:Int)
           ·rw [if_pos c27] at H
            have c27b0:decide (t385<(x7_1.length:Int))=true:=zba c27
            clear c27;by_cases c28:(rd x7_1 t382)>(rd x7_1 t385)
            ·rw [if_pos c28] at H
             have c28b0:decide ((rd x7_1 t385)<(rd x7_1 t382))=true:=zba c28
             clear c28;obtain ⟨y392,hy392⟩:∃ y_:List Int,y_=(x7_1.set (t382:Int).toNat (wrap64 ((rd x7_1 t382) - 1))):=⟨_,rfl⟩
             replace H:(spec_l1Cur_fitting.l0 kj16 t360 (y392.set (t385:Int).toNat (wrap64 ((rd y392 t385)+1))) (wrap64 (x8_1 - 1)) s0_0 t386 t387)=some (r1,r2,r3,r4):=by first | (rw [hy392];with_reducible exact H) | (have H2_:=(zbd _ _).symm.trans H;rw [hy392];with_reducible exact H2_) | (have H2_:=(zbd _ _).symm.trans H;with_reducible exact H2_) | with_reducible exact H | (rw [hy392];exact H) | exact H
             have Ny392:=zad hy392;clear hy392;obtain ⟨y394,hy394⟩:∃ y_:List Int,y_=(y392.set (t385:Int).toNat (wrap64 ((rd y392 t385)+1))):=⟨_,rfl⟩
             replace H:(spec_l1Cur_fitting.l0 kj16 t360 y394 (wrap64 (x8_1 - 1)) s0_0 t386 t387)=some (r1,r2,r3,r4):=by first | (rw [hy394];with_reducible exact H) | (have H2_:=(zbd _ _).symm.trans H;rw [hy394];with_reducible exact H2_) | (have H2_:=(zbd _ _).symm.trans H;with_reducible exact H2_) | with_reducible exact H | (rw [hy394];exact H) | exact H
             have Ny394:=zad hy394;clear hy394;have H':=zad H
             clear H;obtain ⟨Ao31,co31,eo31⟩:=zbv HO_7.out
             subst eo31;try go_wp2_with (first | ((with_reducible refine zbh (f:=18) rfl ?_);refine zbn (some 36) rfl rfl Tryz.func18 (by kernel_rfl) rfl #[.pointer (some ⟨g,0,none⟩),.int .i64 (x7_1.length:Int)] rfl (taae) ?_;(with_reducible refine (zcn g s0_0 x1001_1 x1002_1 (x7_1.length:Int) t382 t383 t384 w0 _ ?side1 ?side2 A21.out).mono ?_);(case side1=>repeat (first | (with_reducible first | exact HI0.out | apply zcg | apply zch | apply zci | apply zcl | apply zcm) | exact HI0.out));(case side2=>repeat (first | (with_reducible first | exact HB.out | apply zag | apply zae | apply zaf | refine zah ?_ (zck HI0.out)) | exact HB.out));rintro e w32 ⟨rfl,hi,hb,hk⟩;refine ⟨_,rfl,?_⟩;have n0_:=zad (zbq (zbr (zcj (show IsS43 w0 _ g s0_0 x1001_1 x1002_1 from by exact tafh) (taar) (by decide)) hk (fun _ h=>h.2)) (fun _ h=>h.1));have n1_:=zad (zbq (zbr (zcj (show IsS43 w0 _ g s0_0 x1001_1 x1002_1 from by exact tafh) (taak) (by decide)) hk (fun _ h=>h.2)) (fun _ h=>h.1));have n2_:=zad (zbs (taaf) hk (.inl rfl));have n3_:=zad (hb);have n4_:=zad (hi);clear HO_6 HO_7 HK HB HI0;have HO_6:=n0_;have HO_7:=n1_;have HK:=n2_;have HB:=n3_;have HI0:=n4_;clear n0_ n1_ n2_ n3_ n4_;(try clear hb);(try clear hb2);(try clear hk);(try clear hi)) | ((with_reducible refine zbh (f:=18) rfl ?_);refine zbn (some 40) rfl rfl Tryz.func18 (by kernel_rfl) rfl #[.pointer (some ⟨g,0,none⟩),.int .i64 (x7_1.length:Int)] rfl (taae) ?_;(with_reducible refine (zcn g s0_0 t383 t384 (x7_1.length:Int) t385 t386 t387 w0 _ ?side1 ?side2 A22.out).mono ?_);(case side1=>repeat (first | (with_reducible first | exact HI0.out | apply zcg | apply zch | apply zci | apply zcl | apply zcm) | exact HI0.out));(case side2=>repeat (first | (with_reducible first | exact HB.out | apply zag | apply zae | apply zaf | refine zah ?_ (zck HI0.out)) | exact HB.out));rintro e w33 ⟨rfl,hi,hb,hk⟩;refine ⟨_,rfl,?_⟩;have n0_:=zad (zbq (zbr (zcj (show IsS43 w0 _ g s0_0 t383 t384 from by exact tafh) (taar) (by decide)) hk (fun _ h=>h.2)) (fun _ h=>h.1));have n1_:=zad (zbq (zbr (zcj (show IsS43 w0 _ g s0_0 t383 t384 from by exact tafh) (taak) (by decide)) hk (fun _ h=>h.2)) (fun _ h=>h.1));have n2_:=zad (zbs (taaf) hk (.inl rfl));have n3_:=zad (hb);have n4_:=zad (hi);clear HO_6 HO_7 HK HB HI0;have HO_6:=n0_;have HO_7:=n1_;have HK:=n2_;have HB:=n3_;have HI0:=n4_;clear n0_ n1_ n2_ n3_ n4_;(try clear hb);(try clear hb2);(try clear hk);(try clear hi)))
             have n0_:=zad (zak HO_6.out)
             have n1_:=zad (zak HO_7.out)
             have n2_:=zad (zci HI0.out)
             have n3_:=zad (zaq HK.out)
             have n4_:=zad (zaf HB.out)
             clear HO_6 HO_7 HI0 HK HB;have HO_6:=n0_;have HO_7:=n1_;have HI0:=n2_;have HK:=n3_;have HB:=n4_;clear n0_ n1_ n2_ n3_ n4_;have p388:0≤(t382:Int):=zas (taaa)
             have q388:t382<(x7_1.length:Int):=zas (taaa)
             obtain ⟨ad388,e388,hx388_0⟩:=zca (zbf HO_7.out).2.2 t382 p388 q388
             cases e388
             replace p388:=eq_true p388
             replace q388:=eq_true q388
             have p389:0≤(t382:Int):=zas (taaa)
             have q389:t382<(x7_1.length:Int):=zas (taaa)
             obtain ⟨ad389,e389,hx389_0⟩:=zca (zbf HO_7.out).2.2 t382 p389 q389
             obtain rfl:ad388=ad389:=(by injection e389)
             replace p389:=eq_true p389
             replace q389:=eq_true q389
             have p390:0≤(t385:Int):=zas (taaa)
             have q390:t385<(x7_1.length:Int):=zas (taaa)
             obtain ⟨ad390,e390,hx390_0⟩:=zca (zbf HO_7.out).2.2 t385 p390 q390
             obtain rfl:ad388=ad390:=(by injection e390)
             replace p390:=eq_true p390
             replace q390:=eq_true q390
             refine start_ (n:=20) (S:=fun w'=>w'.cell? (ad388.add (t382).toNat)=some (.int .i64 (rd x7_1 t382))∧w'.cell? (ad388.add (t382).toNat)=some (.int .i64 (rd x7_1 t382))∧w'.cell? (ad388.add (t385).toNat)=some (.int .i64 (rd x7_1 t385))) (ds:=[]) #[false,false,false,false,false,false,false,false,false,false,false,false,false,false,false,false,false,false,false,false] (by kernel_rfl) rfl rfl ⟨hx388_0,hx389_0,hx390_0⟩ (fun hHeld => ?_);refine with_tabW spec_l1Cur_fitting.tab9 spec_l1Cur_fitting.bits9 (fun HT_ HW_ => ?_)
             generalize w33.drew=w34 at HO_6 HO_7 HI0 HK HB hx388_0 hx389_0 hx390_0 hHeld ⊢
             refine pure_ (i:=0) (N:=some 41) (v := ?_) (a' := ?_) tagd rfl rfl (zby HT_.out (by kernel_rfl)) (fun _ _ _ h=>h) (Or.inl ⟨by rfl,?_⟩) ?_ ?_
             rotate_left
             ·intro w'
              go_simp;with_reducible rfl
             rotate_left
             ·simp only [Act.put,zaa,zab,zac,zbw,zbx]
              rfl
             refine pure_ (i:=1) (N:=some 42) (v := ?_) (a' := ?_) tage rfl rfl (zby HT_.out (by kernel_rfl)) (fun _ _ _ h=>h) (Or.inl ⟨by rfl,?_⟩) ?_ ?_
             rotate_left
             ·intro w'
              go_simp;with_reducible rfl
             rotate_left
             ·simp only [Act.put,zaa,zab,zac,zbw,zbx]
              rfl
             refine pure_ (i:=2) (N:=some 43) (v := ?_) (a' := ?_) tagf rfl rfl (zby HT_.out (by kernel_rfl)) (fun _ _ _ h=>h) (Or.inl ⟨by rfl,?_⟩) ?_ ?_
             rotate_left
             ·intro w'
              go_simp;with_reducible rfl
             rotate_left
             ·simp only [Act.put,zaa,zab,zac,zbw,zbx]
              rfl
             refine take_ (i:=3) (N:=some 44) (v := ?_) (a' := ?_) tagg rfl rfl (zbz HT_.out HW_.out (by kernel_rfl)) (fun _ _ _ h=>h) (Or.inl ⟨by rfl,?_⟩) hHeld ?_ ?_
             rotate_left
             ·rintro w' ⟨s0,s1,s2⟩
              go_simp;with_reducible rfl
             rotate_left
             ·simp only [Act.put,zaa,zab,zac,zbw,zbx]
              rfl
             refine pure_ (i:=4) (N:=some 45) (v := ?_) (a' := ?_) tagh rfl rfl (zby HT_.out (by kernel_rfl)) (fun _ _ _ h=>h) (Or.inl ⟨by rfl,?_⟩) ?_ ?_
             rotate_left
             ·intro w'
              go_simp;with_reducible rfl
             rotate_left
             ·simp only [Act.put,zaa,zab,zac,zbw,zbx]
              rfl
             refine pure_ (i:=5) (N:=some 46) (v := ?_) (a' := ?_) tagi rfl rfl (zby HT_.out (by kernel_rfl)) (fun _ _ _ h=>h) (Or.inl ⟨by rfl,?_⟩) ?_ ?_
             rotate_left
             ·intro w'
              go_simp;with_reducible rfl
             rotate_left
             ·simp only [Act.put,zaa,zab,zac,zbw,zbx]
              rfl
             refine pure_ (i:=6) (N:=some 47) (v := ?_) (a' := ?_) tagj rfl rfl (zby HT_.out (by kernel_rfl)) (fun _ _ _ h=>h) (Or.inl ⟨by rfl,?_⟩) ?_ ?_
             rotate_left
             ·intro w'
              go_simp;with_reducible rfl
             rotate_left
             ·simp only [Act.put,zaa,zab,zac,zbw,zbx]
              rfl
             refine pure_ (i:=7) (N:=some 48) (v := ?_) (a' := ?_) tagk rfl rfl (zby HT_.out (by kernel_rfl)) (fun _ _ _ h=>h) (Or.inl ⟨by rfl,?_⟩) ?_ ?_
             rotate_left
             ·intro w'
              go_simp;with_reducible rfl
             rotate_left
             ·simp only [Act.put,zaa,zab,zac,zbw,zbx]
              rfl
             refine pure_ (i:=8) (N:=some 49) (v := ?_) (a' := ?_) tagl rfl rfl (zby HT_.out (by kernel_rfl)) (fun _ _ _ h=>h) (Or.inl ⟨by rfl,?_⟩) ?_ ?_
             rotate_left
             ·intro w'
              go_simp;with_reducible rfl
             rotate_left
             ·simp only [Act.put,zaa,zab,zac,zbw,zbx]
              rfl
             refine pure_ (i:=10) (N:=some 51) (v := ?_) (a' := ?_) tagm rfl rfl (zby HT_.out (by kernel_rfl)) (fun _ _ _ h=>h) (Or.inl ⟨by rfl,?_⟩) ?_ ?_
             rotate_left
             ·intro w'
              go_simp;with_reducible rfl
             rotate_left
             ·simp only [Act.put,zaa,zab,zac,zbw,zbx]
              rfl
             refine pure_ (i:=11) (N:=some 52) (v := ?_) (a' := ?_) tagn rfl rfl (zby HT_.out (by kernel_rfl)) (fun _ _ _ h=>h) (Or.inl ⟨by rfl,?_⟩) ?_ ?_
             rotate_left
             ·intro w'
              go_simp;with_reducible rfl
             rotate_left
             ·simp only [Act.put,zaa,zab,zac,zbw,zbx]
              rfl
             refine pure_ (i:=12) (N:=some 53) (v := ?_) (a' := ?_) tago rfl rfl (zby HT_.out (by kernel_rfl)) (fun _ _ _ h=>h) (Or.inl ⟨by rfl,?_⟩) ?_ ?_
             rotate_left
             ·intro w'
              go_simp;with_reducible rfl
             rotate_left
             ·simp only [Act.put,zaa,zab,zac,zbw,zbx]
              rfl
             refine take_ (i:=9) (N:=some 50) (v := ?_) (a' := ?_) tagp rfl rfl (zbz HT_.out HW_.out (by kernel_rfl)) (fun _ _ _ h=>h) (Or.inl ⟨by rfl,?_⟩) hHeld ?_ ?_
             rotate_left
             ·rintro w' ⟨s0,s1,s2⟩
              go_simp;with_reducible rfl
             rotate_left
             ·simp only [Act.put,zaa,zab,zac,zbw,zbx]
              rfl
             refine take_ (i:=13) (N:=some 54) (v := ?_) (a' := ?_) tagq rfl rfl (zbz HT_.out HW_.out (by kernel_rfl)) (fun _ _ _ h=>h) (Or.inl ⟨by rfl,?_⟩) hHeld ?_ ?_
             rotate_left
             ·rintro w' ⟨s0,s1,s2⟩
              go_simp;with_reducible rfl
             rotate_left
             ·simp only [Act.put,zaa,zab,zac,zbw,zbx]
              rfl
             refine pure_ (i:=14) (N:=some 55) (v := ?_) (a' := ?_) tagr rfl rfl (zby HT_.out (by kernel_rfl)) (fun _ _ _ h=>h) (Or.inl ⟨by rfl,?_⟩) ?_ ?_
             rotate_left
             ·intro w'
              go_simp;with_reducible rfl
             rotate_left
             ·simp only [Act.put,zaa,zab,zac,zbw,zbx]
              rfl
             refine pure_ (i:=15) (N:=some 56) (v := ?_) (a' := ?_) tags rfl rfl (zby HT_.out (by kernel_rfl)) (fun _ _ _ h=>h) (Or.inl ⟨by rfl,?_⟩) ?_ ?_
             rotate_left
             ·intro w'
              go_simp;with_reducible rfl
             rotate_left
             ·simp only [Act.put,zaa,zab,zac,zbw,zbx]
              rfl
             refine pure_ (i:=16) (N:=some 57) (v:=undef) (a' := ?_) tagt rfl rfl (zby HT_.out (by kernel_rfl)) (fun _ _ _ h=>h) (Or.inr ⟨by rfl,rfl⟩) ?_ ?_
             rotate_left
             ·simp only [Act.put,zaa,zab,zac,zbw,zbx]
              rfl
             refine pure_ (i:=17) (N:=some 58) (v:=undef) (a' := ?_) tagu rfl rfl (zby HT_.out (by kernel_rfl)) (fun _ _ _ h=>h) (Or.inr ⟨by rfl,rfl⟩) ?_ ?_
             rotate_left
             ·simp only [Act.put,zaa,zab,zac,zbw,zbx]
              rfl
             refine pure_ (i:=18) (N:=some 59) (v := ?_) (a' := ?_) tagv rfl rfl (zby HT_.out (by kernel_rfl)) (fun _ _ _ h=>h) (Or.inl ⟨by rfl,?_⟩) ?_ ?_
             rotate_left
             ·intro w'
              go_simp;with_reducible rfl
             rotate_left
             ·simp only [Act.put,zaa,zab,zac,zbw,zbx]
              rfl
             refine pure_ (i:=19) (N:=some 60) (v := ?_) (a' := ?_) tagw rfl rfl (zby HT_.out (by kernel_rfl)) (fun _ _ _ h=>h) (Or.inl ⟨by rfl,?_⟩) ?_ ?_
             rotate_left
             ·intro w'
              go_simp;with_reducible rfl
             rotate_left
             ·simp only [Act.put,zaa,zab,zac,zbw,zbx]
              rfl
             refine done_ (done_of HT_.out (by kernel_rfl)) ?_
             have p391:0≤(t382:Int):=zas (taaa)
             have q391:t382<(x7_1.length:Int):=zas (taaa)
             obtain ⟨ad391,e391,hx391_0⟩:=zca (zbf HO_7.out).2.2 t382 p391 q391
             obtain rfl:ad388=ad391:=(by injection e391)
             replace p391:=eq_true p391
             replace q391:=eq_true q391
             have p29:0≤(t382:Int):=zas (taaa)
             have q29:(t382:Int)<((x7_1.length:Int):Int):=zas (taaa)
             obtain ⟨go29,co29,eo29,gb29,gl29,cl29,HG29⟩:=Kd.R_form HO_7.out (by omega)
             (first | cases eo29 | (injection eo29 with ea_ en_ ec_;(first | subst ea_ | (injection ea_ with ea_;subst ea_));subst ec_;clear en_))
             have GB29:=zad gb29;have GG29:=zad HG29;clear gb29 gl29 HG29;(first | simp only [add_plain] at hx388_0 | skip)
             (first | simp only [add_plain] at hx389_0 | skip)
             (first | simp only [add_plain] at hx390_0 | skip)
             (first | simp only [add_plain] at hx391_0 | skip)
             obtain ⟨hx29_0,hf29_0⟩:=Kd.R_celln 0 HO_7.out (t382:Int) p29 q29
             replace p29:=eq_true p29
             replace q29:=eq_true q29
             obtain ⟨hy35_,hz35_⟩:=Kd.R_celln 0 HO_7.out (t382:Int) (zas (taaa)) (zas (taaa))
             have HP35:=Kd.R_putg HO_7.out (t382:Int) (wrap64 ((rd x7_1 t382) - 1))
             try go_wp2_with (first | ((with_reducible refine gate_store (t:=3) (p:=66) rfl ?_);refine store_event (t:=3) (p:=66) (v := ?vo_w36) (w1:=(w34.setCell ⟨go29,(t382:Int).toNat,none⟩ (.int .i64 (wrap64 ((rd x7_1 t382) - 1))))) ?hg ?ho ?hn ?hr ?_;(case ho=>rfl);(case hg=>rfl);(case hn=>rfl);(case hr=>first | (go_simp;done) | (go_simp;rfl));intro w36 hw;have hg:w34.grownBy w36 (some go29):=(by rw [hw];exact HP35.2);have hp_:Kd.R (Kd.int .i64) 3 w36 w.heap.size (fun k_=>some k_≠(.slice Ao14 t360.length co14:Value).ownBlock) (.slice (some ⟨go29,0,none⟩) x7_1.length co31) y392:=(by rw [hw,Ny392.out];exact HP35.1);clear HP35;have n0_:=zad (Kd.R_after (v:=(.slice (some ⟨go29,0,none⟩) x7_1.length co31)) (v1:=(.slice (some ⟨go29,0,none⟩) x7_1.length co31)) (ok:=(fun _=>True)) (tada) hg (.inl rfl));have n1_:=zad (hp_);have n2_:=zad (IsS43.grown (taag) hg (IsS43.own_ne HI0.out HO_7.out (by decide)));have n3_:=zad ((by rw [hw];exact zah (HB.out) (Nat.le_trans HL.out GB29.out):Below w0.heap.size w0 w36));have n4_:=zad (zbs (taaf) (KeepBut.of_grown hg g) (Kd.R_base2 HO_7.out));clear HO_6 HO_7 HI0 HB HK;have HO_6:=n0_;have HO_7:=n1_;have HI0:=n2_;have HB:=n3_;have HK:=n4_;clear n0_ n1_ n2_ n3_ n4_ hg hw hp_;have p393:0≤(t385:Int):=zas (taaa);have q393:t385<(y392.length:Int):=(by have h_:(t385:Int)<((x7_1.length:Int):Int):=zas (taaa);first | (have e_:=(zbf HO_7.out).1;omega) | simpa only [Ny392.out,List.length_set] using h_);have ql393:((t385:Int)<((x7_1.length:Int):Int))=True:=eq_true (zas (taaa));obtain ⟨ad393,e393,hx393_0⟩:=zca (zbf HO_7.out).2.2 t385 p393 q393;obtain rfl:(⟨go29,0,none⟩:Addr)=ad393:=(by injection e393);(first | simp only [add_plain] at hx393_0 | simp only [add_at] at hx393_0 | simp only [Addr.add,Nat.zero_add] at hx393_0 | skip);replace p393:=eq_true p393;replace q393:=eq_true q393;have p30:0≤(t385:Int):=zas (taaa);have q30:(t385:Int)<((x7_1.length:Int):Int):=zas (taaa);obtain ⟨hx30_0,hf30_0⟩:=Kd.R_celln 0 HO_7.out (t385:Int) p30 q30;replace p30:=eq_true p30;replace q30:=eq_true q30;obtain ⟨hy37_,hz37_⟩:=Kd.R_celln 0 HO_7.out (t385:Int) (zas (taaa)) (zas (taaa));have HP37:=Kd.R_putg HO_7.out (t385:Int) (wrap64 ((rd y392 t385)+1))) | ((with_reducible refine gate_store (t:=3) (p:=72) rfl ?_);refine store_event (t:=3) (p:=72) (v := ?vo_w38) (w1:=(w36.setCell ⟨go29,(t385:Int).toNat,none⟩ (.int .i64 (wrap64 ((rd y392 t385)+1))))) ?hg ?ho ?hn ?hr ?_;(case ho=>rfl);(case hg=>rfl);(case hn=>rfl);(case hr=>first | (go_simp;done) | (go_simp;rfl));intro w38 hw;have hg:w36.grownBy w38 (some go29):=(by rw [hw];exact HP37.2);have hp_:Kd.R (Kd.int .i64) 3 w38 w.heap.size (fun k_=>some k_≠(.slice Ao14 t360.length co14:Value).ownBlock) (.slice (some ⟨go29,0,none⟩) x7_1.length co31) y394:=(by rw [hw,Ny394.out];exact HP37.1);clear HP37;have n0_:=zad (Kd.R_after (v:=(.slice (some ⟨go29,0,none⟩) x7_1.length co31)) (v1:=(.slice (some ⟨go29,0,none⟩) x7_1.length co31)) (ok:=(fun _=>True)) (taar) hg (.inl rfl));have n1_:=zad (hp_);have n2_:=zad (IsS43.grown (taag) hg (IsS43.own_ne HI0.out HO_7.out (by decide)));have n3_:=zad ((by rw [hw];exact zah (HB.out) (Nat.le_trans HL.out GB29.out):Below w0.heap.size w0 w38));have n4_:=zad (zbs (taaf) (KeepBut.of_grown hg g) (Kd.R_base2 HO_7.out));clear HO_6 HO_7 HI0 HB HK;have HO_6:=n0_;have HO_7:=n1_;have HI0:=n2_;have HB:=n3_;have HK:=n4_;clear n0_ n1_ n2_ n3_ n4_ hg hw hp_))
             go_roundg kj16
             case measure=>have:=HK1.out;have:=HJ16.out;omega
             case rel=>exact ⟨(y394),(wrap64 (x8_1 - 1)),(t386),(t387),(taad),H',⟨tacd⟩,⟨tadb⟩,⟨taak⟩,⟨taag⟩,⟨taaf⟩,⟨taaj⟩⟩
            ·rw [if_neg c28] at H
             have c28b0:decide ((rd x7_1 t385)<(rd x7_1 t382))=false:=zbj c28
             clear c28;replace H:=zay.mp H;obtain ⟨⟨t395,t396,t397⟩,A390,H⟩:=H
             replace H:(if t395=true then ((some (x7_1.set (t382:Int).toNat (wrap64 ((rd x7_1 t382) - 1)):List Int)).bind fun y399=>(spec_l1Cur_fitting.l0 kj16 t360 (y399.set (t385:Int).toNat (wrap64 ((rd y399 t385)+1))) (wrap64 (x8_1 - 1)) s0_0 t396 t397)) else (spec_l1Cur_fitting.l0 kj16 t360 x7_1 (wrap64 (x8_1 - 1)) s0_0 t396 t397))=some (r1,r2,r3,r4):=H
             have A39:=zad A390;clear A390;by_cases c40:t395=true
             ·subst c40
              have H1:((some (x7_1.set (t382:Int).toNat (wrap64 ((rd x7_1 t382) - 1)):List Int)).bind fun y399=>(spec_l1Cur_fitting.l0 kj16 t360 (y399.set (t385:Int).toNat (wrap64 ((rd y399 t385)+1))) (wrap64 (x8_1 - 1)) s0_0 t396 t397))=some (r1,r2,r3,r4):=by rw [if_pos rfl] at H;exact H
              clear H;have H:=H1;clear H1;obtain ⟨y399,hy399⟩:∃ y_:List Int,y_=(x7_1.set (t382:Int).toNat (wrap64 ((rd x7_1 t382) - 1))):=⟨_,rfl⟩
              replace H:(spec_l1Cur_fitting.l0 kj16 t360 (y399.set (t385:Int).toNat (wrap64 ((rd y399 t385)+1))) (wrap64 (x8_1 - 1)) s0_0 t396 t397)=some (r1,r2,r3,r4):=by first | (rw [hy399];with_reducible exact H) | (have H2_:=(zbd _ _).symm.trans H;rw [hy399];with_reducible exact H2_) | (have H2_:=(zbd _ _).symm.trans H;with_reducible exact H2_) | with_reducible exact H | (rw [hy399];exact H) | exact H
              have Ny399:=zad hy399;clear hy399;obtain ⟨y401,hy401⟩:∃ y_:List Int,y_=(y399.set (t385:Int).toNat (wrap64 ((rd y399 t385)+1))):=⟨_,rfl⟩
              replace H:(spec_l1Cur_fitting.l0 kj16 t360 y401 (wrap64 (x8_1 - 1)) s0_0 t396 t397)=some (r1,r2,r3,r4):=by first | (rw [hy401];with_reducible exact H) | (have H2_:=(zbd _ _).symm.trans H;rw [hy401];with_reducible exact H2_) | (have H2_:=(zbd _ _).symm.trans H;with_reducible exact H2_) | with_reducible exact H | (rw [hy401];exact H) | exact H
              have Ny401:=zad hy401;clear hy401;have H':=zad H
              clear H;obtain ⟨Ao43,co43,eo43⟩:=zbv HO_7.out
              subst eo43;try go_wp2_with (first | ((with_reducible refine zbh (f:=18) rfl ?_);refine zbn (some 36) rfl rfl Tryz.func18 (by kernel_rfl) rfl #[.pointer (some ⟨g,0,none⟩),.int .i64 (x7_1.length:Int)] rfl (taae) ?_;(with_reducible refine (zcn g s0_0 x1001_1 x1002_1 (x7_1.length:Int) t382 t383 t384 w0 _ ?side1 ?side2 A21.out).mono ?_);(case side1=>repeat (first | (with_reducible first | exact HI0.out | apply zcg | apply zch | apply zci | apply zcl | apply zcm) | exact HI0.out));(case side2=>repeat (first | (with_reducible first | exact HB.out | apply zag | apply zae | apply zaf | refine zah ?_ (zck HI0.out)) | exact HB.out));rintro e w44 ⟨rfl,hi,hb,hk⟩;refine ⟨_,rfl,?_⟩;have n0_:=zad (zbq (zbr (zcj (show IsS43 w0 _ g s0_0 x1001_1 x1002_1 from by exact tafh) (taar) (by decide)) hk (fun _ h=>h.2)) (fun _ h=>h.1));have n1_:=zad (zbq (zbr (zcj (show IsS43 w0 _ g s0_0 x1001_1 x1002_1 from by exact tafh) (taak) (by decide)) hk (fun _ h=>h.2)) (fun _ h=>h.1));have n2_:=zad (zbs (taaf) hk (.inl rfl));have n3_:=zad (hb);have n4_:=zad (hi);clear HO_6 HO_7 HK HB HI0;have HO_6:=n0_;have HO_7:=n1_;have HK:=n2_;have HB:=n3_;have HI0:=n4_;clear n0_ n1_ n2_ n3_ n4_;(try clear hb);(try clear hb2);(try clear hk);(try clear hi)) | ((with_reducible refine zbh (f:=18) rfl ?_);refine zbn (some 40) rfl rfl Tryz.func18 (by kernel_rfl) rfl #[.pointer (some ⟨g,0,none⟩),.int .i64 (x7_1.length:Int)] rfl (taae) ?_;(with_reducible refine (zcn g s0_0 t383 t384 (x7_1.length:Int) t385 t386 t387 w0 _ ?side1 ?side2 A22.out).mono ?_);(case side1=>repeat (first | (with_reducible first | exact HI0.out | apply zcg | apply zch | apply zci | apply zcl | apply zcm) | exact HI0.out));(case side2=>repeat (first | (with_reducible first | exact HB.out | apply zag | apply zae | apply zaf | refine zah ?_ (zck HI0.out)) | exact HB.out));rintro e w45 ⟨rfl,hi,hb,hk⟩;refine ⟨_,rfl,?_⟩;have n0_:=zad (zbq (zbr (zcj (show IsS43 w0 _ g s0_0 t383 t384 from by exact tafh) (taar) (by decide)) hk (fun _ h=>h.2)) (fun _ h=>h.1));have n1_:=zad (zbq (zbr (zcj (show IsS43 w0 _ g s0_0 t383 t384 from by exact tafh) (taak) (by decide)) hk (fun _ h=>h.2)) (fun _ h=>h.1));have n2_:=zad (zbs (taaf) hk (.inl rfl));have n3_:=zad (hb);have n4_:=zad (hi);clear HO_6 HO_7 HK HB HI0;have HO_6:=n0_;have HO_7:=n1_;have HK:=n2_;have HB:=n3_;have HI0:=n4_;clear n0_ n1_ n2_ n3_ n4_;(try clear hb);(try clear hb2);(try clear hk);(try clear hi)))
              have n0_:=zad (zak HO_6.out)
              have n1_:=zad (zak HO_7.out)
              have n2_:=zad (zci HI0.out)
              have n3_:=zad (zaq HK.out)
              have n4_:=zad (zaf HB.out)
              clear HO_6 HO_7 HI0 HK HB;have HO_6:=n0_;have HO_7:=n1_;have HI0:=n2_;have HK:=n3_;have HB:=n4_;clear n0_ n1_ n2_ n3_ n4_;have p388:0≤(t382:Int):=zas (taaa)
              have q388:t382<(x7_1.length:Int):=zas (taaa)
              obtain ⟨ad388,e388,hx388_0⟩:=zca (zbf HO_7.out).2.2 t382 p388 q388
              cases e388
              replace p388:=eq_true p388
              replace q388:=eq_true q388
              have p389:0≤(t382:Int):=zas (taaa)
              have q389:t382<(x7_1.length:Int):=zas (taaa)
              obtain ⟨ad389,e389,hx389_0⟩:=zca (zbf HO_7.out).2.2 t382 p389 q389
              obtain rfl:ad388=ad389:=(by injection e389)
              replace p389:=eq_true p389
              replace q389:=eq_true q389
              have p390:0≤(t385:Int):=zas (taaa)
              have q390:t385<(x7_1.length:Int):=zas (taaa)
              obtain ⟨ad390,e390,hx390_0⟩:=zca (zbf HO_7.out).2.2 t385 p390 q390
              obtain rfl:ad388=ad390:=(by injection e390)
              replace p390:=eq_true p390
              replace q390:=eq_true q390
              refine start_ (n:=20) (S:=fun w'=>w'.cell? (ad388.add (t382).toNat)=some (.int .i64 (rd x7_1 t382))∧w'.cell? (ad388.add (t382).toNat)=some (.int .i64 (rd x7_1 t382))∧w'.cell? (ad388.add (t385).toNat)=some (.int .i64 (rd x7_1 t385))) (ds:=[]) #[false,false,false,false,false,false,false,false,false,false,false,false,false,false,false,false,false,false,false,false] (by kernel_rfl) rfl rfl ⟨hx388_0,hx389_0,hx390_0⟩ (fun hHeld => ?_);refine with_tabW spec_l1Cur_fitting.tab9 spec_l1Cur_fitting.bits9 (fun HT_ HW_ => ?_)
              generalize w45.drew=w46 at HO_6 HO_7 HI0 HK HB hx388_0 hx389_0 hx390_0 hHeld ⊢
              refine pure_ (i:=0) (N:=some 41) (v := ?_) (a' := ?_) tagd rfl rfl (zby HT_.out (by kernel_rfl)) (fun _ _ _ h=>h) (Or.inl ⟨by rfl,?_⟩) ?_ ?_
              rotate_left
              ·intro w'
               go_simp;with_reducible rfl
              rotate_left
              ·simp only [Act.put,zaa,zab,zac,zbw,zbx]
               rfl
              refine pure_ (i:=1) (N:=some 42) (v := ?_) (a' := ?_) tage rfl rfl (zby HT_.out (by kernel_rfl)) (fun _ _ _ h=>h) (Or.inl ⟨by rfl,?_⟩) ?_ ?_
              rotate_left
              ·intro w'
               go_simp;with_reducible rfl
              rotate_left
              ·simp only [Act.put,zaa,zab,zac,zbw,zbx]
               rfl
              refine pure_ (i:=2) (N:=some 43) (v := ?_) (a' := ?_) tagf rfl rfl (zby HT_.out (by kernel_rfl)) (fun _ _ _ h=>h) (Or.inl ⟨by rfl,?_⟩) ?_ ?_
              rotate_left
              ·intro w'
               go_simp;with_reducible rfl
              rotate_left
              ·simp only [Act.put,zaa,zab,zac,zbw,zbx]
               rfl
              refine take_ (i:=3) (N:=some 44) (v := ?_) (a' := ?_) tagg rfl rfl (zbz HT_.out HW_.out (by kernel_rfl)) (fun _ _ _ h=>h) (Or.inl ⟨by rfl,?_⟩) hHeld ?_ ?_
              rotate_left
              ·rintro w' ⟨s0,s1,s2⟩
               go_simp;with_reducible rfl
              rotate_left
              ·simp only [Act.put,zaa,zab,zac,zbw,zbx]
               rfl
              refine pure_ (i:=4) (N:=some 45) (v := ?_) (a' := ?_) tagh rfl rfl (zby HT_.out (by kernel_rfl)) (fun _ _ _ h=>h) (Or.inl ⟨by rfl,?_⟩) ?_ ?_
              rotate_left
              ·intro w'
               go_simp;with_reducible rfl
              rotate_left
              ·simp only [Act.put,zaa,zab,zac,zbw,zbx]
               rfl
              refine pure_ (i:=5) (N:=some 46) (v := ?_) (a' := ?_) tagi rfl rfl (zby HT_.out (by kernel_rfl)) (fun _ _ _ h=>h) (Or.inl ⟨by rfl,?_⟩) ?_ ?_
              rotate_left
              ·intro w'
               go_simp;with_reducible rfl
              rotate_left
              ·simp only [Act.put,zaa,zab,zac,zbw,zbx]
               rfl
              refine pure_ (i:=6) (N:=some 47) (v := ?_) (a' := ?_) tagj rfl rfl (zby HT_.out (by kernel_rfl)) (fun _ _ _ h=>h) (Or.inl ⟨by rfl,?_⟩) ?_ ?_
              rotate_left
              ·intro w'
               go_simp;with_reducible rfl
              rotate_left
              ·simp only [Act.put,zaa,zab,zac,zbw,zbx]
               rfl
              refine pure_ (i:=7) (N:=some 48) (v := ?_) (a' := ?_) tagk rfl rfl (zby HT_.out (by kernel_rfl)) (fun _ _ _ h=>h) (Or.inl ⟨by rfl,?_⟩) ?_ ?_
              rotate_left
              ·intro w'
               go_simp;with_reducible rfl
              rotate_left
              ·simp only [Act.put,zaa,zab,zac,zbw,zbx]
               rfl
              refine pure_ (i:=8) (N:=some 49) (v := ?_) (a' := ?_) tagl rfl rfl (zby HT_.out (by kernel_rfl)) (fun _ _ _ h=>h) (Or.inl ⟨by rfl,?_⟩) ?_ ?_
              rotate_left
              ·intro w'
               go_simp;with_reducible rfl
              rotate_left
              ·simp only [Act.put,zaa,zab,zac,zbw,zbx]
               rfl
              refine pure_ (i:=10) (N:=some 51) (v := ?_) (a' := ?_) tagm rfl rfl (zby HT_.out (by kernel_rfl)) (fun _ _ _ h=>h) (Or.inl ⟨by rfl,?_⟩) ?_ ?_
              rotate_left
              ·intro w'
               go_simp;with_reducible rfl
              rotate_left
              ·simp only [Act.put,zaa,zab,zac,zbw,zbx]
               rfl
              refine pure_ (i:=11) (N:=some 52) (v := ?_) (a' := ?_) tagn rfl rfl (zby HT_.out (by kernel_rfl)) (fun _ _ _ h=>h) (Or.inl ⟨by rfl,?_⟩) ?_ ?_
              rotate_left
              ·intro w'
               go_simp;with_reducible rfl
              rotate_left
              ·simp only [Act.put,zaa,zab,zac,zbw,zbx]
               rfl
              refine pure_ (i:=12) (N:=some 53) (v := ?_) (a' := ?_) tago rfl rfl (zby HT_.out (by kernel_rfl)) (fun _ _ _ h=>h) (Or.inl ⟨by rfl,?_⟩) ?_ ?_
              rotate_left
              ·intro w'
               go_simp;with_reducible rfl
              rotate_left
              ·simp only [Act.put,zaa,zab,zac,zbw,zbx]
               rfl
              refine take_ (i:=9) (N:=some 50) (v := ?_) (a' := ?_) tagp rfl rfl (zbz HT_.out HW_.out (by kernel_rfl)) (fun _ _ _ h=>h) (Or.inl ⟨by rfl,?_⟩) hHeld ?_ ?_
              rotate_left
              ·rintro w' ⟨s0,s1,s2⟩
               go_simp;with_reducible rfl
              rotate_left
              ·simp only [Act.put,zaa,zab,zac,zbw,zbx]
               rfl
              refine take_ (i:=13) (N:=some 54) (v := ?_) (a' := ?_) tagq rfl rfl (zbz HT_.out HW_.out (by kernel_rfl)) (fun _ _ _ h=>h) (Or.inl ⟨by rfl,?_⟩) hHeld ?_ ?_
              rotate_left
              ·rintro w' ⟨s0,s1,s2⟩
               go_simp;with_reducible rfl
              rotate_left
              ·simp only [Act.put,zaa,zab,zac,zbw,zbx]
               rfl
              refine pure_ (i:=14) (N:=some 55) (v := ?_) (a' := ?_) tagr rfl rfl (zby HT_.out (by kernel_rfl)) (fun _ _ _ h=>h) (Or.inl ⟨by rfl,?_⟩) ?_ ?_
              rotate_left
              ·intro w'
               go_simp;with_reducible rfl
              rotate_left
              ·simp only [Act.put,zaa,zab,zac,zbw,zbx]
               rfl
              refine pure_ (i:=15) (N:=some 56) (v := ?_) (a' := ?_) tags rfl rfl (zby HT_.out (by kernel_rfl)) (fun _ _ _ h=>h) (Or.inl ⟨by rfl,?_⟩) ?_ ?_
              rotate_left
              ·intro w'
               go_simp;with_reducible rfl
              rotate_left
              ·simp only [Act.put,zaa,zab,zac,zbw,zbx]
               rfl
              refine pure_ (i:=16) (N:=some 57) (v := ?_) (a' := ?_) tagt rfl rfl (zby HT_.out (by kernel_rfl)) (fun _ _ _ h=>h) (Or.inl ⟨by rfl,?_⟩) ?_ ?_
              rotate_left
              ·intro w'
               go_simp;with_reducible rfl
              rotate_left
              ·simp only [Act.put,zaa,zab,zac,zbw,zbx]
               rfl
              refine one_ (i:=17) (N:=some 58) #[true,true,true,true,true,true,true,true,true,true,true,true,true,true,true,true,true,true,false,false] rfl rfl (one_of HT_.out (by kernel_rfl)) (by decide) (fun K hK => ?_)
              refine goes_ Tryz.func16 (by kernel_rfl) rfl #[.pointer (some ⟨g,0,none⟩),.int .i64 4] (by rfl) rfl rfl (taae) ?_
              with_reducible refine (spec_l1Cur_one.calls g s0_0 t386 t387 4 true t396 t397 w0 _ ?side1 ?side2 A39.out).mono ?_
              (case side1=>exact tafj)
              (case side2=>exact tafk)
              rintro e w47 ⟨rfl,hi,hb,hk⟩
              have HS0_:=keep_cell hk (hHeld.1) (tabj)
              have HS1_:=keep_cell hk (hHeld.2.1) (tabj)
              have HS2_:=keep_cell hk (hHeld.2.2) (tabj)
              refine ⟨_,rfl,?_⟩
              have n0_:=zad (zbq (zbr (zcj (show IsS43 w0 _ g s0_0 t386 t387 from by exact tafh) (taar) (by decide)) hk (fun _ h=>h.2)) (fun _ h=>h.1))
              have n1_:=zad (zbq (zbr (zcj (show IsS43 w0 _ g s0_0 t386 t387 from by exact tafh) (taak) (by decide)) hk (fun _ h=>h.2)) (fun _ h=>h.1))
              have n2_:=zad (zbs (taaf) hk (.inl rfl))
              have n3_:=zad (hb)
              have n4_:=zad (hi)
              clear HO_6 HO_7 HK HB HI0;have HO_6:=n0_;have HO_7:=n1_;have HK:=n2_;have HB:=n3_;have HI0:=n4_;clear n0_ n1_ n2_ n3_ n4_;(try clear hb);(try clear hb2);(try clear hk);(try clear hi);refine hK.out _ _ ⟨HS0_,HS1_,HS2_⟩ (fun hHeld => ?_)
              clear hK K;refine norm_ (a' := ?_) ?_ ?_
              rotate_left
              ·show Act.put _ (some 58) _=_
               simp only [Act.put,zaa,zab,zac,zbw,zbx]
               rfl
              refine pure_ (i:=18) (N:=some 59) (v := ?_) (a' := ?_) tagv rfl rfl (zby HT_.out (by kernel_rfl)) (fun _ _ _ h=>h) (Or.inl ⟨by rfl,?_⟩) ?_ ?_
              rotate_left
              ·intro w'
               go_simp;with_reducible rfl
              rotate_left
              ·simp only [Act.put,zaa,zab,zac,zbw,zbx]
               rfl
              refine pure_ (i:=19) (N:=some 60) (v := ?_) (a' := ?_) tagw rfl rfl (zby HT_.out (by kernel_rfl)) (fun _ _ _ h=>h) (Or.inl ⟨by rfl,?_⟩) ?_ ?_
              rotate_left
              ·intro w'
               go_simp;with_reducible rfl
              rotate_left
              ·simp only [Act.put,zaa,zab,zac,zbw,zbx]
               rfl
              refine done_ (done_of HT_.out (by kernel_rfl)) ?_
              have p398:0≤(t382:Int):=zas (taaa)
              have q398:t382<(x7_1.length:Int):=zas (taaa)
              obtain ⟨ad398,e398,hx398_0⟩:=zca (zbf HO_7.out).2.2 t382 p398 q398
              obtain rfl:ad388=ad398:=(by injection e398)
              replace p398:=eq_true p398
              replace q398:=eq_true q398
              have p41:0≤(t382:Int):=zas (taaa)
              have q41:(t382:Int)<((x7_1.length:Int):Int):=zas (taaa)
              obtain ⟨go41,co41,eo41,gb41,gl41,cl41,HG41⟩:=Kd.R_form HO_7.out (by omega)
              (first | cases eo41 | (injection eo41 with ea_ en_ ec_;(first | subst ea_ | (injection ea_ with ea_;subst ea_));subst ec_;clear en_))
              have GB41:=zad gb41;have GG41:=zad HG41;clear gb41 gl41 HG41;(first | simp only [add_plain] at hx388_0 | skip)
              (first | simp only [add_plain] at hx389_0 | skip)
              (first | simp only [add_plain] at hx390_0 | skip)
              (first | simp only [add_plain] at hx398_0 | skip)
              obtain ⟨hx41_0,hf41_0⟩:=Kd.R_celln 0 HO_7.out (t382:Int) p41 q41
              replace p41:=eq_true p41
              replace q41:=eq_true q41
              obtain ⟨hy48_,hz48_⟩:=Kd.R_celln 0 HO_7.out (t382:Int) (zas (taaa)) (zas (taaa))
              have HP48:=Kd.R_putg HO_7.out (t382:Int) (wrap64 ((rd x7_1 t382) - 1))
              try go_wp2_with (first | ((with_reducible refine gate_store (t:=3) (p:=66) rfl ?_);refine store_event (t:=3) (p:=66) (v := ?vo_w49) (w1:=(w47.setCell ⟨go41,(t382:Int).toNat,none⟩ (.int .i64 (wrap64 ((rd x7_1 t382) - 1))))) ?hg ?ho ?hn ?hr ?_;(case ho=>rfl);(case hg=>rfl);(case hn=>rfl);(case hr=>first | (go_simp;done) | (go_simp;rfl));intro w49 hw;have hg:w47.grownBy w49 (some go41):=(by rw [hw];exact HP48.2);have hp_:Kd.R (Kd.int .i64) 3 w49 w.heap.size (fun k_=>some k_≠(.slice Ao14 t360.length co14:Value).ownBlock) (.slice (some ⟨go41,0,none⟩) x7_1.length co43) y399:=(by rw [hw,Ny399.out];exact HP48.1);clear HP48;have n0_:=zad (Kd.R_after (v:=(.slice (some ⟨go41,0,none⟩) x7_1.length co43)) (v1:=(.slice (some ⟨go41,0,none⟩) x7_1.length co43)) (ok:=(fun _=>True)) (tada) hg (.inl rfl));have n1_:=zad (hp_);have n2_:=zad (IsS43.grown (taag) hg (IsS43.own_ne HI0.out HO_7.out (by decide)));have n3_:=zad ((by rw [hw];exact zah (HB.out) (Nat.le_trans HL.out GB41.out):Below w0.heap.size w0 w49));have n4_:=zad (zbs (taaf) (KeepBut.of_grown hg g) (Kd.R_base2 HO_7.out));clear HO_6 HO_7 HI0 HB HK;have HO_6:=n0_;have HO_7:=n1_;have HI0:=n2_;have HB:=n3_;have HK:=n4_;clear n0_ n1_ n2_ n3_ n4_ hg hw hp_;have p400:0≤(t385:Int):=zas (taaa);have q400:t385<(y399.length:Int):=(by have h_:(t385:Int)<((x7_1.length:Int):Int):=zas (taaa);first | (have e_:=(zbf HO_7.out).1;omega) | simpa only [Ny399.out,List.length_set] using h_);have ql400:((t385:Int)<((x7_1.length:Int):Int))=True:=eq_true (zas (taaa));obtain ⟨ad400,e400,hx400_0⟩:=zca (zbf HO_7.out).2.2 t385 p400 q400;obtain rfl:(⟨go41,0,none⟩:Addr)=ad400:=(by injection e400);(first | simp only [add_plain] at hx400_0 | simp only [add_at] at hx400_0 | simp only [Addr.add,Nat.zero_add] at hx400_0 | skip);replace p400:=eq_true p400;replace q400:=eq_true q400;have p42:0≤(t385:Int):=zas (taaa);have q42:(t385:Int)<((x7_1.length:Int):Int):=zas (taaa);obtain ⟨hx42_0,hf42_0⟩:=Kd.R_celln 0 HO_7.out (t385:Int) p42 q42;replace p42:=eq_true p42;replace q42:=eq_true q42;obtain ⟨hy50_,hz50_⟩:=Kd.R_celln 0 HO_7.out (t385:Int) (zas (taaa)) (zas (taaa));have HP50:=Kd.R_putg HO_7.out (t385:Int) (wrap64 ((rd y399 t385)+1))) | ((with_reducible refine gate_store (t:=3) (p:=72) rfl ?_);refine store_event (t:=3) (p:=72) (v := ?vo_w51) (w1:=(w49.setCell ⟨go41,(t385:Int).toNat,none⟩ (.int .i64 (wrap64 ((rd y399 t385)+1))))) ?hg ?ho ?hn ?hr ?_;(case ho=>rfl);(case hg=>rfl);(case hn=>rfl);(case hr=>first | (go_simp;done) | (go_simp;rfl));intro w51 hw;have hg:w49.grownBy w51 (some go41):=(by rw [hw];exact HP50.2);have hp_:Kd.R (Kd.int .i64) 3 w51 w.heap.size (fun k_=>some k_≠(.slice Ao14 t360.length co14:Value).ownBlock) (.slice (some ⟨go41,0,none⟩) x7_1.length co43) y401:=(by rw [hw,Ny401.out];exact HP50.1);clear HP50;have n0_:=zad (Kd.R_after (v:=(.slice (some ⟨go41,0,none⟩) x7_1.length co43)) (v1:=(.slice (some ⟨go41,0,none⟩) x7_1.length co43)) (ok:=(fun _=>True)) (taar) hg (.inl rfl));have n1_:=zad (hp_);have n2_:=zad (IsS43.grown (taag) hg (IsS43.own_ne HI0.out HO_7.out (by decide)));have n3_:=zad ((by rw [hw];exact zah (HB.out) (Nat.le_trans HL.out GB41.out):Below w0.heap.size w0 w51));have n4_:=zad (zbs (taaf) (KeepBut.of_grown hg g) (Kd.R_base2 HO_7.out));clear HO_6 HO_7 HI0 HB HK;have HO_6:=n0_;have HO_7:=n1_;have HI0:=n2_;have HB:=n3_;have HK:=n4_;clear n0_ n1_ n2_ n3_ n4_ hg hw hp_))
              go_roundg kj16
              case measure=>have:=HK1.out;have:=HJ16.out;omega
              case rel=>exact ⟨(y401),(wrap64 (x8_1 - 1)),(t396),(t397),(taad),H',⟨tacd⟩,⟨tadb⟩,⟨taak⟩,⟨taag⟩,⟨taaf⟩,⟨taaj⟩⟩
             ·replace c40:=zbi.mpr c40
              subst c40;have H1:(spec_l1Cur_fitting.l0 kj16 t360 x7_1 (wrap64 (x8_1 - 1)) s0_0 t396 t397)=some (r1,r2,r3,r4):=by rw [if_neg (show ¬ (false=true) by decide)] at H;exact H
              clear H;have H:=H1;clear H1;have H':=zad H
              clear H;obtain ⟨Ao52,co52,eo52⟩:=zbv HO_7.out
              subst eo52;try go_wp2_with (first | ((with_reducible refine zbh (f:=18) rfl ?_);refine zbn (some 36) rfl rfl Tryz.func18 (by kernel_rfl) rfl #[.pointer (some ⟨g,0,none⟩),.int .i64 (x7_1.length:Int)] rfl (taae) ?_;(with_reducible refine (zcn g s0_0 x1001_1 x1002_1 (x7_1.length:Int) t382 t383 t384 w0 _ ?side1 ?side2 A21.out).mono ?_);(case side1=>repeat (first | (with_reducible first | exact HI0.out | apply zcg | apply zch | apply zci | apply zcl | apply zcm) | exact HI0.out));(case side2=>repeat (first | (with_reducible first | exact HB.out | apply zag | apply zae | apply zaf | refine zah ?_ (zck HI0.out)) | exact HB.out));rintro e w53 ⟨rfl,hi,hb,hk⟩;refine ⟨_,rfl,?_⟩;have n0_:=zad (zbq (zbr (zcj (show IsS43 w0 _ g s0_0 x1001_1 x1002_1 from by exact tafh) (taar) (by decide)) hk (fun _ h=>h.2)) (fun _ h=>h.1));have n1_:=zad (zbq (zbr (zcj (show IsS43 w0 _ g s0_0 x1001_1 x1002_1 from by exact tafh) (taak) (by decide)) hk (fun _ h=>h.2)) (fun _ h=>h.1));have n2_:=zad (zbs (taaf) hk (.inl rfl));have n3_:=zad (hb);have n4_:=zad (hi);clear HO_6 HO_7 HK HB HI0;have HO_6:=n0_;have HO_7:=n1_;have HK:=n2_;have HB:=n3_;have HI0:=n4_;clear n0_ n1_ n2_ n3_ n4_;(try clear hb);(try clear hb2);(try clear hk);(try clear hi)) | ((with_reducible refine zbh (f:=18) rfl ?_);refine zbn (some 40) rfl rfl Tryz.func18 (by kernel_rfl) rfl #[.pointer (some ⟨g,0,none⟩),.int .i64 (x7_1.length:Int)] rfl (taae) ?_;(with_reducible refine (zcn g s0_0 t383 t384 (x7_1.length:Int) t385 t386 t387 w0 _ ?side1 ?side2 A22.out).mono ?_);(case side1=>repeat (first | (with_reducible first | exact HI0.out | apply zcg | apply zch | apply zci | apply zcl | apply zcm) | exact HI0.out));(case side2=>repeat (first | (with_reducible first | exact HB.out | apply zag | apply zae | apply zaf | refine zah ?_ (zck HI0.out)) | exact HB.out));rintro e w54 ⟨rfl,hi,hb,hk⟩;refine ⟨_,rfl,?_⟩;have n0_:=zad (zbq (zbr (zcj (show IsS43 w0 _ g s0_0 t383 t384 from by exact tafh) (taar) (by decide)) hk (fun _ h=>h.2)) (fun _ h=>h.1));have n1_:=zad (zbq (zbr (zcj (show IsS43 w0 _ g s0_0 t383 t384 from by exact tafh) (taak) (by decide)) hk (fun _ h=>h.2)) (fun _ h=>h.1));have n2_:=zad (zbs (taaf) hk (.inl rfl));have n3_:=zad (hb);have n4_:=zad (hi);clear HO_6 HO_7 HK HB HI0;have HO_6:=n0_;have HO_7:=n1_;have HK:=n2_;have HB:=n3_;have HI0:=n4_;clear n0_ n1_ n2_ n3_ n4_;(try clear hb);(try clear hb2);(try clear hk);(try clear hi)))
              have n0_:=zad (zak HO_6.out)
              have n1_:=zad (zak HO_7.out)
              have n2_:=zad (zci HI0.out)
              have n3_:=zad (zaq HK.out)
              have n4_:=zad (zaf HB.out)
              clear HO_6 HO_7 HI0 HK HB;have HO_6:=n0_;have HO_7:=n1_;have HI0:=n2_;have HK:=n3_;have HB:=n4_;clear n0_ n1_ n2_ n3_ n4_;have p388:0≤(t382:Int):=zas (taaa)
              have q388:t382<(x7_1.length:Int):=zas (taaa)
              obtain ⟨ad388,e388,hx388_0⟩:=zca (zbf HO_7.out).2.2 t382 p388 q388
              cases e388
              replace p388:=eq_true p388
              replace q388:=eq_true q388
              have p389:0≤(t382:Int):=zas (taaa)
              have q389:t382<(x7_1.length:Int):=zas (taaa)
              obtain ⟨ad389,e389,hx389_0⟩:=zca (zbf HO_7.out).2.2 t382 p389 q389
              obtain rfl:ad388=ad389:=(by injection e389)
              replace p389:=eq_true p389
              replace q389:=eq_true q389
              have p390:0≤(t385:Int):=zas (taaa)
              have q390:t385<(x7_1.length:Int):=zas (taaa)
              obtain ⟨ad390,e390,hx390_0⟩:=zca (zbf HO_7.out).2.2 t385 p390 q390
              obtain rfl:ad388=ad390:=(by injection e390)
              replace p390:=eq_true p390
              replace q390:=eq_true q390
              refine start_ (n:=20) (S:=fun w'=>w'.cell? (ad388.add (t382).toNat)=some (.int .i64 (rd x7_1 t382))∧w'.cell? (ad388.add (t382).toNat)=some (.int .i64 (rd x7_1 t382))∧w'.cell? (ad388.add (t385).toNat)=some (.int .i64 (rd x7_1 t385))) (ds:=[]) #[false,false,false,false,false,false,false,false,false,false,false,false,false,false,false,false,false,false,false,false] (by kernel_rfl) rfl rfl ⟨hx388_0,hx389_0,hx390_0⟩ (fun hHeld => ?_);refine with_tabW spec_l1Cur_fitting.tab9 spec_l1Cur_fitting.bits9 (fun HT_ HW_ => ?_)
              generalize w54.drew=w55 at HO_6 HO_7 HI0 HK HB hx388_0 hx389_0 hx390_0 hHeld ⊢
              refine pure_ (i:=0) (N:=some 41) (v := ?_) (a' := ?_) tagd rfl rfl (zby HT_.out (by kernel_rfl)) (fun _ _ _ h=>h) (Or.inl ⟨by rfl,?_⟩) ?_ ?_
              rotate_left
              ·intro w'
               go_simp;with_reducible rfl
              rotate_left
              ·simp only [Act.put,zaa,zab,zac,zbw,zbx]
               rfl
              refine pure_ (i:=1) (N:=some 42) (v := ?_) (a' := ?_) tage rfl rfl (zby HT_.out (by kernel_rfl)) (fun _ _ _ h=>h) (Or.inl ⟨by rfl,?_⟩) ?_ ?_
              rotate_left
              ·intro w'
               go_simp;with_reducible rfl
              rotate_left
              ·simp only [Act.put,zaa,zab,zac,zbw,zbx]
               rfl
              refine pure_ (i:=2) (N:=some 43) (v := ?_) (a' := ?_) tagf rfl rfl (zby HT_.out (by kernel_rfl)) (fun _ _ _ h=>h) (Or.inl ⟨by rfl,?_⟩) ?_ ?_
              rotate_left
              ·intro w'
               go_simp;with_reducible rfl
              rotate_left
              ·simp only [Act.put,zaa,zab,zac,zbw,zbx]
               rfl
              refine take_ (i:=3) (N:=some 44) (v := ?_) (a' := ?_) tagg rfl rfl (zbz HT_.out HW_.out (by kernel_rfl)) (fun _ _ _ h=>h) (Or.inl ⟨by rfl,?_⟩) hHeld ?_ ?_
              rotate_left
              ·rintro w' ⟨s0,s1,s2⟩
               go_simp;with_reducible rfl
              rotate_left
              ·simp only [Act.put,zaa,zab,zac,zbw,zbx]
               rfl
              refine pure_ (i:=4) (N:=some 45) (v := ?_) (a' := ?_) tagh rfl rfl (zby HT_.out (by kernel_rfl)) (fun _ _ _ h=>h) (Or.inl ⟨by rfl,?_⟩) ?_ ?_
              rotate_left
              ·intro w'
               go_simp;with_reducible rfl
              rotate_left
              ·simp only [Act.put,zaa,zab,zac,zbw,zbx]
               rfl
              refine pure_ (i:=5) (N:=some 46) (v := ?_) (a' := ?_) tagi rfl rfl (zby HT_.out (by kernel_rfl)) (fun _ _ _ h=>h) (Or.inl ⟨by rfl,?_⟩) ?_ ?_
              rotate_left
              ·intro w'
               go_simp;with_reducible rfl
              rotate_left
              ·simp only [Act.put,zaa,zab,zac,zbw,zbx]
               rfl
              refine pure_ (i:=6) (N:=some 47) (v := ?_) (a' := ?_) tagj rfl rfl (zby HT_.out (by kernel_rfl)) (fun _ _ _ h=>h) (Or.inl ⟨by rfl,?_⟩) ?_ ?_
              rotate_left
              ·intro w'
               go_simp;with_reducible rfl
              rotate_left
              ·simp only [Act.put,zaa,zab,zac,zbw,zbx]
               rfl
              refine pure_ (i:=7) (N:=some 48) (v := ?_) (a' := ?_) tagk rfl rfl (zby HT_.out (by kernel_rfl)) (fun _ _ _ h=>h) (Or.inl ⟨by rfl,?_⟩) ?_ ?_
              rotate_left
              ·intro w'
               go_simp;with_reducible rfl
              rotate_left
              ·simp only [Act.put,zaa,zab,zac,zbw,zbx]
               rfl
              refine pure_ (i:=8) (N:=some 49) (v := ?_) (a' := ?_) tagl rfl rfl (zby HT_.out (by kernel_rfl)) (fun _ _ _ h=>h) (Or.inl ⟨by rfl,?_⟩) ?_ ?_
              rotate_left
              ·intro w'
               go_simp;with_reducible rfl
              rotate_left
              ·simp only [Act.put,zaa,zab,zac,zbw,zbx]
               rfl
              refine pure_ (i:=10) (N:=some 51) (v := ?_) (a' := ?_) tagm rfl rfl (zby HT_.out (by kernel_rfl)) (fun _ _ _ h=>h) (Or.inl ⟨by rfl,?_⟩) ?_ ?_
              rotate_left
              ·intro w'
               go_simp;with_reducible rfl
              rotate_left
              ·simp only [Act.put,zaa,zab,zac,zbw,zbx]
               rfl
              refine pure_ (i:=11) (N:=some 52) (v := ?_) (a' := ?_) tagn rfl rfl (zby HT_.out (by kernel_rfl)) (fun _ _ _ h=>h) (Or.inl ⟨by rfl,?_⟩) ?_ ?_
              rotate_left
              ·intro w'
               go_simp;with_reducible rfl
              rotate_left
              ·simp only [Act.put,zaa,zab,zac,zbw,zbx]
               rfl
              refine pure_ (i:=12) (N:=some 53) (v := ?_) (a' := ?_) tago rfl rfl (zby HT_.out (by kernel_rfl)) (fun _ _ _ h=>h) (Or.inl ⟨by rfl,?_⟩) ?_ ?_
              rotate_left
              ·intro w'
               go_simp;with_reducible rfl
              rotate_left
              ·simp only [Act.put,zaa,zab,zac,zbw,zbx]
               rfl
              refine take_ (i:=9) (N:=some 50) (v := ?_) (a' := ?_) tagp rfl rfl (zbz HT_.out HW_.out (by kernel_rfl)) (fun _ _ _ h=>h) (Or.inl ⟨by rfl,?_⟩) hHeld ?_ ?_
              rotate_left
              ·rintro w' ⟨s0,s1,s2⟩
               go_simp;with_reducible rfl
              rotate_left
              ·simp only [Act.put,zaa,zab,zac,zbw,zbx]
               rfl
              refine take_ (i:=13) (N:=some 54) (v := ?_) (a' := ?_) tagq rfl rfl (zbz HT_.out HW_.out (by kernel_rfl)) (fun _ _ _ h=>h) (Or.inl ⟨by rfl,?_⟩) hHeld ?_ ?_
              rotate_left
              ·rintro w' ⟨s0,s1,s2⟩
               go_simp;with_reducible rfl
              rotate_left
              ·simp only [Act.put,zaa,zab,zac,zbw,zbx]
               rfl
              refine pure_ (i:=14) (N:=some 55) (v := ?_) (a' := ?_) tagr rfl rfl (zby HT_.out (by kernel_rfl)) (fun _ _ _ h=>h) (Or.inl ⟨by rfl,?_⟩) ?_ ?_
              rotate_left
              ·intro w'
               go_simp;with_reducible rfl
              rotate_left
              ·simp only [Act.put,zaa,zab,zac,zbw,zbx]
               rfl
              refine pure_ (i:=15) (N:=some 56) (v := ?_) (a' := ?_) tags rfl rfl (zby HT_.out (by kernel_rfl)) (fun _ _ _ h=>h) (Or.inl ⟨by rfl,?_⟩) ?_ ?_
              rotate_left
              ·intro w'
               go_simp;with_reducible rfl
              rotate_left
              ·simp only [Act.put,zaa,zab,zac,zbw,zbx]
               rfl
              refine pure_ (i:=16) (N:=some 57) (v := ?_) (a' := ?_) tagt rfl rfl (zby HT_.out (by kernel_rfl)) (fun _ _ _ h=>h) (Or.inl ⟨by rfl,?_⟩) ?_ ?_
              rotate_left
              ·intro w'
               go_simp;with_reducible rfl
              rotate_left
              ·simp only [Act.put,zaa,zab,zac,zbw,zbx]
               rfl
              refine one_ (i:=17) (N:=some 58) #[true,true,true,true,true,true,true,true,true,true,true,true,true,true,true,true,true,true,false,false] rfl rfl (one_of HT_.out (by kernel_rfl)) (by decide) (fun K hK => ?_)
              refine goes_ Tryz.func16 (by kernel_rfl) rfl #[.pointer (some ⟨g,0,none⟩),.int .i64 4] (by rfl) rfl rfl (taae) ?_
              with_reducible refine (spec_l1Cur_one.calls g s0_0 t386 t387 4 false t396 t397 w0 _ ?side1 ?side2 A39.out).mono ?_
              (case side1=>exact tafj)
              (case side2=>exact tafk)
              rintro e w56 ⟨rfl,hi,hb,hk⟩
              have HS0_:=keep_cell hk (hHeld.1) (tabj)
              have HS1_:=keep_cell hk (hHeld.2.1) (tabj)
              have HS2_:=keep_cell hk (hHeld.2.2) (tabj)
              refine ⟨_,rfl,?_⟩
              have n0_:=zad (zbq (zbr (zcj (show IsS43 w0 _ g s0_0 t386 t387 from by exact tafh) (taar) (by decide)) hk (fun _ h=>h.2)) (fun _ h=>h.1))
              have n1_:=zad (zbq (zbr (zcj (show IsS43 w0 _ g s0_0 t386 t387 from by exact tafh) (taak) (by decide)) hk (fun _ h=>h.2)) (fun _ h=>h.1))
              have n2_:=zad (zbs (taaf) hk (.inl rfl))
              have n3_:=zad (hb)
              have n4_:=zad (hi)
              clear HO_6 HO_7 HK HB HI0;have HO_6:=n0_;have HO_7:=n1_;have HK:=n2_;have HB:=n3_;have HI0:=n4_;clear n0_ n1_ n2_ n3_ n4_;(try clear hb);(try clear hb2);(try clear hk);(try clear hi);refine hK.out _ _ ⟨HS0_,HS1_,HS2_⟩ (fun hHeld => ?_)
              clear hK K;refine norm_ (a' := ?_) ?_ ?_
              rotate_left
              ·show Act.put _ (some 58) _=_
               simp only [Act.put,zaa,zab,zac,zbw,zbx]
               rfl
              refine pure_ (i:=18) (N:=some 59) (v := ?_) (a' := ?_) tagv rfl rfl (zby HT_.out (by kernel_rfl)) (fun _ _ _ h=>h) (Or.inl ⟨by rfl,?_⟩) ?_ ?_
              rotate_left
              ·intro w'
               go_simp;with_reducible rfl
              rotate_left
              ·simp only [Act.put,zaa,zab,zac,zbw,zbx]
               rfl
              refine pure_ (i:=19) (N:=some 60) (v := ?_) (a' := ?_) tagw rfl rfl (zby HT_.out (by kernel_rfl)) (fun _ _ _ h=>h) (Or.inl ⟨by rfl,?_⟩) ?_ ?_
              rotate_left
              ·intro w'
               go_simp;with_reducible rfl
              rotate_left
              ·simp only [Act.put,zaa,zab,zac,zbw,zbx]
               rfl
              refine done_ (done_of HT_.out (by kernel_rfl)) ?_
              try go_wp2
              go_roundg kj16
              case measure=>have:=HK1.out;have:=HJ16.out;omega
              case rel=>exact ⟨(x7_1),(wrap64 (x8_1 - 1)),(t396),(t397),(taad),H',⟨tacd⟩,⟨taar⟩,⟨taak⟩,⟨taag⟩,⟨taaf⟩,⟨taaj⟩⟩
           ·rw [if_neg c27] at H
            exact absurd H (taac)
          ·rw [if_neg c26] at H
           exact absurd H (taac)
         ·rw [if_neg c25] at H
          have c25b0:decide (0<(rd x7_1 t382))=false:=zbj c25
          clear c25;have H':=zad H
          clear H;obtain ⟨Ao57,co57,eo57⟩:=zbv HO_7.out
          subst eo57;try go_wp2_with (first | ((with_reducible refine zbh (f:=18) rfl ?_);refine zbn (some 36) rfl rfl Tryz.func18 (by kernel_rfl) rfl #[.pointer (some ⟨g,0,none⟩),.int .i64 (x7_1.length:Int)] rfl (taae) ?_;(with_reducible refine (zcn g s0_0 x1001_1 x1002_1 (x7_1.length:Int) t382 t383 t384 w0 _ ?side1 ?side2 A21.out).mono ?_);(case side1=>repeat (first | (with_reducible first | exact HI0.out | apply zcg | apply zch | apply zci | apply zcl | apply zcm) | exact HI0.out));(case side2=>repeat (first | (with_reducible first | exact HB.out | apply zag | apply zae | apply zaf | refine zah ?_ (zck HI0.out)) | exact HB.out));rintro e w58 ⟨rfl,hi,hb,hk⟩;refine ⟨_,rfl,?_⟩;have n0_:=zad (zbq (zbr (zcj (show IsS43 w0 _ g s0_0 x1001_1 x1002_1 from by exact tafh) (taar) (by decide)) hk (fun _ h=>h.2)) (fun _ h=>h.1));have n1_:=zad (zbq (zbr (zcj (show IsS43 w0 _ g s0_0 x1001_1 x1002_1 from by exact tafh) (taak) (by decide)) hk (fun _ h=>h.2)) (fun _ h=>h.1));have n2_:=zad (zbs (taaf) hk (.inl rfl));have n3_:=zad (hb);have n4_:=zad (hi);clear HO_6 HO_7 HK HB HI0;have HO_6:=n0_;have HO_7:=n1_;have HK:=n2_;have HB:=n3_;have HI0:=n4_;clear n0_ n1_ n2_ n3_ n4_;(try clear hb);(try clear hb2);(try clear hk);(try clear hi)) | ((with_reducible refine zbh (f:=18) rfl ?_);refine zbn (some 40) rfl rfl Tryz.func18 (by kernel_rfl) rfl #[.pointer (some ⟨g,0,none⟩),.int .i64 (x7_1.length:Int)] rfl (taae) ?_;(with_reducible refine (zcn g s0_0 t383 t384 (x7_1.length:Int) t385 t386 t387 w0 _ ?side1 ?side2 A22.out).mono ?_);(case side1=>repeat (first | (with_reducible first | exact HI0.out | apply zcg | apply zch | apply zci | apply zcl | apply zcm) | exact HI0.out));(case side2=>repeat (first | (with_reducible first | exact HB.out | apply zag | apply zae | apply zaf | refine zah ?_ (zck HI0.out)) | exact HB.out));rintro e w59 ⟨rfl,hi,hb,hk⟩;refine ⟨_,rfl,?_⟩;have n0_:=zad (zbq (zbr (zcj (show IsS43 w0 _ g s0_0 t383 t384 from by exact tafh) (taar) (by decide)) hk (fun _ h=>h.2)) (fun _ h=>h.1));have n1_:=zad (zbq (zbr (zcj (show IsS43 w0 _ g s0_0 t383 t384 from by exact tafh) (taak) (by decide)) hk (fun _ h=>h.2)) (fun _ h=>h.1));have n2_:=zad (zbs (taaf) hk (.inl rfl));have n3_:=zad (hb);have n4_:=zad (hi);clear HO_6 HO_7 HK HB HI0;have HO_6:=n0_;have HO_7:=n1_;have HK:=n2_;have HB:=n3_;have HI0:=n4_;clear n0_ n1_ n2_ n3_ n4_;(try clear hb);(try clear hb2);(try clear hk);(try clear hi)))
          have n0_:=zad (zak HO_6.out)
          have n1_:=zad (zak HO_7.out)
          have n2_:=zad (zci HI0.out)
          have n3_:=zad (zaq HK.out)
          have n4_:=zad (zaf HB.out)
          clear HO_6 HO_7 HI0 HK HB;have HO_6:=n0_;have HO_7:=n1_;have HI0:=n2_;have HK:=n3_;have HB:=n4_;clear n0_ n1_ n2_ n3_ n4_;have p388:0≤(t382:Int):=zas (taaa)
          have q388:t382<(x7_1.length:Int):=zas (taaa)
          obtain ⟨ad388,e388,hx388_0⟩:=zca (zbf HO_7.out).2.2 t382 p388 q388
          cases e388
          replace p388:=eq_true p388
          replace q388:=eq_true q388
          refine start_ (n:=20) (S:=fun w'=>w'.cell? (ad388.add (t382).toNat)=some (.int .i64 (rd x7_1 t382))) (ds:=[]) #[false,false,false,false,false,false,false,false,false,false,false,false,false,false,false,false,false,false,false,false] (by kernel_rfl) rfl rfl (hx388_0) (fun hHeld => ?_);refine with_tabW spec_l1Cur_fitting.tab9 spec_l1Cur_fitting.bits9 (fun HT_ HW_ => ?_)
          generalize w59.drew=w60 at HO_6 HO_7 HI0 HK HB hx388_0 hHeld ⊢
          refine pure_ (i:=0) (N:=some 41) (v := ?_) (a' := ?_) tagd rfl rfl (zby HT_.out (by kernel_rfl)) (fun _ _ _ h=>h) (Or.inl ⟨by rfl,?_⟩) ?_ ?_
          rotate_left
          ·intro w'
           go_simp;with_reducible rfl
          rotate_left
          ·simp only [Act.put,zaa,zab,zac,zbw,zbx]
           rfl
          refine pure_ (i:=1) (N:=some 42) (v := ?_) (a' := ?_) tage rfl rfl (zby HT_.out (by kernel_rfl)) (fun _ _ _ h=>h) (Or.inl ⟨by rfl,?_⟩) ?_ ?_
          rotate_left
          ·intro w'
           go_simp;with_reducible rfl
          rotate_left
          ·simp only [Act.put,zaa,zab,zac,zbw,zbx]
           rfl
          refine pure_ (i:=2) (N:=some 43) (v := ?_) (a' := ?_) tagf rfl rfl (zby HT_.out (by kernel_rfl)) (fun _ _ _ h=>h) (Or.inl ⟨by rfl,?_⟩) ?_ ?_
          rotate_left
          ·intro w'
           go_simp;with_reducible rfl
          rotate_left
          ·simp only [Act.put,zaa,zab,zac,zbw,zbx]
           rfl
          refine take_ (i:=3) (N:=some 44) (v := ?_) (a' := ?_) tagg rfl rfl (zbz HT_.out HW_.out (by kernel_rfl)) (fun _ _ _ h=>h) (Or.inl ⟨by rfl,?_⟩) hHeld ?_ ?_
          rotate_left
          ·intro w' s0
           go_simp;with_reducible rfl
          rotate_left
          ·simp only [Act.put,zaa,zab,zac,zbw,zbx]
           rfl
          refine pure_ (i:=4) (N:=some 45) (v := ?_) (a' := ?_) tagh rfl rfl (zby HT_.out (by kernel_rfl)) (fun _ _ _ h=>h) (Or.inl ⟨by rfl,?_⟩) ?_ ?_
          rotate_left
          ·intro w'
           go_simp;with_reducible rfl
          rotate_left
          ·simp only [Act.put,zaa,zab,zac,zbw,zbx]
           rfl
          refine pure_ (i:=5) (N:=some 46) (v := ?_) (a' := ?_) tagi rfl rfl (zby HT_.out (by kernel_rfl)) (fun _ _ _ h=>h) (Or.inl ⟨by rfl,?_⟩) ?_ ?_
          rotate_left
          ·intro w'
           go_simp;with_reducible rfl
          rotate_left
          ·simp only [Act.put,zaa,zab,zac,zbw,zbx]
           rfl
          refine pure_ (i:=6) (N:=some 47) (v:=undef) (a' := ?_) tagj rfl rfl (zby HT_.out (by kernel_rfl)) (fun _ _ _ h=>h) (Or.inr ⟨by rfl,rfl⟩) ?_ ?_
          rotate_left
          ·simp only [Act.put,zaa,zab,zac,zbw,zbx]
           rfl
          refine pure_ (i:=7) (N:=some 48) (v:=undef) (a' := ?_) tagk rfl rfl (zby HT_.out (by kernel_rfl)) (fun _ _ _ h=>h) (Or.inr ⟨by rfl,rfl⟩) ?_ ?_
          rotate_left
          ·simp only [Act.put,zaa,zab,zac,zbw,zbx]
           rfl
          refine pure_ (i:=8) (N:=some 49) (v:=undef) (a' := ?_) tagl rfl rfl (zby HT_.out (by kernel_rfl)) (fun _ _ _ h=>h) (Or.inr ⟨by rfl,rfl⟩) ?_ ?_
          rotate_left
          ·simp only [Act.put,zaa,zab,zac,zbw,zbx]
           rfl
          refine pure_ (i:=9) (N:=some 50) (v:=undef) (a' := ?_) #[true,true,true,true,true,true,true,true,true,true,false,false,false,false,false,false,false,false,false,false] rfl rfl (zby HT_.out (by kernel_rfl)) (fun _ _ _ h=>h) (Or.inr ⟨by rfl,rfl⟩) ?_ ?_
          rotate_left
          ·simp only [Act.put,zaa,zab,zac,zbw,zbx]
           rfl
          refine pure_ (i:=10) (N:=some 51) (v:=undef) (a' := ?_) #[true,true,true,true,true,true,true,true,true,true,true,false,false,false,false,false,false,false,false,false] rfl rfl (zby HT_.out (by kernel_rfl)) (fun _ _ _ h=>h) (Or.inr ⟨by rfl,rfl⟩) ?_ ?_
          rotate_left
          ·simp only [Act.put,zaa,zab,zac,zbw,zbx]
           rfl
          refine pure_ (i:=11) (N:=some 52) (v:=undef) (a' := ?_) #[true,true,true,true,true,true,true,true,true,true,true,true,false,false,false,false,false,false,false,false] rfl rfl (zby HT_.out (by kernel_rfl)) (fun _ _ _ h=>h) (Or.inr ⟨by rfl,rfl⟩) ?_ ?_
          rotate_left
          ·simp only [Act.put,zaa,zab,zac,zbw,zbx]
           rfl
          refine pure_ (i:=12) (N:=some 53) (v:=undef) (a' := ?_) tagp rfl rfl (zby HT_.out (by kernel_rfl)) (fun _ _ _ h=>h) (Or.inr ⟨by rfl,rfl⟩) ?_ ?_
          rotate_left
          ·simp only [Act.put,zaa,zab,zac,zbw,zbx]
           rfl
          refine pure_ (i:=13) (N:=some 54) (v:=undef) (a' := ?_) tagq rfl rfl (zby HT_.out (by kernel_rfl)) (fun _ _ _ h=>h) (Or.inr ⟨by rfl,rfl⟩) ?_ ?_
          rotate_left
          ·simp only [Act.put,zaa,zab,zac,zbw,zbx]
           rfl
          refine pure_ (i:=14) (N:=some 55) (v:=undef) (a' := ?_) tagr rfl rfl (zby HT_.out (by kernel_rfl)) (fun _ _ _ h=>h) (Or.inr ⟨by rfl,rfl⟩) ?_ ?_
          rotate_left
          ·simp only [Act.put,zaa,zab,zac,zbw,zbx]
           rfl
          refine pure_ (i:=15) (N:=some 56) (v:=undef) (a' := ?_) tags rfl rfl (zby HT_.out (by kernel_rfl)) (fun _ _ _ h=>h) (Or.inr ⟨by rfl,rfl⟩) ?_ ?_
          rotate_left
          ·simp only [Act.put,zaa,zab,zac,zbw,zbx]
           rfl
          refine pure_ (i:=16) (N:=some 57) (v:=undef) (a' := ?_) tagt rfl rfl (zby HT_.out (by kernel_rfl)) (fun _ _ _ h=>h) (Or.inr ⟨by rfl,rfl⟩) ?_ ?_
          rotate_left
          ·simp only [Act.put,zaa,zab,zac,zbw,zbx]
           rfl
          refine pure_ (i:=17) (N:=some 58) (v:=undef) (a' := ?_) tagu rfl rfl (zby HT_.out (by kernel_rfl)) (fun _ _ _ h=>h) (Or.inr ⟨by rfl,rfl⟩) ?_ ?_
          rotate_left
          ·simp only [Act.put,zaa,zab,zac,zbw,zbx]
           rfl
          refine pure_ (i:=18) (N:=some 59) (v:=undef) (a' := ?_) tagv rfl rfl (zby HT_.out (by kernel_rfl)) (fun _ _ _ h=>h) (Or.inr ⟨by rfl,rfl⟩) ?_ ?_
          rotate_left
          ·simp only [Act.put,zaa,zab,zac,zbw,zbx]
           rfl
          refine pure_ (i:=19) (N:=some 60) (v := ?_) (a' := ?_) tagw rfl rfl (zby HT_.out (by kernel_rfl)) (fun _ _ _ h=>h) (Or.inl ⟨by rfl,?_⟩) ?_ ?_
          rotate_left
          ·intro w'
           go_simp;with_reducible rfl
          rotate_left
          ·simp only [Act.put,zaa,zab,zac,zbw,zbx]
           rfl
          refine done_ (done_of HT_.out (by kernel_rfl)) ?_
          try go_wp2
          go_roundg kj16
          case measure=>have:=HK1.out;have:=HJ16.out;omega
          case rel=>exact ⟨(x7_1),(wrap64 (x8_1 - 1)),(t386),(t387),(taad),H',⟨tacd⟩,⟨taar⟩,⟨taak⟩,⟨taag⟩,⟨taaf⟩,⟨taaj⟩⟩
        ·rw [if_neg c24] at H
         exact absurd H (taac)
       ·rw [if_neg c23] at H
        exact absurd H (taac)
      ·replace c20:=zbi.mpr c20
       subst c20;have H1:((spec_l1Cur_one.f s0_0 x1001_1 x1002_1 5).bind fun bt379=>(if bt379.1=true then (some (t360,x7_1,bt379.2.1,bt379.2.2)) else (some (x7_1,t360,bt379.2.1,bt379.2.2))))=some (r1,r2,r3,r4):=by rw [if_neg (show ¬ (false=true) by decide)] at H;exact H
       clear H;have H:=H1;clear H1;replace H:=zay.mp H;obtain ⟨⟨t379,t380,t381⟩,A610,H⟩:=H
       replace H:(if t379=true then (some (t360,x7_1,t380,t381)) else (some (x7_1,t360,t380,t381)))=some (r1,r2,r3,r4):=H
       have A61:=zad A610;clear A610;by_cases c62:t379=true
       ·subst c62
        have H1:(some (t360,x7_1,t380,t381))=some (r1,r2,r3,r4):=by rw [if_pos rfl] at H;exact H
        clear H;have H:=H1;clear H1;simp only [zbl,zbp] at H
        obtain ⟨rfl,rfl,rfl,rfl⟩:=H
        go_wp2_with (first | ((with_reducible refine zbh (f:=16) rfl ?_);refine zbn (some 74) rfl rfl Tryz.func16 (by kernel_rfl) rfl #[.pointer (some ⟨g,0,none⟩),.int .i64 5] rfl (taae) ?_;(with_reducible refine (spec_l1Cur_one.calls g s0_0 x1001_1 x1002_1 5 true t380 t381 w0 _ ?side1 ?side2 A61.out).mono ?_);(case side1=>exact tafj);(case side2=>exact tafk);rintro e w63 ⟨rfl,hi,hb,hk⟩;refine ⟨_,rfl,?_⟩;have n0_:=zad (zbq (zbr (zcj (show IsS43 w0 _ g s0_0 x1001_1 x1002_1 from by exact tafh) (taar) (by decide)) hk (fun _ h=>h.2)) (fun _ h=>h.1));have n1_:=zad (zbq (zbr (zcj (show IsS43 w0 _ g s0_0 x1001_1 x1002_1 from by exact tafh) (taak) (by decide)) hk (fun _ h=>h.2)) (fun _ h=>h.1));have n2_:=zad (zbs (taaf) hk (.inl rfl));have n3_:=zad (hb);have n4_:=zad (hi);clear HO_6 HO_7 HK HB HI0;have HO_6:=n0_;have HO_7:=n1_;have HK:=n2_;have HB:=n3_;have HI0:=n4_;clear n0_ n1_ n2_ n3_ n4_;(try clear hb);(try clear hb2);(try clear hk);(try clear hi)))
        go_ret2
        exact ⟨_,_,taai,taar,taak,taag,taaj,taaf⟩
       ·replace c62:=zbi.mpr c62
        subst c62;have H1:(some (x7_1,t360,t380,t381))=some (r1,r2,r3,r4):=by rw [if_neg (show ¬ (false=true) by decide)] at H;exact H
        clear H;have H:=H1;clear H1;simp only [zbl,zbp] at H
        obtain ⟨rfl,rfl,rfl,rfl⟩:=H
        go_wp2_with (first | ((with_reducible refine zbh (f:=16) rfl ?_);refine zbn (some 74) rfl rfl Tryz.func16 (by kernel_rfl) rfl #[.pointer (some ⟨g,0,none⟩),.int .i64 5] rfl (taae) ?_;(with_reducible refine (spec_l1Cur_one.calls g s0_0 x1001_1 x1002_1 5 false t380 t381 w0 _ ?side1 ?side2 A61.out).mono ?_);(case side1=>exact tafj);(case side2=>exact tafk);rintro e w64 ⟨rfl,hi,hb,hk⟩;refine ⟨_,rfl,?_⟩;have n0_:=zad (zbq (zbr (zcj (show IsS43 w0 _ g s0_0 x1001_1 x1002_1 from by exact tafh) (taar) (by decide)) hk (fun _ h=>h.2)) (fun _ h=>h.1));have n1_:=zad (zbq (zbr (zcj (show IsS43 w0 _ g s0_0 x1001_1 x1002_1 from by exact tafh) (taak) (by decide)) hk (fun _ h=>h.2)) (fun _ h=>h.1));have n2_:=zad (zbs (taaf) hk (.inl rfl));have n3_:=zad (hb);have n4_:=zad (hi);clear HO_6 HO_7 HK HB HI0;have HO_6:=n0_;have HO_7:=n1_;have HK:=n2_;have HB:=n3_;have HI0:=n4_;clear n0_ n1_ n2_ n3_ n4_;(try clear hb);(try clear hb2);(try clear hk);(try clear hi)))
        go_ret2
        exact ⟨_,_,taai,taak,taar,taag,taaj,taaf⟩
def spec_DrawTableFor.f (k:Nat) (l0:List Int):Option (List Int × List Int):=(spec_l1Cur_among.f l0 0 0 (([4,4,4,5]:List Int))).bind fun bt513=>((spec_l1Cur_fitting.f k l0 bt513.2.1 bt513.2.2 bt513.1).bind fun bt516=>((spec_l1Cur_one.f l0 bt516.2.2.1 bt516.2.2.2 3).bind fun bt524=>(if bt524.1=true then (some (bt516.2.1,bt516.1)) else (some (bt516.1,bt516.2.1)))))
theorem spec_DrawTableFor.calls (k:Nat) (A0:Option Addr) (c0:Nat) (l0:List Int) (r1:List Int) (r2:List Int) (w:World) (hr0:Kd.C (Kd.int .u8) w A0 l0.length l0) (hc0:l0.length≤c0) (h:spec_DrawTableFor.f k l0=some (r1,r2)) :
 Calls Tryz.prog 10 #[.slice A0 l0.length c0] w fun e w'=>∃ v0_ v1_:Value,e = .returned (.tuple #[v0_,v1_])∧Kd.R (Kd.int .i64) 3 w' w.heap.size (fun k_=>some k_≠(v1_:Value).ownBlock) v0_ r1∧Kd.R (Kd.int .i64) 3 w' w.heap.size (fun k_=>some k_≠(v0_:Value).ownBlock) v1_ r2∧Below w.heap.size w w':=by
 have hu43:=Tryz.underlying43
 have HR0:=zad hr0;have HC0:=zad hc0;clear hr0 hc0;have HB:=zad (Below.refl w.heap.size w)
 have H:((spec_l1Cur_among.f l0 0 0 (([4,4,4,5]:List Int))).bind fun bt513=>((spec_l1Cur_fitting.f k l0 bt513.2.1 bt513.2.2 bt513.1).bind fun bt516=>((spec_l1Cur_one.f l0 bt516.2.2.1 bt516.2.2.2 3).bind fun bt524=>(if bt524.1=true then (some (bt516.2.1,bt516.1)) else (some (bt516.1,bt516.2.1))))))=some (r1,r2):=h
 clear h;obtain ⟨y510,hy510⟩:∃ y_:List Int,y_=(([4,4,4,5]:List Int)):=⟨_,rfl⟩
 replace H:((spec_l1Cur_among.f l0 0 0 y510).bind fun bt513=>((spec_l1Cur_fitting.f k l0 bt513.2.1 bt513.2.2 bt513.1).bind fun bt516=>((spec_l1Cur_one.f l0 bt516.2.2.1 bt516.2.2.2 3).bind fun bt524=>(if bt524.1=true then (some (bt516.2.1,bt516.1)) else (some (bt516.1,bt516.2.1))))))=some (r1,r2):=by first | (rw [hy510];with_reducible exact H) | (have H2_:=(zbd _ _).symm.trans H;rw [hy510];with_reducible exact H2_) | (have H2_:=(zbd _ _).symm.trans H;with_reducible exact H2_) | with_reducible exact H | (rw [hy510];exact H) | exact H
 have Ny510:=zad hy510;clear hy510;replace H:=zay.mp H;obtain ⟨⟨t513,t514,t515⟩,A20,H⟩:=H
 replace H:((spec_l1Cur_fitting.f k l0 t514 t515 t513).bind fun bt516=>((spec_l1Cur_one.f l0 bt516.2.2.1 bt516.2.2.2 3).bind fun bt524=>(if bt524.1=true then (some (bt516.2.1,bt516.1)) else (some (bt516.1,bt516.2.1)))))=some (r1,r2):=H
 have A2:=zad A20;clear A20;replace H:=zay.mp H;obtain ⟨⟨t516,t519,t522,t523⟩,A30,H⟩:=H
 replace H:((spec_l1Cur_one.f l0 t522 t523 3).bind fun bt524=>(if bt524.1=true then (some (t519,t516)) else (some (t516,t519))))=some (r1,r2):=H
 have A3:=zad A30;clear A30;replace H:=zay.mp H;obtain ⟨⟨t524,t525,t526⟩,A40,H⟩:=H
 replace H:(if t524=true then (some (t519,t516)) else (some (t516,t519)))=some (r1,r2):=H
 have A4:=zad A40;clear A40;by_cases c5:t524=true
 ·subst c5
  have H1:(some (t519,t516))=some (r1,r2):=by rw [if_pos rfl] at H;exact H
  clear H;have H:=H1;clear H1;simp only [zbl,zbp] at H
  obtain ⟨rfl,rfl⟩:=H
  go_enter Tryz.func10,Tryz.ntmps10
  go_wp2_with (first | ((with_reducible refine gate_dst (N:=9) rfl ?_);refine box_event ?hg (N:=9) ?hd (cs:=#[.slice A0 l0.length c0,.int .i64 0,.int .u64 0]) (t:=43) ?hr ?_;(case hd=>rfl);(case hg=>rfl);(case hr=>first | (go_simp;done) | (go_simp;rfl));intro gb509 hg w6 hbox hb;have n0_:=zad (zbg (taab) hb);have n1_:=zad ((show IsS43 w w6 gb509 l0 0 0 from ⟨_,_,hbox,(tafa),HR0.out⟩));clear HB;have HB:=n0_;have HI509:=n1_;clear n0_ n1_ hb hbox hg) | ((with_reducible refine gate_dst (N:=13) rfl ?_);refine Kd.R_lit (Kd.int .i64) _ 3 ?hg (N:=13) ?hd (xs:=([4,4,4,5]:List Int)) (inner:=[.int .i64 4,.int .i64 4,.int .i64 4,.int .i64 5]) (ok:=fun _=>True) (okp:=fun _=>True) ?hr ?hp (fun _ hk=>hk) trivial (Below.refl _ _) (zcf _) (taac) ?_;(case hd=>rfl);(case hg=>rfl);(case hr=>first | (go_simp;done) | (go_simp;rfl));(case hp=>exact (Reps.one (show Kd.M (Kd.int .i64) _ _ _ 4 [.int .i64 4] from rfl) (Reps.one (show Kd.M (Kd.int .i64) _ _ _ 4 [.int .i64 4] from rfl) (Reps.one (show Kd.M (Kd.int .i64) _ _ _ 4 [.int .i64 4] from rfl) (Reps.one (show Kd.M (Kd.int .i64) _ _ _ 5 [.int .i64 5] from rfl) (Reps.none _ _))))));intro v511 w7 ho8 hb hg_ hnew_;clear hg_ hnew_;(first | rw [← Ny510.out] at ho8 | (simp only [Int.reduceToNat] at ho8;rw [← Ny510.out] at ho8));have n0_:=zad (zbu ho8 (zbk (tabc)));have n1_:=zad (IsS43.below (taay) hb);have n2_:=zad (zbg (tabc) hb);clear HI509 HB;have HO512:=n0_;have HI509:=n1_;have HB:=n2_;clear n0_ n1_ n2_ hb ho8;obtain ⟨Ao9,co9,eo9⟩:=zbv HO512.out;subst eo9) | ((with_reducible refine zbh (f:=19) rfl ?_);refine zbn (some 14) rfl rfl Tryz.func19 (by kernel_rfl) rfl #[.pointer (some ⟨gb509,0,none⟩),.slice Ao9 y510.length co9] rfl (taae) ?_;(with_reducible refine (spec_l1Cur_among.calls gb509 l0 0 0 _ _ y510 t513 t514 t515 w _ ?side1 ?side2 ?side3 ?side4 ?side5 A2.out).mono ?_);(case side1=>repeat (first | (with_reducible first | exact HI509.out | apply zcg | apply zch | apply zci | apply zcl | apply zcm) | exact HI509.out));(case side2=>repeat (first | (with_reducible first | exact HB.out | apply zag | apply zae | apply zaf | refine zah ?_ (zck HI509.out)) | exact HB.out));(case side3=>repeat (first | exact (zbf HO512.out).2.2 | (with_reducible refine zal ?_ _) | (with_reducible refine zam ?_ _) | (with_reducible refine zan ?_)));(case side4=>exact (zbf HO512.out).2.1);(case side5=>exact far_slice (IsS43.own_ne HI509.out HO512.out (by decide)));rintro e w10 ⟨rfl,hi,hb,hk⟩;refine ⟨_,rfl,?_⟩;have n0_:=zad (zbq (zbr (zcj (show IsS43 w _ gb509 l0 0 0 from by exact tafi) (tabd) (by decide)) hk (fun _ h=>h.2)) (fun _ h=>h.1));have n1_:=zad (hb);have n2_:=zad (hi);clear HO512 HB HI509;have HO512:=n0_;have HB:=n1_;have HI509:=n2_;clear n0_ n1_ n2_;(try clear hb);(try clear hb2);(try clear hk);(try clear hi)) | ((with_reducible refine zbh (f:=17) rfl ?_);refine zbn (some 15) rfl rfl Tryz.func17 (by kernel_rfl) rfl #[.pointer (some ⟨gb509,0,none⟩),.int .i64 t513] rfl (taae) ?_;(with_reducible refine (spec_l1Cur_fitting.calls k gb509 l0 t514 t515 t513 t516 t519 t522 t523 w _ ?side1 ?side2 A3.out).mono ?_);(case side1=>repeat (first | (with_reducible first | exact HI509.out | apply zcg | apply zch | apply zci | apply zcl | apply zcm) | exact HI509.out));(case side2=>repeat (first | (with_reducible first | exact HB.out | apply zag | apply zae | apply zaf | refine zah ?_ (zck HI509.out)) | exact HB.out));rintro e w11 ⟨v517,v520,rfl,ho0,ho1,hi,hb,hk⟩;refine ⟨_,rfl,?_⟩;have n0_:=zad (zbq (Kd.R_told (Kd.R_told (Kd.R_oldK (zcj (show IsS43 w _ gb509 l0 t514 t515 from by exact tafi) (tabd) (by decide)) hk) (zcd ho0)) (zcd ho1)) (fun _ h_=>h_.1));have n1_:=zad (zbu (zcc ho0 (zce (tabd))) (zbk (tabc)));have n2_:=zad (zbu (zcc ho1 (zce (tabd))) (zbk (tabc)));have n3_:=zad (hb);have n4_:=zad (hi);clear HO512 HB HI509;have HO512:=n0_;have HO518:=n1_;have HO521:=n2_;have HB:=n3_;have HI509:=n4_;clear n0_ n1_ n2_ n3_ n4_;(try clear hb);(try clear hb2);(try clear hk);(try clear hi);(try clear ho0);(try clear ho1)) | ((with_reducible refine zbh (f:=16) rfl ?_);refine zbn (some 19) rfl rfl Tryz.func16 (by kernel_rfl) rfl #[.pointer (some ⟨gb509,0,none⟩),.int .i64 3] rfl (taae) ?_;(with_reducible refine (spec_l1Cur_one.calls gb509 l0 t522 t523 3 true t525 t526 w _ ?side1 ?side2 A4.out).mono ?_);(case side1=>repeat (first | (with_reducible first | exact HI509.out | apply zcg | apply zch | apply zci | apply zcl | apply zcm) | exact HI509.out));(case side2=>repeat (first | (with_reducible first | exact HB.out | apply zag | apply zae | apply zaf | refine zah ?_ (zck HI509.out)) | exact HB.out));rintro e w12 ⟨rfl,hi,hb,hk⟩;refine ⟨_,rfl,?_⟩;have n0_:=zad (zbq (zbr (zcj (show IsS43 w _ gb509 l0 t522 t523 from by exact tafi) (tabd) (by decide)) hk (fun _ h=>h.2)) (fun _ h=>h.1));have n1_:=zad (zbq (zbr (zcj (show IsS43 w _ gb509 l0 t522 t523 from by exact tafi) (tadc) (by decide)) hk (fun _ h=>h.2)) (fun _ h=>h.1));have n2_:=zad (zbq (zbr (zcj (show IsS43 w _ gb509 l0 t522 t523 from by exact tafi) (tadd) (by decide)) hk (fun _ h=>h.2)) (fun _ h=>h.1));have n3_:=zad (hb);have n4_:=zad (hi);clear HO512 HO518 HO521 HB HI509;have HO512:=n0_;have HO518:=n1_;have HO521:=n2_;have HB:=n3_;have HI509:=n4_;clear n0_ n1_ n2_ n3_ n4_;(try clear hb);(try clear hb2);(try clear hk);(try clear hi)))
  go_ret2
  exact ⟨_,_,taai,tade,tadf,tabc⟩
 ·replace c5:=zbi.mpr c5
  subst c5;have H1:(some (t516,t519))=some (r1,r2):=by rw [if_neg (show ¬ (false=true) by decide)] at H;exact H
  clear H;have H:=H1;clear H1;simp only [zbl,zbp] at H
  obtain ⟨rfl,rfl⟩:=H
  go_enter Tryz.func10,Tryz.ntmps10
  go_wp2_with (first | ((with_reducible refine gate_dst (N:=9) rfl ?_);refine box_event ?hg (N:=9) ?hd (cs:=#[.slice A0 l0.length c0,.int .i64 0,.int .u64 0]) (t:=43) ?hr ?_;(case hd=>rfl);(case hg=>rfl);(case hr=>first | (go_simp;done) | (go_simp;rfl));intro gb509 hg w13 hbox hb;have n0_:=zad (zbg (taab) hb);have n1_:=zad ((show IsS43 w w13 gb509 l0 0 0 from ⟨_,_,hbox,(tafa),HR0.out⟩));clear HB;have HB:=n0_;have HI509:=n1_;clear n0_ n1_ hb hbox hg) | ((with_reducible refine gate_dst (N:=13) rfl ?_);refine Kd.R_lit (Kd.int .i64) _ 3 ?hg (N:=13) ?hd (xs:=([4,4,4,5]:List Int)) (inner:=[.int .i64 4,.int .i64 4,.int .i64 4,.int .i64 5]) (ok:=fun _=>True) (okp:=fun _=>True) ?hr ?hp (fun _ hk=>hk) trivial (Below.refl _ _) (zcf _) (taac) ?_;(case hd=>rfl);(case hg=>rfl);(case hr=>first | (go_simp;done) | (go_simp;rfl));(case hp=>exact (Reps.one (show Kd.M (Kd.int .i64) _ _ _ 4 [.int .i64 4] from rfl) (Reps.one (show Kd.M (Kd.int .i64) _ _ _ 4 [.int .i64 4] from rfl) (Reps.one (show Kd.M (Kd.int .i64) _ _ _ 4 [.int .i64 4] from rfl) (Reps.one (show Kd.M (Kd.int .i64) _ _ _ 5 [.int .i64 5] from rfl) (Reps.none _ _))))));intro v511 w14 ho15 hb hg_ hnew_;clear hg_ hnew_;(first | rw [← Ny510.out] at ho15 | (simp only [Int.reduceToNat] at ho15;rw [← Ny510.out] at ho15));have n0_:=zad (zbu ho15 (zbk (tabc)));have n1_:=zad (IsS43.below (taay) hb);have n2_:=zad (zbg (tabc) hb);clear HI509 HB;have HO512:=n0_;have HI509:=n1_;have HB:=n2_;clear n0_ n1_ n2_ hb ho15;obtain ⟨Ao16,co16,eo16⟩:=zbv HO512.out;subst eo16) | ((with_reducible refine zbh (f:=19) rfl ?_);refine zbn (some 14) rfl rfl Tryz.func19 (by kernel_rfl) rfl #[.pointer (some ⟨gb509,0,none⟩),.slice Ao16 y510.length co16] rfl (taae) ?_;(with_reducible refine (spec_l1Cur_among.calls gb509 l0 0 0 _ _ y510 t513 t514 t515 w _ ?side1 ?side2 ?side3 ?side4 ?side5 A2.out).mono ?_);(case side1=>repeat (first | (with_reducible first | exact HI509.out | apply zcg | apply zch | apply zci | apply zcl | apply zcm) | exact HI509.out));(case side2=>repeat (first | (with_reducible first | exact HB.out | apply zag | apply zae | apply zaf | refine zah ?_ (zck HI509.out)) | exact HB.out));(case side3=>repeat (first | exact (zbf HO512.out).2.2 | (with_reducible refine zal ?_ _) | (with_reducible refine zam ?_ _) | (with_reducible refine zan ?_)));(case side4=>exact (zbf HO512.out).2.1);(case side5=>exact far_slice (IsS43.own_ne HI509.out HO512.out (by decide)));rintro e w17 ⟨rfl,hi,hb,hk⟩;refine ⟨_,rfl,?_⟩;have n0_:=zad (zbq (zbr (zcj (show IsS43 w _ gb509 l0 0 0 from by exact tafi) (tabd) (by decide)) hk (fun _ h=>h.2)) (fun _ h=>h.1));have n1_:=zad (hb);have n2_:=zad (hi);clear HO512 HB HI509;have HO512:=n0_;have HB:=n1_;have HI509:=n2_;clear n0_ n1_ n2_;(try clear hb);(try clear hb2);(try clear hk);(try clear hi)) | ((with_reducible refine zbh (f:=17) rfl ?_);refine zbn (some 15) rfl rfl Tryz.func17 (by kernel_rfl) rfl #[.pointer (some ⟨gb509,0,none⟩),.int .i64 t513] rfl (taae) ?_;(with_reducible refine (spec_l1Cur_fitting.calls k gb509 l0 t514 t515 t513 t516 t519 t522 t523 w _ ?side1 ?side2 A3.out).mono ?_);(case side1=>repeat (first | (with_reducible first | exact HI509.out | apply zcg | apply zch | apply zci | apply zcl | apply zcm) | exact HI509.out));(case side2=>repeat (first | (with_reducible first | exact HB.out | apply zag | apply zae | apply zaf | refine zah ?_ (zck HI509.out)) | exact HB.out));rintro e w18 ⟨v517,v520,rfl,ho0,ho1,hi,hb,hk⟩;refine ⟨_,rfl,?_⟩;have n0_:=zad (zbq (Kd.R_told (Kd.R_told (Kd.R_oldK (zcj (show IsS43 w _ gb509 l0 t514 t515 from by exact tafi) (tabd) (by decide)) hk) (zcd ho0)) (zcd ho1)) (fun _ h_=>h_.1));have n1_:=zad (zbu (zcc ho0 (zce (tabd))) (zbk (tabc)));have n2_:=zad (zbu (zcc ho1 (zce (tabd))) (zbk (tabc)));have n3_:=zad (hb);have n4_:=zad (hi);clear HO512 HB HI509;have HO512:=n0_;have HO518:=n1_;have HO521:=n2_;have HB:=n3_;have HI509:=n4_;clear n0_ n1_ n2_ n3_ n4_;(try clear hb);(try clear hb2);(try clear hk);(try clear hi);(try clear ho0);(try clear ho1)) | ((with_reducible refine zbh (f:=16) rfl ?_);refine zbn (some 19) rfl rfl Tryz.func16 (by kernel_rfl) rfl #[.pointer (some ⟨gb509,0,none⟩),.int .i64 3] rfl (taae) ?_;(with_reducible refine (spec_l1Cur_one.calls gb509 l0 t522 t523 3 false t525 t526 w _ ?side1 ?side2 A4.out).mono ?_);(case side1=>repeat (first | (with_reducible first | exact HI509.out | apply zcg | apply zch | apply zci | apply zcl | apply zcm) | exact HI509.out));(case side2=>repeat (first | (with_reducible first | exact HB.out | apply zag | apply zae | apply zaf | refine zah ?_ (zck HI509.out)) | exact HB.out));rintro e w19 ⟨rfl,hi,hb,hk⟩;refine ⟨_,rfl,?_⟩;have n0_:=zad (zbq (zbr (zcj (show IsS43 w _ gb509 l0 t522 t523 from by exact tafi) (tabd) (by decide)) hk (fun _ h=>h.2)) (fun _ h=>h.1));have n1_:=zad (zbq (zbr (zcj (show IsS43 w _ gb509 l0 t522 t523 from by exact tafi) (tadc) (by decide)) hk (fun _ h=>h.2)) (fun _ h=>h.1));have n2_:=zad (zbq (zbr (zcj (show IsS43 w _ gb509 l0 t522 t523 from by exact tafi) (tadd) (by decide)) hk (fun _ h=>h.2)) (fun _ h=>h.1));have n3_:=zad (hb);have n4_:=zad (hi);clear HO512 HO518 HO521 HB HI509;have HO512:=n0_;have HO518:=n1_;have HO521:=n2_;have HB:=n3_;have HI509:=n4_;clear n0_ n1_ n2_ n3_ n4_;(try clear hb);(try clear hb2);(try clear hk);(try clear hi)))
  go_ret2
  exact ⟨_,_,taai,tadf,tade,tabc⟩
def laws_ySame.l0:Nat→List Int→List Int→Int→Int→Option (Bool)
 | 0,_,_,_,_=>none
 | k+1,x0,x1,x12,x13=>if x13<x12 then (if 0≤x13 then (if x13<(x0.length:Int) then (if x13<(x1.length:Int) then (if (rd x0 x13)=(rd x1 x13) then (laws_ySame.l0 k x0 x1 x12 (wrap64 (x13+1))) else (some false)) else (none)) else (none)) else (none)) else (some true)
def laws_ySame.f (k:Nat) (l0:List Int) (l1:List Int):Option (Bool):=if (l0.length:Int)=(l1.length:Int) then (laws_ySame.l0 k l0 l1 (l0.length:Int) 0) else (some false)
theorem laws_ySame.calls (k:Nat) (A0:Option Addr) (c0:Nat) (l0:List Int) (A1:Option Addr) (c1:Nat) (l1:List Int) (r:Bool) (w:World) (hr0:Kd.C (Kd.int .i64) w A0 l0.length l0) (hc0:l0.length≤c0) (hr1:Kd.C (Kd.int .i64) w A1 l1.length l1) (hc1:l1.length≤c1) (h:laws_ySame.f k l0 l1=some r) :
 Calls Tryz.prog 8 #[.slice A0 l0.length c0,.slice A1 l1.length c1] w fun e w'=>e = .returned (.bool r)∧Drawn0 w w':=by
 have HR0:=zad hr0;have HC0:=zad hc0;clear hr0 hc0;have HR1:=zad hr1;have HC1:=zad hc1;clear hr1 hc1;have H:(if (l0.length:Int)=(l1.length:Int) then (laws_ySame.l0 k l0 l1 (l0.length:Int) 0) else (some false))=some r:=h
 clear h;by_cases c3:(l0.length:Int)=(l1.length:Int)
 ·rw [if_pos c3] at H
  have c3b0:((l0.length:Int) == (l1.length:Int))=true:=beq_iff_eq.mpr c3
  have c3b1:((l0.length:Int) != (l1.length:Int))=false:=bne_eq_false_iff_eq.mpr c3
  have c3b2:(l0.length == l1.length)=true:=by first | simpa using c3 | (simp at c3 ⊢;omega)
  clear c3;have H':=zad H
  clear H;go_enter Tryz.func8,Tryz.ntmps8
  go_wp2
  repeat (go_quiet (fail);try go_wp2)
  go_loopg [13] k (fun kq v13 w'=>∃ (x13_1:Int),v13 = .int .i64 x13_1∧Aside0 (laws_ySame.l0 kq l0 l1 (l0.length:Int) x13_1=some r)∧Aside0 (kq≤k)∧Drawn0 w w')
  case atStart=>exact ⟨(0),(taad),H',⟨zcf _⟩,taah⟩
  case round =>
   clear H'
   try clear c1
   try clear p2
   try clear c3
   try clear c3b0
   try clear c3b1
   try clear c3b2
   obtain ⟨x13_1,rfl,HA,HK1,⟨m1,rfl⟩⟩:=hrel
   cases gk with
   | zero=>exact absurd HA.out (by simp [laws_ySame.l0])
   | succ k1 =>
    have H:=HA.out
    clear HA;simp only [laws_ySame.l0] at H
    by_cases c4:x13_1<(l0.length:Int)
    ·rw [if_pos c4] at H
     have c4b0:decide (x13_1<(l0.length:Int))=true:=zba c4
     clear c4;by_cases c5:0≤x13_1
     ·rw [if_pos c5] at H
      have c5b0:decide (0≤x13_1)=true:=zba c5
      clear c5;by_cases c6:x13_1<(l0.length:Int)
      ·rw [if_pos c6] at H
       have c6b0:decide (x13_1<(l0.length:Int))=true:=zba c6
       clear c6;by_cases c7:x13_1<(l1.length:Int)
       ·rw [if_pos c7] at H
        have c7b0:decide (x13_1<(l1.length:Int))=true:=zba c7
        clear c7;by_cases c8:(rd l0 x13_1)=(rd l1 x13_1)
        ·rw [if_pos c8] at H
         have c8b0:((rd l0 x13_1) == (rd l1 x13_1))=true:=beq_iff_eq.mpr c8
         have c8b1:((rd l0 x13_1) != (rd l1 x13_1))=false:=bne_eq_false_iff_eq.mpr c8
         clear c8;have H':=zad H
         clear H;have p479:0≤(x13_1:Int):=zas (taaa)
         have q479:x13_1<(l0.length:Int):=zas (taaa)
         obtain ⟨ad479,e479,hx479_0⟩:=zca HR0.out x13_1 p479 q479
         cases e479
         replace p479:=eq_true p479
         replace q479:=eq_true q479
         have p480:0≤(x13_1:Int):=zas (taaa)
         have q480:x13_1<(l1.length:Int):=zas (taaa)
         obtain ⟨ad480,e480,hx480_0⟩:=zca HR1.out x13_1 p480 q480
         cases e480
         replace p480:=eq_true p480
         replace q480:=eq_true q480
         go_wp2
         repeat (go_quiet (fail);try go_wp2)
         go_roundg k1
         case measure=>have:=HK1.out;omega
         case rel=>exact ⟨(wrap64 (x13_1+1)),(taad),H',⟨taaq⟩,taah⟩
        ·rw [if_neg c8] at H
         have c8b0:((rd l0 x13_1) == (rd l1 x13_1))=false:=zbo.mpr c8
         have c8b1:((rd l0 x13_1) != (rd l1 x13_1))=true:=bne_iff_ne.mpr c8
         obtain rfl:=zbe H
         have p479:0≤(x13_1:Int):=zas (taaa)
         have q479:x13_1<(l0.length:Int):=zas (taaa)
         obtain ⟨ad479,e479,hx479_0⟩:=zca HR0.out x13_1 p479 q479
         cases e479
         replace p479:=eq_true p479
         replace q479:=eq_true q479
         have p480:0≤(x13_1:Int):=zas (taaa)
         have q480:x13_1<(l1.length:Int):=zas (taaa)
         obtain ⟨ad480,e480,hx480_0⟩:=zca HR1.out x13_1 p480 q480
         cases e480
         replace p480:=eq_true p480
         replace q480:=eq_true q480
         go_wp2
         repeat (go_quiet (fail);try go_wp2)
         go_ret
         exact ⟨taad,taah⟩
       ·rw [if_neg c7] at H
        exact absurd H (taac)
      ·rw [if_neg c6] at H
       exact absurd H (taac)
     ·rw [if_neg c5] at H
      exact absurd H (taac)
    ·rw [if_neg c4] at H
     have c4b0:decide (x13_1<(l0.length:Int))=false:=zbj c4
     clear c4;obtain rfl:=zbe H
     go_wp2
     repeat (go_quiet (fail);try go_wp2)
     go_ret
     exact ⟨taad,taah⟩
 ·rw [if_neg c3] at H
  have c3b0:((l0.length:Int) == (l1.length:Int))=false:=zbo.mpr c3
  have c3b1:((l0.length:Int) != (l1.length:Int))=true:=bne_iff_ne.mpr c3
  have c3b2:(l0.length == l1.length)=false:=by first | simpa using c3 | (simp at c3 ⊢;omega)
  obtain rfl:=zbe H
  go_enter Tryz.func8,Tryz.ntmps8
  go_wp2
  repeat (go_quiet (fail);try go_wp2)
  go_ret
  exact ⟨taad,taah⟩
def laws_yRows.l0:Nat→List (List Int)→List (List Int)→Int→Int→Option (Bool)
 | 0,_,_,_,_=>none
 | k+1,x0,x1,x12,x13=>if x13<x12 then (if 0≤x13 then (if x13<(x0.length:Int) then (if x13<(x1.length:Int) then ((laws_ySame.f k (rd_L2 x0 x13) (rd_L2 x1 x13)).bind fun t541=>(if t541=true then (laws_yRows.l0 k x0 x1 x12 (wrap64 (x13+1))) else (some false))) else (none)) else (none)) else (none)) else (some true)
def laws_yRows.f (k:Nat) (l0:List (List Int)) (l1:List (List Int)):Option (Bool):=if (l0.length:Int)=(l1.length:Int) then (laws_yRows.l0 k l0 l1 (l0.length:Int) 0) else (some false)
theorem laws_yRows.calls (k:Nat) (A0:Option Addr) (c0:Nat) (l0:List (List Int)) (A1:Option Addr) (c1:Nat) (l1:List (List Int)) (r:Bool) (w:World) (hr0:Kd.C (Kd.slice 3 (Kd.int .i64)) w A0 l0.length l0) (hc0:l0.length≤c0) (hr1:Kd.C (Kd.slice 3 (Kd.int .i64)) w A1 l1.length l1) (hc1:l1.length≤c1) (h:laws_yRows.f k l0 l1=some r) :
 Calls Tryz.prog 13 #[.slice A0 l0.length c0,.slice A1 l1.length c1] w fun e w'=>e = .returned (.bool r)∧Drawn0 w w':=by
 have HR0:=zad hr0;have HC0:=zad hc0;clear hr0 hc0;have HR1:=zad hr1;have HC1:=zad hc1;clear hr1 hc1;have H:(if (l0.length:Int)=(l1.length:Int) then (laws_yRows.l0 k l0 l1 (l0.length:Int) 0) else (some false))=some r:=h
 clear h;by_cases c3:(l0.length:Int)=(l1.length:Int)
 ·rw [if_pos c3] at H
  have c3b0:((l0.length:Int) == (l1.length:Int))=true:=beq_iff_eq.mpr c3
  have c3b1:((l0.length:Int) != (l1.length:Int))=false:=bne_eq_false_iff_eq.mpr c3
  have c3b2:(l0.length == l1.length)=true:=by first | simpa using c3 | (simp at c3 ⊢;omega)
  clear c3;have H':=zad H
  clear H;go_enter Tryz.func13,Tryz.ntmps13
  go_wp2
  repeat (go_quiet (fail);try go_wp2)
  go_loopg [13] k (fun kq v13 w'=>∃ (x13_1:Int),v13 = .int .i64 x13_1∧Aside0 (laws_yRows.l0 kq l0 l1 (l0.length:Int) x13_1=some r)∧Aside0 (kq≤k)∧Drawn0 w w')
  case atStart=>exact ⟨(0),(taad),H',⟨zcf _⟩,taah⟩
  case round =>
   clear H'
   try clear c1
   try clear p2
   try clear c3
   try clear c3b0
   try clear c3b1
   try clear c3b2
   obtain ⟨x13_1,rfl,HA,HK1,⟨m1,rfl⟩⟩:=hrel
   cases gk with
   | zero=>exact absurd HA.out (by simp [laws_yRows.l0])
   | succ k1 =>
    have H:=HA.out
    clear HA;simp only [laws_yRows.l0] at H
    by_cases c4:x13_1<(l0.length:Int)
    ·rw [if_pos c4] at H
     have c4b0:decide (x13_1<(l0.length:Int))=true:=zba c4
     clear c4;by_cases c5:0≤x13_1
     ·rw [if_pos c5] at H
      have c5b0:decide (0≤x13_1)=true:=zba c5
      clear c5;by_cases c6:x13_1<(l0.length:Int)
      ·rw [if_pos c6] at H
       have c6b0:decide (x13_1<(l0.length:Int))=true:=zba c6
       clear c6;by_cases c7:x13_1<(l1.length:Int)
       ·rw [if_pos c7] at H
        have c7b0:decide (x13_1<(l1.length:Int))=true:=zba c7
        clear c7;replace H:=zay.mp H;obtain ⟨t541,A80,H⟩:=H
        replace H:(if t541=true then (laws_yRows.l0 k1 l0 l1 (l0.length:Int) (wrap64 (x13_1+1))) else (some false))=some r:=H
        have A8:=zad A80;clear A80;by_cases c9:t541=true
        ·subst c9
         have H1:(laws_yRows.l0 k1 l0 l1 (l0.length:Int) (wrap64 (x13_1+1)))=some r:=by rw [if_pos rfl] at H;exact H
         clear H;have H:=H1;clear H1;have H':=zad H
         clear H;have p539:0≤(x13_1:Int):=zas (taaa)
         have q539:x13_1<(l0.length:Int):=zas (taaa)
         obtain ⟨ad539,A539_0,c539_0,e539,hx539_0,hl539_0,hi539_0⟩:=at_L2 HR0.out x13_1 p539 q539
         cases e539
         have HR539_0:=zad hi539_0;have HC539_0:=zad hl539_0;clear hi539_0 hl539_0;replace p539:=eq_true p539
         replace q539:=eq_true q539
         have p540:0≤(x13_1:Int):=zas (taaa)
         have q540:x13_1<(l1.length:Int):=zas (taaa)
         obtain ⟨ad540,A540_0,c540_0,e540,hx540_0,hl540_0,hi540_0⟩:=at_L2 HR1.out x13_1 p540 q540
         cases e540
         have HR540_0:=zad hi540_0;have HC540_0:=zad hl540_0;clear hi540_0 hl540_0;replace p540:=eq_true p540
         replace q540:=eq_true q540
         go_wp2_with (first | (go_at_call 8;(with_reducible refine (laws_ySame.calls k1 _ _ (rd_L2 l0 x13_1) _ _ (rd_L2 l1 x13_1) true _ ?side1 ?side2 ?side3 ?side4 A8.out).mono ?_);(case side1=>exact tafu);(case side2=>exact HC539_0.out);(case side3=>exact tafv);(case side4=>exact HC540_0.out);rintro e w' ⟨rfl,⟨nd,rfl⟩⟩;(try first | exact ⟨rfl,_,World.drewN_drewN _ _ _⟩ | exact ⟨rfl,_,Eq.trans (World.drewN_drewN _ _ _) (congrArg (World.drewN _) (Nat.add_assoc _ _ _))⟩)))
         repeat (go_quiet (first | (go_at_call 8;(with_reducible refine (laws_ySame.calls k1 _ _ (rd_L2 l0 x13_1) _ _ (rd_L2 l1 x13_1) true _ ?side1 ?side2 ?side3 ?side4 A8.out).mono ?_);(case side1=>repeat (first | exact HR539_0.out | (with_reducible refine zal ?_ _) | (with_reducible refine zam ?_ _) | (with_reducible refine zan ?_)));(case side2=>exact HC539_0.out);(case side3=>repeat (first | exact HR540_0.out | (with_reducible refine zal ?_ _) | (with_reducible refine zam ?_ _) | (with_reducible refine zan ?_)));(case side4=>exact HC540_0.out);rintro e w' ⟨rfl,⟨nd,rfl⟩⟩;(try first | exact ⟨rfl,_,World.drewN_drewN _ _ _⟩ | exact ⟨rfl,_,Eq.trans (World.drewN_drewN _ _ _) (congrArg (World.drewN _) (Nat.add_assoc _ _ _))⟩)));try go_wp2_with (first | (go_at_call 8;(with_reducible refine (laws_ySame.calls k1 _ _ (rd_L2 l0 x13_1) _ _ (rd_L2 l1 x13_1) true _ ?side1 ?side2 ?side3 ?side4 A8.out).mono ?_);(case side1=>repeat (first | exact HR539_0.out | (with_reducible refine zal ?_ _) | (with_reducible refine zam ?_ _) | (with_reducible refine zan ?_)));(case side2=>exact HC539_0.out);(case side3=>repeat (first | exact HR540_0.out | (with_reducible refine zal ?_ _) | (with_reducible refine zam ?_ _) | (with_reducible refine zan ?_)));(case side4=>exact HC540_0.out);rintro e w' ⟨rfl,⟨nd,rfl⟩⟩;(try first | exact ⟨rfl,_,World.drewN_drewN _ _ _⟩ | exact ⟨rfl,_,Eq.trans (World.drewN_drewN _ _ _) (congrArg (World.drewN _) (Nat.add_assoc _ _ _))⟩))))
         go_roundg k1
         case measure=>have:=HK1.out;omega
         case rel=>exact ⟨(wrap64 (x13_1+1)),(taad),H',⟨taaq⟩,taah⟩
        ·replace c9:=zbi.mpr c9
         subst c9;have H1:(some false)=some r:=by rw [if_neg (show ¬ (false=true) by decide)] at H;exact H
         clear H;have H:=H1;clear H1;obtain rfl:=zbe H
         have p539:0≤(x13_1:Int):=zas (taaa)
         have q539:x13_1<(l0.length:Int):=zas (taaa)
         obtain ⟨ad539,A539_0,c539_0,e539,hx539_0,hl539_0,hi539_0⟩:=at_L2 HR0.out x13_1 p539 q539
         cases e539
         have HR539_0:=zad hi539_0;have HC539_0:=zad hl539_0;clear hi539_0 hl539_0;replace p539:=eq_true p539
         replace q539:=eq_true q539
         have p540:0≤(x13_1:Int):=zas (taaa)
         have q540:x13_1<(l1.length:Int):=zas (taaa)
         obtain ⟨ad540,A540_0,c540_0,e540,hx540_0,hl540_0,hi540_0⟩:=at_L2 HR1.out x13_1 p540 q540
         cases e540
         have HR540_0:=zad hi540_0;have HC540_0:=zad hl540_0;clear hi540_0 hl540_0;replace p540:=eq_true p540
         replace q540:=eq_true q540
         go_wp2_with (first | (go_at_call 8;(with_reducible refine (laws_ySame.calls k1 _ _ (rd_L2 l0 x13_1) _ _ (rd_L2 l1 x13_1) false _ ?side1 ?side2 ?side3 ?side4 A8.out).mono ?_);(case side1=>exact tafu);(case side2=>exact HC539_0.out);(case side3=>exact tafv);(case side4=>exact HC540_0.out);rintro e w' ⟨rfl,⟨nd,rfl⟩⟩;(try first | exact ⟨rfl,_,World.drewN_drewN _ _ _⟩ | exact ⟨rfl,_,Eq.trans (World.drewN_drewN _ _ _) (congrArg (World.drewN _) (Nat.add_assoc _ _ _))⟩)))
         repeat (go_quiet (first | (go_at_call 8;(with_reducible refine (laws_ySame.calls k1 _ _ (rd_L2 l0 x13_1) _ _ (rd_L2 l1 x13_1) false _ ?side1 ?side2 ?side3 ?side4 A8.out).mono ?_);(case side1=>repeat (first | exact HR539_0.out | (with_reducible refine zal ?_ _) | (with_reducible refine zam ?_ _) | (with_reducible refine zan ?_)));(case side2=>exact HC539_0.out);(case side3=>repeat (first | exact HR540_0.out | (with_reducible refine zal ?_ _) | (with_reducible refine zam ?_ _) | (with_reducible refine zan ?_)));(case side4=>exact HC540_0.out);rintro e w' ⟨rfl,⟨nd,rfl⟩⟩;(try first | exact ⟨rfl,_,World.drewN_drewN _ _ _⟩ | exact ⟨rfl,_,Eq.trans (World.drewN_drewN _ _ _) (congrArg (World.drewN _) (Nat.add_assoc _ _ _))⟩)));try go_wp2_with (first | (go_at_call 8;(with_reducible refine (laws_ySame.calls k1 _ _ (rd_L2 l0 x13_1) _ _ (rd_L2 l1 x13_1) false _ ?side1 ?side2 ?side3 ?side4 A8.out).mono ?_);(case side1=>repeat (first | exact HR539_0.out | (with_reducible refine zal ?_ _) | (with_reducible refine zam ?_ _) | (with_reducible refine zan ?_)));(case side2=>exact HC539_0.out);(case side3=>repeat (first | exact HR540_0.out | (with_reducible refine zal ?_ _) | (with_reducible refine zam ?_ _) | (with_reducible refine zan ?_)));(case side4=>exact HC540_0.out);rintro e w' ⟨rfl,⟨nd,rfl⟩⟩;(try first | exact ⟨rfl,_,World.drewN_drewN _ _ _⟩ | exact ⟨rfl,_,Eq.trans (World.drewN_drewN _ _ _) (congrArg (World.drewN _) (Nat.add_assoc _ _ _))⟩))))
         go_ret
         exact ⟨taad,taah⟩
       ·rw [if_neg c7] at H
        exact absurd H (taac)
      ·rw [if_neg c6] at H
       exact absurd H (taac)
     ·rw [if_neg c5] at H
      exact absurd H (taac)
    ·rw [if_neg c4] at H
     have c4b0:decide (x13_1<(l0.length:Int))=false:=zbj c4
     clear c4;obtain rfl:=zbe H
     go_wp2
     repeat (go_quiet (fail);try go_wp2)
     go_ret
     exact ⟨taad,taah⟩
 ·rw [if_neg c3] at H
  have c3b0:((l0.length:Int) == (l1.length:Int))=false:=zbo.mpr c3
  have c3b1:((l0.length:Int) != (l1.length:Int))=true:=bne_iff_ne.mpr c3
  have c3b2:(l0.length == l1.length)=false:=by first | simpa using c3 | (simp at c3 ⊢;omega)
  obtain rfl:=zbe H
  go_enter Tryz.func13,Tryz.ntmps13
  go_wp2
  repeat (go_quiet (fail);try go_wp2)
  go_ret
  exact ⟨taad,taah⟩
def impl_total.l0:Nat→Int→List Int→Int→Int→Option (Int)
 | 0,_,_,_,_=>none
 | k+1,x3,x6,x7,x8=>if x8<x7 then (if 0≤x8 then (if x8<(x6.length:Int) then (impl_total.l0 k (wrap64 (x3+(rd x6 x8))) x6 x7 (wrap64 (x8+1))) else (none)) else (none)) else (some x3)
def impl_total.f (k:Nat) (l0:List Int):Option (Int):=impl_total.l0 k 0 l0 (l0.length:Int) 0
theorem impl_total.calls (k:Nat) (A0:Option Addr) (c0:Nat) (l0:List Int) (r:Int) (w:World) (hr0:Kd.C (Kd.int .i64) w A0 l0.length l0) (hc0:l0.length≤c0) (h:impl_total.f k l0=some r) :
 Calls Tryz.prog 58 #[.slice A0 l0.length c0] w fun e w'=>e = .returned (.int .i64 r)∧Drawn0 w w':=by
 have HR0:=zad hr0;have HC0:=zad hc0;clear hr0 hc0;have H:(impl_total.l0 k 0 l0 (l0.length:Int) 0)=some r:=h
 clear h;have H':=zad H
 clear H;go_enter Tryz.func58,Tryz.ntmps58
 go_wp2
 go_loopg [3,8] k (fun kq v3 v8 w'=>∃ (x3_1:Int) (x8_1:Int),v3 = .int .i64 x3_1∧v8 = .int .i64 x8_1∧Aside0 (impl_total.l0 kq x3_1 l0 (l0.length:Int) x8_1=some r)∧Aside0 (kq≤k)∧Drawn0 w w')
 case atStart=>exact ⟨(0),(0),(taad),(taad),H',⟨zcf _⟩,taah⟩
 case round =>
  clear H'
  obtain ⟨x3_1,x8_1,rfl,rfl,HA,HK1,⟨m1,rfl⟩⟩:=hrel
  cases gk with
  | zero=>exact absurd HA.out (by simp [impl_total.l0])
  | succ k1 =>
   have H:=HA.out
   clear HA;simp only [impl_total.l0] at H
   by_cases c2:x8_1<(l0.length:Int)
   ·rw [if_pos c2] at H
    have c2b0:decide (x8_1<(l0.length:Int))=true:=zba c2
    clear c2;by_cases c3:0≤x8_1
    ·rw [if_pos c3] at H
     have c3b0:decide (0≤x8_1)=true:=zba c3
     clear c3;by_cases c4:x8_1<(l0.length:Int)
     ·rw [if_pos c4] at H
      have c4b0:decide (x8_1<(l0.length:Int))=true:=zba c4
      clear c4;have H':=zad H
      clear H;have p439:0≤(x8_1:Int):=zas (taaa)
      have q439:x8_1<(l0.length:Int):=zas (taaa)
      obtain ⟨ad439,e439,hx439_0⟩:=zca HR0.out x8_1 p439 q439
      cases e439
      replace p439:=eq_true p439
      replace q439:=eq_true q439
      go_wp2
      go_roundg k1
      case measure=>have:=HK1.out;omega
      case rel=>exact ⟨(wrap64 (x3_1+(rd l0 x8_1))),(wrap64 (x8_1+1)),(taad),(taad),H',⟨taaq⟩,taah⟩
     ·rw [if_neg c4] at H
      exact absurd H (taac)
    ·rw [if_neg c3] at H
     exact absurd H (taac)
   ·rw [if_neg c2] at H
    have c2b0:decide (x8_1<(l0.length:Int))=false:=zbj c2
    clear c2;obtain rfl:=zbe H
    go_wp2
    go_ret
    exact ⟨taad,taah⟩
mutual
def impl_equalSum.l0:Nat→List (List Int)→Int→List (List Int)→Int→Int→Option (Int × Bool)
 | 0,_,_,_,_,_=>none
 | k+1,x0,x4,x14,x15,x16=>if x16<x15 then (if 0≤x16 then (if x16<(x14.length:Int) then (impl_equalSum.l1 k x0 x4 x16 (rd_L2 x14 x16) 0 x14 x15 x16 x0 (x0.length:Int) 0) else (none)) else (none)) else (some (x4,true))
def impl_equalSum.l1:Nat→List (List Int)→Int→Int→List Int→Int→List (List Int)→Int→Int→List (List Int)→Int→Int→Option (Int × Bool)
 | 0,_,_,_,_,_,_,_,_,_,_,_=>none
 | k+1,x0,x4,x5,x6,x7,x14,x15,x16,x21,x22,x23=>if x23<x22 then (if 0≤x23 then (if x23<(x21.length:Int) then (if 0≤x5 then (if x5<((rd_L2 x21 x23).length:Int) then (impl_equalSum.l1 k x0 x4 x5 x6 (wrap64 (x7+(rd (rd_L2 x21 x23) x5))) x14 x15 x16 x21 x22 (wrap64 (x23+1))) else (none)) else (none)) else (none)) else (none)) else ((impl_total.f k x6).bind fun t445=>(if t445=x4 then (if x7=x4 then (impl_equalSum.l0 k x0 x4 x14 x15 (wrap64 (x16+1))) else (some (0,false))) else (some (0,false))))
end
def impl_equalSum.f (k:Nat) (l0:List (List Int)):Option (Int × Bool):=if 0<(l0.length:Int) then ((impl_total.f k (rd_L2 l0 0)).bind fun t441=>(impl_equalSum.l0 k l0 t441 l0 (l0.length:Int) 0)) else (none)
theorem impl_equalSum.calls (k:Nat) (A0:Option Addr) (c0:Nat) (l0:List (List Int)) (r1:Int) (r2:Bool) (w:World) (hr0:Kd.C (Kd.slice 3 (Kd.int .i64)) w A0 l0.length l0) (hc0:l0.length≤c0) (h:impl_equalSum.f k l0=some (r1,r2)) :
 Calls Tryz.prog 22 #[.slice A0 l0.length c0] w fun e w'=>e = .returned (.tuple #[.int .i64 r1,.bool r2])∧Drawn0 w w':=by
 have HR0:=zad hr0;have HC0:=zad hc0;clear hr0 hc0;have H:(if 0<(l0.length:Int) then ((impl_total.f k (rd_L2 l0 0)).bind fun t441=>(impl_equalSum.l0 k l0 t441 l0 (l0.length:Int) 0)) else (none))=some (r1,r2):=h
 clear h;by_cases c2:0<(l0.length:Int)
 ·rw [if_pos c2] at H
  have c2b0:decide (0<(l0.length:Int))=true:=zba c2
  have c2b1:decide (0<l0.length)=true:=zba (by omega)
  clear c2;replace H:=zay.mp H;obtain ⟨t441,A30,H⟩:=H
  replace H:(impl_equalSum.l0 k l0 t441 l0 (l0.length:Int) 0)=some (r1,r2):=H
  have A3:=zad A30;clear A30;have H':=zad H
  clear H;have p440:0≤(0:Int):=(by omega)
  have q440:0<(l0.length:Int):=zas (taaa)
  obtain ⟨ad440,A440_0,c440_0,e440,hx440_0,hl440_0,hi440_0⟩:=at_L2 HR0.out 0 p440 q440
  cases e440
  have qi440:(0<l0.length)=True:=eq_true (by omega)
  (try rw [show ((0:Int)).toNat=0 from rfl] at hx440_0)
  (try rw [Addr.add_zero'] at hx440_0)
  have HR440_0:=zad hi440_0;have HC440_0:=zad hl440_0;clear hi440_0 hl440_0;replace p440:=eq_true p440
  replace q440:=eq_true q440
  go_enter Tryz.func22,Tryz.ntmps22
  go_wp2_with (first | ((with_reducible refine zbh (f:=58) rfl ?_);refine zbn (some 13) rfl rfl Tryz.func58 (by kernel_rfl) rfl #[.slice A440_0 (rd_L2 l0 0).length c440_0] rfl (taae) ?_;(with_reducible refine (impl_total.calls k _ _ (rd_L2 l0 0) t441 _ ?side1 ?side2 A3.out).mono ?_);(case side1=>repeat (first | exact HR440_0.out | (with_reducible refine zal ?_ _) | (with_reducible refine zam ?_ _) | (with_reducible refine zan ?_)));(case side2=>exact HC440_0.out);rintro e w' ⟨rfl,⟨nd,rfl⟩⟩;refine ⟨_,rfl,?_⟩))
  go_loopg [16] k (fun kq v16 w'=>∃ (x16_1:Int),v16 = .int .i64 x16_1∧Aside0 (impl_equalSum.l0 kq l0 t441 l0 (l0.length:Int) x16_1=some (r1,r2))∧Aside0 (kq≤k)∧Drawn0 w w')
  case atStart=>exact ⟨(0),(taad),H',⟨zcf _⟩,taah⟩
  case round =>
   clear H'
   try clear c2
   try clear c2b0
   try clear c2b1
   try clear p2
   try clear hx440_0
   try clear p440
   try clear q440
   obtain ⟨x16_1,rfl,HA,HK1,⟨m1,rfl⟩⟩:=hrel
   cases gk with
   | zero=>exact absurd HA.out (by simp [impl_equalSum.l0])
   | succ k1 =>
    have H:=HA.out
    clear HA;simp only [impl_equalSum.l0] at H
    by_cases c4:x16_1<(l0.length:Int)
    ·rw [if_pos c4] at H
     have c4b0:decide (x16_1<(l0.length:Int))=true:=zba c4
     clear c4;by_cases c5:0≤x16_1
     ·rw [if_pos c5] at H
      have c5b0:decide (0≤x16_1)=true:=zba c5
      clear c5;by_cases c6:x16_1<(l0.length:Int)
      ·rw [if_pos c6] at H
       have c6b0:decide (x16_1<(l0.length:Int))=true:=zba c6
       clear c6;have H':=zad H
       clear H;have p442:0≤(x16_1:Int):=zas (taaa)
       have q442:x16_1<(l0.length:Int):=zas (taaa)
       obtain ⟨ad442,A442_0,c442_0,e442,hx442_0,hl442_0,hi442_0⟩:=at_L2 HR0.out x16_1 p442 q442
       obtain rfl:ad440=ad442:=(by injection e442)
       have HR442_0:=zad hi442_0;have HC442_0:=zad hl442_0;clear hi442_0 hl442_0;replace p442:=eq_true p442
       replace q442:=eq_true q442
       go_wp2
       go_loopg [7,23] k1 (fun kq v7 v23 w'=>∃ (x7_2:Int) (x23_2:Int),v7 = .int .i64 x7_2∧v23 = .int .i64 x23_2∧Aside0 (impl_equalSum.l1 kq l0 t441 x16_1 (rd_L2 l0 x16_1) x7_2 l0 (l0.length:Int) x16_1 l0 (l0.length:Int) x23_2=some (r1,r2))∧Aside0 (kq≤k1)∧Drawn0 w w')
       case atStart=>exact ⟨(0),(0),(taad),(taad),H',⟨zcf _⟩,taah⟩
       case round =>
        clear H'
        try clear c2
        try clear c2b0
        try clear c2b1
        try clear p2
        try clear c4
        try clear c4b0
        try clear p4
        try clear q4
        try clear hx4
        try clear qi4
        try clear c5
        try clear c5b0
        try clear c6
        try clear c6b0
        try clear hx440_0
        try clear hx442_0
        try clear p2
        try clear p440
        try clear p442
        try clear q440
        try clear q442
        obtain ⟨x7_2,x23_2,rfl,rfl,HA,HK2,⟨m2,rfl⟩⟩:=hrel
        cases gk with
        | zero=>exact absurd HA.out (by simp [impl_equalSum.l1])
        | succ k2 =>
         have H:=HA.out
         clear HA;simp only [impl_equalSum.l1] at H
         by_cases c7:x23_2<(l0.length:Int)
         ·rw [if_pos c7] at H
          have c7b0:decide (x23_2<(l0.length:Int))=true:=zba c7
          clear c7;by_cases c8:0≤x23_2
          ·rw [if_pos c8] at H
           have c8b0:decide (0≤x23_2)=true:=zba c8
           clear c8;by_cases c9:x23_2<(l0.length:Int)
           ·rw [if_pos c9] at H
            have c9b0:decide (x23_2<(l0.length:Int))=true:=zba c9
            clear c9;by_cases c10:0≤x16_1
            ·rw [if_pos c10] at H
             have c10b0:decide (0≤x16_1)=true:=zba c10
             clear c10;by_cases c11:x16_1<((rd_L2 l0 x23_2).length:Int)
             ·rw [if_pos c11] at H
              have c11b0:decide (x16_1<((rd_L2 l0 x23_2).length:Int))=true:=zba c11
              clear c11;have H':=zad H
              clear H;have p443:0≤(x23_2:Int):=zas (taaa)
              have q443:x23_2<(l0.length:Int):=zas (taaa)
              obtain ⟨ad443,A443_0,c443_0,e443,hx443_0,hl443_0,hi443_0⟩:=at_L2 HR0.out x23_2 p443 q443
              obtain rfl:ad440=ad443:=(by injection e443)
              have HR443_0:=zad hi443_0;have HC443_0:=zad hl443_0;clear hi443_0 hl443_0;replace p443:=eq_true p443
              replace q443:=eq_true q443
              have p444:0≤(x16_1:Int):=zas (taaa)
              have q444:x16_1<((rd_L2 l0 x23_2).length:Int):=zas (taaa)
              obtain ⟨ad444,e444,hx444_0⟩:=zca HR443_0.out x16_1 p444 q444
              cases e444
              replace p444:=eq_true p444
              replace q444:=eq_true q444
              go_wp2
              go_roundg k2
              case measure=>have:=HK1.out;have:=HK2.out;omega
              case rel=>exact ⟨(wrap64 (x7_2+(rd (rd_L2 l0 x23_2) x16_1))),(wrap64 (x23_2+1)),(taad),(taad),H',⟨taao⟩,taah⟩
             ·rw [if_neg c11] at H
              exact absurd H (taac)
            ·rw [if_neg c10] at H
             exact absurd H (taac)
           ·rw [if_neg c9] at H
            exact absurd H (taac)
          ·rw [if_neg c8] at H
           exact absurd H (taac)
         ·rw [if_neg c7] at H
          have c7b0:decide (x23_2<(l0.length:Int))=false:=zbj c7
          clear c7;replace H:=zay.mp H;obtain ⟨t445,A120,H⟩:=H
          replace H:(if t445=t441 then (if x7_2=t441 then (impl_equalSum.l0 k2 l0 t441 l0 (l0.length:Int) (wrap64 (x16_1+1))) else (some (0,false))) else (some (0,false)))=some (r1,r2):=H
          have A12:=zad A120;clear A120;by_cases c13:t445=t441
          ·rw [if_pos c13] at H
           have c13b0:(t445 == t441)=true:=beq_iff_eq.mpr c13
           have c13b1:(t445 != t441)=false:=bne_eq_false_iff_eq.mpr c13
           clear c13;by_cases c14:x7_2=t441
           ·rw [if_pos c14] at H
            have c14b0:(x7_2 == t441)=true:=beq_iff_eq.mpr c14
            have c14b1:(x7_2 != t441)=false:=bne_eq_false_iff_eq.mpr c14
            clear c14;have H':=zad H
            clear H;go_wp2_with (first | ((with_reducible refine zbh (f:=58) rfl ?_);refine zbn (some 35) rfl rfl Tryz.func58 (by kernel_rfl) rfl #[.slice A442_0 (rd_L2 l0 x16_1).length c442_0] rfl (taae) ?_;(with_reducible refine (impl_total.calls k2 _ _ (rd_L2 l0 x16_1) t445 _ ?side1 ?side2 A12.out).mono ?_);(case side1=>exact tafq);(case side2=>exact HC442_0.out);rintro e w' ⟨rfl,⟨nd,rfl⟩⟩;refine ⟨_,rfl,?_⟩))
            go_roundg k2
            case measure=>have:=HK1.out;have:=HK2.out;omega
            case rel=>exact ⟨(wrap64 (x16_1+1)),(taad),H',⟨taao⟩,taah⟩
           ·rw [if_neg c14] at H
            have c14b0:(x7_2 == t441)=false:=zbo.mpr c14
            have c14b1:(x7_2 != t441)=true:=bne_iff_ne.mpr c14
            simp only [zbl,zbp] at H
            obtain ⟨rfl,rfl⟩:=H
            go_wp2_with (first | ((with_reducible refine zbh (f:=58) rfl ?_);refine zbn (some 35) rfl rfl Tryz.func58 (by kernel_rfl) rfl #[.slice A442_0 (rd_L2 l0 x16_1).length c442_0] rfl (taae) ?_;(with_reducible refine (impl_total.calls k2 _ _ (rd_L2 l0 x16_1) t445 _ ?side1 ?side2 A12.out).mono ?_);(case side1=>exact tafq);(case side2=>exact HC442_0.out);rintro e w' ⟨rfl,⟨nd,rfl⟩⟩;refine ⟨_,rfl,?_⟩))
            go_ret2
            exact ⟨taad,taah⟩
          ·rw [if_neg c13] at H
           have c13b0:(t445 == t441)=false:=zbo.mpr c13
           have c13b1:(t445 != t441)=true:=bne_iff_ne.mpr c13
           simp only [zbl,zbp] at H
           obtain ⟨rfl,rfl⟩:=H
           go_wp2_with (first | ((with_reducible refine zbh (f:=58) rfl ?_);refine zbn (some 35) rfl rfl Tryz.func58 (by kernel_rfl) rfl #[.slice A442_0 (rd_L2 l0 x16_1).length c442_0] rfl (taae) ?_;(with_reducible refine (impl_total.calls k2 _ _ (rd_L2 l0 x16_1) t445 _ ?side1 ?side2 A12.out).mono ?_);(case side1=>exact tafq);(case side2=>exact HC442_0.out);rintro e w' ⟨rfl,⟨nd,rfl⟩⟩;refine ⟨_,rfl,?_⟩))
           go_ret2
           exact ⟨taad,taah⟩
      ·rw [if_neg c6] at H
       exact absurd H (taac)
     ·rw [if_neg c5] at H
      exact absurd H (taac)
    ·rw [if_neg c4] at H
     have c4b0:decide (x16_1<(l0.length:Int))=false:=zbj c4
     clear c4;simp only [zbl,zbp] at H
     obtain ⟨rfl,rfl⟩:=H
     go_wp2
     go_ret2
     exact ⟨taad,taah⟩
 ·rw [if_neg c2] at H
  exact absurd H (taac)
def impl_within.f (a0:Int) (a1:Int) (a2:Int):Option (Bool):=if a0≥a1 then (some (decide (a0≤a2))) else (some false)
theorem impl_within.calls (a0:Int) (a1:Int) (a2:Int) (r:Bool) (w:World) (h:impl_within.f a0 a1 a2=some r) :
 Calls Tryz.prog 54 #[.int .i64 a0,.int .i64 a1,.int .i64 a2] w fun e w'=>e = .returned (.bool r)∧Drawn0 w w':=by
 have H:(if a0≥a1 then (some (decide (a0≤a2))) else (some false))=some r:=h
 clear h;by_cases c4:a0≥a1
 ·rw [if_pos c4] at H
  have c4b0:decide (a1≤a0)=true:=zba c4
  clear c4;obtain rfl:=zbe H
  go_enter Tryz.func54,Tryz.ntmps54
  go_wp2
  go_ret
  exact ⟨taad,taah⟩
 ·rw [if_neg c4] at H
  have c4b0:decide (a1≤a0)=false:=zbj c4
  clear c4;obtain rfl:=zbe H
  go_enter Tryz.func54,Tryz.ntmps54
  go_wp2
  go_ret
  exact ⟨taad,taah⟩
def impl_allWithin.l0:Nat→Int→Int→List Int→Int→Int→Option (Bool)
 | 0,_,_,_,_,_=>none
 | k+1,x1,x2,x9,x10,x11=>if x11<x10 then (if 0≤x11 then (if x11<(x9.length:Int) then ((impl_within.f (rd x9 x11) x1 x2).bind fun t436=>(if t436=true then (impl_allWithin.l0 k x1 x2 x9 x10 (wrap64 (x11+1))) else (some false))) else (none)) else (none)) else (some true)
def impl_allWithin.f (k:Nat) (l0:List Int) (a1:Int) (a2:Int):Option (Bool):=impl_allWithin.l0 k a1 a2 l0 (l0.length:Int) 0
theorem impl_allWithin.calls (k:Nat) (A0:Option Addr) (c0:Nat) (l0:List Int) (a1:Int) (a2:Int) (r:Bool) (w:World) (hr0:Kd.C (Kd.int .i64) w A0 l0.length l0) (hc0:l0.length≤c0) (h:impl_allWithin.f k l0 a1 a2=some r) :
 Calls Tryz.prog 57 #[.slice A0 l0.length c0,.int .i64 a1,.int .i64 a2] w fun e w'=>e = .returned (.bool r)∧Drawn0 w w':=by
 have HR0:=zad hr0;have HC0:=zad hc0;clear hr0 hc0;have H:(impl_allWithin.l0 k a1 a2 l0 (l0.length:Int) 0)=some r:=h
 clear h;have H':=zad H
 clear H;go_enter Tryz.func57,Tryz.ntmps57
 go_wp2
 go_loopg [11] k (fun kq v11 w'=>∃ (x11_1:Int),v11 = .int .i64 x11_1∧Aside0 (impl_allWithin.l0 kq a1 a2 l0 (l0.length:Int) x11_1=some r)∧Aside0 (kq≤k)∧Drawn0 w w')
 case atStart=>exact ⟨(0),(taad),H',⟨zcf _⟩,taah⟩
 case round =>
  clear H'
  try clear p2
  obtain ⟨x11_1,rfl,HA,HK1,⟨m1,rfl⟩⟩:=hrel
  cases gk with
  | zero=>exact absurd HA.out (by simp [impl_allWithin.l0])
  | succ k1 =>
   have H:=HA.out
   clear HA;simp only [impl_allWithin.l0] at H
   by_cases c4:x11_1<(l0.length:Int)
   ·rw [if_pos c4] at H
    have c4b0:decide (x11_1<(l0.length:Int))=true:=zba c4
    clear c4;by_cases c5:0≤x11_1
    ·rw [if_pos c5] at H
     have c5b0:decide (0≤x11_1)=true:=zba c5
     clear c5;by_cases c6:x11_1<(l0.length:Int)
     ·rw [if_pos c6] at H
      have c6b0:decide (x11_1<(l0.length:Int))=true:=zba c6
      clear c6;replace H:=zay.mp H;obtain ⟨t436,A70,H⟩:=H
      replace H:(if t436=true then (impl_allWithin.l0 k1 a1 a2 l0 (l0.length:Int) (wrap64 (x11_1+1))) else (some false))=some r:=H
      have A7:=zad A70;clear A70;by_cases c8:t436=true
      ·subst c8
       have H1:(impl_allWithin.l0 k1 a1 a2 l0 (l0.length:Int) (wrap64 (x11_1+1)))=some r:=by rw [if_pos rfl] at H;exact H
       clear H;have H:=H1;clear H1;have H':=zad H
       clear H;have p435:0≤(x11_1:Int):=zas (taaa)
       have q435:x11_1<(l0.length:Int):=zas (taaa)
       obtain ⟨ad435,e435,hx435_0⟩:=zca HR0.out x11_1 p435 q435
       cases e435
       replace p435:=eq_true p435
       replace q435:=eq_true q435
       go_wp2_with (first | ((with_reducible refine zbh (f:=54) rfl ?_);refine zbn (some 18) rfl rfl Tryz.func54 (by kernel_rfl) rfl #[.int .i64 (rd l0 x11_1),.int .i64 a1,.int .i64 a2] rfl (taae) ?_;(with_reducible refine (impl_within.calls (rd l0 x11_1) a1 a2 true _ A7.out).mono ?_);rintro e w' ⟨rfl,⟨nd,rfl⟩⟩;refine ⟨_,rfl,?_⟩))
       go_roundg k1
       case measure=>have:=HK1.out;omega
       case rel=>exact ⟨(wrap64 (x11_1+1)),(taad),H',⟨taaq⟩,taah⟩
      ·replace c8:=zbi.mpr c8
       subst c8;have H1:(some false)=some r:=by rw [if_neg (show ¬ (false=true) by decide)] at H;exact H
       clear H;have H:=H1;clear H1;obtain rfl:=zbe H
       have p435:0≤(x11_1:Int):=zas (taaa)
       have q435:x11_1<(l0.length:Int):=zas (taaa)
       obtain ⟨ad435,e435,hx435_0⟩:=zca HR0.out x11_1 p435 q435
       cases e435
       replace p435:=eq_true p435
       replace q435:=eq_true q435
       go_wp2_with (first | ((with_reducible refine zbh (f:=54) rfl ?_);refine zbn (some 18) rfl rfl Tryz.func54 (by kernel_rfl) rfl #[.int .i64 (rd l0 x11_1),.int .i64 a1,.int .i64 a2] rfl (taae) ?_;(with_reducible refine (impl_within.calls (rd l0 x11_1) a1 a2 false _ A7.out).mono ?_);rintro e w' ⟨rfl,⟨nd,rfl⟩⟩;refine ⟨_,rfl,?_⟩))
       go_ret
       exact ⟨taad,taah⟩
     ·rw [if_neg c6] at H
      exact absurd H (taac)
    ·rw [if_neg c5] at H
     exact absurd H (taac)
   ·rw [if_neg c4] at H
    have c4b0:decide (x11_1<(l0.length:Int))=false:=zbj c4
    clear c4;obtain rfl:=zbe H
    go_wp2
    go_ret
    exact ⟨taad,taah⟩
def spec_l1In.f (a0:Int) (a1:Int) (a2:Int):Option (Bool):=if a0≥a1 then (some (decide (a0≤a2))) else (some false)
theorem spec_l1In.calls (a0:Int) (a1:Int) (a2:Int) (r:Bool) (w:World) (h:spec_l1In.f a0 a1 a2=some r) :
 Calls Tryz.prog 60 #[.int .i64 a0,.int .i64 a1,.int .i64 a2] w fun e w'=>e = .returned (.bool r)∧Drawn0 w w':=by
 have H:(if a0≥a1 then (some (decide (a0≤a2))) else (some false))=some r:=h
 clear h;by_cases c4:a0≥a1
 ·rw [if_pos c4] at H
  have c4b0:decide (a1≤a0)=true:=zba c4
  clear c4;obtain rfl:=zbe H
  go_enter Tryz.func60,Tryz.ntmps60
  go_wp2
  go_ret
  exact ⟨taad,taah⟩
 ·rw [if_neg c4] at H
  have c4b0:decide (a1≤a0)=false:=zbj c4
  clear c4;obtain rfl:=zbe H
  go_enter Tryz.func60,Tryz.ntmps60
  go_wp2
  go_ret
  exact ⟨taad,taah⟩
def spec_l1All.l0:Nat→Int→Int→List Int→Int→Int→Option (Bool)
 | 0,_,_,_,_,_=>none
 | k+1,x1,x2,x9,x10,x11=>if x11<x10 then (if 0≤x11 then (if x11<(x9.length:Int) then ((spec_l1In.f (rd x9 x11) x1 x2).bind fun t102=>(if t102=true then (spec_l1All.l0 k x1 x2 x9 x10 (wrap64 (x11+1))) else (some false))) else (none)) else (none)) else (some true)
def spec_l1All.f (k:Nat) (l0:List Int) (a1:Int) (a2:Int):Option (Bool):=spec_l1All.l0 k a1 a2 l0 (l0.length:Int) 0
theorem spec_l1All.calls (k:Nat) (A0:Option Addr) (c0:Nat) (l0:List Int) (a1:Int) (a2:Int) (r:Bool) (w:World) (hr0:Kd.C (Kd.int .i64) w A0 l0.length l0) (hc0:l0.length≤c0) (h:spec_l1All.f k l0 a1 a2=some r) :
 Calls Tryz.prog 59 #[.slice A0 l0.length c0,.int .i64 a1,.int .i64 a2] w fun e w'=>e = .returned (.bool r)∧Drawn0 w w':=by
 have HR0:=zad hr0;have HC0:=zad hc0;clear hr0 hc0;have H:(spec_l1All.l0 k a1 a2 l0 (l0.length:Int) 0)=some r:=h
 clear h;have H':=zad H
 clear H;go_enter Tryz.func59,Tryz.ntmps59
 go_wp2
 go_loopg [11] k (fun kq v11 w'=>∃ (x11_1:Int),v11 = .int .i64 x11_1∧Aside0 (spec_l1All.l0 kq a1 a2 l0 (l0.length:Int) x11_1=some r)∧Aside0 (kq≤k)∧Drawn0 w w')
 case atStart=>exact ⟨(0),(taad),H',⟨zcf _⟩,taah⟩
 case round =>
  clear H'
  try clear p2
  obtain ⟨x11_1,rfl,HA,HK1,⟨m1,rfl⟩⟩:=hrel
  cases gk with
  | zero=>exact absurd HA.out (by simp [spec_l1All.l0])
  | succ k1 =>
   have H:=HA.out
   clear HA;simp only [spec_l1All.l0] at H
   by_cases c4:x11_1<(l0.length:Int)
   ·rw [if_pos c4] at H
    have c4b0:decide (x11_1<(l0.length:Int))=true:=zba c4
    clear c4;by_cases c5:0≤x11_1
    ·rw [if_pos c5] at H
     have c5b0:decide (0≤x11_1)=true:=zba c5
     clear c5;by_cases c6:x11_1<(l0.length:Int)
     ·rw [if_pos c6] at H
      have c6b0:decide (x11_1<(l0.length:Int))=true:=zba c6
      clear c6;replace H:=zay.mp H;obtain ⟨t102,A70,H⟩:=H
      replace H:(if t102=true then (spec_l1All.l0 k1 a1 a2 l0 (l0.length:Int) (wrap64 (x11_1+1))) else (some false))=some r:=H
      have A7:=zad A70;clear A70;by_cases c8:t102=true
      ·subst c8
       have H1:(spec_l1All.l0 k1 a1 a2 l0 (l0.length:Int) (wrap64 (x11_1+1)))=some r:=by rw [if_pos rfl] at H;exact H
       clear H;have H:=H1;clear H1;have H':=zad H
       clear H;have p101:0≤(x11_1:Int):=zas (taaa)
       have q101:x11_1<(l0.length:Int):=zas (taaa)
       obtain ⟨ad101,e101,hx101_0⟩:=zca HR0.out x11_1 p101 q101
       cases e101
       replace p101:=eq_true p101
       replace q101:=eq_true q101
       go_wp2_with (first | ((with_reducible refine zbh (f:=60) rfl ?_);refine zbn (some 18) rfl rfl Tryz.func60 (by kernel_rfl) rfl #[.int .i64 (rd l0 x11_1),.int .i64 a1,.int .i64 a2] rfl (taae) ?_;(with_reducible refine (spec_l1In.calls (rd l0 x11_1) a1 a2 true _ A7.out).mono ?_);rintro e w' ⟨rfl,⟨nd,rfl⟩⟩;refine ⟨_,rfl,?_⟩))
       go_roundg k1
       case measure=>have:=HK1.out;omega
       case rel=>exact ⟨(wrap64 (x11_1+1)),(taad),H',⟨taaq⟩,taah⟩
      ·replace c8:=zbi.mpr c8
       subst c8;have H1:(some false)=some r:=by rw [if_neg (show ¬ (false=true) by decide)] at H;exact H
       clear H;have H:=H1;clear H1;obtain rfl:=zbe H
       have p101:0≤(x11_1:Int):=zas (taaa)
       have q101:x11_1<(l0.length:Int):=zas (taaa)
       obtain ⟨ad101,e101,hx101_0⟩:=zca HR0.out x11_1 p101 q101
       cases e101
       replace p101:=eq_true p101
       replace q101:=eq_true q101
       go_wp2_with (first | ((with_reducible refine zbh (f:=60) rfl ?_);refine zbn (some 18) rfl rfl Tryz.func60 (by kernel_rfl) rfl #[.int .i64 (rd l0 x11_1),.int .i64 a1,.int .i64 a2] rfl (taae) ?_;(with_reducible refine (spec_l1In.calls (rd l0 x11_1) a1 a2 false _ A7.out).mono ?_);rintro e w' ⟨rfl,⟨nd,rfl⟩⟩;refine ⟨_,rfl,?_⟩))
       go_ret
       exact ⟨taad,taah⟩
     ·rw [if_neg c6] at H
      exact absurd H (taac)
    ·rw [if_neg c5] at H
     exact absurd H (taac)
   ·rw [if_neg c4] at H
    have c4b0:decide (x11_1<(l0.length:Int))=false:=zbj c4
    clear c4;obtain rfl:=zbe H
    go_wp2
    go_ret
    exact ⟨taad,taah⟩
theorem w64 {x:Int} (h1 : -9223372036854775808≤x) (h2:x≤9223372036854775807):wrap64 x=x:=by
 unfold wrap64
 omega
theorem wsucc {i:Nat} {n:Nat} (h:i<n) (hn:n≤9223372036854775807):wrap64 ((i:Int)+1)=((i+1:Nat):Int):=by
 rw [w64 (by omega) (by omega)]
 omega
theorem rdn {xs:List Int} {i:Nat} (h:i<xs.length):rd xs (i:Int)=xs[i]:=by
 simp [rd,h]
theorem Ev.succ {α:Type} {g:Nat→Option α} {r:α} (h:Ev (fun k=>g (k+1)) r):Ev g r:=Ev.step (fun _=>rfl) h
theorem Ev.get {α:Type} {g:Nat→Option α} {r:α} (h:Ev g r):∃ k,g k=some r:=Ev.rounds h
theorem Ev.ite {α:Type} {c:Prop} [Decidable c] {g f:Nat→Option α} {r s:α} (h:c→Ev g r) (h':¬ c→Ev f s):Ev (fun k=>if c then g k else f k) (if c then r else s):=by
 by_cases hc:c
 ·simp only [hc,if_true]
  exact h hc
 ·simp only [hc,if_false]
  exact h' hc
theorem ev_all {xs:List Int} {g:Nat→Int→Option Bool} (p:Int→Bool) (hend:Ev (fun k=>g k (xs.length:Int)) true)
 (hyes:∀ (i:Nat) (h:i<xs.length) r,p xs[i]=true→Ev (fun k=>g k ((i+1:Nat):Int)) r→Ev (fun k=>g k (i:Int)) r)
 (hno:∀ (i:Nat) (h:i<xs.length),p xs[i]=false→Ev (fun k=>g k (i:Int)) false) :
 ∀ (n i:Nat),i+n=xs.length→Ev (fun k=>g k (i:Int)) ((xs.drop i).all p)
 | 0,i,h=>by
  rw [List.drop_eq_nil_of_le (by omega),show i=xs.length by omega]
  exact hend
 | n+1,i,h=>by
  have hi:i<xs.length:=by omega
  rw [List.drop_eq_getElem_cons hi,List.all_cons]
  cases hp:p xs[i]
  ·exact hno i hi hp
  ·rw [Bool.true_and]
   exact hyes i hi _ hp (ev_all p hend hyes hno n (i+1) (by omega))
theorem ev_fold {σ ρ:Type} {xs:List Int} {g:Nat→σ→Int→Option ρ} (step:σ→Int→σ) (I:σ→Nat→Prop) (fin:σ→ρ)
 (hend:∀ s,I s xs.length→Ev (fun k=>g k s (xs.length:Int)) (fin s))
 (hstep:∀ (i:Nat) (h:i<xs.length) s r,I s i→I (step s xs[i]) (i+1)→Ev (fun k=>g k (step s xs[i]) ((i+1:Nat):Int)) r→Ev (fun k=>g k s (i:Int)) r)
 (hI:∀ (i:Nat) (h:i<xs.length) s,I s i→I (step s xs[i]) (i+1)) :
 ∀ (n i:Nat) (s:σ),i+n=xs.length→I s i→Ev (fun k=>g k s (i:Int)) (fin ((xs.drop i).foldl step s))
 | 0,i,s,h,hs=>by
  have e:i=xs.length:=by omega
  subst e;rw [List.drop_eq_nil_of_le (by omega)]
  exact hend s hs
 | n+1,i,s,h,hs=>by
  have hi:i<xs.length:=by omega
  rw [List.drop_eq_getElem_cons hi,List.foldl_cons]
  exact hstep i hi s _ hs (hI i hi s hs) (ev_fold step I fin hend hstep hI n (i+1) _ (by omega) (hI i hi s hs))
theorem rdi {xs:List Int} {i:Int} (h0:0≤i) (h1:i<xs.length):rd xs i=xs[i.toNat]'(by omega):=by
 unfold rd
 rw [List.getD_eq_getElem?_getD,List.getElem?_eq_getElem (by omega)]
 rfl
theorem l1In_eq (a b c:Int):spec_l1In.f a b c=some (decide (b≤a∧a≤c)):=by
 unfold spec_l1In.f
 by_cases h:b≤a <;> simp [h]
theorem within_eq (a b c:Int):impl_within.f a b c=some (decide (b≤a∧a≤c)):=by
 unfold impl_within.f
 by_cases h:b≤a <;> simp [h]
def inR (lo hi:Int) (xs:List Int):Bool:=xs.all fun x=>decide (lo≤x∧x≤hi)
theorem l1All_ev (xs:List Int) (lo hi:Int) (hx:xs.length≤9223372036854775807):Ev (fun k=>spec_l1All.f k xs lo hi) (inR lo hi xs):=by
 have h:=ev_all (xs:=xs) (g:=fun k i=>spec_l1All.l0 k lo hi xs (xs.length:Int) i) (fun x=>decide (lo≤x∧x≤hi))
  (Ev.succ (by simp only [spec_l1All.l0,if_neg (Int.lt_irrefl _)];exact Ev.now _))
  (fun i h r hp hr=>Ev.succ (by
   simp only [spec_l1All.l0,if_pos (show (i:Int)<(xs.length:Int) by omega),if_pos (show (0:Int)≤(i:Int) by omega),rdn h,l1In_eq,zbd,hp,if_true,wsucc h hx]
   exact hr))
  (fun i h hp=>Ev.succ (by
   simp only [spec_l1All.l0,if_pos (show (i:Int)<(xs.length:Int) by omega),if_pos (show (0:Int)≤(i:Int) by omega),rdn h,l1In_eq,zbd,hp]
   exact Ev.now _)) xs.length 0 (by omega)
 exact h
theorem allWithin_ev (xs:List Int) (lo hi:Int) (hx:xs.length≤9223372036854775807):Ev (fun k=>impl_allWithin.f k xs lo hi) (inR lo hi xs):=by
 have h:=ev_all (xs:=xs) (g:=fun k i=>impl_allWithin.l0 k lo hi xs (xs.length:Int) i) (fun x=>decide (lo≤x∧x≤hi))
  (Ev.succ (by simp only [impl_allWithin.l0,if_neg (Int.lt_irrefl _)];exact Ev.now _))
  (fun i h r hp hr=>Ev.succ (by
   simp only [impl_allWithin.l0,if_pos (show (i:Int)<(xs.length:Int) by omega),if_pos (show (0:Int)≤(i:Int) by omega),rdn h,within_eq,zbd,hp,if_true,wsucc h hx]
   exact hr))
  (fun i h hp=>Ev.succ (by
   simp only [impl_allWithin.l0,if_pos (show (i:Int)<(xs.length:Int) by omega),if_pos (show (0:Int)≤(i:Int) by omega),rdn h,within_eq,zbd,hp]
   exact Ev.now _)) xs.length 0 (by omega)
 exact h
section
open Go.Shelf Go.Lib
theorem anyIdx {P:Program} {ρ:Ren} (L:SlLaysH.n6 P ρ) (ad:Addr) (n c:Nat) (vs:Nat→Value) (ps:Nat→Bool) (g:Nat) (lb:Array Value) (w:World) (eg:∀ args w,(callFunc g args).run P w = .ok (.enter g args) w) (hbig:n≤9223372036854775807)
 (hcell:∀ j,j<n→w.cell? (ad.add j)=some (vs j)) (hcall:∀ j,j<n→∀ q,Calls P g (#[vs j] ++ lb) (w.drewN q) fun e w'=>e = .returned (.bool (ps j))∧∃ q',w'=(w.drewN q).drewN q') :
 Calls P (ρ.f 6) #[.slice (some ad) n c,.func (.func g) #[] lb] w fun e w'=>∃ i:Int,e = .returned (.int .i64 i)∧(0≤i↔∃ j,j<n∧ps j=true)∧∃ q,w'=w.drewN q:=by
 have mixed:=L.mixed;have t0:=L.t0;have a0:=L.a0;have z0:=L.z0;have v0:=L.v0;have t3:=L.t3;have a3:=L.a3;have z3:=L.z3;have v3:=L.v3;have t4:=L.t4;have a4:=L.a4;have z4:=L.z4;have v4:=L.v4;have t22:=L.t22;have a22:=L.a22;have z22:=L.z22;have v22:=L.v22;have a23:=L.a23;have z23:=L.z23;have t25:=L.t25;have a25:=L.a25;have z25:=L.z25;have v25:=L.v25
 have HC:=zad hcell;have HF:=zad hcall;clear hcell hcall;obtain ⟨_,_,FG⟩:=L.f6
 go_enter FG,SlBodyH.n6_ntmps ρ
 go_wp2
 go_loopg [5,8] n (fun gg _ s8 wr=>∃ kk q:Nat,kk≤n∧n - kk≤gg∧s8 = .int .i64 kk∧wr=w.drewN q∧Aside0 (∀ j,j<kk→ps j=false))
 case atStart=>exact ⟨0,0,Nat.zero_le _,by omega,rfl,rfl,⟨fun j hj=>absurd hj (Nat.not_lt_zero _)⟩⟩
 case round =>
  obtain ⟨kk,q,hkk,hg,rfl,rfl,HA⟩:=hrel
  by_cases hlt:kk<n
  ·have hltz:(kk:Int)<(n:Int):=by omega
   have hce:=HC.out kk hlt
   have hca:=HF.out kk hlt
   generalize vs kk=v at hce hca
   cases hq:ps kk with
   | true =>
    rw [hq] at hca
    go_wp2_with (go_at_fn g;refine (hca _).mono ?_;rintro e w' ⟨rfl,q',rfl⟩)
    go_ret
    exact ⟨_,rfl,⟨fun _=>⟨kk,hlt,hq⟩,fun _=>by omega⟩,_,rfl⟩
   | false =>
    rw [hq] at hca
    go_wp2_with (go_at_fn g;refine (hca _).mono ?_;rintro e w' ⟨rfl,q',rfl⟩)
    go_roundg (n - (kk+1))
    case measure=>omega
    case rel =>
     refine ⟨kk+1,_,by omega,by omega,by go_num,rfl,⟨fun j hj => ?_⟩⟩
     by_cases e:j=kk
     ·subst e
      exact hq
     ·exact HA.out j (by omega)
  ·have hltz:¬ (kk:Int)<(n:Int):=by omega
   have:kk=n:=by omega
   subst this;go_wp2
   go_ret
   refine ⟨_,rfl,⟨fun h=>absurd h (by decide),?_⟩,q,rfl⟩
   rintro ⟨j,hj,hp⟩
   rw [HA.out j hj] at hp
   cases hp
theorem anyHas {P:Program} {ρ:Ren} (L:SlLaysH.n8 P ρ) (ad:Addr) (n c:Nat) (vs:Nat→Value) (ps:Nat→Bool) (g:Nat) (lb:Array Value) (w:World) (eg:∀ args w,(callFunc g args).run P w = .ok (.enter g args) w) (hbig:n≤9223372036854775807)
 (hcell:∀ j,j<n→w.cell? (ad.add j)=some (vs j)) (hcall:∀ j,j<n→∀ q,Calls P g (#[vs j] ++ lb) (w.drewN q) fun e w'=>e = .returned (.bool (ps j))∧∃ q',w'=(w.drewN q).drewN q') :
 Calls P (ρ.f 8) #[.slice (some ad) n c,.func (.func g) #[] lb] w fun e w'=>∃ r:Bool,e = .returned (.bool r)∧(r=true↔∃ j,j<n∧ps j=true)∧∃ q,w'=w.drewN q:=by
 have mixed:=L.mixed;have t0:=L.t0;have a0:=L.a0;have z0:=L.z0;have v0:=L.v0;have t3:=L.t3;have a3:=L.a3;have z3:=L.z3;have v3:=L.v3;have t4:=L.t4;have a4:=L.a4;have z4:=L.z4;have v4:=L.v4;have t22:=L.t22;have a22:=L.a22;have z22:=L.z22;have v22:=L.v22;have a23:=L.a23;have z23:=L.z23;have t25:=L.t25;have a25:=L.a25;have z25:=L.z25;have v25:=L.v25
 have e6:∀ args w,(callFunc (ρ.f 6) args).run P w = .ok (.enter (ρ.f 6) args) w:=L.f6.enters rfl
 have HC:=zad hcell;have HF:=zad hcall;clear hcell hcall;obtain ⟨_,_,FG⟩:=L.f8
 go_enter FG,SlBodyH.n8_ntmps ρ
 go_wp2_with (go_at_fn (ρ.f 6);refine (anyIdx { L with } ad n c vs ps g lb _ eg hbig HC.out HF.out).mono ?_;rintro e w' ⟨i,rfl,hi,q,rfl⟩)
 go_ret
 exact ⟨_,rfl,decide_eq_true_iff,q,rfl⟩
end
end Go.Proofs.YtmfpgimblifleaaGreat.A
/-
 DERIVED: THE SHELF's CONTRACTS AT THIS DUMP,IN PLAIN WORDS (tools/lay-plain.mjs out of 'YtmfpgimblifleaaGreatShelfH.lean',which tools/lay-shelf.mjs wrote): THE SAME DECLARATIONS UNDER THE SAME NAMES: 'import','namespace','open','def','theorem' AND NOTHING ELSE: no command of the shelf's: FOR A HAND-IN. Each laying: the table of numbers ('.._ren') and one theorem,a field a fact of the dump's own or the kernel's comparison;each contract: ONE APPLICATION.
-/
namespace Go.Proofs
open Go.Shelf
def Tryz.hasL_ren:Go.Shelf.Ren:=⟨fun | 8=>55 | 6=>77 | n=>n,fun | 22=>24 | 23=>25 | 25=>50 | 4=>4 | 3=>3 | 0=>0 | n=>n,fun | n=>n⟩
theorem Tryz.hasL:Go.Proofs.SlLaysH.n8 Tryz.prog Tryz.hasL_ren:={
 mixed:=by kernel_rfl
 f6:=⟨Tryz.f77.name,by decide,Tryz.func77.trans (congrArg some (by kernel_rfl))⟩
 f8:=⟨Tryz.f55.name,by decide,Tryz.func55.trans (congrArg some (by kernel_rfl))⟩
 t0:=Tryz.underlying0
 a0:=Tryz.isAgg0
 z0:=Tryz.sizeOf0
 v0:=Tryz.zeroValue0
 t3:=Tryz.underlying3
 a3:=Tryz.isAgg3
 z3:=Tryz.sizeOf3
 v3:=Tryz.zeroValue3
 t4:=Tryz.underlying4
 a4:=Tryz.isAgg4
 z4:=Tryz.sizeOf4
 v4:=Tryz.zeroValue4
 t22:=Tryz.underlying24
 a22:=Tryz.isAgg24
 z22:=Tryz.sizeOf24
 v22:=Tryz.zeroValue24
 a23:=Tryz.isAgg25
 z23:=Tryz.sizeOf25
 t25:=Tryz.underlying50
 a25:=Tryz.isAgg50
 z25:=Tryz.sizeOf50
 v25:=Tryz.zeroValue50 }
end Go.Proofs

namespace Go.Proofs.YtmfpgimblifleaaGreat.A
open Go.RowKit Go.Proofs.YtmfpgimblifleaaGreatW.PrintWords Go.Proofs.YtmfpgimblifleaaGreatW.PrintLast Go.Proofs.YtmfpgimblifleaaGreatW.PrintMore
attribute [local go_sem] max2_int min2_int max_two min_two max_three min_three max_four min_four
section
open Go.Shelf Go.Lib
def rowB (n:Nat) (x:List Int):Bool:=decide ((x.length:Int)=(n:Int)) && inR 0 1000000 x
def squareB (l0:List (List Int)):Bool:=decide ((1:Int)≤l0.length∧(l0.length:Int)≤6) && l0.all (rowB l0.length)
def impl_IsSquare.f (l0:List (List Int)):Option Bool:=if (l0.all fun x=>decide (x.length≤1048576))=true∧l0.length≤1048576 then some (squareB l0) else none
theorem sq_row (ad:Option Addr) (B:Nat) (n:Nat) (A0:Option Addr) (c0 cx:Nat) (x:List Int) (W:World) (hx:x.length≤1048576) (hB:W.cell? ⟨B,0,none⟩=some (.slice A0 n c0)) (hr:Kd.C (Kd.int .i64) W ad x.length x) (hc:x.length≤cx) :
 Calls Tryz.prog 56 #[.slice ad x.length cx,.pointer (some ⟨B,0,none⟩)] W fun e w'=>e = .returned (.bool (!rowB n x))∧∃ q,w'=W.drewN q:=by
 obtain ⟨k,hk⟩:=Ev.get (allWithin_ev x 0 1000000 (by omega))
 have HR:=zad hr;have HC:=zad hc;have HK:=zad hk;clear hr hc hk;have hdef:rowB n x=(decide ((x.length:Int)=(n:Int)) && inR 0 1000000 x):=rfl
 rw [hdef]
 have HX:=zad hx;clear hdef hx;by_cases h:(x.length:Int)=(n:Int)
 ·have h1:((x.length:Int) != (n:Int))=false:=bne_eq_false_iff_eq.mpr h
  rw [zba h]
  have HH:=zad h;clear h;go_enter Tryz.func56,Tryz.ntmps56
  go_wp2_with (go_at_call 57;refine (impl_allWithin.calls k _ _ x 0 1000000 _ _ ?side1 ?side2 HK.out).mono ?_;(case side1=>repeat (first | exact HR.out | (with_reducible refine zal ?_ _) | (with_reducible refine zam ?_ _) | (with_reducible refine zan ?_)));(case side2=>exact HC.out);rintro e w' ⟨rfl,⟨nd,rfl⟩⟩)
  go_ret
  exact ⟨taac,_,rfl⟩
 ·have h1:((x.length:Int) != (n:Int))=true:=bne_iff_ne.mpr h
  rw [zbj h]
  have HH:=zad h;clear h;go_enter Tryz.func56,Tryz.ntmps56
  go_wp2
  go_ret
  exact ⟨taac,0,rfl⟩
theorem rowsAt {w:World} {ad:Addr} {l0:List (List Int)} (hr0:Kd.C (Kd.slice 3 (Kd.int .i64)) w (some ad) l0.length l0):∃ vs:Nat→Value,∀ j,j<l0.length→w.cell? (ad.add j)=some (vs j)∧∃ A c,vs j = .slice A (l0.getD j []).length c∧(l0.getD j []).length≤c∧Kd.C (Kd.int .i64) w A (l0.getD j []).length (l0.getD j []):=by
 have hrows:∀ j,j<l0.length→∃ v:Value,w.cell? (ad.add j)=some v∧∃ A c,v = .slice A (l0.getD j []).length c∧(l0.getD j []).length≤c∧Kd.C (Kd.int .i64) w A (l0.getD j []).length (l0.getD j []):=fun j hj=>by
  obtain ⟨ad',A,c,he,hcell,hle,hC⟩:=at_L2 hr0 (j:Int) (by omega) (by omega)
  cases he
  exact ⟨_,hcell,A,c,rfl,hle,hC⟩
 exact ⟨fun j=>if h:j<l0.length then Classical.choose (hrows j h) else .bool false,fun j h=>by
  simp only [dif_pos h]
  exact Classical.choose_spec (hrows j h)⟩
theorem impl_IsSquare.calls (A0:Option Addr) (c0:Nat) (l0:List (List Int)) (r:Bool) (w:World) (hr0:Kd.C (Kd.slice 3 (Kd.int .i64)) w A0 l0.length l0) (hc0:l0.length≤c0) (h:impl_IsSquare.f l0=some r) :
 Calls Tryz.prog 20 #[.slice A0 l0.length c0] w fun e w'=>e = .returned (.bool r)∧Below w.heap.size w w':=by
 unfold impl_IsSquare.f at h
 split at h
 next hb =>
  have hr:=zbe h;clear h;obtain ⟨hb1,hb2⟩:=hb
  have HW:=zad (within_eq (l0.length:Int) 1 6)
  by_cases hw:(1:Int)≤l0.length∧(l0.length:Int)≤6
  ·obtain ⟨ad,_,_,hA,_⟩:=at_L2 hr0 0 (by omega) (by omega)
   subst hA;obtain ⟨vs,hvs⟩:=rowsAt hr0
   have eg:∀ args w,(callFunc 56 args).run Tryz.prog w = .ok (.enter 56 args) w:=enters_of Tryz.func56 (by kernel_rfl) rfl
   have hcon:=fun q=>anyHas Tryz.hasL ad l0.length c0 vs (fun j => !rowB l0.length (l0.getD j [])) 56 #[.pointer (some ⟨w.heap.size,0,none⟩)] ((w.alloc (.cells #[.slice (some ad) l0.length c0] 24)).drewN q) eg (by omega)
    (fun j hj=>pw_cell_below (zae (zag (Below.refl _ _) _) q) (hvs j hj).1)
    (fun j hj q'=>by
     obtain ⟨A,c,hv,hle,hC⟩:=(hvs j hj).2
     rw [hv]
     have hm:l0.getD j [] ∈ l0:=by
      rw [List.getD_eq_getElem?_getD,List.getElem?_eq_getElem hj]
      exact List.getElem_mem hj
     have hx:(l0.getD j []).length≤1048576:=by simpa using List.all_eq_true.1 hb1 _ hm
     exact sq_row A w.heap.size l0.length (some ad) c0 c (l0.getD j []) _ hx (by show (w.alloc (.cells #[.slice (some ad) l0.length c0] 24)).cell? ⟨w.heap.size,0,none⟩=_;simp) (Kd.C_below hC (zae (zae (zag (Below.refl _ _) _) q) q')) hle)
   have HCON:=zad (show ∀ q,Calls Tryz.prog 55 #[.slice (some ad) l0.length c0,.func (.func 56) #[] #[.pointer (some ⟨w.heap.size,0,none⟩)]] ((w.alloc (.cells #[.slice (some ad) l0.length c0] 24)).drewN q) (fun e w'=>∃ r:Bool,e = .returned (.bool r)∧(r=true↔∃ j,j<l0.length∧(!rowB l0.length (l0.getD j []))=true)∧∃ q',w'=((w.alloc (.cells #[.slice (some ad) l0.length c0] 24)).drewN q).drewN q') from hcon)
   have HD:=zad (show impl_within.f (l0.length:Int) 1 6=some true by rw [HW.out,zba hw])
   have HR:=zad hr;have HL:=zad hb2;have HX:=zad hw;clear hcon hvs eg hr hb1 hb2 hw hr0 hc0;go_enter Tryz.func20,Tryz.ntmps20
   go_wp2_with (first | (go_at_call 54;refine (impl_within.calls (l0.length:Int) 1 6 true _ HD.out).mono ?_;rintro e w' ⟨rfl,⟨nd,rfl⟩⟩) | (go_at_call 55;refine (HCON.out _).mono ?_;rintro e w' ⟨rb,rfl,hi,q,rfl⟩;have HI:=zad hi;clear hi))
   go_ret
   refine ⟨?_,tabh⟩
   have e:(!rb)=r:=by
    rw [← HR.out]
    unfold squareB
    rw [zba HX.out,Bool.true_and,Bool.eq_iff_iff,Bool.not_eq_true',List.all_eq_true]
    constructor
    ·intro hf x hx
     obtain ⟨j,hj,rfl⟩:=List.mem_iff_getElem.1 hx
     cases hq:rowB l0.length l0[j] with
     | true=>rfl
     | false =>
      have:rb=true:=HI.out.2 ⟨j,hj,by rw [List.getD_eq_getElem?_getD,List.getElem?_eq_getElem hj];simp [hq]⟩
      rw [this] at hf
      cases hf
    ·intro ha
     cases hrb:rb with
     | false=>rfl
     | true =>
      obtain ⟨j,hj,hn⟩:=HI.out.1 hrb
      have:=ha _ (List.getElem_mem hj)
      rw [List.getD_eq_getElem?_getD,List.getElem?_eq_getElem hj] at hn
      simp [this] at hn
   rw [← e]
   rfl
  ·have HD:=zad (show impl_within.f (l0.length:Int) 1 6=some false by rw [HW.out,zbj hw])
   have e:r=false:=by
    rw [← hr]
    unfold squareB
    rw [zbj hw,Bool.false_and]
   subst e;clear hr hb1 hw hr0 hc0 HW;go_enter Tryz.func20,Tryz.ntmps20
   go_wp2_with (go_at_call 54;refine (impl_within.calls (l0.length:Int) 1 6 false _ HD.out).mono ?_;rintro e w' ⟨rfl,⟨nd,rfl⟩⟩)
   go_ret
   exact ⟨rfl,tabh⟩
 next=>cases h
end
def impl_EqualSum.f (k:Nat) (l0:List (List Int)):Option (Int × Bool):=(impl_IsSquare.f l0).bind fun t542=>(if t542=true then ((impl_equalSum.f k l0).bind fun bt543=>(some (bt543.1,bt543.2))) else (some (0,false)))
theorem impl_EqualSum.calls (k:Nat) (A0:Option Addr) (c0:Nat) (l0:List (List Int)) (r1:Int) (r2:Bool) (w:World) (hr0:Kd.C (Kd.slice 3 (Kd.int .i64)) w A0 l0.length l0) (hc0:l0.length≤c0) (h:impl_EqualSum.f k l0=some (r1,r2)) :
 Calls Tryz.prog 14 #[.slice A0 l0.length c0] w fun e w'=>e = .returned (.tuple #[.int .i64 r1,.bool r2])∧Below w.heap.size w w':=by
 have HR0:=zad hr0;have HC0:=zad hc0;clear hr0 hc0;have HB:=zad (Below.refl w.heap.size w)
 have H:((impl_IsSquare.f l0).bind fun t542=>(if t542=true then ((impl_equalSum.f k l0).bind fun bt543=>(some (bt543.1,bt543.2))) else (some (0,false))))=some (r1,r2):=h
 clear h;replace H:=zay.mp H;obtain ⟨t542,A20,H⟩:=H
 replace H:(if t542=true then ((impl_equalSum.f k l0).bind fun bt543=>(some (bt543.1,bt543.2))) else (some (0,false)))=some (r1,r2):=H
 have A2:=zad A20;clear A20;by_cases c3:t542=true
 ·subst c3
  have H1:((impl_equalSum.f k l0).bind fun bt543=>(some (bt543.1,bt543.2)))=some (r1,r2):=by rw [if_pos rfl] at H;exact H
  clear H;have H:=H1;clear H1;replace H:=zay.mp H;obtain ⟨⟨t543,t544⟩,A40,H⟩:=H
  replace H:(some (t543,t544))=some (r1,r2):=H
  have A4:=zad A40;clear A40;simp only [zbl,zbp] at H
  obtain ⟨rfl,rfl⟩:=H
  go_enter Tryz.func14,Tryz.ntmps14
  go_wp2_with (first | ((with_reducible refine zbh (f:=20) rfl ?_);refine zbn (some 5) rfl rfl Tryz.func20 (by kernel_rfl) rfl #[.slice A0 l0.length c0] rfl (taae) ?_;(with_reducible refine (impl_IsSquare.calls _ _ l0 true _ ?side1 ?side2 A2.out).mono ?_);(case side1=>repeat (first | exact HR0.out | (with_reducible refine zal ?_ _) | (with_reducible refine zam ?_ _) | (with_reducible refine zan ?_)));(case side2=>exact HC0.out);rintro e w5 ⟨rfl,hb⟩;refine ⟨_,rfl,?_⟩;have n0_:=zad (zbg (taab) hb);clear HB;have HB:=n0_;clear n0_;(try clear hb);(try clear hb2);(try clear hk);(try clear hi)) | ((with_reducible refine zbh (f:=22) rfl ?_);refine zbn (some 8) rfl rfl Tryz.func22 (by kernel_rfl) rfl #[.slice A0 l0.length c0] rfl (taae) ?_;(with_reducible refine (impl_equalSum.calls k _ _ l0 t543 t544 _ ?side1 ?side2 A4.out).mono ?_);(case side1=>repeat (first | exact (Kd.C_below HR0.out HB.out) | (with_reducible refine zal ?_ _) | (with_reducible refine zam ?_ _) | (with_reducible refine zan ?_)));(case side2=>exact HC0.out);rintro e w' ⟨rfl,⟨nd,rfl⟩⟩;refine ⟨_,rfl,?_⟩))
  go_ret2
  exact ⟨taai,taab⟩
 ·replace c3:=zbi.mpr c3
  subst c3;have H1:(some (0,false))=some (r1,r2):=by rw [if_neg (show ¬ (false=true) by decide)] at H;exact H
  clear H;have H:=H1;clear H1;simp only [zbl,zbp] at H
  obtain ⟨rfl,rfl⟩:=H
  go_enter Tryz.func14,Tryz.ntmps14
  go_wp2_with (first | ((with_reducible refine zbh (f:=20) rfl ?_);refine zbn (some 5) rfl rfl Tryz.func20 (by kernel_rfl) rfl #[.slice A0 l0.length c0] rfl (taae) ?_;(with_reducible refine (impl_IsSquare.calls _ _ l0 false _ ?side1 ?side2 A2.out).mono ?_);(case side1=>exact tafl);(case side2=>exact HC0.out);rintro e w6 ⟨rfl,hb⟩;refine ⟨_,rfl,?_⟩;have n0_:=zad (zbg (taab) hb);clear HB;have HB:=n0_;clear n0_;(try clear hb);(try clear hb2);(try clear hk);(try clear hi)))
  go_ret2
  exact ⟨taai,taab⟩
def laws_big.f (l0:List Int) (l1:List Int):Option (Bool):=if (l0.length:Int)>1048576 then (some true) else (some (decide ((l1.length:Int)>(wrap64 (1048576 - (l0.length:Int))))))
theorem laws_big.calls (A0:Option Addr) (c0:Nat) (l0:List Int) (A1:Option Addr) (c1:Nat) (l1:List Int) (r:Bool) (w:World) (hr0:Kd.C (Kd.int .u8) w A0 l0.length l0) (hc0:l0.length≤c0) (hr1:Kd.C (Kd.int .u8) w A1 l1.length l1) (hc1:l1.length≤c1) (h:laws_big.f l0 l1=some r) :
 Calls Tryz.prog 4 #[.slice A0 l0.length c0,.slice A1 l1.length c1] w fun e w'=>e = .returned (.bool r)∧Drawn0 w w':=by
 have HR0:=zad hr0;have HC0:=zad hc0;clear hr0 hc0;have HR1:=zad hr1;have HC1:=zad hc1;clear hr1 hc1;have H:(if (l0.length:Int)>1048576 then (some true) else (some (decide ((l1.length:Int)>(wrap64 (1048576 - (l0.length:Int)))))))=some r:=h
 clear h;by_cases c3:(l0.length:Int)>1048576
 ·rw [if_pos c3] at H
  have c3b0:decide (1048576<(l0.length:Int))=true:=zba c3
  have c3b1:decide (1048576<l0.length)=true:=zba (by omega)
  clear c3;obtain rfl:=zbe H
  go_enter Tryz.func4,Tryz.ntmps4
  go_wp2
  go_ret
  exact ⟨taad,taah⟩
 ·rw [if_neg c3] at H
  have c3b0:decide (1048576<(l0.length:Int))=false:=zbj c3
  have c3b1:decide (1048576<l0.length)=false:=zbj (by omega)
  clear c3;obtain rfl:=zbe H
  go_enter Tryz.func4,Tryz.ntmps4
  go_wp2
  go_ret
  exact ⟨taad,taah⟩
def spec_l1Cur_side.f (s0_0:List Int) (s0_1:Int) (s0_2:Int):Option (Int × Int × Int):=(spec_l1Cur_among.f s0_0 s0_1 s0_2 (([1,2,3,3,3,4,4,6]:List Int))).bind fun bt258=>(some (bt258.1,bt258.2.1,bt258.2.2))
theorem spec_l1Cur_side.calls (g:Nat) (s0_0:List Int) (s0_1:Int) (s0_2:Int) (r1:Int) (r2:Int) (r3:Int) (w0 w:World) (hI:IsS43 w0 w g s0_0 s0_1 s0_2) (hB:Below w0.heap.size w0 w) (h:spec_l1Cur_side.f s0_0 s0_1 s0_2=some (r1,r2,r3)) :
 Calls Tryz.prog 49 #[.pointer (some ⟨g,0,none⟩)] w fun e w'=>e = .returned (.int .i64 r1)∧IsS43 w0 w' g s0_0 r2 r3∧Below w0.heap.size w0 w'∧KeepBut w w' g none:=by
 have HI0:=zad hI;have HK:=zad (KeepBut.refl w g none)
 have HL:=zad hB.size;clear hI;have HW0:=zad hB.size;have HB:=zad hB;clear hB;have H:((spec_l1Cur_among.f s0_0 s0_1 s0_2 (([1,2,3,3,3,4,4,6]:List Int))).bind fun bt258=>(some (bt258.1,bt258.2.1,bt258.2.2)))=some (r1,r2,r3):=h
 clear h;obtain ⟨y255,hy255⟩:∃ y_:List Int,y_=(([1,2,3,3,3,4,4,6]:List Int)):=⟨_,rfl⟩
 replace H:((spec_l1Cur_among.f s0_0 s0_1 s0_2 y255).bind fun bt258=>(some (bt258.1,bt258.2.1,bt258.2.2)))=some (r1,r2,r3):=by first | (rw [hy255];with_reducible exact H) | (have H2_:=(zbd _ _).symm.trans H;rw [hy255];with_reducible exact H2_) | (have H2_:=(zbd _ _).symm.trans H;with_reducible exact H2_) | with_reducible exact H | (rw [hy255];exact H) | exact H
 have Ny255:=zad hy255;clear hy255;replace H:=zay.mp H;obtain ⟨⟨t258,t259,t260⟩,A20,H⟩:=H
 replace H:(some (t258,t259,t260))=some (r1,r2,r3):=H
 have A2:=zad A20;clear A20;simp only [zbl,zbp] at H
 obtain ⟨rfl,rfl,rfl⟩:=H
 go_enter Tryz.func49,Tryz.ntmps49
 go_wp2_with (first | ((with_reducible refine gate_dst (N:=4) rfl ?_);refine Kd.R_lit (Kd.int .i64) _ 3 ?hg (N:=4) ?hd (xs:=([1,2,3,3,3,4,4,6]:List Int)) (inner:=[.int .i64 1,.int .i64 2,.int .i64 3,.int .i64 3,.int .i64 3,.int .i64 4,.int .i64 4,.int .i64 6]) (ok:=fun _=>True) (okp:=fun _=>True) ?hr ?hp (fun _ hk=>hk) trivial (Below.refl _ _) (zcf _) (taac) ?_;(case hd=>rfl);(case hg=>rfl);(case hr=>first | (go_simp;done) | (go_simp;rfl));(case hp=>exact (Reps.one (show Kd.M (Kd.int .i64) _ _ _ 1 [.int .i64 1] from rfl) (Reps.one (show Kd.M (Kd.int .i64) _ _ _ 2 [.int .i64 2] from rfl) (Reps.one (show Kd.M (Kd.int .i64) _ _ _ 3 [.int .i64 3] from rfl) (Reps.one (show Kd.M (Kd.int .i64) _ _ _ 3 [.int .i64 3] from rfl) (Reps.one (show Kd.M (Kd.int .i64) _ _ _ 3 [.int .i64 3] from rfl) (Reps.one (show Kd.M (Kd.int .i64) _ _ _ 4 [.int .i64 4] from rfl) (Reps.one (show Kd.M (Kd.int .i64) _ _ _ 4 [.int .i64 4] from rfl) (Reps.one (show Kd.M (Kd.int .i64) _ _ _ 6 [.int .i64 6] from rfl) (Reps.none _ _))))))))));intro v256 w3 ho4 hb hg_ hnew_;clear hg_ hnew_;(first | rw [← Ny255.out] at ho4 | (simp only [Int.reduceToNat] at ho4;rw [← Ny255.out] at ho4));have n0_:=zad (zbu ho4 (keep_size (w:=w) (g:=g) (row:=none) (taaf)));have n1_:=zad (IsS43.below (taag) hb);have n2_:=zad (zbs (taaf) (KeepBut.of_below hb g none) (.inl rfl));have n3_:=zad (zbg (taaj) hb);clear HI0 HK HB;have HO257:=n0_;have HI0:=n1_;have HK:=n2_;have HB:=n3_;clear n0_ n1_ n2_ n3_ hb ho4;obtain ⟨Ao5,co5,eo5⟩:=zbv HO257.out;subst eo5) | ((with_reducible refine zbh (f:=19) rfl ?_);refine zbn (some 5) rfl rfl Tryz.func19 (by kernel_rfl) rfl #[.pointer (some ⟨g,0,none⟩),.slice Ao5 y255.length co5] rfl (taae) ?_;(with_reducible refine (spec_l1Cur_among.calls g s0_0 s0_1 s0_2 _ _ y255 t258 t259 t260 w0 _ ?side1 ?side2 ?side3 ?side4 ?side5 A2.out).mono ?_);(case side1=>exact tafj);(case side2=>exact tafk);(case side3=>repeat (first | exact (zbf HO257.out).2.2 | (with_reducible refine zal ?_ _) | (with_reducible refine zam ?_ _) | (with_reducible refine zan ?_)));(case side4=>exact (zbf HO257.out).2.1);(case side5=>exact far_slice (IsS43.own_ne HI0.out HO257.out (by decide)));rintro e w6 ⟨rfl,hi,hb,hk⟩;refine ⟨_,rfl,?_⟩;have n0_:=zad (zbq (zbr (zcj (show IsS43 w0 _ g s0_0 s0_1 s0_2 from by exact tafh) (by (with_reducible repeat (first | apply zai | apply zaj | apply zak));exact HO257.out) (by decide)) hk (fun _ h=>h.2)) (fun _ h=>h.1));have n1_:=zad (zbs (taaf) hk (.inl rfl));have n2_:=zad (hb);have n3_:=zad (hi);clear HO257 HK HB HI0;have HO257:=n0_;have HK:=n1_;have HB:=n2_;have HI0:=n3_;clear n0_ n1_ n2_ n3_;(try clear hb);(try clear hb2);(try clear hk);(try clear hi)))
 go_ret
 exact ⟨taai,taag,taaj,taaf⟩
def spec_doEmpty.l0:Nat→Int→List (List Int)→Int→Option ((List (List Int)))
 | 0,_,_,_=>none
 | k+1,x0,x3,x4=>if x4<x0 then (if 0≤x0 then (if (x0:Int).toNat≤35184372088832 then (if x3.length<5864062014805 then (spec_doEmpty.l0 k x0 (x3 ++ [(List.replicate (x0:Int).toNat 0)]) (wrap64 (x4+1))) else (none)) else (none)) else (none)) else (some x3)
def spec_doEmpty.f (k:Nat) (a0:Int):Option ((List (List Int))):=spec_doEmpty.l0 k a0 ([]:List (List Int)) 0
theorem spec_doEmpty.calls (k:Nat) (a0:Int) (r:List (List Int)) (w:World) (h:spec_doEmpty.f k a0=some r) :
 Calls Tryz.prog 42 #[.int .i64 a0] w fun e w'=>∃ v0_:Value,e = .returned (v0_)∧Kd.S (Kd.slice 3 (Kd.int .i64)) 25 w' w.heap.size (fun _=>True) v0_ r∧Below w.heap.size w w':=by
 have HB:=zad (Below.refl w.heap.size w)
 have H:(spec_doEmpty.l0 k a0 ([]:List (List Int)) 0)=some r:=h
 clear h;have H':=zad H
 clear H;go_enter Tryz.func42,Tryz.ntmps42
 go_wp2
 go_loopg [3,4] k (fun kq v3 v4 w'=>∃ (x3_1:List (List Int)) (x4_1:Int),v4 = .int .i64 x4_1∧Aside0 (spec_doEmpty.l0 kq a0 x3_1 x4_1=some r)∧Aside0 (kq≤k)∧Aside0 (Kd.S (Kd.slice 3 (Kd.int .i64)) 25 w' w.heap.size (fun _=>True) v3 x3_1)∧Aside0 (Below w.heap.size w w'))
 case atStart=>exact ⟨(([]:List (List Int))),(0),(taad),H',⟨zcf _⟩,⟨tabx⟩,⟨taab⟩⟩
 case round =>
  clear H'
  obtain ⟨x3_1,x4_1,rfl,HA,HK1,HO_3,HB⟩:=hrel
  cases gk with
  | zero=>exact absurd HA.out (by simp [spec_doEmpty.l0])
  | succ k1 =>
   have H:=HA.out
   clear HA;simp only [spec_doEmpty.l0] at H
   by_cases c2:x4_1<a0
   ·rw [if_pos c2] at H
    have c2b0:decide (x4_1<a0)=true:=zba c2
    clear c2;by_cases c3:0≤a0
    ·rw [if_pos c3] at H
     have c3b0:=eq_true c3;have c3b1:decide (0≤a0)=true:=zba c3
     clear c3;by_cases c4:(a0:Int).toNat≤35184372088832
     ·rw [if_pos c4] at H
      have c4b0:=eq_true c4;have c4b1:decide ((a0:Int).toNat≤35184372088832)=true:=zba c4
      clear c4;obtain ⟨y176,hy176⟩:∃ y_:List Int,y_=(List.replicate (a0:Int).toNat 0):=⟨_,rfl⟩
      replace H:(if x3_1.length<5864062014805 then (spec_doEmpty.l0 k1 a0 (x3_1 ++ [y176]) (wrap64 (x4_1+1))) else (none))=some r:=by first | (rw [hy176];with_reducible exact H) | (have H2_:=(zbd _ _).symm.trans H;rw [hy176];with_reducible exact H2_) | (have H2_:=(zbd _ _).symm.trans H;with_reducible exact H2_) | with_reducible exact H | (rw [hy176];exact H) | exact H
      have Ny176:=zad hy176;clear hy176;by_cases c5:x3_1.length<5864062014805
      ·rw [if_pos c5] at H
       have LMc5:=zad c5;clear c5;obtain ⟨y179,hy179⟩:∃ y_:List (List Int),y_=(x3_1 ++ [y176]):=⟨_,rfl⟩
       replace H:(spec_doEmpty.l0 k1 a0 y179 (wrap64 (x4_1+1)))=some r:=by first | (rw [hy179];with_reducible exact H) | (have H2_:=(zbd _ _).symm.trans H;rw [hy179];with_reducible exact H2_) | (have H2_:=(zbd _ _).symm.trans H;with_reducible exact H2_) | with_reducible exact H | (rw [hy179];exact H) | exact H
       have Ny179:=zad hy179;clear hy179;have H':=zad H
       clear H;go_wp2_with (first | ((with_reducible refine gate_dst (N:=12) rfl ?_);refine Kd.R_make (Kd.int .i64) _ 3 rfl (N:=12) rfl 25 _ _ rfl a0 rfl rfl Tryz.underlying25 (.int .i64 0) 8 info3 rfl (by decide) (by omega) 0 (ok:=fun _=>True) (okp:=fun _=>True) rfl (fun _ hk=>hk) trivial (zas (taaa)) (Nat.le_trans (Nat.mul_le_mul_right _ (zas (taaa):a0.toNat≤35184372088832)) (by omega)) (Below.refl _ _) (zcf _) ?_;intro v177 w6 ho7 hb hg_ hnew_;clear hg_ hnew_;(first | rw [← Ny176.out] at ho7 | (simp only [Int.reduceToNat] at ho7;rw [← Ny176.out] at ho7));have n0_:=zad (Kd.S_elder' (tadg) (zcd ho7) hb);have n1_:=zad (zbu ho7 (zbk (taab)));have n2_:=zad (zbg (taab) hb);clear HO_3 HB;have HO_3:=n0_;have HO178:=n1_;have HB:=n2_;clear n0_ n1_ n2_ hb ho7;obtain ⟨Ao9,co9,eo9⟩:=zbv HO178.out;subst eo9) | ((with_reducible refine gate_builtin (b := .append) (xs:=#[.tmp 10,.tmp 13]) rfl ?_);at_builtin;refine Kd.S_append (Kd.slice 3 (Kd.int .i64)) (w0:=w) w.heap.size rfl (.tmp 10) (.tmp 13) 24 25 (.slice none 0 0) 24 rfl Tryz.underlying24 info25 rfl (by decide) (by omega) u3 x3_1 y176 [.slice Ao9 y176.length co9] (fun _=>True) (fun k_=>some k_=(.slice Ao9 y176.length co9:Value).ownBlock) rfl rfl ?aP (fun k_ hk_=>((zbq (ok':=fun k_=>((fun _=>True)) k_∧some k_≠(u3:Value).ownBlock) (Kd.R_apart' (HO178.out) (Kd.S_typed HO_3.out) (by decide)) (fun k_ hk=>⟨trivial,hk.2⟩))).1 k_ hk_.symm) ?aF ?aO ?aB ?aS ?aL ?_;(case aP=>exact Kd.M_row (zbq (Kd.R_tight rfl (zbq (ok':=fun k_=>((fun _=>True)) k_∧some k_≠(u3:Value).ownBlock) (Kd.R_apart' (HO178.out) (Kd.S_typed HO_3.out) (by decide)) (fun k_ hk=>⟨trivial,hk.2⟩))) (fun _ h_=>h_)));(case aB=>exact (taab));(case aF=>exact (fun _ _=>trivial));(case aO=>exact (by (with_reducible repeat (first | apply Kd.S_alloc | apply Kd.S_drewN | apply Kd.S_drew));exact Kd.S_mono HO_3.out (fun k_ hk=>⟨trivial,fun e_=>hk.2 e_⟩)));(case aS=>exact (zbk (taab)));(case aL=>have:=LMc5.out;omega);intro v180 w8 ho hb hg hat;rw [← Ny179.out] at ho;have n0_:=zad (hb);have n1_:=zad (ho);clear HB HO_3 HO178;have HB:=n0_;have HO181:=n1_;clear n0_ n1_ ho hb hg hat))
       go_roundg k1
       case measure=>have:=HK1.out;omega
       case rel=>exact ⟨(y179),(wrap64 (x4_1+1)),(taad),H',⟨taaq⟩,⟨by (with_reducible repeat (first | apply Kd.S_alloc | apply Kd.S_drewN | apply Kd.S_drew));exact HO181.out⟩,⟨taab⟩⟩
      ·rw [if_neg c5] at H
       exact absurd H (taac)
     ·rw [if_neg c4] at H
      exact absurd H (taac)
    ·rw [if_neg c3] at H
     exact absurd H (taac)
   ·rw [if_neg c2] at H
    have c2b0:decide (x4_1<a0)=false:=zbj c2
    clear c2;obtain rfl:=zbe H
    go_wp2
    go_ret
    exact ⟨_,taai,tadg,taab⟩
end Go.Proofs.YtmfpgimblifleaaGreat.A
