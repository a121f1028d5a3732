/- What the law FnAcceptedGiftPaths reaches, part 1: Lean functions with the same answers as the Go functions, the proofs that the Go code comes to these answers, and lemmas about them; no condition beyond those that each theorem names. -/
import Derived.Test.YtnlimjejllakoaaCFnAcceptedGiftPathsw1
import Derived.Test.YtnlimjejllakoaaProg
import Derived.Below
import Derived.Deep.Draws
import Derived.Deep.AppendLies
import Derived.Maps.AppendAt
import Derived.OwnWalk
import Derived.Laws.BytesArg
import Derived.Laws.MakeOwn
import Derived.Laws.OwnMore
import Derived.Deep.OwnRows
import Derived.Tactics
import Derived.Lib.ConvBytes
import Derived.Laws.Slices
import Derived.WalkKit
import Derived.KernelRfl
import Derived.RowKit3
import Derived.Deep.LoopGhost
import Derived.Deep.QuietTactic
import Derived.BigQuiet
import Derived.WideLaws
import Derived.Deep.DeepCutAuto
import Derived.Deep.CutBlock
import Derived.Deep.RegionHeld3
import Derived.Laws.Rows
import Derived.Lib.AppendStr
import Derived.ArgAppend
import Derived.Laws.IdiomCopy
import Derived.OrdersHeld
import Derived.Laws.BitsLemmas
import Derived.RowKit
import Derived.Lib.SliceRun
import Derived.Shelf.SlSortCmp.NoneTotal
import Derived.Shelf.SlGeneric
import Derived.Ground.SlsfProg
set_option linter.unusedVariables false
set_option linter.unusedSimpArgs false
set_option maxHeartbeats 8000000
set_option maxRecDepth 100000
namespace Go.Proofs.Ytnlimjejllakoaa.A
open Go.RowKit Go.Proofs.YtnlimjejllakoaaW.PrintWords Go.Proofs.YtnlimjejllakoaaW.PrintLast Go.Proofs.YtnlimjejllakoaaW.PrintMore
attribute [local go_sem] max2_int min2_int max_two min_two max_three min_three max_four min_four
abbrev zaa := @List.setIfInBounds_toArray
abbrev zab := @List.set_cons_zero
abbrev zac := @List.set_cons_succ
abbrev zad := @Aside0.mk
abbrev zae := @pw_below_drewN
abbrev zaf := @below_drew1
abbrev zag := @below_alloc
abbrev zah := @below_set
abbrev zai := @Kd.R_alloc
abbrev zaj := @Kd.R_drewN
abbrev zak := @Kd.R_drew
abbrev zal := @Kd.C_alloc
abbrev zam := @Kd.C_drewN
abbrev zan := @Kd.C_drew
abbrev zao := @KeepBut.set_
abbrev zap := @keep_drewN
abbrev zaq := @keep_drew
abbrev zar := @keep_alloc
abbrev zas := @of_decide_eq_true
abbrev zat := @List.map_toArray
abbrev zau := @List.map_cons
abbrev zav := @List.map_nil
abbrev zaw := @List.length_drop
abbrev zax := @List.length_take
abbrev zay := @Option.bind_eq_some_iff
abbrev zaz := @World.block_lt_of_cell?
abbrev zba := @decide_eq_true
abbrev zbb := @Option.bind_some
abbrev zbc := @Option.some.inj
abbrev zbd := @Kd.R_reads'
abbrev zbe := @below_step
abbrev zbf := @gate_callee
abbrev zbg := @Bool.eq_false_iff
abbrev zbh := @decide_eq_false
abbrev zbi := @blk_cell
abbrev zbj := @blk_frozen
abbrev zbk := @below_size
abbrev zbl := @Option.some.injEq
abbrev zbm := @Bool.false_eq_true
abbrev zbn := @goesL_
abbrev zbo := @beq_eq_false_iff_ne
abbrev zbp := @Prod.mk.injEq
abbrev zbq := @Kd.R_mono
abbrev zbr := @Kd.R_keep
abbrev zbs := @KeepBut.trans
abbrev zbt := @Kd.R_below
abbrev zbu := @Kd.R_lower
abbrev zbv := @Kd.R_slice
abbrev zbw := @i64_w
abbrev zbx := @i32_w
abbrev zby := @any_of
abbrev zbz := @take_ofW
abbrev zca := @Kd.at_int
abbrev zcb := @Kd.R_elder'
abbrev zcc := @Kd.R_new'
abbrev zcd := @Kd.R_base
abbrev zce := @Kd.R_lt
abbrev zcf := @Nat.le_refl
theorem taaa {P : Prop} (h : P := by repeat (first | (with_reducible first | exact HB.out | apply zag | apply zae | apply zaf) | exact HB.out)) : P := h
theorem taab {P : Prop} (h : P := by first | (with_reducible assumption) | assumption) : P := h
theorem taac {P : Prop} (h : P := by simp) : P := h
theorem taad {P : Prop} (h : P := by (try simp only [zat, zau, zav]); first | done | rfl | (simp only [zaw, zax]; rfl)) : P := h
theorem taae {P : Prop} (h : P := by repeat (first | (with_reducible first | exact HK.out | apply zao | apply zap | apply zaq | apply zar) | exact HK.out)) : P := h
theorem taaf {P : Prop} (h : P := by repeat (first | (with_reducible first | exact HI0.out | apply zcg | apply zch | apply zci | apply zcn | apply zco) | exact HI0.out)) : P := h
theorem taag {P : Prop} (h : P := by first | rfl | (simp; done) | (simp [*]; done)) : P := h
theorem taah {P : Prop} (h : P := by first | rfl | (simp [errW_none, errW_some] <;> rfl) | (simp [*, errW_none, errW_some] <;> rfl)) : P := h
theorem taai {P : Prop} (h : P := by (with_reducible repeat (first | apply zai | apply zaj | apply zak)); exact HO_7.out) : P := h
theorem taaj {P : Prop} (h : P := by (with_reducible repeat (first | apply zai | apply zaj | apply zak)); exact HO_6.out) : P := h
theorem taak {P : Prop} (h : P := by repeat (first | exact Drawn0.refl _ | apply Drawn0.step)) : P := h
theorem taal {P : Prop} (h : P := by repeat (first | (with_reducible first | exact HB.out | apply zag | apply zae | apply zaf | refine zah ?_ (zcl HI0.out)) | exact HB.out)) : P := h
theorem taam {P : Prop} (h : P := by repeat (first | (with_reducible first | exact HI1487.out | apply zcg | apply zch | apply zci | apply zcn | apply zco) | exact HI1487.out)) : P := h
theorem taan {P : Prop} (h : P := by (with_reducible repeat (first | apply zai | apply zaj | apply zak)); exact HO_8.out) : P := h
theorem taao {P : Prop} (h : P := by (with_reducible repeat (first | apply zai | apply zaj | apply zak)); exact HO_5.out) : P := h
theorem taap {P : Prop} (h : P := by (with_reducible repeat (first | apply zai | apply zaj | apply zak)); exact HO_3.out) : P := h
theorem taaq {P : Prop} (h : P := by (with_reducible repeat (first | refine blk_drewN ?_ _ | refine blk_drew ?_ | refine blk_alloc ?_ _)); exact BK431.out) : P := h
theorem taar {P : Prop} (h : P := by repeat (first | (with_reducible first | exact HBr.out | apply zag | apply zae | apply zaf) | exact HBr.out)) : P := h
theorem taas {P : Prop} (h : P := by (with_reducible repeat (first | apply zai | apply zaj | apply zak)); exact HO1100.out) : P := h
theorem taat {P : Prop} (h : P := by repeat (first | (with_reducible first | exact HK.out | apply zao | apply zap | apply zaq | apply zar | refine keep_far ?_ GW431.out _) | exact HK.out)) : P := h
theorem taau {P : Prop} (h : P := by have := HK1.out; omega) : P := h
theorem taav {P : Prop} (h : P := by repeat (first | (with_reducible first | exact HB.out | apply zag | apply zae | apply zaf | refine zah ?_ (zcl HI1487.out)) | exact HB.out)) : P := h
theorem taaw {P : Prop} (h : P := by repeat (first | (with_reducible first | exact HI1546.out | apply zcg | apply zch | apply zci | apply zcn | apply zco) | exact HI1546.out)) : P := h
theorem taax {P : Prop} (h : P := by repeat (first | (with_reducible first | exact HB.out | apply zag | apply zae | apply zaf | refine zah ?_ GE1204.out) | exact HB.out)) : P := h
theorem taay {P : Prop} (h : P := by simpa using h) : P := h
theorem taaz {P : Prop} (h : P := by repeat (first | (with_reducible first | exact HB.out | apply zag | apply zae | apply zaf | refine zah ?_ (zcl HI1546.out)) | exact HB.out)) : P := h
theorem taba {P : Prop} (h : P := by repeat (first | (with_reducible first | exact HI0.out | apply zcg | apply zch | apply zci | apply zcn | apply zco | refine zcm ?_ NB0_431.out _) | exact HI0.out)) : P := h
theorem tabb {P : Prop} (h : P := by repeat (first | (with_reducible first | exact HK.out | apply zao | apply zap | apply zaq | apply zar | refine keep_far ?_ GW431.out _ | refine keep_far ?_ GW442.out _) | exact HK.out)) : P := h
theorem tabc {P : Prop} (h : P := by (try simp only [zat, zau, zav]); first | done | rfl) : P := h
theorem tabd {P : Prop} (h : P := by first | omega | exact zcf _) : P := h
theorem tabe {P : Prop} (h : P := by (with_reducible repeat (first | apply zai | apply zaj | apply zak)); exact HO175.out) : P := h
theorem tabf {P : Prop} (h : P := by (with_reducible repeat (first | apply zai | apply zaj | apply zak)); exact HO_9.out) : P := h
theorem tabg {P : Prop} (h : P := by rw [List.length_append]; simp; omega) : P := h
theorem tabh {P : Prop} (h : P := by repeat (first | (with_reducible first | exact HBr.out | apply zag | apply zae | apply zaf | refine zah ?_ GE.out) | exact HBr.out)) : P := h
theorem tabi {P : Prop} (h : P := by (with_reducible repeat (first | apply Kd.S_alloc | apply Kd.S_drewN | apply Kd.S_drew)); exact HO_14.out) : P := h
theorem tabj {P : Prop} (h : P := by repeat (first | (with_reducible exact HR1631_0.out) | (with_reducible refine zal ?_ _) | (with_reducible refine zam ?_ _) | (with_reducible refine zan ?_) | exact HR1631_0.out)) : P := h
theorem tabk {P : Prop} (h : P := by repeat (first | (with_reducible exact HR1632_0.out) | (with_reducible refine zal ?_ _) | (with_reducible refine zam ?_ _) | (with_reducible refine zan ?_) | exact HR1632_0.out)) : P := h
theorem tabl {P : Prop} (h : P := by first | exact Kd.R_nil _ _ _ _ _ | exact Kd.N_nil _ _ _ _ _ | exact Kd.V_nil _ _ _ _ _ | exact Kd.Q_nil _ _ _ _ _ | exact Kd.S_nil _ _ _ _ _) : P := h
theorem tabm {P : Prop} (h : P := by (with_reducible repeat (first | apply zai | apply zaj | apply zak)); exact HO207.out) : P := h
theorem tabn {P : Prop} (h : P := by repeat (first | (with_reducible first | exact HI0.out | apply zcg | apply zch | apply zci | apply zcn | apply zco | refine zcm ?_ NB0_431.out _ | refine zcm ?_ NB0_442.out _) | exact HI0.out)) : P := h
theorem tabo {P : Prop} (h : P := by (with_reducible repeat (first | apply zai | apply zaj | apply zak)); exact HO1237.out) : P := h
theorem tabp {P : Prop} (h : P := by repeat (first | (with_reducible exact HR662.out) | (with_reducible refine zal ?_ _) | (with_reducible refine zam ?_ _) | (with_reducible refine zan ?_) | exact HR662.out)) : P := h
theorem tabq {P : Prop} (h : P := by repeat (first | (with_reducible exact HR682.out) | (with_reducible refine zal ?_ _) | (with_reducible refine zam ?_ _) | (with_reducible refine zan ?_) | exact HR682.out)) : P := h
theorem tabr {P : Prop} (h : P := by repeat (first | (with_reducible first | exact HB.out | apply zag | apply zae | apply zaf | refine zah ?_ GE473.out) | exact HB.out)) : P := h
theorem tabs {P : Prop} (h : P := by repeat (first | (with_reducible first | exact HB.out | apply zag | apply zae | apply zaf | refine zah ?_ GE489.out) | exact HB.out)) : P := h
theorem tabt {P : Prop} (h : P := by (with_reducible repeat (first | apply zai | apply zaj | apply zak)); exact HN.out) : P := h
theorem tabu {P : Prop} (h : P := by have := HK1.out; have := HJ16.out; omega) : P := h
theorem tabv {P : Prop} (h : P := by first | (rw [add_block]; exact Kd.own_blk (zck HI0.out HO_7.out (by decide))) | (show (Addr.add _ _).block ≠ _; rw [add_block]; exact Kd.own_blk (zck HI0.out HO_7.out (by decide))) | exact Kd.own_blk (zck HI0.out HO_7.out (by decide))) : P := h
theorem tabw {P : Prop} (h : P := by (with_reducible repeat (first | apply zai | apply zaj | apply zak)); exact HO823.out) : P := h
theorem tabx {P : Prop} (h : P := by repeat (first | (with_reducible first | exact HB.out | apply zag | apply zae | apply zaf | refine zah ?_ (zcl HI0.out) | refine zah ?_ GE431.out) | exact HB.out)) : P := h
theorem taby {P : Prop} (h : P := by repeat (first | (with_reducible first | exact HB.out | apply zag | apply zae | apply zaf | refine zah ?_ GE1531.out) | exact HB.out)) : P := h
theorem tabz {P : Prop} (h : P := by (with_reducible repeat (first | apply zai | apply zaj | apply zak)); exact HO668.out) : P := h
theorem taca {P : Prop} (h : P := by (with_reducible repeat (first | apply zai | apply zaj | apply zak)); exact HO688.out) : P := h
theorem tacb {P : Prop} (h : P := by (with_reducible repeat (first | apply zai | apply zaj | apply zak)); exact zbq HO_6.out (fun _ hk => ⟨trivial, hk⟩)) : P := h
theorem tacc {P : Prop} (h : P := by repeat (first | (with_reducible first | exact HB.out | apply zag | apply zae | apply zaf | refine zah ?_ GE1189.out) | exact HB.out)) : P := h
theorem tacd {P : Prop} (h : P := by repeat (first | (with_reducible first | exact HB.out | apply zag | apply zae | apply zaf | refine zah ?_ (zcl HI0.out) | refine zah ?_ GE431.out | refine zah ?_ GE442.out) | exact HB.out)) : P := h
theorem tace {P : Prop} (h : P := by (with_reducible repeat (first | apply zai | apply zaj | apply zak)); exact HO1490.out) : P := h
theorem tacf {P : Prop} (h : P := by (with_reducible repeat (first | apply zai | apply zaj | apply zak)); exact HO1493.out) : P := h
theorem tacg {P : Prop} (h : P := by (with_reducible repeat (first | apply zai | apply zaj | apply zak)); exact HO1549.out) : P := h
theorem tach {P : Prop} (h : P := by (with_reducible repeat (first | apply zai | apply zaj | apply zak)); exact HO1552.out) : P := h
theorem taci {P : Prop} (h : P := by (try simp only [zat, zau, zav]); first | done | (simp only [hji33]; rfl) | rfl | (simp only [zaw, zax]; rfl)) : P := h
theorem tacj {P : Prop} (h : P := by (with_reducible repeat (first | apply zai | apply zaj | apply zak)); exact HL1631_0.out) : P := h
theorem tack {P : Prop} (h : P := by (with_reducible repeat (first | apply zai | apply zaj | apply zak)); exact HL1632_0.out) : P := h
theorem tacl {P : Prop} (h : P := by repeat (first | (with_reducible exact HR675.out) | (with_reducible refine zal ?_ _) | (with_reducible refine zam ?_ _) | (with_reducible refine zan ?_) | exact HR675.out)) : P := h
theorem tacm {P : Prop} (h : P := by repeat (first | (with_reducible exact HR695.out) | (with_reducible refine zal ?_ _) | (with_reducible refine zam ?_ _) | (with_reducible refine zan ?_) | exact HR695.out)) : P := h
theorem tacn {P : Prop} (h : P := by repeat (first | (with_reducible first | exact HB.out | apply zag | apply zae | apply zaf | refine zah ?_ GE470.out) | exact HB.out)) : P := h
theorem taco {P : Prop} (h : P := by repeat (first | (with_reducible first | exact HB.out | apply zag | apply zae | apply zaf | refine zah ?_ GE477.out) | exact HB.out)) : P := h
theorem tacp {P : Prop} (h : P := by repeat (first | (with_reducible first | exact HB.out | apply zag | apply zae | apply zaf | refine zah ?_ GE486.out) | exact HB.out)) : P := h
theorem tacq {P : Prop} (h : P := by (with_reducible repeat (first | apply Kd.S_alloc | apply Kd.S_drewN | apply Kd.S_drew)); exact HSS.out) : P := h
theorem tacr {P : Prop} (h : P := by (with_reducible repeat (first | apply zai | apply zaj | apply zak)); exact HZ.out) : P := h
theorem tacs {P : Prop} (h : P := by first | exact Kd.S_nil _ _ _ _ _ | exact Kd.N_nil _ _ _ _ _ | exact Kd.V_nil _ _ _ _ _ | exact Kd.Q_nil _ _ _ _ _ | exact Kd.R_nil _ _ _ _ _) : P := h
theorem tact {P : Prop} (h : P := by (try simp only [Int.add_zero]); repeat (first | (with_reducible first | exact HI0.out | apply IsS75.alloc | apply IsS75.drewN | apply IsS75.drew | apply IsS75.set_1 | apply IsS75.set_2) | exact HI0.out)) : P := h
theorem tacu {P : Prop} (h : P := by repeat (first | (with_reducible first | exact HB.out | apply zag | apply zae | apply zaf | refine zah ?_ (IsS75.ge HI0.out)) | exact HB.out)) : P := h
theorem tacv {P : Prop} (h : P := by (with_reducible repeat (first | refine blk_drewN ?_ _ | refine blk_drew ?_ | refine blk_alloc ?_ _)); exact BK1189.out) : P := h
theorem tacw {P : Prop} (h : P := by (with_reducible repeat (first | refine blk_drewN ?_ _ | refine blk_drew ?_ | refine blk_alloc ?_ _)); exact BK1204.out) : P := h
theorem tacx {P : Prop} (h : P := by (with_reducible repeat (first | refine blk_drewN ?_ _ | refine blk_drew ?_ | refine blk_alloc ?_ _)); exact BK442.out) : P := h
theorem tacy {P : Prop} (h : P := by show (w.alloc (.cells #[.slice A1 l1.length c1] 26)).cell? ⟨w.heap.size, 0, none⟩ = _; simp) : P := h
theorem tacz {P : Prop} (h : P := by (with_reducible repeat (first | apply zai | apply zaj | apply zak)); exact HO1607.out) : P := h
theorem tada {P : Prop} (h : P := by (with_reducible repeat (first | apply zai | apply zaj | apply zak)); exact HO1609.out) : P := h
theorem tadb {P : Prop} (h : P := by (with_reducible repeat (first | apply zai | apply zaj | apply zak)); exact HO1611.out) : P := h
theorem tadc {P : Prop} (h : P := by (with_reducible repeat (first | apply zai | apply zaj | apply zak)); exact HO1619.out) : P := h
theorem tadd {P : Prop} (h : P := by repeat (first | (with_reducible exact HR1634_0.out) | (with_reducible refine zal ?_ _) | (with_reducible refine zam ?_ _) | (with_reducible refine zan ?_) | exact HR1634_0.out)) : P := h
theorem tade {P : Prop} (h : P := by repeat (first | (with_reducible exact HR1635_0.out) | (with_reducible refine zal ?_ _) | (with_reducible refine zam ?_ _) | (with_reducible refine zan ?_) | exact HR1635_0.out)) : P := h
theorem tadf {P : Prop} (h : P := by (with_reducible repeat (first | refine blk_drewN ?_ _ | refine blk_drew ?_ | refine blk_alloc ?_ _)); exact BK473.out) : P := h
theorem tadg {P : Prop} (h : P := by (with_reducible repeat (first | refine blk_drewN ?_ _ | refine blk_drew ?_ | refine blk_alloc ?_ _)); exact BK489.out) : P := h
theorem tadh {P : Prop} (h : P := by (with_reducible repeat (first | apply zai | apply zaj | apply zak)); exact HO183.out) : P := h
theorem tadi {P : Prop} (h : P := by (with_reducible repeat (first | apply zai | apply zaj | apply zak)); exact zbq HO_6.out (fun _ hk => hk.2)) : P := h
theorem tadj {P : Prop} (h : P := by (with_reducible repeat (first | apply zai | apply zaj | apply zak)); exact HO1116.out) : P := h
theorem tadk {P : Prop} (h : P := by (with_reducible repeat (first | refine blk_drewN ?_ _ | refine blk_drew ?_ | refine blk_alloc ?_ _)); refine blk_put (cs := #[.int .i64 t1201, .int .i64 t1202, .int .i64 0]) ?_ 2 _ rfl; (with_reducible repeat (first | refine blk_drewN ?_ _ | refine blk_drew ?_ | refine blk_alloc ?_ _)); refine blk_put (cs := #[.int .i64 t1201, .int .i64 0, .int .i64 0]) ?_ 1 _ rfl; (with_reducible repeat (first | refine blk_drewN ?_ _ | refine blk_drew ?_ | refine blk_alloc ?_ _)); refine blk_put (cs := #[.int .i64 0, .int .i64 0, .int .i64 0]) ?_ 0 _ rfl; (with_reducible repeat (first | refine blk_drewN ?_ _ | refine blk_drew ?_ | refine blk_alloc ?_ _)); exact BK1204.out) : P := h
theorem tadl {P : Prop} (h : P := by (with_reducible repeat (first | refine blk_drewN ?_ _ | refine blk_drew ?_ | refine blk_alloc ?_ _)); refine blk_far ?_ NB431_442.out _; (with_reducible repeat (first | refine blk_drewN ?_ _ | refine blk_drew ?_ | refine blk_alloc ?_ _)); refine blk_far ?_ NB431_442.out _; (with_reducible repeat (first | refine blk_drewN ?_ _ | refine blk_drew ?_ | refine blk_alloc ?_ _)); refine blk_far ?_ NB431_442.out _; (with_reducible repeat (first | refine blk_drewN ?_ _ | refine blk_drew ?_ | refine blk_alloc ?_ _)); exact BK431.out) : P := h
theorem tadm {P : Prop} (h : P := by (with_reducible repeat (first | refine blk_drewN ?_ _ | refine blk_drew ?_ | refine blk_alloc ?_ _)); refine blk_put (cs := #[.int .i64 t433, .int .i64 t436, .int .i64 0]) ?_ 2 _ rfl; (with_reducible repeat (first | refine blk_drewN ?_ _ | refine blk_drew ?_ | refine blk_alloc ?_ _)); refine blk_put (cs := #[.int .i64 t433, .int .i64 0, .int .i64 0]) ?_ 1 _ rfl; (with_reducible repeat (first | refine blk_drewN ?_ _ | refine blk_drew ?_ | refine blk_alloc ?_ _)); refine blk_put (cs := #[.int .i64 0, .int .i64 0, .int .i64 0]) ?_ 0 _ rfl; (with_reducible repeat (first | refine blk_drewN ?_ _ | refine blk_drew ?_ | refine blk_alloc ?_ _)); exact BK442.out) : P := h
theorem tadn {P : Prop} (h : P := by repeat (first | (with_reducible first | exact HB0.out | apply zag | apply zae | apply zaf) | exact HB0.out)) : P := h
theorem tado {P : Prop} (h : P := by (with_reducible repeat (first | apply zai | apply zaj | apply zak)); exact HO_118.out) : P := h
theorem tadp {P : Prop} (h : P := by repeat (first | (with_reducible first | exact HB.out | apply zag | apply zae | apply zaf | refine zah ?_ GE494.out) | exact HB.out)) : P := h
theorem tadq {P : Prop} (h : P := by repeat (first | (with_reducible first | exact HB.out | apply zag | apply zae | apply zaf | refine zah ?_ GB6.out | refine zah ?_ GE494.out) | exact HB.out)) : P := h
theorem tadr {P : Prop} (h : P := by repeat (first | (with_reducible first | exact HB.out | apply zag | apply zae | apply zaf | refine zah ?_ GE530.out) | exact HB.out)) : P := h
theorem tads {P : Prop} (h : P := by repeat (first | (with_reducible first | exact HB.out | apply zag | apply zae | apply zaf | refine zah ?_ GB6.out | refine zah ?_ GE530.out) | exact HB.out)) : P := h
theorem tadt {P : Prop} (h : P := by (with_reducible repeat (first | refine blk_drewN ?_ _ | refine blk_drew ?_ | refine blk_alloc ?_ _)); refine blk_put (cs := #[.int .i64 f0, .int .i64 f1, .int .i64 0]) ?_ 2 _ rfl; (with_reducible repeat (first | refine blk_drewN ?_ _ | refine blk_drew ?_ | refine blk_alloc ?_ _)); refine blk_put (cs := #[.int .i64 f0, .int .i64 0, .int .i64 0]) ?_ 1 _ rfl; (with_reducible repeat (first | refine blk_drewN ?_ _ | refine blk_drew ?_ | refine blk_alloc ?_ _)); refine blk_put (cs := #[.int .i64 0, .int .i64 0, .int .i64 0]) ?_ 0 _ rfl; (with_reducible repeat (first | refine blk_drewN ?_ _ | refine blk_drew ?_ | refine blk_alloc ?_ _)); exact BK.out) : P := h
theorem tadu {P : Prop} (h : P := by (with_reducible repeat (first | apply zai | apply zaj | apply zak)); exact zbq (Kd.R_far (p := ⟨gb1204, 2, none⟩) (Kd.R_far (p := ⟨gb1204, 1, none⟩) (Kd.R_far (p := ⟨gb1204, 0, none⟩) (zbq HO_9.out (fun k_ hk => (⟨hk, hk.2⟩ : _ ∧ k_ ≠ gb1204))) (fun _ hk => hk.2) (.int .i64 t1201)) (fun _ hk => hk.2) (.int .i64 t1202)) (fun _ hk => hk.2) (.int .i64 t1203)) (fun _ hk => hk.1.2)) : P := h
theorem tadv {P : Prop} (h : P := by (with_reducible repeat (first | refine blk_drewN ?_ _ | refine blk_drew ?_ | refine blk_alloc ?_ _)); refine blk_put (cs := #[.int .i64 t1201, .int .i64 t1202, .int .i64 t1203]) ?_ 2 _ rfl; (with_reducible repeat (first | refine blk_drewN ?_ _ | refine blk_drew ?_ | refine blk_alloc ?_ _)); exact BK1204.out) : P := h
theorem tadw {P : Prop} (h : P := by (with_reducible repeat (first | apply zai | apply zaj | apply zak)); exact (zbq (Kd.R_far (p := ⟨gb1204, 2, none⟩) (zbq HO_9.out (fun k_ hk => (⟨hk, hk⟩ : _ ∧ k_ ≠ gb1204))) (fun _ hk => hk.2) (.int .i64 t1209)) (fun _ h_ => h_.1))) : P := h
theorem tadx {P : Prop} (h : P := by (with_reducible repeat (first | apply zai | apply zaj | apply zak)); exact (zbq (Kd.R_far (p := ⟨gb1204, 2, none⟩) (Kd.R_far (p := ⟨gb1204, 1, none⟩) (Kd.R_far (p := ⟨gb1204, 0, none⟩) (zbq HO_9.out (fun k_ hk => (⟨hk, hk.2⟩ : _ ∧ k_ ≠ gb1204))) (fun _ hk => hk.2) (.int .i64 t1201)) (fun _ hk => hk.2) (.int .i64 t1202)) (fun _ hk => hk.2) (.int .i64 t1203)) (fun _ h_ => h_.1))) : P := h
theorem tady {P : Prop} (h : P := by (with_reducible repeat (first | refine blk_drewN ?_ _ | refine blk_drew ?_ | refine blk_alloc ?_ _)); refine blk_put (cs := #[.int .i64 ((rd_T39 l1 x9_1).f0), .int .i64 ((rd_T39 l1 x9_1).f1), .int .i64 0]) ?_ 2 _ rfl; (with_reducible repeat (first | refine blk_drewN ?_ _ | refine blk_drew ?_ | refine blk_alloc ?_ _)); refine blk_put (cs := #[.int .i64 ((rd_T39 l1 x9_1).f0), .int .i64 0, .int .i64 0]) ?_ 1 _ rfl; (with_reducible repeat (first | refine blk_drewN ?_ _ | refine blk_drew ?_ | refine blk_alloc ?_ _)); refine blk_put (cs := #[.int .i64 0, .int .i64 0, .int .i64 0]) ?_ 0 _ rfl; (with_reducible repeat (first | refine blk_drewN ?_ _ | refine blk_drew ?_ | refine blk_alloc ?_ _)); exact BK1531.out) : P := h
theorem tadz {P : Prop} (h : P := by repeat (first | (with_reducible exact HR1541_0.out) | (with_reducible refine zal ?_ _) | (with_reducible refine zam ?_ _) | (with_reducible refine zan ?_) | exact HR1541_0.out)) : P := h
theorem taea {P : Prop} (h : P := by repeat (first | (with_reducible exact HR1525_0.out) | (with_reducible refine zal ?_ _) | (with_reducible refine zam ?_ _) | (with_reducible refine zan ?_) | exact HR1525_0.out)) : P := h
theorem taeb {P : Prop} (h : P := by (with_reducible repeat (first | apply Kd.S_alloc | apply Kd.S_drewN | apply Kd.S_drew)); exact Kd.S_mono HO1625.out (fun _ hk => ⟨hk.1.1.1.2, hk.1.1.2⟩)) : P := h
theorem taec {P : Prop} (h : P := by first | rfl | (simp [errW_none, errW_some] <;> rfl) | (simp only [← hji33]; first | rfl | (simp [errW_none, errW_some] <;> rfl)) | (simp [*, errW_none, errW_some] <;> rfl)) : P := h
theorem taed {P : Prop} (h : P := by exact taaf) : P := h
theorem taee {P : Prop} (h : P := by rw [hg]; exact (zbk (taaa))) : P := h
theorem taef {P : Prop} (h : P := by exact taam) : P := h
theorem taeg {P : Prop} (h : P := by rw [hg]; exact (keep_size (w := w) (g := g) (row := none) (taae))) : P := h
theorem taeh {P : Prop} (h : P := by rw [hg]; exact (keep_size (w := w) (g := g) (row := none) (taat))) : P := h
theorem taei {P : Prop} (h : P := by rw [hg]; exact Nat.ne_of_lt (IsS75.lt (show IsS75 w0 _ g s0_0 s0_1 s0_2 from by exact taaf))) : P := h
theorem taej {P : Prop} (h : P := by rw [hg]; exact Nat.ne_of_gt (IsS75.lt (show IsS75 w0 _ g s0_0 s0_1 s0_2 from by exact taaf))) : P := h
theorem taek {P : Prop} (h : P := by rw [hg]; exact Nat.ne_of_lt (blk_lt (g := gb431) (o := .cells #[.int .i64 0, .int .i64 0, .int .i64 0] 39 (0, 0)) (taaq))) : P := h
theorem tael {P : Prop} (h : P := by rw [hg]; exact Nat.ne_of_gt (blk_lt (g := gb431) (o := .cells #[.int .i64 0, .int .i64 0, .int .i64 0] 39 (0, 0)) (taaq))) : P := h
theorem taem {P : Prop} (h : P := by rw [hg]; exact Nat.ne_of_lt (IsS75.lt (show IsS75 w0 _ g s0_0 t440 t441 from by exact taba))) : P := h
theorem taen {P : Prop} (h : P := by rw [hg]; exact Nat.ne_of_gt (IsS75.lt (show IsS75 w0 _ g s0_0 t440 t441 from by exact taba))) : P := h
theorem taeo {P : Prop} (h : P := by first | exact q1631 | exact zas (taab) | (have e_ := (Kd.S_reads' HO_14.out).1; omega)) : P := h
theorem taep {P : Prop} (h : P := by first | exact q1632 | exact zas (taab) | (have e_ := (Kd.S_reads' HO_14.out).1; omega)) : P := h
theorem taeq {P : Prop} (h : P := by exact taed) : P := h
theorem taer {P : Prop} (h : P := by exact taef) : P := h
theorem taes {P : Prop} (h : P := by exact taeq) : P := h
theorem taet {P : Prop} (h : P := by exact taer) : P := h
theorem taeu {P : Prop} (h : P := by (repeat (first | exact HR0.out | (with_reducible refine zal ?_ _) | (with_reducible refine zam ?_ _) | (with_reducible refine zan ?_))); done) : P := h
theorem taev {P : Prop} (h : P := by (repeat (first | exact (Kd.C_below HR0.out HB.out) | (with_reducible refine zal ?_ _) | (with_reducible refine zam ?_ _) | (with_reducible refine zan ?_))); done) : P := h
theorem taew {P : Prop} (h : P := by (repeat (first | (with_reducible first | exact HI0.out | apply zcg | apply zch | apply zci | apply zcn | apply zco) | exact HI0.out)); done) : P := h
theorem taex {P : Prop} (h : P := by (repeat (first | (with_reducible first | exact HB.out | apply zag | apply zae | apply zaf | refine zah ?_ (zcl HI0.out)) | exact HB.out)); done) : P := h
theorem taey {P : Prop} (h : P := by (repeat (first | exact HR1.out | (with_reducible refine zal ?_ _) | (with_reducible refine zam ?_ _) | (with_reducible refine zan ?_))); done) : P := h
theorem taez {P : Prop} (h : P := by (repeat (first | exact (zbd HO_6.out).2.2 | (with_reducible refine zal ?_ _) | (with_reducible refine zam ?_ _) | (with_reducible refine zan ?_))); done) : P := h
theorem tafa {P : Prop} (h : P := by (repeat (first | (with_reducible first | exact HI1546.out | apply zcg | apply zch | apply zci | apply zcn | apply zco) | exact HI1546.out)); done) : P := h
theorem tafb {P : Prop} (h : P := by (repeat (first | (with_reducible first | exact HB.out | apply zag | apply zae | apply zaf | refine zah ?_ (zcl HI1546.out)) | exact HB.out)); done) : P := h
theorem tafc {P : Prop} (h : P := by (repeat (first | exact (tabj) | (with_reducible refine zal ?_ _) | (with_reducible refine zam ?_ _) | (with_reducible refine zan ?_))); done) : P := h
theorem tafd {P : Prop} (h : P := by (repeat (first | exact (tabk) | (with_reducible refine zal ?_ _) | (with_reducible refine zam ?_ _) | (with_reducible refine zan ?_))); done) : P := h
theorem tafe {P : Prop} (h : P := by (repeat (first | exact (zbd HO_5.out).2.2 | (with_reducible refine zal ?_ _) | (with_reducible refine zam ?_ _) | (with_reducible refine zan ?_))); done) : P := h
theorem taff {P : Prop} (h : P := by (repeat (first | exact (Kd.C_below HR1.out HB.out) | (with_reducible refine zal ?_ _) | (with_reducible refine zam ?_ _) | (with_reducible refine zan ?_))); done) : P := h
theorem tafg {P : Prop} (h : P := by (repeat (first | exact (Kd.C_below HR2.out HB.out) | (with_reducible refine zal ?_ _) | (with_reducible refine zam ?_ _) | (with_reducible refine zan ?_))); done) : P := h
abbrev tafh : Array Bool := #[true, false, false, false, false, false, false, false, false, false]
abbrev tafi : Array Bool := #[true, true, false, false, false, false, false, false, false, false]
abbrev tafj : Array Bool := #[true, true, false, false, false, true, false, false, false, false]
abbrev tafk : Array Bool := #[true, true, true, false, false, true, false, false, false, false]
abbrev tafl : Array Bool := #[true, true, true, true, false, true, false, false, false, false]
abbrev tafm : Array Bool := #[true, true, true, true, true, true, false, false, false, false]
abbrev tafn : Array Bool := #[true, true, true, true, true, true, true, false, false, false]
abbrev tafo : Array Bool := #[true, true, true, true, true, true, true, true, false, false]
abbrev tafp : Array Bool := #[true, true, true, true, true, true, true, true, true, false]
abbrev tafq : Array Bool := #[true, false, false, false, false, false, false, false, false, false, false, false, false, false, false, false, false, false, false, false, false, false, false, false, false]
abbrev tafr : Array Bool := #[true, true, false, false, false, false, false, false, false, false, false, false, false, false, false, false, false, false, false, false, false, false, false, false, false]
abbrev tafs : Array Bool := #[true, true, true, true, false, false, false, false, false, false, false, false, false, false, false, false, false, false, false, false, false, false, false, false, false]
abbrev taft : Array Bool := #[true, true, true, true, true, false, false, false, false, false, false, false, false, false, false, false, false, false, false, false, false, false, false, false, false]
abbrev tafu : Array Bool := #[true, true, true, true, true, false, true, false, false, false, false, false, false, false, false, false, false, false, false, false, false, false, false, false, false]
abbrev tafv : Array Bool := #[true, true, true, true, true, false, true, true, false, false, false, false, false, false, false, false, false, false, false, false, false, false, false, false, false]
abbrev tafw : Array Bool := #[true, true, true, true, true, true, true, true, false, false, false, false, false, false, false, false, false, false, false, false, false, false, false, false, false]
abbrev tafx : Array Bool := #[true, true, true, true, true, true, true, true, true, false, false, false, false, false, false, false, false, false, false, false, false, false, false, false, false]
abbrev tafy : Array Bool := #[true, true, true, true, true, true, true, true, true, true, false, false, false, false, false, false, false, false, false, false, false, false, false, false, false]
abbrev tafz : Array Bool := #[true, true, true, true, true, true, true, true, true, true, true, false, false, false, false, false, false, false, false, false, false, false, false, false, false]
abbrev taga : Array Bool := #[true, true, true, true, true, true, true, true, true, true, true, true, false, false, false, false, false, false, false, false, false, false, false, false, false]
abbrev tagb : Array Bool := #[true, true, true, true, true, true, true, true, true, true, true, true, true, false, false, false, false, false, false, false, false, false, false, false, false]
abbrev tagc : Array Bool := #[true, true, true, true, true, true, true, true, true, true, true, true, true, true, false, false, false, false, false, false, false, false, false, false, false]
abbrev tagd : Array Bool := #[true, true, true, true, true, true, true, true, true, true, true, true, true, true, true, false, false, false, false, false, false, false, false, false, false]
abbrev tage : Array Bool := #[true, true, true, true, true, true, true, true, true, true, true, true, true, true, true, false, true, true, false, false, false, false, false, false, false]
abbrev tagf : Array Bool := #[true, true, true, true, true, true, true, true, true, true, true, true, true, true, true, true, true, true, false, false, false, false, false, false, false]
abbrev tagg : Array Bool := #[true, true, true, true, true, true, true, true, true, true, true, true, true, true, true, true, true, true, true, false, false, false, false, false, false]
abbrev tagh : Array Bool := #[true, true, true, true, true, true, true, true, true, true, true, true, true, true, true, true, true, true, true, true, false, false, false, false, false]
abbrev tagi : Array Bool := #[true, true, true, true, true, true, true, true, true, true, true, true, true, true, true, true, true, true, true, true, true, false, false, false, false]
abbrev tagj : Array Bool := #[true, true, true, true, true, true, true, true, true, true, true, true, true, true, true, true, true, true, true, true, true, true, false, false, false]
abbrev tagk : Array Bool := #[true, true, true, true, true, true, true, true, true, true, true, true, true, true, true, true, true, true, true, true, true, true, true, false, false]
abbrev tagl : Array Bool := #[true, true, true, true, true, true, true, true, true, true, true, true, true, true, true, true, true, true, true, true, true, true, true, true, false]
abbrev tagm : Array Bool := #[true, true, true, true, true, true, true, true, true, true, true, true, true, true, true, true, true, true, true, true, true, true, true, true, true]
abbrev tagn : Array Bool := #[true, true, true, true, true, true, true, true, true, true, true, true, true, true, true, true, false, false, false, false, false, false, false, false, false]
abbrev tago : Array Bool := #[true, true, true, true, true, true, true, true, true, true, true, true, true, true, true, true, true, false, false, false, false, false, false, false, false]
abbrev tagp : Array Bool := #[true, false, false, false, false, false, false, false, false, false, false, false, false, false, false, false, false, false, false, false, false, false, false]
abbrev tagq : Array Bool := #[true, true, false, false, false, false, false, false, false, false, false, false, false, false, false, false, false, false, false, false, false, false, false]
abbrev tagr : Array Bool := #[true, true, true, true, false, false, false, false, false, false, false, false, false, false, false, false, false, false, false, false, false, false, false]
abbrev tags : Array Bool := #[true, true, true, true, true, false, false, false, false, false, false, false, false, false, false, false, false, false, false, false, false, false, false]
abbrev tagt : Array Bool := #[true, true, true, true, true, true, false, false, false, false, false, false, false, false, false, false, false, false, false, false, false, false, false]
abbrev tagu : Array Bool := #[true, true, true, true, true, true, true, true, true, true, true, true, true, true, true, true, false, true, false, false, false, false, false]
abbrev tagv : Array Bool := #[true, true, true, true, true, true, true, true, true, true, true, true, true, true, true, true, true, true, false, false, false, false, false]
abbrev tagw : Array Bool := #[true, true, true, true, true, true, true, true, true, true, true, true, true, true, true, true, true, true, true, false, false, false, false]
abbrev tagx : Array Bool := #[true, true, true, true, true, true, true, true, true, true, true, true, true, true, true, true, true, true, true, true, false, false, false]
abbrev tagy : Array Bool := #[true, true, true, true, true, true, true, true, true, true, true, true, true, true, true, true, true, true, true, true, true, false, false]
abbrev tagz : Array Bool := #[true, true, true, true, true, true, true, true, true, true, true, true, true, true, true, true, true, true, true, true, true, true, false]
abbrev taha : Array Bool := #[true, true, true, true, true, true, true, true, true, true, true, true, true, true, true, true, true, true, true, true, true, true, true]
abbrev tahb : Array Bool := #[true, true, true, true, true, true, true, true, false, false, false, false, false, false, false, false, false, false, false, false, false, false, false]
abbrev tahc : Array Bool := #[true, true, true, true, true, true, true, true, true, false, false, false, false, false, false, false, false, false, false, false, false, false, false]
abbrev tahd : Array Bool := #[true, true, true, true, true, true, true, true, true, true, true, false, false, false, false, false, false, false, false, false, false, false, false]
abbrev tahe : Array Bool := #[true, true, true, true, true, true, true, true, true, true, true, true, false, false, false, false, false, false, false, false, false, false, false]
abbrev tahf : Array Bool := #[true, true, true, true, true, true, true, true, true, true, true, true, true, false, false, false, false, false, false, false, false, false, false]
abbrev tahg : Array Bool := #[true, true, true, true, true, true, true, true, true, true, true, true, true, true, false, false, false, false, false, false, false, false, false]
abbrev tahh : Array Bool := #[true, true, true, true, true, true, true, true, true, true, true, true, true, true, true, false, false, false, false, false, false, false, false]
abbrev tahi : Array Bool := #[true, true, true, true, true, true, true, true, true, true, true, true, true, true, true, true, false, false, false, false, false, false, false]
abbrev tahj : Array Bool := #[true, true, true, true, true, true, true, true, true, true, true, true, true, true, true, true, true, false, false, false, false, false, false]
abbrev tahk : Array Bool := #[true, false, false, false, false, false, false, false, false, false, false, false, false, false, false, false, false, false, false, false, false, false, false, false, false, false, false, false]
abbrev tahl : Array Bool := #[true, true, false, false, false, false, false, false, false, false, false, false, false, false, false, false, false, false, false, false, false, false, false, false, false, false, false, false]
abbrev tahm : Array Bool := #[true, true, true, true, false, false, false, false, false, false, false, false, false, false, false, false, false, false, false, false, false, false, false, false, false, false, false, false]
abbrev tahn : Array Bool := #[true, true, true, true, true, false, false, false, false, false, false, false, false, false, false, false, false, false, false, false, false, false, false, false, false, false, false, false]
abbrev taho : Array Bool := #[true, true, true, true, true, true, false, false, false, false, false, false, false, false, false, false, false, false, false, false, false, false, false, false, false, false, false, false]
abbrev tahp : Array Bool := #[true, true, true, true, true, true, true, false, false, false, false, false, false, false, false, false, false, false, false, false, false, false, false, false, false, false, false, false]
abbrev tahq : Array Bool := #[true, true, true, true, true, true, true, true, false, false, false, false, false, false, false, false, false, false, false, false, false, false, false, false, false, false, false, false]
abbrev tahr : Array Bool := #[true, true, true, true, true, true, true, true, true, false, false, false, false, false, false, false, false, false, false, false, false, false, false, false, false, false, false, false]
abbrev tahs : Array Bool := #[true, true, true, true, true, true, true, true, true, true, false, false, false, false, false, false, false, false, false, false, false, false, false, false, false, false, false, false]
abbrev taht : Array Bool := #[true, true, true, true, true, true, true, true, true, true, true, false, false, false, false, false, false, false, false, false, false, false, false, false, false, false, false, false]
abbrev tahu : Array Bool := #[true, true, true, true, true, true, true, true, true, true, true, true, true, true, true, true, true, true, true, true, true, true, true, false, false, false, false, false]
abbrev tahv : Array Bool := #[true, true, true, true, true, true, true, true, true, true, true, true, true, true, true, true, true, true, true, true, true, true, true, true, false, false, false, false]
abbrev tahw : Array Bool := #[true, true, true, true, true, true, true, true, true, true, true, true, true, true, true, true, true, true, true, true, true, true, true, true, true, false, false, false]
abbrev tahx : Array Bool := #[true, true, true, true, true, true, true, true, true, true, true, true, true, true, true, true, true, true, true, true, true, true, true, true, true, true, false, false]
abbrev tahy : Array Bool := #[true, true, true, true, true, true, true, true, true, true, true, true, true, true, true, true, true, true, true, true, true, true, true, true, true, true, true, false]
abbrev tahz : Array Bool := #[true, true, true, true, true, true, true, true, true, true, true, true, true, true, true, true, true, true, true, true, true, true, true, true, true, true, true, true]
abbrev taia : Array Bool := #[true, true, true, true, true, true, true, true, true, true, true, true, false, false, false, false, false, false, false, false, false, false, false, false, false, false, false, false]
abbrev taib : Array Bool := #[true, true, true, true, true, true, true, true, true, true, true, true, true, false, false, false, false, false, false, false, false, false, false, false, false, false, false, false]
abbrev taic : Array Bool := #[true, true, true, true, true, true, true, true, true, true, true, true, true, true, false, false, false, false, false, false, false, false, false, false, false, false, false, false]
abbrev taid : Array Bool := #[true, true, true, true, true, true, true, true, true, true, true, true, true, true, true, false, false, false, false, false, false, false, false, false, false, false, false, false]
abbrev taie : Array Bool := #[true, true, true, true, true, true, true, true, true, true, true, true, true, true, true, true, false, false, false, false, false, false, false, false, false, false, false, false]
abbrev taif : Array Bool := #[true, true, true, true, true, true, true, true, true, true, true, true, true, true, true, true, true, false, false, false, false, false, false, false, false, false, false, false]
abbrev taig : Array Bool := #[true, true, true, true, true, true, true, true, true, true, true, true, true, true, true, true, true, true, false, false, false, false, false, false, false, false, false, false]
abbrev taih : Array Bool := #[true, true, true, true, true, true, true, true, true, true, true, true, true, true, true, true, true, true, true, false, false, false, false, false, false, false, false, false]
abbrev taii : Array Bool := #[true, true, true, true, true, true, true, true, true, true, true, true, true, true, true, true, true, true, true, true, false, false, false, false, false, false, false, false]
abbrev taij : Array Bool := #[true, true, true, true, true, true, true, true, true, true, true, true, true, true, true, true, true, true, true, true, true, false, false, false, false, false, false, false]
abbrev taik : Array Bool := #[true, true, true, true, true, true, true, true, true, true, true, true, true, true, true, true, true, true, true, true, true, true, false, false, false, false, false, false]
abbrev tail : Array Bool := #[true, false, false, false, false, false, false, false, false, false, false, false, false, false, false, false, false, false, false, false]
abbrev taim : Array Bool := #[true, true, false, false, false, false, false, false, false, false, false, false, false, false, false, false, false, false, false, false]
abbrev tain : Array Bool := #[true, true, true, false, false, false, false, false, false, false, false, false, false, false, false, false, false, false, false, false]
abbrev taio : Array Bool := #[true, true, true, true, false, false, false, false, false, false, false, false, false, false, false, false, false, false, false, false]
abbrev taip : Array Bool := #[true, true, true, true, true, false, false, false, false, false, false, false, false, false, false, false, false, false, false, false]
abbrev taiq : Array Bool := #[true, true, true, true, true, true, false, false, false, false, false, false, false, false, false, false, false, false, false, false]
abbrev tair : Array Bool := #[true, true, true, true, true, true, true, false, false, false, false, false, false, false, false, false, false, false, false, false]
abbrev tais : Array Bool := #[true, true, true, true, true, true, true, true, false, false, false, false, false, false, false, false, false, false, false, false]
abbrev tait : Array Bool := #[true, true, true, true, true, true, true, true, true, false, false, false, false, false, false, false, false, false, false, false]
abbrev taiu : Array Bool := #[true, true, true, true, true, true, true, true, true, false, true, false, false, false, false, false, false, false, false, false]
abbrev taiv : Array Bool := #[true, true, true, true, true, true, true, true, true, false, true, true, false, false, false, false, false, false, false, false]
abbrev taiw : Array Bool := #[true, true, true, true, true, true, true, true, true, false, true, true, true, false, false, false, false, false, false, false]
abbrev taix : Array Bool := #[true, true, true, true, true, true, true, true, true, true, true, true, true, false, false, false, false, false, false, false]
abbrev taiy : Array Bool := #[true, true, true, true, true, true, true, true, true, true, true, true, true, true, false, false, false, false, false, false]
abbrev taiz : Array Bool := #[true, true, true, true, true, true, true, true, true, true, true, true, true, true, true, false, false, false, false, false]
abbrev taja : Array Bool := #[true, true, true, true, true, true, true, true, true, true, true, true, true, true, true, true, false, false, false, false]
abbrev tajb : Array Bool := #[true, true, true, true, true, true, true, true, true, true, true, true, true, true, true, true, true, false, false, false]
abbrev tajc : Array Bool := #[true, true, true, true, true, true, true, true, true, true, true, true, true, true, true, true, true, true, false, false]
abbrev tajd : Array Bool := #[true, true, true, true, true, true, true, true, true, true, true, true, true, true, true, true, true, true, true, false]
abbrev taje : Array Bool := #[true, true, true, true, true, true, true, true, true, true, true, true, true, true, true, true, true, true, true, true]
abbrev tajf : Array Bool := #[true, false, false, false, false, false, false, false, false, false, false, false, false, false]
abbrev tajg : Array Bool := #[true, true, false, false, false, false, false, false, false, false, false, false, false, false]
abbrev tajh : Array Bool := #[true, true, true, false, false, false, false, false, false, false, false, false, false, false]
abbrev taji : Array Bool := #[true, true, true, true, false, false, false, false, false, false, false, false, false, false]
abbrev tajj : Array Bool := #[true, true, true, true, true, false, false, false, false, false, false, false, false, false]
abbrev tajk : Array Bool := #[true, true, true, true, true, true, false, false, false, false, false, false, false, false]
abbrev tajl : Array Bool := #[true, true, true, true, true, true, true, false, false, false, false, false, false, false]
abbrev tajm : Array Bool := #[true, true, true, true, true, true, true, true, true, false, false, false, false, false]
abbrev tajn : Array Bool := #[true, true, true, true, true, true, true, true, true, true, true, true, false, false]
abbrev tajo : Array Bool := #[true, true, true, true, true, true, true, true, true, true, true, true, true, false]
abbrev tajp : Array Bool := #[true, true, true, true, true, true, true, true, true, true, true, true, true, true]
abbrev tajq : Array Bool := #[true, true, true, false, false, false, false, false, false, false, false, false, false, false, false, false, false, false, false, false, false, false, false]
abbrev tajr : Array Bool := #[true, true, true, false, true, false, false, false, false, false, false, false, false, false, false, false, false, false, false, false, false, false, false]
abbrev tajs : Array Bool := #[true, true, true, false, true, true, false, false, false, false, false, false, false, false, false, false, false, false, false, false, false, false, false]
abbrev tajt : Array Bool := #[true, true, true, false, true, true, true, false, false, false, false, false, false, false, false, false, false, false, false, false, false, false, false]
abbrev taju : Array Bool := #[true, true, true, false, true, true, true, true, false, false, false, false, false, false, false, false, false, false, false, false, false, false, false]
abbrev tajv : Array Bool := #[true, true, true, true, true, true, true, true, true, true, true, true, true, true, true, true, false, true, true, false, false, false, false]
abbrev tajw : Array Bool := #[true, true, true, true, true, true, true, true, true, true, true, true, true, true, true, true, false, true, true, true, false, false, false]
def errW : Option Int → Value
 | none => .nilIface
 | some c => .iface 0 (.int .i64 c)
theorem errW_none : errW none = .nilIface := rfl
theorem errW_some (c : Int) : errW (some c) = .iface 0 (.int .i64 c) := rfl
theorem info3 : (Try.prog.info? 3).map (fun i => (i.zero, i.size, i.bytes)) = some (some (.int .i64 0), 1, 8) := by kernel_rfl
theorem info26 : (Try.prog.info? 26).map (fun i => (i.zero, i.size, i.bytes)) = some (some (.slice none 0 0), 1, 24) := by kernel_rfl
theorem info39 : (Try.prog.info? 39).map (fun i => (i.zero, i.size, i.bytes)) = some (some (.agg #[(.int .i64 0), (.int .i64 0), (.int .i64 0)]), 3, 24) := by kernel_rfl
def rd_L2 (xs : List (List Int)) (i : Int) : (List Int) := xs.getD i.toNat ([] : List Int)
theorem at_L2 {w : World} {A : Option Addr} {n : Nat} {xs : List (List Int)} (h : Kd.C (Kd.slice 3 (Kd.int .i64)) w A n xs) (i : Int) (h0 : 0 ≤ i) (h1 : i < n) : ∃ ad A0 c0, A = some ad ∧ w.cell? (ad.add i.toNat) = some (.slice A0 (rd_L2 xs i).length c0) ∧ (rd_L2 xs i).length ≤ c0 ∧ (Kd.int .i64).C w A0 (rd_L2 xs i).length (rd_L2 xs i) := by
 obtain ⟨ad, c, e, _, hK, hc0⟩ := Kd.C_get h ([] : List Int) i h0 h1
 have hc : ∀ j u, c[j]? = some u → w.cell? (ad.add (i.toNat * 1 + j)) = some u := hc0
 obtain ⟨A0, c0, rfl, l0, g0⟩ := hK
 exact ⟨ad, A0, c0, e, by have hq := hc 0 _ rfl; rwa [Nat.mul_one, Nat.add_zero] at hq, l0, g0⟩
structure S39 where
 f0 : Int
 f1 : Int
 f2 : Int
def z39 : S39 := ⟨(0 : Int), (0 : Int), (0 : Int)⟩
def k39 : Kd S39 := Kd.iso (Kd.pair (Kd.int .i64) (Kd.pair (Kd.int .i64) (Kd.int .i64))) (fun x : S39 => (x.f0, x.f1, x.f2))
theorem k39_open {w : World} {x : S39} {cs : List Value} (h : k39.K w x cs) : cs = [.int .i64 x.f0, .int .i64 x.f1, .int .i64 x.f2] := by
 obtain ⟨_, _, rfl, rfl, ⟨_, _, rfl, rfl, rfl⟩⟩ := h
 exact rfl
theorem k39_openM {w : World} {base : Nat} {ok : Nat → Prop} {x : S39} {cs : List Value} (h : k39.M w base ok x cs) : cs = [.int .i64 x.f0, .int .i64 x.f1, .int .i64 x.f2] := by
 obtain ⟨_, _, rfl, rfl, ⟨_, _, rfl, rfl, rfl⟩⟩ := h
 exact rfl
theorem k39_mkM (w : World) (base : Nat) (ok : Nat → Prop) (x : S39)  : k39.M w base ok x [.int .i64 x.f0, .int .i64 x.f1, .int .i64 x.f2] := ⟨[.int .i64 x.f0], [.int .i64 x.f1, .int .i64 x.f2], rfl, rfl, ⟨[.int .i64 x.f1], [.int .i64 x.f2], rfl, rfl, rfl⟩⟩
def rd_T39 (xs : List S39) (i : Int) : S39 := xs.getD i.toNat z39
theorem at_T39 {w : World} {A : Option Addr} {n : Nat} {xs : List S39} (h : Kd.C k39 w A n xs) (i : Int) (h0 : 0 ≤ i) (h1 : i < n) : ∃ ad , A = some ad ∧ w.cell? (ad.add (i.toNat * 3)) = some (.int .i64 (rd_T39 xs i).f0) ∧ w.cell? ⟨(ad.add (i.toNat * 3)).block, (ad.add (i.toNat * 3)).off + 1, none⟩ = some (.int .i64 (rd_T39 xs i).f1) ∧ w.cell? ⟨(ad.add (i.toNat * 3)).block, (ad.add (i.toNat * 3)).off + 2, none⟩ = some (.int .i64 (rd_T39 xs i).f2) := by
 obtain ⟨ad, c, e, _, hK, hc0⟩ := Kd.C_get h z39 i h0 h1
 have hc : ∀ j u, c[j]? = some u → w.cell? (ad.add (i.toNat * 3 + j)) = some u := hc0
 obtain rfl := k39_open hK
 exact ⟨ad, e, hc 0 _ rfl, by rw [← add_field _ _ 1 (by omega)]; exact hc 1 _ rfl, by rw [← add_field _ _ 2 (by omega)]; exact hc 2 _ rfl⟩
def laws_big.f (l0 : List Int) (l1 : List Int) : Option (Bool) := if (l0.length : Int) > 1048576 then (some true) else (some (decide ((l1.length : Int) > (wrap64 (1048576 - (l0.length : Int))))))
theorem laws_big.calls (A0 : Option Addr) (c0 : Nat) (l0 : List Int) (A1 : Option Addr) (c1 : Nat) (l1 : List Int) (r : Bool) (w : World) (hr0 : Kd.C (Kd.int .u8) w A0 l0.length l0) (hc0 : l0.length ≤ c0) (hr1 : Kd.C (Kd.int .u8) w A1 l1.length l1) (hc1 : l1.length ≤ c1) (h : laws_big.f l0 l1 = some r) :
 Calls Try.prog 13 #[.slice A0 l0.length c0, .slice A1 l1.length c1] w fun e w' => e = .returned (.bool r) ∧ Drawn0 w w' := by
 have HR0 := zad hr0; have HC0 := zad hc0; clear hr0 hc0; have HR1 := zad hr1; have HC1 := zad hc1; clear hr1 hc1; have H : (if (l0.length : Int) > 1048576 then (some true) else (some (decide ((l1.length : Int) > (wrap64 (1048576 - (l0.length : Int))))))) = some r := h
 clear h; by_cases c3 : (l0.length : Int) > 1048576
 · rw [if_pos c3] at H
   have c3b0 : decide (1048576 < (l0.length : Int)) = true := zba c3
   have c3b1 : decide (1048576 < l0.length) = true := zba (by omega)
   clear c3; obtain rfl := zbc H
   go_enter Try.func13, Try.ntmps13
   go_wp2
   go_ret
   exact ⟨taag, taak⟩
 · rw [if_neg c3] at H
   have c3b0 : decide (1048576 < (l0.length : Int)) = false := zbh c3
   have c3b1 : decide (1048576 < l0.length) = false := zbh (by omega)
   clear c3; obtain rfl := zbc H
   go_enter Try.func13, Try.ntmps13
   go_wp2
   go_ret
   exact ⟨taag, taak⟩
def impl_within.f (a0 : Int) (a1 : Int) (a2 : Int) : Option (Bool) := if a0 ≥ a1 then (some (decide (a0 ≤ a2))) else (some false)
theorem impl_within.calls (a0 : Int) (a1 : Int) (a2 : Int) (r : Bool) (w : World) (h : impl_within.f a0 a1 a2 = some r) :
 Calls Try.prog 83 #[.int .i64 a0, .int .i64 a1, .int .i64 a2] w fun e w' => e = .returned (.bool r) ∧ Drawn0 w w' := by
 have H : (if a0 ≥ a1 then (some (decide (a0 ≤ a2))) else (some false)) = some r := h
 clear h; by_cases c4 : a0 ≥ a1
 · rw [if_pos c4] at H
   have c4b0 : decide (a1 ≤ a0) = true := zba c4
   clear c4; obtain rfl := zbc H
   go_enter Try.func83, Try.ntmps83
   go_wp2
   go_ret
   exact ⟨taag, taak⟩
 · rw [if_neg c4] at H
   have c4b0 : decide (a1 ≤ a0) = false := zbh c4
   clear c4; obtain rfl := zbc H
   go_enter Try.func83, Try.ntmps83
   go_wp2
   go_ret
   exact ⟨taag, taak⟩
def impl_allWithin.l0 : Nat → Int → Int → List Int → Int → Int → Option (Bool)
 | 0, _, _, _, _, _ => none
 | k + 1, x1, x2, x9, x10, x11 => if x11 < x10 then (if 0 ≤ x11 then (if x11 < (x9.length : Int) then ((impl_within.f (rd x9 x11) x1 x2).bind fun t158 => (if t158 = true then (impl_allWithin.l0 k x1 x2 x9 x10 (wrap64 (x11 + 1))) else (some false))) else (none)) else (none)) else (some true)
def impl_allWithin.f (k : Nat) (l0 : List Int) (a1 : Int) (a2 : Int) : Option (Bool) := impl_allWithin.l0 k a1 a2 l0 (l0.length : Int) 0
theorem impl_allWithin.calls (k : Nat) (A0 : Option Addr) (c0 : Nat) (l0 : List Int) (a1 : Int) (a2 : Int) (r : Bool) (w : World) (hr0 : Kd.C (Kd.int .i64) w A0 l0.length l0) (hc0 : l0.length ≤ c0) (h : impl_allWithin.f k l0 a1 a2 = some r) :
 Calls Try.prog 86 #[.slice A0 l0.length c0, .int .i64 a1, .int .i64 a2] w fun e w' => e = .returned (.bool r) ∧ Drawn0 w w' := by
 have HR0 := zad hr0; have HC0 := zad hc0; clear hr0 hc0; have H : (impl_allWithin.l0 k a1 a2 l0 (l0.length : Int) 0) = some r := h
 clear h; have H' := zad H
 clear H; go_enter Try.func86, Try.ntmps86
 go_wp2
 go_loopg [11] k (fun kq v11 w' => ∃ (x11_1 : Int), v11 = .int .i64 x11_1 ∧ Aside0 (impl_allWithin.l0 kq a1 a2 l0 (l0.length : Int) x11_1 = some r) ∧ Aside0 (kq ≤ k) ∧ Drawn0 w w')
 case atStart => exact ⟨(0), (taag), H', ⟨zcf _⟩, taak⟩
 case round =>
  clear H'
  try clear p2
  obtain ⟨x11_1, rfl, HA, HK1, ⟨m1, rfl⟩⟩ := hrel
  cases gk with
  | zero => exact absurd HA.out (by simp [impl_allWithin.l0])
  | succ k1 =>
   have H := HA.out
   clear HA; simp only [impl_allWithin.l0] at H
   by_cases c4 : x11_1 < (l0.length : Int)
   · rw [if_pos c4] at H
     have c4b0 : decide (x11_1 < (l0.length : Int)) = true := zba c4
     clear c4; by_cases c5 : 0 ≤ x11_1
     · rw [if_pos c5] at H
       have c5b0 : decide (0 ≤ x11_1) = true := zba c5
       clear c5; by_cases c6 : x11_1 < (l0.length : Int)
       · rw [if_pos c6] at H
         have c6b0 : decide (x11_1 < (l0.length : Int)) = true := zba c6
         clear c6; replace H := zay.mp H; obtain ⟨t158, A70, H⟩ := H
         replace H : (if t158 = true then (impl_allWithin.l0 k1 a1 a2 l0 (l0.length : Int) (wrap64 (x11_1 + 1))) else (some false)) = some r := H
         have A7 := zad A70; clear A70; by_cases c8 : t158 = true
         · subst c8
           have H1 : (impl_allWithin.l0 k1 a1 a2 l0 (l0.length : Int) (wrap64 (x11_1 + 1))) = some r := by rw [if_pos rfl] at H; exact H
           clear H; have H := H1; clear H1; have H' := zad H
           clear H; have p157 : 0 ≤ (x11_1 : Int) := zas (taab)
           have q157 : x11_1 < (l0.length : Int) := zas (taab)
           obtain ⟨ad157, e157, hx157_0⟩ := zca HR0.out x11_1 p157 q157
           cases e157
           replace p157 := eq_true p157
           replace q157 := eq_true q157
           go_wp2_with (first | ((with_reducible refine zbf (f := 83) rfl ?_); refine zbn (some 18) rfl rfl Try.func83 (by kernel_rfl) rfl #[.int .i64 (rd l0 x11_1), .int .i64 a1, .int .i64 a2] rfl (taad) ?_; (with_reducible refine (impl_within.calls (rd l0 x11_1) a1 a2 true _ A7.out).mono ?_); rintro e w' ⟨rfl, ⟨nd, rfl⟩⟩; refine ⟨_, rfl, ?_⟩))
           go_roundg k1
           case measure => have := HK1.out; omega
           case rel => exact ⟨(wrap64 (x11_1 + 1)), (taag), H', ⟨taau⟩, taak⟩
         · replace c8 := zbg.mpr c8
           subst c8; have H1 : (some false) = some r := by rw [if_neg (show ¬ (false = true) by decide)] at H; exact H
           clear H; have H := H1; clear H1; obtain rfl := zbc H
           have p157 : 0 ≤ (x11_1 : Int) := zas (taab)
           have q157 : x11_1 < (l0.length : Int) := zas (taab)
           obtain ⟨ad157, e157, hx157_0⟩ := zca HR0.out x11_1 p157 q157
           cases e157
           replace p157 := eq_true p157
           replace q157 := eq_true q157
           go_wp2_with (first | ((with_reducible refine zbf (f := 83) rfl ?_); refine zbn (some 18) rfl rfl Try.func83 (by kernel_rfl) rfl #[.int .i64 (rd l0 x11_1), .int .i64 a1, .int .i64 a2] rfl (taad) ?_; (with_reducible refine (impl_within.calls (rd l0 x11_1) a1 a2 false _ A7.out).mono ?_); rintro e w' ⟨rfl, ⟨nd, rfl⟩⟩; refine ⟨_, rfl, ?_⟩))
           go_ret
           exact ⟨taag, taak⟩
       · rw [if_neg c6] at H
         exact absurd H (taac)
     · rw [if_neg c5] at H
       exact absurd H (taac)
   · rw [if_neg c4] at H
     have c4b0 : decide (x11_1 < (l0.length : Int)) = false := zbh c4
     clear c4; obtain rfl := zbc H
     go_wp2
     go_ret
     exact ⟨taag, taak⟩
def impl_IsList.f (k : Nat) (l0 : List Int) : Option (Bool) := (impl_within.f (l0.length : Int) 1 8).bind fun t159 => (if t159 = true then ((impl_allWithin.f k l0 0 60).bind fun t160 => (some t160)) else (some false))
theorem impl_IsList.calls (k : Nat) (A0 : Option Addr) (c0 : Nat) (l0 : List Int) (r : Bool) (w : World) (hr0 : Kd.C (Kd.int .i64) w A0 l0.length l0) (hc0 : l0.length ≤ c0) (h : impl_IsList.f k l0 = some r) :
 Calls Try.prog 19 #[.slice A0 l0.length c0] w fun e w' => e = .returned (.bool r) ∧ Drawn0 w w' := by
 have HR0 := zad hr0; have HC0 := zad hc0; clear hr0 hc0; have H : ((impl_within.f (l0.length : Int) 1 8).bind fun t159 => (if t159 = true then ((impl_allWithin.f k l0 0 60).bind fun t160 => (some t160)) else (some false))) = some r := h
 clear h; replace H := zay.mp H; obtain ⟨t159, A20, H⟩ := H
 replace H : (if t159 = true then ((impl_allWithin.f k l0 0 60).bind fun t160 => (some t160)) else (some false)) = some r := H
 have A2 := zad A20; clear A20; by_cases c3 : t159 = true
 · subst c3
   have H1 : ((impl_allWithin.f k l0 0 60).bind fun t160 => (some t160)) = some r := by rw [if_pos rfl] at H; exact H
   clear H; have H := H1; clear H1; replace H := zay.mp H; obtain ⟨t160, A40, H⟩ := H
   replace H : (some t160) = some r := H
   have A4 := zad A40; clear A40; obtain rfl := zbc H
   go_enter Try.func19, Try.ntmps19
   go_wp2_with (first | ((with_reducible refine zbf (f := 83) rfl ?_); refine zbn (some 5) rfl rfl Try.func83 (by kernel_rfl) rfl #[.int .i64 (l0.length : Int), .int .i64 1, .int .i64 8] rfl (taad) ?_; (with_reducible refine (impl_within.calls (l0.length : Int) 1 8 true _ A2.out).mono ?_); rintro e w' ⟨rfl, ⟨nd, rfl⟩⟩; refine ⟨_, rfl, ?_⟩) | (go_at_call 86; (with_reducible refine (impl_allWithin.calls k _ _ l0 0 60 t160 _ ?side1 ?side2 A4.out).mono ?_); (case side1 => repeat (first | exact HR0.out | (with_reducible refine zal ?_ _) | (with_reducible refine zam ?_ _) | (with_reducible refine zan ?_))); (case side2 => exact HC0.out); rintro e w' ⟨rfl, ⟨nd, rfl⟩⟩))
   go_ret
   exact ⟨taag, taak⟩
 · replace c3 := zbg.mpr c3
   subst c3; have H1 : (some false) = some r := by rw [if_neg (show ¬ (false = true) by decide)] at H; exact H
   clear H; have H := H1; clear H1; obtain rfl := zbc H
   go_enter Try.func19, Try.ntmps19
   go_wp2_with (first | ((with_reducible refine zbf (f := 83) rfl ?_); refine zbn (some 5) rfl rfl Try.func83 (by kernel_rfl) rfl #[.int .i64 (l0.length : Int), .int .i64 1, .int .i64 8] rfl (taad) ?_; (with_reducible refine (impl_within.calls (l0.length : Int) 1 8 false _ A2.out).mono ?_); rintro e w' ⟨rfl, ⟨nd, rfl⟩⟩; refine ⟨_, rfl, ?_⟩))
   go_ret
   exact ⟨taag, taak⟩
def impl_areLists.f (k : Nat) (l0 : List Int) (l1 : List Int) : Option (Bool) := (impl_IsList.f k l0).bind fun t262 => (if t262 = true then ((impl_IsList.f k l1).bind fun t263 => (some t263)) else (some false))
theorem impl_areLists.calls (k : Nat) (A0 : Option Addr) (c0 : Nat) (l0 : List Int) (A1 : Option Addr) (c1 : Nat) (l1 : List Int) (r : Bool) (w : World) (hr0 : Kd.C (Kd.int .i64) w A0 l0.length l0) (hc0 : l0.length ≤ c0) (hr1 : Kd.C (Kd.int .i64) w A1 l1.length l1) (hc1 : l1.length ≤ c1) (h : impl_areLists.f k l0 l1 = some r) :
 Calls Try.prog 107 #[.slice A0 l0.length c0, .slice A1 l1.length c1] w fun e w' => e = .returned (.bool r) ∧ Drawn0 w w' := by
 have HR0 := zad hr0; have HC0 := zad hc0; clear hr0 hc0; have HR1 := zad hr1; have HC1 := zad hc1; clear hr1 hc1; have H : ((impl_IsList.f k l0).bind fun t262 => (if t262 = true then ((impl_IsList.f k l1).bind fun t263 => (some t263)) else (some false))) = some r := h
 clear h; replace H := zay.mp H; obtain ⟨t262, A30, H⟩ := H
 replace H : (if t262 = true then ((impl_IsList.f k l1).bind fun t263 => (some t263)) else (some false)) = some r := H
 have A3 := zad A30; clear A30; by_cases c4 : t262 = true
 · subst c4
   have H1 : ((impl_IsList.f k l1).bind fun t263 => (some t263)) = some r := by rw [if_pos rfl] at H; exact H
   clear H; have H := H1; clear H1; replace H := zay.mp H; obtain ⟨t263, A50, H⟩ := H
   replace H : (some t263) = some r := H
   have A5 := zad A50; clear A50; obtain rfl := zbc H
   go_enter Try.func107, Try.ntmps107
   go_wp2_with (first | ((with_reducible refine zbf (f := 19) rfl ?_); refine zbn (some 6) rfl rfl Try.func19 (by kernel_rfl) rfl #[.slice A0 l0.length c0] rfl (taad) ?_; (with_reducible refine (impl_IsList.calls k _ _ l0 true _ ?side1 ?side2 A3.out).mono ?_); (case side1 => repeat (first | exact HR0.out | (with_reducible refine zal ?_ _) | (with_reducible refine zam ?_ _) | (with_reducible refine zan ?_))); (case side2 => exact HC0.out); rintro e w' ⟨rfl, ⟨nd, rfl⟩⟩; refine ⟨_, rfl, ?_⟩) | (go_at_call 19; (with_reducible refine (impl_IsList.calls k _ _ l1 t263 _ ?side1 ?side2 A5.out).mono ?_); (case side1 => repeat (first | exact HR1.out | (with_reducible refine zal ?_ _) | (with_reducible refine zam ?_ _) | (with_reducible refine zan ?_))); (case side2 => exact HC1.out); rintro e w' ⟨rfl, ⟨nd, rfl⟩⟩))
   go_ret
   exact ⟨taag, taak⟩
 · replace c4 := zbg.mpr c4
   subst c4; have H1 : (some false) = some r := by rw [if_neg (show ¬ (false = true) by decide)] at H; exact H
   clear H; have H := H1; clear H1; obtain rfl := zbc H
   go_enter Try.func107, Try.ntmps107
   go_wp2_with (first | ((with_reducible refine zbf (f := 19) rfl ?_); refine zbn (some 6) rfl rfl Try.func19 (by kernel_rfl) rfl #[.slice A0 l0.length c0] rfl (taad) ?_; (with_reducible refine (impl_IsList.calls k _ _ l0 false _ ?side1 ?side2 A3.out).mono ?_); (case side1 => exact taeu); (case side2 => exact HC0.out); rintro e w' ⟨rfl, ⟨nd, rfl⟩⟩; refine ⟨_, rfl, ?_⟩))
   go_ret
   exact ⟨taag, taak⟩
def impl_total.l0 : Nat → Int → List Int → Int → Int → Option (Int)
 | 0, _, _, _, _ => none
 | k + 1, x3, x6, x7, x8 => if x8 < x7 then (if 0 ≤ x8 then (if x8 < (x6.length : Int) then (impl_total.l0 k (wrap64 (x3 + (rd x6 x8))) x6 x7 (wrap64 (x8 + 1))) else (none)) else (none)) else (some x3)
def impl_total.f (k : Nat) (l0 : List Int) : Option (Int) := impl_total.l0 k 0 l0 (l0.length : Int) 0
theorem impl_total.calls (k : Nat) (A0 : Option Addr) (c0 : Nat) (l0 : List Int) (r : Int) (w : World) (hr0 : Kd.C (Kd.int .i64) w A0 l0.length l0) (hc0 : l0.length ≤ c0) (h : impl_total.f k l0 = some r) :
 Calls Try.prog 125 #[.slice A0 l0.length c0] w fun e w' => e = .returned (.int .i64 r) ∧ Drawn0 w w' := by
 have HR0 := zad hr0; have HC0 := zad hc0; clear hr0 hc0; have H : (impl_total.l0 k 0 l0 (l0.length : Int) 0) = some r := h
 clear h; have H' := zad H
 clear H; go_enter Try.func125, Try.ntmps125
 go_wp2
 go_loopg [3, 8] k (fun kq v3 v8 w' => ∃ (x3_1 : Int) (x8_1 : Int), v3 = .int .i64 x3_1 ∧ v8 = .int .i64 x8_1 ∧ Aside0 (impl_total.l0 kq x3_1 l0 (l0.length : Int) x8_1 = some r) ∧ Aside0 (kq ≤ k) ∧ Drawn0 w w')
 case atStart => exact ⟨(0), (0), (taag), (taag), H', ⟨zcf _⟩, taak⟩
 case round =>
  clear H'
  try clear c1
  obtain ⟨x3_1, x8_1, rfl, rfl, HA, HK1, ⟨m1, rfl⟩⟩ := hrel
  cases gk with
  | zero => exact absurd HA.out (by simp [impl_total.l0])
  | succ k1 =>
   have H := HA.out
   clear HA; simp only [impl_total.l0] at H
   by_cases c2 : x8_1 < (l0.length : Int)
   · rw [if_pos c2] at H
     have c2b0 : decide (x8_1 < (l0.length : Int)) = true := zba c2
     clear c2; by_cases c3 : 0 ≤ x8_1
     · rw [if_pos c3] at H
       have c3b0 : decide (0 ≤ x8_1) = true := zba c3
       clear c3; by_cases c4 : x8_1 < (l0.length : Int)
       · rw [if_pos c4] at H
         have c4b0 : decide (x8_1 < (l0.length : Int)) = true := zba c4
         clear c4; have H' := zad H
         clear H; have p264 : 0 ≤ (x8_1 : Int) := zas (taab)
         have q264 : x8_1 < (l0.length : Int) := zas (taab)
         obtain ⟨ad264, e264, hx264_0⟩ := zca HR0.out x8_1 p264 q264
         cases e264
         replace p264 := eq_true p264
         replace q264 := eq_true q264
         go_wp2
         go_roundg k1
         case measure => have := HK1.out; omega
         case rel => exact ⟨(wrap64 (x3_1 + (rd l0 x8_1))), (wrap64 (x8_1 + 1)), (taag), (taag), H', ⟨taau⟩, taak⟩
       · rw [if_neg c4] at H
         exact absurd H (taac)
     · rw [if_neg c3] at H
       exact absurd H (taac)
   · rw [if_neg c2] at H
     have c2b0 : decide (x8_1 < (l0.length : Int)) = false := zbh c2
     clear c2; obtain rfl := zbc H
     go_wp2
     go_ret
     exact ⟨taag, taak⟩
def impl_doFit.f (k : Nat) (l0 : List Int) (l1 : List Int) : Option (Bool) := if (l0.length : Int) = (l1.length : Int) then ((impl_total.f k l0).bind fun t265 => ((impl_total.f k l1).bind fun t266 => (some (t265 == t266)))) else (some false)
theorem impl_doFit.calls (k : Nat) (A0 : Option Addr) (c0 : Nat) (l0 : List Int) (A1 : Option Addr) (c1 : Nat) (l1 : List Int) (r : Bool) (w : World) (hr0 : Kd.C (Kd.int .i64) w A0 l0.length l0) (hc0 : l0.length ≤ c0) (hr1 : Kd.C (Kd.int .i64) w A1 l1.length l1) (hc1 : l1.length ≤ c1) (h : impl_doFit.f k l0 l1 = some r) :
 Calls Try.prog 112 #[.slice A0 l0.length c0, .slice A1 l1.length c1] w fun e w' => e = .returned (.bool r) ∧ Drawn0 w w' := by
 have HR0 := zad hr0; have HC0 := zad hc0; clear hr0 hc0; have HR1 := zad hr1; have HC1 := zad hc1; clear hr1 hc1; have H : (if (l0.length : Int) = (l1.length : Int) then ((impl_total.f k l0).bind fun t265 => ((impl_total.f k l1).bind fun t266 => (some (t265 == t266)))) else (some false)) = some r := h
 clear h; by_cases c3 : (l0.length : Int) = (l1.length : Int)
 · rw [if_pos c3] at H
   have c3b0 : ((l0.length : Int) == (l1.length : Int)) = true := beq_iff_eq.mpr c3
   have c3b1 : ((l0.length : Int) != (l1.length : Int)) = false := bne_eq_false_iff_eq.mpr c3
   have c3b2 : (l0.length == l1.length) = true := by first | simpa using c3 | (simp at c3 ⊢; omega)
   clear c3; replace H := zay.mp H; obtain ⟨t265, A40, H⟩ := H
   replace H : ((impl_total.f k l1).bind fun t266 => (some (t265 == t266))) = some r := H
   have A4 := zad A40; clear A40; replace H := zay.mp H; obtain ⟨t266, A50, H⟩ := H
   replace H : (some (t265 == t266)) = some r := H
   have A5 := zad A50; clear A50; obtain rfl := zbc H
   go_enter Try.func112, Try.ntmps112
   go_wp2_with (first | (go_at_call 125; (with_reducible refine (impl_total.calls k _ _ l0 t265 _ ?side1 ?side2 A4.out).mono ?_); (case side1 => repeat (first | exact HR0.out | (with_reducible refine zal ?_ _) | (with_reducible refine zam ?_ _) | (with_reducible refine zan ?_))); (case side2 => exact HC0.out); rintro e w' ⟨rfl, ⟨nd, rfl⟩⟩) | (go_at_call 125; (with_reducible refine (impl_total.calls k _ _ l1 t266 _ ?side1 ?side2 A5.out).mono ?_); (case side1 => repeat (first | exact HR1.out | (with_reducible refine zal ?_ _) | (with_reducible refine zam ?_ _) | (with_reducible refine zan ?_))); (case side2 => exact HC1.out); rintro e w' ⟨rfl, ⟨nd, rfl⟩⟩))
   go_ret
   exact ⟨taag, taak⟩
 · rw [if_neg c3] at H
   have c3b0 : ((l0.length : Int) == (l1.length : Int)) = false := zbo.mpr c3
   have c3b1 : ((l0.length : Int) != (l1.length : Int)) = true := bne_iff_ne.mpr c3
   have c3b2 : (l0.length == l1.length) = false := by first | simpa using c3 | (simp at c3 ⊢; omega)
   obtain rfl := zbc H
   go_enter Try.func112, Try.ntmps112
   go_wp2
   go_ret
   exact ⟨taag, taak⟩
def slices_Clone_int_int.f (l0 : List Int) : Option (List Int) := if l0.length ≤ 17592186044416 then some l0 else none
theorem slices_Clone_int_int.calls (A0 : Option Addr) (c0 : Nat) (l0 : List Int) (r : List Int) (w : World) (hr0 : Kd.C (Kd.int .i64) w A0 l0.length l0) (hc0 : l0.length ≤ c0) (h : slices_Clone_int_int.f l0 = some r) :
 Calls Try.prog 146 #[.slice A0 l0.length c0] w fun e w' => ∃ v0_ : Value, e = .returned (v0_) ∧ Kd.R (Kd.int .i64) 3 w' w.heap.size (fun _ => True) v0_ r ∧ Below w.heap.size w w' := by
 have hl : l0.length ≤ 17592186044416 ∧ l0 = r := by
  unfold slices_Clone_int_int.f at h
  by_cases c : l0.length ≤ 17592186044416
  · rw [if_pos c] at h
    exact ⟨c, zbc h⟩
  · rw [if_neg c] at h
    cases h
 clear h; obtain ⟨hl, rfl⟩ := hl
 have hn := (Kd.reads_of_C (d := (0 : Int)) (h1 := fun _ => rfl) hr0).2.2
 clear hr0; have q := fun (w : World) (a : Option Addr) (n c n' c' : Nat) => Lib.run_eql_slice_nil (P := Try.prog) w 26 3 a n c n' c' Try.underlying26
 cases A0 with
 | none =>
  have e0 : l0 = [] := by
   cases l0 with
   | nil => rfl
   | cons x t =>
    obtain ⟨ad, e', _⟩ := hn (taac)
    cases e'
  subst e0; clear hn; go_enter Try.func146, Try.ntmps146
  go_wp2
  go_ret
  exact ⟨_, rfl, Kd.R_nil _ _ _ _ _, Below.refl _ _⟩
 | some ad =>
  have HC : Aside0 (∀ j u, (encs (Value.int .i64) l0)[j]? = some u → w.cell? (ad.add j) = some u) := ⟨by
   intro j u hj
   have hjl : j < l0.length := by
    have := (List.getElem?_eq_some_iff.1 hj).1
    rwa [encs_length] at this
   obtain ⟨ad', e', hcell⟩ := hn (by omega)
   cases e'
   rw [encs_get (d := (0 : Int)) l0 j hjl] at hj
   injection hj with hj
   rw [← hj]
   exact hcell j hjl⟩
  clear hn; obtain ⟨i0, hi, hzz⟩ := Option.map_eq_some_iff.1 info3
  simp only [zbp] at hzz
  obtain ⟨hz0, hz1, hz2⟩ := hzz
  have Hl := zad hl; have Hc := zad hc0; clear hl hc0; go_enter Try.func146, Try.ntmps146
  go_wp2_with (at_builtin; refine wpList_append_own _ rfl _ _ 26 rfl w.heap.size 3 i0 (.int .i64 0) 1 8 Try.underlying26 hi hz0 hz1 hz2 rfl (by decide) _ _ _ rfl (World.ownsRow_made w #[] 0 (zcf _) (Nat.zero_le _) (taac)) ad l0.length c0 (encs (Value.int .i64) l0) rfl ?qc1 ?qc2 ?qc3 ?qc4 ?qc5 ?qc6 ?_)
  case qc1 => rw [encs_length, Nat.mul_one]
  case qc2 =>
   intro j u hj
   exact Lib.cell?_alloc_some _ (HC.out j u hj)
  case qc3 =>
   intro u hu
   obtain ⟨x, _, rfl⟩ := List.mem_map.1 hu
   rfl
  case qc4 =>
   have := Hl.out
   unfold maxLen
   omega
  case qc5 =>
   have := Hl.out
   omega
  case qc6 => simp
  intro v' w1 hown hgrow hnil
  go_wp2
  go_ret
  refine ⟨v', rfl, ?_, ?_⟩
  · refine Kd.R_of_own ?_ (fun _ _ => trivial)
    simpa using hown
  · exact ((Below.refl _ w).alloc (zcf _) _).grown hgrow (taac) (by intro k hk; simp [Value.ownBlock] at hk; omega)
section
open Go.Shelf Go.Lib Go.Sort
theorem heap_sorted {α : Type} [Inhabited α] (enc : α → Value) (w : World) (blk off m : Nat) (d : Array α) (os : Array Obj) (k : Nat) (hk : k < w.heap.size) :
 (sortWorld enc w blk off m d os).heap[k]? = if blk = k then (w.heap[k]?).map (onCells (putCells enc off d)) else w.heap[k]? := by
 have h1 : (sortWorld enc w blk off m d os).heap = (w.heap.modify blk (onCells (putCells enc off d))) ++ os := rfl
 rw [h1, Array.getElem?_append_left (by rw [Array.size_modify]; exact hk), Array.getElem?_modify]
theorem size_sorted {α : Type} [Inhabited α] (enc : α → Value) (w : World) (blk off m : Nat) (d : Array α) (os : Array Obj) : w.heap.size ≤ (sortWorld enc w blk off m d os).heap.size := by
 have h1 : (sortWorld enc w blk off m d os).heap = (w.heap.modify blk (onCells (putCells enc off d))) ++ os := rfl
 rw [h1, Array.size_append, Array.size_modify]
 omega
theorem below_sorted {α : Type} [Inhabited α] (enc : α → Value) {w w1 : World} (hb : Below w.heap.size w w1) {blk off m : Nat} (d : Array α) (os : Array Obj) (hg : w.heap.size ≤ blk) : Below w.heap.size w (sortWorld enc w1 blk off m d os) := by
 refine ⟨hb.os, hb.tape, hb.output, Nat.le_trans hb.size (size_sorted _ _ _ _ _ _ _), fun k hk => ?_⟩
 rw [heap_sorted _ _ _ _ _ _ _ _ (Nat.lt_of_lt_of_le hk hb.size), if_neg (by omega)]
 exact hb.block k hk
theorem putCells_take {α : Type} [Inhabited α] (enc : α → Value) (d : Array α) (cur : Array Value) (h : d.size ≤ cur.size) : (putCells enc 0 d cur).toList.take d.size = d.toList.map enc := by
 apply List.ext_getElem?
 intro i
 by_cases hi : i < d.size
 · rw [List.getElem?_take_of_lt hi, List.getElem?_map, Array.getElem?_toList, Array.getElem?_toList, Array.getElem?_eq_getElem hi]
   unfold putCells
   rw [Array.getElem?_mapIdx, Array.getElem?_eq_getElem (show i < cur.size by omega)]
   simp [hi, getElem!_pos]
 · rw [List.getElem?_eq_none (by rw [zax]; omega), List.getElem?_eq_none (by simp; omega)]
theorem own_sorted {α : Type} [Inhabited α] (enc : α → Value) {w1 : World} {base e n g cap m : Nat} {cur : Array Value} (d : Array α) (os : Array Obj) (hb : base ≤ g) (hh : w1.heap[g]? = some (.cells cur e (0, 0))) (hn : n ≤ cap) (hc : cap ≤ maxLen) (hs : cur.size = cap * 1) (hd : d.size = n) :
 (sortWorld enc w1 g 0 m d os).ownsRow base e 1 (.slice (some ⟨g, 0, none⟩) n cap) n (d.toList.map enc) := by
 have hg : g < w1.heap.size := (Array.getElem?_eq_some_iff.1 hh).1
 refine ⟨by simp [hd], .inr ⟨g, cap, putCells enc 0 d cur, rfl, hb, ?_, hn, hc, ?_, ?_⟩⟩
 · rw [heap_sorted _ _ _ _ _ _ _ _ hg, if_pos rfl, hh]
   rfl
 · unfold putCells
   rw [Array.size_mapIdx]
   exact hs
 · rw [Nat.mul_one, ← hd]
   exact putCells_take enc d cur (by omega)
theorem holds_own {α : Type} [Inhabited α] (enc : α → Value) {w1 : World} {e n g cap : Nat} {cur : Array Value} (d : Array α) (hh : w1.heap[g]? = some (.cells cur e (0, 0))) (hn : n ≤ cap) (hs : cur.size = cap * 1) (hd : d.size = n) (ht : cur.toList.take (n * 1) = d.toList.map enc) : Holds enc w1 g 0 d := by
 intro j hj
 have h1 : (cur.toList.take (n * 1))[j]? = (d.toList.map enc)[j]? := by rw [ht]
 rw [List.getElem?_take_of_lt (by omega), List.getElem?_map, Array.getElem?_toList, Array.getElem?_toList, Array.getElem?_eq_getElem hj] at h1
 rw [Nat.zero_add]
 refine ⟨?_, zbj hh j⟩
 rw [zbi hh j, h1, getElem!_pos d j hj]
 rfl
end
end Go.Proofs.Ytnlimjejllakoaa.A
/-
  DERIVED: THE SHELF's CONTRACTS AT THIS DUMP, IN PLAIN WORDS (tools/lay-plain.mjs out of 'YtnlimjejllakoaaShelf.lean', which tools/lay-shelf.mjs wrote): THE SAME DECLARATIONS UNDER THE SAME NAMES: 'import', 'namespace', 'open', 'def', 'theorem' AND NOTHING ELSE: no command of the shelf's: FOR A HAND-IN. Each laying: the table of numbers ('.._ren') and one theorem, a field a fact of the dump's own or the kernel's comparison; each contract: ONE APPLICATION.
-/
namespace Go.Proofs
open Go.Shelf
def Try.sortL_ren : Go.Shelf.Ren := ⟨fun | 6 => 147 | 15 => 158 | 14 => 157 | 28 => 167 | 29 => 168 | 20 => 159 | 21 => 160 | 22 => 161 | 23 => 162 | 24 => 163 | 25 => 164 | 26 => 165 | 27 => 166 | 46 => 169 | 47 => 170 | 48 => 171 | 49 => 172 | 50 => 173 | 57 => 174 | n => n, fun | 22 => 26 | 24 => 3 | 25 => 84 | 3 => 3 | 39 => 106 | 0 => 0 | 53 => 117 | 55 => 73 | 4 => 4 | 46 => 111 | 45 => 110 | 50 => 42 | 5 => 5 | 9 => 9 | 66 => 119 | 70 => 123 | 76 => 125 | 77 => 24 | n => n, fun | n => n⟩
theorem Try.sortL : Go.Proofs.SlLaysF.n6 Try.prog Try.sortL_ren := {
 mixed := by kernel_rfl
 f6 := ⟨Try.f147.name, by decide, Try.func147.trans (congrArg some (by kernel_rfl))⟩
 f14 := ⟨Try.f157.name, by decide, Try.func157.trans (congrArg some (by kernel_rfl))⟩
 f15 := Try.func158.trans (congrArg some (by kernel_rfl))
 f20 := ⟨Try.f159.name, by decide, Try.func159.trans (congrArg some (by kernel_rfl))⟩
 f21 := ⟨Try.f160.name, by decide, Try.func160.trans (congrArg some (by kernel_rfl))⟩
 f22 := ⟨Try.f161.name, by decide, Try.func161.trans (congrArg some (by kernel_rfl))⟩
 f23 := ⟨Try.f162.name, by decide, Try.func162.trans (congrArg some (by kernel_rfl))⟩
 f24 := ⟨Try.f163.name, by decide, Try.func163.trans (congrArg some (by kernel_rfl))⟩
 f25 := ⟨Try.f164.name, by decide, Try.func164.trans (congrArg some (by kernel_rfl))⟩
 f26 := ⟨Try.f165.name, by decide, Try.func165.trans (congrArg some (by kernel_rfl))⟩
 f27 := ⟨Try.f166.name, by decide, Try.func166.trans (congrArg some (by kernel_rfl))⟩
 f28 := Try.func167.trans (congrArg some (by kernel_rfl))
 f29 := Try.func168.trans (congrArg some (by kernel_rfl))
 f46 := ⟨Try.f169.name, by decide, Try.func169.trans (congrArg some (by kernel_rfl))⟩
 f47 := Try.func170.trans (congrArg some (by kernel_rfl))
 f48 := Try.func171.trans (congrArg some (by kernel_rfl))
 f49 := ⟨Try.f172.name, by decide, Try.func172.trans (congrArg some (by kernel_rfl))⟩
 f50 := ⟨Try.f173.name, by decide, Try.func173.trans (congrArg some (by kernel_rfl))⟩
 f57 := ⟨Try.f174.name, by decide, Try.func174.trans (congrArg some (by kernel_rfl))⟩
 t0 := Try.underlying0
 a0 := Try.isAgg0
 z0 := Try.sizeOf0
 v0 := Try.zeroValue0
 t3 := Try.underlying3
 a3 := Try.isAgg3
 z3 := Try.sizeOf3
 v3 := Try.zeroValue3
 t4 := Try.underlying4
 a4 := Try.isAgg4
 z4 := Try.sizeOf4
 v4 := Try.zeroValue4
 t5 := Try.underlying5
 a5 := Try.isAgg5
 z5 := Try.sizeOf5
 v5 := Try.zeroValue5
 t9 := Try.underlying9
 a9 := Try.isAgg9
 z9 := Try.sizeOf9
 v9 := Try.zeroValue9
 t22 := Try.underlying26
 a22 := Try.isAgg26
 z22 := Try.sizeOf26
 v22 := Try.zeroValue26
 a24 := Try.isAgg3
 z24 := Try.sizeOf3
 t25 := Try.underlying84
 a25 := Try.isAgg84
 z25 := Try.sizeOf84
 v25 := Try.zeroValue84
 t39 := Try.underlying106
 a39 := Try.isAgg106
 z39 := Try.sizeOf106
 v39 := Try.zeroValue106
 t45 := Try.underlying110
 a45 := Try.isAgg110
 z45 := Try.sizeOf110
 v45 := Try.zeroValue110
 t46 := Try.underlying111
 a46 := Try.isAgg111
 z46 := Try.sizeOf111
 v46 := Try.zeroValue111
 t50 := Try.underlying42
 a50 := Try.isAgg42
 z50 := Try.sizeOf42
 v50 := Try.zeroValue42
 t53 := Try.underlying117
 a53 := Try.isAgg117
 z53 := Try.sizeOf117
 v53 := Try.zeroValue117
 t55 := Try.underlying73
 a55 := Try.isAgg73
 z55 := Try.sizeOf73
 v55 := Try.zeroValue73
 t66 := Try.underlying119
 a66 := Try.isAgg119
 z66 := Try.sizeOf119
 v66 := Try.zeroValue119
 t70 := Try.underlying123
 a70 := Try.isAgg123
 z70 := Try.sizeOf123
 v70 := Try.zeroValue123
 t76 := Try.underlying125
 a76 := Try.isAgg125
 z76 := Try.sizeOf125
 v76 := Try.zeroValue125
 t77 := Try.underlying24
 a77 := Try.isAgg24
 z77 := Try.sizeOf24
 v77 := Try.zeroValue24 }
end Go.Proofs

namespace Go.Proofs.Ytnlimjejllakoaa.A
open Go.RowKit Go.Proofs.YtnlimjejllakoaaW.PrintWords Go.Proofs.YtnlimjejllakoaaW.PrintLast Go.Proofs.YtnlimjejllakoaaW.PrintMore
attribute [local go_sem] max2_int min2_int max_two min_two max_three min_three max_four min_four
section
open Go.Shelf Go.Lib Go.Sort
def descL (l : List Int) : List Int := l.mergeSort fun x y => decide (y ≤ x)
def smallL (l : List Int) : Bool := decide (l.length ≤ 1000000) && l.all fun x => decide (0 ≤ x ∧ x ≤ 1000000)
def impl_ranking.f (l0 : List Int) : Option (List Int) := if smallL l0 = true then some (descL l0) else none
abbrev SmallI : Type := { x : Int // 0 ≤ x ∧ x ≤ 1000000 }
instance : Inhabited SmallI := ⟨⟨0, by omega, by omega⟩⟩
def encI (x : SmallI) : Value := .int .i64 x.1
def cfI (x y : SmallI) : Int := y.1 - x.1
theorem ltI (x y : SmallI) : ltOf cfI x y = decide (y.1 < x.1) := by
 unfold ltOf cfI
 by_cases h : y.1 < x.1
 · simp [h]
   omega
 · simp [h]
   omega
theorem swoI : SWO (ltOf cfI) where
 irrefl x := by rw [ltI]; simp
 trans x y z h1 h2 := by rw [ltI] at *; simp at *; omega
 ntrans x y z h1 h2 := by rw [ltI] at *; simp at *; omega
theorem totI (x y : SmallI) (h1 : ltOf cfI x y = false) (h2 : ltOf cfI y x = false) : x = y := by
 rw [ltI] at *
 simp at *
 exact Subtype.ext (by omega)
theorem geI : (fun x y : SmallI => !ltOf cfI y x) = fun x y => decide (y.1 ≤ x.1) := by
 funext x y
 rw [ltI]
 by_cases h : y.1 ≤ x.1
 · have h' : ¬ x.1 < y.1 := by omega
   simp [h, h']
 · have h' : x.1 < y.1 := by omega
   simp [h, h']
theorem ranking_cmp (x y : SmallI) (W : World) : Calls Try.prog 148 #[encI x, encI y] W fun e w' => e = .returned (.int .i64 (cfI x y)) ∧ ∃ q, w' = W.drewN q := by
 obtain ⟨x, hx0, hx1⟩ := x
 obtain ⟨y, hy0, hy1⟩ := y
 unfold encI cfI
 go_enter Try.func148, Try.ntmps148
 go_wp2
 go_ret
 exact ⟨rfl, 0, rfl⟩
theorem attach_enc (l : List Int) (h : ∀ x ∈ l, 0 ≤ x ∧ x ≤ 1000000) : (l.attachWith (fun x => 0 ≤ x ∧ x ≤ 1000000) h).map encI = encs (Value.int .i64) l := by
 unfold encs
 rw [show encI = (Value.int .i64) ∘ Subtype.val from rfl, ← List.map_map, List.attachWith_map_subtype_val]
theorem descL_attach (l : List Int) (h : ∀ x ∈ l, 0 ≤ x ∧ x ≤ 1000000) : ((l.attachWith (fun x => 0 ≤ x ∧ x ≤ 1000000) h).mergeSort fun x y => decide (y.1 ≤ x.1)).map encI = encs (Value.int .i64) (descL l) := by
 have h1 : ((l.attachWith (fun x => 0 ≤ x ∧ x ≤ 1000000) h).mergeSort fun x y => decide (y.1 ≤ x.1)).map Subtype.val = descL l := by
  unfold descL
  rw [List.map_mergeSort (s := fun x y => decide (y ≤ x)) (fun a _ b _ => rfl), List.attachWith_map_subtype_val]
 unfold encs
 rw [← h1, List.map_map]
 rfl
theorem impl_ranking.calls (A0 : Option Addr) (c0 : Nat) (l0 : List Int) (r : List Int) (w : World) (hr0 : Kd.C (Kd.int .i64) w A0 l0.length l0) (hc0 : l0.length ≤ c0) (h : impl_ranking.f l0 = some r) :
 Calls Try.prog 88 #[.slice A0 l0.length c0] w fun e w' => ∃ v0_ : Value, e = .returned (v0_) ∧ Kd.R (Kd.int .i64) 3 w' w.heap.size (fun _ => True) v0_ r ∧ Below w.heap.size w w' := by
 have hl : smallL l0 = true ∧ descL l0 = r := by
  unfold impl_ranking.f at h
  by_cases c : smallL l0 = true
  · rw [if_pos c] at h
    exact ⟨c, zbc h⟩
  · rw [if_neg c] at h
    cases h
 clear h; obtain ⟨hs, rfl⟩ := hl
 unfold smallL at hs
 simp only [Bool.and_eq_true, decide_eq_true_eq, List.all_eq_true] at hs
 obtain ⟨hl, hall⟩ := hs
 have HCl := zad (slices_Clone_int_int.calls A0 c0 l0 l0 w hr0 hc0 (by unfold slices_Clone_int_int.f; rw [if_pos (by omega)]))
 have Hall := zad hall; have Hl := zad hl; clear hall hl hr0 hc0; have eg : ∀ args w, (callFunc 148 args).run Try.prog w = .ok (.enter 148 args) w := enters_of Try.func148 (by kernel_rfl) rfl
 have Heg := zad eg; clear eg; go_enter Try.func88, Try.ntmps88
 go_wp2_with fail
 refine HCl.out.mono ?_
 rintro e w1 ⟨v, rfl, hR, hb⟩
 have ho := Kd.own_of_R hR
 clear hR HCl; have Hb := zad hb; clear hb; obtain ⟨hlen', hcase⟩ := ho
 rcases hcase with ⟨rfl, h0⟩ | ⟨g, cap, cur, rfl, hg, hh, hnc, hcm, hcs, htake⟩
 · have hnil : l0 = [] := List.length_eq_zero_iff.1 h0
   subst hnil; clear h0 hlen' Hall Hl
   have hS := AnyF.slices_SortFunc_none (P := Try.prog) (ρ := Try.sortL_ren) { Try.sortL with } none 0 (.func (.func 148) #[] #[]) w1
   change Calls Try.prog 147 _ _ _ at hS
   have HS := zad hS; clear hS; go_wp2_with fail
   refine HS.out.mono ?_
   rintro e w2 ⟨rfl, rfl⟩
   go_wp2
   go_ret
   exact ⟨_, rfl, by unfold descL; simp only [List.mergeSort]; exact Kd.R_nil _ _ _ _ _, Hb.out⟩
 · have hd : (l0.attachWith (fun x => 0 ≤ x ∧ x ≤ 1000000) Hall.out).toArray.size = l0.length := by simp
   have hH := holds_own encI (l0.attachWith (fun x => 0 ≤ x ∧ x ≤ 1000000) Hall.out).toArray hh hnc hcs hd (by
    rw [htake, List.toList_toArray, attach_enc])
   have hS := Any.slices_SortFunc_total Try.sortL encI (fun _ => rfl) cfI swoI 148 #[] g 0 cap (l0.attachWith (fun x => 0 ≤ x ∧ x ≤ 1000000) Hall.out).toArray w1 Heg.out
    (CmpReads.lays (fun _ _ _ _ x y => ranking_cmp x y _)) hH (Array.getElem?_eq_some_iff.1 hh).1 (by have := Hl.out; rw [hd]; omega) totI
   rw [geI, hd] at hS
   change Calls Try.prog 147 _ _ _ at hS
   have HS := zad hS
   have HF : Aside0 (∀ m os, Kd.R (Kd.int .i64) 3 (sortWorld encI w1 g 0 m ((l0.attachWith (fun x => 0 ≤ x ∧ x ≤ 1000000) Hall.out).mergeSort fun x y => decide (y.1 ≤ x.1)).toArray os) w.heap.size (fun _ => True) (.slice (some ⟨g, 0, none⟩) l0.length cap) (descL l0) ∧ Below w.heap.size w (sortWorld encI w1 g 0 m ((l0.attachWith (fun x => 0 ≤ x ∧ x ≤ 1000000) Hall.out).mergeSort fun x y => decide (y.1 ≤ x.1)).toArray os)) := ⟨fun m os => by
    refine ⟨?_, below_sorted encI Hb.out _ os hg⟩
    have hdl : (descL l0).length = l0.length := List.length_mergeSort l0
    have ho := own_sorted encI (m := m) ((l0.attachWith (fun x => 0 ≤ x ∧ x ≤ 1000000) Hall.out).mergeSort fun x y => decide (y.1 ≤ x.1)).toArray os hg hh hnc hcm hcs (by simp [List.length_mergeSort])
    rw [List.toList_toArray, descL_attach] at ho
    exact Kd.R_of_own (by rw [hdl]; exact ho) (fun _ _ => trivial)⟩
   clear hS hH hd hh hnc hcm hcs htake hlen' hg
   go_wp2_with fail
   refine HS.out.mono ?_
   rintro e w2 ⟨rfl, n, os, rfl⟩
   have hF := HF.out n os
   have HF2 := zad hF; clear hF; generalize sortWorld encI w1 g 0 n ((l0.attachWith (fun x => 0 ≤ x ∧ x ≤ 1000000) Hall.out).mergeSort fun x y => decide (y.1 ≤ x.1)).toArray os = w2 at HF2 ⊢
   go_wp2
   go_ret
   exact ⟨_, rfl, HF2.out.1, HF2.out.2⟩
end
def impl_partial.l0 : Nat → List Int → Int → List Int → Int → Int → Option (List Int)
 | 0, _, _, _, _, _ => none
 | k + 1, x3, x4, x9, x10, x11 => if x11 < x10 then (if 0 ≤ x11 then (if x11 < (x9.length : Int) then (if x3.length < 17592186044416 then (impl_partial.l0 k (x3 ++ [wrap64 (x4 + (rd x9 x11))]) (wrap64 (x4 + (rd x9 x11))) x9 x10 (wrap64 (x11 + 1))) else (none)) else (none)) else (none)) else (some x3)
def impl_partial.f (k : Nat) (l0 : List Int) : Option (List Int) := (impl_ranking.f l0).bind fun t270 => (impl_partial.l0 k (([] : List Int)) 0 t270 (t270.length : Int) 0)
theorem impl_partial.calls (k : Nat) (A0 : Option Addr) (c0 : Nat) (l0 : List Int) (r : List Int) (w : World) (hr0 : Kd.C (Kd.int .i64) w A0 l0.length l0) (hc0 : l0.length ≤ c0) (h : impl_partial.f k l0 = some r) :
 Calls Try.prog 119 #[.slice A0 l0.length c0] w fun e w' => ∃ v0_ : Value, e = .returned (v0_) ∧ Kd.R (Kd.int .i64) 3 w' w.heap.size (fun _ => True) v0_ r ∧ Below w.heap.size w w' := by
 have HR0 := zad hr0; have HC0 := zad hc0; clear hr0 hc0; have HB := zad (Below.refl w.heap.size w)
 have H : ((impl_ranking.f l0).bind fun t270 => (impl_partial.l0 k (([] : List Int)) 0 t270 (t270.length : Int) 0)) = some r := h
 clear h; obtain ⟨y267, hy267⟩ : ∃ y_ : List Int, y_ = (([] : List Int)) := ⟨_, rfl⟩
 replace H : ((impl_ranking.f l0).bind fun t270 => (impl_partial.l0 k y267 0 t270 (t270.length : Int) 0)) = some r := by first | (rw [hy267]; with_reducible exact H) | (have H2_ := (zbb _ _).symm.trans H; rw [hy267]; with_reducible exact H2_) | (have H2_ := (zbb _ _).symm.trans H; with_reducible exact H2_) | with_reducible exact H | (rw [hy267]; exact H) | exact H
 have Ny267 := zad hy267; clear hy267; replace H := zay.mp H; obtain ⟨t270, A20, H⟩ := H
 replace H : (impl_partial.l0 k y267 0 t270 (t270.length : Int) 0) = some r := H
 have A2 := zad A20; clear A20; have H' := zad H
 clear H; go_enter Try.func119, Try.ntmps119
 go_wp2_with (first | ((with_reducible refine gate_dst (N := 7) rfl ?_); refine Kd.R_lit (Kd.int .i64) _ 3 ?hg (N := 7) ?hd (xs := ([] : List Int)) (inner := []) (ok := fun _ => True) (okp := fun _ => True) ?hr ?hp (fun _ hk => hk) trivial (Below.refl _ _) (zcf _) (taac) ?_; (case hd => rfl); (case hg => rfl); (case hr => first | (go_simp; done) | (go_simp; rfl)); (case hp => exact (Reps.none _ _)); intro v268 w3 ho4 hb hg_ hnew_; clear hg_ hnew_; (first | rw [← Ny267.out] at ho4 | (simp only [Int.reduceToNat] at ho4; rw [← Ny267.out] at ho4)); have n0_ := zad (zbu ho4 (zbk (taaa))); have n1_ := zad (zbe (taaa) hb); clear HB; have HO269 := n0_; have HB := n1_; clear n0_ n1_ hb ho4) | ((with_reducible refine zbf (f := 88) rfl ?_); refine zbn (some 9) rfl rfl Try.func88 (by kernel_rfl) rfl #[.slice A0 l0.length c0] rfl (taad) ?_; (with_reducible refine (impl_ranking.calls _ _ l0 t270 _ ?side1 ?side2 A2.out).mono ?_); (case side1 => exact taev); (case side2 => exact HC0.out); rintro e w5 ⟨v271, rfl, ho0, hb⟩; refine ⟨_, rfl, ?_⟩; have n0_ := zad (zcb (by (with_reducible repeat (first | apply zai | apply zaj | apply zak)); exact HO269.out) (zcd ho0) hb); have n1_ := zad (zbu (zcc ho0 (zce (by (with_reducible repeat (first | apply zai | apply zaj | apply zak)); exact HO269.out))) (zbk (taaa))); have n2_ := zad (zbe (taaa) hb); clear HO269 HB; have HO269 := n0_; have HO272 := n1_; have HB := n2_; clear n0_ n1_ n2_; (try clear hb); (try clear hb2); (try clear hk); (try clear hi); (try clear ho0); obtain ⟨Ao6, co6, eo6⟩ := zbv HO272.out; subst eo6))
 go_loopg [3, 4, 11] k (fun kq v3 v4 v11 w' => ∃ (x3_1 : List Int) (x4_1 : Int) (x11_1 : Int), v4 = .int .i64 x4_1 ∧ v11 = .int .i64 x11_1 ∧ Aside0 (impl_partial.l0 kq x3_1 x4_1 t270 (t270.length : Int) x11_1 = some r) ∧ Aside0 (kq ≤ k) ∧ Aside0 (Kd.R (Kd.int .i64) 3 w' w.heap.size (fun k_ => some k_ ≠ ((.slice Ao6 t270.length co6) : Value).ownBlock) v3 x3_1) ∧ Aside0 (Kd.R (Kd.int .i64) 3 w' w.heap.size (fun k_ => some k_ ≠ (v3 : Value).ownBlock) (.slice Ao6 t270.length co6) t270) ∧ Aside0 (Below w.heap.size w w'))
 case atStart => exact ⟨(y267), (0), (0), (taag), (taag), H', ⟨zcf _⟩, ⟨by (with_reducible repeat (first | apply zai | apply zaj | apply zak)); exact zbq HO269.out (fun _ hk => hk.2)⟩, ⟨by (with_reducible repeat (first | apply zai | apply zaj | apply zak)); exact zbq HO272.out (fun _ hk => hk.2)⟩, ⟨taaa⟩⟩
 case round =>
  clear H'
  try clear c1
  try clear p2
  obtain ⟨x3_1, x4_1, x11_1, rfl, rfl, HA, HK1, HO_3, HO_9, HB⟩ := hrel
  cases gk with
  | zero => exact absurd HA.out (by simp [impl_partial.l0])
  | succ k1 =>
   have H := HA.out
   clear HA; simp only [impl_partial.l0] at H
   by_cases c7 : x11_1 < (t270.length : Int)
   · rw [if_pos c7] at H
     have c7b0 : decide (x11_1 < (t270.length : Int)) = true := zba c7
     clear c7; by_cases c8 : 0 ≤ x11_1
     · rw [if_pos c8] at H
       have c8b0 : decide (0 ≤ x11_1) = true := zba c8
       clear c8; by_cases c9 : x11_1 < (t270.length : Int)
       · rw [if_pos c9] at H
         have c9b0 : decide (x11_1 < (t270.length : Int)) = true := zba c9
         clear c9; by_cases c10 : x3_1.length < 17592186044416
         · rw [if_pos c10] at H
           have LMc10 := zad c10; clear c10; obtain ⟨y274, hy274⟩ : ∃ y_ : List Int, y_ = (x3_1 ++ [wrap64 (x4_1 + (rd t270 x11_1))]) := ⟨_, rfl⟩
           replace H : (impl_partial.l0 k1 y274 (wrap64 (x4_1 + (rd t270 x11_1))) t270 (t270.length : Int) (wrap64 (x11_1 + 1))) = some r := by first | (rw [hy274]; with_reducible exact H) | (have H2_ := (zbb _ _).symm.trans H; rw [hy274]; with_reducible exact H2_) | (have H2_ := (zbb _ _).symm.trans H; with_reducible exact H2_) | with_reducible exact H | (rw [hy274]; exact H) | exact H
           have Ny274 := zad hy274; clear hy274; have H' := zad H
           clear H; have p273 : 0 ≤ (x11_1 : Int) := zas (taab)
           have q273 : x11_1 < (t270.length : Int) := zas (taab)
           obtain ⟨ad273, e273, hx273_0⟩ := zca (zbd HO_9.out).2.2 x11_1 p273 q273
           cases e273
           replace p273 := eq_true p273
           replace q273 := eq_true q273
           go_wp2_with (first | ((with_reducible refine gate_builtin (b := .append) (xs := #[.tmp 18, .tmp 20]) rfl ?_); at_builtin; refine Kd.R_append (Kd.int .i64) (w0 := w) w.heap.size rfl (.tmp 18) (.tmp 20) 26 3 (.int .i64 0) 8 rfl Try.underlying26 info3 rfl (by decide) (by omega) u3 x3_1 (wrap64 (x4_1 + (rd t270 x11_1))) [.int .i64 (wrap64 (x4_1 + (rd t270 x11_1)))] (fun k_ => some k_ ≠ (.slice (some ad273) t270.length co6 : Value).ownBlock) (fun _ => False) rfl rfl ?aP (fun _ hk => hk.elim) ?aF ?aO ?aB ?aS ?aL ?_; (case aP => exact rfl); (case aB => exact (taaa)); (case aF => exact (fun k_ hk => Kd.fresh' (zce (tabf)) k_ hk)); (case aO => exact (taap)); (case aS => exact (zbk (taaa))); (case aL => have := LMc10.out; omega); intro v275 w11 ho hb hg hat; rw [← Ny274.out] at ho; have n0_ := zad (Kd.R_after (ok := (fun _ => True)) (by (with_reducible repeat (first | apply zai | apply zaj | apply zak)); exact zbq HO_9.out (fun _ hk => ⟨trivial, hk⟩)) hg hat); have n1_ := zad (hb); have n2_ := zad (ho); clear HO_9 HB HO_3; have HO_9 := n0_; have HB := n1_; have HO276 := n2_; clear n0_ n1_ n2_ ho hb hg hat))
           go_roundg k1
           case measure => have := HK1.out; omega
           case rel => exact ⟨(y274), (wrap64 (x4_1 + (rd t270 x11_1))), (wrap64 (x11_1 + 1)), (taag), (taag), H', ⟨taau⟩, ⟨by (with_reducible repeat (first | apply zai | apply zaj | apply zak)); exact HO276.out⟩, ⟨by (with_reducible repeat (first | apply zai | apply zaj | apply zak)); exact zbq HO_9.out (fun _ hk => hk.2)⟩, ⟨taaa⟩⟩
         · rw [if_neg c10] at H
           exact absurd H (taac)
       · rw [if_neg c9] at H
         exact absurd H (taac)
     · rw [if_neg c8] at H
       exact absurd H (taac)
   · rw [if_neg c7] at H
     have c7b0 : decide (x11_1 < (t270.length : Int)) = false := zbh c7
     clear c7; obtain rfl := zbc H
     go_wp2
     go_ret
     exact ⟨_, taah, by (with_reducible repeat (first | apply zai | apply zaj | apply zak)); exact zbq HO_3.out (fun _ hk => trivial), taaa⟩
def impl_refused.l0 : Nat → List Int → List Int → Int → Int → Option (Int)
 | 0, _, _, _, _ => none
 | k + 1, x5, x11, x12, x13 => if x13 < x12 then (if 0 ≤ x13 then (if x13 < (x11.length : Int) then (if x13 < (x5.length : Int) then (if (rd x11 x13) > (rd x5 x13) then (some (wrap64 (x13 + 1))) else (impl_refused.l0 k x5 x11 x12 (wrap64 (x13 + 1)))) else (none)) else (none)) else (none)) else (some 0)
def impl_refused.f (k : Nat) (l0 : List Int) (l1 : List Int) : Option (Int) := (impl_partial.f k l1).bind fun t277 => ((impl_partial.f k l0).bind fun t280 => (impl_refused.l0 k t277 t280 (t280.length : Int) 0))
theorem impl_refused.calls (k : Nat) (A0 : Option Addr) (c0 : Nat) (l0 : List Int) (A1 : Option Addr) (c1 : Nat) (l1 : List Int) (r : Int) (w : World) (hr0 : Kd.C (Kd.int .i64) w A0 l0.length l0) (hc0 : l0.length ≤ c0) (hr1 : Kd.C (Kd.int .i64) w A1 l1.length l1) (hc1 : l1.length ≤ c1) (h : impl_refused.f k l0 l1 = some r) :
 Calls Try.prog 113 #[.slice A0 l0.length c0, .slice A1 l1.length c1] w fun e w' => e = .returned (.int .i64 r) ∧ Below w.heap.size w w' := by
 have HR0 := zad hr0; have HC0 := zad hc0; clear hr0 hc0; have HR1 := zad hr1; have HC1 := zad hc1; clear hr1 hc1; have HB := zad (Below.refl w.heap.size w)
 have H : ((impl_partial.f k l1).bind fun t277 => ((impl_partial.f k l0).bind fun t280 => (impl_refused.l0 k t277 t280 (t280.length : Int) 0))) = some r := h
 clear h; replace H := zay.mp H; obtain ⟨t277, A30, H⟩ := H
 replace H : ((impl_partial.f k l0).bind fun t280 => (impl_refused.l0 k t277 t280 (t280.length : Int) 0)) = some r := H
 have A3 := zad A30; clear A30; replace H := zay.mp H; obtain ⟨t280, A40, H⟩ := H
 replace H : (impl_refused.l0 k t277 t280 (t280.length : Int) 0) = some r := H
 have A4 := zad A40; clear A40; have H' := zad H
 clear H; go_enter Try.func113, Try.ntmps113
 go_wp2_with (first | ((with_reducible refine zbf (f := 119) rfl ?_); refine zbn (some 9) rfl rfl Try.func119 (by kernel_rfl) rfl #[.slice A1 l1.length c1] rfl (taad) ?_; (with_reducible refine (impl_partial.calls k _ _ l1 t277 _ ?side1 ?side2 A3.out).mono ?_); (case side1 => repeat (first | exact HR1.out | (with_reducible refine zal ?_ _) | (with_reducible refine zam ?_ _) | (with_reducible refine zan ?_))); (case side2 => exact HC1.out); rintro e w5 ⟨v278, rfl, ho0, hb⟩; refine ⟨_, rfl, ?_⟩; have n0_ := zad (zbu ho0 (zbk (taaa))); have n1_ := zad (zbe (taaa) hb); clear HB; have HO279 := n0_; have HB := n1_; clear n0_ n1_; (try clear hb); (try clear hb2); (try clear hk); (try clear hi); (try clear ho0)) | ((with_reducible refine zbf (f := 119) rfl ?_); refine zbn (some 11) rfl rfl Try.func119 (by kernel_rfl) rfl #[.slice A0 l0.length c0] rfl (taad) ?_; (with_reducible refine (impl_partial.calls k _ _ l0 t280 _ ?side1 ?side2 A4.out).mono ?_); (case side1 => repeat (first | exact (Kd.C_below HR0.out HB.out) | (with_reducible refine zal ?_ _) | (with_reducible refine zam ?_ _) | (with_reducible refine zan ?_))); (case side2 => exact HC0.out); rintro e w6 ⟨v281, rfl, ho0, hb⟩; refine ⟨_, rfl, ?_⟩; have n0_ := zad (zcb (by (with_reducible repeat (first | apply zai | apply zaj | apply zak)); exact HO279.out) (zcd ho0) hb); have n1_ := zad (zbu (zcc ho0 (zce (by (with_reducible repeat (first | apply zai | apply zaj | apply zak)); exact HO279.out))) (zbk (taaa))); have n2_ := zad (zbe (taaa) hb); clear HO279 HB; have HO279 := n0_; have HO282 := n1_; have HB := n2_; clear n0_ n1_ n2_; (try clear hb); (try clear hb2); (try clear hk); (try clear hi); (try clear ho0); obtain ⟨Ao7, co7, eo7⟩ := zbv HO282.out; subst eo7))
 go_loopg [13] k (fun kq v13 w' => ∃ (x13_1 : Int), v13 = .int .i64 x13_1 ∧ Aside0 (impl_refused.l0 kq t277 t280 (t280.length : Int) x13_1 = some r) ∧ Aside0 (kq ≤ k) ∧ Aside0 (Kd.R (Kd.int .i64) 3 w' w.heap.size (fun k_ => some k_ ≠ ((.slice Ao7 t280.length co7) : Value).ownBlock) v278 t277) ∧ Aside0 (Kd.R (Kd.int .i64) 3 w' w.heap.size (fun k_ => some k_ ≠ (v278 : Value).ownBlock) (.slice Ao7 t280.length co7) t280) ∧ Aside0 (Below w.heap.size w w'))
 case atStart => exact ⟨(0), (taag), H', ⟨zcf _⟩, ⟨by (with_reducible repeat (first | apply zai | apply zaj | apply zak)); exact zbq HO279.out (fun _ hk => hk.2)⟩, ⟨by (with_reducible repeat (first | apply zai | apply zaj | apply zak)); exact zbq HO282.out (fun _ hk => hk.2)⟩, ⟨taaa⟩⟩
 case round =>
  clear H'
  try clear c1
  try clear p2
  obtain ⟨x13_1, rfl, HA, HK1, HO_5, HO_11, HB⟩ := hrel
  cases gk with
  | zero => exact absurd HA.out (by simp [impl_refused.l0])
  | succ k1 =>
   have H := HA.out
   clear HA; simp only [impl_refused.l0] at H
   by_cases c8 : x13_1 < (t280.length : Int)
   · rw [if_pos c8] at H
     have c8b0 : decide (x13_1 < (t280.length : Int)) = true := zba c8
     clear c8; by_cases c9 : 0 ≤ x13_1
     · rw [if_pos c9] at H
       have c9b0 : decide (0 ≤ x13_1) = true := zba c9
       clear c9; by_cases c10 : x13_1 < (t280.length : Int)
       · rw [if_pos c10] at H
         have c10b0 : decide (x13_1 < (t280.length : Int)) = true := zba c10
         clear c10; by_cases c11 : x13_1 < (t277.length : Int)
         · rw [if_pos c11] at H
           have c11b0 : decide (x13_1 < (t277.length : Int)) = true := zba c11
           clear c11; by_cases c12 : (rd t280 x13_1) > (rd t277 x13_1)
           · rw [if_pos c12] at H
             have c12b0 : decide ((rd t277 x13_1) < (rd t280 x13_1)) = true := zba c12
             clear c12; obtain rfl := zbc H
             have p283 : 0 ≤ (x13_1 : Int) := zas (taab)
             have q283 : x13_1 < (t280.length : Int) := zas (taab)
             obtain ⟨ad283, e283, hx283_0⟩ := zca (zbd HO_11.out).2.2 x13_1 p283 q283
             cases e283
             replace p283 := eq_true p283
             replace q283 := eq_true q283
             obtain ⟨Ao13, co13, eo13⟩ := zbv HO_5.out
             subst eo13; have p284 : 0 ≤ (x13_1 : Int) := zas (taab)
             have q284 : x13_1 < (t277.length : Int) := zas (taab)
             obtain ⟨ad284, e284, hx284_0⟩ := zca (zbd HO_5.out).2.2 x13_1 p284 q284
             cases e284
             replace p284 := eq_true p284
             replace q284 := eq_true q284
             go_wp2
             go_ret
             exact ⟨taah, taaa⟩
           · rw [if_neg c12] at H
             have c12b0 : decide ((rd t277 x13_1) < (rd t280 x13_1)) = false := zbh c12
             clear c12; have H' := zad H
             clear H; have p283 : 0 ≤ (x13_1 : Int) := zas (taab)
             have q283 : x13_1 < (t280.length : Int) := zas (taab)
             obtain ⟨ad283, e283, hx283_0⟩ := zca (zbd HO_11.out).2.2 x13_1 p283 q283
             cases e283
             replace p283 := eq_true p283
             replace q283 := eq_true q283
             obtain ⟨Ao14, co14, eo14⟩ := zbv HO_5.out
             subst eo14; have p284 : 0 ≤ (x13_1 : Int) := zas (taab)
             have q284 : x13_1 < (t277.length : Int) := zas (taab)
             obtain ⟨ad284, e284, hx284_0⟩ := zca (zbd HO_5.out).2.2 x13_1 p284 q284
             cases e284
             replace p284 := eq_true p284
             replace q284 := eq_true q284
             go_wp2
             go_roundg k1
             case measure => have := HK1.out; omega
             case rel => exact ⟨(wrap64 (x13_1 + 1)), (taag), H', ⟨taau⟩, ⟨taao⟩, ⟨by (with_reducible repeat (first | apply zai | apply zaj | apply zak)); exact HO_11.out⟩, ⟨taaa⟩⟩
         · rw [if_neg c11] at H
           exact absurd H (taac)
       · rw [if_neg c10] at H
         exact absurd H (taac)
     · rw [if_neg c9] at H
       exact absurd H (taac)
   · rw [if_neg c8] at H
     have c8b0 : decide (x13_1 < (t280.length : Int)) = false := zbh c8
     clear c8; obtain rfl := zbc H
     go_wp2
     go_ret
     exact ⟨taah, taaa⟩
def impl_isMajorized.f (k : Nat) (l0 : List Int) (l1 : List Int) : Option (Bool) := (impl_doFit.f k l0 l1).bind fun t285 => (if t285 = true then ((impl_refused.f k l0 l1).bind fun t286 => (some (t286 == 0))) else (some false))
theorem impl_isMajorized.calls (k : Nat) (A0 : Option Addr) (c0 : Nat) (l0 : List Int) (A1 : Option Addr) (c1 : Nat) (l1 : List Int) (r : Bool) (w : World) (hr0 : Kd.C (Kd.int .i64) w A0 l0.length l0) (hc0 : l0.length ≤ c0) (hr1 : Kd.C (Kd.int .i64) w A1 l1.length l1) (hc1 : l1.length ≤ c1) (h : impl_isMajorized.f k l0 l1 = some r) :
 Calls Try.prog 116 #[.slice A0 l0.length c0, .slice A1 l1.length c1] w fun e w' => e = .returned (.bool r) ∧ Below w.heap.size w w' := by
 have HR0 := zad hr0; have HC0 := zad hc0; clear hr0 hc0; have HR1 := zad hr1; have HC1 := zad hc1; clear hr1 hc1; have HB := zad (Below.refl w.heap.size w)
 have H : ((impl_doFit.f k l0 l1).bind fun t285 => (if t285 = true then ((impl_refused.f k l0 l1).bind fun t286 => (some (t286 == 0))) else (some false))) = some r := h
 clear h; replace H := zay.mp H; obtain ⟨t285, A30, H⟩ := H
 replace H : (if t285 = true then ((impl_refused.f k l0 l1).bind fun t286 => (some (t286 == 0))) else (some false)) = some r := H
 have A3 := zad A30; clear A30; by_cases c4 : t285 = true
 · subst c4
   have H1 : ((impl_refused.f k l0 l1).bind fun t286 => (some (t286 == 0))) = some r := by rw [if_pos rfl] at H; exact H
   clear H; have H := H1; clear H1; replace H := zay.mp H; obtain ⟨t286, A50, H⟩ := H
   replace H : (some (t286 == 0)) = some r := H
   have A5 := zad A50; clear A50; obtain rfl := zbc H
   go_enter Try.func116, Try.ntmps116
   go_wp2_with (first | ((with_reducible refine zbf (f := 112) rfl ?_); refine zbn (some 7) rfl rfl Try.func112 (by kernel_rfl) rfl #[.slice A0 l0.length c0, .slice A1 l1.length c1] rfl (taad) ?_; (with_reducible refine (impl_doFit.calls k _ _ l0 _ _ l1 true _ ?side1 ?side2 ?side3 ?side4 A3.out).mono ?_); (case side1 => repeat (first | exact HR0.out | (with_reducible refine zal ?_ _) | (with_reducible refine zam ?_ _) | (with_reducible refine zan ?_))); (case side2 => exact HC0.out); (case side3 => repeat (first | exact HR1.out | (with_reducible refine zal ?_ _) | (with_reducible refine zam ?_ _) | (with_reducible refine zan ?_))); (case side4 => exact HC1.out); rintro e w' ⟨rfl, ⟨nd, rfl⟩⟩; refine ⟨_, rfl, ?_⟩) | (go_at_call 113; (with_reducible refine (impl_refused.calls k _ _ l0 _ _ l1 t286 _ ?side1 ?side2 ?side3 ?side4 A5.out).mono ?_); (case side1 => repeat (first | exact HR0.out | (with_reducible refine zal ?_ _) | (with_reducible refine zam ?_ _) | (with_reducible refine zan ?_))); (case side2 => exact HC0.out); (case side3 => repeat (first | exact HR1.out | (with_reducible refine zal ?_ _) | (with_reducible refine zam ?_ _) | (with_reducible refine zan ?_))); (case side4 => exact HC1.out); rintro e w6 ⟨rfl, hb⟩; have n0_ := zad (zbe (taaa) hb); clear HB; have HB := n0_; clear n0_; (try clear hb); (try clear hb2); (try clear hk); (try clear hi)))
   go_ret
   exact ⟨taah, taaa⟩
 · replace c4 := zbg.mpr c4
   subst c4; have H1 : (some false) = some r := by rw [if_neg (show ¬ (false = true) by decide)] at H; exact H
   clear H; have H := H1; clear H1; obtain rfl := zbc H
   go_enter Try.func116, Try.ntmps116
   go_wp2_with (first | ((with_reducible refine zbf (f := 112) rfl ?_); refine zbn (some 7) rfl rfl Try.func112 (by kernel_rfl) rfl #[.slice A0 l0.length c0, .slice A1 l1.length c1] rfl (taad) ?_; (with_reducible refine (impl_doFit.calls k _ _ l0 _ _ l1 false _ ?side1 ?side2 ?side3 ?side4 A3.out).mono ?_); (case side1 => exact taeu); (case side2 => exact HC0.out); (case side3 => exact taey); (case side4 => exact HC1.out); rintro e w' ⟨rfl, ⟨nd, rfl⟩⟩; refine ⟨_, rfl, ?_⟩))
   go_ret
   exact ⟨taah, taaa⟩
def impl_IsMajorized.f (k : Nat) (l0 : List Int) (l1 : List Int) : Option (Bool × Bool) := (impl_areLists.f k l0 l1).bind fun t287 => (if t287 = true then ((impl_isMajorized.f k l0 l1).bind fun t288 => (some (t288, true))) else (some (false, false)))
theorem impl_IsMajorized.calls (k : Nat) (A0 : Option Addr) (c0 : Nat) (l0 : List Int) (A1 : Option Addr) (c1 : Nat) (l1 : List Int) (r1 : Bool) (r2 : Bool) (w : World) (hr0 : Kd.C (Kd.int .i64) w A0 l0.length l0) (hc0 : l0.length ≤ c0) (hr1 : Kd.C (Kd.int .i64) w A1 l1.length l1) (hc1 : l1.length ≤ c1) (h : impl_IsMajorized.f k l0 l1 = some (r1, r2)) :
 Calls Try.prog 47 #[.slice A0 l0.length c0, .slice A1 l1.length c1] w fun e w' => e = .returned (.tuple #[.bool r1, .bool r2]) ∧ Below w.heap.size w w' := by
 have HR0 := zad hr0; have HC0 := zad hc0; clear hr0 hc0; have HR1 := zad hr1; have HC1 := zad hc1; clear hr1 hc1; have HB := zad (Below.refl w.heap.size w)
 have H : ((impl_areLists.f k l0 l1).bind fun t287 => (if t287 = true then ((impl_isMajorized.f k l0 l1).bind fun t288 => (some (t288, true))) else (some (false, false)))) = some (r1, r2) := h
 clear h; replace H := zay.mp H; obtain ⟨t287, A30, H⟩ := H
 replace H : (if t287 = true then ((impl_isMajorized.f k l0 l1).bind fun t288 => (some (t288, true))) else (some (false, false))) = some (r1, r2) := H
 have A3 := zad A30; clear A30; by_cases c4 : t287 = true
 · subst c4
   have H1 : ((impl_isMajorized.f k l0 l1).bind fun t288 => (some (t288, true))) = some (r1, r2) := by rw [if_pos rfl] at H; exact H
   clear H; have H := H1; clear H1; replace H := zay.mp H; obtain ⟨t288, A50, H⟩ := H
   replace H : (some (t288, true)) = some (r1, r2) := H
   have A5 := zad A50; clear A50; simp only [zbl, zbp] at H
   obtain ⟨rfl, rfl⟩ := H
   go_enter Try.func47, Try.ntmps47
   go_wp2_with (first | ((with_reducible refine zbf (f := 107) rfl ?_); refine zbn (some 8) rfl rfl Try.func107 (by kernel_rfl) rfl #[.slice A0 l0.length c0, .slice A1 l1.length c1] rfl (taad) ?_; (with_reducible refine (impl_areLists.calls k _ _ l0 _ _ l1 true _ ?side1 ?side2 ?side3 ?side4 A3.out).mono ?_); (case side1 => repeat (first | exact HR0.out | (with_reducible refine zal ?_ _) | (with_reducible refine zam ?_ _) | (with_reducible refine zan ?_))); (case side2 => exact HC0.out); (case side3 => repeat (first | exact HR1.out | (with_reducible refine zal ?_ _) | (with_reducible refine zam ?_ _) | (with_reducible refine zan ?_))); (case side4 => exact HC1.out); rintro e w' ⟨rfl, ⟨nd, rfl⟩⟩; refine ⟨_, rfl, ?_⟩) | ((with_reducible refine zbf (f := 116) rfl ?_); refine zbn (some 12) rfl rfl Try.func116 (by kernel_rfl) rfl #[.slice A0 l0.length c0, .slice A1 l1.length c1] rfl (taad) ?_; (with_reducible refine (impl_isMajorized.calls k _ _ l0 _ _ l1 t288 _ ?side1 ?side2 ?side3 ?side4 A5.out).mono ?_); (case side1 => repeat (first | exact HR0.out | (with_reducible refine zal ?_ _) | (with_reducible refine zam ?_ _) | (with_reducible refine zan ?_))); (case side2 => exact HC0.out); (case side3 => repeat (first | exact HR1.out | (with_reducible refine zal ?_ _) | (with_reducible refine zam ?_ _) | (with_reducible refine zan ?_))); (case side4 => exact HC1.out); rintro e w6 ⟨rfl, hb⟩; refine ⟨_, rfl, ?_⟩; have n0_ := zad (zbe (taaa) hb); clear HB; have HB := n0_; clear n0_; (try clear hb); (try clear hb2); (try clear hk); (try clear hi)))
   go_ret2
   exact ⟨taah, taaa⟩
 · replace c4 := zbg.mpr c4
   subst c4; have H1 : (some (false, false)) = some (r1, r2) := by rw [if_neg (show ¬ (false = true) by decide)] at H; exact H
   clear H; have H := H1; clear H1; simp only [zbl, zbp] at H
   obtain ⟨rfl, rfl⟩ := H
   go_enter Try.func47, Try.ntmps47
   go_wp2_with (first | ((with_reducible refine zbf (f := 107) rfl ?_); refine zbn (some 8) rfl rfl Try.func107 (by kernel_rfl) rfl #[.slice A0 l0.length c0, .slice A1 l1.length c1] rfl (taad) ?_; (with_reducible refine (impl_areLists.calls k _ _ l0 _ _ l1 false _ ?side1 ?side2 ?side3 ?side4 A3.out).mono ?_); (case side1 => exact taeu); (case side2 => exact HC0.out); (case side3 => exact taey); (case side4 => exact HC1.out); rintro e w' ⟨rfl, ⟨nd, rfl⟩⟩; refine ⟨_, rfl, ?_⟩))
   go_ret2
   exact ⟨taah, taaa⟩
def laws_pBelow.f (k : Nat) (l0 : List Int) (l1 : List Int) : Option (Bool) := (impl_IsMajorized.f k l0 l1).bind fun bt289 => (if bt289.2 = true then (some bt289.1) else (some false))
theorem laws_pBelow.calls (k : Nat) (A0 : Option Addr) (c0 : Nat) (l0 : List Int) (A1 : Option Addr) (c1 : Nat) (l1 : List Int) (r : Bool) (w : World) (hr0 : Kd.C (Kd.int .i64) w A0 l0.length l0) (hc0 : l0.length ≤ c0) (hr1 : Kd.C (Kd.int .i64) w A1 l1.length l1) (hc1 : l1.length ≤ c1) (h : laws_pBelow.f k l0 l1 = some r) :
 Calls Try.prog 22 #[.slice A0 l0.length c0, .slice A1 l1.length c1] w fun e w' => e = .returned (.bool r) ∧ Below w.heap.size w w' := by
 have HR0 := zad hr0; have HC0 := zad hc0; clear hr0 hc0; have HR1 := zad hr1; have HC1 := zad hc1; clear hr1 hc1; have HB := zad (Below.refl w.heap.size w)
 have H : ((impl_IsMajorized.f k l0 l1).bind fun bt289 => (if bt289.2 = true then (some bt289.1) else (some false))) = some r := h
 clear h; replace H := zay.mp H; obtain ⟨⟨t289, t290⟩, A30, H⟩ := H
 replace H : (if t290 = true then (some t289) else (some false)) = some r := H
 have A3 := zad A30; clear A30; by_cases c4 : t290 = true
 · subst c4
   have H1 : (some t289) = some r := by rw [if_pos rfl] at H; exact H
   clear H; have H := H1; clear H1; obtain rfl := zbc H
   go_enter Try.func22, Try.ntmps22
   go_wp2_with (first | ((with_reducible refine zbf (f := 47) rfl ?_); refine zbn (some 10) rfl rfl Try.func47 (by kernel_rfl) rfl #[.slice A0 l0.length c0, .slice A1 l1.length c1] rfl (taad) ?_; (with_reducible refine (impl_IsMajorized.calls k _ _ l0 _ _ l1 t289 true _ ?side1 ?side2 ?side3 ?side4 A3.out).mono ?_); (case side1 => exact taeu); (case side2 => exact HC0.out); (case side3 => exact taey); (case side4 => exact HC1.out); rintro e w5 ⟨rfl, hb⟩; refine ⟨_, rfl, ?_⟩; have n0_ := zad (zbe (taaa) hb); clear HB; have HB := n0_; clear n0_; (try clear hb); (try clear hb2); (try clear hk); (try clear hi)))
   go_ret
   exact ⟨taah, taaa⟩
 · replace c4 := zbg.mpr c4
   subst c4; have H1 : (some false) = some r := by rw [if_neg (show ¬ (false = true) by decide)] at H; exact H
   clear H; have H := H1; clear H1; obtain rfl := zbc H
   go_enter Try.func22, Try.ntmps22
   go_wp2_with (first | ((with_reducible refine zbf (f := 47) rfl ?_); refine zbn (some 10) rfl rfl Try.func47 (by kernel_rfl) rfl #[.slice A0 l0.length c0, .slice A1 l1.length c1] rfl (taad) ?_; (with_reducible refine (impl_IsMajorized.calls k _ _ l0 _ _ l1 t289 false _ ?side1 ?side2 ?side3 ?side4 A3.out).mono ?_); (case side1 => exact taeu); (case side2 => exact HC0.out); (case side3 => exact taey); (case side4 => exact HC1.out); rintro e w6 ⟨rfl, hb⟩; refine ⟨_, rfl, ?_⟩; have n0_ := zad (zbe (taaa) hb); clear HB; have HB := n0_; clear n0_; (try clear hb); (try clear hb2); (try clear hk); (try clear hi)))
   go_ret
   exact ⟨taah, taaa⟩
def impl_isBetween.f (k : Nat) (l0 : List Int) (l1 : List Int) : Option (Bool) := (impl_areLists.f k l0 l1).bind fun t1141 => (if t1141 = true then ((impl_isMajorized.f k l0 l1).bind fun t1142 => (some t1142)) else (some false))
theorem impl_isBetween.calls (k : Nat) (A0 : Option Addr) (c0 : Nat) (l0 : List Int) (A1 : Option Addr) (c1 : Nat) (l1 : List Int) (r : Bool) (w : World) (hr0 : Kd.C (Kd.int .i64) w A0 l0.length l0) (hc0 : l0.length ≤ c0) (hr1 : Kd.C (Kd.int .i64) w A1 l1.length l1) (hc1 : l1.length ≤ c1) (h : impl_isBetween.f k l0 l1 = some r) :
 Calls Try.prog 128 #[.slice A0 l0.length c0, .slice A1 l1.length c1] w fun e w' => e = .returned (.bool r) ∧ Below w.heap.size w w' := by
 have HR0 := zad hr0; have HC0 := zad hc0; clear hr0 hc0; have HR1 := zad hr1; have HC1 := zad hc1; clear hr1 hc1; have HB := zad (Below.refl w.heap.size w)
 have H : ((impl_areLists.f k l0 l1).bind fun t1141 => (if t1141 = true then ((impl_isMajorized.f k l0 l1).bind fun t1142 => (some t1142)) else (some false))) = some r := h
 clear h; replace H := zay.mp H; obtain ⟨t1141, A30, H⟩ := H
 replace H : (if t1141 = true then ((impl_isMajorized.f k l0 l1).bind fun t1142 => (some t1142)) else (some false)) = some r := H
 have A3 := zad A30; clear A30; by_cases c4 : t1141 = true
 · subst c4
   have H1 : ((impl_isMajorized.f k l0 l1).bind fun t1142 => (some t1142)) = some r := by rw [if_pos rfl] at H; exact H
   clear H; have H := H1; clear H1; replace H := zay.mp H; obtain ⟨t1142, A50, H⟩ := H
   replace H : (some t1142) = some r := H
   have A5 := zad A50; clear A50; obtain rfl := zbc H
   go_enter Try.func128, Try.ntmps128
   go_wp2_with (first | ((with_reducible refine zbf (f := 107) rfl ?_); refine zbn (some 7) rfl rfl Try.func107 (by kernel_rfl) rfl #[.slice A0 l0.length c0, .slice A1 l1.length c1] rfl (taad) ?_; (with_reducible refine (impl_areLists.calls k _ _ l0 _ _ l1 true _ ?side1 ?side2 ?side3 ?side4 A3.out).mono ?_); (case side1 => repeat (first | exact HR0.out | (with_reducible refine zal ?_ _) | (with_reducible refine zam ?_ _) | (with_reducible refine zan ?_))); (case side2 => exact HC0.out); (case side3 => repeat (first | exact HR1.out | (with_reducible refine zal ?_ _) | (with_reducible refine zam ?_ _) | (with_reducible refine zan ?_))); (case side4 => exact HC1.out); rintro e w' ⟨rfl, ⟨nd, rfl⟩⟩; refine ⟨_, rfl, ?_⟩) | (go_at_call 116; (with_reducible refine (impl_isMajorized.calls k _ _ l0 _ _ l1 t1142 _ ?side1 ?side2 ?side3 ?side4 A5.out).mono ?_); (case side1 => repeat (first | exact HR0.out | (with_reducible refine zal ?_ _) | (with_reducible refine zam ?_ _) | (with_reducible refine zan ?_))); (case side2 => exact HC0.out); (case side3 => repeat (first | exact HR1.out | (with_reducible refine zal ?_ _) | (with_reducible refine zam ?_ _) | (with_reducible refine zan ?_))); (case side4 => exact HC1.out); rintro e w6 ⟨rfl, hb⟩; have n0_ := zad (zbe (taaa) hb); clear HB; have HB := n0_; clear n0_; (try clear hb); (try clear hb2); (try clear hk); (try clear hi)))
   go_ret
   exact ⟨taah, taaa⟩
 · replace c4 := zbg.mpr c4
   subst c4; have H1 : (some false) = some r := by rw [if_neg (show ¬ (false = true) by decide)] at H; exact H
   clear H; have H := H1; clear H1; obtain rfl := zbc H
   go_enter Try.func128, Try.ntmps128
   go_wp2_with (first | ((with_reducible refine zbf (f := 107) rfl ?_); refine zbn (some 7) rfl rfl Try.func107 (by kernel_rfl) rfl #[.slice A0 l0.length c0, .slice A1 l1.length c1] rfl (taad) ?_; (with_reducible refine (impl_areLists.calls k _ _ l0 _ _ l1 false _ ?side1 ?side2 ?side3 ?side4 A3.out).mono ?_); (case side1 => exact taeu); (case side2 => exact HC0.out); (case side3 => exact taey); (case side4 => exact HC1.out); rintro e w' ⟨rfl, ⟨nd, rfl⟩⟩; refine ⟨_, rfl, ?_⟩))
   go_ret
   exact ⟨taah, taaa⟩
def impl_FewestUnits.l0 : Nat → Int → List Int → List Int → Int → Int → Option (Int × Bool)
 | 0, _, _, _, _, _ => none
 | k + 1, x6, x7, x8, x19, x20 => if x20 < x19 then (if 0 ≤ x20 then (if x20 < (x7.length : Int) then (if x20 < (x8.length : Int) then (impl_FewestUnits.l0 k (wrap64 (x6 + (mx 0 (wrap64 ((rd x7 x20) - (rd x8 x20)))))) x7 x8 x19 (wrap64 (x20 + 1))) else (none)) else (none)) else (none)) else (some (x6, true))
def impl_FewestUnits.f (k : Nat) (l0 : List Int) (l1 : List Int) : Option (Int × Bool) := (impl_isBetween.f k l0 l1).bind fun t1234 => (if t1234 = true then ((impl_ranking.f l1).bind fun t1235 => ((impl_ranking.f l0).bind fun t1238 => (impl_FewestUnits.l0 k 0 t1235 t1238 (t1235.length : Int) 0))) else (some (0, false)))
theorem impl_FewestUnits.calls (k : Nat) (A0 : Option Addr) (c0 : Nat) (l0 : List Int) (A1 : Option Addr) (c1 : Nat) (l1 : List Int) (r1 : Int) (r2 : Bool) (w : World) (hr0 : Kd.C (Kd.int .i64) w A0 l0.length l0) (hc0 : l0.length ≤ c0) (hr1 : Kd.C (Kd.int .i64) w A1 l1.length l1) (hc1 : l1.length ≤ c1) (h : impl_FewestUnits.f k l0 l1 = some (r1, r2)) :
 Calls Try.prog 62 #[.slice A0 l0.length c0, .slice A1 l1.length c1] w fun e w' => e = .returned (.tuple #[.int .i64 r1, .bool r2]) ∧ Below w.heap.size w w' := by
 have HR0 := zad hr0; have HC0 := zad hc0; clear hr0 hc0; have HR1 := zad hr1; have HC1 := zad hc1; clear hr1 hc1; have HB := zad (Below.refl w.heap.size w)
 have H : ((impl_isBetween.f k l0 l1).bind fun t1234 => (if t1234 = true then ((impl_ranking.f l1).bind fun t1235 => ((impl_ranking.f l0).bind fun t1238 => (impl_FewestUnits.l0 k 0 t1235 t1238 (t1235.length : Int) 0))) else (some (0, false)))) = some (r1, r2) := h
 clear h; replace H := zay.mp H; obtain ⟨t1234, A30, H⟩ := H
 replace H : (if t1234 = true then ((impl_ranking.f l1).bind fun t1235 => ((impl_ranking.f l0).bind fun t1238 => (impl_FewestUnits.l0 k 0 t1235 t1238 (t1235.length : Int) 0))) else (some (0, false))) = some (r1, r2) := H
 have A3 := zad A30; clear A30; by_cases c4 : t1234 = true
 · subst c4
   have H1 : ((impl_ranking.f l1).bind fun t1235 => ((impl_ranking.f l0).bind fun t1238 => (impl_FewestUnits.l0 k 0 t1235 t1238 (t1235.length : Int) 0))) = some (r1, r2) := by rw [if_pos rfl] at H; exact H
   clear H; have H := H1; clear H1; replace H := zay.mp H; obtain ⟨t1235, A50, H⟩ := H
   replace H : ((impl_ranking.f l0).bind fun t1238 => (impl_FewestUnits.l0 k 0 t1235 t1238 (t1235.length : Int) 0)) = some (r1, r2) := H
   have A5 := zad A50; clear A50; replace H := zay.mp H; obtain ⟨t1238, A60, H⟩ := H
   replace H : (impl_FewestUnits.l0 k 0 t1235 t1238 (t1235.length : Int) 0) = some (r1, r2) := H
   have A6 := zad A60; clear A60; have H' := zad H
   clear H; go_enter Try.func62, Try.ntmps62
   go_wp2_with (first | (go_at_call 128; (with_reducible refine (impl_isBetween.calls k _ _ l0 _ _ l1 true _ ?side1 ?side2 ?side3 ?side4 A3.out).mono ?_); (case side1 => repeat (first | exact HR0.out | (with_reducible refine zal ?_ _) | (with_reducible refine zam ?_ _) | (with_reducible refine zan ?_))); (case side2 => exact HC0.out); (case side3 => repeat (first | exact HR1.out | (with_reducible refine zal ?_ _) | (with_reducible refine zam ?_ _) | (with_reducible refine zan ?_))); (case side4 => exact HC1.out); rintro e w7 ⟨rfl, hb⟩; have n0_ := zad (zbe (taaa) hb); clear HB; have HB := n0_; clear n0_; (try clear hb); (try clear hb2); (try clear hk); (try clear hi)) | (go_at_call 88; (with_reducible refine (impl_ranking.calls _ _ l1 t1235 _ ?side1 ?side2 A5.out).mono ?_); (case side1 => repeat (first | exact (Kd.C_below HR1.out HB.out) | (with_reducible refine zal ?_ _) | (with_reducible refine zam ?_ _) | (with_reducible refine zan ?_))); (case side2 => exact HC1.out); rintro e w8 ⟨v1236, rfl, ho0, hb⟩; have n0_ := zad (zbu ho0 (zbk (taaa))); have n1_ := zad (zbe (taaa) hb); clear HB; have HO1237 := n0_; have HB := n1_; clear n0_ n1_; (try clear hb); (try clear hb2); (try clear hk); (try clear hi); (try clear ho0)) | (go_at_call 88; (with_reducible refine (impl_ranking.calls _ _ l0 t1238 _ ?side1 ?side2 A6.out).mono ?_); (case side1 => repeat (first | exact (Kd.C_below HR0.out HB.out) | (with_reducible refine zal ?_ _) | (with_reducible refine zam ?_ _) | (with_reducible refine zan ?_))); (case side2 => exact HC0.out); rintro e w9 ⟨v1239, rfl, ho0, hb⟩; have n0_ := zad (zcb (tabo) (zcd ho0) hb); have n1_ := zad (zbu (zcc ho0 (zce (tabo))) (zbk (taaa))); have n2_ := zad (zbe (taaa) hb); clear HO1237 HB; have HO1237 := n0_; have HO1240 := n1_; have HB := n2_; clear n0_ n1_ n2_; (try clear hb); (try clear hb2); (try clear hk); (try clear hi); (try clear ho0); obtain ⟨Ao10, co10, eo10⟩ := zbv HO1237.out; subst eo10))
   repeat (go_quiet (first | (go_at_call 128; (with_reducible refine (impl_isBetween.calls k _ _ l0 _ _ l1 true _ ?side1 ?side2 ?side3 ?side4 A3.out).mono ?_); (case side1 => repeat (first | exact HR0.out | (with_reducible refine zal ?_ _) | (with_reducible refine zam ?_ _) | (with_reducible refine zan ?_))); (case side2 => exact HC0.out); (case side3 => repeat (first | exact HR1.out | (with_reducible refine zal ?_ _) | (with_reducible refine zam ?_ _) | (with_reducible refine zan ?_))); (case side4 => exact HC1.out); rintro e w7 ⟨rfl, hb⟩; have n0_ := zad (zbe (taaa) hb); clear HB; have HB := n0_; clear n0_; (try clear hb); (try clear hb2); (try clear hk); (try clear hi)) | (go_at_call 88; (with_reducible refine (impl_ranking.calls _ _ l1 t1235 _ ?side1 ?side2 A5.out).mono ?_); (case side1 => repeat (first | exact (Kd.C_below HR1.out HB.out) | (with_reducible refine zal ?_ _) | (with_reducible refine zam ?_ _) | (with_reducible refine zan ?_))); (case side2 => exact HC1.out); rintro e w8 ⟨v1236, rfl, ho0, hb⟩; have n0_ := zad (zbu ho0 (zbk (taaa))); have n1_ := zad (zbe (taaa) hb); clear HB; have HO1237 := n0_; have HB := n1_; clear n0_ n1_; (try clear hb); (try clear hb2); (try clear hk); (try clear hi); (try clear ho0)) | (go_at_call 88; (with_reducible refine (impl_ranking.calls _ _ l0 t1238 _ ?side1 ?side2 A6.out).mono ?_); (case side1 => repeat (first | exact (Kd.C_below HR0.out HB.out) | (with_reducible refine zal ?_ _) | (with_reducible refine zam ?_ _) | (with_reducible refine zan ?_))); (case side2 => exact HC0.out); rintro e w9 ⟨v1239, rfl, ho0, hb⟩; have n0_ := zad (zcb (tabo) (zcd ho0) hb); have n1_ := zad (zbu (zcc ho0 (zce (tabo))) (zbk (taaa))); have n2_ := zad (zbe (taaa) hb); clear HO1237 HB; have HO1237 := n0_; have HO1240 := n1_; have HB := n2_; clear n0_ n1_ n2_; (try clear hb); (try clear hb2); (try clear hk); (try clear hi); (try clear ho0); obtain ⟨Ao10, co10, eo10⟩ := zbv HO1237.out; subst eo10)); try go_wp2_with (first | (go_at_call 128; (with_reducible refine (impl_isBetween.calls k _ _ l0 _ _ l1 true _ ?side1 ?side2 ?side3 ?side4 A3.out).mono ?_); (case side1 => repeat (first | exact HR0.out | (with_reducible refine zal ?_ _) | (with_reducible refine zam ?_ _) | (with_reducible refine zan ?_))); (case side2 => exact HC0.out); (case side3 => repeat (first | exact HR1.out | (with_reducible refine zal ?_ _) | (with_reducible refine zam ?_ _) | (with_reducible refine zan ?_))); (case side4 => exact HC1.out); rintro e w7 ⟨rfl, hb⟩; have n0_ := zad (zbe (taaa) hb); clear HB; have HB := n0_; clear n0_; (try clear hb); (try clear hb2); (try clear hk); (try clear hi)) | (go_at_call 88; (with_reducible refine (impl_ranking.calls _ _ l1 t1235 _ ?side1 ?side2 A5.out).mono ?_); (case side1 => repeat (first | exact (Kd.C_below HR1.out HB.out) | (with_reducible refine zal ?_ _) | (with_reducible refine zam ?_ _) | (with_reducible refine zan ?_))); (case side2 => exact HC1.out); rintro e w8 ⟨v1236, rfl, ho0, hb⟩; have n0_ := zad (zbu ho0 (zbk (taaa))); have n1_ := zad (zbe (taaa) hb); clear HB; have HO1237 := n0_; have HB := n1_; clear n0_ n1_; (try clear hb); (try clear hb2); (try clear hk); (try clear hi); (try clear ho0)) | (go_at_call 88; (with_reducible refine (impl_ranking.calls _ _ l0 t1238 _ ?side1 ?side2 A6.out).mono ?_); (case side1 => repeat (first | exact (Kd.C_below HR0.out HB.out) | (with_reducible refine zal ?_ _) | (with_reducible refine zam ?_ _) | (with_reducible refine zan ?_))); (case side2 => exact HC0.out); rintro e w9 ⟨v1239, rfl, ho0, hb⟩; have n0_ := zad (zcb (tabo) (zcd ho0) hb); have n1_ := zad (zbu (zcc ho0 (zce (tabo))) (zbk (taaa))); have n2_ := zad (zbe (taaa) hb); clear HO1237 HB; have HO1237 := n0_; have HO1240 := n1_; have HB := n2_; clear n0_ n1_ n2_; (try clear hb); (try clear hb2); (try clear hk); (try clear hi); (try clear ho0); obtain ⟨Ao10, co10, eo10⟩ := zbv HO1237.out; subst eo10)))
   go_loopg [6, 20] k (fun kq v6 v20 w' => ∃ (x6_1 : Int) (x20_1 : Int), v6 = .int .i64 x6_1 ∧ v20 = .int .i64 x20_1 ∧ Aside0 (impl_FewestUnits.l0 kq x6_1 t1235 t1238 (t1235.length : Int) x20_1 = some (r1, r2)) ∧ Aside0 (kq ≤ k) ∧ Aside0 (Kd.R (Kd.int .i64) 3 w' w.heap.size (fun k_ => some k_ ≠ (v1239 : Value).ownBlock) (.slice Ao10 t1235.length co10) t1235) ∧ Aside0 (Kd.R (Kd.int .i64) 3 w' w.heap.size (fun k_ => some k_ ≠ ((.slice Ao10 t1235.length co10) : Value).ownBlock) v1239 t1238) ∧ Aside0 (Below w.heap.size w w'))
   case atStart => exact ⟨(0), (0), (taag), (taag), H', ⟨zcf _⟩, ⟨by (with_reducible repeat (first | apply zai | apply zaj | apply zak)); exact zbq HO1237.out (fun _ hk => hk.2)⟩, ⟨by (with_reducible repeat (first | apply zai | apply zaj | apply zak)); exact zbq HO1240.out (fun _ hk => hk.2)⟩, ⟨taaa⟩⟩
   case round =>
    clear H'
    try clear c1
    try clear p2
    try clear c4
    try clear c6
    obtain ⟨x6_1, x20_1, rfl, rfl, HA, HK1, HO_7, HO_8, HB⟩ := hrel
    cases gk with
    | zero => exact absurd HA.out (by simp [impl_FewestUnits.l0])
    | succ k1 =>
     have H := HA.out
     clear HA; simp only [impl_FewestUnits.l0] at H
     by_cases c11 : x20_1 < (t1235.length : Int)
     · rw [if_pos c11] at H
       have c11b0 : decide (x20_1 < (t1235.length : Int)) = true := zba c11
       clear c11; by_cases c12 : 0 ≤ x20_1
       · rw [if_pos c12] at H
         have c12b0 : decide (0 ≤ x20_1) = true := zba c12
         clear c12; by_cases c13 : x20_1 < (t1235.length : Int)
         · rw [if_pos c13] at H
           have c13b0 : decide (x20_1 < (t1235.length : Int)) = true := zba c13
           clear c13; by_cases c14 : x20_1 < (t1238.length : Int)
           · rw [if_pos c14] at H
             have c14b0 : decide (x20_1 < (t1238.length : Int)) = true := zba c14
             clear c14; obtain ⟨ji15, hji15⟩ : ∃ j_ : Int, (mx 0 (wrap64 ((rd t1235 x20_1) - (rd t1238 x20_1)))) = j_ := ⟨_, rfl⟩
             replace H : (impl_FewestUnits.l0 k1 (wrap64 (x6_1 + (ji15))) t1235 t1238 (t1235.length : Int) (wrap64 (x20_1 + 1))) = some (r1, r2) := by first | (rw [hji15] at H; exact H) | (simp only [hji15] at H ⊢; exact H)
             have hji15_ : (if 0 < (wrap64 ((rd t1235 x20_1) - (rd t1238 x20_1))) then (wrap64 ((rd t1235 x20_1) - (rd t1238 x20_1))) else 0) = ji15 := hji15
             have H' := zad H
             clear H; have p1241 : 0 ≤ (x20_1 : Int) := zas (taab)
             have q1241 : x20_1 < (t1235.length : Int) := zas (taab)
             obtain ⟨ad1241, e1241, hx1241_0⟩ := zca (zbd HO_7.out).2.2 x20_1 p1241 q1241
             cases e1241
             replace p1241 := eq_true p1241
             replace q1241 := eq_true q1241
             obtain ⟨Ao16, co16, eo16⟩ := zbv HO_8.out
             subst eo16; have p1242 : 0 ≤ (x20_1 : Int) := zas (taab)
             have q1242 : x20_1 < (t1238.length : Int) := zas (taab)
             obtain ⟨ad1242, e1242, hx1242_0⟩ := zca (zbd HO_8.out).2.2 x20_1 p1242 q1242
             cases e1242
             replace p1242 := eq_true p1242
             replace q1242 := eq_true q1242
             go_wp2
             repeat (go_quiet (fail); try go_wp2)
             go_roundg k1
             case measure => have := HK1.out; omega
             case rel => exact ⟨(wrap64 (x6_1 + (ji15))), (wrap64 (x20_1 + 1)), (by first | rfl | (simp; done) | (simp only [← hji15] <;> (first | rfl | simp)) | (simp [*]; done)), (taag), H', ⟨taau⟩, ⟨taai⟩, ⟨taan⟩, ⟨taaa⟩⟩
           · rw [if_neg c14] at H
             exact absurd H (taac)
         · rw [if_neg c13] at H
           exact absurd H (taac)
       · rw [if_neg c12] at H
         exact absurd H (taac)
     · rw [if_neg c11] at H
       have c11b0 : decide (x20_1 < (t1235.length : Int)) = false := zbh c11
       clear c11; simp only [zbl, zbp] at H
       obtain ⟨rfl, rfl⟩ := H
       go_wp2
       repeat (go_quiet (fail); try go_wp2)
       go_ret2
       exact ⟨taah, taaa⟩
 · replace c4 := zbg.mpr c4
   subst c4; have H1 : (some (0, false)) = some (r1, r2) := by rw [if_neg (show ¬ (false = true) by decide)] at H; exact H
   clear H; have H := H1; clear H1; simp only [zbl, zbp] at H
   obtain ⟨rfl, rfl⟩ := H
   go_enter Try.func62, Try.ntmps62
   go_wp2_with (first | (go_at_call 128; (with_reducible refine (impl_isBetween.calls k _ _ l0 _ _ l1 false _ ?side1 ?side2 ?side3 ?side4 A3.out).mono ?_); (case side1 => exact taeu); (case side2 => exact HC0.out); (case side3 => exact taey); (case side4 => exact HC1.out); rintro e w17 ⟨rfl, hb⟩; have n0_ := zad (zbe (taaa) hb); clear HB; have HB := n0_; clear n0_; (try clear hb); (try clear hb2); (try clear hk); (try clear hi)))
   repeat (go_quiet (first | (go_at_call 128; (with_reducible refine (impl_isBetween.calls k _ _ l0 _ _ l1 false _ ?side1 ?side2 ?side3 ?side4 A3.out).mono ?_); (case side1 => repeat (first | exact HR0.out | (with_reducible refine zal ?_ _) | (with_reducible refine zam ?_ _) | (with_reducible refine zan ?_))); (case side2 => exact HC0.out); (case side3 => repeat (first | exact HR1.out | (with_reducible refine zal ?_ _) | (with_reducible refine zam ?_ _) | (with_reducible refine zan ?_))); (case side4 => exact HC1.out); rintro e w17 ⟨rfl, hb⟩; have n0_ := zad (zbe (taaa) hb); clear HB; have HB := n0_; clear n0_; (try clear hb); (try clear hb2); (try clear hk); (try clear hi))); try go_wp2_with (first | (go_at_call 128; (with_reducible refine (impl_isBetween.calls k _ _ l0 _ _ l1 false _ ?side1 ?side2 ?side3 ?side4 A3.out).mono ?_); (case side1 => repeat (first | exact HR0.out | (with_reducible refine zal ?_ _) | (with_reducible refine zam ?_ _) | (with_reducible refine zan ?_))); (case side2 => exact HC0.out); (case side3 => repeat (first | exact HR1.out | (with_reducible refine zal ?_ _) | (with_reducible refine zam ?_ _) | (with_reducible refine zan ?_))); (case side4 => exact HC1.out); rintro e w17 ⟨rfl, hb⟩; have n0_ := zad (zbe (taaa) hb); clear HB; have HB := n0_; clear n0_; (try clear hb); (try clear hb2); (try clear hk); (try clear hi))))
   go_ret2
   exact ⟨taah, taaa⟩
def laws_pSame.l0 : Nat → List Int → List Int → Int → Int → Option (Bool)
 | 0, _, _, _, _ => none
 | k + 1, x0, x1, x12, x13 => if x13 < x12 then (if 0 ≤ x13 then (if x13 < (x0.length : Int) then (if x13 < (x1.length : Int) then (if (rd x0 x13) = (rd x1 x13) then (laws_pSame.l0 k x0 x1 x12 (wrap64 (x13 + 1))) else (some false)) else (none)) else (none)) else (none)) else (some true)
def laws_pSame.f (k : Nat) (l0 : List Int) (l1 : List Int) : Option (Bool) := if (l0.length : Int) = (l1.length : Int) then (laws_pSame.l0 k l0 l1 (l0.length : Int) 0) else (some false)
theorem laws_pSame.calls (k : Nat) (A0 : Option Addr) (c0 : Nat) (l0 : List Int) (A1 : Option Addr) (c1 : Nat) (l1 : List Int) (r : Bool) (w : World) (hr0 : Kd.C (Kd.int .i64) w A0 l0.length l0) (hc0 : l0.length ≤ c0) (hr1 : Kd.C (Kd.int .i64) w A1 l1.length l1) (hc1 : l1.length ≤ c1) (h : laws_pSame.f k l0 l1 = some r) :
 Calls Try.prog 17 #[.slice A0 l0.length c0, .slice A1 l1.length c1] w fun e w' => e = .returned (.bool r) ∧ Drawn0 w w' := by
 have HR0 := zad hr0; have HC0 := zad hc0; clear hr0 hc0; have HR1 := zad hr1; have HC1 := zad hc1; clear hr1 hc1; have H : (if (l0.length : Int) = (l1.length : Int) then (laws_pSame.l0 k l0 l1 (l0.length : Int) 0) else (some false)) = some r := h
 clear h; by_cases c3 : (l0.length : Int) = (l1.length : Int)
 · rw [if_pos c3] at H
   have c3b0 : ((l0.length : Int) == (l1.length : Int)) = true := beq_iff_eq.mpr c3
   have c3b1 : ((l0.length : Int) != (l1.length : Int)) = false := bne_eq_false_iff_eq.mpr c3
   have c3b2 : (l0.length == l1.length) = true := by first | simpa using c3 | (simp at c3 ⊢; omega)
   clear c3; have H' := zad H
   clear H; go_enter Try.func17, Try.ntmps17
   go_wp2
   repeat (go_quiet (fail); try go_wp2)
   go_loopg [13] k (fun kq v13 w' => ∃ (x13_1 : Int), v13 = .int .i64 x13_1 ∧ Aside0 (laws_pSame.l0 kq l0 l1 (l0.length : Int) x13_1 = some r) ∧ Aside0 (kq ≤ k) ∧ Drawn0 w w')
   case atStart => exact ⟨(0), (taag), H', ⟨zcf _⟩, taak⟩
   case round =>
    clear H'
    try clear c1
    try clear p2
    try clear c3
    try clear c3b0
    try clear c3b1
    try clear c3b2
    obtain ⟨x13_1, rfl, HA, HK1, ⟨m1, rfl⟩⟩ := hrel
    cases gk with
    | zero => exact absurd HA.out (by simp [laws_pSame.l0])
    | succ k1 =>
     have H := HA.out
     clear HA; simp only [laws_pSame.l0] at H
     by_cases c4 : x13_1 < (l0.length : Int)
     · rw [if_pos c4] at H
       have c4b0 : decide (x13_1 < (l0.length : Int)) = true := zba c4
       clear c4; by_cases c5 : 0 ≤ x13_1
       · rw [if_pos c5] at H
         have c5b0 : decide (0 ≤ x13_1) = true := zba c5
         clear c5; by_cases c6 : x13_1 < (l0.length : Int)
         · rw [if_pos c6] at H
           have c6b0 : decide (x13_1 < (l0.length : Int)) = true := zba c6
           clear c6; by_cases c7 : x13_1 < (l1.length : Int)
           · rw [if_pos c7] at H
             have c7b0 : decide (x13_1 < (l1.length : Int)) = true := zba c7
             clear c7; by_cases c8 : (rd l0 x13_1) = (rd l1 x13_1)
             · rw [if_pos c8] at H
               have c8b0 : ((rd l0 x13_1) == (rd l1 x13_1)) = true := beq_iff_eq.mpr c8
               have c8b1 : ((rd l0 x13_1) != (rd l1 x13_1)) = false := bne_eq_false_iff_eq.mpr c8
               clear c8; have H' := zad H
               clear H; have p154 : 0 ≤ (x13_1 : Int) := zas (taab)
               have q154 : x13_1 < (l0.length : Int) := zas (taab)
               obtain ⟨ad154, e154, hx154_0⟩ := zca HR0.out x13_1 p154 q154
               cases e154
               replace p154 := eq_true p154
               replace q154 := eq_true q154
               have p155 : 0 ≤ (x13_1 : Int) := zas (taab)
               have q155 : x13_1 < (l1.length : Int) := zas (taab)
               obtain ⟨ad155, e155, hx155_0⟩ := zca HR1.out x13_1 p155 q155
               cases e155
               replace p155 := eq_true p155
               replace q155 := eq_true q155
               go_wp2
               repeat (go_quiet (fail); try go_wp2)
               go_roundg k1
               case measure => have := HK1.out; omega
               case rel => exact ⟨(wrap64 (x13_1 + 1)), (taag), H', ⟨taau⟩, taak⟩
             · rw [if_neg c8] at H
               have c8b0 : ((rd l0 x13_1) == (rd l1 x13_1)) = false := zbo.mpr c8
               have c8b1 : ((rd l0 x13_1) != (rd l1 x13_1)) = true := bne_iff_ne.mpr c8
               obtain rfl := zbc H
               have p154 : 0 ≤ (x13_1 : Int) := zas (taab)
               have q154 : x13_1 < (l0.length : Int) := zas (taab)
               obtain ⟨ad154, e154, hx154_0⟩ := zca HR0.out x13_1 p154 q154
               cases e154
               replace p154 := eq_true p154
               replace q154 := eq_true q154
               have p155 : 0 ≤ (x13_1 : Int) := zas (taab)
               have q155 : x13_1 < (l1.length : Int) := zas (taab)
               obtain ⟨ad155, e155, hx155_0⟩ := zca HR1.out x13_1 p155 q155
               cases e155
               replace p155 := eq_true p155
               replace q155 := eq_true q155
               go_wp2
               repeat (go_quiet (fail); try go_wp2)
               go_ret
               exact ⟨taag, taak⟩
           · rw [if_neg c7] at H
             exact absurd H (taac)
         · rw [if_neg c6] at H
           exact absurd H (taac)
       · rw [if_neg c5] at H
         exact absurd H (taac)
     · rw [if_neg c4] at H
       have c4b0 : decide (x13_1 < (l0.length : Int)) = false := zbh c4
       clear c4; obtain rfl := zbc H
       go_wp2
       repeat (go_quiet (fail); try go_wp2)
       go_ret
       exact ⟨taag, taak⟩
 · rw [if_neg c3] at H
   have c3b0 : ((l0.length : Int) == (l1.length : Int)) = false := zbo.mpr c3
   have c3b1 : ((l0.length : Int) != (l1.length : Int)) = true := bne_iff_ne.mpr c3
   have c3b2 : (l0.length == l1.length) = false := by first | simpa using c3 | (simp at c3 ⊢; omega)
   obtain rfl := zbc H
   go_enter Try.func17, Try.ntmps17
   go_wp2
   repeat (go_quiet (fail); try go_wp2)
   go_ret
   exact ⟨taag, taak⟩
def laws_pSameRows.l0 : Nat → List (List Int) → List (List Int) → Int → Int → Option (Bool)
 | 0, _, _, _, _ => none
 | k + 1, x0, x1, x12, x13 => if x13 < x12 then (if 0 ≤ x13 then (if x13 < (x0.length : Int) then (if x13 < (x1.length : Int) then ((laws_pSame.f k (rd_L2 x0 x13) (rd_L2 x1 x13)).bind fun t1360 => (if t1360 = true then (laws_pSameRows.l0 k x0 x1 x12 (wrap64 (x13 + 1))) else (some false))) else (none)) else (none)) else (none)) else (some true)
def laws_pSameRows.f (k : Nat) (l0 : List (List Int)) (l1 : List (List Int)) : Option (Bool) := if (l0.length : Int) = (l1.length : Int) then (laws_pSameRows.l0 k l0 l1 (l0.length : Int) 0) else (some false)
theorem laws_pSameRows.calls (k : Nat) (A0 : Option Addr) (c0 : Nat) (l0 : List (List Int)) (A1 : Option Addr) (c1 : Nat) (l1 : List (List Int)) (r : Bool) (w : World) (hr0 : Kd.C (Kd.slice 3 (Kd.int .i64)) w A0 l0.length l0) (hc0 : l0.length ≤ c0) (hr1 : Kd.C (Kd.slice 3 (Kd.int .i64)) w A1 l1.length l1) (hc1 : l1.length ≤ c1) (h : laws_pSameRows.f k l0 l1 = some r) :
 Calls Try.prog 67 #[.slice A0 l0.length c0, .slice A1 l1.length c1] w fun e w' => e = .returned (.bool r) ∧ Drawn0 w w' := by
 have HR0 := zad hr0; have HC0 := zad hc0; clear hr0 hc0; have HR1 := zad hr1; have HC1 := zad hc1; clear hr1 hc1; have H : (if (l0.length : Int) = (l1.length : Int) then (laws_pSameRows.l0 k l0 l1 (l0.length : Int) 0) else (some false)) = some r := h
 clear h; by_cases c3 : (l0.length : Int) = (l1.length : Int)
 · rw [if_pos c3] at H
   have c3b0 : ((l0.length : Int) == (l1.length : Int)) = true := beq_iff_eq.mpr c3
   have c3b1 : ((l0.length : Int) != (l1.length : Int)) = false := bne_eq_false_iff_eq.mpr c3
   have c3b2 : (l0.length == l1.length) = true := by first | simpa using c3 | (simp at c3 ⊢; omega)
   clear c3; have H' := zad H
   clear H; go_enter Try.func67, Try.ntmps67
   go_wp2
   repeat (go_quiet (fail); try go_wp2)
   go_loopg [13] k (fun kq v13 w' => ∃ (x13_1 : Int), v13 = .int .i64 x13_1 ∧ Aside0 (laws_pSameRows.l0 kq l0 l1 (l0.length : Int) x13_1 = some r) ∧ Aside0 (kq ≤ k) ∧ Drawn0 w w')
   case atStart => exact ⟨(0), (taag), H', ⟨zcf _⟩, taak⟩
   case round =>
    clear H'
    try clear c1
    try clear p2
    try clear c3
    try clear c3b0
    try clear c3b1
    try clear c3b2
    obtain ⟨x13_1, rfl, HA, HK1, ⟨m1, rfl⟩⟩ := hrel
    cases gk with
    | zero => exact absurd HA.out (by simp [laws_pSameRows.l0])
    | succ k1 =>
     have H := HA.out
     clear HA; simp only [laws_pSameRows.l0] at H
     by_cases c4 : x13_1 < (l0.length : Int)
     · rw [if_pos c4] at H
       have c4b0 : decide (x13_1 < (l0.length : Int)) = true := zba c4
       clear c4; by_cases c5 : 0 ≤ x13_1
       · rw [if_pos c5] at H
         have c5b0 : decide (0 ≤ x13_1) = true := zba c5
         clear c5; by_cases c6 : x13_1 < (l0.length : Int)
         · rw [if_pos c6] at H
           have c6b0 : decide (x13_1 < (l0.length : Int)) = true := zba c6
           clear c6; by_cases c7 : x13_1 < (l1.length : Int)
           · rw [if_pos c7] at H
             have c7b0 : decide (x13_1 < (l1.length : Int)) = true := zba c7
             clear c7; replace H := zay.mp H; obtain ⟨t1360, A80, H⟩ := H
             replace H : (if t1360 = true then (laws_pSameRows.l0 k1 l0 l1 (l0.length : Int) (wrap64 (x13_1 + 1))) else (some false)) = some r := H
             have A8 := zad A80; clear A80; by_cases c9 : t1360 = true
             · subst c9
               have H1 : (laws_pSameRows.l0 k1 l0 l1 (l0.length : Int) (wrap64 (x13_1 + 1))) = some r := by rw [if_pos rfl] at H; exact H
               clear H; have H := H1; clear H1; have H' := zad H
               clear H; have p1358 : 0 ≤ (x13_1 : Int) := zas (taab)
               have q1358 : x13_1 < (l0.length : Int) := zas (taab)
               obtain ⟨ad1358, A1358_0, c1358_0, e1358, hx1358_0, hl1358_0, hi1358_0⟩ := at_L2 HR0.out x13_1 p1358 q1358
               cases e1358
               have HR1358_0 := zad hi1358_0; have HC1358_0 := zad hl1358_0; clear hi1358_0 hl1358_0; replace p1358 := eq_true p1358
               replace q1358 := eq_true q1358
               have p1359 : 0 ≤ (x13_1 : Int) := zas (taab)
               have q1359 : x13_1 < (l1.length : Int) := zas (taab)
               obtain ⟨ad1359, A1359_0, c1359_0, e1359, hx1359_0, hl1359_0, hi1359_0⟩ := at_L2 HR1.out x13_1 p1359 q1359
               cases e1359
               have HR1359_0 := zad hi1359_0; have HC1359_0 := zad hl1359_0; clear hi1359_0 hl1359_0; replace p1359 := eq_true p1359
               replace q1359 := eq_true q1359
               go_wp2_with (first | (go_at_call 17; (with_reducible refine (laws_pSame.calls k1 _ _ (rd_L2 l0 x13_1) _ _ (rd_L2 l1 x13_1) true _ ?side1 ?side2 ?side3 ?side4 A8.out).mono ?_); (case side1 => repeat (first | exact HR1358_0.out | (with_reducible refine zal ?_ _) | (with_reducible refine zam ?_ _) | (with_reducible refine zan ?_))); (case side2 => exact HC1358_0.out); (case side3 => repeat (first | exact HR1359_0.out | (with_reducible refine zal ?_ _) | (with_reducible refine zam ?_ _) | (with_reducible refine zan ?_))); (case side4 => exact HC1359_0.out); rintro e w' ⟨rfl, ⟨nd, rfl⟩⟩; (try first | exact ⟨rfl, _, World.drewN_drewN _ _ _⟩ | exact ⟨rfl, _, Eq.trans (World.drewN_drewN _ _ _) (congrArg (World.drewN _) (Nat.add_assoc _ _ _))⟩)))
               repeat (go_quiet (first | (go_at_call 17; (with_reducible refine (laws_pSame.calls k1 _ _ (rd_L2 l0 x13_1) _ _ (rd_L2 l1 x13_1) true _ ?side1 ?side2 ?side3 ?side4 A8.out).mono ?_); (case side1 => repeat (first | exact HR1358_0.out | (with_reducible refine zal ?_ _) | (with_reducible refine zam ?_ _) | (with_reducible refine zan ?_))); (case side2 => exact HC1358_0.out); (case side3 => repeat (first | exact HR1359_0.out | (with_reducible refine zal ?_ _) | (with_reducible refine zam ?_ _) | (with_reducible refine zan ?_))); (case side4 => exact HC1359_0.out); rintro e w' ⟨rfl, ⟨nd, rfl⟩⟩; (try first | exact ⟨rfl, _, World.drewN_drewN _ _ _⟩ | exact ⟨rfl, _, Eq.trans (World.drewN_drewN _ _ _) (congrArg (World.drewN _) (Nat.add_assoc _ _ _))⟩))); try go_wp2_with (first | (go_at_call 17; (with_reducible refine (laws_pSame.calls k1 _ _ (rd_L2 l0 x13_1) _ _ (rd_L2 l1 x13_1) true _ ?side1 ?side2 ?side3 ?side4 A8.out).mono ?_); (case side1 => repeat (first | exact HR1358_0.out | (with_reducible refine zal ?_ _) | (with_reducible refine zam ?_ _) | (with_reducible refine zan ?_))); (case side2 => exact HC1358_0.out); (case side3 => repeat (first | exact HR1359_0.out | (with_reducible refine zal ?_ _) | (with_reducible refine zam ?_ _) | (with_reducible refine zan ?_))); (case side4 => exact HC1359_0.out); rintro e w' ⟨rfl, ⟨nd, rfl⟩⟩; (try first | exact ⟨rfl, _, World.drewN_drewN _ _ _⟩ | exact ⟨rfl, _, Eq.trans (World.drewN_drewN _ _ _) (congrArg (World.drewN _) (Nat.add_assoc _ _ _))⟩))))
               go_roundg k1
               case measure => have := HK1.out; omega
               case rel => exact ⟨(wrap64 (x13_1 + 1)), (taag), H', ⟨taau⟩, taak⟩
             · replace c9 := zbg.mpr c9
               subst c9; have H1 : (some false) = some r := by rw [if_neg (show ¬ (false = true) by decide)] at H; exact H
               clear H; have H := H1; clear H1; obtain rfl := zbc H
               have p1358 : 0 ≤ (x13_1 : Int) := zas (taab)
               have q1358 : x13_1 < (l0.length : Int) := zas (taab)
               obtain ⟨ad1358, A1358_0, c1358_0, e1358, hx1358_0, hl1358_0, hi1358_0⟩ := at_L2 HR0.out x13_1 p1358 q1358
               cases e1358
               have HR1358_0 := zad hi1358_0; have HC1358_0 := zad hl1358_0; clear hi1358_0 hl1358_0; replace p1358 := eq_true p1358
               replace q1358 := eq_true q1358
               have p1359 : 0 ≤ (x13_1 : Int) := zas (taab)
               have q1359 : x13_1 < (l1.length : Int) := zas (taab)
               obtain ⟨ad1359, A1359_0, c1359_0, e1359, hx1359_0, hl1359_0, hi1359_0⟩ := at_L2 HR1.out x13_1 p1359 q1359
               cases e1359
               have HR1359_0 := zad hi1359_0; have HC1359_0 := zad hl1359_0; clear hi1359_0 hl1359_0; replace p1359 := eq_true p1359
               replace q1359 := eq_true q1359
               go_wp2_with (first | (go_at_call 17; (with_reducible refine (laws_pSame.calls k1 _ _ (rd_L2 l0 x13_1) _ _ (rd_L2 l1 x13_1) false _ ?side1 ?side2 ?side3 ?side4 A8.out).mono ?_); (case side1 => repeat (first | exact HR1358_0.out | (with_reducible refine zal ?_ _) | (with_reducible refine zam ?_ _) | (with_reducible refine zan ?_))); (case side2 => exact HC1358_0.out); (case side3 => repeat (first | exact HR1359_0.out | (with_reducible refine zal ?_ _) | (with_reducible refine zam ?_ _) | (with_reducible refine zan ?_))); (case side4 => exact HC1359_0.out); rintro e w' ⟨rfl, ⟨nd, rfl⟩⟩; (try first | exact ⟨rfl, _, World.drewN_drewN _ _ _⟩ | exact ⟨rfl, _, Eq.trans (World.drewN_drewN _ _ _) (congrArg (World.drewN _) (Nat.add_assoc _ _ _))⟩)))
               repeat (go_quiet (first | (go_at_call 17; (with_reducible refine (laws_pSame.calls k1 _ _ (rd_L2 l0 x13_1) _ _ (rd_L2 l1 x13_1) false _ ?side1 ?side2 ?side3 ?side4 A8.out).mono ?_); (case side1 => repeat (first | exact HR1358_0.out | (with_reducible refine zal ?_ _) | (with_reducible refine zam ?_ _) | (with_reducible refine zan ?_))); (case side2 => exact HC1358_0.out); (case side3 => repeat (first | exact HR1359_0.out | (with_reducible refine zal ?_ _) | (with_reducible refine zam ?_ _) | (with_reducible refine zan ?_))); (case side4 => exact HC1359_0.out); rintro e w' ⟨rfl, ⟨nd, rfl⟩⟩; (try first | exact ⟨rfl, _, World.drewN_drewN _ _ _⟩ | exact ⟨rfl, _, Eq.trans (World.drewN_drewN _ _ _) (congrArg (World.drewN _) (Nat.add_assoc _ _ _))⟩))); try go_wp2_with (first | (go_at_call 17; (with_reducible refine (laws_pSame.calls k1 _ _ (rd_L2 l0 x13_1) _ _ (rd_L2 l1 x13_1) false _ ?side1 ?side2 ?side3 ?side4 A8.out).mono ?_); (case side1 => repeat (first | exact HR1358_0.out | (with_reducible refine zal ?_ _) | (with_reducible refine zam ?_ _) | (with_reducible refine zan ?_))); (case side2 => exact HC1358_0.out); (case side3 => repeat (first | exact HR1359_0.out | (with_reducible refine zal ?_ _) | (with_reducible refine zam ?_ _) | (with_reducible refine zan ?_))); (case side4 => exact HC1359_0.out); rintro e w' ⟨rfl, ⟨nd, rfl⟩⟩; (try first | exact ⟨rfl, _, World.drewN_drewN _ _ _⟩ | exact ⟨rfl, _, Eq.trans (World.drewN_drewN _ _ _) (congrArg (World.drewN _) (Nat.add_assoc _ _ _))⟩))))
               go_ret
               exact ⟨taag, taak⟩
           · rw [if_neg c7] at H
             exact absurd H (taac)
         · rw [if_neg c6] at H
           exact absurd H (taac)
       · rw [if_neg c5] at H
         exact absurd H (taac)
     · rw [if_neg c4] at H
       have c4b0 : decide (x13_1 < (l0.length : Int)) = false := zbh c4
       clear c4; obtain rfl := zbc H
       go_wp2
       repeat (go_quiet (fail); try go_wp2)
       go_ret
       exact ⟨taag, taak⟩
 · rw [if_neg c3] at H
   have c3b0 : ((l0.length : Int) == (l1.length : Int)) = false := zbo.mpr c3
   have c3b1 : ((l0.length : Int) != (l1.length : Int)) = true := bne_iff_ne.mpr c3
   have c3b2 : (l0.length == l1.length) = false := by first | simpa using c3 | (simp at c3 ⊢; omega)
   obtain rfl := zbc H
   go_enter Try.func67, Try.ntmps67
   go_wp2
   repeat (go_quiet (fail); try go_wp2)
   go_ret
   exact ⟨taag, taak⟩
def spec_l1Own.f (l0 : List Int) : Option (List Int) := (some (([] : List Int) : List Int)).bind fun y199 => (if y199.length + l0.length < 17592186044416 then (some (y199 ++ l0)) else (none))
theorem spec_l1Own.calls (A0 : Option Addr) (c0 : Nat) (l0 : List Int) (r : List Int) (w : World) (hr0 : Kd.C (Kd.int .i64) w A0 l0.length l0) (hc0 : l0.length ≤ c0) (h : spec_l1Own.f l0 = some r) :
 Calls Try.prog 111 #[.slice A0 l0.length c0] w fun e w' => ∃ v0_ : Value, e = .returned (v0_) ∧ Kd.R (Kd.int .i64) 3 w' w.heap.size (fun _ => True) v0_ r ∧ Below w.heap.size w w' := by
 have HR0 := zad hr0; have HC0 := zad hc0; clear hr0 hc0; have HB := zad (Below.refl w.heap.size w)
 have H : ((some (([] : List Int) : List Int)).bind fun y199 => (if y199.length + l0.length < 17592186044416 then (some (y199 ++ l0)) else (none))) = some r := h
 clear h; obtain ⟨y199, hy199⟩ : ∃ y_ : List Int, y_ = (([] : List Int)) := ⟨_, rfl⟩
 replace H : (if y199.length + l0.length < 17592186044416 then (some (y199 ++ l0)) else (none)) = some r := by first | (rw [hy199]; with_reducible exact H) | (have H2_ := (zbb _ _).symm.trans H; rw [hy199]; with_reducible exact H2_) | (have H2_ := (zbb _ _).symm.trans H; with_reducible exact H2_) | with_reducible exact H | (rw [hy199]; exact H) | exact H
 have Ny199 := zad hy199; clear hy199; by_cases c2 : y199.length + l0.length < 17592186044416
 · rw [if_pos c2] at H
   have LMc2 := zad c2; clear c2; obtain ⟨y202, hy202⟩ : ∃ y_ : List Int, y_ = (y199 ++ l0) := ⟨_, rfl⟩
   replace H : (some y202) = some r := by first | (rw [hy202]; with_reducible exact H) | (have H2_ := (zbb _ _).symm.trans H; rw [hy202]; with_reducible exact H2_) | (have H2_ := (zbb _ _).symm.trans H; with_reducible exact H2_) | with_reducible exact H | (rw [hy202]; exact H) | exact H
   have Ny202 := zad hy202; clear hy202; obtain rfl := zbc H
   go_enter Try.func111, Try.ntmps111
   go_wp2_with (first | ((with_reducible refine gate_dst (N := 3) rfl ?_); refine Kd.R_lit (Kd.int .i64) _ 3 ?hg (N := 3) ?hd (xs := ([] : List Int)) (inner := []) (ok := fun _ => True) (okp := fun _ => True) ?hr ?hp (fun _ hk => hk) trivial (Below.refl _ _) (zcf _) (taac) ?_; (case hd => rfl); (case hg => rfl); (case hr => first | (go_simp; done) | (go_simp; rfl)); (case hp => exact (Reps.none _ _)); intro v200 w3 ho4 hb hg_ hnew_; clear hg_ hnew_; (first | rw [← Ny199.out] at ho4 | (simp only [Int.reduceToNat] at ho4; rw [← Ny199.out] at ho4)); have n0_ := zad (zbu ho4 (zbk (taaa))); have n1_ := zad (zbe (taaa) hb); clear HB; have HO201 := n0_; have HB := n1_; clear n0_ n1_ hb ho4) | ((with_reducible refine gate_builtin (b := .append) (xs := #[.tmp 3, .tmp 4]) rfl ?_); at_builtin; refine Kd.R_append_rows (Kd.int .i64) (w0 := w) w.heap.size rfl (.tmp 3) (.tmp 4) 26 3 (.int .i64 0) 8 rfl Try.underlying26 info3 rfl (by decide) (by omega) v200 y199 l0 _ _ _ (fun _ => True) (fun _ => False) rfl rfl ?aO ?aR (fun _ _ h => h) (fun _ h => h.elim) ?aF ?aB ?aS ?aL ?_; (case aR => repeat (first | exact (Kd.C_below HR0.out HB.out) | (with_reducible refine zal ?_ _) | (with_reducible refine zam ?_ _) | (with_reducible refine zan ?_))); (case aB => exact (taaa)); (case aF => exact (fun _ _ => trivial)); (case aO => exact (by (with_reducible repeat (first | apply zai | apply zaj | apply zak)); exact HO201.out)); (case aS => exact (zbk (taaa))); (case aL => have := LMc2.out; omega); intro v203 w5 ho hb hg hat; rw [← Ny202.out] at ho; have n0_ := zad (hb); have n1_ := zad (ho); clear HB HO201; have HB := n0_; have HO204 := n1_; clear n0_ n1_ ho hb hg hat))
   go_ret
   exact ⟨_, taah, by (with_reducible repeat (first | apply zai | apply zaj | apply zak)); exact HO204.out, taaa⟩
 · rw [if_neg c2] at H
   exact absurd H (taac)
def spec_giDo.f (l0 : List Int) (a1_0 : Int) (a1_1 : Int) (a1_2 : Int) : Option (List Int) := (spec_l1Own.f l0).bind fun t495 => (if 0 ≤ a1_0 then (if a1_0 < (t495.length : Int) then ((some (t495.set (a1_0 : Int).toNat (wrap64 ((rd t495 a1_0) - a1_2)) : List Int)).bind fun y499 => (if 0 ≤ a1_1 then (if a1_1 < (t495.length : Int) then (some (y499.set (a1_1 : Int).toNat (wrap64 ((rd y499 a1_1) + a1_2)))) else (none)) else (none))) else (none)) else (none))
def spec_giDo.T2 : Bool × List (List Nat × List Nat) := (true, [([], []), ([], []), ([1], [1]), ([0, 2], [0, 2]), ([3], [3]), ([], []), ([5], [5]), ([4, 6], [4, 6]), ([0, 2, 0, 1, 2, 3, 4, 5, 6, 7], [0, 2]), ([8, 7, 0, 1, 2, 3, 4, 5, 6, 7], [7, 8])])
def spec_giDo.B2 : List Nat := [0, 0, 2, 7, 15, 0, 32, 127, 255, 511]
theorem spec_giDo.tab2 : rtab .any (opsOf Try.f101 2) = spec_giDo.T2 := by kernel_rfl
theorem spec_giDo.bits2 : waitsOk spec_giDo.T2.2 spec_giDo.B2 = true := by kernel_rfl
def spec_giDo.T3 : Bool × List (List Nat × List Nat) := (true, [([], []), ([], []), ([1], [1]), ([0, 2], [0, 2]), ([3], [3]), ([], []), ([5], [5]), ([4, 6], [4, 6]), ([0, 2, 0, 1, 2, 3, 4, 5, 6, 7], [0, 2]), ([8, 7, 0, 1, 2, 3, 4, 5, 6, 7], [7, 8])])
def spec_giDo.B3 : List Nat := [0, 0, 2, 7, 15, 0, 32, 127, 255, 511]
theorem spec_giDo.tab3 : rtab .any (opsOf Try.f101 3) = spec_giDo.T3 := by kernel_rfl
theorem spec_giDo.bits3 : waitsOk spec_giDo.T3.2 spec_giDo.B3 = true := by kernel_rfl
theorem spec_giDo.calls (A0 : Option Addr) (c0 : Nat) (l0 : List Int) (a1_0 : Int) (a1_1 : Int) (a1_2 : Int) (r : List Int) (w : World) (hr0 : Kd.C (Kd.int .i64) w A0 l0.length l0) (hc0 : l0.length ≤ c0) (h : spec_giDo.f l0 a1_0 a1_1 a1_2 = some r) :
 Calls Try.prog 101 #[.slice A0 l0.length c0, .agg #[.int .i64 a1_0, .int .i64 a1_1, .int .i64 a1_2]] w fun e w' => ∃ v0_ : Value, e = .returned (v0_) ∧ Kd.R (Kd.int .i64) 3 w' w.heap.size (fun _ => True) v0_ r ∧ Below w.heap.size w w' := by
 have hu39 := Try.underlying39
 have HR0 := zad hr0; have HC0 := zad hc0; clear hr0 hc0; have HB := zad (Below.refl w.heap.size w)
 have H : ((spec_l1Own.f l0).bind fun t495 => (if 0 ≤ a1_0 then (if a1_0 < (t495.length : Int) then ((some (t495.set (a1_0 : Int).toNat (wrap64 ((rd t495 a1_0) - a1_2)) : List Int)).bind fun y499 => (if 0 ≤ a1_1 then (if a1_1 < (t495.length : Int) then (some (y499.set (a1_1 : Int).toNat (wrap64 ((rd y499 a1_1) + a1_2)))) else (none)) else (none))) else (none)) else (none))) = some r := h
 clear h; replace H := zay.mp H; obtain ⟨t495, A30, H⟩ := H
 replace H : (if 0 ≤ a1_0 then (if a1_0 < (t495.length : Int) then ((some (t495.set (a1_0 : Int).toNat (wrap64 ((rd t495 a1_0) - a1_2)) : List Int)).bind fun y499 => (if 0 ≤ a1_1 then (if a1_1 < (t495.length : Int) then (some (y499.set (a1_1 : Int).toNat (wrap64 ((rd y499 a1_1) + a1_2)))) else (none)) else (none))) else (none)) else (none)) = some r := H
 have A3 := zad A30; clear A30; by_cases c4 : 0 ≤ a1_0
 · rw [if_pos c4] at H
   have c4b0 : decide (0 ≤ a1_0) = true := zba c4
   clear c4; by_cases c5 : a1_0 < (t495.length : Int)
   · rw [if_pos c5] at H
     have c5b0 : decide (a1_0 < (t495.length : Int)) = true := zba c5
     clear c5; obtain ⟨y499, hy499⟩ : ∃ y_ : List Int, y_ = (t495.set (a1_0 : Int).toNat (wrap64 ((rd t495 a1_0) - a1_2))) := ⟨_, rfl⟩
     replace H : (if 0 ≤ a1_1 then (if a1_1 < (t495.length : Int) then (some (y499.set (a1_1 : Int).toNat (wrap64 ((rd y499 a1_1) + a1_2)))) else (none)) else (none)) = some r := by first | (rw [hy499]; with_reducible exact H) | (have H2_ := (zbb _ _).symm.trans H; rw [hy499]; with_reducible exact H2_) | (have H2_ := (zbb _ _).symm.trans H; with_reducible exact H2_) | with_reducible exact H | (rw [hy499]; exact H) | exact H
     have Ny499 := zad hy499; clear hy499; by_cases c7 : 0 ≤ a1_1
     · rw [if_pos c7] at H
       have c7b0 : decide (0 ≤ a1_1) = true := zba c7
       clear c7; by_cases c8 : a1_1 < (t495.length : Int)
       · rw [if_pos c8] at H
         have c8b0 : decide (a1_1 < (t495.length : Int)) = true := zba c8
         clear c8; obtain ⟨y501, hy501⟩ : ∃ y_ : List Int, y_ = (y499.set (a1_1 : Int).toNat (wrap64 ((rd y499 a1_1) + a1_2))) := ⟨_, rfl⟩
         replace H : (some y501) = some r := by first | (rw [hy501]; with_reducible exact H) | (have H2_ := (zbb _ _).symm.trans H; rw [hy501]; with_reducible exact H2_) | (have H2_ := (zbb _ _).symm.trans H; with_reducible exact H2_) | with_reducible exact H | (rw [hy501]; exact H) | exact H
         have Ny501 := zad hy501; clear hy501; obtain rfl := zbc H
         go_enter Try.func101, Try.ntmps101
         try go_wp2_with (first | ((with_reducible refine gate_dst (N := 3) rfl ?_); refine box_event ?hg (N := 3) ?hd (cs := #[.int .i64 a1_0, .int .i64 a1_1, .int .i64 a1_2]) (t := 39) ?hr ?_; (case hd => rfl); (case hg => rfl); (case hr => first | (go_simp; done) | (go_simp; rfl)); intro gb494 hg w10 hbox hb; have n0_ := zad (zbe (taaa) hb); have n1_ := zad (hbox); have n2_ := zad ((taee : w.heap.size ≤ gb494)); have n3_ := zad ((taee : w.heap.size ≤ gb494)); clear HB; have HB := n0_; have BK494 := n1_; have GW494 := n2_; have GE494 := n3_; clear n0_ n1_ n2_ n3_ hb hbox hg) | ((with_reducible refine zbf (f := 111) rfl ?_); refine zbn (some 7) rfl rfl Try.func111 (by kernel_rfl) rfl #[.slice A0 l0.length c0] rfl (taad) ?_; (with_reducible refine (spec_l1Own.calls _ _ l0 t495 _ ?side1 ?side2 A3.out).mono ?_); (case side1 => exact taev); (case side2 => exact HC0.out); rintro e w11 ⟨v496, rfl, ho0, hb⟩; refine ⟨_, rfl, ?_⟩; have n0_ := zad (zbu ho0 (zbk (tadp))); have n1_ := zad (blk_below (g := gb494) (o := .cells #[.int .i64 a1_0, .int .i64 a1_1, .int .i64 a1_2] 39 (0, 0)) (by (with_reducible repeat (first | refine blk_drewN ?_ _ | refine blk_drew ?_ | refine blk_alloc ?_ _)); exact BK494.out) hb); have n2_ := zad (zbe (tadp) hb); clear BK494 HB; have HO497 := n0_; have BK494 := n1_; have HB := n2_; clear n0_ n1_ n2_; (try clear hb); (try clear hb2); (try clear hk); (try clear hi); (try clear ho0)))
         have n0_ := zad (zak HO497.out)
         have n1_ := zad (blk_drew BK494.out)
         have n2_ := zad (zaf HB.out)
         clear HO497 BK494 HB; have HO497 := n0_; have BK494 := n1_; have HB := n2_; clear n0_ n1_ n2_; obtain ⟨Ao13, co13, eo13⟩ := zbv HO497.out
         (first | subst eo13 | (injection eo13 with f1_ f2_ f3_; have f4_ := f1_.symm; have f5_ := f3_.symm; clear f1_ f2_ f3_; subst f4_; subst f5_))
         have p498 : 0 ≤ (a1_0 : Int) := zas (taab)
         have q498 : a1_0 < (t495.length : Int) := zas (taab)
         obtain ⟨ad498, e498, hx498_0⟩ := zca (zbd HO497.out).2.2 a1_0 p498 q498
         cases e498
         replace p498 := eq_true p498
         replace q498 := eq_true q498
         have p6 : 0 ≤ (a1_0 : Int) := zas (taab)
         have q6 : (a1_0 : Int) < ((t495.length : Int) : Int) := zas (taab)
         obtain ⟨go6, co6, eo6, gb6, gl6, cl6, HG6⟩ := Kd.R_form HO497.out (by omega)
         (first | cases eo6 | (injection eo6 with ea_ en_ ec_; (first | subst ea_ | (injection ea_ with ea_; subst ea_)); subst ec_; clear en_))
         have GB6 := zad gb6; have GG6 := zad HG6; clear gb6 gl6 HG6; (first | simp only [add_plain] at hx498_0 | skip)
         obtain ⟨hx6_0, hf6_0⟩ := Kd.R_celln 0 HO497.out (a1_0 : Int) p6 q6
         replace p6 := eq_true p6
         replace q6 := eq_true q6
         have HP14 := Kd.R_putn HO497.out (a1_0 : Int) (wrap64 ((rd t495 a1_0) - a1_2))
         rw [← Ny499.out] at HP14
         have HQ14 := zad HP14; clear HP14; refine start_ (n := 10) (S := fun w' => w'.cell? ⟨gb494, 0, none⟩ = some (.int .i64 a1_0) ∧ w'.cell? ⟨gb494, 1, none⟩ = some (.int .i64 a1_1) ∧ w'.cell? ⟨gb494, 2, none⟩ = some (.int .i64 a1_2) ∧ w'.cell? ⟨go6, (a1_0).toNat, none⟩ = some (.int .i64 (rd t495 a1_0))) (ds := [9]) #[false, false, false, false, false, false, false, false, false, false] (by kernel_rfl) rfl rfl ⟨(zbi BK494.out 0).trans rfl, (zbi BK494.out 1).trans rfl, (zbi BK494.out 2).trans rfl, hx498_0⟩ (fun hHeld => ?_); refine with_tabW spec_giDo.tab2 spec_giDo.bits2 (fun HT_ HW_ => ?_)
         generalize w11.drew = w12 at HO497 BK494 HB GG6 HQ14 hf6_0 hx498_0 hx6_0 hHeld ⊢
         refine pure_ (i := 0) (N := some 8) (v := ?_) (a' := ?_) tafh rfl rfl (zby HT_.out (by kernel_rfl)) (fun _ _ _ h => h) (Or.inl ⟨by rfl, ?_⟩) ?_ ?_
         rotate_left
         · intro w'
           go_simp; with_reducible rfl
         rotate_left
         · simp only [Act.put, zaa, zab, zac, zbw, zbx]
           rfl
         refine pure_ (i := 1) (N := some 9) (v := ?_) (a' := ?_) tafi rfl rfl (zby HT_.out (by kernel_rfl)) (fun _ _ _ h => h) (Or.inl ⟨by rfl, ?_⟩) ?_ ?_
         rotate_left
         · intro w'
           go_simp; with_reducible rfl
         rotate_left
         · simp only [Act.put, zaa, zab, zac, zbw, zbx]
           rfl
         refine pure_ (i := 5) (N := some 13) (v := ?_) (a' := ?_) tafj rfl rfl (zby HT_.out (by kernel_rfl)) (fun _ _ _ h => h) (Or.inl ⟨by rfl, ?_⟩) ?_ ?_
         rotate_left
         · intro w'
           go_simp; with_reducible rfl
         rotate_left
         · simp only [Act.put, zaa, zab, zac, zbw, zbx]
           rfl
         refine take_ (i := 2) (N := some 10) (v := ?_) (a' := ?_) tafk rfl rfl (zbz HT_.out HW_.out (by kernel_rfl)) (fun _ _ _ h => h) (Or.inl ⟨by rfl, ?_⟩) hHeld ?_ ?_
         rotate_left
         · rintro w' ⟨s0, s1, s2, s3⟩
           go_simp; with_reducible rfl
         rotate_left
         · simp only [Act.put, zaa, zab, zac, zbw, zbx]
           rfl
         refine pure_ (i := 3) (N := some 11) (v := ?_) (a' := ?_) tafl rfl rfl (zby HT_.out (by kernel_rfl)) (fun _ _ _ h => h) (Or.inl ⟨by rfl, ?_⟩) ?_ ?_
         rotate_left
         · intro w'
           go_simp; with_reducible rfl
         rotate_left
         · simp only [Act.put, zaa, zab, zac, zbw, zbx]
           rfl
         refine take_ (i := 4) (N := some 12) (v := ?_) (a' := ?_) tafm rfl rfl (zbz HT_.out HW_.out (by kernel_rfl)) (fun _ _ _ h => h) (Or.inl ⟨by rfl, ?_⟩) hHeld ?_ ?_
         rotate_left
         · rintro w' ⟨s0, s1, s2, s3⟩
           go_simp; with_reducible rfl
         rotate_left
         · simp only [Act.put, zaa, zab, zac, zbw, zbx]
           rfl
         refine take_ (i := 6) (N := some 14) (v := ?_) (a' := ?_) tafn rfl rfl (zbz HT_.out HW_.out (by kernel_rfl)) (fun _ _ _ h => h) (Or.inl ⟨by rfl, ?_⟩) hHeld ?_ ?_
         rotate_left
         · rintro w' ⟨s0, s1, s2, s3⟩
           go_simp; with_reducible rfl
         rotate_left
         · simp only [Act.put, zaa, zab, zac, zbw, zbx]
           rfl
         refine pure_ (i := 7) (N := some 15) (v := ?_) (a' := ?_) tafo rfl rfl (zby HT_.out (by kernel_rfl)) (fun _ _ _ h => h) (Or.inl ⟨by rfl, ?_⟩) ?_ ?_
         rotate_left
         · intro w'
           go_simp; with_reducible rfl
         rotate_left
         · simp only [Act.put, zaa, zab, zac, zbw, zbx]
           rfl
         refine pure_ (i := 8) (N := some 16) (v := ?_) (a' := ?_) tafp rfl rfl (zby HT_.out (by kernel_rfl)) (fun _ _ _ h => h) (Or.inl ⟨by rfl, ?_⟩) ?_ ?_
         rotate_left
         · intro w'
           go_simp; with_reducible rfl
         rotate_left
         · simp only [Act.put, zaa, zab, zac, zbw, zbx]
           rfl
         refine last_ (i := 9) (N := none) #[true, true, true, true, true, true, true, true, true, true] rfl rfl (one_of HT_.out (by kernel_rfl)) (by decide) (fun K hK => ?_)
         refine skip_ (w1 := ?_) (by rfl) rfl ?_ ?_
         rotate_left
         · go_simp
           rfl
         refine hK.out _ _ ?_
         clear hK K; refine done_ (done_of HT_.out (by kernel_rfl)) ?_
         try go_wp2
         have n0_ : Aside0 (Kd.R (Kd.int .i64) 3 (w12.setCell ⟨go6, (a1_0 : Int).toNat, none⟩ (.int .i64 (wrap64 ((rd t495 a1_0) - a1_2)))) w.heap.size (fun _ => True) (.slice (some ⟨go6, 0, none⟩) t495.length co13) y499) := ⟨by (with_reducible repeat (first | apply zai | apply zaj | apply zak)); exact HQ14.out⟩
         have n1_ : Aside0 ((w12.setCell ⟨go6, (a1_0 : Int).toNat, none⟩ (.int .i64 (wrap64 ((rd t495 a1_0) - a1_2)))).heap[gb494]? = some (.cells #[.int .i64 a1_0, .int .i64 a1_1, .int .i64 a1_2] 39 (0, 0))) := ⟨by (with_reducible repeat (first | refine blk_drewN ?_ _ | refine blk_drew ?_ | refine blk_alloc ?_ _)); refine blk_far ?_ (by have h_ := Kd.R_ne HO497.out BK494.out (by decide); intro e_; exact h_ (by rw [e_]; rfl)) _; (with_reducible repeat (first | refine blk_drewN ?_ _ | refine blk_drew ?_ | refine blk_alloc ?_ _)); exact BK494.out⟩
         have n2_ : Aside0 (Below w.heap.size w (w12.setCell ⟨go6, (a1_0 : Int).toNat, none⟩ (.int .i64 (wrap64 ((rd t495 a1_0) - a1_2))))) := ⟨tadq⟩
         (try clear HO497); (try clear BK494); (try clear HB); generalize (w12.setCell ⟨go6, (a1_0 : Int).toNat, none⟩ (.int .i64 (wrap64 ((rd t495 a1_0) - a1_2)))) = w15 at n0_ n1_ n2_ ⊢
         have HO497 := n0_; have BK494 := n1_; have HB := n2_; clear n0_ n1_ n2_; have n0_ := zad (zak HO497.out)
         have n1_ := zad (blk_drew BK494.out)
         have n2_ := zad (zaf HB.out)
         clear HO497 BK494 HB; have HO497 := n0_; have BK494 := n1_; have HB := n2_; clear n0_ n1_ n2_; have p500 : 0 ≤ (a1_1 : Int) := zas (taab)
         have q500 : a1_1 < (y499.length : Int) := (by have h_ : (a1_1 : Int) < ((t495.length : Int) : Int) := zas (taab); first | (have e_ := (zbd HO497.out).1; omega) | simpa only [Ny499.out, List.length_set] using h_)
         have ql500 : ((a1_1 : Int) < ((t495.length : Int) : Int)) = True := eq_true (zas (taab))
         obtain ⟨ad500, e500, hx500_0⟩ := zca (zbd HO497.out).2.2 a1_1 p500 q500
         obtain rfl : (⟨go6, 0, none⟩ : Addr) = ad500 := (by injection e500)
         (first | simp only [add_plain] at hx500_0 | simp only [add_at] at hx500_0 | simp only [Addr.add, Nat.zero_add] at hx500_0 | skip)
         replace p500 := eq_true p500
         replace q500 := eq_true q500
         have p9 : 0 ≤ (a1_1 : Int) := zas (taab)
         have q9 : (a1_1 : Int) < ((t495.length : Int) : Int) := zas (taab)
         obtain ⟨hx9_0, hf9_0⟩ := Kd.R_celln 0 HO497.out (a1_1 : Int) p9 q9
         replace p9 := eq_true p9
         replace q9 := eq_true q9
         have HP17 := Kd.R_putn HO497.out (a1_1 : Int) (wrap64 ((rd y499 a1_1) + a1_2))
         rw [← Ny501.out] at HP17
         have HQ17 := zad HP17; clear HP17; refine start_ (n := 10) (S := fun w' => w'.cell? ⟨gb494, 0, none⟩ = some (.int .i64 a1_0) ∧ w'.cell? ⟨gb494, 1, none⟩ = some (.int .i64 a1_1) ∧ w'.cell? ⟨gb494, 2, none⟩ = some (.int .i64 a1_2) ∧ w'.cell? ⟨go6, (a1_1).toNat, none⟩ = some (.int .i64 (rd y499 a1_1))) (ds := [9]) #[false, false, false, false, false, false, false, false, false, false] (by kernel_rfl) rfl rfl ⟨(zbi BK494.out 0).trans rfl, (zbi BK494.out 1).trans rfl, (zbi BK494.out 2).trans rfl, hx500_0⟩ (fun hHeld => ?_); refine with_tabW spec_giDo.tab3 spec_giDo.bits3 (fun HT_ HW_ => ?_)
         generalize w15.drew = w16 at HO497 BK494 HB HQ14 HQ17 hf9_0 hx500_0 hx9_0 hHeld ⊢
         refine pure_ (i := 0) (N := some 17) (v := ?_) (a' := ?_) tafh rfl rfl (zby HT_.out (by kernel_rfl)) (fun _ _ _ h => h) (Or.inl ⟨by rfl, ?_⟩) ?_ ?_
         rotate_left
         · intro w'
           go_simp; with_reducible rfl
         rotate_left
         · simp only [Act.put, zaa, zab, zac, zbw, zbx]
           rfl
         refine pure_ (i := 1) (N := some 18) (v := ?_) (a' := ?_) tafi rfl rfl (zby HT_.out (by kernel_rfl)) (fun _ _ _ h => h) (Or.inl ⟨by rfl, ?_⟩) ?_ ?_
         rotate_left
         · intro w'
           go_simp; with_reducible rfl
         rotate_left
         · simp only [Act.put, zaa, zab, zac, zbw, zbx]
           rfl
         refine pure_ (i := 5) (N := some 22) (v := ?_) (a' := ?_) tafj rfl rfl (zby HT_.out (by kernel_rfl)) (fun _ _ _ h => h) (Or.inl ⟨by rfl, ?_⟩) ?_ ?_
         rotate_left
         · intro w'
           go_simp; with_reducible rfl
         rotate_left
         · simp only [Act.put, zaa, zab, zac, zbw, zbx]
           rfl
         refine take_ (i := 2) (N := some 19) (v := ?_) (a' := ?_) tafk rfl rfl (zbz HT_.out HW_.out (by kernel_rfl)) (fun _ _ _ h => h) (Or.inl ⟨by rfl, ?_⟩) hHeld ?_ ?_
         rotate_left
         · rintro w' ⟨s0, s1, s2, s3⟩
           go_simp; with_reducible rfl
         rotate_left
         · simp only [Act.put, zaa, zab, zac, zbw, zbx]
           rfl
         refine pure_ (i := 3) (N := some 20) (v := ?_) (a' := ?_) tafl rfl rfl (zby HT_.out (by kernel_rfl)) (fun _ _ _ h => h) (Or.inl ⟨by rfl, ?_⟩) ?_ ?_
         rotate_left
         · intro w'
           go_simp; with_reducible rfl
         rotate_left
         · simp only [Act.put, zaa, zab, zac, zbw, zbx]
           rfl
         refine take_ (i := 4) (N := some 21) (v := ?_) (a' := ?_) tafm rfl rfl (zbz HT_.out HW_.out (by kernel_rfl)) (fun _ _ _ h => h) (Or.inl ⟨by rfl, ?_⟩) hHeld ?_ ?_
         rotate_left
         · rintro w' ⟨s0, s1, s2, s3⟩
           go_simp; with_reducible rfl
         rotate_left
         · simp only [Act.put, zaa, zab, zac, zbw, zbx]
           rfl
         refine take_ (i := 6) (N := some 23) (v := ?_) (a' := ?_) tafn rfl rfl (zbz HT_.out HW_.out (by kernel_rfl)) (fun _ _ _ h => h) (Or.inl ⟨by rfl, ?_⟩) hHeld ?_ ?_
         rotate_left
         · rintro w' ⟨s0, s1, s2, s3⟩
           go_simp; with_reducible rfl
         rotate_left
         · simp only [Act.put, zaa, zab, zac, zbw, zbx]
           rfl
         refine pure_ (i := 7) (N := some 24) (v := ?_) (a' := ?_) tafo rfl rfl (zby HT_.out (by kernel_rfl)) (fun _ _ _ h => h) (Or.inl ⟨by rfl, ?_⟩) ?_ ?_
         rotate_left
         · intro w'
           go_simp; with_reducible rfl
         rotate_left
         · simp only [Act.put, zaa, zab, zac, zbw, zbx]
           rfl
         refine pure_ (i := 8) (N := some 25) (v := ?_) (a' := ?_) tafp rfl rfl (zby HT_.out (by kernel_rfl)) (fun _ _ _ h => h) (Or.inl ⟨by rfl, ?_⟩) ?_ ?_
         rotate_left
         · intro w'
           go_simp; with_reducible rfl
         rotate_left
         · simp only [Act.put, zaa, zab, zac, zbw, zbx]
           rfl
         refine last_ (i := 9) (N := none) #[true, true, true, true, true, true, true, true, true, true] rfl rfl (one_of HT_.out (by kernel_rfl)) (by decide) (fun K hK => ?_)
         refine skip_ (w1 := ?_) (by rfl) rfl ?_ ?_
         rotate_left
         · go_simp
           rfl
         refine hK.out _ _ ?_
         clear hK K; refine done_ (done_of HT_.out (by kernel_rfl)) ?_
         try go_wp2
         go_ret
         exact ⟨_, taah, by (with_reducible repeat (first | apply zai | apply zaj | apply zak)); exact HQ17.out, tadq⟩
       · rw [if_neg c8] at H
         exact absurd H (taac)
     · rw [if_neg c7] at H
       exact absurd H (taac)
   · rw [if_neg c5] at H
     exact absurd H (taac)
 · rw [if_neg c4] at H
   exact absurd H (taac)
def impl_given.f (l0 : List Int) (a1_0 : Int) (a1_1 : Int) (a1_2 : Int) : Option (List Int) := (slices_Clone_int_int.f l0).bind fun t531 => (if 0 ≤ a1_0 then (if a1_0 < (t531.length : Int) then ((some (t531.set (a1_0 : Int).toNat (wrap64 ((rd t531 a1_0) - a1_2)) : List Int)).bind fun y535 => (if 0 ≤ a1_1 then (if a1_1 < (t531.length : Int) then (some (y535.set (a1_1 : Int).toNat (wrap64 ((rd y535 a1_1) + a1_2)))) else (none)) else (none))) else (none)) else (none))
def impl_given.T2 : Bool × List (List Nat × List Nat) := (true, [([], []), ([], []), ([1], [1]), ([0, 2], [0, 2]), ([3], [3]), ([], []), ([5], [5]), ([4, 6], [4, 6]), ([0, 2, 0, 1, 2, 3, 4, 5, 6, 7], [0, 2]), ([8, 7, 0, 1, 2, 3, 4, 5, 6, 7], [7, 8])])
def impl_given.B2 : List Nat := [0, 0, 2, 7, 15, 0, 32, 127, 255, 511]
theorem impl_given.tab2 : rtab .any (opsOf Try.f105 2) = impl_given.T2 := by kernel_rfl
theorem impl_given.bits2 : waitsOk impl_given.T2.2 impl_given.B2 = true := by kernel_rfl
def impl_given.T3 : Bool × List (List Nat × List Nat) := (true, [([], []), ([], []), ([1], [1]), ([0, 2], [0, 2]), ([3], [3]), ([], []), ([5], [5]), ([4, 6], [4, 6]), ([0, 2, 0, 1, 2, 3, 4, 5, 6, 7], [0, 2]), ([8, 7, 0, 1, 2, 3, 4, 5, 6, 7], [7, 8])])
def impl_given.B3 : List Nat := [0, 0, 2, 7, 15, 0, 32, 127, 255, 511]
theorem impl_given.tab3 : rtab .any (opsOf Try.f105 3) = impl_given.T3 := by kernel_rfl
theorem impl_given.bits3 : waitsOk impl_given.T3.2 impl_given.B3 = true := by kernel_rfl
theorem impl_given.calls (A0 : Option Addr) (c0 : Nat) (l0 : List Int) (a1_0 : Int) (a1_1 : Int) (a1_2 : Int) (r : List Int) (w : World) (hr0 : Kd.C (Kd.int .i64) w A0 l0.length l0) (hc0 : l0.length ≤ c0) (h : impl_given.f l0 a1_0 a1_1 a1_2 = some r) :
 Calls Try.prog 105 #[.slice A0 l0.length c0, .agg #[.int .i64 a1_0, .int .i64 a1_1, .int .i64 a1_2]] w fun e w' => ∃ v0_ : Value, e = .returned (v0_) ∧ Kd.R (Kd.int .i64) 3 w' w.heap.size (fun _ => True) v0_ r ∧ Below w.heap.size w w' := by
 have hu39 := Try.underlying39
 have HR0 := zad hr0; have HC0 := zad hc0; clear hr0 hc0; have HB := zad (Below.refl w.heap.size w)
 have H : ((slices_Clone_int_int.f l0).bind fun t531 => (if 0 ≤ a1_0 then (if a1_0 < (t531.length : Int) then ((some (t531.set (a1_0 : Int).toNat (wrap64 ((rd t531 a1_0) - a1_2)) : List Int)).bind fun y535 => (if 0 ≤ a1_1 then (if a1_1 < (t531.length : Int) then (some (y535.set (a1_1 : Int).toNat (wrap64 ((rd y535 a1_1) + a1_2)))) else (none)) else (none))) else (none)) else (none))) = some r := h
 clear h; replace H := zay.mp H; obtain ⟨t531, A30, H⟩ := H
 replace H : (if 0 ≤ a1_0 then (if a1_0 < (t531.length : Int) then ((some (t531.set (a1_0 : Int).toNat (wrap64 ((rd t531 a1_0) - a1_2)) : List Int)).bind fun y535 => (if 0 ≤ a1_1 then (if a1_1 < (t531.length : Int) then (some (y535.set (a1_1 : Int).toNat (wrap64 ((rd y535 a1_1) + a1_2)))) else (none)) else (none))) else (none)) else (none)) = some r := H
 have A3 := zad A30; clear A30; by_cases c4 : 0 ≤ a1_0
 · rw [if_pos c4] at H
   have c4b0 : decide (0 ≤ a1_0) = true := zba c4
   clear c4; by_cases c5 : a1_0 < (t531.length : Int)
   · rw [if_pos c5] at H
     have c5b0 : decide (a1_0 < (t531.length : Int)) = true := zba c5
     clear c5; obtain ⟨y535, hy535⟩ : ∃ y_ : List Int, y_ = (t531.set (a1_0 : Int).toNat (wrap64 ((rd t531 a1_0) - a1_2))) := ⟨_, rfl⟩
     replace H : (if 0 ≤ a1_1 then (if a1_1 < (t531.length : Int) then (some (y535.set (a1_1 : Int).toNat (wrap64 ((rd y535 a1_1) + a1_2)))) else (none)) else (none)) = some r := by first | (rw [hy535]; with_reducible exact H) | (have H2_ := (zbb _ _).symm.trans H; rw [hy535]; with_reducible exact H2_) | (have H2_ := (zbb _ _).symm.trans H; with_reducible exact H2_) | with_reducible exact H | (rw [hy535]; exact H) | exact H
     have Ny535 := zad hy535; clear hy535; by_cases c7 : 0 ≤ a1_1
     · rw [if_pos c7] at H
       have c7b0 : decide (0 ≤ a1_1) = true := zba c7
       clear c7; by_cases c8 : a1_1 < (t531.length : Int)
       · rw [if_pos c8] at H
         have c8b0 : decide (a1_1 < (t531.length : Int)) = true := zba c8
         clear c8; obtain ⟨y537, hy537⟩ : ∃ y_ : List Int, y_ = (y535.set (a1_1 : Int).toNat (wrap64 ((rd y535 a1_1) + a1_2))) := ⟨_, rfl⟩
         replace H : (some y537) = some r := by first | (rw [hy537]; with_reducible exact H) | (have H2_ := (zbb _ _).symm.trans H; rw [hy537]; with_reducible exact H2_) | (have H2_ := (zbb _ _).symm.trans H; with_reducible exact H2_) | with_reducible exact H | (rw [hy537]; exact H) | exact H
         have Ny537 := zad hy537; clear hy537; obtain rfl := zbc H
         go_enter Try.func105, Try.ntmps105
         try go_wp2_with (first | ((with_reducible refine gate_dst (N := 3) rfl ?_); refine box_event ?hg (N := 3) ?hd (cs := #[.int .i64 a1_0, .int .i64 a1_1, .int .i64 a1_2]) (t := 39) ?hr ?_; (case hd => rfl); (case hg => rfl); (case hr => first | (go_simp; done) | (go_simp; rfl)); intro gb530 hg w10 hbox hb; have n0_ := zad (zbe (taaa) hb); have n1_ := zad (hbox); have n2_ := zad ((taee : w.heap.size ≤ gb530)); have n3_ := zad ((taee : w.heap.size ≤ gb530)); clear HB; have HB := n0_; have BK530 := n1_; have GW530 := n2_; have GE530 := n3_; clear n0_ n1_ n2_ n3_ hb hbox hg) | ((with_reducible refine zbf (f := 146) rfl ?_); refine zbn (some 7) rfl rfl Try.func146 (by kernel_rfl) rfl #[.slice A0 l0.length c0] rfl (taad) ?_; (with_reducible refine (slices_Clone_int_int.calls _ _ l0 t531 _ ?side1 ?side2 A3.out).mono ?_); (case side1 => exact taev); (case side2 => exact HC0.out); rintro e w11 ⟨v532, rfl, ho0, hb⟩; refine ⟨_, rfl, ?_⟩; have n0_ := zad (zbu ho0 (zbk (tadr))); have n1_ := zad (blk_below (g := gb530) (o := .cells #[.int .i64 a1_0, .int .i64 a1_1, .int .i64 a1_2] 39 (0, 0)) (by (with_reducible repeat (first | refine blk_drewN ?_ _ | refine blk_drew ?_ | refine blk_alloc ?_ _)); exact BK530.out) hb); have n2_ := zad (zbe (tadr) hb); clear BK530 HB; have HO533 := n0_; have BK530 := n1_; have HB := n2_; clear n0_ n1_ n2_; (try clear hb); (try clear hb2); (try clear hk); (try clear hi); (try clear ho0)))
         have n0_ := zad (zak HO533.out)
         have n1_ := zad (blk_drew BK530.out)
         have n2_ := zad (zaf HB.out)
         clear HO533 BK530 HB; have HO533 := n0_; have BK530 := n1_; have HB := n2_; clear n0_ n1_ n2_; obtain ⟨Ao13, co13, eo13⟩ := zbv HO533.out
         (first | subst eo13 | (injection eo13 with f1_ f2_ f3_; have f4_ := f1_.symm; have f5_ := f3_.symm; clear f1_ f2_ f3_; subst f4_; subst f5_))
         have p534 : 0 ≤ (a1_0 : Int) := zas (taab)
         have q534 : a1_0 < (t531.length : Int) := zas (taab)
         obtain ⟨ad534, e534, hx534_0⟩ := zca (zbd HO533.out).2.2 a1_0 p534 q534
         cases e534
         replace p534 := eq_true p534
         replace q534 := eq_true q534
         have p6 : 0 ≤ (a1_0 : Int) := zas (taab)
         have q6 : (a1_0 : Int) < ((t531.length : Int) : Int) := zas (taab)
         obtain ⟨go6, co6, eo6, gb6, gl6, cl6, HG6⟩ := Kd.R_form HO533.out (by omega)
         (first | cases eo6 | (injection eo6 with ea_ en_ ec_; (first | subst ea_ | (injection ea_ with ea_; subst ea_)); subst ec_; clear en_))
         have GB6 := zad gb6; have GG6 := zad HG6; clear gb6 gl6 HG6; (first | simp only [add_plain] at hx534_0 | skip)
         obtain ⟨hx6_0, hf6_0⟩ := Kd.R_celln 0 HO533.out (a1_0 : Int) p6 q6
         replace p6 := eq_true p6
         replace q6 := eq_true q6
         have HP14 := Kd.R_putn HO533.out (a1_0 : Int) (wrap64 ((rd t531 a1_0) - a1_2))
         rw [← Ny535.out] at HP14
         have HQ14 := zad HP14; clear HP14; refine start_ (n := 10) (S := fun w' => w'.cell? ⟨gb530, 0, none⟩ = some (.int .i64 a1_0) ∧ w'.cell? ⟨gb530, 1, none⟩ = some (.int .i64 a1_1) ∧ w'.cell? ⟨gb530, 2, none⟩ = some (.int .i64 a1_2) ∧ w'.cell? ⟨go6, (a1_0).toNat, none⟩ = some (.int .i64 (rd t531 a1_0))) (ds := [9]) #[false, false, false, false, false, false, false, false, false, false] (by kernel_rfl) rfl rfl ⟨(zbi BK530.out 0).trans rfl, (zbi BK530.out 1).trans rfl, (zbi BK530.out 2).trans rfl, hx534_0⟩ (fun hHeld => ?_); refine with_tabW impl_given.tab2 impl_given.bits2 (fun HT_ HW_ => ?_)
         generalize w11.drew = w12 at HO533 BK530 HB GG6 HQ14 hf6_0 hx534_0 hx6_0 hHeld ⊢
         refine pure_ (i := 0) (N := some 8) (v := ?_) (a' := ?_) tafh rfl rfl (zby HT_.out (by kernel_rfl)) (fun _ _ _ h => h) (Or.inl ⟨by rfl, ?_⟩) ?_ ?_
         rotate_left
         · intro w'
           go_simp; with_reducible rfl
         rotate_left
         · simp only [Act.put, zaa, zab, zac, zbw, zbx]
           rfl
         refine pure_ (i := 1) (N := some 9) (v := ?_) (a' := ?_) tafi rfl rfl (zby HT_.out (by kernel_rfl)) (fun _ _ _ h => h) (Or.inl ⟨by rfl, ?_⟩) ?_ ?_
         rotate_left
         · intro w'
           go_simp; with_reducible rfl
         rotate_left
         · simp only [Act.put, zaa, zab, zac, zbw, zbx]
           rfl
         refine pure_ (i := 5) (N := some 13) (v := ?_) (a' := ?_) tafj rfl rfl (zby HT_.out (by kernel_rfl)) (fun _ _ _ h => h) (Or.inl ⟨by rfl, ?_⟩) ?_ ?_
         rotate_left
         · intro w'
           go_simp; with_reducible rfl
         rotate_left
         · simp only [Act.put, zaa, zab, zac, zbw, zbx]
           rfl
         refine take_ (i := 2) (N := some 10) (v := ?_) (a' := ?_) tafk rfl rfl (zbz HT_.out HW_.out (by kernel_rfl)) (fun _ _ _ h => h) (Or.inl ⟨by rfl, ?_⟩) hHeld ?_ ?_
         rotate_left
         · rintro w' ⟨s0, s1, s2, s3⟩
           go_simp; with_reducible rfl
         rotate_left
         · simp only [Act.put, zaa, zab, zac, zbw, zbx]
           rfl
         refine pure_ (i := 3) (N := some 11) (v := ?_) (a' := ?_) tafl rfl rfl (zby HT_.out (by kernel_rfl)) (fun _ _ _ h => h) (Or.inl ⟨by rfl, ?_⟩) ?_ ?_
         rotate_left
         · intro w'
           go_simp; with_reducible rfl
         rotate_left
         · simp only [Act.put, zaa, zab, zac, zbw, zbx]
           rfl
         refine take_ (i := 4) (N := some 12) (v := ?_) (a' := ?_) tafm rfl rfl (zbz HT_.out HW_.out (by kernel_rfl)) (fun _ _ _ h => h) (Or.inl ⟨by rfl, ?_⟩) hHeld ?_ ?_
         rotate_left
         · rintro w' ⟨s0, s1, s2, s3⟩
           go_simp; with_reducible rfl
         rotate_left
         · simp only [Act.put, zaa, zab, zac, zbw, zbx]
           rfl
         refine take_ (i := 6) (N := some 14) (v := ?_) (a' := ?_) tafn rfl rfl (zbz HT_.out HW_.out (by kernel_rfl)) (fun _ _ _ h => h) (Or.inl ⟨by rfl, ?_⟩) hHeld ?_ ?_
         rotate_left
         · rintro w' ⟨s0, s1, s2, s3⟩
           go_simp; with_reducible rfl
         rotate_left
         · simp only [Act.put, zaa, zab, zac, zbw, zbx]
           rfl
         refine pure_ (i := 7) (N := some 15) (v := ?_) (a' := ?_) tafo rfl rfl (zby HT_.out (by kernel_rfl)) (fun _ _ _ h => h) (Or.inl ⟨by rfl, ?_⟩) ?_ ?_
         rotate_left
         · intro w'
           go_simp; with_reducible rfl
         rotate_left
         · simp only [Act.put, zaa, zab, zac, zbw, zbx]
           rfl
         refine pure_ (i := 8) (N := some 16) (v := ?_) (a' := ?_) tafp rfl rfl (zby HT_.out (by kernel_rfl)) (fun _ _ _ h => h) (Or.inl ⟨by rfl, ?_⟩) ?_ ?_
         rotate_left
         · intro w'
           go_simp; with_reducible rfl
         rotate_left
         · simp only [Act.put, zaa, zab, zac, zbw, zbx]
           rfl
         refine last_ (i := 9) (N := none) #[true, true, true, true, true, true, true, true, true, true] rfl rfl (one_of HT_.out (by kernel_rfl)) (by decide) (fun K hK => ?_)
         refine skip_ (w1 := ?_) (by rfl) rfl ?_ ?_
         rotate_left
         · go_simp
           rfl
         refine hK.out _ _ ?_
         clear hK K; refine done_ (done_of HT_.out (by kernel_rfl)) ?_
         try go_wp2
         have n0_ : Aside0 (Kd.R (Kd.int .i64) 3 (w12.setCell ⟨go6, (a1_0 : Int).toNat, none⟩ (.int .i64 (wrap64 ((rd t531 a1_0) - a1_2)))) w.heap.size (fun _ => True) (.slice (some ⟨go6, 0, none⟩) t531.length co13) y535) := ⟨by (with_reducible repeat (first | apply zai | apply zaj | apply zak)); exact HQ14.out⟩
         have n1_ : Aside0 ((w12.setCell ⟨go6, (a1_0 : Int).toNat, none⟩ (.int .i64 (wrap64 ((rd t531 a1_0) - a1_2)))).heap[gb530]? = some (.cells #[.int .i64 a1_0, .int .i64 a1_1, .int .i64 a1_2] 39 (0, 0))) := ⟨by (with_reducible repeat (first | refine blk_drewN ?_ _ | refine blk_drew ?_ | refine blk_alloc ?_ _)); refine blk_far ?_ (by have h_ := Kd.R_ne HO533.out BK530.out (by decide); intro e_; exact h_ (by rw [e_]; rfl)) _; (with_reducible repeat (first | refine blk_drewN ?_ _ | refine blk_drew ?_ | refine blk_alloc ?_ _)); exact BK530.out⟩
         have n2_ : Aside0 (Below w.heap.size w (w12.setCell ⟨go6, (a1_0 : Int).toNat, none⟩ (.int .i64 (wrap64 ((rd t531 a1_0) - a1_2))))) := ⟨tads⟩
         (try clear HO533); (try clear BK530); (try clear HB); generalize (w12.setCell ⟨go6, (a1_0 : Int).toNat, none⟩ (.int .i64 (wrap64 ((rd t531 a1_0) - a1_2)))) = w15 at n0_ n1_ n2_ ⊢
         have HO533 := n0_; have BK530 := n1_; have HB := n2_; clear n0_ n1_ n2_; have n0_ := zad (zak HO533.out)
         have n1_ := zad (blk_drew BK530.out)
         have n2_ := zad (zaf HB.out)
         clear HO533 BK530 HB; have HO533 := n0_; have BK530 := n1_; have HB := n2_; clear n0_ n1_ n2_; have p536 : 0 ≤ (a1_1 : Int) := zas (taab)
         have q536 : a1_1 < (y535.length : Int) := (by have h_ : (a1_1 : Int) < ((t531.length : Int) : Int) := zas (taab); first | (have e_ := (zbd HO533.out).1; omega) | simpa only [Ny535.out, List.length_set] using h_)
         have ql536 : ((a1_1 : Int) < ((t531.length : Int) : Int)) = True := eq_true (zas (taab))
         obtain ⟨ad536, e536, hx536_0⟩ := zca (zbd HO533.out).2.2 a1_1 p536 q536
         obtain rfl : (⟨go6, 0, none⟩ : Addr) = ad536 := (by injection e536)
         (first | simp only [add_plain] at hx536_0 | simp only [add_at] at hx536_0 | simp only [Addr.add, Nat.zero_add] at hx536_0 | skip)
         replace p536 := eq_true p536
         replace q536 := eq_true q536
         have p9 : 0 ≤ (a1_1 : Int) := zas (taab)
         have q9 : (a1_1 : Int) < ((t531.length : Int) : Int) := zas (taab)
         obtain ⟨hx9_0, hf9_0⟩ := Kd.R_celln 0 HO533.out (a1_1 : Int) p9 q9
         replace p9 := eq_true p9
         replace q9 := eq_true q9
         have HP17 := Kd.R_putn HO533.out (a1_1 : Int) (wrap64 ((rd y535 a1_1) + a1_2))
         rw [← Ny537.out] at HP17
         have HQ17 := zad HP17; clear HP17; refine start_ (n := 10) (S := fun w' => w'.cell? ⟨gb530, 0, none⟩ = some (.int .i64 a1_0) ∧ w'.cell? ⟨gb530, 1, none⟩ = some (.int .i64 a1_1) ∧ w'.cell? ⟨gb530, 2, none⟩ = some (.int .i64 a1_2) ∧ w'.cell? ⟨go6, (a1_1).toNat, none⟩ = some (.int .i64 (rd y535 a1_1))) (ds := [9]) #[false, false, false, false, false, false, false, false, false, false] (by kernel_rfl) rfl rfl ⟨(zbi BK530.out 0).trans rfl, (zbi BK530.out 1).trans rfl, (zbi BK530.out 2).trans rfl, hx536_0⟩ (fun hHeld => ?_); refine with_tabW impl_given.tab3 impl_given.bits3 (fun HT_ HW_ => ?_)
         generalize w15.drew = w16 at HO533 BK530 HB HQ14 HQ17 hf9_0 hx536_0 hx9_0 hHeld ⊢
         refine pure_ (i := 0) (N := some 17) (v := ?_) (a' := ?_) tafh rfl rfl (zby HT_.out (by kernel_rfl)) (fun _ _ _ h => h) (Or.inl ⟨by rfl, ?_⟩) ?_ ?_
         rotate_left
         · intro w'
           go_simp; with_reducible rfl
         rotate_left
         · simp only [Act.put, zaa, zab, zac, zbw, zbx]
           rfl
         refine pure_ (i := 1) (N := some 18) (v := ?_) (a' := ?_) tafi rfl rfl (zby HT_.out (by kernel_rfl)) (fun _ _ _ h => h) (Or.inl ⟨by rfl, ?_⟩) ?_ ?_
         rotate_left
         · intro w'
           go_simp; with_reducible rfl
         rotate_left
         · simp only [Act.put, zaa, zab, zac, zbw, zbx]
           rfl
         refine pure_ (i := 5) (N := some 22) (v := ?_) (a' := ?_) tafj rfl rfl (zby HT_.out (by kernel_rfl)) (fun _ _ _ h => h) (Or.inl ⟨by rfl, ?_⟩) ?_ ?_
         rotate_left
         · intro w'
           go_simp; with_reducible rfl
         rotate_left
         · simp only [Act.put, zaa, zab, zac, zbw, zbx]
           rfl
         refine take_ (i := 2) (N := some 19) (v := ?_) (a' := ?_) tafk rfl rfl (zbz HT_.out HW_.out (by kernel_rfl)) (fun _ _ _ h => h) (Or.inl ⟨by rfl, ?_⟩) hHeld ?_ ?_
         rotate_left
         · rintro w' ⟨s0, s1, s2, s3⟩
           go_simp; with_reducible rfl
         rotate_left
         · simp only [Act.put, zaa, zab, zac, zbw, zbx]
           rfl
         refine pure_ (i := 3) (N := some 20) (v := ?_) (a' := ?_) tafl rfl rfl (zby HT_.out (by kernel_rfl)) (fun _ _ _ h => h) (Or.inl ⟨by rfl, ?_⟩) ?_ ?_
         rotate_left
         · intro w'
           go_simp; with_reducible rfl
         rotate_left
         · simp only [Act.put, zaa, zab, zac, zbw, zbx]
           rfl
         refine take_ (i := 4) (N := some 21) (v := ?_) (a' := ?_) tafm rfl rfl (zbz HT_.out HW_.out (by kernel_rfl)) (fun _ _ _ h => h) (Or.inl ⟨by rfl, ?_⟩) hHeld ?_ ?_
         rotate_left
         · rintro w' ⟨s0, s1, s2, s3⟩
           go_simp; with_reducible rfl
         rotate_left
         · simp only [Act.put, zaa, zab, zac, zbw, zbx]
           rfl
         refine take_ (i := 6) (N := some 23) (v := ?_) (a' := ?_) tafn rfl rfl (zbz HT_.out HW_.out (by kernel_rfl)) (fun _ _ _ h => h) (Or.inl ⟨by rfl, ?_⟩) hHeld ?_ ?_
         rotate_left
         · rintro w' ⟨s0, s1, s2, s3⟩
           go_simp; with_reducible rfl
         rotate_left
         · simp only [Act.put, zaa, zab, zac, zbw, zbx]
           rfl
         refine pure_ (i := 7) (N := some 24) (v := ?_) (a' := ?_) tafo rfl rfl (zby HT_.out (by kernel_rfl)) (fun _ _ _ h => h) (Or.inl ⟨by rfl, ?_⟩) ?_ ?_
         rotate_left
         · intro w'
           go_simp; with_reducible rfl
         rotate_left
         · simp only [Act.put, zaa, zab, zac, zbw, zbx]
           rfl
         refine pure_ (i := 8) (N := some 25) (v := ?_) (a' := ?_) tafp rfl rfl (zby HT_.out (by kernel_rfl)) (fun _ _ _ h => h) (Or.inl ⟨by rfl, ?_⟩) ?_ ?_
         rotate_left
         · intro w'
           go_simp; with_reducible rfl
         rotate_left
         · simp only [Act.put, zaa, zab, zac, zbw, zbx]
           rfl
         refine last_ (i := 9) (N := none) #[true, true, true, true, true, true, true, true, true, true] rfl rfl (one_of HT_.out (by kernel_rfl)) (by decide) (fun K hK => ?_)
         refine skip_ (w1 := ?_) (by rfl) rfl ?_ ?_
         rotate_left
         · go_simp
           rfl
         refine hK.out _ _ ?_
         clear hK K; refine done_ (done_of HT_.out (by kernel_rfl)) ?_
         try go_wp2
         go_ret
         exact ⟨_, taah, by (with_reducible repeat (first | apply zai | apply zaj | apply zak)); exact HQ17.out, tads⟩
       · rw [if_neg c8] at H
         exact absurd H (taac)
     · rw [if_neg c7] at H
       exact absurd H (taac)
   · rw [if_neg c5] at H
     exact absurd H (taac)
 · rw [if_neg c4] at H
   exact absurd H (taac)
mutual
def spec_liRank.l0 : Nat → List Int → List Int → Int → Int → Option (List Int)
 | 0, _, _, _, _ => none
 | k + 1, x3, x7, x8, x9 => if x9 < x8 then (if 0 ≤ x9 then (if x9 < (x7.length : Int) then (spec_liRank.l1 k x3 (rd x7 x9) 0 x7 x8 x9) else (none)) else (none)) else (some x3)
def spec_liRank.l1 : Nat → List Int → Int → Int → List Int → Int → Int → Option (List Int)
 | 0, _, _, _, _, _, _ => none
 | k + 1, x3, x5, x6, x7, x8, x9 => if x6 < (x3.length : Int) then (if 0 ≤ x6 then (if (rd x3 x6) ≥ x5 then (spec_liRank.l1 k x3 x5 (wrap64 (x6 + 1)) x7 x8 x9) else (if x6 ≤ (x3.length : Int) then ((spec_l1Own.f (x3.take (x6 : Int).toNat)).bind fun t663 => ((some (([x5] : List Int) : List Int)).bind fun y666 => (if t663.length + y666.length < 17592186044416 then ((some (t663 ++ y666 : List Int)).bind fun y669 => ((some (x3.drop (x6 : Int).toNat : List Int)).bind fun y672 => (if y669.length + y672.length < 17592186044416 then (spec_liRank.l0 k (y669 ++ y672) x7 x8 (wrap64 (x9 + 1))) else (none)))) else (none)))) else (none))) else (none)) else (if 0 ≤ x6 then (if x6 ≤ (x3.length : Int) then ((spec_l1Own.f (x3.take (x6 : Int).toNat)).bind fun t683 => ((some (([x5] : List Int) : List Int)).bind fun y686 => (if t683.length + y686.length < 17592186044416 then ((some (t683 ++ y686 : List Int)).bind fun y689 => ((some (x3.drop (x6 : Int).toNat : List Int)).bind fun y692 => (if y689.length + y692.length < 17592186044416 then (spec_liRank.l0 k (y689 ++ y692) x7 x8 (wrap64 (x9 + 1))) else (none)))) else (none)))) else (none)) else (none))
end
def spec_liRank.f (k : Nat) (l0 : List Int) : Option (List Int) := spec_liRank.l0 k ([] : List Int) l0 (l0.length : Int) 0
def spec_liRank.T8 : Bool × List (List Nat × List Nat) := (true, [([], []), ([], []), ([0, 1], [0, 1]), ([2], [2]), ([], []), ([4], [4]), ([3, 5, 3], [3, 5]), ([], []), ([], []), ([7, 8], [7, 8]), ([6, 9, 6], [6, 9]), ([10, 10, 0, 1, 2, 3, 4, 5, 6, 7, 8, 9, 10], [0, 7, 10])])
def spec_liRank.B8 : List Nat := [0, 0, 3, 7, 0, 16, 63, 0, 0, 384, 1023, 2047]
theorem spec_liRank.tab8 : rtab .any (opsOf Try.f108 8) = spec_liRank.T8 := by kernel_rfl
theorem spec_liRank.bits8 : waitsOk spec_liRank.T8.2 spec_liRank.B8 = true := by kernel_rfl
theorem spec_liRank.calls (k : Nat) (A0 : Option Addr) (c0 : Nat) (l0 : List Int) (r : List Int) (w : World) (hr0 : Kd.C (Kd.int .i64) w A0 l0.length l0) (hc0 : l0.length ≤ c0) (h : spec_liRank.f k l0 = some r) :
 Calls Try.prog 108 #[.slice A0 l0.length c0] w fun e w' => ∃ v0_ : Value, e = .returned (v0_) ∧ Kd.R (Kd.int .i64) 3 w' w.heap.size (fun _ => True) v0_ r ∧ Below w.heap.size w w' := by
 have HR0 := zad hr0; have HC0 := zad hc0; clear hr0 hc0; have HB := zad (Below.refl w.heap.size w)
 have H : (spec_liRank.l0 k ([] : List Int) l0 (l0.length : Int) 0) = some r := h
 clear h; have H' := zad H
 clear H; go_enter Try.func108, Try.ntmps108
 go_wp2
 go_loopg [3, 9] k (fun kq v3 v9 w' => ∃ (x3_1 : List Int) (x9_1 : Int), v9 = .int .i64 x9_1 ∧ Aside0 (spec_liRank.l0 kq x3_1 l0 (l0.length : Int) x9_1 = some r) ∧ Aside0 (kq ≤ k) ∧ Aside0 (Kd.R (Kd.int .i64) 3 w' w.heap.size (fun _ => True) v3 x3_1) ∧ Aside0 (Below w.heap.size w w'))
 case atStart => exact ⟨(([] : List Int)), (0), (taag), H', ⟨zcf _⟩, ⟨tabl⟩, ⟨taaa⟩⟩
 case round =>
  clear H'
  try clear c1
  obtain ⟨x3_1, x9_1, rfl, HA, HK1, HO_3, HB⟩ := hrel
  cases gk with
  | zero => exact absurd HA.out (by simp [spec_liRank.l0])
  | succ k1 =>
   have H := HA.out
   clear HA; simp only [spec_liRank.l0] at H
   by_cases c2 : x9_1 < (l0.length : Int)
   · rw [if_pos c2] at H
     have c2b0 : decide (x9_1 < (l0.length : Int)) = true := zba c2
     clear c2; by_cases c3 : 0 ≤ x9_1
     · rw [if_pos c3] at H
       have c3b0 : decide (0 ≤ x9_1) = true := zba c3
       clear c3; by_cases c4 : x9_1 < (l0.length : Int)
       · rw [if_pos c4] at H
         have c4b0 : decide (x9_1 < (l0.length : Int)) = true := zba c4
         clear c4; have H' := zad H
         clear H; have p657 : 0 ≤ (x9_1 : Int) := zas (taab)
         have q657 : x9_1 < (l0.length : Int) := zas (taab)
         obtain ⟨ad657, e657, hx657_0⟩ := zca HR0.out x9_1 p657 q657
         cases e657
         replace hx657_0 := (HB.out.cell (zaz w _ hx657_0)).trans hx657_0
         replace p657 := eq_true p657
         replace q657 := eq_true q657
         go_wp2
         go_loopg [6] k1 (fun kq v6 w' => ∃ (x6_2 : Int), v6 = .int .i64 x6_2 ∧ Aside0 (spec_liRank.l1 kq x3_1 (rd l0 x9_1) x6_2 l0 (l0.length : Int) x9_1 = some r) ∧ Aside0 (kq ≤ k1) ∧ Aside0 (Kd.R (Kd.int .i64) 3 w' w.heap.size (fun _ => True) u3 x3_1) ∧ Aside0 (Below w.heap.size w w'))
         case atStart => exact ⟨(0), (taag), H', ⟨zcf _⟩, ⟨taap⟩, ⟨taaa⟩⟩
         case round =>
          clear H'
          try clear c1
          try clear c2
          try clear c2b0
          try clear p2
          try clear c3
          try clear c3b0
          try clear c4
          try clear c4b0
          try clear hx657_0
          try clear p657
          try clear q657
          obtain ⟨x6_2, rfl, HA, HK2, HO_3, HB⟩ := hrel
          cases gk with
          | zero => exact absurd HA.out (by simp [spec_liRank.l1])
          | succ k2 =>
           have H := HA.out
           clear HA; simp only [spec_liRank.l1] at H
           by_cases c5 : x6_2 < (x3_1.length : Int)
           · rw [if_pos c5] at H
             have c5b0 : decide (x6_2 < (x3_1.length : Int)) = true := zba c5
             clear c5; by_cases c6 : 0 ≤ x6_2
             · rw [if_pos c6] at H
               have c6b0 : decide (0 ≤ x6_2) = true := zba c6
               clear c6; by_cases c7 : (rd x3_1 x6_2) ≥ (rd l0 x9_1)
               · rw [if_pos c7] at H
                 have c7b0 : decide ((rd l0 x9_1) ≤ (rd x3_1 x6_2)) = true := zba c7
                 clear c7; have H' := zad H
                 clear H; obtain ⟨Ao8, co8, eo8⟩ := zbv HO_3.out
                 subst eo8; have p658 : 0 ≤ (x6_2 : Int) := zas (taab)
                 have q658 : x6_2 < (x3_1.length : Int) := zas (taab)
                 obtain ⟨ad658, e658, hx658_0⟩ := zca (zbd HO_3.out).2.2 x6_2 p658 q658
                 cases e658
                 replace p658 := eq_true p658
                 replace q658 := eq_true q658
                 go_wp2
                 go_roundg k2
                 case measure => have := HK1.out; have := HK2.out; omega
                 case rel => exact ⟨(wrap64 (x6_2 + 1)), (taag), H', ⟨by have := HK1.out; have := HK2.out; omega⟩, ⟨taap⟩, ⟨taaa⟩⟩
               · rw [if_neg c7] at H
                 have c7b0 : decide ((rd l0 x9_1) ≤ (rd x3_1 x6_2)) = false := zbh c7
                 clear c7; have c9b0 := eq_true (zas (taab) : 0 ≤ x6_2)
                 by_cases c10 : x6_2 ≤ (x3_1.length : Int)
                 · rw [if_pos c10] at H
                   have c10b0 := eq_true c10; have c10b1 : decide (x6_2 ≤ (x3_1.length : Int)) = true := zba c10
                   clear c10; obtain ⟨y659, hy659⟩ : ∃ y_ : List Int, y_ = (x3_1.take (x6_2 : Int).toNat) := ⟨_, rfl⟩
                   replace H : ((spec_l1Own.f y659).bind fun t663 => ((some (([(rd l0 x9_1)] : List Int) : List Int)).bind fun y666 => (if t663.length + y666.length < 17592186044416 then ((some (t663 ++ y666 : List Int)).bind fun y669 => ((some (x3_1.drop (x6_2 : Int).toNat : List Int)).bind fun y672 => (if y669.length + y672.length < 17592186044416 then (spec_liRank.l0 k2 (y669 ++ y672) l0 (l0.length : Int) (wrap64 (x9_1 + 1))) else (none)))) else (none)))) = some r := by first | (rw [hy659]; with_reducible exact H) | (have H2_ := (zbb _ _).symm.trans H; rw [hy659]; with_reducible exact H2_) | (have H2_ := (zbb _ _).symm.trans H; with_reducible exact H2_) | with_reducible exact H | (rw [hy659]; exact H) | exact H
                   have Ny659 := zad hy659; clear hy659; replace H := zay.mp H; obtain ⟨t663, A110, H⟩ := H
                   replace H : ((some (([(rd l0 x9_1)] : List Int) : List Int)).bind fun y666 => (if t663.length + y666.length < 17592186044416 then ((some (t663 ++ y666 : List Int)).bind fun y669 => ((some (x3_1.drop (x6_2 : Int).toNat : List Int)).bind fun y672 => (if y669.length + y672.length < 17592186044416 then (spec_liRank.l0 k2 (y669 ++ y672) l0 (l0.length : Int) (wrap64 (x9_1 + 1))) else (none)))) else (none))) = some r := H
                   have A11 := zad A110; clear A110; obtain ⟨y666, hy666⟩ : ∃ y_ : List Int, y_ = (([(rd l0 x9_1)] : List Int)) := ⟨_, rfl⟩
                   replace H : (if t663.length + y666.length < 17592186044416 then ((some (t663 ++ y666 : List Int)).bind fun y669 => ((some (x3_1.drop (x6_2 : Int).toNat : List Int)).bind fun y672 => (if y669.length + y672.length < 17592186044416 then (spec_liRank.l0 k2 (y669 ++ y672) l0 (l0.length : Int) (wrap64 (x9_1 + 1))) else (none)))) else (none)) = some r := by first | (rw [hy666]; with_reducible exact H) | (have H2_ := (zbb _ _).symm.trans H; rw [hy666]; with_reducible exact H2_) | (have H2_ := (zbb _ _).symm.trans H; with_reducible exact H2_) | with_reducible exact H | (rw [hy666]; exact H) | exact H
                   have Ny666 := zad hy666; clear hy666; by_cases c12 : t663.length + y666.length < 17592186044416
                   · rw [if_pos c12] at H
                     have LMc12 := zad c12; clear c12; obtain ⟨y669, hy669⟩ : ∃ y_ : List Int, y_ = (t663 ++ y666) := ⟨_, rfl⟩
                     replace H : ((some (x3_1.drop (x6_2 : Int).toNat : List Int)).bind fun y672 => (if y669.length + y672.length < 17592186044416 then (spec_liRank.l0 k2 (y669 ++ y672) l0 (l0.length : Int) (wrap64 (x9_1 + 1))) else (none))) = some r := by first | (rw [hy669]; with_reducible exact H) | (have H2_ := (zbb _ _).symm.trans H; rw [hy669]; with_reducible exact H2_) | (have H2_ := (zbb _ _).symm.trans H; with_reducible exact H2_) | with_reducible exact H | (rw [hy669]; exact H) | exact H
                     have Ny669 := zad hy669; clear hy669; have c13b0 := eq_true (zas (taab) : 0 ≤ x6_2)
                     have c14b0 := eq_true (zas (taab) : x6_2 ≤ (x3_1.length : Int))
                     obtain ⟨y672, hy672⟩ : ∃ y_ : List Int, y_ = (x3_1.drop (x6_2 : Int).toNat) := ⟨_, rfl⟩
                     replace H : (if y669.length + y672.length < 17592186044416 then (spec_liRank.l0 k2 (y669 ++ y672) l0 (l0.length : Int) (wrap64 (x9_1 + 1))) else (none)) = some r := by first | (rw [hy672]; with_reducible exact H) | (have H2_ := (zbb _ _).symm.trans H; rw [hy672]; with_reducible exact H2_) | (have H2_ := (zbb _ _).symm.trans H; with_reducible exact H2_) | with_reducible exact H | (rw [hy672]; exact H) | exact H
                     have Ny672 := zad hy672; clear hy672; by_cases c15 : y669.length + y672.length < 17592186044416
                     · rw [if_pos c15] at H
                       have LMc15 := zad c15; clear c15; obtain ⟨y676, hy676⟩ : ∃ y_ : List Int, y_ = (y669 ++ y672) := ⟨_, rfl⟩
                       replace H : (spec_liRank.l0 k2 y676 l0 (l0.length : Int) (wrap64 (x9_1 + 1))) = some r := by first | (rw [hy676]; with_reducible exact H) | (have H2_ := (zbb _ _).symm.trans H; rw [hy676]; with_reducible exact H2_) | (have H2_ := (zbb _ _).symm.trans H; with_reducible exact H2_) | with_reducible exact H | (rw [hy676]; exact H) | exact H
                       have Ny676 := zad hy676; clear hy676; have H' := zad H
                       clear H; obtain ⟨Ao16, co16, eo16⟩ := zbv HO_3.out
                       subst eo16; have p658 : 0 ≤ (x6_2 : Int) := zas (taab)
                       have q658 : x6_2 < (x3_1.length : Int) := zas (taab)
                       obtain ⟨ad658, e658, hx658_0⟩ := zca (zbd HO_3.out).2.2 x6_2 p658 q658
                       cases e658
                       replace p658 := eq_true p658
                       replace q658 := eq_true q658
                       try go_wp2
                       have n0_ := zad (zak HO_3.out)
                       have n1_ := zad (zaf HB.out)
                       clear HO_3 HB; have HO_3 := n0_; have HB := n1_; clear n0_ n1_; have q18 : (x6_2 : Int) ≤ ((x3_1.length : Int) : Int) := zas (taab)
                       obtain ⟨i018, hi018, _, hsz18, _⟩ := info_parts info3
                       have hroom18 : x3_1.length ≤ co16 := (zbd HO_3.out).2.1
                       have hC18 : Kd.C (Kd.int .i64) _ (some ad658) x3_1.length x3_1 := (zbd HO_3.out).2.2
                       have hcut18 := cut_to (P := Try.prog) 26 3 .i64 Try.underlying26 hi018 (some ad658) x3_1.length co16 x6_2 (zas (taab)) q18 hroom18
                       have hr18 := Kd.C_take (m := (x6_2 : Int).toNat) hC18 (by omega)
                       have hy18 : y659.length = (x6_2 : Int).toNat := (by rw [Ny659.out, zax]; omega)
                       rw [← Ny659.out] at hr18
                       rw [← hy18] at hcut18
                       have HR662 := zad hr18; have HC662 := zad (show y659.length ≤ co16 from by omega)
                       clear hr18 hC18 hroom18 hi018 hsz18; have KY18 := zad hy18; clear hy18; have KL18 := zad (show (x6_2 : Int).toNat ≤ x3_1.length from by omega)
                       replace q18 := eq_true q18
                       have q19 : (x6_2 : Int) ≤ ((x3_1.length : Int) : Int) := zas (taab)
                       obtain ⟨i019, hi019, _, hsz19, _⟩ := info_parts info3
                       have hroom19 : x3_1.length ≤ co16 := (zbd HO_3.out).2.1
                       have hC19 : Kd.C (Kd.int .i64) _ (some ad658) x3_1.length x3_1 := (zbd HO_3.out).2.2
                       have q019 : (0 : Int) ≤ (x6_2 : Int) := zas (taab)
                       have hcut19 := cut_from (P := Try.prog) 26 3 .i64 Try.underlying26 hi019 1 hsz19 (some ad658) x3_1.length co16 x6_2 q019 q19
                       have hr19 := Kd.C_drop (m := (x6_2 : Int).toNat) (c := co16) hC19 (by omega) hroom19
                       obtain ⟨A19, hA19⟩ : ∃ A1, A1 = (if co16 = (x6_2 : Int).toNat then (some ad658) else ((some ad658) : Option Addr).map (·.add ((x6_2 : Int).toNat * 1))) := ⟨_, rfl⟩
                       obtain ⟨c19, hc19⟩ : ∃ c1, c1 = co16 - (x6_2 : Int).toNat := ⟨_, rfl⟩
                       have hy19 : y672.length = x3_1.length - (x6_2 : Int).toNat := (by rw [Ny672.out, zaw] <;> omega)
                       rw [show (x3_1).drop (x6_2 : Int).toNat = y672 from Ny672.out.symm] at hr19
                       replace hr19 : Kd.C (Kd.int .i64) _ A19 y672.length y672 := (by rw [hA19]; exact hr19)
                       rw [← hy19, ← hA19, ← hc19] at hcut19
                       have HR675 := zad hr19; have HC675 := zad (show y672.length ≤ c19 from by rw [hy19, hc19]; exact Nat.sub_le_sub_right hroom19 _)
                       clear hr19 hC19 hroom19 hi019 hsz19 hc19; have KY19 := zad hy19; have KA19 := zad hA19; clear hy19 hA19; have KL19 := zad (show (x6_2 : Int).toNat ≤ x3_1.length from by omega)
                       replace q19 := eq_true q19
                       refine start_ (n := 12) (S := fun w' => True) (ds := []) #[false, false, false, false, false, false, false, false, false, false, false, false] (by kernel_rfl) rfl rfl trivial (fun hHeld => ?_); refine with_tabW spec_liRank.tab8 spec_liRank.bits8 (fun HT_ HW_ => ?_)
                       generalize wr.drew = w17 at HO_3 HB HR662 HR675 hHeld ⊢
                       refine pure_ (i := 0) (N := some 27) (v := ?_) (a' := ?_) #[true, false, false, false, false, false, false, false, false, false, false, false] rfl rfl (zby HT_.out (by kernel_rfl)) (fun _ _ _ h => h) (Or.inl ⟨by rfl, ?_⟩) ?_ ?_
                       rotate_left
                       · intro w'
                         go_simp; with_reducible rfl
                       rotate_left
                       · simp only [Act.put, zaa, zab, zac, zbw, zbx]
                         rfl
                       refine pure_ (i := 1) (N := some 28) (v := ?_) (a' := ?_) #[true, true, false, false, false, false, false, false, false, false, false, false] rfl rfl (zby HT_.out (by kernel_rfl)) (fun _ _ _ h => h) (Or.inl ⟨by rfl, ?_⟩) ?_ ?_
                       rotate_left
                       · intro w'
                         go_simp; with_reducible rfl
                       rotate_left
                       · simp only [Act.put, zaa, zab, zac, zbw, zbx]
                         rfl
                       refine pure_ (i := 2) (N := some 29) (v := ?_) (a' := ?_) #[true, true, true, false, false, false, false, false, false, false, false, false] rfl rfl (zby HT_.out (by kernel_rfl)) (fun _ _ _ h => h) (Or.inl ⟨by rfl, ?_⟩) ?_ ?_
                       rotate_left
                       · intro w'
                         go_simp; with_reducible rfl
                       rotate_left
                       · simp only [Act.put, zaa, zab, zac, zbw, zbx]
                         rfl
                       refine pure_ (i := 4) (N := some 31) (v := ?_) (a' := ?_) #[true, true, true, false, true, false, false, false, false, false, false, false] rfl rfl (zby HT_.out (by kernel_rfl)) (fun _ _ _ h => h) (Or.inl ⟨by rfl, ?_⟩) ?_ ?_
                       rotate_left
                       · intro w'
                         go_simp; with_reducible rfl
                       rotate_left
                       · simp only [Act.put, zaa, zab, zac, zbw, zbx]
                         rfl
                       refine pure_ (i := 7) (N := some 34) (v := ?_) (a' := ?_) #[true, true, true, false, true, false, false, true, false, false, false, false] rfl rfl (zby HT_.out (by kernel_rfl)) (fun _ _ _ h => h) (Or.inl ⟨by rfl, ?_⟩) ?_ ?_
                       rotate_left
                       · intro w'
                         go_simp; with_reducible rfl
                       rotate_left
                       · simp only [Act.put, zaa, zab, zac, zbw, zbx]
                         rfl
                       refine pure_ (i := 8) (N := some 35) (v := ?_) (a' := ?_) #[true, true, true, false, true, false, false, true, true, false, false, false] rfl rfl (zby HT_.out (by kernel_rfl)) (fun _ _ _ h => h) (Or.inl ⟨by rfl, ?_⟩) ?_ ?_
                       rotate_left
                       · intro w'
                         go_simp; with_reducible rfl
                       rotate_left
                       · simp only [Act.put, zaa, zab, zac, zbw, zbx]
                         rfl
                       refine pure_ (i := 9) (N := some 36) (v := ?_) (a' := ?_) #[true, true, true, false, true, false, false, true, true, true, false, false] rfl rfl (zby HT_.out (by kernel_rfl)) (fun _ _ _ h => h) (Or.inl ⟨by rfl, ?_⟩) ?_ ?_
                       rotate_left
                       · intro w'
                         go_simp; with_reducible rfl
                       rotate_left
                       · simp only [Act.put, zaa, zab, zac, zbw, zbx]
                         rfl
                       refine join_ (σ := Value × Value) 3 #[true, true, true, true, true, true, false, true, true, true, false, false] (fun s_ => [(30, s_.1), (32, s_.2)]) (fun s_ w' => (Kd.R (Kd.int .i64) 3 w' w.heap.size (fun k_ => some k_ ≠ (s_.2 : Value).ownBlock ∧ some k_ ≠ (.slice (some ad658) x3_1.length co16 : Value).ownBlock) s_.1 t663) ∧ (Kd.R (Kd.int .i64) 3 w' w.heap.size (fun k_ => some k_ ≠ (s_.1 : Value).ownBlock ∧ some k_ ≠ (.slice (some ad658) x3_1.length co16 : Value).ownBlock) s_.2 y666) ∧ (Kd.R (Kd.int .i64) 3 w' w.heap.size (fun k_ => some k_ ≠ (s_.1 : Value).ownBlock ∧ some k_ ≠ (s_.2 : Value).ownBlock) (.slice (some ad658) x3_1.length co16) x3_1) ∧ (Below w.heap.size w w')) ?_ ?_
                       rotate_left
                       · intro hCont
                         refine two_ (i := 3) (j := 5) (Ni := some 30) (Nj := some 32) #[true, true, true, true, true, false, false, true, true, true, false, false] #[true, true, true, false, true, true, false, true, true, true, false, false] rfl rfl rfl rfl (two_of HT_.out (by kernel_rfl)) (by decide) (by decide) (fun K hK => ?_) (fun K hK => ?_)
                         · skip
                           refine goes_ Try.func111 (by kernel_rfl) rfl #[.slice (some ad658) y659.length co16] (by rfl) rfl rfl (taad) ?_
                           with_reducible refine (spec_l1Own.calls _ _ y659 t663 _ ?side1 ?side2 A11.out).mono ?_
                           (case side1 => repeat (first | exact (tabp) | (with_reducible refine zal ?_ _) | (with_reducible refine zam ?_ _) | (with_reducible refine zan ?_)))
                           (case side2 => exact HC662.out)
                           rintro e w20 ⟨v664, rfl, ho0, hb⟩
                           refine ⟨_, rfl, ?_⟩
                           have n0_ := zad (zcb (taap) (zcd ho0) hb)
                           have n1_ := zad (zbu (zcc ho0 (zce (taap))) (zbk (taaa)))
                           have n2_ := zad (Kd.C_below (tabp) hb)
                           have n3_ := zad (Kd.C_below (tacl) hb)
                           have n4_ := zad (zbe (taaa) hb)
                           clear HO_3 HR662 HR675 HB; have HO_3 := n0_; have HO665 := n1_; have HR662 := n2_; have HR675 := n3_; have HB := n4_; clear n0_ n1_ n2_ n3_ n4_; (try clear hb); (try clear hb2); (try clear hk); (try clear hi); (try clear ho0); refine hK.out _ _ trivial (fun hHeld => ?_)
                           clear hK K; refine norm_ (a' := ?_) ?_ ?_
                           rotate_left
                           · show Act.put _ (some 30) _ = _
                             simp only [Act.put, zaa, zab, zac, zbw, zbx]
                             rfl
                           refine one_ (i := 5) (N := some 32) #[true, true, true, true, true, true, false, true, true, true, false, false] rfl rfl (one_of HT_.out (by kernel_rfl)) (by decide) (fun K hK => ?_)
                           refine Kd.R_lit_step (Kd.int .i64) _ 3 ?hg (N := 32) ?hd (xs := ([(rd l0 x9_1)] : List Int)) (inner := [.int .i64 (rd l0 x9_1)]) (ok := fun _ => True) (okp := fun _ => True) ?hr ?hp (fun _ hk => hk) trivial (Below.refl _ _) (zcf _) (taac) ?_; (case hd => rfl); (case hg => rfl); (case hr => first | (go_simp; done) | (go_simp; rfl)); (case hp => exact (Reps.one (show Kd.M (Kd.int .i64) _ _ _ (rd l0 x9_1) [.int .i64 (rd l0 x9_1)] from rfl) (Reps.none _ _)))
                           intro v667 w21 ho22 hb hg_ hnew_
                           clear hg_ hnew_; (first | rw [← Ny666.out] at ho22 | (simp only [Int.reduceToNat] at ho22; rw [← Ny666.out] at ho22))
                           have n0_ := zad (zcb (taap) (zcd ho22) hb)
                           have n1_ := zad (zcb (by (with_reducible repeat (first | apply zai | apply zaj | apply zak)); exact HO665.out) (zcd ho22) hb)
                           have n2_ := zad (zbu (zcc (zcc ho22 (zce (taap))) (zce (by (with_reducible repeat (first | apply zai | apply zaj | apply zak)); exact HO665.out))) (zbk (taaa)))
                           have n3_ := zad (Kd.C_below (tabp) hb)
                           have n4_ := zad (Kd.C_below (tacl) hb)
                           have n5_ := zad (zbe (taaa) hb)
                           clear HO_3 HO665 HR662 HR675 HB; have HO_3 := n0_; have HO665 := n1_; have HO668 := n2_; have HR662 := n3_; have HR675 := n4_; have HB := n5_; clear n0_ n1_ n2_ n3_ n4_ n5_ hb ho22; refine hK.out _ _ trivial (fun hHeld => ?_)
                           clear hK K; refine norm_ (a' := ?_) ?_ ?_
                           rotate_left
                           · show Act.put _ (some 32) _ = _
                             simp only [Act.put, zaa, zab, zac, zbw, zbx]
                             rfl
                           exact norm_ (by simp only [putAll, Act.put, zaa, zab, zac]) (hCont (v664, v667) _ ⟨(by (with_reducible repeat (first | apply zai | apply zaj | apply zak)); exact zbq HO665.out (fun _ hk => ⟨hk.2, hk.1.2⟩)), (by (with_reducible repeat (first | apply zai | apply zaj | apply zak)); exact zbq HO668.out (fun _ hk => ⟨hk.2, hk.1.2⟩)), (by (with_reducible repeat (first | apply zai | apply zaj | apply zak)); exact zbq HO_3.out (fun _ hk => ⟨hk.1.2, hk.2⟩)), (taaa)⟩)
                         · skip
                           refine Kd.R_lit_step (Kd.int .i64) _ 3 ?hg (N := 32) ?hd (xs := ([(rd l0 x9_1)] : List Int)) (inner := [.int .i64 (rd l0 x9_1)]) (ok := fun _ => True) (okp := fun _ => True) ?hr ?hp (fun _ hk => hk) trivial (Below.refl _ _) (zcf _) (taac) ?_; (case hd => rfl); (case hg => rfl); (case hr => first | (go_simp; done) | (go_simp; rfl)); (case hp => exact (Reps.one (show Kd.M (Kd.int .i64) _ _ _ (rd l0 x9_1) [.int .i64 (rd l0 x9_1)] from rfl) (Reps.none _ _)))
                           intro v667 w20 ho21 hb hg_ hnew_
                           clear hg_ hnew_; (first | rw [← Ny666.out] at ho21 | (simp only [Int.reduceToNat] at ho21; rw [← Ny666.out] at ho21))
                           have n0_ := zad (zcb (taap) (zcd ho21) hb)
                           have n1_ := zad (zbu (zcc ho21 (zce (taap))) (zbk (taaa)))
                           have n2_ := zad (Kd.C_below (tabp) hb)
                           have n3_ := zad (Kd.C_below (tacl) hb)
                           have n4_ := zad (zbe (taaa) hb)
                           clear HO_3 HR662 HR675 HB; have HO_3 := n0_; have HO668 := n1_; have HR662 := n2_; have HR675 := n3_; have HB := n4_; clear n0_ n1_ n2_ n3_ n4_ hb ho21; refine hK.out _ _ trivial (fun hHeld => ?_)
                           clear hK K; refine norm_ (a' := ?_) ?_ ?_
                           rotate_left
                           · show Act.put _ (some 32) _ = _
                             simp only [Act.put, zaa, zab, zac, zbw, zbx]
                             rfl
                           refine one_ (i := 3) (N := some 30) #[true, true, true, true, true, true, false, true, true, true, false, false] rfl rfl (one_of HT_.out (by kernel_rfl)) (by decide) (fun K hK => ?_)
                           refine goes_ Try.func111 (by kernel_rfl) rfl #[.slice (some ad658) y659.length co16] (by rfl) rfl rfl (taad) ?_
                           with_reducible refine (spec_l1Own.calls _ _ y659 t663 _ ?side1 ?side2 A11.out).mono ?_
                           (case side1 => repeat (first | exact (tabp) | (with_reducible refine zal ?_ _) | (with_reducible refine zam ?_ _) | (with_reducible refine zan ?_)))
                           (case side2 => exact HC662.out)
                           rintro e w22 ⟨v664, rfl, ho0, hb⟩
                           refine ⟨_, rfl, ?_⟩
                           have n0_ := zad (zcb (taap) (zcd ho0) hb)
                           have n1_ := zad (zcb (tabz) (zcd ho0) hb)
                           have n2_ := zad (zbu (zcc (zcc ho0 (zce (taap))) (zce (tabz))) (zbk (taaa)))
                           have n3_ := zad (Kd.C_below (tabp) hb)
                           have n4_ := zad (Kd.C_below (tacl) hb)
                           have n5_ := zad (zbe (taaa) hb)
                           clear HO_3 HO668 HR662 HR675 HB; have HO_3 := n0_; have HO668 := n1_; have HO665 := n2_; have HR662 := n3_; have HR675 := n4_; have HB := n5_; clear n0_ n1_ n2_ n3_ n4_ n5_; (try clear hb); (try clear hb2); (try clear hk); (try clear hi); (try clear ho0); refine hK.out _ _ trivial (fun hHeld => ?_)
                           clear hK K; refine norm_ (a' := ?_) ?_ ?_
                           rotate_left
                           · show Act.put _ (some 30) _ = _
                             simp only [Act.put, zaa, zab, zac, zbw, zbx]
                             rfl
                           exact norm_ (by simp only [putAll, Act.put, zaa, zab, zac]) (hCont (v664, v667) _ ⟨(by (with_reducible repeat (first | apply zai | apply zaj | apply zak)); exact zbq HO665.out (fun _ hk => ⟨hk.2, hk.1.2⟩)), (by (with_reducible repeat (first | apply zai | apply zaj | apply zak)); exact zbq HO668.out (fun _ hk => ⟨hk.2, hk.1.2⟩)), (by (with_reducible repeat (first | apply zai | apply zaj | apply zak)); exact zbq HO_3.out (fun _ hk => ⟨hk.2, hk.1.2⟩)), (taaa)⟩)
                       rintro ⟨v664, v667⟩ w23 ⟨h0_, h1_, h2_, h3_⟩
                       have n0_ : Aside0 (Kd.R (Kd.int .i64) 3 w23 w.heap.size (fun k_ => some k_ ≠ (v667 : Value).ownBlock ∧ some k_ ≠ (.slice (some ad658) x3_1.length co16 : Value).ownBlock) v664 t663) := ⟨h0_⟩
                       have n1_ : Aside0 (Kd.R (Kd.int .i64) 3 w23 w.heap.size (fun k_ => some k_ ≠ (v664 : Value).ownBlock ∧ some k_ ≠ (.slice (some ad658) x3_1.length co16 : Value).ownBlock) v667 y666) := ⟨h1_⟩
                       have n2_ : Aside0 (Kd.R (Kd.int .i64) 3 w23 w.heap.size (fun k_ => some k_ ≠ (v664 : Value).ownBlock ∧ some k_ ≠ (v667 : Value).ownBlock) (.slice (some ad658) x3_1.length co16) x3_1) := ⟨h2_⟩
                       have n3_ : Aside0 (Below w.heap.size w w23) := ⟨h3_⟩
                       clear HO_3 HB h0_ h1_ h2_ h3_; have HO665 := n0_; have HO668 := n1_; have HO_3 := n2_; have HB := n3_; clear n0_ n1_ n2_ n3_; have hHeld := trivial
                       obtain ⟨Ao25, co25, eo25⟩ := zbv HO668.out
                       (first | subst eo25 | (injection eo25 with f1_ f2_ f3_; have f4_ := f1_.symm; have f5_ := f3_.symm; clear f1_ f2_ f3_; subst f4_; subst f5_))
                       refine norm_ (a' := ?_) ?_ ?_
                       rotate_left
                       · simp only [putAll, Act.put, zaa, zab, zac]
                         rfl
                       refine one_ (i := 6) (N := some 33) #[true, true, true, true, true, true, true, true, true, true, false, false] rfl rfl (one_of HT_.out (by kernel_rfl)) (by decide) (fun K hK => ?_)
                       refine Kd.R_append_rows_step (Kd.int .i64) (w0 := w) w.heap.size (by rfl) (.tmp 30) (.tmp 32) 26 3 (.int .i64 0) 8 rfl Try.underlying26 info3 rfl (by decide) (by omega) v664 t663 y666 _ _ _ (fun k_ => some k_ ≠ (.slice (some ad658) x3_1.length co16 : Value).ownBlock ∧ some k_ ≠ (.slice Ao25 y666.length co25 : Value).ownBlock) (fun _ => False) rfl rfl ?aO ?aR (fun _ _ h => h) (fun _ h => h.elim) ?aF ?aB ?aS ?aL ?_
                       (case aR => repeat (first | exact (zbd HO668.out).2.2 | (with_reducible refine zal ?_ _) | (with_reducible refine zam ?_ _) | (with_reducible refine zan ?_)))
                       (case aB => exact (taaa))
                       (case aF => exact (fun k_ hk => ⟨Kd.fresh' (zce (taap)) k_ hk, Kd.fresh' (zce (tabz)) k_ hk⟩))
                       (case aO => exact (by (with_reducible repeat (first | apply zai | apply zaj | apply zak)); exact zbq HO665.out (fun _ hk => ⟨hk.2, hk.1⟩)))
                       (case aS => exact (zbk (taaa)))
                       (case aL => have := LMc12.out; omega)
                       intro v670 w24 ho hb hg hat
                       rw [← Ny669.out] at ho
                       have n0_ := zad (Kd.R_after (ok := (fun k_ => some k_ ≠ (.slice Ao25 y666.length co25 : Value).ownBlock)) (by (with_reducible repeat (first | apply zai | apply zaj | apply zak)); exact zbq HO_3.out (fun _ hk => ⟨hk.2, hk.1⟩)) hg hat)
                       have n1_ := zad (Kd.R_after (ok := (fun k_ => some k_ ≠ (.slice (some ad658) x3_1.length co16 : Value).ownBlock)) (by (with_reducible repeat (first | apply zai | apply zaj | apply zak)); exact zbq HO668.out (fun _ hk => ⟨hk.2, hk.1⟩)) hg hat)
                       have n2_ := zad (hb)
                       have n3_ := zad (ho)
                       clear HO_3 HO668 HB HO665; have HO_3 := n0_; have HO668 := n1_; have HB := n2_; have HO671 := n3_; clear n0_ n1_ n2_ n3_ ho hb hg hat; refine hK.out _ _ trivial (fun hHeld => ?_)
                       clear hK K; refine norm_ (a' := ?_) ?_ ?_
                       rotate_left
                       · show Act.put _ (some 33) _ = _
                         simp only [Act.put, zaa, zab, zac, zbw, zbx]
                         rfl
                       refine one_ (i := 10) (N := some 37) #[true, true, true, true, true, true, true, true, true, true, true, false] rfl rfl (one_of HT_.out (by kernel_rfl)) (by decide) (fun K hK => ?_)
                       refine Kd.R_append_rows_step (Kd.int .i64) (w0 := w) w.heap.size (by rfl) (.tmp 33) (.tmp 36) 26 3 (.int .i64 0) 8 rfl Try.underlying26 info3 rfl (by decide) (by omega) v670 y669 y672 _ _ _ (fun k_ => some k_ ≠ (.slice (some ad658) x3_1.length co16 : Value).ownBlock ∧ some k_ ≠ (.slice Ao25 y666.length co25 : Value).ownBlock) (fun _ => False) rfl rfl ?aO ?aR (fun _ _ h => h) (fun _ h => h.elim) ?aF ?aB ?aS ?aL ?_
                       (case aR => repeat (first | exact (show Kd.C (Kd.int .i64) _ A19 y672.length y672 from by rw [Ny672.out, KA19.out]; exact Kd.C_drop (m := (x6_2 : Int).toNat) (c := co16) ((zbd HO_3.out).2.2) KL19.out ((zbd HO_3.out).2.1)) | (with_reducible refine zal ?_ _) | (with_reducible refine zam ?_ _) | (with_reducible refine zan ?_)))
                       (case aB => exact (taaa))
                       (case aF => exact (fun k_ hk => ⟨Kd.fresh' (zce (taap)) k_ hk, Kd.fresh' (zce (tabz)) k_ hk⟩))
                       (case aO => exact (by (with_reducible repeat (first | apply zai | apply zaj | apply zak)); exact HO671.out))
                       (case aS => exact (zbk (taaa)))
                       (case aL => have := LMc15.out; omega)
                       intro v677 w26 ho hb hg hat
                       rw [← Ny676.out] at ho
                       have n0_ := zad (Kd.R_after (ok := (fun k_ => some k_ ≠ (.slice Ao25 y666.length co25 : Value).ownBlock)) (taap) hg hat)
                       have n1_ := zad (Kd.R_after (ok := (fun k_ => some k_ ≠ (.slice (some ad658) x3_1.length co16 : Value).ownBlock)) (tabz) hg hat)
                       have n2_ := zad (hb)
                       have n3_ := zad (ho)
                       clear HO_3 HO668 HB HO671; have HO_3 := n0_; have HO668 := n1_; have HB := n2_; have HO678 := n3_; clear n0_ n1_ n2_ n3_ ho hb hg hat; refine hK.out _ _ trivial (fun hHeld => ?_)
                       clear hK K; refine norm_ (a' := ?_) ?_ ?_
                       rotate_left
                       · show Act.put _ (some 37) _ = _
                         simp only [Act.put, zaa, zab, zac, zbw, zbx]
                         rfl
                       refine pure_ (i := 11) (N := some 3) (v := ?_) (a' := ?_) #[true, true, true, true, true, true, true, true, true, true, true, true] rfl rfl (zby HT_.out (by kernel_rfl)) (fun _ _ _ h => h) (Or.inl ⟨by rfl, ?_⟩) ?_ ?_
                       rotate_left
                       · intro w'
                         go_simp; with_reducible rfl
                       rotate_left
                       · simp only [Act.put, zaa, zab, zac, zbw, zbx]
                         rfl
                       refine done_ (done_of HT_.out (by kernel_rfl)) ?_
                       try go_wp2
                       go_roundg k2
                       case measure => have := HK1.out; have := HK2.out; omega
                       case rel => exact ⟨(y676), (wrap64 (x9_1 + 1)), (taag), H', ⟨by have := HK1.out; have := HK2.out; omega⟩, ⟨by (with_reducible repeat (first | apply zai | apply zaj | apply zak)); exact zbq HO678.out (fun _ hk => trivial)⟩, ⟨taaa⟩⟩
                     · rw [if_neg c15] at H
                       exact absurd H (taac)
                   · rw [if_neg c12] at H
                     exact absurd H (taac)
                 · rw [if_neg c10] at H
                   exact absurd H (taac)
             · rw [if_neg c6] at H
               exact absurd H (taac)
           · rw [if_neg c5] at H
             have c5b0 : decide (x6_2 < (x3_1.length : Int)) = false := zbh c5
             clear c5; by_cases c27 : 0 ≤ x6_2
             · rw [if_pos c27] at H
               have c27b0 := eq_true c27; have c27b1 : decide (0 ≤ x6_2) = true := zba c27
               clear c27; by_cases c28 : x6_2 ≤ (x3_1.length : Int)
               · rw [if_pos c28] at H
                 have c28b0 := eq_true c28; have c28b1 : decide (x6_2 ≤ (x3_1.length : Int)) = true := zba c28
                 clear c28; obtain ⟨y679, hy679⟩ : ∃ y_ : List Int, y_ = (x3_1.take (x6_2 : Int).toNat) := ⟨_, rfl⟩
                 replace H : ((spec_l1Own.f y679).bind fun t683 => ((some (([(rd l0 x9_1)] : List Int) : List Int)).bind fun y686 => (if t683.length + y686.length < 17592186044416 then ((some (t683 ++ y686 : List Int)).bind fun y689 => ((some (x3_1.drop (x6_2 : Int).toNat : List Int)).bind fun y692 => (if y689.length + y692.length < 17592186044416 then (spec_liRank.l0 k2 (y689 ++ y692) l0 (l0.length : Int) (wrap64 (x9_1 + 1))) else (none)))) else (none)))) = some r := by first | (rw [hy679]; with_reducible exact H) | (have H2_ := (zbb _ _).symm.trans H; rw [hy679]; with_reducible exact H2_) | (have H2_ := (zbb _ _).symm.trans H; with_reducible exact H2_) | with_reducible exact H | (rw [hy679]; exact H) | exact H
                 have Ny679 := zad hy679; clear hy679; replace H := zay.mp H; obtain ⟨t683, A290, H⟩ := H
                 replace H : ((some (([(rd l0 x9_1)] : List Int) : List Int)).bind fun y686 => (if t683.length + y686.length < 17592186044416 then ((some (t683 ++ y686 : List Int)).bind fun y689 => ((some (x3_1.drop (x6_2 : Int).toNat : List Int)).bind fun y692 => (if y689.length + y692.length < 17592186044416 then (spec_liRank.l0 k2 (y689 ++ y692) l0 (l0.length : Int) (wrap64 (x9_1 + 1))) else (none)))) else (none))) = some r := H
                 have A29 := zad A290; clear A290; obtain ⟨y686, hy686⟩ : ∃ y_ : List Int, y_ = (([(rd l0 x9_1)] : List Int)) := ⟨_, rfl⟩
                 replace H : (if t683.length + y686.length < 17592186044416 then ((some (t683 ++ y686 : List Int)).bind fun y689 => ((some (x3_1.drop (x6_2 : Int).toNat : List Int)).bind fun y692 => (if y689.length + y692.length < 17592186044416 then (spec_liRank.l0 k2 (y689 ++ y692) l0 (l0.length : Int) (wrap64 (x9_1 + 1))) else (none)))) else (none)) = some r := by first | (rw [hy686]; with_reducible exact H) | (have H2_ := (zbb _ _).symm.trans H; rw [hy686]; with_reducible exact H2_) | (have H2_ := (zbb _ _).symm.trans H; with_reducible exact H2_) | with_reducible exact H | (rw [hy686]; exact H) | exact H
                 have Ny686 := zad hy686; clear hy686; by_cases c30 : t683.length + y686.length < 17592186044416
                 · rw [if_pos c30] at H
                   have LMc30 := zad c30; clear c30; obtain ⟨y689, hy689⟩ : ∃ y_ : List Int, y_ = (t683 ++ y686) := ⟨_, rfl⟩
                   replace H : ((some (x3_1.drop (x6_2 : Int).toNat : List Int)).bind fun y692 => (if y689.length + y692.length < 17592186044416 then (spec_liRank.l0 k2 (y689 ++ y692) l0 (l0.length : Int) (wrap64 (x9_1 + 1))) else (none))) = some r := by first | (rw [hy689]; with_reducible exact H) | (have H2_ := (zbb _ _).symm.trans H; rw [hy689]; with_reducible exact H2_) | (have H2_ := (zbb _ _).symm.trans H; with_reducible exact H2_) | with_reducible exact H | (rw [hy689]; exact H) | exact H
                   have Ny689 := zad hy689; clear hy689; have c31b0 := eq_true (zas (taab) : 0 ≤ x6_2)
                   have c32b0 := eq_true (zas (taab) : x6_2 ≤ (x3_1.length : Int))
                   obtain ⟨y692, hy692⟩ : ∃ y_ : List Int, y_ = (x3_1.drop (x6_2 : Int).toNat) := ⟨_, rfl⟩
                   replace H : (if y689.length + y692.length < 17592186044416 then (spec_liRank.l0 k2 (y689 ++ y692) l0 (l0.length : Int) (wrap64 (x9_1 + 1))) else (none)) = some r := by first | (rw [hy692]; with_reducible exact H) | (have H2_ := (zbb _ _).symm.trans H; rw [hy692]; with_reducible exact H2_) | (have H2_ := (zbb _ _).symm.trans H; with_reducible exact H2_) | with_reducible exact H | (rw [hy692]; exact H) | exact H
                   have Ny692 := zad hy692; clear hy692; by_cases c33 : y689.length + y692.length < 17592186044416
                   · rw [if_pos c33] at H
                     have LMc33 := zad c33; clear c33; obtain ⟨y696, hy696⟩ : ∃ y_ : List Int, y_ = (y689 ++ y692) := ⟨_, rfl⟩
                     replace H : (spec_liRank.l0 k2 y696 l0 (l0.length : Int) (wrap64 (x9_1 + 1))) = some r := by first | (rw [hy696]; with_reducible exact H) | (have H2_ := (zbb _ _).symm.trans H; rw [hy696]; with_reducible exact H2_) | (have H2_ := (zbb _ _).symm.trans H; with_reducible exact H2_) | with_reducible exact H | (rw [hy696]; exact H) | exact H
                     have Ny696 := zad hy696; clear hy696; have H' := zad H
                     clear H; obtain ⟨Ao34, co34, eo34⟩ := zbv HO_3.out
                     subst eo34; try go_wp2
                     have n0_ := zad (zak HO_3.out)
                     have n1_ := zad (zaf HB.out)
                     clear HO_3 HB; have HO_3 := n0_; have HB := n1_; clear n0_ n1_; have q36 : (x6_2 : Int) ≤ ((x3_1.length : Int) : Int) := zas (taab)
                     obtain ⟨i036, hi036, _, hsz36, _⟩ := info_parts info3
                     have hroom36 : x3_1.length ≤ co34 := (zbd HO_3.out).2.1
                     have hC36 : Kd.C (Kd.int .i64) _ Ao34 x3_1.length x3_1 := (zbd HO_3.out).2.2
                     have hcut36 := cut_to (P := Try.prog) 26 3 .i64 Try.underlying26 hi036 Ao34 x3_1.length co34 x6_2 (zas (taab)) q36 hroom36
                     have hr36 := Kd.C_take (m := (x6_2 : Int).toNat) hC36 (by omega)
                     have hy36 : y679.length = (x6_2 : Int).toNat := (by rw [Ny679.out, zax]; omega)
                     rw [← Ny679.out] at hr36
                     rw [← hy36] at hcut36
                     have HR682 := zad hr36; have HC682 := zad (show y679.length ≤ co34 from by omega)
                     clear hr36 hC36 hroom36 hi036 hsz36; have KY36 := zad hy36; clear hy36; have KL36 := zad (show (x6_2 : Int).toNat ≤ x3_1.length from by omega)
                     replace q36 := eq_true q36
                     have q37 : (x6_2 : Int) ≤ ((x3_1.length : Int) : Int) := zas (taab)
                     obtain ⟨i037, hi037, _, hsz37, _⟩ := info_parts info3
                     have hroom37 : x3_1.length ≤ co34 := (zbd HO_3.out).2.1
                     have hC37 : Kd.C (Kd.int .i64) _ Ao34 x3_1.length x3_1 := (zbd HO_3.out).2.2
                     have q037 : (0 : Int) ≤ (x6_2 : Int) := zas (taab)
                     have hcut37 := cut_from (P := Try.prog) 26 3 .i64 Try.underlying26 hi037 1 hsz37 Ao34 x3_1.length co34 x6_2 q037 q37
                     have hr37 := Kd.C_drop (m := (x6_2 : Int).toNat) (c := co34) hC37 (by omega) hroom37
                     obtain ⟨A37, hA37⟩ : ∃ A1, A1 = (if co34 = (x6_2 : Int).toNat then Ao34 else (Ao34 : Option Addr).map (·.add ((x6_2 : Int).toNat * 1))) := ⟨_, rfl⟩
                     obtain ⟨c37, hc37⟩ : ∃ c1, c1 = co34 - (x6_2 : Int).toNat := ⟨_, rfl⟩
                     have hy37 : y692.length = x3_1.length - (x6_2 : Int).toNat := (by rw [Ny692.out, zaw] <;> omega)
                     rw [show (x3_1).drop (x6_2 : Int).toNat = y692 from Ny692.out.symm] at hr37
                     replace hr37 : Kd.C (Kd.int .i64) _ A37 y692.length y692 := (by rw [hA37]; exact hr37)
                     rw [← hy37, ← hA37, ← hc37] at hcut37
                     have HR695 := zad hr37; have HC695 := zad (show y692.length ≤ c37 from by rw [hy37, hc37]; exact Nat.sub_le_sub_right hroom37 _)
                     clear hr37 hC37 hroom37 hi037 hsz37 hc37; have KY37 := zad hy37; have KA37 := zad hA37; clear hy37 hA37; have KL37 := zad (show (x6_2 : Int).toNat ≤ x3_1.length from by omega)
                     replace q37 := eq_true q37
                     refine start_ (n := 12) (S := fun w' => True) (ds := []) #[false, false, false, false, false, false, false, false, false, false, false, false] (by kernel_rfl) rfl rfl trivial (fun hHeld => ?_); refine with_tabW spec_liRank.tab8 spec_liRank.bits8 (fun HT_ HW_ => ?_)
                     generalize wr.drew = w35 at HO_3 HB HR682 HR695 hHeld ⊢
                     refine pure_ (i := 0) (N := some 27) (v := ?_) (a' := ?_) #[true, false, false, false, false, false, false, false, false, false, false, false] rfl rfl (zby HT_.out (by kernel_rfl)) (fun _ _ _ h => h) (Or.inl ⟨by rfl, ?_⟩) ?_ ?_
                     rotate_left
                     · intro w'
                       go_simp; with_reducible rfl
                     rotate_left
                     · simp only [Act.put, zaa, zab, zac, zbw, zbx]
                       rfl
                     refine pure_ (i := 1) (N := some 28) (v := ?_) (a' := ?_) #[true, true, false, false, false, false, false, false, false, false, false, false] rfl rfl (zby HT_.out (by kernel_rfl)) (fun _ _ _ h => h) (Or.inl ⟨by rfl, ?_⟩) ?_ ?_
                     rotate_left
                     · intro w'
                       go_simp; with_reducible rfl
                     rotate_left
                     · simp only [Act.put, zaa, zab, zac, zbw, zbx]
                       rfl
                     refine pure_ (i := 2) (N := some 29) (v := ?_) (a' := ?_) #[true, true, true, false, false, false, false, false, false, false, false, false] rfl rfl (zby HT_.out (by kernel_rfl)) (fun _ _ _ h => h) (Or.inl ⟨by rfl, ?_⟩) ?_ ?_
                     rotate_left
                     · intro w'
                       go_simp; with_reducible rfl
                     rotate_left
                     · simp only [Act.put, zaa, zab, zac, zbw, zbx]
                       rfl
                     refine pure_ (i := 4) (N := some 31) (v := ?_) (a' := ?_) #[true, true, true, false, true, false, false, false, false, false, false, false] rfl rfl (zby HT_.out (by kernel_rfl)) (fun _ _ _ h => h) (Or.inl ⟨by rfl, ?_⟩) ?_ ?_
                     rotate_left
                     · intro w'
                       go_simp; with_reducible rfl
                     rotate_left
                     · simp only [Act.put, zaa, zab, zac, zbw, zbx]
                       rfl
                     refine pure_ (i := 7) (N := some 34) (v := ?_) (a' := ?_) #[true, true, true, false, true, false, false, true, false, false, false, false] rfl rfl (zby HT_.out (by kernel_rfl)) (fun _ _ _ h => h) (Or.inl ⟨by rfl, ?_⟩) ?_ ?_
                     rotate_left
                     · intro w'
                       go_simp; with_reducible rfl
                     rotate_left
                     · simp only [Act.put, zaa, zab, zac, zbw, zbx]
                       rfl
                     refine pure_ (i := 8) (N := some 35) (v := ?_) (a' := ?_) #[true, true, true, false, true, false, false, true, true, false, false, false] rfl rfl (zby HT_.out (by kernel_rfl)) (fun _ _ _ h => h) (Or.inl ⟨by rfl, ?_⟩) ?_ ?_
                     rotate_left
                     · intro w'
                       go_simp; with_reducible rfl
                     rotate_left
                     · simp only [Act.put, zaa, zab, zac, zbw, zbx]
                       rfl
                     refine pure_ (i := 9) (N := some 36) (v := ?_) (a' := ?_) #[true, true, true, false, true, false, false, true, true, true, false, false] rfl rfl (zby HT_.out (by kernel_rfl)) (fun _ _ _ h => h) (Or.inl ⟨by rfl, ?_⟩) ?_ ?_
                     rotate_left
                     · intro w'
                       go_simp; with_reducible rfl
                     rotate_left
                     · simp only [Act.put, zaa, zab, zac, zbw, zbx]
                       rfl
                     refine join_ (σ := Value × Value) 3 #[true, true, true, true, true, true, false, true, true, true, false, false] (fun s_ => [(30, s_.1), (32, s_.2)]) (fun s_ w' => (Kd.R (Kd.int .i64) 3 w' w.heap.size (fun k_ => some k_ ≠ (s_.2 : Value).ownBlock ∧ some k_ ≠ (.slice Ao34 x3_1.length co34 : Value).ownBlock) s_.1 t683) ∧ (Kd.R (Kd.int .i64) 3 w' w.heap.size (fun k_ => some k_ ≠ (s_.1 : Value).ownBlock ∧ some k_ ≠ (.slice Ao34 x3_1.length co34 : Value).ownBlock) s_.2 y686) ∧ (Kd.R (Kd.int .i64) 3 w' w.heap.size (fun k_ => some k_ ≠ (s_.1 : Value).ownBlock ∧ some k_ ≠ (s_.2 : Value).ownBlock) (.slice Ao34 x3_1.length co34) x3_1) ∧ (Below w.heap.size w w')) ?_ ?_
                     rotate_left
                     · intro hCont
                       refine two_ (i := 3) (j := 5) (Ni := some 30) (Nj := some 32) #[true, true, true, true, true, false, false, true, true, true, false, false] #[true, true, true, false, true, true, false, true, true, true, false, false] rfl rfl rfl rfl (two_of HT_.out (by kernel_rfl)) (by decide) (by decide) (fun K hK => ?_) (fun K hK => ?_)
                       · skip
                         refine goes_ Try.func111 (by kernel_rfl) rfl #[.slice Ao34 y679.length co34] (by rfl) rfl rfl (taad) ?_
                         with_reducible refine (spec_l1Own.calls _ _ y679 t683 _ ?side1 ?side2 A29.out).mono ?_
                         (case side1 => repeat (first | exact (tabq) | (with_reducible refine zal ?_ _) | (with_reducible refine zam ?_ _) | (with_reducible refine zan ?_)))
                         (case side2 => exact HC682.out)
                         rintro e w38 ⟨v684, rfl, ho0, hb⟩
                         refine ⟨_, rfl, ?_⟩
                         have n0_ := zad (zcb (taap) (zcd ho0) hb)
                         have n1_ := zad (zbu (zcc ho0 (zce (taap))) (zbk (taaa)))
                         have n2_ := zad (Kd.C_below (tabq) hb)
                         have n3_ := zad (Kd.C_below (tacm) hb)
                         have n4_ := zad (zbe (taaa) hb)
                         clear HO_3 HR682 HR695 HB; have HO_3 := n0_; have HO685 := n1_; have HR682 := n2_; have HR695 := n3_; have HB := n4_; clear n0_ n1_ n2_ n3_ n4_; (try clear hb); (try clear hb2); (try clear hk); (try clear hi); (try clear ho0); refine hK.out _ _ trivial (fun hHeld => ?_)
                         clear hK K; refine norm_ (a' := ?_) ?_ ?_
                         rotate_left
                         · show Act.put _ (some 30) _ = _
                           simp only [Act.put, zaa, zab, zac, zbw, zbx]
                           rfl
                         refine one_ (i := 5) (N := some 32) #[true, true, true, true, true, true, false, true, true, true, false, false] rfl rfl (one_of HT_.out (by kernel_rfl)) (by decide) (fun K hK => ?_)
                         refine Kd.R_lit_step (Kd.int .i64) _ 3 ?hg (N := 32) ?hd (xs := ([(rd l0 x9_1)] : List Int)) (inner := [.int .i64 (rd l0 x9_1)]) (ok := fun _ => True) (okp := fun _ => True) ?hr ?hp (fun _ hk => hk) trivial (Below.refl _ _) (zcf _) (taac) ?_; (case hd => rfl); (case hg => rfl); (case hr => first | (go_simp; done) | (go_simp; rfl)); (case hp => exact (Reps.one (show Kd.M (Kd.int .i64) _ _ _ (rd l0 x9_1) [.int .i64 (rd l0 x9_1)] from rfl) (Reps.none _ _)))
                         intro v687 w39 ho40 hb hg_ hnew_
                         clear hg_ hnew_; (first | rw [← Ny686.out] at ho40 | (simp only [Int.reduceToNat] at ho40; rw [← Ny686.out] at ho40))
                         have n0_ := zad (zcb (taap) (zcd ho40) hb)
                         have n1_ := zad (zcb (by (with_reducible repeat (first | apply zai | apply zaj | apply zak)); exact HO685.out) (zcd ho40) hb)
                         have n2_ := zad (zbu (zcc (zcc ho40 (zce (taap))) (zce (by (with_reducible repeat (first | apply zai | apply zaj | apply zak)); exact HO685.out))) (zbk (taaa)))
                         have n3_ := zad (Kd.C_below (tabq) hb)
                         have n4_ := zad (Kd.C_below (tacm) hb)
                         have n5_ := zad (zbe (taaa) hb)
                         clear HO_3 HO685 HR682 HR695 HB; have HO_3 := n0_; have HO685 := n1_; have HO688 := n2_; have HR682 := n3_; have HR695 := n4_; have HB := n5_; clear n0_ n1_ n2_ n3_ n4_ n5_ hb ho40; refine hK.out _ _ trivial (fun hHeld => ?_)
                         clear hK K; refine norm_ (a' := ?_) ?_ ?_
                         rotate_left
                         · show Act.put _ (some 32) _ = _
                           simp only [Act.put, zaa, zab, zac, zbw, zbx]
                           rfl
                         exact norm_ (by simp only [putAll, Act.put, zaa, zab, zac]) (hCont (v684, v687) _ ⟨(by (with_reducible repeat (first | apply zai | apply zaj | apply zak)); exact zbq HO685.out (fun _ hk => ⟨hk.2, hk.1.2⟩)), (by (with_reducible repeat (first | apply zai | apply zaj | apply zak)); exact zbq HO688.out (fun _ hk => ⟨hk.2, hk.1.2⟩)), (by (with_reducible repeat (first | apply zai | apply zaj | apply zak)); exact zbq HO_3.out (fun _ hk => ⟨hk.1.2, hk.2⟩)), (taaa)⟩)
                       · skip
                         refine Kd.R_lit_step (Kd.int .i64) _ 3 ?hg (N := 32) ?hd (xs := ([(rd l0 x9_1)] : List Int)) (inner := [.int .i64 (rd l0 x9_1)]) (ok := fun _ => True) (okp := fun _ => True) ?hr ?hp (fun _ hk => hk) trivial (Below.refl _ _) (zcf _) (taac) ?_; (case hd => rfl); (case hg => rfl); (case hr => first | (go_simp; done) | (go_simp; rfl)); (case hp => exact (Reps.one (show Kd.M (Kd.int .i64) _ _ _ (rd l0 x9_1) [.int .i64 (rd l0 x9_1)] from rfl) (Reps.none _ _)))
                         intro v687 w38 ho39 hb hg_ hnew_
                         clear hg_ hnew_; (first | rw [← Ny686.out] at ho39 | (simp only [Int.reduceToNat] at ho39; rw [← Ny686.out] at ho39))
                         have n0_ := zad (zcb (taap) (zcd ho39) hb)
                         have n1_ := zad (zbu (zcc ho39 (zce (taap))) (zbk (taaa)))
                         have n2_ := zad (Kd.C_below (tabq) hb)
                         have n3_ := zad (Kd.C_below (tacm) hb)
                         have n4_ := zad (zbe (taaa) hb)
                         clear HO_3 HR682 HR695 HB; have HO_3 := n0_; have HO688 := n1_; have HR682 := n2_; have HR695 := n3_; have HB := n4_; clear n0_ n1_ n2_ n3_ n4_ hb ho39; refine hK.out _ _ trivial (fun hHeld => ?_)
                         clear hK K; refine norm_ (a' := ?_) ?_ ?_
                         rotate_left
                         · show Act.put _ (some 32) _ = _
                           simp only [Act.put, zaa, zab, zac, zbw, zbx]
                           rfl
                         refine one_ (i := 3) (N := some 30) #[true, true, true, true, true, true, false, true, true, true, false, false] rfl rfl (one_of HT_.out (by kernel_rfl)) (by decide) (fun K hK => ?_)
                         refine goes_ Try.func111 (by kernel_rfl) rfl #[.slice Ao34 y679.length co34] (by rfl) rfl rfl (taad) ?_
                         with_reducible refine (spec_l1Own.calls _ _ y679 t683 _ ?side1 ?side2 A29.out).mono ?_
                         (case side1 => repeat (first | exact (tabq) | (with_reducible refine zal ?_ _) | (with_reducible refine zam ?_ _) | (with_reducible refine zan ?_)))
                         (case side2 => exact HC682.out)
                         rintro e w40 ⟨v684, rfl, ho0, hb⟩
                         refine ⟨_, rfl, ?_⟩
                         have n0_ := zad (zcb (taap) (zcd ho0) hb)
                         have n1_ := zad (zcb (taca) (zcd ho0) hb)
                         have n2_ := zad (zbu (zcc (zcc ho0 (zce (taap))) (zce (taca))) (zbk (taaa)))
                         have n3_ := zad (Kd.C_below (tabq) hb)
                         have n4_ := zad (Kd.C_below (tacm) hb)
                         have n5_ := zad (zbe (taaa) hb)
                         clear HO_3 HO688 HR682 HR695 HB; have HO_3 := n0_; have HO688 := n1_; have HO685 := n2_; have HR682 := n3_; have HR695 := n4_; have HB := n5_; clear n0_ n1_ n2_ n3_ n4_ n5_; (try clear hb); (try clear hb2); (try clear hk); (try clear hi); (try clear ho0); refine hK.out _ _ trivial (fun hHeld => ?_)
                         clear hK K; refine norm_ (a' := ?_) ?_ ?_
                         rotate_left
                         · show Act.put _ (some 30) _ = _
                           simp only [Act.put, zaa, zab, zac, zbw, zbx]
                           rfl
                         exact norm_ (by simp only [putAll, Act.put, zaa, zab, zac]) (hCont (v684, v687) _ ⟨(by (with_reducible repeat (first | apply zai | apply zaj | apply zak)); exact zbq HO685.out (fun _ hk => ⟨hk.2, hk.1.2⟩)), (by (with_reducible repeat (first | apply zai | apply zaj | apply zak)); exact zbq HO688.out (fun _ hk => ⟨hk.2, hk.1.2⟩)), (by (with_reducible repeat (first | apply zai | apply zaj | apply zak)); exact zbq HO_3.out (fun _ hk => ⟨hk.2, hk.1.2⟩)), (taaa)⟩)
                     rintro ⟨v684, v687⟩ w41 ⟨h0_, h1_, h2_, h3_⟩
                     have n0_ : Aside0 (Kd.R (Kd.int .i64) 3 w41 w.heap.size (fun k_ => some k_ ≠ (v687 : Value).ownBlock ∧ some k_ ≠ (.slice Ao34 x3_1.length co34 : Value).ownBlock) v684 t683) := ⟨h0_⟩
                     have n1_ : Aside0 (Kd.R (Kd.int .i64) 3 w41 w.heap.size (fun k_ => some k_ ≠ (v684 : Value).ownBlock ∧ some k_ ≠ (.slice Ao34 x3_1.length co34 : Value).ownBlock) v687 y686) := ⟨h1_⟩
                     have n2_ : Aside0 (Kd.R (Kd.int .i64) 3 w41 w.heap.size (fun k_ => some k_ ≠ (v684 : Value).ownBlock ∧ some k_ ≠ (v687 : Value).ownBlock) (.slice Ao34 x3_1.length co34) x3_1) := ⟨h2_⟩
                     have n3_ : Aside0 (Below w.heap.size w w41) := ⟨h3_⟩
                     clear HO_3 HB h0_ h1_ h2_ h3_; have HO685 := n0_; have HO688 := n1_; have HO_3 := n2_; have HB := n3_; clear n0_ n1_ n2_ n3_; have hHeld := trivial
                     obtain ⟨Ao43, co43, eo43⟩ := zbv HO688.out
                     (first | subst eo43 | (injection eo43 with f1_ f2_ f3_; have f4_ := f1_.symm; have f5_ := f3_.symm; clear f1_ f2_ f3_; subst f4_; subst f5_))
                     refine norm_ (a' := ?_) ?_ ?_
                     rotate_left
                     · simp only [putAll, Act.put, zaa, zab, zac]
                       rfl
                     refine one_ (i := 6) (N := some 33) #[true, true, true, true, true, true, true, true, true, true, false, false] rfl rfl (one_of HT_.out (by kernel_rfl)) (by decide) (fun K hK => ?_)
                     refine Kd.R_append_rows_step (Kd.int .i64) (w0 := w) w.heap.size (by rfl) (.tmp 30) (.tmp 32) 26 3 (.int .i64 0) 8 rfl Try.underlying26 info3 rfl (by decide) (by omega) v684 t683 y686 _ _ _ (fun k_ => some k_ ≠ (.slice Ao34 x3_1.length co34 : Value).ownBlock ∧ some k_ ≠ (.slice Ao43 y686.length co43 : Value).ownBlock) (fun _ => False) rfl rfl ?aO ?aR (fun _ _ h => h) (fun _ h => h.elim) ?aF ?aB ?aS ?aL ?_
                     (case aR => repeat (first | exact (zbd HO688.out).2.2 | (with_reducible refine zal ?_ _) | (with_reducible refine zam ?_ _) | (with_reducible refine zan ?_)))
                     (case aB => exact (taaa))
                     (case aF => exact (fun k_ hk => ⟨Kd.fresh' (zce (taap)) k_ hk, Kd.fresh' (zce (taca)) k_ hk⟩))
                     (case aO => exact (by (with_reducible repeat (first | apply zai | apply zaj | apply zak)); exact zbq HO685.out (fun _ hk => ⟨hk.2, hk.1⟩)))
                     (case aS => exact (zbk (taaa)))
                     (case aL => have := LMc30.out; omega)
                     intro v690 w42 ho hb hg hat
                     rw [← Ny689.out] at ho
                     have n0_ := zad (Kd.R_after (ok := (fun k_ => some k_ ≠ (.slice Ao43 y686.length co43 : Value).ownBlock)) (by (with_reducible repeat (first | apply zai | apply zaj | apply zak)); exact zbq HO_3.out (fun _ hk => ⟨hk.2, hk.1⟩)) hg hat)
                     have n1_ := zad (Kd.R_after (ok := (fun k_ => some k_ ≠ (.slice Ao34 x3_1.length co34 : Value).ownBlock)) (by (with_reducible repeat (first | apply zai | apply zaj | apply zak)); exact zbq HO688.out (fun _ hk => ⟨hk.2, hk.1⟩)) hg hat)
                     have n2_ := zad (hb)
                     have n3_ := zad (ho)
                     clear HO_3 HO688 HB HO685; have HO_3 := n0_; have HO688 := n1_; have HB := n2_; have HO691 := n3_; clear n0_ n1_ n2_ n3_ ho hb hg hat; refine hK.out _ _ trivial (fun hHeld => ?_)
                     clear hK K; refine norm_ (a' := ?_) ?_ ?_
                     rotate_left
                     · show Act.put _ (some 33) _ = _
                       simp only [Act.put, zaa, zab, zac, zbw, zbx]
                       rfl
                     refine one_ (i := 10) (N := some 37) #[true, true, true, true, true, true, true, true, true, true, true, false] rfl rfl (one_of HT_.out (by kernel_rfl)) (by decide) (fun K hK => ?_)
                     refine Kd.R_append_rows_step (Kd.int .i64) (w0 := w) w.heap.size (by rfl) (.tmp 33) (.tmp 36) 26 3 (.int .i64 0) 8 rfl Try.underlying26 info3 rfl (by decide) (by omega) v690 y689 y692 _ _ _ (fun k_ => some k_ ≠ (.slice Ao34 x3_1.length co34 : Value).ownBlock ∧ some k_ ≠ (.slice Ao43 y686.length co43 : Value).ownBlock) (fun _ => False) rfl rfl ?aO ?aR (fun _ _ h => h) (fun _ h => h.elim) ?aF ?aB ?aS ?aL ?_
                     (case aR => repeat (first | exact (show Kd.C (Kd.int .i64) _ A37 y692.length y692 from by rw [Ny692.out, KA37.out]; exact Kd.C_drop (m := (x6_2 : Int).toNat) (c := co34) ((zbd HO_3.out).2.2) KL37.out ((zbd HO_3.out).2.1)) | (with_reducible refine zal ?_ _) | (with_reducible refine zam ?_ _) | (with_reducible refine zan ?_)))
                     (case aB => exact (taaa))
                     (case aF => exact (fun k_ hk => ⟨Kd.fresh' (zce (taap)) k_ hk, Kd.fresh' (zce (taca)) k_ hk⟩))
                     (case aO => exact (by (with_reducible repeat (first | apply zai | apply zaj | apply zak)); exact HO691.out))
                     (case aS => exact (zbk (taaa)))
                     (case aL => have := LMc33.out; omega)
                     intro v697 w44 ho hb hg hat
                     rw [← Ny696.out] at ho
                     have n0_ := zad (Kd.R_after (ok := (fun k_ => some k_ ≠ (.slice Ao43 y686.length co43 : Value).ownBlock)) (taap) hg hat)
                     have n1_ := zad (Kd.R_after (ok := (fun k_ => some k_ ≠ (.slice Ao34 x3_1.length co34 : Value).ownBlock)) (taca) hg hat)
                     have n2_ := zad (hb)
                     have n3_ := zad (ho)
                     clear HO_3 HO688 HB HO691; have HO_3 := n0_; have HO688 := n1_; have HB := n2_; have HO698 := n3_; clear n0_ n1_ n2_ n3_ ho hb hg hat; refine hK.out _ _ trivial (fun hHeld => ?_)
                     clear hK K; refine norm_ (a' := ?_) ?_ ?_
                     rotate_left
                     · show Act.put _ (some 37) _ = _
                       simp only [Act.put, zaa, zab, zac, zbw, zbx]
                       rfl
                     refine pure_ (i := 11) (N := some 3) (v := ?_) (a' := ?_) #[true, true, true, true, true, true, true, true, true, true, true, true] rfl rfl (zby HT_.out (by kernel_rfl)) (fun _ _ _ h => h) (Or.inl ⟨by rfl, ?_⟩) ?_ ?_
                     rotate_left
                     · intro w'
                       go_simp; with_reducible rfl
                     rotate_left
                     · simp only [Act.put, zaa, zab, zac, zbw, zbx]
                       rfl
                     refine done_ (done_of HT_.out (by kernel_rfl)) ?_
                     try go_wp2
                     go_roundg k2
                     case measure => have := HK1.out; have := HK2.out; omega
                     case rel => exact ⟨(y696), (wrap64 (x9_1 + 1)), (taag), H', ⟨by have := HK1.out; have := HK2.out; omega⟩, ⟨by (with_reducible repeat (first | apply zai | apply zaj | apply zak)); exact zbq HO698.out (fun _ hk => trivial)⟩, ⟨taaa⟩⟩
                   · rw [if_neg c33] at H
                     exact absurd H (taac)
                 · rw [if_neg c30] at H
                   exact absurd H (taac)
               · rw [if_neg c28] at H
                 exact absurd H (taac)
             · rw [if_neg c27] at H
               exact absurd H (taac)
       · rw [if_neg c4] at H
         exact absurd H (taac)
     · rw [if_neg c3] at H
       exact absurd H (taac)
   · rw [if_neg c2] at H
     have c2b0 : decide (x9_1 < (l0.length : Int)) = false := zbh c2
     clear c2; obtain rfl := zbc H
     go_wp2
     go_ret
     exact ⟨_, taah, taap, taaa⟩
def impl_isGift.f (l0 : List Int) (a1_0 : Int) (a1_1 : Int) (a1_2 : Int) : Option (Bool) := (impl_within.f a1_0 0 (wrap64 ((l0.length : Int) - 1))).bind fun t471 => (if t471 = true then ((impl_within.f a1_1 0 (wrap64 ((l0.length : Int) - 1))).bind fun t472 => (if t472 = true then (if a1_0 = a1_1 then (some false) else (some (decide (a1_2 ≥ 1)))) else (some false))) else (some false))
theorem impl_isGift.calls (A0 : Option Addr) (c0 : Nat) (l0 : List Int) (a1_0 : Int) (a1_1 : Int) (a1_2 : Int) (r : Bool) (w : World) (hr0 : Kd.C (Kd.int .i64) w A0 l0.length l0) (hc0 : l0.length ≤ c0) (h : impl_isGift.f l0 a1_0 a1_1 a1_2 = some r) :
 Calls Try.prog 102 #[.slice A0 l0.length c0, .agg #[.int .i64 a1_0, .int .i64 a1_1, .int .i64 a1_2]] w fun e w' => e = .returned (.bool r) ∧ Below w.heap.size w w' := by
 have hu39 := Try.underlying39
 have HR0 := zad hr0; have HC0 := zad hc0; clear hr0 hc0; have HB := zad (Below.refl w.heap.size w)
 have H : ((impl_within.f a1_0 0 (wrap64 ((l0.length : Int) - 1))).bind fun t471 => (if t471 = true then ((impl_within.f a1_1 0 (wrap64 ((l0.length : Int) - 1))).bind fun t472 => (if t472 = true then (if a1_0 = a1_1 then (some false) else (some (decide (a1_2 ≥ 1)))) else (some false))) else (some false))) = some r := h
 clear h; replace H := zay.mp H; obtain ⟨t471, A30, H⟩ := H
 replace H : (if t471 = true then ((impl_within.f a1_1 0 (wrap64 ((l0.length : Int) - 1))).bind fun t472 => (if t472 = true then (if a1_0 = a1_1 then (some false) else (some (decide (a1_2 ≥ 1)))) else (some false))) else (some false)) = some r := H
 have A3 := zad A30; clear A30; by_cases c4 : t471 = true
 · subst c4
   have H1 : ((impl_within.f a1_1 0 (wrap64 ((l0.length : Int) - 1))).bind fun t472 => (if t472 = true then (if a1_0 = a1_1 then (some false) else (some (decide (a1_2 ≥ 1)))) else (some false))) = some r := by rw [if_pos rfl] at H; exact H
   clear H; have H := H1; clear H1; replace H := zay.mp H; obtain ⟨t472, A50, H⟩ := H
   replace H : (if t472 = true then (if a1_0 = a1_1 then (some false) else (some (decide (a1_2 ≥ 1)))) else (some false)) = some r := H
   have A5 := zad A50; clear A50; by_cases c6 : t472 = true
   · subst c6
     have H1 : (if a1_0 = a1_1 then (some false) else (some (decide (a1_2 ≥ 1)))) = some r := by rw [if_pos rfl] at H; exact H
     clear H; have H := H1; clear H1; by_cases c7 : a1_0 = a1_1
     · rw [if_pos c7] at H
       have c7b0 : (a1_0 == a1_1) = true := beq_iff_eq.mpr c7
       have c7b1 : (a1_0 != a1_1) = false := bne_eq_false_iff_eq.mpr c7
       clear c7; obtain rfl := zbc H
       go_enter Try.func102, Try.ntmps102
       go_wp2_with (first | ((with_reducible refine gate_dst (N := 3) rfl ?_); (try (refine gate_guard (by rfl) ?_; dsimp only)); refine box_event ?hg (N := 3) ?hd (cs := #[.int .i64 a1_0, .int .i64 a1_1, .int .i64 a1_2]) (t := 39) ?hr ?_; (case hd => rfl); (case hg => rfl); (case hr => first | (go_simp; done) | (go_simp; rfl)); intro gb470 hg w8 hbox hb; have n0_ := zad (zbe (taaa) hb); have n1_ := zad (hbox); have n2_ := zad ((taee : w.heap.size ≤ gb470)); have n3_ := zad ((taee : w.heap.size ≤ gb470)); clear HB; have HB := n0_; have BK470 := n1_; have GW470 := n2_; have GE470 := n3_; clear n0_ n1_ n2_ n3_ hb hbox hg; have hcz9_0 : w8.cell? ⟨gb470, 0, none⟩ = some (.int .i64 a1_0) := (zbi BK470.out 0).trans rfl; have hcz9_1 : w8.cell? ⟨gb470, 1, none⟩ = some (.int .i64 a1_1) := (zbi BK470.out 1).trans rfl; have hcz9_2 : w8.cell? ⟨gb470, 2, none⟩ = some (.int .i64 a1_2) := (zbi BK470.out 2).trans rfl; have hfz9_0 := zbj BK470.out 0; have hfz9_1 := zbj BK470.out 1; have hfz9_2 := zbj BK470.out 2) | ((with_reducible refine zbf (f := 83) rfl ?_); refine zbn (some 10) rfl rfl Try.func83 (by kernel_rfl) rfl #[.int .i64 a1_0, .int .i64 0, .int .i64 (wrap64 ((l0.length : Int) - 1))] rfl (taad) ?_; (with_reducible refine (impl_within.calls a1_0 0 (wrap64 ((l0.length : Int) - 1)) true _ A3.out).mono ?_); rintro e w' ⟨rfl, ⟨nd, rfl⟩⟩; refine ⟨_, rfl, ?_⟩) | (go_at_call 83; (with_reducible refine (impl_within.calls a1_1 0 (wrap64 ((l0.length : Int) - 1)) true _ A5.out).mono ?_); rintro e w' ⟨rfl, ⟨nd, rfl⟩⟩))
       go_ret
       exact ⟨taah, tacn⟩
     · rw [if_neg c7] at H
       have c7b0 : (a1_0 == a1_1) = false := zbo.mpr c7
       have c7b1 : (a1_0 != a1_1) = true := bne_iff_ne.mpr c7
       obtain rfl := zbc H
       go_enter Try.func102, Try.ntmps102
       go_wp2_with (first | ((with_reducible refine gate_dst (N := 3) rfl ?_); (try (refine gate_guard (by rfl) ?_; dsimp only)); refine box_event ?hg (N := 3) ?hd (cs := #[.int .i64 a1_0, .int .i64 a1_1, .int .i64 a1_2]) (t := 39) ?hr ?_; (case hd => rfl); (case hg => rfl); (case hr => first | (go_simp; done) | (go_simp; rfl)); intro gb470 hg w10 hbox hb; have n0_ := zad (zbe (taaa) hb); have n1_ := zad (hbox); have n2_ := zad ((taee : w.heap.size ≤ gb470)); have n3_ := zad ((taee : w.heap.size ≤ gb470)); clear HB; have HB := n0_; have BK470 := n1_; have GW470 := n2_; have GE470 := n3_; clear n0_ n1_ n2_ n3_ hb hbox hg; have hcz11_0 : w10.cell? ⟨gb470, 0, none⟩ = some (.int .i64 a1_0) := (zbi BK470.out 0).trans rfl; have hcz11_1 : w10.cell? ⟨gb470, 1, none⟩ = some (.int .i64 a1_1) := (zbi BK470.out 1).trans rfl; have hcz11_2 : w10.cell? ⟨gb470, 2, none⟩ = some (.int .i64 a1_2) := (zbi BK470.out 2).trans rfl; have hfz11_0 := zbj BK470.out 0; have hfz11_1 := zbj BK470.out 1; have hfz11_2 := zbj BK470.out 2) | ((with_reducible refine zbf (f := 83) rfl ?_); refine zbn (some 10) rfl rfl Try.func83 (by kernel_rfl) rfl #[.int .i64 a1_0, .int .i64 0, .int .i64 (wrap64 ((l0.length : Int) - 1))] rfl (taad) ?_; (with_reducible refine (impl_within.calls a1_0 0 (wrap64 ((l0.length : Int) - 1)) true _ A3.out).mono ?_); rintro e w' ⟨rfl, ⟨nd, rfl⟩⟩; refine ⟨_, rfl, ?_⟩) | (go_at_call 83; (with_reducible refine (impl_within.calls a1_1 0 (wrap64 ((l0.length : Int) - 1)) true _ A5.out).mono ?_); rintro e w' ⟨rfl, ⟨nd, rfl⟩⟩))
       go_ret
       exact ⟨taah, tacn⟩
   · replace c6 := zbg.mpr c6
     subst c6; have H1 : (some false) = some r := by rw [if_neg (show ¬ (false = true) by decide)] at H; exact H
     clear H; have H := H1; clear H1; obtain rfl := zbc H
     go_enter Try.func102, Try.ntmps102
     go_wp2_with (first | ((with_reducible refine gate_dst (N := 3) rfl ?_); (try (refine gate_guard (by rfl) ?_; dsimp only)); refine box_event ?hg (N := 3) ?hd (cs := #[.int .i64 a1_0, .int .i64 a1_1, .int .i64 a1_2]) (t := 39) ?hr ?_; (case hd => rfl); (case hg => rfl); (case hr => first | (go_simp; done) | (go_simp; rfl)); intro gb470 hg w12 hbox hb; have n0_ := zad (zbe (taaa) hb); have n1_ := zad (hbox); have n2_ := zad ((taee : w.heap.size ≤ gb470)); have n3_ := zad ((taee : w.heap.size ≤ gb470)); clear HB; have HB := n0_; have BK470 := n1_; have GW470 := n2_; have GE470 := n3_; clear n0_ n1_ n2_ n3_ hb hbox hg; have hcz13_0 : w12.cell? ⟨gb470, 0, none⟩ = some (.int .i64 a1_0) := (zbi BK470.out 0).trans rfl; have hcz13_1 : w12.cell? ⟨gb470, 1, none⟩ = some (.int .i64 a1_1) := (zbi BK470.out 1).trans rfl; have hcz13_2 : w12.cell? ⟨gb470, 2, none⟩ = some (.int .i64 a1_2) := (zbi BK470.out 2).trans rfl; have hfz13_0 := zbj BK470.out 0; have hfz13_1 := zbj BK470.out 1; have hfz13_2 := zbj BK470.out 2) | ((with_reducible refine zbf (f := 83) rfl ?_); refine zbn (some 10) rfl rfl Try.func83 (by kernel_rfl) rfl #[.int .i64 a1_0, .int .i64 0, .int .i64 (wrap64 ((l0.length : Int) - 1))] rfl (taad) ?_; (with_reducible refine (impl_within.calls a1_0 0 (wrap64 ((l0.length : Int) - 1)) true _ A3.out).mono ?_); rintro e w' ⟨rfl, ⟨nd, rfl⟩⟩; refine ⟨_, rfl, ?_⟩) | (go_at_call 83; (with_reducible refine (impl_within.calls a1_1 0 (wrap64 ((l0.length : Int) - 1)) false _ A5.out).mono ?_); rintro e w' ⟨rfl, ⟨nd, rfl⟩⟩))
     go_ret
     exact ⟨taah, tacn⟩
 · replace c4 := zbg.mpr c4
   subst c4; have H1 : (some false) = some r := by rw [if_neg (show ¬ (false = true) by decide)] at H; exact H
   clear H; have H := H1; clear H1; obtain rfl := zbc H
   go_enter Try.func102, Try.ntmps102
   go_wp2_with (first | ((with_reducible refine gate_dst (N := 3) rfl ?_); (try (refine gate_guard (by rfl) ?_; dsimp only)); refine box_event ?hg (N := 3) ?hd (cs := #[.int .i64 a1_0, .int .i64 a1_1, .int .i64 a1_2]) (t := 39) ?hr ?_; (case hd => rfl); (case hg => rfl); (case hr => first | (go_simp; done) | (go_simp; rfl)); intro gb470 hg w14 hbox hb; have n0_ := zad (zbe (taaa) hb); have n1_ := zad (hbox); have n2_ := zad ((taee : w.heap.size ≤ gb470)); have n3_ := zad ((taee : w.heap.size ≤ gb470)); clear HB; have HB := n0_; have BK470 := n1_; have GW470 := n2_; have GE470 := n3_; clear n0_ n1_ n2_ n3_ hb hbox hg; have hcz15_0 : w14.cell? ⟨gb470, 0, none⟩ = some (.int .i64 a1_0) := (zbi BK470.out 0).trans rfl; have hcz15_1 : w14.cell? ⟨gb470, 1, none⟩ = some (.int .i64 a1_1) := (zbi BK470.out 1).trans rfl; have hcz15_2 : w14.cell? ⟨gb470, 2, none⟩ = some (.int .i64 a1_2) := (zbi BK470.out 2).trans rfl; have hfz15_0 := zbj BK470.out 0; have hfz15_1 := zbj BK470.out 1; have hfz15_2 := zbj BK470.out 2) | ((with_reducible refine zbf (f := 83) rfl ?_); refine zbn (some 10) rfl rfl Try.func83 (by kernel_rfl) rfl #[.int .i64 a1_0, .int .i64 0, .int .i64 (wrap64 ((l0.length : Int) - 1))] rfl (taad) ?_; (with_reducible refine (impl_within.calls a1_0 0 (wrap64 ((l0.length : Int) - 1)) false _ A3.out).mono ?_); rintro e w' ⟨rfl, ⟨nd, rfl⟩⟩; refine ⟨_, rfl, ?_⟩))
   go_ret
   exact ⟨taah, tacn⟩
end Go.Proofs.Ytnlimjejllakoaa.A
