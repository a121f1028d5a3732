/- What the law FnMeetsAndJoins reaches, part 1: Lean functions with the same answers as the Go functions, the proofs that the Go code comes to these answers, and lemmas about them; no condition beyond those that each theorem names. -/
import Derived.Test.YtdkimdlbjeobiaaCFnMeetsAndJoinsw1
import Derived.Test.YtdkimdlbjeobiaaProg
import Derived.Below
import Derived.Deep.Draws
import Derived.Deep.AppendLies
import Derived.Maps.AppendAt
import Derived.OwnWalk
import Derived.Laws.BytesArg
import Derived.Laws.MakeOwn
import Derived.Laws.OwnMore
import Derived.Deep.OwnRows
import Derived.Tactics
import Derived.Lib.ConvBytes
import Derived.Laws.Slices
import Derived.WalkKit
import Derived.KernelRfl
import Derived.RowKit3
import Derived.Deep.LoopGhost
import Derived.Deep.QuietTactic
import Derived.BigQuiet
import Derived.WideLaws
import Derived.Deep.DeepCutAuto
import Derived.Deep.CutBlock
import Derived.Deep.RegionHeld3
import Derived.Laws.Rows
import Derived.Lib.AppendStr
import Derived.ArgAppend
import Derived.Laws.IdiomCopy
import Derived.OrdersHeld
import Derived.Laws.BitsLemmas
import Derived.RowKit
import Derived.Lib.SliceRun
import Derived.Shelf.SlSortCmp.NoneTotal
import Derived.Shelf.SlGeneric
import Derived.Ground.SlsfProg
set_option linter.unusedVariables false
set_option linter.unusedSimpArgs false
set_option maxHeartbeats 8000000
set_option maxRecDepth 100000
namespace Go.Proofs.Ytdkimdlbjeobiaa.A
open Go.RowKit Go.Proofs.YtdkimdlbjeobiaaW.PrintWords Go.Proofs.YtdkimdlbjeobiaaW.PrintLast Go.Proofs.YtdkimdlbjeobiaaW.PrintMore
attribute [local go_sem] max2_int min2_int max_two min_two max_three min_three max_four min_four
abbrev zaa := @List.setIfInBounds_toArray
abbrev zab := @List.set_cons_zero
abbrev zac := @List.set_cons_succ
abbrev zad := @Aside0.mk
abbrev zae := @pw_below_drewN
abbrev zaf := @below_drew1
abbrev zag := @below_alloc
abbrev zah := @below_set
abbrev zai := @Kd.R_alloc
abbrev zaj := @Kd.R_drewN
abbrev zak := @Kd.R_drew
abbrev zal := @Kd.C_alloc
abbrev zam := @Kd.C_drewN
abbrev zan := @Kd.C_drew
abbrev zao := @KeepBut.set_
abbrev zap := @keep_drewN
abbrev zaq := @keep_drew
abbrev zar := @keep_alloc
abbrev zas := @of_decide_eq_true
abbrev zat := @List.map_toArray
abbrev zau := @List.map_cons
abbrev zav := @List.map_nil
abbrev zaw := @List.length_drop
abbrev zax := @List.length_take
abbrev zay := @Option.bind_eq_some_iff
abbrev zaz := @World.block_lt_of_cell?
abbrev zba := @decide_eq_true
abbrev zbb := @Option.bind_some
abbrev zbc := @Option.some.inj
abbrev zbd := @Kd.R_reads'
abbrev zbe := @below_step
abbrev zbf := @gate_callee
abbrev zbg := @Bool.eq_false_iff
abbrev zbh := @decide_eq_false
abbrev zbi := @below_size
abbrev zbj := @Option.some.injEq
abbrev zbk := @Bool.false_eq_true
abbrev zbl := @goesL_
abbrev zbm := @beq_eq_false_iff_ne
abbrev zbn := @Prod.mk.injEq
abbrev zbo := @Kd.R_mono
abbrev zbp := @Kd.R_keep
abbrev zbq := @KeepBut.trans
abbrev zbr := @Kd.R_below
abbrev zbs := @Kd.R_lower
abbrev zbt := @Kd.R_slice
abbrev zbu := @i64_w
abbrev zbv := @i32_w
abbrev zbw := @any_of
abbrev zbx := @Kd.at_int
abbrev zby := @Kd.R_elder'
abbrev zbz := @Kd.R_new'
abbrev zca := @Kd.R_base
abbrev zcb := @Kd.R_lt
abbrev zcc := @Nat.le_refl
theorem taaa {P : Prop} (h : P := by repeat (first | (with_reducible first | exact HB.out | apply zag | apply zae | apply zaf) | exact HB.out)) : P := h
theorem taab {P : Prop} (h : P := by first | (with_reducible assumption) | assumption) : P := h
theorem taac {P : Prop} (h : P := by (try simp only [zat, zau, zav]); first | done | rfl | (simp only [zaw, zax]; rfl)) : P := h
theorem taad {P : Prop} (h : P := by first | rfl | (simp; done) | (simp [*]; done)) : P := h
theorem taae {P : Prop} (h : P := by (with_reducible repeat (first | apply zai | apply zaj | apply zak)); exact HO_6.out) : P := h
theorem taaf {P : Prop} (h : P := by (with_reducible repeat (first | apply zai | apply zaj | apply zak)); exact HO_5.out) : P := h
theorem taag {P : Prop} (h : P := by (with_reducible repeat (first | apply zai | apply zaj | apply zak)); exact HO_7.out) : P := h
theorem taah {P : Prop} (h : P := by simp) : P := h
theorem taai {P : Prop} (h : P := by repeat (first | (with_reducible exact HR620_0.out) | (with_reducible refine zal ?_ _) | (with_reducible refine zam ?_ _) | (with_reducible refine zan ?_) | exact HR620_0.out)) : P := h
theorem taaj {P : Prop} (h : P := by (with_reducible repeat (first | apply zai | apply zaj | apply zak)); exact HO_11.out) : P := h
theorem taak {P : Prop} (h : P := by repeat (first | (with_reducible first | exact HK.out | apply zao | apply zap | apply zaq | apply zar) | exact HK.out)) : P := h
theorem taal {P : Prop} (h : P := by repeat (first | (with_reducible first | exact HI0.out | apply zcd | apply zce | apply zcf | apply zch | apply zci) | exact HI0.out)) : P := h
theorem taam {P : Prop} (h : P := by first | rfl | (simp [errW_none, errW_some] <;> rfl) | (simp [*, errW_none, errW_some] <;> rfl)) : P := h
theorem taan {P : Prop} (h : P := by (with_reducible repeat (first | apply Kd.S_alloc | apply Kd.S_drewN | apply Kd.S_drew)); exact HO_176.out) : P := h
theorem taao {P : Prop} (h : P := by (with_reducible repeat (first | apply zai | apply zaj | apply zak)); exact HL620_0.out) : P := h
theorem taap {P : Prop} (h : P := by repeat (first | exact Drawn0.refl _ | apply Drawn0.step)) : P := h
theorem taaq {P : Prop} (h : P := by (with_reducible repeat (first | apply zai | apply zaj | apply zak)); exact HO_3.out) : P := h
theorem taar {P : Prop} (h : P := by repeat (first | (with_reducible first | exact HB.out | apply zag | apply zae | apply zaf | refine zah ?_ (zcg HI0.out)) | exact HB.out)) : P := h
theorem taas {P : Prop} (h : P := by (with_reducible repeat (first | apply zai | apply zaj | apply zak)); exact HO595.out) : P := h
theorem taat {P : Prop} (h : P := by (with_reducible repeat (first | apply zai | apply zaj | apply zak)); exact HO599.out) : P := h
theorem taau {P : Prop} (h : P := by rw [descL_length]; omega) : P := h
theorem taav {P : Prop} (h : P := by (with_reducible repeat (first | apply zai | apply zaj | apply zak)); exact HO603.out) : P := h
theorem taaw {P : Prop} (h : P := by have := HK1.out; omega) : P := h
theorem taax {P : Prop} (h : P := by repeat (first | (with_reducible first | exact HI400.out | apply zcd | apply zce | apply zcf | apply zch | apply zci) | exact HI400.out)) : P := h
theorem taay {P : Prop} (h : P := by first | omega | exact zcc _) : P := h
theorem taaz {P : Prop} (h : P := by first | exact Kd.R_nil _ _ _ _ _ | exact Kd.N_nil _ _ _ _ _ | exact Kd.V_nil _ _ _ _ _ | exact Kd.Q_nil _ _ _ _ _ | exact Kd.S_nil _ _ _ _ _) : P := h
theorem taba {P : Prop} (h : P := by simpa using h) : P := h
theorem tabb {P : Prop} (h : P := by (with_reducible repeat (first | apply zai | apply zaj | apply zak)); exact HO334.out) : P := h
theorem tabc {P : Prop} (h : P := by have := HJ9.out; first | omega | exact zcc _) : P := h
theorem tabd {P : Prop} (h : P := by (with_reducible repeat (first | apply zai | apply zaj | apply zak)); exact zbo HO_5.out (fun _ hk => ⟨hk.1.1.1.1, ⟨hk.1.1.1.2.1, hk.1.1.1.2.2⟩⟩)) : P := h
theorem tabe {P : Prop} (h : P := by (with_reducible repeat (first | apply zai | apply zaj | apply zak)); exact zbo HO_6.out (fun _ hk => ⟨hk.1.1.1.1, ⟨hk.1.1.1.2.1, hk.1.1.1.2.2⟩⟩)) : P := h
theorem tabf {P : Prop} (h : P := by (with_reducible repeat (first | apply zai | apply zaj | apply zak)); exact zbo HO_7.out (fun _ hk => ⟨hk.1.1.1.1, ⟨hk.1.1.1.2.1, hk.1.1.1.2.2⟩⟩)) : P := h
theorem tabg {P : Prop} (h : P := by (with_reducible repeat (first | apply zai | apply zaj | apply zak)); exact zbo HO_11.out (fun _ hk => ⟨hk.1.1.1.1, ⟨hk.1.1.1.2.1, hk.1.1.1.2.2⟩⟩)) : P := h
theorem tabh {P : Prop} (h : P := by have := HJ9.out; have := HJ40.out; have := HJ85.out; have := HK4.out; omega) : P := h
theorem tabi {P : Prop} (h : P := by repeat (first | (with_reducible first | exact HB.out | apply zag | apply zae | apply zaf | refine zah ?_ (zcg HI400.out)) | exact HB.out)) : P := h
theorem tabj {P : Prop} (h : P := by have := HK1.out; have := HK2.out; omega) : P := h
theorem tabk {P : Prop} (h : P := by (with_reducible repeat (first | apply zai | apply zaj | apply zak)); exact HO571.out) : P := h
theorem tabl {P : Prop} (h : P := by (with_reducible repeat (first | apply zai | apply zaj | apply zak)); exact HO573.out) : P := h
theorem tabm {P : Prop} (h : P := by (with_reducible repeat (first | apply zai | apply zaj | apply zak)); exact HO360.out) : P := h
theorem tabn {P : Prop} (h : P := by (with_reducible repeat (first | apply Kd.S_alloc | apply Kd.S_drewN | apply Kd.S_drew)); exact HO_7.out) : P := h
theorem tabo {P : Prop} (h : P := by first | (rw [add_block]; exact Kd.own_blk (IsS51.own_ne HI0.out HO_7.out (by decide))) | (show (Addr.add _ _).block ≠ _; rw [add_block]; exact Kd.own_blk (IsS51.own_ne HI0.out HO_7.out (by decide))) | exact Kd.own_blk (IsS51.own_ne HI0.out HO_7.out (by decide))) : P := h
theorem tabp {P : Prop} (h : P := by (with_reducible repeat (first | apply zai | apply zaj | apply zak)); exact HO468.out) : P := h
theorem tabq {P : Prop} (h : P := by (with_reducible repeat (first | apply zai | apply zaj | apply zak)); exact HO508.out) : P := h
theorem tabr {P : Prop} (h : P := by repeat (first | (with_reducible exact HR117.out) | (with_reducible refine zal ?_ _) | (with_reducible refine zam ?_ _) | (with_reducible refine zan ?_) | exact HR117.out)) : P := h
theorem tabs {P : Prop} (h : P := by repeat (first | (with_reducible exact HR137.out) | (with_reducible refine zal ?_ _) | (with_reducible refine zam ?_ _) | (with_reducible refine zan ?_) | exact HR137.out)) : P := h
theorem tabt {P : Prop} (h : P := by (with_reducible repeat (first | apply zai | apply zaj | apply zak)); exact HO577.out) : P := h
theorem tabu {P : Prop} (h : P := by (with_reducible repeat (first | apply zai | apply zaj | apply zak)); exact HO123.out) : P := h
theorem tabv {P : Prop} (h : P := by (with_reducible repeat (first | apply zai | apply zaj | apply zak)); exact HO143.out) : P := h
theorem tabw {P : Prop} (h : P := by (with_reducible repeat (first | apply zai | apply zaj | apply zak)); exact zbo HO571.out (fun _ hk => ⟨hk.1.1.1.1, ⟨hk.1.1.1.2, hk.1.2⟩⟩)) : P := h
theorem tabx {P : Prop} (h : P := by (with_reducible repeat (first | apply zai | apply zaj | apply zak)); exact zbo HO573.out (fun _ hk => ⟨hk.1.1.1.1, ⟨hk.1.1.1.2, hk.1.2⟩⟩)) : P := h
theorem taby {P : Prop} (h : P := by (with_reducible repeat (first | apply zai | apply zaj | apply zak)); exact zbo HO577.out (fun _ hk => ⟨hk.1.1.1.1.2, ⟨hk.1.1.1.2, hk.1.2⟩⟩)) : P := h
theorem tabz {P : Prop} (h : P := by (with_reducible repeat (first | apply zai | apply zaj | apply zak)); exact zbo HO585.out (fun _ hk => ⟨hk.1.1.1.1.2, ⟨hk.1.1.1.2, hk.1.1.2⟩⟩)) : P := h
theorem taca {P : Prop} (h : P := by rw [conjL_length, conjL_length]) : P := h
theorem tacb {P : Prop} (h : P := by (try simp only [Int.add_zero]); repeat (first | (with_reducible first | exact HI0.out | apply IsS51.alloc | apply IsS51.drewN | apply IsS51.drew | apply IsS51.set_1 | apply IsS51.set_2) | exact HI0.out)) : P := h
theorem tacc {P : Prop} (h : P := by repeat (first | (with_reducible first | exact HB.out | apply zag | apply zae | apply zaf | refine zah ?_ (IsS51.ge HI0.out)) | exact HB.out)) : P := h
theorem tacd {P : Prop} (h : P := by have := HK1.out; first | omega | exact zcc _) : P := h
theorem tace {P : Prop} (h : P := by have := HK1.out; have := HJ16.out; omega) : P := h
theorem tacf {P : Prop} (h : P := by (with_reducible repeat (first | apply zai | apply zaj | apply zak)); exact HO450.out) : P := h
theorem tacg {P : Prop} (h : P := by (with_reducible repeat (first | apply zai | apply zaj | apply zak)); exact HO471.out) : P := h
theorem tach {P : Prop} (h : P := by simp [Value.ownBlock]) : P := h
theorem taci {P : Prop} (h : P := by (with_reducible repeat (first | apply zai | apply zaj | apply zak)); exact HO511.out) : P := h
theorem tacj {P : Prop} (h : P := by repeat (first | (with_reducible exact HR130.out) | (with_reducible refine zal ?_ _) | (with_reducible refine zam ?_ _) | (with_reducible refine zan ?_) | exact HR130.out)) : P := h
theorem tack {P : Prop} (h : P := by simp only [putAll, Act.put, zaa, zab, zac]) : P := h
theorem tacl {P : Prop} (h : P := by repeat (first | (with_reducible exact HR150.out) | (with_reducible refine zal ?_ _) | (with_reducible refine zam ?_ _) | (with_reducible refine zan ?_) | exact HR150.out)) : P := h
theorem tacm {P : Prop} (h : P := by (with_reducible repeat (first | apply zai | apply zaj | apply zak)); exact HL267_0.out) : P := h
theorem tacn {P : Prop} (h : P := by (with_reducible repeat (first | apply zai | apply zaj | apply zak)); exact HO581.out) : P := h
theorem taco {P : Prop} (h : P := by rw [conjL_length]; omega) : P := h
theorem tacp {P : Prop} (h : P := by rw [List.length_append]; simp; omega) : P := h
theorem tacq {P : Prop} (h : P := by (with_reducible repeat (first | apply zai | apply zaj | apply zak)); exact HO342.out) : P := h
theorem tacr {P : Prop} (h : P := by (with_reducible repeat (first | apply zai | apply zaj | apply zak)); exact zbo HO_6.out (fun _ hk => ⟨trivial, hk⟩)) : P := h
theorem tacs {P : Prop} (h : P := by (with_reducible repeat (first | apply zai | apply zaj | apply zak)); exact zbo HO_6.out (fun _ hk => hk.2)) : P := h
theorem tact {P : Prop} (h : P := by (with_reducible repeat (first | apply zai | apply zaj | apply zak)); exact HO403.out) : P := h
theorem tacu {P : Prop} (h : P := by (with_reducible repeat (first | apply zai | apply zaj | apply zak)); exact HO406.out) : P := h
theorem tacv {P : Prop} (h : P := by (with_reducible repeat (first | apply zai | apply zaj | apply zak)); exact HO_8.out) : P := h
theorem tacw {P : Prop} (h : P := by first | exact Kd.S_nil _ _ _ _ _ | exact Kd.N_nil _ _ _ _ _ | exact Kd.V_nil _ _ _ _ _ | exact Kd.Q_nil _ _ _ _ _ | exact Kd.R_nil _ _ _ _ _) : P := h
theorem tacx {P : Prop} (h : P := by (with_reducible repeat (first | apply Kd.S_alloc | apply Kd.S_drewN | apply Kd.S_drew)); exact HO_38.out) : P := h
theorem tacy {P : Prop} (h : P := by rw [meetL_length a b hl]; omega) : P := h
theorem tacz {P : Prop} (h : P := by (with_reducible repeat (first | apply zai | apply zaj | apply zak)); exact zbo HO360.out (fun _ hk => hk.2)) : P := h
theorem tada {P : Prop} (h : P := by (with_reducible repeat (first | apply zai | apply zaj | apply zak)); exact HO440.out) : P := h
theorem tadb {P : Prop} (h : P := by (with_reducible repeat (first | apply zai | apply zaj | apply zak)); exact HO453.out) : P := h
theorem tadc {P : Prop} (h : P := by (with_reducible repeat (first | apply zai | apply zaj | apply zak)); exact zbo HO_7.out (fun _ hk => ⟨hk.2, hk.1⟩)) : P := h
theorem tadd {P : Prop} (h : P := by (with_reducible repeat (first | apply zai | apply zaj | apply zak)); exact zbo HO_14.out (fun _ hk => ⟨hk.2, hk.1⟩)) : P := h
theorem tade {P : Prop} (h : P := by (try simp only [zat, zau, zav]); first | done | (simp only [hji10]; rfl) | rfl | (simp only [zaw, zax]; rfl)) : P := h
theorem tadf {P : Prop} (h : P := by (with_reducible repeat (first | apply zai | apply zaj | apply zak)); exact HO474.out) : P := h
theorem tadg {P : Prop} (h : P := by (with_reducible repeat (first | apply zai | apply zaj | apply zak)); exact HO484.out) : P := h
theorem tadh {P : Prop} (h : P := by (with_reducible repeat (first | apply zai | apply zaj | apply zak)); exact HO514.out) : P := h
theorem tadi {P : Prop} (h : P := by (with_reducible repeat (first | apply zai | apply zaj | apply zak)); exact HO120.out) : P := h
theorem tadj {P : Prop} (h : P := by (with_reducible repeat (first | apply zai | apply zaj | apply zak)); exact zbo HO120.out (fun _ hk => ⟨hk.2, hk.1.2⟩)) : P := h
theorem tadk {P : Prop} (h : P := by (with_reducible repeat (first | apply zai | apply zaj | apply zak)); exact zbo HO123.out (fun _ hk => ⟨hk.2, hk.1.2⟩)) : P := h
theorem tadl {P : Prop} (h : P := by (with_reducible repeat (first | apply zai | apply zaj | apply zak)); exact zbo HO_3.out (fun _ hk => ⟨hk.1.2, hk.2⟩)) : P := h
theorem tadm {P : Prop} (h : P := by (with_reducible repeat (first | apply zai | apply zaj | apply zak)); exact zbo HO_3.out (fun _ hk => ⟨hk.2, hk.1.2⟩)) : P := h
theorem tadn {P : Prop} (h : P := by (with_reducible repeat (first | apply zai | apply zaj | apply zak)); exact zbo HO_3.out (fun _ hk => ⟨hk.2, hk.1⟩)) : P := h
theorem tado {P : Prop} (h : P := by (with_reducible repeat (first | apply zai | apply zaj | apply zak)); exact HO140.out) : P := h
theorem tadp {P : Prop} (h : P := by (with_reducible repeat (first | apply zai | apply zaj | apply zak)); exact zbo HO140.out (fun _ hk => ⟨hk.2, hk.1.2⟩)) : P := h
theorem tadq {P : Prop} (h : P := by (with_reducible repeat (first | apply zai | apply zaj | apply zak)); exact zbo HO143.out (fun _ hk => ⟨hk.2, hk.1.2⟩)) : P := h
theorem tadr {P : Prop} (h : P := by (with_reducible repeat (first | apply zai | apply zaj | apply zak)); exact HO179.out) : P := h
theorem tads {P : Prop} (h : P := by (with_reducible repeat (first | apply zai | apply zaj | apply zak)); exact HO528.out) : P := h
theorem tadt {P : Prop} (h : P := by (with_reducible repeat (first | apply zai | apply zaj | apply zak)); exact HO549.out) : P := h
theorem tadu {P : Prop} (h : P := by repeat (first | (with_reducible exact HR267_0.out) | (with_reducible refine zal ?_ _) | (with_reducible refine zam ?_ _) | (with_reducible refine zan ?_) | exact HR267_0.out)) : P := h
theorem tadv {P : Prop} (h : P := by (with_reducible repeat (first | apply zai | apply zaj | apply zak)); exact HO585.out) : P := h
theorem tadw {P : Prop} (h : P := by have := HJ9.out; have := HJ40.out; first | omega | exact zcc _) : P := h
theorem tadx {P : Prop} (h : P := by (with_reducible repeat (first | apply zai | apply zaj | apply zak)); exact zbo HO_5.out (fun _ hk => ⟨hk.1.1, ⟨hk.1.2.1, hk.1.2.2⟩⟩)) : P := h
theorem tady {P : Prop} (h : P := by (with_reducible repeat (first | apply zai | apply zaj | apply zak)); exact zbo HO_6.out (fun _ hk => ⟨hk.1.1, ⟨hk.1.2.1, hk.1.2.2⟩⟩)) : P := h
theorem tadz {P : Prop} (h : P := by (with_reducible repeat (first | apply zai | apply zaj | apply zak)); exact zbo HO_7.out (fun _ hk => ⟨hk.1.1, ⟨hk.1.2.1, hk.1.2.2⟩⟩)) : P := h
theorem taea {P : Prop} (h : P := by (with_reducible repeat (first | apply zai | apply zaj | apply zak)); exact zbo HO_11.out (fun _ hk => ⟨hk.1.1, ⟨hk.1.2.1, hk.1.2.2⟩⟩)) : P := h
theorem taeb {P : Prop} (h : P := by simp only [Bool.and_eq_true, Bool.not_eq_true'] at h; exact h) : P := h
theorem taec {P : Prop} (h : P := by exact taal) : P := h
theorem taed {P : Prop} (h : P := by first | exact q620 | exact zas (taab) | (have e_ := (Kd.S_reads' HO_176.out).1; omega)) : P := h
theorem taee {P : Prop} (h : P := by exact taax) : P := h
theorem taef {P : Prop} (h : P := by simp only [Bool.and_eq_true, Bool.not_eq_true']; exact ⟨h, by simpa using hs⟩) : P := h
theorem taeg {P : Prop} (h : P := by simp only [Bool.and_eq_true, Bool.not_eq_true']; exact ⟨k, by simpa using ht⟩) : P := h
theorem taeh {P : Prop} (h : P := by exact taec) : P := h
theorem taei {P : Prop} (h : P := by exact taee) : P := h
theorem taej {P : Prop} (h : P := by exact taeh) : P := h
theorem taek {P : Prop} (h : P := by exact taei) : P := h
theorem tael {P : Prop} (h : P := by (repeat (first | (with_reducible first | exact HI0.out | apply zcd | apply zce | apply zcf | apply zch | apply zci) | exact HI0.out)); done) : P := h
theorem taem {P : Prop} (h : P := by (repeat (first | (with_reducible first | exact HB.out | apply zag | apply zae | apply zaf | refine zah ?_ (zcg HI0.out)) | exact HB.out)); done) : P := h
theorem taen {P : Prop} (h : P := by (repeat (first | exact HR0.out | (with_reducible refine zal ?_ _) | (with_reducible refine zam ?_ _) | (with_reducible refine zan ?_))); done) : P := h
theorem taeo {P : Prop} (h : P := by (repeat (first | exact HR1.out | (with_reducible refine zal ?_ _) | (with_reducible refine zam ?_ _) | (with_reducible refine zan ?_))); done) : P := h
theorem taep {P : Prop} (h : P := by (repeat (first | exact (Kd.C_below HR0.out HB.out) | (with_reducible refine zal ?_ _) | (with_reducible refine zam ?_ _) | (with_reducible refine zan ?_))); done) : P := h
theorem taeq {P : Prop} (h : P := by (repeat (first | exact (zbd HO_7.out).2.2 | (with_reducible refine zal ?_ _) | (with_reducible refine zam ?_ _) | (with_reducible refine zan ?_))); done) : P := h
theorem taer {P : Prop} (h : P := by (repeat (first | (with_reducible first | exact HI400.out | apply zcd | apply zce | apply zcf | apply zch | apply zci) | exact HI400.out)); done) : P := h
theorem taes {P : Prop} (h : P := by (repeat (first | (with_reducible first | exact HB.out | apply zag | apply zae | apply zaf | refine zah ?_ (zcg HI400.out)) | exact HB.out)); done) : P := h
theorem taet {P : Prop} (h : P := by (repeat (first | exact (tabr) | (with_reducible refine zal ?_ _) | (with_reducible refine zam ?_ _) | (with_reducible refine zan ?_))); done) : P := h
theorem taeu {P : Prop} (h : P := by (repeat (first | exact (tabs) | (with_reducible refine zal ?_ _) | (with_reducible refine zam ?_ _) | (with_reducible refine zan ?_))); done) : P := h
theorem taev {P : Prop} (h : P := by (repeat (first | exact (zbd HO577.out).2.2 | (with_reducible refine zal ?_ _) | (with_reducible refine zam ?_ _) | (with_reducible refine zan ?_))); done) : P := h
theorem taew {P : Prop} (h : P := by (repeat (first | exact (zbd HO581.out).2.2 | (with_reducible refine zal ?_ _) | (with_reducible refine zam ?_ _) | (with_reducible refine zan ?_))); done) : P := h
theorem taex {P : Prop} (h : P := by (repeat (first | exact (zbd HO_5.out).2.2 | (with_reducible refine zal ?_ _) | (with_reducible refine zam ?_ _) | (with_reducible refine zan ?_))); done) : P := h
abbrev taey : Array Bool := #[true, false, false, false, false, false, false, false, false, false, false, false, false, false, false, false, false, false, false, false]
abbrev taez : Array Bool := #[true, true, false, false, false, false, false, false, false, false, false, false, false, false, false, false, false, false, false, false]
abbrev tafa : Array Bool := #[true, true, true, false, false, false, false, false, false, false, false, false, false, false, false, false, false, false, false, false]
abbrev tafb : Array Bool := #[true, true, true, true, false, false, false, false, false, false, false, false, false, false, false, false, false, false, false, false]
abbrev tafc : Array Bool := #[true, true, true, true, true, false, false, false, false, false, false, false, false, false, false, false, false, false, false, false]
abbrev tafd : Array Bool := #[true, true, true, true, true, true, false, false, false, false, false, false, false, false, false, false, false, false, false, false]
abbrev tafe : Array Bool := #[true, true, true, true, true, true, true, false, false, false, false, false, false, false, false, false, false, false, false, false]
abbrev taff : Array Bool := #[true, true, true, true, true, true, true, true, false, false, false, false, false, false, false, false, false, false, false, false]
abbrev tafg : Array Bool := #[true, true, true, true, true, true, true, true, true, false, false, false, false, false, false, false, false, false, false, false]
abbrev tafh : Array Bool := #[true, true, true, true, true, true, true, true, true, false, true, false, false, false, false, false, false, false, false, false]
abbrev tafi : Array Bool := #[true, true, true, true, true, true, true, true, true, false, true, true, false, false, false, false, false, false, false, false]
abbrev tafj : Array Bool := #[true, true, true, true, true, true, true, true, true, false, true, true, true, false, false, false, false, false, false, false]
abbrev tafk : Array Bool := #[true, true, true, true, true, true, true, true, true, true, true, true, true, false, false, false, false, false, false, false]
abbrev tafl : Array Bool := #[true, true, true, true, true, true, true, true, true, true, true, true, true, true, false, false, false, false, false, false]
abbrev tafm : Array Bool := #[true, true, true, true, true, true, true, true, true, true, true, true, true, true, true, false, false, false, false, false]
abbrev tafn : Array Bool := #[true, true, true, true, true, true, true, true, true, true, true, true, true, true, true, true, false, false, false, false]
abbrev tafo : Array Bool := #[true, true, true, true, true, true, true, true, true, true, true, true, true, true, true, true, true, false, false, false]
abbrev tafp : Array Bool := #[true, true, true, true, true, true, true, true, true, true, true, true, true, true, true, true, true, true, false, false]
abbrev tafq : Array Bool := #[true, true, true, true, true, true, true, true, true, true, true, true, true, true, true, true, true, true, true, false]
abbrev tafr : Array Bool := #[true, true, true, true, true, true, true, true, true, true, true, true, true, true, true, true, true, true, true, true]
def errW : Option Int → Value
 | none => .nilIface
 | some c => .iface 0 (.int .i64 c)
theorem errW_none : errW none = .nilIface := rfl
theorem errW_some (c : Int) : errW (some c) = .iface 0 (.int .i64 c) := rfl
theorem info3 : (Try.prog.info? 3).map (fun i => (i.zero, i.size, i.bytes)) = some (some (.int .i64 0), 1, 8) := by kernel_rfl
theorem info22 : (Try.prog.info? 22).map (fun i => (i.zero, i.size, i.bytes)) = some (some (.slice none 0 0), 1, 24) := by kernel_rfl
def rd_L1 (xs : List (List Int)) (i : Int) : (List Int) := xs.getD i.toNat ([] : List Int)
theorem at_L1 {w : World} {A : Option Addr} {n : Nat} {xs : List (List Int)} (h : Kd.C (Kd.slice 3 (Kd.int .i64)) w A n xs) (i : Int) (h0 : 0 ≤ i) (h1 : i < n) : ∃ ad A0 c0, A = some ad ∧ w.cell? (ad.add i.toNat) = some (.slice A0 (rd_L1 xs i).length c0) ∧ (rd_L1 xs i).length ≤ c0 ∧ (Kd.int .i64).C w A0 (rd_L1 xs i).length (rd_L1 xs i) := by
 obtain ⟨ad, c, e, _, hK, hc0⟩ := Kd.C_get h ([] : List Int) i h0 h1
 have hc : ∀ j u, c[j]? = some u → w.cell? (ad.add (i.toNat * 1 + j)) = some u := hc0
 obtain ⟨A0, c0, rfl, l0, g0⟩ := hK
 exact ⟨ad, A0, c0, e, by have hq := hc 0 _ rfl; rwa [Nat.mul_one, Nat.add_zero] at hq, l0, g0⟩
def laws_big.f (l0 : List Int) (l1 : List Int) : Option (Bool) := if (l0.length : Int) > 1048576 then (some true) else (some (decide ((l1.length : Int) > (wrap64 (1048576 - (l0.length : Int))))))
theorem laws_big.calls (A0 : Option Addr) (c0 : Nat) (l0 : List Int) (A1 : Option Addr) (c1 : Nat) (l1 : List Int) (r : Bool) (w : World) (hr0 : Kd.C (Kd.int .u8) w A0 l0.length l0) (hc0 : l0.length ≤ c0) (hr1 : Kd.C (Kd.int .u8) w A1 l1.length l1) (hc1 : l1.length ≤ c1) (h : laws_big.f l0 l1 = some r) :
 Calls Try.prog 14 #[.slice A0 l0.length c0, .slice A1 l1.length c1] w fun e w' => e = .returned (.bool r) ∧ Drawn0 w w' := by
 have HR0 := zad hr0; have HC0 := zad hc0; clear hr0 hc0; have HR1 := zad hr1; have HC1 := zad hc1; clear hr1 hc1; have H : (if (l0.length : Int) > 1048576 then (some true) else (some (decide ((l1.length : Int) > (wrap64 (1048576 - (l0.length : Int))))))) = some r := h
 clear h; by_cases c3 : (l0.length : Int) > 1048576
 · rw [if_pos c3] at H
   have c3b0 : decide (1048576 < (l0.length : Int)) = true := zba c3
   have c3b1 : decide (1048576 < l0.length) = true := zba (by omega)
   clear c3; obtain rfl := zbc H
   go_enter Try.func14, Try.ntmps14
   go_wp2
   go_ret
   exact ⟨taad, taap⟩
 · rw [if_neg c3] at H
   have c3b0 : decide (1048576 < (l0.length : Int)) = false := zbh c3
   have c3b1 : decide (1048576 < l0.length) = false := zbh (by omega)
   clear c3; obtain rfl := zbc H
   go_enter Try.func14, Try.ntmps14
   go_wp2
   go_ret
   exact ⟨taad, taap⟩
def IsS51 (w0 W : World) (g : Nat) (f0 : List Int) (f1 : Int) (f2 : Int) : Prop := ∃ A0 c0, W.heap[g]? = some (.cells #[.slice A0 f0.length c0, .int .i64 f1, .int .u64 f2] 51 (0, 0)) ∧ w0.heap.size ≤ g ∧ Kd.C (Kd.int .u8) w0 A0 f0.length f0
theorem IsS51.grown {w0 W : World} {g : Nat} {f0 : List Int} {f1 : Int} {f2 : Int} {W1 : World} {row : Option Nat} (h : IsS51 w0 W g f0 f1 f2) (hw : W.grownBy W1 row) (hne : some g ≠ row) : IsS51 w0 W1 g f0 f1 f2 := by
 obtain ⟨A0, c0, hb, hg, hr0⟩ := h
 exact ⟨A0, c0, blk_grown hb hw hne, hg, hr0⟩
theorem IsS51.below {w0 W : World} {g : Nat} {f0 : List Int} {f1 : Int} {f2 : Int} {W1 : World} (h : IsS51 w0 W g f0 f1 f2) (hw : Below W.heap.size W W1) : IsS51 w0 W1 g f0 f1 f2 := h.grown (grown_of_below hw none) (taah)
theorem IsS51.alloc {w0 W : World} {g : Nat} {f0 : List Int} {f1 : Int} {f2 : Int} (h : IsS51 w0 W g f0 f1 f2) (o : Obj) : IsS51 w0 (W.alloc o) g f0 f1 f2 := h.below (zag (Below.refl _ _) o)
theorem IsS51.drewN {w0 W : World} {g : Nat} {f0 : List Int} {f1 : Int} {f2 : Int} (h : IsS51 w0 W g f0 f1 f2) (m : Nat) : IsS51 w0 (W.drewN m) g f0 f1 f2 := h
theorem IsS51.drew {w0 W : World} {g : Nat} {f0 : List Int} {f1 : Int} {f2 : Int} (h : IsS51 w0 W g f0 f1 f2) : IsS51 w0 W.drew g f0 f1 f2 := h
theorem IsS51.apart {w0 W : World} {g : Nat} {f0 : List Int} {f1 : Int} {f2 : Int} {α : Type} {d : Kd α} {e : Nat} {base : Nat} {ok : Nat → Prop} {v : Value} {xs : List α} (h : IsS51 w0 W g f0 f1 f2) (ho : d.R e W base ok v xs) (ht : ∀ q, q ∈ e :: d.E → q ≠ 51) : d.R e W base (fun k => ok k ∧ k ≠ g) v xs := by
 obtain ⟨A0, c0, hb, hg, hr0⟩ := h
 exact Kd.R_types ho hb ht
theorem IsS51.own_ne {w0 W : World} {g : Nat} {f0 : List Int} {f1 : Int} {f2 : Int} {α : Type} {d : Kd α} {e : Nat} {base : Nat} {ok : Nat → Prop} {v : Value} {xs : List α} (h : IsS51 w0 W g f0 f1 f2) (ho : d.R e W base ok v xs) (ht : e ≠ 51) : some g ≠ v.ownBlock := by
 obtain ⟨A0, c0, hb, hg, hr0⟩ := h
 exact Kd.R_ne ho hb ht
theorem IsS51.lt {w0 W : World} {g : Nat} {f0 : List Int} {f1 : Int} {f2 : Int} (h : IsS51 w0 W g f0 f1 f2) : g < W.heap.size := by
 obtain ⟨A0, c0, hb, hg, hr0⟩ := h
 exact blk_lt hb
theorem IsS51.ge {w0 W : World} {g : Nat} {f0 : List Int} {f1 : Int} {f2 : Int} (h : IsS51 w0 W g f0 f1 f2) : w0.heap.size ≤ g := by
 obtain ⟨A0, c0, hb, hg, hr0⟩ := h
 exact hg
theorem cellS51_0 {W : World} {g : Nat} {A0 : Option Addr} {c0 : Nat} {f0 : List Int} {f1 : Int} {f2 : Int} (h : W.heap[g]? = some (.cells #[.slice A0 f0.length c0, .int .i64 f1, .int .u64 f2] 51 (0, 0))) : W.cell? ⟨g, 0, none⟩ = some (.slice A0 f0.length c0) := (blk_cell h 0).trans rfl
theorem cellS51_1 {W : World} {g : Nat} {A0 : Option Addr} {c0 : Nat} {f0 : List Int} {f1 : Int} {f2 : Int} (h : W.heap[g]? = some (.cells #[.slice A0 f0.length c0, .int .i64 f1, .int .u64 f2] 51 (0, 0))) : W.cell? ⟨g, 1, none⟩ = some (.int .i64 f1) := (blk_cell h 1).trans rfl
theorem IsS51.set_1 {w0 W : World} {g : Nat} {f0 : List Int} {f1 : Int} {f2 : Int} (h : IsS51 w0 W g f0 f1 f2) (x : Int) : IsS51 w0 (W.setCell ⟨g, 1, none⟩ (.int .i64 x)) g f0 x f2 := by
 obtain ⟨A0, c0, hb, hg, hr0⟩ := h
 exact ⟨A0, c0, by simpa using blk_set hb 1 (.int .i64 x), hg, hr0⟩
theorem cellS51_2 {W : World} {g : Nat} {A0 : Option Addr} {c0 : Nat} {f0 : List Int} {f1 : Int} {f2 : Int} (h : W.heap[g]? = some (.cells #[.slice A0 f0.length c0, .int .i64 f1, .int .u64 f2] 51 (0, 0))) : W.cell? ⟨g, 2, none⟩ = some (.int .u64 f2) := (blk_cell h 2).trans rfl
theorem IsS51.set_2 {w0 W : World} {g : Nat} {f0 : List Int} {f1 : Int} {f2 : Int} (h : IsS51 w0 W g f0 f1 f2) (x : Int) : IsS51 w0 (W.setCell ⟨g, 2, none⟩ (.int .u64 x)) g f0 f1 x := by
 obtain ⟨A0, c0, hb, hg, hr0⟩ := h
 exact ⟨A0, c0, by simpa using blk_set hb 2 (.int .u64 x), hg, hr0⟩
def spec_l1Cur_next.f (s0_0 : List Int) (s0_1 : Int) (s0_2 : Int) : Option (Int × Int × Int) := if s0_1 < (s0_0.length : Int) then (if 0 ≤ s0_1 then (if (wrap64 (s0_1 + 1)) ≤ (s0_0.length : Int) then (some (wrap64 (rd s0_0 s0_1), wrap64 (s0_1 + 1), IntKind.u64.wrap ((IntKind.u64.wrap ((IntKind.u64.wrap (s0_2 * 6364136223846793005)) + (IntKind.u64.wrap (wrap64 (rd s0_0 s0_1))))) + 1442695040888963407))) else (some (wrap64 (Go.bits .and .u64 ((IntKind.u64.wrap ((IntKind.u64.wrap ((IntKind.u64.wrap (s0_2 * 6364136223846793005)) + (IntKind.u64.wrap (wrap64 (rd s0_0 s0_1))))) + 1442695040888963407)) / 1099511627776) 255), wrap64 (s0_1 + 1), IntKind.u64.wrap ((IntKind.u64.wrap ((IntKind.u64.wrap (s0_2 * 6364136223846793005)) + (IntKind.u64.wrap (wrap64 (rd s0_0 s0_1))))) + 1442695040888963407)))) else (none)) else (if (wrap64 (s0_1 + 1)) ≤ (s0_0.length : Int) then (some (0, wrap64 (s0_1 + 1), IntKind.u64.wrap ((IntKind.u64.wrap ((IntKind.u64.wrap (s0_2 * 6364136223846793005)) + 0)) + 1442695040888963407))) else (some (wrap64 (Go.bits .and .u64 ((IntKind.u64.wrap ((IntKind.u64.wrap ((IntKind.u64.wrap (s0_2 * 6364136223846793005)) + 0)) + 1442695040888963407)) / 1099511627776) 255), wrap64 (s0_1 + 1), IntKind.u64.wrap ((IntKind.u64.wrap ((IntKind.u64.wrap (s0_2 * 6364136223846793005)) + 0)) + 1442695040888963407))))
theorem spec_l1Cur_next.calls (g : Nat) (s0_0 : List Int) (s0_1 : Int) (s0_2 : Int) (r1 : Int) (r2 : Int) (r3 : Int) (w0 w : World) (hI : IsS51 w0 w g s0_0 s0_1 s0_2) (hB : Below w0.heap.size w0 w) (h : spec_l1Cur_next.f s0_0 s0_1 s0_2 = some (r1, r2, r3)) :
 Calls Try.prog 77 #[.pointer (some ⟨g, 0, none⟩)] w fun e w' => e = .returned (.int .i64 r1) ∧ IsS51 w0 w' g s0_0 r2 r3 ∧ Below w0.heap.size w0 w' ∧ KeepBut w w' g none := by
 have HI0 := zad hI; have HK := zad (KeepBut.refl w g none)
 have HL := zad hB.size; clear hI; have HW0 := zad hB.size; have HB := zad hB; clear hB; have H : (if s0_1 < (s0_0.length : Int) then (if 0 ≤ s0_1 then (if (wrap64 (s0_1 + 1)) ≤ (s0_0.length : Int) then (some (wrap64 (rd s0_0 s0_1), wrap64 (s0_1 + 1), IntKind.u64.wrap ((IntKind.u64.wrap ((IntKind.u64.wrap (s0_2 * 6364136223846793005)) + (IntKind.u64.wrap (wrap64 (rd s0_0 s0_1))))) + 1442695040888963407))) else (some (wrap64 (Go.bits .and .u64 ((IntKind.u64.wrap ((IntKind.u64.wrap ((IntKind.u64.wrap (s0_2 * 6364136223846793005)) + (IntKind.u64.wrap (wrap64 (rd s0_0 s0_1))))) + 1442695040888963407)) / 1099511627776) 255), wrap64 (s0_1 + 1), IntKind.u64.wrap ((IntKind.u64.wrap ((IntKind.u64.wrap (s0_2 * 6364136223846793005)) + (IntKind.u64.wrap (wrap64 (rd s0_0 s0_1))))) + 1442695040888963407)))) else (none)) else (if (wrap64 (s0_1 + 1)) ≤ (s0_0.length : Int) then (some (0, wrap64 (s0_1 + 1), IntKind.u64.wrap ((IntKind.u64.wrap ((IntKind.u64.wrap (s0_2 * 6364136223846793005)) + 0)) + 1442695040888963407))) else (some (wrap64 (Go.bits .and .u64 ((IntKind.u64.wrap ((IntKind.u64.wrap ((IntKind.u64.wrap (s0_2 * 6364136223846793005)) + 0)) + 1442695040888963407)) / 1099511627776) 255), wrap64 (s0_1 + 1), IntKind.u64.wrap ((IntKind.u64.wrap ((IntKind.u64.wrap (s0_2 * 6364136223846793005)) + 0)) + 1442695040888963407))))) = some (r1, r2, r3) := h
 clear h; by_cases c2 : s0_1 < (s0_0.length : Int)
 · rw [if_pos c2] at H
   have c2b0 : decide (s0_1 < (s0_0.length : Int)) = true := zba c2
   clear c2; by_cases c3 : 0 ≤ s0_1
   · rw [if_pos c3] at H
     have c3b0 : decide (0 ≤ s0_1) = true := zba c3
     clear c3; by_cases c4 : (wrap64 (s0_1 + 1)) ≤ (s0_0.length : Int)
     · rw [if_pos c4] at H
       have c4b0 : decide ((wrap64 (s0_1 + 1)) ≤ (s0_0.length : Int)) = true := zba c4
       clear c4; simp only [zbj, zbn] at H
       obtain ⟨rfl, rfl, rfl⟩ := H
       obtain ⟨ASz5_0, cSz5_0, HGz5, hgz5, HSz5_0⟩ := HI0.out
       have hcz5_0 := cellS51_0 HGz5; have hcz5_1 := cellS51_1 HGz5; have hcz5_2 := cellS51_2 HGz5; have hfz5_1 := blk_frozen HGz5 1
       have hfz5_2 := blk_frozen HGz5 2
       clear HGz5 hgz5; have p309 : 0 ≤ (s0_1 : Int) := zas (taab)
       have q309 : s0_1 < (s0_0.length : Int) := zas (taab)
       obtain ⟨ad309, e309, hx309_0⟩ := zbx HSz5_0 s0_1 p309 q309
       cases e309
       replace hx309_0 := pw_cell_below HB.out hx309_0
       replace p309 := eq_true p309
       replace q309 := eq_true q309
       go_enter Try.func77, Try.ntmps77
       go_wp2
       repeat (go_quiet (fail); try go_wp2)
       go_ret
       exact ⟨taam, tacb, tacc, taak⟩
     · rw [if_neg c4] at H
       have c4b0 : decide ((wrap64 (s0_1 + 1)) ≤ (s0_0.length : Int)) = false := zbh c4
       clear c4; simp only [zbj, zbn] at H
       obtain ⟨rfl, rfl, rfl⟩ := H
       obtain ⟨ASz6_0, cSz6_0, HGz6, hgz6, HSz6_0⟩ := HI0.out
       have hcz6_0 := cellS51_0 HGz6; have hcz6_1 := cellS51_1 HGz6; have hcz6_2 := cellS51_2 HGz6; have hfz6_1 := blk_frozen HGz6 1
       have hfz6_2 := blk_frozen HGz6 2
       clear HGz6 hgz6; have p309 : 0 ≤ (s0_1 : Int) := zas (taab)
       have q309 : s0_1 < (s0_0.length : Int) := zas (taab)
       obtain ⟨ad309, e309, hx309_0⟩ := zbx HSz6_0 s0_1 p309 q309
       cases e309
       replace hx309_0 := pw_cell_below HB.out hx309_0
       replace p309 := eq_true p309
       replace q309 := eq_true q309
       go_enter Try.func77, Try.ntmps77
       go_wp2
       repeat (go_quiet (fail); try go_wp2)
       go_ret
       exact ⟨taam, tacb, tacc, taak⟩
   · rw [if_neg c3] at H
     exact absurd H (taah)
 · rw [if_neg c2] at H
   have c2b0 : decide (s0_1 < (s0_0.length : Int)) = false := zbh c2
   clear c2; by_cases c7 : (wrap64 (s0_1 + 1)) ≤ (s0_0.length : Int)
   · rw [if_pos c7] at H
     have c7b0 : decide ((wrap64 (s0_1 + 1)) ≤ (s0_0.length : Int)) = true := zba c7
     clear c7; simp only [zbj, zbn] at H
     obtain ⟨rfl, rfl, rfl⟩ := H
     obtain ⟨ASz8_0, cSz8_0, HGz8, hgz8, HSz8_0⟩ := HI0.out
     have hcz8_0 := cellS51_0 HGz8; have hcz8_1 := cellS51_1 HGz8; have hcz8_2 := cellS51_2 HGz8; have hfz8_1 := blk_frozen HGz8 1
     have hfz8_2 := blk_frozen HGz8 2
     clear HGz8 hgz8; go_enter Try.func77, Try.ntmps77
     go_wp2
     repeat (go_quiet (fail); try go_wp2)
     go_ret
     exact ⟨taam, tacb, tacc, taak⟩
   · rw [if_neg c7] at H
     have c7b0 : decide ((wrap64 (s0_1 + 1)) ≤ (s0_0.length : Int)) = false := zbh c7
     clear c7; simp only [zbj, zbn] at H
     obtain ⟨rfl, rfl, rfl⟩ := H
     obtain ⟨ASz9_0, cSz9_0, HGz9, hgz9, HSz9_0⟩ := HI0.out
     have hcz9_0 := cellS51_0 HGz9; have hcz9_1 := cellS51_1 HGz9; have hcz9_2 := cellS51_2 HGz9; have hfz9_1 := blk_frozen HGz9 1
     have hfz9_2 := blk_frozen HGz9 2
     clear HGz9 hgz9; go_enter Try.func77, Try.ntmps77
     go_wp2
     repeat (go_quiet (fail); try go_wp2)
     go_ret
     exact ⟨taam, tacb, tacc, taak⟩
abbrev zcd := @IsS51.alloc
abbrev zce := @IsS51.drewN
abbrev zcf := @IsS51.drew
abbrev zcg := @IsS51.ge
abbrev zch := @IsS51.set_1
abbrev zci := @IsS51.set_2
def spec_l1Cur_pick.f (s0_0 : List Int) (s0_1 : Int) (s0_2 : Int) (a1 : Int) : Option (Int × Int × Int) := if a1 ≤ 1 then (some (0, s0_1, s0_2)) else ((spec_l1Cur_next.f s0_0 s0_1 s0_2).bind fun bt310 => (if a1 > 200 then ((spec_l1Cur_next.f s0_0 bt310.2.1 bt310.2.2).bind fun bt313 => (if a1 = 0 then (none) else (some (Int.tmod (wrap64 ((wrap64 (bt310.1 * 256)) + bt313.1)) a1, bt313.2.1, bt313.2.2)))) else (if a1 = 0 then (none) else (some (Int.tmod bt310.1 a1, bt310.2.1, bt310.2.2)))))
theorem spec_l1Cur_pick.calls (g : Nat) (s0_0 : List Int) (s0_1 : Int) (s0_2 : Int) (a1 : Int) (r1 : Int) (r2 : Int) (r3 : Int) (w0 w : World) (hI : IsS51 w0 w g s0_0 s0_1 s0_2) (hB : Below w0.heap.size w0 w) (h : spec_l1Cur_pick.f s0_0 s0_1 s0_2 a1 = some (r1, r2, r3)) :
 Calls Try.prog 47 #[.pointer (some ⟨g, 0, none⟩), .int .i64 a1] w fun e w' => e = .returned (.int .i64 r1) ∧ IsS51 w0 w' g s0_0 r2 r3 ∧ Below w0.heap.size w0 w' ∧ KeepBut w w' g none := by
 have HI0 := zad hI; have HK := zad (KeepBut.refl w g none)
 have HL := zad hB.size; clear hI; have HW0 := zad hB.size; have HB := zad hB; clear hB; have H : (if a1 ≤ 1 then (some (0, s0_1, s0_2)) else ((spec_l1Cur_next.f s0_0 s0_1 s0_2).bind fun bt310 => (if a1 > 200 then ((spec_l1Cur_next.f s0_0 bt310.2.1 bt310.2.2).bind fun bt313 => (if a1 = 0 then (none) else (some (Int.tmod (wrap64 ((wrap64 (bt310.1 * 256)) + bt313.1)) a1, bt313.2.1, bt313.2.2)))) else (if a1 = 0 then (none) else (some (Int.tmod bt310.1 a1, bt310.2.1, bt310.2.2)))))) = some (r1, r2, r3) := h
 clear h; by_cases c3 : a1 ≤ 1
 · rw [if_pos c3] at H
   have c3b0 : decide (a1 ≤ 1) = true := zba c3
   clear c3; simp only [zbj, zbn] at H
   obtain ⟨rfl, rfl, rfl⟩ := H
   go_enter Try.func47, Try.ntmps47
   go_wp2
   go_ret
   exact ⟨taam, taal, taar, taak⟩
 · rw [if_neg c3] at H
   have c3b0 : decide (a1 ≤ 1) = false := zbh c3
   clear c3; replace H := zay.mp H; obtain ⟨⟨t310, t311, t312⟩, A40, H⟩ := H
   replace H : (if a1 > 200 then ((spec_l1Cur_next.f s0_0 t311 t312).bind fun bt313 => (if a1 = 0 then (none) else (some (Int.tmod (wrap64 ((wrap64 (t310 * 256)) + bt313.1)) a1, bt313.2.1, bt313.2.2)))) else (if a1 = 0 then (none) else (some (Int.tmod t310 a1, t311, t312)))) = some (r1, r2, r3) := H
   have A4 := zad A40; clear A40; by_cases c5 : a1 > 200
   · rw [if_pos c5] at H
     have c5b0 : decide (200 < a1) = true := zba c5
     clear c5; replace H := zay.mp H; obtain ⟨⟨t313, t314, t315⟩, A60, H⟩ := H
     replace H : (if a1 = 0 then (none) else (some (Int.tmod (wrap64 ((wrap64 (t310 * 256)) + t313)) a1, t314, t315))) = some (r1, r2, r3) := H
     have A6 := zad A60; clear A60; by_cases c7 : a1 = 0
     · rw [if_pos c7] at H
       exact absurd H (taah)
     · rw [if_neg c7] at H
       have c7b0 : (a1 == 0) = false := zbm.mpr c7
       have c7b1 : (a1 != 0) = true := bne_iff_ne.mpr c7
       simp only [zbj, zbn] at H
       obtain ⟨rfl, rfl, rfl⟩ := H
       go_enter Try.func47, Try.ntmps47
       go_wp2_with (first | ((with_reducible refine zbf (f := 77) rfl ?_); refine zbl (some 9) rfl rfl Try.func77 (by kernel_rfl) rfl #[.pointer (some ⟨g, 0, none⟩)] rfl (taac) ?_; (with_reducible refine (spec_l1Cur_next.calls g s0_0 s0_1 s0_2 t310 t311 t312 w0 _ ?side1 ?side2 A4.out).mono ?_); (case side1 => repeat (first | (with_reducible first | exact HI0.out | apply zcd | apply zce | apply zcf | apply zch | apply zci) | exact HI0.out)); (case side2 => repeat (first | (with_reducible first | exact HB.out | apply zag | apply zae | apply zaf | refine zah ?_ (zcg HI0.out)) | exact HB.out)); rintro e w8 ⟨rfl, hi, hb, hk⟩; refine ⟨_, rfl, ?_⟩; have n0_ := zad (zbq (taak) hk (.inl rfl)); have n1_ := zad (hb); have n2_ := zad (hi); clear HK HB HI0; have HK := n0_; have HB := n1_; have HI0 := n2_; clear n0_ n1_ n2_; (try clear hb); (try clear hb2); (try clear hk); (try clear hi)) | ((with_reducible refine zbf (f := 77) rfl ?_); refine zbl (some 15) rfl rfl Try.func77 (by kernel_rfl) rfl #[.pointer (some ⟨g, 0, none⟩)] rfl (taac) ?_; (with_reducible refine (spec_l1Cur_next.calls g s0_0 t311 t312 t313 t314 t315 w0 _ ?side1 ?side2 A6.out).mono ?_); (case side1 => repeat (first | (with_reducible first | exact HI0.out | apply zcd | apply zce | apply zcf | apply zch | apply zci) | exact HI0.out)); (case side2 => repeat (first | (with_reducible first | exact HB.out | apply zag | apply zae | apply zaf | refine zah ?_ (zcg HI0.out)) | exact HB.out)); rintro e w9 ⟨rfl, hi, hb, hk⟩; refine ⟨_, rfl, ?_⟩; have n0_ := zad (zbq (taak) hk (.inl rfl)); have n1_ := zad (hb); have n2_ := zad (hi); clear HK HB HI0; have HK := n0_; have HB := n1_; have HI0 := n2_; clear n0_ n1_ n2_; (try clear hb); (try clear hb2); (try clear hk); (try clear hi)))
       go_ret
       exact ⟨taam, taal, taar, taak⟩
   · rw [if_neg c5] at H
     have c5b0 : decide (200 < a1) = false := zbh c5
     clear c5; by_cases c10 : a1 = 0
     · rw [if_pos c10] at H
       exact absurd H (taah)
     · rw [if_neg c10] at H
       have c10b0 : (a1 == 0) = false := zbm.mpr c10
       have c10b1 : (a1 != 0) = true := bne_iff_ne.mpr c10
       simp only [zbj, zbn] at H
       obtain ⟨rfl, rfl, rfl⟩ := H
       go_enter Try.func47, Try.ntmps47
       go_wp2_with (first | ((with_reducible refine zbf (f := 77) rfl ?_); refine zbl (some 9) rfl rfl Try.func77 (by kernel_rfl) rfl #[.pointer (some ⟨g, 0, none⟩)] rfl (taac) ?_; (with_reducible refine (spec_l1Cur_next.calls g s0_0 s0_1 s0_2 t310 t311 t312 w0 _ ?side1 ?side2 A4.out).mono ?_); (case side1 => exact tael); (case side2 => exact taem); rintro e w11 ⟨rfl, hi, hb, hk⟩; refine ⟨_, rfl, ?_⟩; have n0_ := zad (zbq (taak) hk (.inl rfl)); have n1_ := zad (hb); have n2_ := zad (hi); clear HK HB HI0; have HK := n0_; have HB := n1_; have HI0 := n2_; clear n0_ n1_ n2_; (try clear hb); (try clear hb2); (try clear hk); (try clear hi)))
       go_ret
       exact ⟨taam, taal, taar, taak⟩
abbrev zcj := @spec_l1Cur_pick.calls
def spec_l1Cur_one.f (s0_0 : List Int) (s0_1 : Int) (s0_2 : Int) (a1 : Int) : Option (Bool × Int × Int) := (spec_l1Cur_pick.f s0_0 s0_1 s0_2 a1).bind fun bt316 => (some ((bt316.1 == 0), bt316.2.1, bt316.2.2))
theorem spec_l1Cur_one.calls (g : Nat) (s0_0 : List Int) (s0_1 : Int) (s0_2 : Int) (a1 : Int) (r1 : Bool) (r2 : Int) (r3 : Int) (w0 w : World) (hI : IsS51 w0 w g s0_0 s0_1 s0_2) (hB : Below w0.heap.size w0 w) (h : spec_l1Cur_one.f s0_0 s0_1 s0_2 a1 = some (r1, r2, r3)) :
 Calls Try.prog 46 #[.pointer (some ⟨g, 0, none⟩), .int .i64 a1] w fun e w' => e = .returned (.bool r1) ∧ IsS51 w0 w' g s0_0 r2 r3 ∧ Below w0.heap.size w0 w' ∧ KeepBut w w' g none := by
 have HI0 := zad hI; have HK := zad (KeepBut.refl w g none)
 have HL := zad hB.size; clear hI; have HW0 := zad hB.size; have HB := zad hB; clear hB; have H : ((spec_l1Cur_pick.f s0_0 s0_1 s0_2 a1).bind fun bt316 => (some ((bt316.1 == 0), bt316.2.1, bt316.2.2))) = some (r1, r2, r3) := h
 clear h; replace H := zay.mp H; obtain ⟨⟨t316, t317, t318⟩, A30, H⟩ := H
 replace H : (some ((t316 == 0), t317, t318)) = some (r1, r2, r3) := H
 have A3 := zad A30; clear A30; simp only [zbj, zbn] at H
 obtain ⟨rfl, rfl, rfl⟩ := H
 go_enter Try.func46, Try.ntmps46
 go_wp2_with (first | ((with_reducible refine zbf (f := 47) rfl ?_); refine zbl (some 7) rfl rfl Try.func47 (by kernel_rfl) rfl #[.pointer (some ⟨g, 0, none⟩), .int .i64 a1] rfl (taac) ?_; (with_reducible refine (zcj g s0_0 s0_1 s0_2 a1 t316 t317 t318 w0 _ ?side1 ?side2 A3.out).mono ?_); (case side1 => exact tael); (case side2 => exact taem); rintro e w4 ⟨rfl, hi, hb, hk⟩; refine ⟨_, rfl, ?_⟩; have n0_ := zad (zbq (taak) hk (.inl rfl)); have n1_ := zad (hb); have n2_ := zad (hi); clear HK HB HI0; have HK := n0_; have HB := n1_; have HI0 := n2_; clear n0_ n1_ n2_; (try clear hb); (try clear hb2); (try clear hk); (try clear hi)))
 go_ret
 exact ⟨taam, taal, taar, taak⟩
def spec_l1Cur_among.f (s0_0 : List Int) (s0_1 : Int) (s0_2 : Int) (l1 : List Int) : Option (Int × Int × Int) := (spec_l1Cur_pick.f s0_0 s0_1 s0_2 (l1.length : Int)).bind fun bt319 => (if 0 ≤ bt319.1 then (if bt319.1 < (l1.length : Int) then (some (rd l1 bt319.1, bt319.2.1, bt319.2.2)) else (none)) else (none))
theorem spec_l1Cur_among.calls (g : Nat) (s0_0 : List Int) (s0_1 : Int) (s0_2 : Int) (A1 : Option Addr) (c1 : Nat) (l1 : List Int) (r1 : Int) (r2 : Int) (r3 : Int) (w0 w : World) (hI : IsS51 w0 w g s0_0 s0_1 s0_2) (hB : Below w0.heap.size w0 w) (hr1 : Kd.C (Kd.int .i64) w A1 l1.length l1) (hc1 : l1.length ≤ c1) (hf1 : ∀ ad, A1 = some ad → 0 < l1.length → ad.block ≠ g) (h : spec_l1Cur_among.f s0_0 s0_1 s0_2 l1 = some (r1, r2, r3)) :
 Calls Try.prog 62 #[.pointer (some ⟨g, 0, none⟩), .slice A1 l1.length c1] w fun e w' => e = .returned (.int .i64 r1) ∧ IsS51 w0 w' g s0_0 r2 r3 ∧ Below w0.heap.size w0 w' ∧ KeepBut w w' g none := by
 have HR1 := zad hr1; have HC1 := zad hc1; clear hr1 hc1; have HI0 := zad hI; have HK := zad (KeepBut.refl w g none)
 have HL := zad hB.size; clear hI; have HW0 := zad hB.size; have HB := zad hB; clear hB; have H : ((spec_l1Cur_pick.f s0_0 s0_1 s0_2 (l1.length : Int)).bind fun bt319 => (if 0 ≤ bt319.1 then (if bt319.1 < (l1.length : Int) then (some (rd l1 bt319.1, bt319.2.1, bt319.2.2)) else (none)) else (none))) = some (r1, r2, r3) := h
 clear h; replace H := zay.mp H; obtain ⟨⟨t319, t320, t321⟩, A30, H⟩ := H
 replace H : (if 0 ≤ t319 then (if t319 < (l1.length : Int) then (some (rd l1 t319, t320, t321)) else (none)) else (none)) = some (r1, r2, r3) := H
 have A3 := zad A30; clear A30; by_cases c4 : 0 ≤ t319
 · rw [if_pos c4] at H
   have c4b0 : decide (0 ≤ t319) = true := zba c4
   clear c4; by_cases c5 : t319 < (l1.length : Int)
   · rw [if_pos c5] at H
     have c5b0 : decide (t319 < (l1.length : Int)) = true := zba c5
     clear c5; simp only [zbj, zbn] at H
     obtain ⟨rfl, rfl, rfl⟩ := H
     go_enter Try.func62, Try.ntmps62
     go_wp2_with (first | ((with_reducible refine zbf (f := 47) rfl ?_); refine zbl (some 9) rfl rfl Try.func47 (by kernel_rfl) rfl #[.pointer (some ⟨g, 0, none⟩), .int .i64 (l1.length : Int)] rfl (taac) ?_; (with_reducible refine (zcj g s0_0 s0_1 s0_2 (l1.length : Int) t319 t320 t321 w0 _ ?side1 ?side2 A3.out).mono ?_); (case side1 => exact tael); (case side2 => exact taem); rintro e w6 ⟨rfl, hi, hb, hk⟩; refine ⟨_, rfl, ?_⟩; have n0_ := zad (zbq (taak) hk (.inl rfl)); have n1_ := zad (hb); have n2_ := zad (hi); clear HK HB HI0; have HK := n0_; have HB := n1_; have HI0 := n2_; clear n0_ n1_ n2_; (try clear hb); (try clear hb2); (try clear hk); (try clear hi); have p322 : 0 ≤ (t319 : Int) := zas (taab); have q322 : t319 < (l1.length : Int) := zas (taab); obtain ⟨ad322, e322, hx322_0⟩ := zbx HR1.out t319 p322 q322; cases e322; replace hx322_0 := keep_cell HK.out hx322_0 (by first | (rw [add_block]; exact hf1 _ rfl (by omega)) | exact hf1 _ rfl (by omega) | exact hf1 ad322 rfl (by omega)); replace p322 := eq_true p322; replace q322 := eq_true q322))
     go_ret
     exact ⟨taam, taal, taar, taak⟩
   · rw [if_neg c5] at H
     exact absurd H (taah)
 · rw [if_neg c4] at H
   exact absurd H (taah)
def spec_l1Cur_list.l0 : Nat → Int → List Int → Int → List Int → Int → Int → Option (List Int × Int × Int)
 | 0, _, _, _, _, _, _ => none
 | k + 1, x1, x5, x6, x1000, x1001, x1002 => if x6 > 0 then ((spec_l1Cur_pick.f x1000 x1001 x1002 (wrap64 (x1 + 1))).bind fun bt326 => (if x5.length < 17592186044416 then (spec_l1Cur_list.l0 k x1 (x5 ++ [bt326.1]) (wrap64 (x6 - 1)) x1000 bt326.2.1 bt326.2.2) else (none))) else (some (x5, x1001, x1002))
def spec_l1Cur_list.f (k : Nat) (s0_0 : List Int) (s0_1 : Int) (s0_2 : Int) (a1 : Int) : Option (List Int × Int × Int) := (spec_l1Cur_pick.f s0_0 s0_1 s0_2 6).bind fun bt323 => (spec_l1Cur_list.l0 k a1 ([] : List Int) (wrap64 (1 + bt323.1)) s0_0 bt323.2.1 bt323.2.2)
theorem spec_l1Cur_list.calls (k : Nat) (g : Nat) (s0_0 : List Int) (s0_1 : Int) (s0_2 : Int) (a1 : Int) (r1 : List Int) (r2 : Int) (r3 : Int) (w0 w : World) (hI : IsS51 w0 w g s0_0 s0_1 s0_2) (hB : Below w0.heap.size w0 w) (h : spec_l1Cur_list.f k s0_0 s0_1 s0_2 a1 = some (r1, r2, r3)) :
 Calls Try.prog 83 #[.pointer (some ⟨g, 0, none⟩), .int .i64 a1] w fun e w' => ∃ v0_ : Value, e = .returned (v0_) ∧ Kd.R (Kd.int .i64) 3 w' w.heap.size (fun _ => True) v0_ r1 ∧ IsS51 w0 w' g s0_0 r2 r3 ∧ Below w0.heap.size w0 w' ∧ KeepBut w w' g none := by
 have HI0 := zad hI; have HK := zad (KeepBut.refl w g none)
 have HL := zad hB.size; clear hI; have HW0 := zad hB.size; have HB := zad hB; clear hB; have H : ((spec_l1Cur_pick.f s0_0 s0_1 s0_2 6).bind fun bt323 => (spec_l1Cur_list.l0 k a1 ([] : List Int) (wrap64 (1 + bt323.1)) s0_0 bt323.2.1 bt323.2.2)) = some (r1, r2, r3) := h
 clear h; replace H := zay.mp H; obtain ⟨⟨t323, t324, t325⟩, A30, H⟩ := H
 replace H : (spec_l1Cur_list.l0 k a1 ([] : List Int) (wrap64 (1 + t323)) s0_0 t324 t325) = some (r1, r2, r3) := H
 have A3 := zad A30; clear A30; have H' := zad H
 clear H; go_enter Try.func83, Try.ntmps83
 go_wp2_with (first | ((with_reducible refine zbf (f := 47) rfl ?_); refine zbl (some 8) rfl rfl Try.func47 (by kernel_rfl) rfl #[.pointer (some ⟨g, 0, none⟩), .int .i64 6] rfl (taac) ?_; (with_reducible refine (zcj g s0_0 s0_1 s0_2 6 t323 t324 t325 w0 _ ?side1 ?side2 A3.out).mono ?_); (case side1 => exact tael); (case side2 => exact taem); rintro e w4 ⟨rfl, hi, hb, hk⟩; refine ⟨_, rfl, ?_⟩; have n0_ := zad (zbq (taak) hk (.inl rfl)); have n1_ := zad (hb); have n2_ := zad (hi); clear HK HB HI0; have HK := n0_; have HB := n1_; have HI0 := n2_; clear n0_ n1_ n2_; (try clear hb); (try clear hb2); (try clear hk); (try clear hi)))
 go_loopg [5, 6] k (fun kq v5 v6 w' => ∃ (x5_1 : List Int) (x6_1 : Int) (x1001_1 : Int) (x1002_1 : Int), v6 = .int .i64 x6_1 ∧ Aside0 (spec_l1Cur_list.l0 kq a1 x5_1 x6_1 s0_0 x1001_1 x1002_1 = some (r1, r2, r3)) ∧ Aside0 (kq ≤ k) ∧ Aside0 (Kd.R (Kd.int .i64) 3 w' w.heap.size (fun _ => True) v5 x5_1) ∧ Aside0 (IsS51 w0 w' g s0_0 x1001_1 x1002_1) ∧ Aside0 (KeepBut w w' g none) ∧ Aside0 (Below w0.heap.size w0 w'))
 case atStart => exact ⟨(([] : List Int)), (wrap64 (1 + t323)), (t324), (t325), (taad), H', ⟨zcc _⟩, ⟨taaz⟩, ⟨taal⟩, ⟨taak⟩, ⟨taar⟩⟩
 case round =>
  clear H'
  try clear p2
  try clear c4
  obtain ⟨x5_1, x6_1, x1001_1, x1002_1, rfl, HA, HK1, HO_5, HI0, HK, HB⟩ := hrel
  cases gk with
  | zero => exact absurd HA.out (by simp [spec_l1Cur_list.l0])
  | succ k1 =>
   have H := HA.out
   clear HA; simp only [spec_l1Cur_list.l0] at H
   by_cases c5 : x6_1 > 0
   · rw [if_pos c5] at H
     have c5b0 : decide (0 < x6_1) = true := zba c5
     clear c5; replace H := zay.mp H; obtain ⟨⟨t326, t327, t328⟩, A60, H⟩ := H
     replace H : (if x5_1.length < 17592186044416 then (spec_l1Cur_list.l0 k1 a1 (x5_1 ++ [t326]) (wrap64 (x6_1 - 1)) s0_0 t327 t328) else (none)) = some (r1, r2, r3) := H
     have A6 := zad A60; clear A60; by_cases c7 : x5_1.length < 17592186044416
     · rw [if_pos c7] at H
       have LMc7 := zad c7; clear c7; obtain ⟨y329, hy329⟩ : ∃ y_ : List Int, y_ = (x5_1 ++ [t326]) := ⟨_, rfl⟩
       replace H : (spec_l1Cur_list.l0 k1 a1 y329 (wrap64 (x6_1 - 1)) s0_0 t327 t328) = some (r1, r2, r3) := by first | (rw [hy329]; with_reducible exact H) | (have H2_ := (zbb _ _).symm.trans H; rw [hy329]; with_reducible exact H2_) | (have H2_ := (zbb _ _).symm.trans H; with_reducible exact H2_) | with_reducible exact H | (rw [hy329]; exact H) | exact H
       have Ny329 := zad hy329; clear hy329; have H' := zad H
       clear H; go_wp2_with (first | ((with_reducible refine zbf (f := 47) rfl ?_); refine zbl (some 18) rfl rfl Try.func47 (by kernel_rfl) rfl #[.pointer (some ⟨g, 0, none⟩), .int .i64 (wrap64 (a1 + 1))] rfl (taac) ?_; (with_reducible refine (zcj g s0_0 x1001_1 x1002_1 (wrap64 (a1 + 1)) t326 t327 t328 w0 _ ?side1 ?side2 A6.out).mono ?_); (case side1 => exact tael); (case side2 => exact taem); rintro e w8 ⟨rfl, hi, hb, hk⟩; refine ⟨_, rfl, ?_⟩; have n0_ := zad (zbo (zbp (IsS51.apart (show IsS51 w0 _ g s0_0 x1001_1 x1002_1 from by exact taej) (taaf) (by decide)) hk (fun _ h => h.2)) (fun _ h => h.1)); have n1_ := zad (zbq (taak) hk (.inl rfl)); have n2_ := zad (hb); have n3_ := zad (hi); clear HO_5 HK HB HI0; have HO_5 := n0_; have HK := n1_; have HB := n2_; have HI0 := n3_; clear n0_ n1_ n2_ n3_; (try clear hb); (try clear hb2); (try clear hk); (try clear hi)) | ((with_reducible refine gate_builtin (b := .append) (xs := #[.tmp 14, .tmp 19]) rfl ?_); at_builtin; refine Kd.R_append (Kd.int .i64) w.heap.size rfl (.tmp 14) (.tmp 19) 22 3 (.int .i64 0) 8 rfl Try.underlying22 info3 rfl (by decide) (by omega) u5 x5_1 t326 [.int .i64 t326] (fun _ => True) (fun _ => False) rfl rfl ?aP (fun _ hk => hk.elim) ?aF ?aO (Below.refl _ _) ?aS ?aL ?_; (case aP => exact rfl); (case aF => exact (fun _ _ => trivial)); (case aO => exact (taaf)); (case aS => exact (keep_size (w := w) (g := g) (row := none) (taak))); (case aL => have := LMc7.out; omega); intro v330 w9 ho hb hg hat; rw [← Ny329.out] at ho; have n0_ := zad (IsS51.grown (taal) hg (IsS51.own_ne HI0.out HO_5.out (by decide))); have n1_ := zad (below_weaken (taar) HL.out hb); have n2_ := zad (zbq (taak) (KeepBut.of_grown hg g) (Kd.R_base2 HO_5.out)); have n3_ := zad (ho); clear HI0 HB HK HO_5; have HI0 := n0_; have HB := n1_; have HK := n2_; have HO331 := n3_; clear n0_ n1_ n2_ n3_ ho hb hg hat))
       go_roundg k1
       case measure => have := HK1.out; omega
       case rel => exact ⟨(y329), (wrap64 (x6_1 - 1)), (t327), (t328), (taad), H', ⟨taaw⟩, ⟨by (with_reducible repeat (first | apply zai | apply zaj | apply zak)); exact HO331.out⟩, ⟨taal⟩, ⟨taak⟩, ⟨taar⟩⟩
     · rw [if_neg c7] at H
       exact absurd H (taah)
   · rw [if_neg c5] at H
     have c5b0 : decide (0 < x6_1) = false := zbh c5
     clear c5; simp only [zbj, zbn] at H
     obtain ⟨rfl, rfl, rfl⟩ := H
     go_wp2
     go_ret
     exact ⟨_, taam, taaf, taal, taar, taak⟩
def spec_l1Cur_anyList.l0 : Nat → List Int → List Int → Int → Int → Option (List Int × Int × Int)
 | 0, _, _, _, _ => none
 | k + 1, x5, x1000, x1001, x1002 => (spec_l1Cur_pick.f x1000 x1001 x1002 2).bind fun bt349 => (if (x5.length : Int) < (wrap64 (8 + bt349.1)) then ((spec_l1Cur_pick.f x1000 bt349.2.1 bt349.2.2 9).bind fun bt352 => (if x5.length < 17592186044416 then (spec_l1Cur_anyList.l0 k (x5 ++ [bt352.1]) x1000 bt352.2.1 bt352.2.2) else (none))) else (some (x5, bt349.2.1, bt349.2.2)))
def spec_l1Cur_anyList.f (k : Nat) (s0_0 : List Int) (s0_1 : Int) (s0_2 : Int) (a1 : Int) : Option (List Int × Int × Int) := (spec_l1Cur_list.f k s0_0 s0_1 s0_2 a1).bind fun bt332 => ((spec_l1Cur_pick.f s0_0 bt332.2.1 bt332.2.2 14).bind fun bt337 => (if bt337.1 = 0 then ((spec_l1Cur_among.f s0_0 bt337.2.1 bt337.2.2 (([(-1), 0, 60, 61] : List Int))).bind fun bt343 => (if bt332.1.length < 17592186044416 then (some ((bt332.1 ++ [bt343.1]), bt343.2.1, bt343.2.2)) else (none))) else (if bt337.1 = 1 then (spec_l1Cur_anyList.l0 k bt332.1 s0_0 bt337.2.1 bt337.2.2) else (if bt337.1 = 2 then (some (([] : List Int), bt337.2.1, bt337.2.2)) else (some (bt332.1, bt337.2.1, bt337.2.2))))))
theorem spec_l1Cur_anyList.calls (k : Nat) (g : Nat) (s0_0 : List Int) (s0_1 : Int) (s0_2 : Int) (a1 : Int) (r1 : List Int) (r2 : Int) (r3 : Int) (w0 w : World) (hI : IsS51 w0 w g s0_0 s0_1 s0_2) (hB : Below w0.heap.size w0 w) (h : spec_l1Cur_anyList.f k s0_0 s0_1 s0_2 a1 = some (r1, r2, r3)) :
 Calls Try.prog 61 #[.pointer (some ⟨g, 0, none⟩), .int .i64 a1] w fun e w' => ∃ v0_ : Value, e = .returned (v0_) ∧ Kd.R (Kd.int .i64) 3 w' w.heap.size (fun _ => True) v0_ r1 ∧ IsS51 w0 w' g s0_0 r2 r3 ∧ Below w0.heap.size w0 w' ∧ KeepBut w w' g none := by
 have HI0 := zad hI; have HK := zad (KeepBut.refl w g none)
 have HL := zad hB.size; clear hI; have HW0 := zad hB.size; have HB := zad hB; clear hB; have H : ((spec_l1Cur_list.f k s0_0 s0_1 s0_2 a1).bind fun bt332 => ((spec_l1Cur_pick.f s0_0 bt332.2.1 bt332.2.2 14).bind fun bt337 => (if bt337.1 = 0 then ((spec_l1Cur_among.f s0_0 bt337.2.1 bt337.2.2 (([(-1), 0, 60, 61] : List Int))).bind fun bt343 => (if bt332.1.length < 17592186044416 then (some ((bt332.1 ++ [bt343.1]), bt343.2.1, bt343.2.2)) else (none))) else (if bt337.1 = 1 then (spec_l1Cur_anyList.l0 k bt332.1 s0_0 bt337.2.1 bt337.2.2) else (if bt337.1 = 2 then (some (([] : List Int), bt337.2.1, bt337.2.2)) else (some (bt332.1, bt337.2.1, bt337.2.2))))))) = some (r1, r2, r3) := h
 clear h; replace H := zay.mp H; obtain ⟨⟨t332, t335, t336⟩, A30, H⟩ := H
 replace H : ((spec_l1Cur_pick.f s0_0 t335 t336 14).bind fun bt337 => (if bt337.1 = 0 then ((spec_l1Cur_among.f s0_0 bt337.2.1 bt337.2.2 (([(-1), 0, 60, 61] : List Int))).bind fun bt343 => (if t332.length < 17592186044416 then (some ((t332 ++ [bt343.1]), bt343.2.1, bt343.2.2)) else (none))) else (if bt337.1 = 1 then (spec_l1Cur_anyList.l0 k t332 s0_0 bt337.2.1 bt337.2.2) else (if bt337.1 = 2 then (some (([] : List Int), bt337.2.1, bt337.2.2)) else (some (t332, bt337.2.1, bt337.2.2)))))) = some (r1, r2, r3) := H
 have A3 := zad A30; clear A30; replace H := zay.mp H; obtain ⟨⟨t337, t338, t339⟩, A40, H⟩ := H
 replace H : (if t337 = 0 then ((spec_l1Cur_among.f s0_0 t338 t339 (([(-1), 0, 60, 61] : List Int))).bind fun bt343 => (if t332.length < 17592186044416 then (some ((t332 ++ [bt343.1]), bt343.2.1, bt343.2.2)) else (none))) else (if t337 = 1 then (spec_l1Cur_anyList.l0 k t332 s0_0 t338 t339) else (if t337 = 2 then (some (([] : List Int), t338, t339)) else (some (t332, t338, t339))))) = some (r1, r2, r3) := H
 have A4 := zad A40; clear A40; by_cases c5 : t337 = 0
 · rw [if_pos c5] at H
   have c5b0 : (t337 == 0) = true := beq_iff_eq.mpr c5
   have c5b1 : (t337 != 0) = false := bne_eq_false_iff_eq.mpr c5
   clear c5; obtain ⟨y340, hy340⟩ : ∃ y_ : List Int, y_ = (([(-1), 0, 60, 61] : List Int)) := ⟨_, rfl⟩
   replace H : ((spec_l1Cur_among.f s0_0 t338 t339 y340).bind fun bt343 => (if t332.length < 17592186044416 then (some ((t332 ++ [bt343.1]), bt343.2.1, bt343.2.2)) else (none))) = some (r1, r2, r3) := by first | (rw [hy340]; with_reducible exact H) | (have H2_ := (zbb _ _).symm.trans H; rw [hy340]; with_reducible exact H2_) | (have H2_ := (zbb _ _).symm.trans H; with_reducible exact H2_) | with_reducible exact H | (rw [hy340]; exact H) | exact H
   have Ny340 := zad hy340; clear hy340; replace H := zay.mp H; obtain ⟨⟨t343, t344, t345⟩, A60, H⟩ := H
   replace H : (if t332.length < 17592186044416 then (some ((t332 ++ [t343]), t344, t345)) else (none)) = some (r1, r2, r3) := H
   have A6 := zad A60; clear A60; by_cases c7 : t332.length < 17592186044416
   · rw [if_pos c7] at H
     have LMc7 := zad c7; clear c7; obtain ⟨y346, hy346⟩ : ∃ y_ : List Int, y_ = (t332 ++ [t343]) := ⟨_, rfl⟩
     replace H : (some (y346, t344, t345)) = some (r1, r2, r3) := by first | (rw [hy346]; with_reducible exact H) | (have H2_ := (zbb _ _).symm.trans H; rw [hy346]; with_reducible exact H2_) | (have H2_ := (zbb _ _).symm.trans H; with_reducible exact H2_) | with_reducible exact H | (rw [hy346]; exact H) | exact H
     have Ny346 := zad hy346; clear hy346; simp only [zbj, zbn] at H
     obtain ⟨rfl, rfl, rfl⟩ := H
     go_enter Try.func61, Try.ntmps61
     go_wp2_with (first | ((with_reducible refine zbf (f := 83) rfl ?_); refine zbl (some 8) rfl rfl Try.func83 (by kernel_rfl) rfl #[.pointer (some ⟨g, 0, none⟩), .int .i64 a1] rfl (taac) ?_; (with_reducible refine (spec_l1Cur_list.calls k g s0_0 s0_1 s0_2 a1 t332 t335 t336 w0 _ ?side1 ?side2 A3.out).mono ?_); (case side1 => repeat (first | (with_reducible first | exact HI0.out | apply zcd | apply zce | apply zcf | apply zch | apply zci) | exact HI0.out)); (case side2 => repeat (first | (with_reducible first | exact HB.out | apply zag | apply zae | apply zaf | refine zah ?_ (zcg HI0.out)) | exact HB.out)); rintro e w8 ⟨v333, rfl, ho0, hi, hb, hk⟩; refine ⟨_, rfl, ?_⟩; have n0_ := zad (zbs ho0 (keep_size (w := w) (g := g) (row := none) (taak))); have n1_ := zad (zbq (taak) hk (.inl rfl)); have n2_ := zad (hb); have n3_ := zad (hi); clear HK HB HI0; have HO334 := n0_; have HK := n1_; have HB := n2_; have HI0 := n3_; clear n0_ n1_ n2_ n3_; (try clear hb); (try clear hb2); (try clear hk); (try clear hi); (try clear ho0)) | ((with_reducible refine zbf (f := 47) rfl ?_); refine zbl (some 10) rfl rfl Try.func47 (by kernel_rfl) rfl #[.pointer (some ⟨g, 0, none⟩), .int .i64 14] rfl (taac) ?_; (with_reducible refine (zcj g s0_0 t335 t336 14 t337 t338 t339 w0 _ ?side1 ?side2 A4.out).mono ?_); (case side1 => repeat (first | (with_reducible first | exact HI0.out | apply zcd | apply zce | apply zcf | apply zch | apply zci) | exact HI0.out)); (case side2 => repeat (first | (with_reducible first | exact HB.out | apply zag | apply zae | apply zaf | refine zah ?_ (zcg HI0.out)) | exact HB.out)); rintro e w9 ⟨rfl, hi, hb, hk⟩; refine ⟨_, rfl, ?_⟩; have n0_ := zad (zbo (zbp (IsS51.apart (show IsS51 w0 _ g s0_0 t335 t336 from by exact taej) (tabb) (by decide)) hk (fun _ h => h.2)) (fun _ h => h.1)); have n1_ := zad (zbq (taak) hk (.inl rfl)); have n2_ := zad (hb); have n3_ := zad (hi); clear HO334 HK HB HI0; have HO334 := n0_; have HK := n1_; have HB := n2_; have HI0 := n3_; clear n0_ n1_ n2_ n3_; (try clear hb); (try clear hb2); (try clear hk); (try clear hi)) | ((with_reducible refine gate_dst (N := 15) rfl ?_); refine Kd.R_lit (Kd.int .i64) _ 3 ?hg (N := 15) ?hd (xs := ([(-1), 0, 60, 61] : List Int)) (inner := [.int .i64 (-1), .int .i64 0, .int .i64 60, .int .i64 61]) (ok := fun _ => True) (okp := fun _ => True) ?hr ?hp (fun _ hk => hk) trivial (Below.refl _ _) (zcc _) (taah) ?_; (case hd => rfl); (case hg => rfl); (case hr => first | (go_simp; done) | (go_simp; rfl)); (case hp => exact (Reps.one (show Kd.M (Kd.int .i64) _ _ _ (-1) [.int .i64 (-1)] from rfl) (Reps.one (show Kd.M (Kd.int .i64) _ _ _ 0 [.int .i64 0] from rfl) (Reps.one (show Kd.M (Kd.int .i64) _ _ _ 60 [.int .i64 60] from rfl) (Reps.one (show Kd.M (Kd.int .i64) _ _ _ 61 [.int .i64 61] from rfl) (Reps.none _ _)))))); intro v341 w10 ho11 hb hg_ hnew_; clear hg_ hnew_; (first | rw [← Ny340.out] at ho11 | (simp only [Int.reduceToNat] at ho11; rw [← Ny340.out] at ho11)); have n0_ := zad (zby (tabb) (zca ho11) hb); have n1_ := zad (zbs (zbz ho11 (zcb (tabb))) (keep_size (w := w) (g := g) (row := none) (taak))); have n2_ := zad (IsS51.below (taal) hb); have n3_ := zad (zbq (taak) (KeepBut.of_below hb g none) (.inl rfl)); have n4_ := zad (zbe (taar) hb); clear HO334 HI0 HK HB; have HO334 := n0_; have HO342 := n1_; have HI0 := n2_; have HK := n3_; have HB := n4_; clear n0_ n1_ n2_ n3_ n4_ hb ho11; obtain ⟨Ao12, co12, eo12⟩ := zbt HO342.out; subst eo12) | ((with_reducible refine zbf (f := 62) rfl ?_); refine zbl (some 16) rfl rfl Try.func62 (by kernel_rfl) rfl #[.pointer (some ⟨g, 0, none⟩), .slice Ao12 y340.length co12] rfl (taac) ?_; (with_reducible refine (spec_l1Cur_among.calls g s0_0 t338 t339 _ _ y340 t343 t344 t345 w0 _ ?side1 ?side2 ?side3 ?side4 ?side5 A6.out).mono ?_); (case side1 => repeat (first | (with_reducible first | exact HI0.out | apply zcd | apply zce | apply zcf | apply zch | apply zci) | exact HI0.out)); (case side2 => repeat (first | (with_reducible first | exact HB.out | apply zag | apply zae | apply zaf | refine zah ?_ (zcg HI0.out)) | exact HB.out)); (case side3 => repeat (first | exact (zbd HO342.out).2.2 | (with_reducible refine zal ?_ _) | (with_reducible refine zam ?_ _) | (with_reducible refine zan ?_))); (case side4 => exact (zbd HO342.out).2.1); (case side5 => exact far_slice (IsS51.own_ne HI0.out HO342.out (by decide))); rintro e w13 ⟨rfl, hi, hb, hk⟩; refine ⟨_, rfl, ?_⟩; have n0_ := zad (zbo (zbp (IsS51.apart (show IsS51 w0 _ g s0_0 t338 t339 from by exact taej) (tabb) (by decide)) hk (fun _ h => h.2)) (fun _ h => h.1)); have n1_ := zad (zbo (zbp (IsS51.apart (show IsS51 w0 _ g s0_0 t338 t339 from by exact taej) (tacq) (by decide)) hk (fun _ h => h.2)) (fun _ h => h.1)); have n2_ := zad (zbq (taak) hk (.inl rfl)); have n3_ := zad (hb); have n4_ := zad (hi); clear HO334 HO342 HK HB HI0; have HO334 := n0_; have HO342 := n1_; have HK := n2_; have HB := n3_; have HI0 := n4_; clear n0_ n1_ n2_ n3_ n4_; (try clear hb); (try clear hb2); (try clear hk); (try clear hi)) | ((with_reducible refine gate_builtin (b := .append) (xs := #[.tmp 13, .tmp 17]) rfl ?_); at_builtin; refine Kd.R_append (Kd.int .i64) w.heap.size rfl (.tmp 13) (.tmp 17) 22 3 (.int .i64 0) 8 rfl Try.underlying22 info3 rfl (by decide) (by omega) v333 t332 t343 [.int .i64 t343] (fun k_ => some k_ ≠ (.slice Ao12 y340.length co12 : Value).ownBlock) (fun _ => False) rfl rfl ?aP (fun _ hk => hk.elim) ?aF ?aO (Below.refl _ _) ?aS ?aL ?_; (case aP => exact rfl); (case aF => exact (fun k_ hk => Kd.fresh' (zcb (tacq)) k_ hk)); (case aO => exact (by (with_reducible repeat (first | apply zai | apply zaj | apply zak)); exact zbo HO334.out (fun _ hk => hk.2))); (case aS => exact (keep_size (w := w) (g := g) (row := none) (taak))); (case aL => have := LMc7.out; omega); intro v347 w14 ho hb hg hat; rw [← Ny346.out] at ho; have n0_ := zad (IsS51.grown (taal) hg (IsS51.own_ne HI0.out HO334.out (by decide))); have n1_ := zad (Kd.R_after (ok := (fun _ => True)) (tacq) hg hat); have n2_ := zad (below_weaken (taar) HL.out hb); have n3_ := zad (zbq (taak) (KeepBut.of_grown hg g) (Kd.R_base2 HO334.out)); have n4_ := zad (ho); clear HI0 HO342 HB HK HO334; have HI0 := n0_; have HO342 := n1_; have HB := n2_; have HK := n3_; have HO348 := n4_; clear n0_ n1_ n2_ n3_ n4_ ho hb hg hat))
     go_ret
     exact ⟨_, taam, by (with_reducible repeat (first | apply zai | apply zaj | apply zak)); exact zbo HO348.out (fun _ hk => trivial), taal, taar, taak⟩
   · rw [if_neg c7] at H
     exact absurd H (taah)
 · rw [if_neg c5] at H
   have c5b0 : (t337 == 0) = false := zbm.mpr c5
   have c5b1 : (t337 != 0) = true := bne_iff_ne.mpr c5
   by_cases c15 : t337 = 1
   · rw [if_pos c15] at H
     have c15b0 : (t337 == 1) = true := beq_iff_eq.mpr c15
     have c15b1 : (t337 != 1) = false := bne_eq_false_iff_eq.mpr c15
     clear c15; have H' := zad H
     clear H; go_enter Try.func61, Try.ntmps61
     go_wp2_with (first | ((with_reducible refine zbf (f := 83) rfl ?_); refine zbl (some 8) rfl rfl Try.func83 (by kernel_rfl) rfl #[.pointer (some ⟨g, 0, none⟩), .int .i64 a1] rfl (taac) ?_; (with_reducible refine (spec_l1Cur_list.calls k g s0_0 s0_1 s0_2 a1 t332 t335 t336 w0 _ ?side1 ?side2 A3.out).mono ?_); (case side1 => repeat (first | (with_reducible first | exact HI0.out | apply zcd | apply zce | apply zcf | apply zch | apply zci) | exact HI0.out)); (case side2 => repeat (first | (with_reducible first | exact HB.out | apply zag | apply zae | apply zaf | refine zah ?_ (zcg HI0.out)) | exact HB.out)); rintro e w16 ⟨v333, rfl, ho0, hi, hb, hk⟩; refine ⟨_, rfl, ?_⟩; have n0_ := zad (zbs ho0 (keep_size (w := w) (g := g) (row := none) (taak))); have n1_ := zad (zbq (taak) hk (.inl rfl)); have n2_ := zad (hb); have n3_ := zad (hi); clear HK HB HI0; have HO334 := n0_; have HK := n1_; have HB := n2_; have HI0 := n3_; clear n0_ n1_ n2_ n3_; (try clear hb); (try clear hb2); (try clear hk); (try clear hi); (try clear ho0)) | ((with_reducible refine zbf (f := 47) rfl ?_); refine zbl (some 10) rfl rfl Try.func47 (by kernel_rfl) rfl #[.pointer (some ⟨g, 0, none⟩), .int .i64 14] rfl (taac) ?_; (with_reducible refine (zcj g s0_0 t335 t336 14 t337 t338 t339 w0 _ ?side1 ?side2 A4.out).mono ?_); (case side1 => repeat (first | (with_reducible first | exact HI0.out | apply zcd | apply zce | apply zcf | apply zch | apply zci) | exact HI0.out)); (case side2 => repeat (first | (with_reducible first | exact HB.out | apply zag | apply zae | apply zaf | refine zah ?_ (zcg HI0.out)) | exact HB.out)); rintro e w17 ⟨rfl, hi, hb, hk⟩; refine ⟨_, rfl, ?_⟩; have n0_ := zad (zbo (zbp (IsS51.apart (show IsS51 w0 _ g s0_0 t335 t336 from by exact taej) (tabb) (by decide)) hk (fun _ h => h.2)) (fun _ h => h.1)); have n1_ := zad (zbq (taak) hk (.inl rfl)); have n2_ := zad (hb); have n3_ := zad (hi); clear HO334 HK HB HI0; have HO334 := n0_; have HK := n1_; have HB := n2_; have HI0 := n3_; clear n0_ n1_ n2_ n3_; (try clear hb); (try clear hb2); (try clear hk); (try clear hi)))
     go_loopg [5] k (fun kq v5 w' => ∃ (x5_1 : List Int) (x1001_1 : Int) (x1002_1 : Int), Aside0 (spec_l1Cur_anyList.l0 kq x5_1 s0_0 x1001_1 x1002_1 = some (r1, r2, r3)) ∧ Aside0 (kq ≤ k) ∧ Aside0 (Kd.R (Kd.int .i64) 3 w' w.heap.size (fun _ => True) v5 x5_1) ∧ Aside0 (IsS51 w0 w' g s0_0 x1001_1 x1002_1) ∧ Aside0 (KeepBut w w' g none) ∧ Aside0 (Below w0.heap.size w0 w'))
     case atStart => exact ⟨(t332), (t338), (t339), H', ⟨zcc _⟩, ⟨tabb⟩, ⟨taal⟩, ⟨taak⟩, ⟨taar⟩⟩
     case round =>
      clear H'
      try clear c1
      try clear p2
      try clear c4
      try clear c5
      try clear c5b0
      try clear c5b1
      try clear c6
      try clear c7
      try clear c8
      try clear c15
      try clear c15b0
      try clear c15b1
      obtain ⟨x5_1, x1001_1, x1002_1, HA, HK1, HO_5, HI0, HK, HB⟩ := hrel
      cases gk with
      | zero => exact absurd HA.out (by simp [spec_l1Cur_anyList.l0])
      | succ k1 =>
       have H := HA.out
       clear HA; simp only [spec_l1Cur_anyList.l0] at H
       replace H := zay.mp H; obtain ⟨⟨t349, t350, t351⟩, A180, H⟩ := H
       replace H : (if (x5_1.length : Int) < (wrap64 (8 + t349)) then ((spec_l1Cur_pick.f s0_0 t350 t351 9).bind fun bt352 => (if x5_1.length < 17592186044416 then (spec_l1Cur_anyList.l0 k1 (x5_1 ++ [bt352.1]) s0_0 bt352.2.1 bt352.2.2) else (none))) else (some (x5_1, t350, t351))) = some (r1, r2, r3) := H
       have A18 := zad A180; clear A180; by_cases c19 : (x5_1.length : Int) < (wrap64 (8 + t349))
       · rw [if_pos c19] at H
         have c19b0 : decide ((x5_1.length : Int) < (wrap64 (8 + t349))) = true := zba c19
         clear c19; replace H := zay.mp H; obtain ⟨⟨t352, t353, t354⟩, A200, H⟩ := H
         replace H : (if x5_1.length < 17592186044416 then (spec_l1Cur_anyList.l0 k1 (x5_1 ++ [t352]) s0_0 t353 t354) else (none)) = some (r1, r2, r3) := H
         have A20 := zad A200; clear A200; by_cases c21 : x5_1.length < 17592186044416
         · rw [if_pos c21] at H
           have LMc21 := zad c21; clear c21; obtain ⟨y355, hy355⟩ : ∃ y_ : List Int, y_ = (x5_1 ++ [t352]) := ⟨_, rfl⟩
           replace H : (spec_l1Cur_anyList.l0 k1 y355 s0_0 t353 t354) = some (r1, r2, r3) := by first | (rw [hy355]; with_reducible exact H) | (have H2_ := (zbb _ _).symm.trans H; rw [hy355]; with_reducible exact H2_) | (have H2_ := (zbb _ _).symm.trans H; with_reducible exact H2_) | with_reducible exact H | (rw [hy355]; exact H) | exact H
           have Ny355 := zad hy355; clear hy355; have H' := zad H
           clear H; obtain ⟨Ao22, co22, eo22⟩ := zbt HO_5.out
           subst eo22; go_wp2_with (first | ((with_reducible refine zbf (f := 47) rfl ?_); refine zbl (some 24) rfl rfl Try.func47 (by kernel_rfl) rfl #[.pointer (some ⟨g, 0, none⟩), .int .i64 2] rfl (taac) ?_; (with_reducible refine (zcj g s0_0 x1001_1 x1002_1 2 t349 t350 t351 w0 _ ?side1 ?side2 A18.out).mono ?_); (case side1 => repeat (first | (with_reducible first | exact HI0.out | apply zcd | apply zce | apply zcf | apply zch | apply zci) | exact HI0.out)); (case side2 => repeat (first | (with_reducible first | exact HB.out | apply zag | apply zae | apply zaf | refine zah ?_ (zcg HI0.out)) | exact HB.out)); rintro e w23 ⟨rfl, hi, hb, hk⟩; refine ⟨_, rfl, ?_⟩; have n0_ := zad (zbo (zbp (IsS51.apart (show IsS51 w0 _ g s0_0 x1001_1 x1002_1 from by exact taej) (taaf) (by decide)) hk (fun _ h => h.2)) (fun _ h => h.1)); have n1_ := zad (zbq (taak) hk (.inl rfl)); have n2_ := zad (hb); have n3_ := zad (hi); clear HO_5 HK HB HI0; have HO_5 := n0_; have HK := n1_; have HB := n2_; have HI0 := n3_; clear n0_ n1_ n2_ n3_; (try clear hb); (try clear hb2); (try clear hk); (try clear hi)) | ((with_reducible refine zbf (f := 47) rfl ?_); refine zbl (some 29) rfl rfl Try.func47 (by kernel_rfl) rfl #[.pointer (some ⟨g, 0, none⟩), .int .i64 9] rfl (taac) ?_; (with_reducible refine (zcj g s0_0 t350 t351 9 t352 t353 t354 w0 _ ?side1 ?side2 A20.out).mono ?_); (case side1 => repeat (first | (with_reducible first | exact HI0.out | apply zcd | apply zce | apply zcf | apply zch | apply zci) | exact HI0.out)); (case side2 => repeat (first | (with_reducible first | exact HB.out | apply zag | apply zae | apply zaf | refine zah ?_ (zcg HI0.out)) | exact HB.out)); rintro e w24 ⟨rfl, hi, hb, hk⟩; refine ⟨_, rfl, ?_⟩; have n0_ := zad (zbo (zbp (IsS51.apart (show IsS51 w0 _ g s0_0 t350 t351 from by exact taej) (taaf) (by decide)) hk (fun _ h => h.2)) (fun _ h => h.1)); have n1_ := zad (zbq (taak) hk (.inl rfl)); have n2_ := zad (hb); have n3_ := zad (hi); clear HO_5 HK HB HI0; have HO_5 := n0_; have HK := n1_; have HB := n2_; have HI0 := n3_; clear n0_ n1_ n2_ n3_; (try clear hb); (try clear hb2); (try clear hk); (try clear hi)) | ((with_reducible refine gate_builtin (b := .append) (xs := #[.tmp 27, .tmp 30]) rfl ?_); at_builtin; refine Kd.R_append (Kd.int .i64) w.heap.size rfl (.tmp 27) (.tmp 30) 22 3 (.int .i64 0) 8 rfl Try.underlying22 info3 rfl (by decide) (by omega) (.slice Ao22 x5_1.length co22) x5_1 t352 [.int .i64 t352] (fun _ => True) (fun _ => False) rfl rfl ?aP (fun _ hk => hk.elim) ?aF ?aO (Below.refl _ _) ?aS ?aL ?_; (case aP => exact rfl); (case aF => exact (fun _ _ => trivial)); (case aO => exact (taaf)); (case aS => exact (keep_size (w := w) (g := g) (row := none) (taak))); (case aL => have := LMc21.out; omega); intro v356 w25 ho hb hg hat; rw [← Ny355.out] at ho; have n0_ := zad (IsS51.grown (taal) hg (IsS51.own_ne HI0.out HO_5.out (by decide))); have n1_ := zad (below_weaken (taar) HL.out hb); have n2_ := zad (zbq (taak) (KeepBut.of_grown hg g) (Kd.R_base2 HO_5.out)); have n3_ := zad (ho); clear HI0 HB HK HO_5; have HI0 := n0_; have HB := n1_; have HK := n2_; have HO357 := n3_; clear n0_ n1_ n2_ n3_ ho hb hg hat))
           go_roundg k1
           case measure => have := HK1.out; omega
           case rel => exact ⟨(y355), (t353), (t354), H', ⟨taaw⟩, ⟨by (with_reducible repeat (first | apply zai | apply zaj | apply zak)); exact HO357.out⟩, ⟨taal⟩, ⟨taak⟩, ⟨taar⟩⟩
         · rw [if_neg c21] at H
           exact absurd H (taah)
       · rw [if_neg c19] at H
         have c19b0 : decide ((x5_1.length : Int) < (wrap64 (8 + t349))) = false := zbh c19
         clear c19; simp only [zbj, zbn] at H
         obtain ⟨rfl, rfl, rfl⟩ := H
         obtain ⟨Ao26, co26, eo26⟩ := zbt HO_5.out
         subst eo26; go_wp2_with (first | ((with_reducible refine zbf (f := 47) rfl ?_); refine zbl (some 24) rfl rfl Try.func47 (by kernel_rfl) rfl #[.pointer (some ⟨g, 0, none⟩), .int .i64 2] rfl (taac) ?_; (with_reducible refine (zcj g s0_0 x1001_1 x1002_1 2 t349 t350 t351 w0 _ ?side1 ?side2 A18.out).mono ?_); (case side1 => exact tael); (case side2 => exact taem); rintro e w27 ⟨rfl, hi, hb, hk⟩; refine ⟨_, rfl, ?_⟩; have n0_ := zad (zbo (zbp (IsS51.apart (show IsS51 w0 _ g s0_0 x1001_1 x1002_1 from by exact taej) (taaf) (by decide)) hk (fun _ h => h.2)) (fun _ h => h.1)); have n1_ := zad (zbq (taak) hk (.inl rfl)); have n2_ := zad (hb); have n3_ := zad (hi); clear HO_5 HK HB HI0; have HO_5 := n0_; have HK := n1_; have HB := n2_; have HI0 := n3_; clear n0_ n1_ n2_ n3_; (try clear hb); (try clear hb2); (try clear hk); (try clear hi)))
         go_ret
         exact ⟨_, taam, taaf, taal, taar, taak⟩
   · rw [if_neg c15] at H
     have c15b0 : (t337 == 1) = false := zbm.mpr c15
     have c15b1 : (t337 != 1) = true := bne_iff_ne.mpr c15
     by_cases c28 : t337 = 2
     · rw [if_pos c28] at H
       have c28b0 : (t337 == 2) = true := beq_iff_eq.mpr c28
       have c28b1 : (t337 != 2) = false := bne_eq_false_iff_eq.mpr c28
       clear c28; simp only [zbj, zbn] at H
       obtain ⟨rfl, rfl, rfl⟩ := H
       go_enter Try.func61, Try.ntmps61
       go_wp2_with (first | ((with_reducible refine zbf (f := 83) rfl ?_); refine zbl (some 8) rfl rfl Try.func83 (by kernel_rfl) rfl #[.pointer (some ⟨g, 0, none⟩), .int .i64 a1] rfl (taac) ?_; (with_reducible refine (spec_l1Cur_list.calls k g s0_0 s0_1 s0_2 a1 t332 t335 t336 w0 _ ?side1 ?side2 A3.out).mono ?_); (case side1 => repeat (first | (with_reducible first | exact HI0.out | apply zcd | apply zce | apply zcf | apply zch | apply zci) | exact HI0.out)); (case side2 => repeat (first | (with_reducible first | exact HB.out | apply zag | apply zae | apply zaf | refine zah ?_ (zcg HI0.out)) | exact HB.out)); rintro e w29 ⟨v333, rfl, ho0, hi, hb, hk⟩; refine ⟨_, rfl, ?_⟩; have n0_ := zad (zbs ho0 (keep_size (w := w) (g := g) (row := none) (taak))); have n1_ := zad (zbq (taak) hk (.inl rfl)); have n2_ := zad (hb); have n3_ := zad (hi); clear HK HB HI0; have HO334 := n0_; have HK := n1_; have HB := n2_; have HI0 := n3_; clear n0_ n1_ n2_ n3_; (try clear hb); (try clear hb2); (try clear hk); (try clear hi); (try clear ho0)) | ((with_reducible refine zbf (f := 47) rfl ?_); refine zbl (some 10) rfl rfl Try.func47 (by kernel_rfl) rfl #[.pointer (some ⟨g, 0, none⟩), .int .i64 14] rfl (taac) ?_; (with_reducible refine (zcj g s0_0 t335 t336 14 t337 t338 t339 w0 _ ?side1 ?side2 A4.out).mono ?_); (case side1 => repeat (first | (with_reducible first | exact HI0.out | apply zcd | apply zce | apply zcf | apply zch | apply zci) | exact HI0.out)); (case side2 => repeat (first | (with_reducible first | exact HB.out | apply zag | apply zae | apply zaf | refine zah ?_ (zcg HI0.out)) | exact HB.out)); rintro e w30 ⟨rfl, hi, hb, hk⟩; refine ⟨_, rfl, ?_⟩; have n0_ := zad (zbo (zbp (IsS51.apart (show IsS51 w0 _ g s0_0 t335 t336 from by exact taej) (tabb) (by decide)) hk (fun _ h => h.2)) (fun _ h => h.1)); have n1_ := zad (zbq (taak) hk (.inl rfl)); have n2_ := zad (hb); have n3_ := zad (hi); clear HO334 HK HB HI0; have HO334 := n0_; have HK := n1_; have HB := n2_; have HI0 := n3_; clear n0_ n1_ n2_ n3_; (try clear hb); (try clear hb2); (try clear hk); (try clear hi)))
       go_ret
       exact ⟨_, taam, taaz, taal, taar, taak⟩
     · rw [if_neg c28] at H
       have c28b0 : (t337 == 2) = false := zbm.mpr c28
       have c28b1 : (t337 != 2) = true := bne_iff_ne.mpr c28
       simp only [zbj, zbn] at H
       obtain ⟨rfl, rfl, rfl⟩ := H
       go_enter Try.func61, Try.ntmps61
       go_wp2_with (first | ((with_reducible refine zbf (f := 83) rfl ?_); refine zbl (some 8) rfl rfl Try.func83 (by kernel_rfl) rfl #[.pointer (some ⟨g, 0, none⟩), .int .i64 a1] rfl (taac) ?_; (with_reducible refine (spec_l1Cur_list.calls k g s0_0 s0_1 s0_2 a1 t332 t335 t336 w0 _ ?side1 ?side2 A3.out).mono ?_); (case side1 => repeat (first | (with_reducible first | exact HI0.out | apply zcd | apply zce | apply zcf | apply zch | apply zci) | exact HI0.out)); (case side2 => repeat (first | (with_reducible first | exact HB.out | apply zag | apply zae | apply zaf | refine zah ?_ (zcg HI0.out)) | exact HB.out)); rintro e w31 ⟨v333, rfl, ho0, hi, hb, hk⟩; refine ⟨_, rfl, ?_⟩; have n0_ := zad (zbs ho0 (keep_size (w := w) (g := g) (row := none) (taak))); have n1_ := zad (zbq (taak) hk (.inl rfl)); have n2_ := zad (hb); have n3_ := zad (hi); clear HK HB HI0; have HO334 := n0_; have HK := n1_; have HB := n2_; have HI0 := n3_; clear n0_ n1_ n2_ n3_; (try clear hb); (try clear hb2); (try clear hk); (try clear hi); (try clear ho0)) | ((with_reducible refine zbf (f := 47) rfl ?_); refine zbl (some 10) rfl rfl Try.func47 (by kernel_rfl) rfl #[.pointer (some ⟨g, 0, none⟩), .int .i64 14] rfl (taac) ?_; (with_reducible refine (zcj g s0_0 t335 t336 14 t337 t338 t339 w0 _ ?side1 ?side2 A4.out).mono ?_); (case side1 => repeat (first | (with_reducible first | exact HI0.out | apply zcd | apply zce | apply zcf | apply zch | apply zci) | exact HI0.out)); (case side2 => repeat (first | (with_reducible first | exact HB.out | apply zag | apply zae | apply zaf | refine zah ?_ (zcg HI0.out)) | exact HB.out)); rintro e w32 ⟨rfl, hi, hb, hk⟩; refine ⟨_, rfl, ?_⟩; have n0_ := zad (zbo (zbp (IsS51.apart (show IsS51 w0 _ g s0_0 t335 t336 from by exact taej) (tabb) (by decide)) hk (fun _ h => h.2)) (fun _ h => h.1)); have n1_ := zad (zbq (taak) hk (.inl rfl)); have n2_ := zad (hb); have n3_ := zad (hi); clear HO334 HK HB HI0; have HO334 := n0_; have HK := n1_; have HB := n2_; have HI0 := n3_; clear n0_ n1_ n2_ n3_; (try clear hb); (try clear hb2); (try clear hk); (try clear hi)))
       go_ret
       exact ⟨_, taam, tabb, taal, taar, taak⟩
def spec_l1Own.f (l0 : List Int) : Option (List Int) := (some (([] : List Int) : List Int)).bind fun y106 => (if y106.length + l0.length < 17592186044416 then (some (y106 ++ l0)) else (none))
theorem spec_l1Own.calls (A0 : Option Addr) (c0 : Nat) (l0 : List Int) (r : List Int) (w : World) (hr0 : Kd.C (Kd.int .i64) w A0 l0.length l0) (hc0 : l0.length ≤ c0) (h : spec_l1Own.f l0 = some r) :
 Calls Try.prog 69 #[.slice A0 l0.length c0] w fun e w' => ∃ v0_ : Value, e = .returned (v0_) ∧ Kd.R (Kd.int .i64) 3 w' w.heap.size (fun _ => True) v0_ r ∧ Below w.heap.size w w' := by
 have HR0 := zad hr0; have HC0 := zad hc0; clear hr0 hc0; have HB := zad (Below.refl w.heap.size w)
 have H : ((some (([] : List Int) : List Int)).bind fun y106 => (if y106.length + l0.length < 17592186044416 then (some (y106 ++ l0)) else (none))) = some r := h
 clear h; obtain ⟨y106, hy106⟩ : ∃ y_ : List Int, y_ = (([] : List Int)) := ⟨_, rfl⟩
 replace H : (if y106.length + l0.length < 17592186044416 then (some (y106 ++ l0)) else (none)) = some r := by first | (rw [hy106]; with_reducible exact H) | (have H2_ := (zbb _ _).symm.trans H; rw [hy106]; with_reducible exact H2_) | (have H2_ := (zbb _ _).symm.trans H; with_reducible exact H2_) | with_reducible exact H | (rw [hy106]; exact H) | exact H
 have Ny106 := zad hy106; clear hy106; by_cases c2 : y106.length + l0.length < 17592186044416
 · rw [if_pos c2] at H
   have LMc2 := zad c2; clear c2; obtain ⟨y109, hy109⟩ : ∃ y_ : List Int, y_ = (y106 ++ l0) := ⟨_, rfl⟩
   replace H : (some y109) = some r := by first | (rw [hy109]; with_reducible exact H) | (have H2_ := (zbb _ _).symm.trans H; rw [hy109]; with_reducible exact H2_) | (have H2_ := (zbb _ _).symm.trans H; with_reducible exact H2_) | with_reducible exact H | (rw [hy109]; exact H) | exact H
   have Ny109 := zad hy109; clear hy109; obtain rfl := zbc H
   go_enter Try.func69, Try.ntmps69
   go_wp2_with (first | ((with_reducible refine gate_dst (N := 3) rfl ?_); refine Kd.R_lit (Kd.int .i64) _ 3 ?hg (N := 3) ?hd (xs := ([] : List Int)) (inner := []) (ok := fun _ => True) (okp := fun _ => True) ?hr ?hp (fun _ hk => hk) trivial (Below.refl _ _) (zcc _) (taah) ?_; (case hd => rfl); (case hg => rfl); (case hr => first | (go_simp; done) | (go_simp; rfl)); (case hp => exact (Reps.none _ _)); intro v107 w3 ho4 hb hg_ hnew_; clear hg_ hnew_; (first | rw [← Ny106.out] at ho4 | (simp only [Int.reduceToNat] at ho4; rw [← Ny106.out] at ho4)); have n0_ := zad (zbs ho4 (zbi (taaa))); have n1_ := zad (zbe (taaa) hb); clear HB; have HO108 := n0_; have HB := n1_; clear n0_ n1_ hb ho4) | ((with_reducible refine gate_builtin (b := .append) (xs := #[.tmp 3, .tmp 4]) rfl ?_); at_builtin; refine Kd.R_append_rows (Kd.int .i64) (w0 := w) w.heap.size rfl (.tmp 3) (.tmp 4) 22 3 (.int .i64 0) 8 rfl Try.underlying22 info3 rfl (by decide) (by omega) v107 y106 l0 _ _ _ (fun _ => True) (fun _ => False) rfl rfl ?aO ?aR (fun _ _ h => h) (fun _ h => h.elim) ?aF ?aB ?aS ?aL ?_; (case aR => repeat (first | exact (Kd.C_below HR0.out HB.out) | (with_reducible refine zal ?_ _) | (with_reducible refine zam ?_ _) | (with_reducible refine zan ?_))); (case aB => exact (taaa)); (case aF => exact (fun _ _ => trivial)); (case aO => exact (by (with_reducible repeat (first | apply zai | apply zaj | apply zak)); exact HO108.out)); (case aS => exact (zbi (taaa))); (case aL => have := LMc2.out; omega); intro v110 w5 ho hb hg hat; rw [← Ny109.out] at ho; have n0_ := zad (hb); have n1_ := zad (ho); clear HB HO108; have HB := n0_; have HO111 := n1_; clear n0_ n1_ ho hb hg hat))
   go_ret
   exact ⟨_, taam, by (with_reducible repeat (first | apply zai | apply zaj | apply zak)); exact HO111.out, taaa⟩
 · rw [if_neg c2] at H
   exact absurd H (taah)
mutual
def spec_l1Cur_fitting.l0 : Nat → List Int → List Int → Int → List Int → Int → Int → Option (List Int × List Int × Int × Int)
 | 0, _, _, _, _, _, _ => none
 | k + 1, x6, x7, x8, x1000, x1001, x1002 => if x8 > 0 then (spec_l1Cur_fitting.j1 k x6 x7 x8 (decide ((x7.length : Int) > 1)) x1000 x1001 x1002) else (spec_l1Cur_fitting.j1 k x6 x7 x8 false x1000 x1001 x1002)
def spec_l1Cur_fitting.j1 : Nat → List Int → List Int → Int → Bool → List Int → Int → Int → Option (List Int × List Int × Int × Int)
 | 0, _, _, _, _, _, _, _ => none
 | k + 1, x6, x7, x8, x30, x1000, x1001, x1002 => if x30 = true then ((spec_l1Cur_pick.f x1000 x1001 x1002 (x7.length : Int)).bind fun bt380 => ((spec_l1Cur_pick.f x1000 bt380.2.1 bt380.2.2 (x7.length : Int)).bind fun bt383 => (if 0 ≤ bt380.1 then (if bt380.1 < (x7.length : Int) then (if (rd x7 bt380.1) > 0 then (if 0 ≤ bt383.1 then (if bt383.1 < (x7.length : Int) then (if (rd x7 bt380.1) > (rd x7 bt383.1) then ((some (x7.set (bt380.1 : Int).toNat (wrap64 ((rd x7 bt380.1) - 1)) : List Int)).bind fun y390 => (spec_l1Cur_fitting.l0 k x6 (y390.set (bt383.1 : Int).toNat (wrap64 ((rd y390 bt383.1) + 1))) (wrap64 (x8 - 1)) x1000 bt383.2.1 bt383.2.2)) else ((spec_l1Cur_one.f x1000 bt383.2.1 bt383.2.2 4).bind fun bt393 => (if bt393.1 = true then ((some (x7.set (bt380.1 : Int).toNat (wrap64 ((rd x7 bt380.1) - 1)) : List Int)).bind fun y397 => (spec_l1Cur_fitting.l0 k x6 (y397.set (bt383.1 : Int).toNat (wrap64 ((rd y397 bt383.1) + 1))) (wrap64 (x8 - 1)) x1000 bt393.2.1 bt393.2.2)) else (spec_l1Cur_fitting.l0 k x6 x7 (wrap64 (x8 - 1)) x1000 bt393.2.1 bt393.2.2)))) else (none)) else (none)) else (spec_l1Cur_fitting.l0 k x6 x7 (wrap64 (x8 - 1)) x1000 bt383.2.1 bt383.2.2)) else (none)) else (none)))) else ((spec_l1Cur_one.f x1000 x1001 x1002 5).bind fun bt377 => (if bt377.1 = true then (some (x6, x7, bt377.2.1, bt377.2.2)) else (some (x7, x6, bt377.2.1, bt377.2.2))))
end
def spec_l1Cur_fitting.f (k : Nat) (s0_0 : List Int) (s0_1 : Int) (s0_2 : Int) (a1 : Int) : Option (List Int × List Int × Int × Int) := (spec_l1Cur_anyList.f k s0_0 s0_1 s0_2 a1).bind fun bt358 => ((spec_l1Cur_one.f s0_0 bt358.2.1 bt358.2.2 5).bind fun bt363 => (if bt363.1 = true then ((spec_l1Cur_anyList.f k s0_0 bt363.2.1 bt363.2.2 a1).bind fun bt366 => (some (bt366.1, bt358.1, bt366.2.1, bt366.2.2))) else ((spec_l1Own.f bt358.1).bind fun t371 => ((spec_l1Cur_pick.f s0_0 bt363.2.1 bt363.2.2 12).bind fun bt374 => (spec_l1Cur_fitting.l0 k bt358.1 t371 bt374.1 s0_0 bt374.2.1 bt374.2.2)))))
def spec_l1Cur_fitting.T9 : Bool × List (List Nat × List Nat) := (true, [([], []), ([], []), ([0, 1], [0, 1]), ([2], [2]), ([3], [3]), ([4], [4]), ([5], [5]), ([5], [5]), ([6, 7, 5], [5, 6, 7]), ([8, 5], [5, 8]), ([5], [5]), ([5], [5]), ([10, 11, 5], [5, 10, 11]), ([12, 5], [5, 12]), ([9, 13, 5], [5, 9, 13]), ([14, 5, 5], [5, 14]), ([15], [15]), ([16, 15, 15], [15, 16]), ([15, 17, 5], [5, 15, 17]), ([5, 18], [5, 18])])
def spec_l1Cur_fitting.B9 : List Nat := [0, 0, 3, 7, 15, 31, 63, 63, 255, 511, 63, 63, 3135, 7231, 16383, 32767, 65535, 131071, 262143, 524287]
theorem spec_l1Cur_fitting.tab9 : rtab .any (opsOf Try.f45 9) = spec_l1Cur_fitting.T9 := by kernel_rfl
theorem spec_l1Cur_fitting.bits9 : waitsOk spec_l1Cur_fitting.T9.2 spec_l1Cur_fitting.B9 = true := by kernel_rfl
theorem spec_l1Cur_fitting.calls (k : Nat) (g : Nat) (s0_0 : List Int) (s0_1 : Int) (s0_2 : Int) (a1 : Int) (r1 : List Int) (r2 : List Int) (r3 : Int) (r4 : Int) (w0 w : World) (hI : IsS51 w0 w g s0_0 s0_1 s0_2) (hB : Below w0.heap.size w0 w) (h : spec_l1Cur_fitting.f k s0_0 s0_1 s0_2 a1 = some (r1, r2, r3, r4)) :
 Calls Try.prog 45 #[.pointer (some ⟨g, 0, none⟩), .int .i64 a1] w fun e w' => ∃ v0_ v1_ : Value, e = .returned (.tuple #[v0_, v1_]) ∧ Kd.R (Kd.int .i64) 3 w' w.heap.size (fun k_ => some k_ ≠ (v1_ : Value).ownBlock) v0_ r1 ∧ Kd.R (Kd.int .i64) 3 w' w.heap.size (fun k_ => some k_ ≠ (v0_ : Value).ownBlock) v1_ r2 ∧ IsS51 w0 w' g s0_0 r3 r4 ∧ Below w0.heap.size w0 w' ∧ KeepBut w w' g none := by
 have HI0 := zad hI; have HK := zad (KeepBut.refl w g none)
 have HL := zad hB.size; clear hI; have HW0 := zad hB.size; have HB := zad hB; clear hB; have H : ((spec_l1Cur_anyList.f k s0_0 s0_1 s0_2 a1).bind fun bt358 => ((spec_l1Cur_one.f s0_0 bt358.2.1 bt358.2.2 5).bind fun bt363 => (if bt363.1 = true then ((spec_l1Cur_anyList.f k s0_0 bt363.2.1 bt363.2.2 a1).bind fun bt366 => (some (bt366.1, bt358.1, bt366.2.1, bt366.2.2))) else ((spec_l1Own.f bt358.1).bind fun t371 => ((spec_l1Cur_pick.f s0_0 bt363.2.1 bt363.2.2 12).bind fun bt374 => (spec_l1Cur_fitting.l0 k bt358.1 t371 bt374.1 s0_0 bt374.2.1 bt374.2.2)))))) = some (r1, r2, r3, r4) := h
 clear h; replace H := zay.mp H; obtain ⟨⟨t358, t361, t362⟩, A30, H⟩ := H
 replace H : ((spec_l1Cur_one.f s0_0 t361 t362 5).bind fun bt363 => (if bt363.1 = true then ((spec_l1Cur_anyList.f k s0_0 bt363.2.1 bt363.2.2 a1).bind fun bt366 => (some (bt366.1, t358, bt366.2.1, bt366.2.2))) else ((spec_l1Own.f t358).bind fun t371 => ((spec_l1Cur_pick.f s0_0 bt363.2.1 bt363.2.2 12).bind fun bt374 => (spec_l1Cur_fitting.l0 k t358 t371 bt374.1 s0_0 bt374.2.1 bt374.2.2))))) = some (r1, r2, r3, r4) := H
 have A3 := zad A30; clear A30; replace H := zay.mp H; obtain ⟨⟨t363, t364, t365⟩, A40, H⟩ := H
 replace H : (if t363 = true then ((spec_l1Cur_anyList.f k s0_0 t364 t365 a1).bind fun bt366 => (some (bt366.1, t358, bt366.2.1, bt366.2.2))) else ((spec_l1Own.f t358).bind fun t371 => ((spec_l1Cur_pick.f s0_0 t364 t365 12).bind fun bt374 => (spec_l1Cur_fitting.l0 k t358 t371 bt374.1 s0_0 bt374.2.1 bt374.2.2)))) = some (r1, r2, r3, r4) := H
 have A4 := zad A40; clear A40; by_cases c5 : t363 = true
 · subst c5
   have H1 : ((spec_l1Cur_anyList.f k s0_0 t364 t365 a1).bind fun bt366 => (some (bt366.1, t358, bt366.2.1, bt366.2.2))) = some (r1, r2, r3, r4) := by rw [if_pos rfl] at H; exact H
   clear H; have H := H1; clear H1; replace H := zay.mp H; obtain ⟨⟨t366, t369, t370⟩, A60, H⟩ := H
   replace H : (some (t366, t358, t369, t370)) = some (r1, r2, r3, r4) := H
   have A6 := zad A60; clear A60; simp only [zbj, zbn] at H
   obtain ⟨rfl, rfl, rfl, rfl⟩ := H
   go_enter Try.func45, Try.ntmps45
   go_wp2_with (first | ((with_reducible refine zbf (f := 61) rfl ?_); refine zbl (some 13) rfl rfl Try.func61 (by kernel_rfl) rfl #[.pointer (some ⟨g, 0, none⟩), .int .i64 a1] rfl (taac) ?_; (with_reducible refine (spec_l1Cur_anyList.calls k g s0_0 s0_1 s0_2 a1 t358 t361 t362 w0 _ ?side1 ?side2 A3.out).mono ?_); (case side1 => repeat (first | (with_reducible first | exact HI0.out | apply zcd | apply zce | apply zcf | apply zch | apply zci) | exact HI0.out)); (case side2 => repeat (first | (with_reducible first | exact HB.out | apply zag | apply zae | apply zaf | refine zah ?_ (zcg HI0.out)) | exact HB.out)); rintro e w7 ⟨v359, rfl, ho0, hi, hb, hk⟩; refine ⟨_, rfl, ?_⟩; have n0_ := zad (zbs ho0 (keep_size (w := w) (g := g) (row := none) (taak))); have n1_ := zad (zbq (taak) hk (.inl rfl)); have n2_ := zad (hb); have n3_ := zad (hi); clear HK HB HI0; have HO360 := n0_; have HK := n1_; have HB := n2_; have HI0 := n3_; clear n0_ n1_ n2_ n3_; (try clear hb); (try clear hb2); (try clear hk); (try clear hi); (try clear ho0)) | ((with_reducible refine zbf (f := 46) rfl ?_); refine zbl (some 15) rfl rfl Try.func46 (by kernel_rfl) rfl #[.pointer (some ⟨g, 0, none⟩), .int .i64 5] rfl (taac) ?_; (with_reducible refine (spec_l1Cur_one.calls g s0_0 t361 t362 5 true t364 t365 w0 _ ?side1 ?side2 A4.out).mono ?_); (case side1 => repeat (first | (with_reducible first | exact HI0.out | apply zcd | apply zce | apply zcf | apply zch | apply zci) | exact HI0.out)); (case side2 => repeat (first | (with_reducible first | exact HB.out | apply zag | apply zae | apply zaf | refine zah ?_ (zcg HI0.out)) | exact HB.out)); rintro e w8 ⟨rfl, hi, hb, hk⟩; refine ⟨_, rfl, ?_⟩; have n0_ := zad (zbo (zbp (IsS51.apart (show IsS51 w0 _ g s0_0 t361 t362 from by exact taej) (tabm) (by decide)) hk (fun _ h => h.2)) (fun _ h => h.1)); have n1_ := zad (zbq (taak) hk (.inl rfl)); have n2_ := zad (hb); have n3_ := zad (hi); clear HO360 HK HB HI0; have HO360 := n0_; have HK := n1_; have HB := n2_; have HI0 := n3_; clear n0_ n1_ n2_ n3_; (try clear hb); (try clear hb2); (try clear hk); (try clear hi)) | ((with_reducible refine zbf (f := 61) rfl ?_); refine zbl (some 18) rfl rfl Try.func61 (by kernel_rfl) rfl #[.pointer (some ⟨g, 0, none⟩), .int .i64 a1] rfl (taac) ?_; (with_reducible refine (spec_l1Cur_anyList.calls k g s0_0 t364 t365 a1 t366 t369 t370 w0 _ ?side1 ?side2 A6.out).mono ?_); (case side1 => repeat (first | (with_reducible first | exact HI0.out | apply zcd | apply zce | apply zcf | apply zch | apply zci) | exact HI0.out)); (case side2 => repeat (first | (with_reducible first | exact HB.out | apply zag | apply zae | apply zaf | refine zah ?_ (zcg HI0.out)) | exact HB.out)); rintro e w9 ⟨v367, rfl, ho0, hi, hb, hk⟩; refine ⟨_, rfl, ?_⟩; have n0_ := zad (zbo (Kd.R_told (Kd.R_oldK (IsS51.apart (show IsS51 w0 _ g s0_0 t364 t365 from by exact taej) (tabm) (by decide)) hk) (zca ho0)) (fun _ h_ => h_.1)); have n1_ := zad (zbs (zbz ho0 (zcb (tabm))) (keep_size (w := w) (g := g) (row := none) (taak))); have n2_ := zad (zbq (taak) hk (.inl rfl)); have n3_ := zad (hb); have n4_ := zad (hi); clear HO360 HK HB HI0; have HO360 := n0_; have HO368 := n1_; have HK := n2_; have HB := n3_; have HI0 := n4_; clear n0_ n1_ n2_ n3_ n4_; (try clear hb); (try clear hb2); (try clear hk); (try clear hi); (try clear ho0)))
   go_ret2
   exact ⟨_, _, taam, by (with_reducible repeat (first | apply zai | apply zaj | apply zak)); exact zbo HO368.out (fun _ hk => hk.2), tacz, taal, taar, taak⟩
 · replace c5 := zbg.mpr c5
   subst c5; have H1 : ((spec_l1Own.f t358).bind fun t371 => ((spec_l1Cur_pick.f s0_0 t364 t365 12).bind fun bt374 => (spec_l1Cur_fitting.l0 k t358 t371 bt374.1 s0_0 bt374.2.1 bt374.2.2))) = some (r1, r2, r3, r4) := by rw [if_neg (show ¬ (false = true) by decide)] at H; exact H
   clear H; have H := H1; clear H1; replace H := zay.mp H; obtain ⟨t371, A100, H⟩ := H
   replace H : ((spec_l1Cur_pick.f s0_0 t364 t365 12).bind fun bt374 => (spec_l1Cur_fitting.l0 k t358 t371 bt374.1 s0_0 bt374.2.1 bt374.2.2)) = some (r1, r2, r3, r4) := H
   have A10 := zad A100; clear A100; replace H := zay.mp H; obtain ⟨⟨t374, t375, t376⟩, A110, H⟩ := H
   replace H : (spec_l1Cur_fitting.l0 k t358 t371 t374 s0_0 t375 t376) = some (r1, r2, r3, r4) := H
   have A11 := zad A110; clear A110; have H' := zad H
   clear H; go_enter Try.func45, Try.ntmps45
   go_wp2_with (first | ((with_reducible refine zbf (f := 61) rfl ?_); refine zbl (some 13) rfl rfl Try.func61 (by kernel_rfl) rfl #[.pointer (some ⟨g, 0, none⟩), .int .i64 a1] rfl (taac) ?_; (with_reducible refine (spec_l1Cur_anyList.calls k g s0_0 s0_1 s0_2 a1 t358 t361 t362 w0 _ ?side1 ?side2 A3.out).mono ?_); (case side1 => repeat (first | (with_reducible first | exact HI0.out | apply zcd | apply zce | apply zcf | apply zch | apply zci) | exact HI0.out)); (case side2 => repeat (first | (with_reducible first | exact HB.out | apply zag | apply zae | apply zaf | refine zah ?_ (zcg HI0.out)) | exact HB.out)); rintro e w12 ⟨v359, rfl, ho0, hi, hb, hk⟩; refine ⟨_, rfl, ?_⟩; have n0_ := zad (zbs ho0 (keep_size (w := w) (g := g) (row := none) (taak))); have n1_ := zad (zbq (taak) hk (.inl rfl)); have n2_ := zad (hb); have n3_ := zad (hi); clear HK HB HI0; have HO360 := n0_; have HK := n1_; have HB := n2_; have HI0 := n3_; clear n0_ n1_ n2_ n3_; (try clear hb); (try clear hb2); (try clear hk); (try clear hi); (try clear ho0)) | ((with_reducible refine zbf (f := 46) rfl ?_); refine zbl (some 15) rfl rfl Try.func46 (by kernel_rfl) rfl #[.pointer (some ⟨g, 0, none⟩), .int .i64 5] rfl (taac) ?_; (with_reducible refine (spec_l1Cur_one.calls g s0_0 t361 t362 5 false t364 t365 w0 _ ?side1 ?side2 A4.out).mono ?_); (case side1 => repeat (first | (with_reducible first | exact HI0.out | apply zcd | apply zce | apply zcf | apply zch | apply zci) | exact HI0.out)); (case side2 => repeat (first | (with_reducible first | exact HB.out | apply zag | apply zae | apply zaf | refine zah ?_ (zcg HI0.out)) | exact HB.out)); rintro e w13 ⟨rfl, hi, hb, hk⟩; refine ⟨_, rfl, ?_⟩; have n0_ := zad (zbo (zbp (IsS51.apart (show IsS51 w0 _ g s0_0 t361 t362 from by exact taej) (tabm) (by decide)) hk (fun _ h => h.2)) (fun _ h => h.1)); have n1_ := zad (zbq (taak) hk (.inl rfl)); have n2_ := zad (hb); have n3_ := zad (hi); clear HO360 HK HB HI0; have HO360 := n0_; have HK := n1_; have HB := n2_; have HI0 := n3_; clear n0_ n1_ n2_ n3_; (try clear hb); (try clear hb2); (try clear hk); (try clear hi); obtain ⟨Ao14, co14, eo14⟩ := zbt HO360.out; subst eo14) | ((with_reducible refine zbf (f := 69) rfl ?_); refine zbl (some 21) rfl rfl Try.func69 (by kernel_rfl) rfl #[.slice Ao14 t358.length co14] rfl (taac) ?_; (with_reducible refine (spec_l1Own.calls _ _ t358 t371 _ ?side1 ?side2 A10.out).mono ?_); (case side1 => repeat (first | exact (zbd HO360.out).2.2 | (with_reducible refine zal ?_ _) | (with_reducible refine zam ?_ _) | (with_reducible refine zan ?_))); (case side2 => exact (zbd HO360.out).2.1); rintro e w15 ⟨v372, rfl, ho0, hb⟩; refine ⟨_, rfl, ?_⟩; have n0_ := zad (zby (tabm) (zca ho0) hb); have n1_ := zad (zbs (zbz ho0 (zcb (tabm))) (keep_size (w := w) (g := g) (row := none) (taak))); have n2_ := zad (IsS51.below (taal) hb); have n3_ := zad (zbq (taak) (KeepBut.of_below hb g none) (.inl rfl)); have n4_ := zad (zbe (taar) hb); clear HO360 HI0 HK HB; have HO360 := n0_; have HO373 := n1_; have HI0 := n2_; have HK := n3_; have HB := n4_; clear n0_ n1_ n2_ n3_ n4_; (try clear hb); (try clear hb2); (try clear hk); (try clear hi); (try clear ho0)) | ((with_reducible refine zbf (f := 47) rfl ?_); refine zbl (some 23) rfl rfl Try.func47 (by kernel_rfl) rfl #[.pointer (some ⟨g, 0, none⟩), .int .i64 12] rfl (taac) ?_; (with_reducible refine (zcj g s0_0 t364 t365 12 t374 t375 t376 w0 _ ?side1 ?side2 A11.out).mono ?_); (case side1 => repeat (first | (with_reducible first | exact HI0.out | apply zcd | apply zce | apply zcf | apply zch | apply zci) | exact HI0.out)); (case side2 => repeat (first | (with_reducible first | exact HB.out | apply zag | apply zae | apply zaf | refine zah ?_ (zcg HI0.out)) | exact HB.out)); rintro e w16 ⟨rfl, hi, hb, hk⟩; refine ⟨_, rfl, ?_⟩; have n0_ := zad (zbo (zbp (IsS51.apart (show IsS51 w0 _ g s0_0 t364 t365 from by exact taej) (tabm) (by decide)) hk (fun _ h => h.2)) (fun _ h => h.1)); have n1_ := zad (zbo (zbp (IsS51.apart (show IsS51 w0 _ g s0_0 t364 t365 from by exact taej) (by (with_reducible repeat (first | apply zai | apply zaj | apply zak)); exact HO373.out) (by decide)) hk (fun _ h => h.2)) (fun _ h => h.1)); have n2_ := zad (zbq (taak) hk (.inl rfl)); have n3_ := zad (hb); have n4_ := zad (hi); clear HO360 HO373 HK HB HI0; have HO360 := n0_; have HO373 := n1_; have HK := n2_; have HB := n3_; have HI0 := n4_; clear n0_ n1_ n2_ n3_ n4_; (try clear hb); (try clear hb2); (try clear hk); (try clear hi)))
   go_loopg [8] k (fun kq v8 w' => ∃ (x7_1 : List Int) (x8_1 : Int) (x1001_1 : Int) (x1002_1 : Int), v8 = .int .i64 x8_1 ∧ Aside0 (spec_l1Cur_fitting.l0 kq t358 x7_1 x8_1 s0_0 x1001_1 x1002_1 = some (r1, r2, r3, r4)) ∧ Aside0 (kq ≤ k) ∧ Aside0 (Kd.R (Kd.int .i64) 3 w' w.heap.size (fun k_ => some k_ ≠ (v372 : Value).ownBlock) (.slice Ao14 t358.length co14) t358) ∧ Aside0 (Kd.R (Kd.int .i64) 3 w' w.heap.size (fun k_ => some k_ ≠ ((.slice Ao14 t358.length co14) : Value).ownBlock) v372 x7_1) ∧ Aside0 (IsS51 w0 w' g s0_0 x1001_1 x1002_1) ∧ Aside0 (KeepBut w w' g none) ∧ Aside0 (Below w0.heap.size w0 w'))
   case atStart => exact ⟨(t371), (t374), (t375), (t376), (taad), H', ⟨zcc _⟩, ⟨tacz⟩, ⟨by (with_reducible repeat (first | apply zai | apply zaj | apply zak)); exact zbo HO373.out (fun _ hk => hk.2)⟩, ⟨taal⟩, ⟨taak⟩, ⟨taar⟩⟩
   case round =>
    clear H'
    try clear p2
    try clear c4
    try clear c5
    try clear c6
    obtain ⟨x7_1, x8_1, x1001_1, x1002_1, rfl, HA, HK1, HO_6, HO_7, HI0, HK, HB⟩ := hrel
    cases gk with
    | zero => exact absurd HA.out (by simp [spec_l1Cur_fitting.l0])
    | succ k1 =>
     have H := HA.out
     clear HA; simp only [spec_l1Cur_fitting.l0] at H
     have HC17 := zad H; clear H; go_upto_region 6 with (fail)
     go_cut [30] (fun v30 wc => ∃ (kq : Nat) (x30_16 : Bool), v30 = .bool x30_16 ∧ Aside0 (spec_l1Cur_fitting.j1 kq t358 x7_1 x8_1 x30_16 s0_0 x1001_1 x1002_1 = some (r1, r2, r3, r4)) ∧ Aside0 (kq ≤ k1) ∧ Aside0 (Kd.R (Kd.int .i64) 3 wc w.heap.size (fun k_ => some k_ ≠ (v372 : Value).ownBlock) (.slice Ao14 t358.length co14) t358) ∧ Aside0 (Kd.R (Kd.int .i64) 3 wc w.heap.size (fun k_ => some k_ ≠ ((.slice Ao14 t358.length co14) : Value).ownBlock) v372 x7_1) ∧ Aside0 (IsS51 w0 wc g s0_0 x1001_1 x1002_1) ∧ Aside0 (KeepBut w wc g none) ∧ Aside0 (Below w0.heap.size w0 wc))
     case first =>
      have H := HC17.out
      clear HC17; by_cases c18 : x8_1 > 0
      · rw [if_pos c18] at H
        have c18b0 : decide (0 < x8_1) = true := zba c18
        clear c18; (first | rw [c18b0] | (simp only [zbu, zbv]; rw [c18b0]) | skip)
        have H' := zad H
        clear H; obtain ⟨Ao19, co19, eo19⟩ := zbt HO_7.out
        subst eo19; go_wp2
        go_meet
        case rel => exact ⟨_, (decide ((x7_1.length : Int) > 1)), (taad), H', ⟨tacd⟩, ⟨taae⟩, ⟨taag⟩, ⟨taal⟩, ⟨taak⟩, ⟨taar⟩⟩
      · rw [if_neg c18] at H
        have c18b0 : decide (0 < x8_1) = false := zbh c18
        clear c18; (first | rw [c18b0] | (simp only [zbu, zbv]; rw [c18b0]) | skip)
        have H' := zad H
        clear H; go_wp2
        go_meet
        case rel => exact ⟨_, (false), (taad), H', ⟨tacd⟩, ⟨taae⟩, ⟨taag⟩, ⟨taal⟩, ⟨taak⟩, ⟨taar⟩⟩
     case rest =>
      clear HC17; try clear c1
      try clear p2
      try clear c4
      try clear c5
      try clear c6
      try clear c18
      try clear c18b0
      try clear p2
      obtain ⟨kq, x30_16, rfl, HA, HJ16, HO_6, HO_7, HI0, HK, HB⟩ := hcut
      cases kq with
      | zero => exact absurd HA.out (by simp [spec_l1Cur_fitting.j1])
      | succ kj16 =>
       have H := HA.out
       clear HA; simp only [spec_l1Cur_fitting.j1] at H
       by_cases c20 : x30_16 = true
       · subst c20
         have H1 : ((spec_l1Cur_pick.f s0_0 x1001_1 x1002_1 (x7_1.length : Int)).bind fun bt380 => ((spec_l1Cur_pick.f s0_0 bt380.2.1 bt380.2.2 (x7_1.length : Int)).bind fun bt383 => (if 0 ≤ bt380.1 then (if bt380.1 < (x7_1.length : Int) then (if (rd x7_1 bt380.1) > 0 then (if 0 ≤ bt383.1 then (if bt383.1 < (x7_1.length : Int) then (if (rd x7_1 bt380.1) > (rd x7_1 bt383.1) then ((some (x7_1.set (bt380.1 : Int).toNat (wrap64 ((rd x7_1 bt380.1) - 1)) : List Int)).bind fun y390 => (spec_l1Cur_fitting.l0 kj16 t358 (y390.set (bt383.1 : Int).toNat (wrap64 ((rd y390 bt383.1) + 1))) (wrap64 (x8_1 - 1)) s0_0 bt383.2.1 bt383.2.2)) else ((spec_l1Cur_one.f s0_0 bt383.2.1 bt383.2.2 4).bind fun bt393 => (if bt393.1 = true then ((some (x7_1.set (bt380.1 : Int).toNat (wrap64 ((rd x7_1 bt380.1) - 1)) : List Int)).bind fun y397 => (spec_l1Cur_fitting.l0 kj16 t358 (y397.set (bt383.1 : Int).toNat (wrap64 ((rd y397 bt383.1) + 1))) (wrap64 (x8_1 - 1)) s0_0 bt393.2.1 bt393.2.2)) else (spec_l1Cur_fitting.l0 kj16 t358 x7_1 (wrap64 (x8_1 - 1)) s0_0 bt393.2.1 bt393.2.2)))) else (none)) else (none)) else (spec_l1Cur_fitting.l0 kj16 t358 x7_1 (wrap64 (x8_1 - 1)) s0_0 bt383.2.1 bt383.2.2)) else (none)) else (none)))) = some (r1, r2, r3, r4) := by rw [if_pos rfl] at H; exact H
         clear H; have H := H1; clear H1; replace H := zay.mp H; obtain ⟨⟨t380, t381, t382⟩, A210, H⟩ := H
         replace H : ((spec_l1Cur_pick.f s0_0 t381 t382 (x7_1.length : Int)).bind fun bt383 => (if 0 ≤ t380 then (if t380 < (x7_1.length : Int) then (if (rd x7_1 t380) > 0 then (if 0 ≤ bt383.1 then (if bt383.1 < (x7_1.length : Int) then (if (rd x7_1 t380) > (rd x7_1 bt383.1) then ((some (x7_1.set (t380 : Int).toNat (wrap64 ((rd x7_1 t380) - 1)) : List Int)).bind fun y390 => (spec_l1Cur_fitting.l0 kj16 t358 (y390.set (bt383.1 : Int).toNat (wrap64 ((rd y390 bt383.1) + 1))) (wrap64 (x8_1 - 1)) s0_0 bt383.2.1 bt383.2.2)) else ((spec_l1Cur_one.f s0_0 bt383.2.1 bt383.2.2 4).bind fun bt393 => (if bt393.1 = true then ((some (x7_1.set (t380 : Int).toNat (wrap64 ((rd x7_1 t380) - 1)) : List Int)).bind fun y397 => (spec_l1Cur_fitting.l0 kj16 t358 (y397.set (bt383.1 : Int).toNat (wrap64 ((rd y397 bt383.1) + 1))) (wrap64 (x8_1 - 1)) s0_0 bt393.2.1 bt393.2.2)) else (spec_l1Cur_fitting.l0 kj16 t358 x7_1 (wrap64 (x8_1 - 1)) s0_0 bt393.2.1 bt393.2.2)))) else (none)) else (none)) else (spec_l1Cur_fitting.l0 kj16 t358 x7_1 (wrap64 (x8_1 - 1)) s0_0 bt383.2.1 bt383.2.2)) else (none)) else (none))) = some (r1, r2, r3, r4) := H
         have A21 := zad A210; clear A210; replace H := zay.mp H; obtain ⟨⟨t383, t384, t385⟩, A220, H⟩ := H
         replace H : (if 0 ≤ t380 then (if t380 < (x7_1.length : Int) then (if (rd x7_1 t380) > 0 then (if 0 ≤ t383 then (if t383 < (x7_1.length : Int) then (if (rd x7_1 t380) > (rd x7_1 t383) then ((some (x7_1.set (t380 : Int).toNat (wrap64 ((rd x7_1 t380) - 1)) : List Int)).bind fun y390 => (spec_l1Cur_fitting.l0 kj16 t358 (y390.set (t383 : Int).toNat (wrap64 ((rd y390 t383) + 1))) (wrap64 (x8_1 - 1)) s0_0 t384 t385)) else ((spec_l1Cur_one.f s0_0 t384 t385 4).bind fun bt393 => (if bt393.1 = true then ((some (x7_1.set (t380 : Int).toNat (wrap64 ((rd x7_1 t380) - 1)) : List Int)).bind fun y397 => (spec_l1Cur_fitting.l0 kj16 t358 (y397.set (t383 : Int).toNat (wrap64 ((rd y397 t383) + 1))) (wrap64 (x8_1 - 1)) s0_0 bt393.2.1 bt393.2.2)) else (spec_l1Cur_fitting.l0 kj16 t358 x7_1 (wrap64 (x8_1 - 1)) s0_0 bt393.2.1 bt393.2.2)))) else (none)) else (none)) else (spec_l1Cur_fitting.l0 kj16 t358 x7_1 (wrap64 (x8_1 - 1)) s0_0 t384 t385)) else (none)) else (none)) = some (r1, r2, r3, r4) := H
         have A22 := zad A220; clear A220; by_cases c23 : 0 ≤ t380
         · rw [if_pos c23] at H
           have c23b0 : decide (0 ≤ t380) = true := zba c23
           clear c23; by_cases c24 : t380 < (x7_1.length : Int)
           · rw [if_pos c24] at H
             have c24b0 : decide (t380 < (x7_1.length : Int)) = true := zba c24
             clear c24; by_cases c25 : (rd x7_1 t380) > 0
             · rw [if_pos c25] at H
               have c25b0 : decide (0 < (rd x7_1 t380)) = true := zba c25
               clear c25; by_cases c26 : 0 ≤ t383
               · rw [if_pos c26] at H
                 have c26b0 : decide (0 ≤ t383) = true := zba c26
                 clear c26; by_cases c27 : t383 < (x7_1.length : Int)
                 · rw [if_pos c27] at H
                   have c27b0 : decide (t383 < (x7_1.length : Int)) = true := zba c27
                   clear c27; by_cases c28 : (rd x7_1 t380) > (rd x7_1 t383)
                   · rw [if_pos c28] at H
                     have c28b0 : decide ((rd x7_1 t383) < (rd x7_1 t380)) = true := zba c28
                     clear c28; obtain ⟨y390, hy390⟩ : ∃ y_ : List Int, y_ = (x7_1.set (t380 : Int).toNat (wrap64 ((rd x7_1 t380) - 1))) := ⟨_, rfl⟩
                     replace H : (spec_l1Cur_fitting.l0 kj16 t358 (y390.set (t383 : Int).toNat (wrap64 ((rd y390 t383) + 1))) (wrap64 (x8_1 - 1)) s0_0 t384 t385) = some (r1, r2, r3, r4) := by first | (rw [hy390]; with_reducible exact H) | (have H2_ := (zbb _ _).symm.trans H; rw [hy390]; with_reducible exact H2_) | (have H2_ := (zbb _ _).symm.trans H; with_reducible exact H2_) | with_reducible exact H | (rw [hy390]; exact H) | exact H
                     have Ny390 := zad hy390; clear hy390; obtain ⟨y392, hy392⟩ : ∃ y_ : List Int, y_ = (y390.set (t383 : Int).toNat (wrap64 ((rd y390 t383) + 1))) := ⟨_, rfl⟩
                     replace H : (spec_l1Cur_fitting.l0 kj16 t358 y392 (wrap64 (x8_1 - 1)) s0_0 t384 t385) = some (r1, r2, r3, r4) := by first | (rw [hy392]; with_reducible exact H) | (have H2_ := (zbb _ _).symm.trans H; rw [hy392]; with_reducible exact H2_) | (have H2_ := (zbb _ _).symm.trans H; with_reducible exact H2_) | with_reducible exact H | (rw [hy392]; exact H) | exact H
                     have Ny392 := zad hy392; clear hy392; have H' := zad H
                     clear H; obtain ⟨Ao31, co31, eo31⟩ := zbt HO_7.out
                     subst eo31; try go_wp2_with (first | ((with_reducible refine zbf (f := 47) rfl ?_); refine zbl (some 36) rfl rfl Try.func47 (by kernel_rfl) rfl #[.pointer (some ⟨g, 0, none⟩), .int .i64 (x7_1.length : Int)] rfl (taac) ?_; (with_reducible refine (zcj g s0_0 x1001_1 x1002_1 (x7_1.length : Int) t380 t381 t382 w0 _ ?side1 ?side2 A21.out).mono ?_); (case side1 => repeat (first | (with_reducible first | exact HI0.out | apply zcd | apply zce | apply zcf | apply zch | apply zci) | exact HI0.out)); (case side2 => repeat (first | (with_reducible first | exact HB.out | apply zag | apply zae | apply zaf | refine zah ?_ (zcg HI0.out)) | exact HB.out)); rintro e w32 ⟨rfl, hi, hb, hk⟩; refine ⟨_, rfl, ?_⟩; have n0_ := zad (zbo (zbp (IsS51.apart (show IsS51 w0 _ g s0_0 x1001_1 x1002_1 from by exact taej) (taae) (by decide)) hk (fun _ h => h.2)) (fun _ h => h.1)); have n1_ := zad (zbo (zbp (IsS51.apart (show IsS51 w0 _ g s0_0 x1001_1 x1002_1 from by exact taej) (taag) (by decide)) hk (fun _ h => h.2)) (fun _ h => h.1)); have n2_ := zad (zbq (taak) hk (.inl rfl)); have n3_ := zad (hb); have n4_ := zad (hi); clear HO_6 HO_7 HK HB HI0; have HO_6 := n0_; have HO_7 := n1_; have HK := n2_; have HB := n3_; have HI0 := n4_; clear n0_ n1_ n2_ n3_ n4_; (try clear hb); (try clear hb2); (try clear hk); (try clear hi)) | ((with_reducible refine zbf (f := 47) rfl ?_); refine zbl (some 40) rfl rfl Try.func47 (by kernel_rfl) rfl #[.pointer (some ⟨g, 0, none⟩), .int .i64 (x7_1.length : Int)] rfl (taac) ?_; (with_reducible refine (zcj g s0_0 t381 t382 (x7_1.length : Int) t383 t384 t385 w0 _ ?side1 ?side2 A22.out).mono ?_); (case side1 => repeat (first | (with_reducible first | exact HI0.out | apply zcd | apply zce | apply zcf | apply zch | apply zci) | exact HI0.out)); (case side2 => repeat (first | (with_reducible first | exact HB.out | apply zag | apply zae | apply zaf | refine zah ?_ (zcg HI0.out)) | exact HB.out)); rintro e w33 ⟨rfl, hi, hb, hk⟩; refine ⟨_, rfl, ?_⟩; have n0_ := zad (zbo (zbp (IsS51.apart (show IsS51 w0 _ g s0_0 t381 t382 from by exact taej) (taae) (by decide)) hk (fun _ h => h.2)) (fun _ h => h.1)); have n1_ := zad (zbo (zbp (IsS51.apart (show IsS51 w0 _ g s0_0 t381 t382 from by exact taej) (taag) (by decide)) hk (fun _ h => h.2)) (fun _ h => h.1)); have n2_ := zad (zbq (taak) hk (.inl rfl)); have n3_ := zad (hb); have n4_ := zad (hi); clear HO_6 HO_7 HK HB HI0; have HO_6 := n0_; have HO_7 := n1_; have HK := n2_; have HB := n3_; have HI0 := n4_; clear n0_ n1_ n2_ n3_ n4_; (try clear hb); (try clear hb2); (try clear hk); (try clear hi)))
                     have n0_ := zad (zak HO_6.out)
                     have n1_ := zad (zak HO_7.out)
                     have n2_ := zad (zcf HI0.out)
                     have n3_ := zad (zaq HK.out)
                     have n4_ := zad (zaf HB.out)
                     clear HO_6 HO_7 HI0 HK HB; have HO_6 := n0_; have HO_7 := n1_; have HI0 := n2_; have HK := n3_; have HB := n4_; clear n0_ n1_ n2_ n3_ n4_; have p386 : 0 ≤ (t380 : Int) := zas (taab)
                     have q386 : t380 < (x7_1.length : Int) := zas (taab)
                     obtain ⟨ad386, e386, hx386_0⟩ := zbx (zbd HO_7.out).2.2 t380 p386 q386
                     cases e386
                     replace p386 := eq_true p386
                     replace q386 := eq_true q386
                     have p387 : 0 ≤ (t380 : Int) := zas (taab)
                     have q387 : t380 < (x7_1.length : Int) := zas (taab)
                     obtain ⟨ad387, e387, hx387_0⟩ := zbx (zbd HO_7.out).2.2 t380 p387 q387
                     obtain rfl : ad386 = ad387 := (by injection e387)
                     replace p387 := eq_true p387
                     replace q387 := eq_true q387
                     have p388 : 0 ≤ (t383 : Int) := zas (taab)
                     have q388 : t383 < (x7_1.length : Int) := zas (taab)
                     obtain ⟨ad388, e388, hx388_0⟩ := zbx (zbd HO_7.out).2.2 t383 p388 q388
                     obtain rfl : ad386 = ad388 := (by injection e388)
                     replace p388 := eq_true p388
                     replace q388 := eq_true q388
                     refine start_ (n := 20) (S := fun w' => w'.cell? (ad386.add (t380).toNat) = some (.int .i64 (rd x7_1 t380)) ∧ w'.cell? (ad386.add (t380).toNat) = some (.int .i64 (rd x7_1 t380)) ∧ w'.cell? (ad386.add (t383).toNat) = some (.int .i64 (rd x7_1 t383))) (ds := []) #[false, false, false, false, false, false, false, false, false, false, false, false, false, false, false, false, false, false, false, false] (by kernel_rfl) rfl rfl ⟨hx386_0, hx387_0, hx388_0⟩ (fun hHeld => ?_); refine with_tabW spec_l1Cur_fitting.tab9 spec_l1Cur_fitting.bits9 (fun HT_ HW_ => ?_)
                     generalize w33.drew = w34 at HO_6 HO_7 HI0 HK HB hx386_0 hx387_0 hx388_0 hHeld ⊢
                     refine pure_ (i := 0) (N := some 41) (v := ?_) (a' := ?_) taey rfl rfl (zbw HT_.out (by kernel_rfl)) (fun _ _ _ h => h) (Or.inl ⟨by rfl, ?_⟩) ?_ ?_
                     rotate_left
                     · intro w'
                       go_simp; with_reducible rfl
                     rotate_left
                     · simp only [Act.put, zaa, zab, zac, zbu, zbv]
                       rfl
                     refine pure_ (i := 1) (N := some 42) (v := ?_) (a' := ?_) taez rfl rfl (zbw HT_.out (by kernel_rfl)) (fun _ _ _ h => h) (Or.inl ⟨by rfl, ?_⟩) ?_ ?_
                     rotate_left
                     · intro w'
                       go_simp; with_reducible rfl
                     rotate_left
                     · simp only [Act.put, zaa, zab, zac, zbu, zbv]
                       rfl
                     refine pure_ (i := 2) (N := some 43) (v := ?_) (a' := ?_) tafa rfl rfl (zbw HT_.out (by kernel_rfl)) (fun _ _ _ h => h) (Or.inl ⟨by rfl, ?_⟩) ?_ ?_
                     rotate_left
                     · intro w'
                       go_simp; with_reducible rfl
                     rotate_left
                     · simp only [Act.put, zaa, zab, zac, zbu, zbv]
                       rfl
                     refine take_ (i := 3) (N := some 44) (v := ?_) (a' := ?_) tafb rfl rfl (take_ofW HT_.out HW_.out (by kernel_rfl)) (fun _ _ _ h => h) (Or.inl ⟨by rfl, ?_⟩) hHeld ?_ ?_
                     rotate_left
                     · rintro w' ⟨s0, s1, s2⟩
                       go_simp; with_reducible rfl
                     rotate_left
                     · simp only [Act.put, zaa, zab, zac, zbu, zbv]
                       rfl
                     refine pure_ (i := 4) (N := some 45) (v := ?_) (a' := ?_) tafc rfl rfl (zbw HT_.out (by kernel_rfl)) (fun _ _ _ h => h) (Or.inl ⟨by rfl, ?_⟩) ?_ ?_
                     rotate_left
                     · intro w'
                       go_simp; with_reducible rfl
                     rotate_left
                     · simp only [Act.put, zaa, zab, zac, zbu, zbv]
                       rfl
                     refine pure_ (i := 5) (N := some 46) (v := ?_) (a' := ?_) tafd rfl rfl (zbw HT_.out (by kernel_rfl)) (fun _ _ _ h => h) (Or.inl ⟨by rfl, ?_⟩) ?_ ?_
                     rotate_left
                     · intro w'
                       go_simp; with_reducible rfl
                     rotate_left
                     · simp only [Act.put, zaa, zab, zac, zbu, zbv]
                       rfl
                     refine pure_ (i := 6) (N := some 47) (v := ?_) (a' := ?_) tafe rfl rfl (zbw HT_.out (by kernel_rfl)) (fun _ _ _ h => h) (Or.inl ⟨by rfl, ?_⟩) ?_ ?_
                     rotate_left
                     · intro w'
                       go_simp; with_reducible rfl
                     rotate_left
                     · simp only [Act.put, zaa, zab, zac, zbu, zbv]
                       rfl
                     refine pure_ (i := 7) (N := some 48) (v := ?_) (a' := ?_) taff rfl rfl (zbw HT_.out (by kernel_rfl)) (fun _ _ _ h => h) (Or.inl ⟨by rfl, ?_⟩) ?_ ?_
                     rotate_left
                     · intro w'
                       go_simp; with_reducible rfl
                     rotate_left
                     · simp only [Act.put, zaa, zab, zac, zbu, zbv]
                       rfl
                     refine pure_ (i := 8) (N := some 49) (v := ?_) (a' := ?_) tafg rfl rfl (zbw HT_.out (by kernel_rfl)) (fun _ _ _ h => h) (Or.inl ⟨by rfl, ?_⟩) ?_ ?_
                     rotate_left
                     · intro w'
                       go_simp; with_reducible rfl
                     rotate_left
                     · simp only [Act.put, zaa, zab, zac, zbu, zbv]
                       rfl
                     refine pure_ (i := 10) (N := some 51) (v := ?_) (a' := ?_) tafh rfl rfl (zbw HT_.out (by kernel_rfl)) (fun _ _ _ h => h) (Or.inl ⟨by rfl, ?_⟩) ?_ ?_
                     rotate_left
                     · intro w'
                       go_simp; with_reducible rfl
                     rotate_left
                     · simp only [Act.put, zaa, zab, zac, zbu, zbv]
                       rfl
                     refine pure_ (i := 11) (N := some 52) (v := ?_) (a' := ?_) tafi rfl rfl (zbw HT_.out (by kernel_rfl)) (fun _ _ _ h => h) (Or.inl ⟨by rfl, ?_⟩) ?_ ?_
                     rotate_left
                     · intro w'
                       go_simp; with_reducible rfl
                     rotate_left
                     · simp only [Act.put, zaa, zab, zac, zbu, zbv]
                       rfl
                     refine pure_ (i := 12) (N := some 53) (v := ?_) (a' := ?_) tafj rfl rfl (zbw HT_.out (by kernel_rfl)) (fun _ _ _ h => h) (Or.inl ⟨by rfl, ?_⟩) ?_ ?_
                     rotate_left
                     · intro w'
                       go_simp; with_reducible rfl
                     rotate_left
                     · simp only [Act.put, zaa, zab, zac, zbu, zbv]
                       rfl
                     refine take_ (i := 9) (N := some 50) (v := ?_) (a' := ?_) tafk rfl rfl (take_ofW HT_.out HW_.out (by kernel_rfl)) (fun _ _ _ h => h) (Or.inl ⟨by rfl, ?_⟩) hHeld ?_ ?_
                     rotate_left
                     · rintro w' ⟨s0, s1, s2⟩
                       go_simp; with_reducible rfl
                     rotate_left
                     · simp only [Act.put, zaa, zab, zac, zbu, zbv]
                       rfl
                     refine take_ (i := 13) (N := some 54) (v := ?_) (a' := ?_) tafl rfl rfl (take_ofW HT_.out HW_.out (by kernel_rfl)) (fun _ _ _ h => h) (Or.inl ⟨by rfl, ?_⟩) hHeld ?_ ?_
                     rotate_left
                     · rintro w' ⟨s0, s1, s2⟩
                       go_simp; with_reducible rfl
                     rotate_left
                     · simp only [Act.put, zaa, zab, zac, zbu, zbv]
                       rfl
                     refine pure_ (i := 14) (N := some 55) (v := ?_) (a' := ?_) tafm rfl rfl (zbw HT_.out (by kernel_rfl)) (fun _ _ _ h => h) (Or.inl ⟨by rfl, ?_⟩) ?_ ?_
                     rotate_left
                     · intro w'
                       go_simp; with_reducible rfl
                     rotate_left
                     · simp only [Act.put, zaa, zab, zac, zbu, zbv]
                       rfl
                     refine pure_ (i := 15) (N := some 56) (v := ?_) (a' := ?_) tafn rfl rfl (zbw HT_.out (by kernel_rfl)) (fun _ _ _ h => h) (Or.inl ⟨by rfl, ?_⟩) ?_ ?_
                     rotate_left
                     · intro w'
                       go_simp; with_reducible rfl
                     rotate_left
                     · simp only [Act.put, zaa, zab, zac, zbu, zbv]
                       rfl
                     refine pure_ (i := 16) (N := some 57) (v := undef) (a' := ?_) tafo rfl rfl (zbw HT_.out (by kernel_rfl)) (fun _ _ _ h => h) (Or.inr ⟨by rfl, rfl⟩) ?_ ?_
                     rotate_left
                     · simp only [Act.put, zaa, zab, zac, zbu, zbv]
                       rfl
                     refine pure_ (i := 17) (N := some 58) (v := undef) (a' := ?_) tafp rfl rfl (zbw HT_.out (by kernel_rfl)) (fun _ _ _ h => h) (Or.inr ⟨by rfl, rfl⟩) ?_ ?_
                     rotate_left
                     · simp only [Act.put, zaa, zab, zac, zbu, zbv]
                       rfl
                     refine pure_ (i := 18) (N := some 59) (v := ?_) (a' := ?_) tafq rfl rfl (zbw HT_.out (by kernel_rfl)) (fun _ _ _ h => h) (Or.inl ⟨by rfl, ?_⟩) ?_ ?_
                     rotate_left
                     · intro w'
                       go_simp; with_reducible rfl
                     rotate_left
                     · simp only [Act.put, zaa, zab, zac, zbu, zbv]
                       rfl
                     refine pure_ (i := 19) (N := some 60) (v := ?_) (a' := ?_) tafr rfl rfl (zbw HT_.out (by kernel_rfl)) (fun _ _ _ h => h) (Or.inl ⟨by rfl, ?_⟩) ?_ ?_
                     rotate_left
                     · intro w'
                       go_simp; with_reducible rfl
                     rotate_left
                     · simp only [Act.put, zaa, zab, zac, zbu, zbv]
                       rfl
                     refine done_ (done_of HT_.out (by kernel_rfl)) ?_
                     have p389 : 0 ≤ (t380 : Int) := zas (taab)
                     have q389 : t380 < (x7_1.length : Int) := zas (taab)
                     obtain ⟨ad389, e389, hx389_0⟩ := zbx (zbd HO_7.out).2.2 t380 p389 q389
                     obtain rfl : ad386 = ad389 := (by injection e389)
                     replace p389 := eq_true p389
                     replace q389 := eq_true q389
                     have p29 : 0 ≤ (t380 : Int) := zas (taab)
                     have q29 : (t380 : Int) < ((x7_1.length : Int) : Int) := zas (taab)
                     obtain ⟨go29, co29, eo29, gb29, gl29, cl29, HG29⟩ := Kd.R_form HO_7.out (by omega)
                     (first | cases eo29 | (injection eo29 with ea_ en_ ec_; (first | subst ea_ | (injection ea_ with ea_; subst ea_)); subst ec_; clear en_))
                     have GB29 := zad gb29; have GG29 := zad HG29; clear gb29 gl29 HG29; (first | simp only [add_plain] at hx386_0 | skip)
                     (first | simp only [add_plain] at hx387_0 | skip)
                     (first | simp only [add_plain] at hx388_0 | skip)
                     (first | simp only [add_plain] at hx389_0 | skip)
                     obtain ⟨hx29_0, hf29_0⟩ := Kd.R_celln 0 HO_7.out (t380 : Int) p29 q29
                     replace p29 := eq_true p29
                     replace q29 := eq_true q29
                     obtain ⟨hy35_, hz35_⟩ := Kd.R_celln 0 HO_7.out (t380 : Int) (zas (taab)) (zas (taab))
                     have HP35 := Kd.R_putg HO_7.out (t380 : Int) (wrap64 ((rd x7_1 t380) - 1))
                     try go_wp2_with (first | ((with_reducible refine gate_store (t := 3) (p := 66) rfl ?_); refine store_event (t := 3) (p := 66) (v := ?vo_w36) (w1 := (w34.setCell ⟨go29, (t380 : Int).toNat, none⟩ (.int .i64 (wrap64 ((rd x7_1 t380) - 1))))) ?hg ?ho ?hn ?hr ?_; (case ho => rfl); (case hg => rfl); (case hn => rfl); (case hr => first | (go_simp; done) | (go_simp; rfl)); intro w36 hw; have hg : w34.grownBy w36 (some go29) := (by rw [hw]; exact HP35.2); have hp_ : Kd.R (Kd.int .i64) 3 w36 w.heap.size (fun k_ => some k_ ≠ (.slice Ao14 t358.length co14 : Value).ownBlock) (.slice (some ⟨go29, 0, none⟩) x7_1.length co31) y390 := (by rw [hw, Ny390.out]; exact HP35.1); clear HP35; have n0_ := zad (Kd.R_after (v := (.slice (some ⟨go29, 0, none⟩) x7_1.length co31)) (v1 := (.slice (some ⟨go29, 0, none⟩) x7_1.length co31)) (ok := (fun _ => True)) (tacr) hg (.inl rfl)); have n1_ := zad (hp_); have n2_ := zad (IsS51.grown (taal) hg (IsS51.own_ne HI0.out HO_7.out (by decide))); have n3_ := zad ((by rw [hw]; exact zah (HB.out) (Nat.le_trans HL.out GB29.out) : Below w0.heap.size w0 w36)); have n4_ := zad (zbq (taak) (KeepBut.of_grown hg g) (Kd.R_base2 HO_7.out)); clear HO_6 HO_7 HI0 HB HK; have HO_6 := n0_; have HO_7 := n1_; have HI0 := n2_; have HB := n3_; have HK := n4_; clear n0_ n1_ n2_ n3_ n4_ hg hw hp_; have p391 : 0 ≤ (t383 : Int) := zas (taab); have q391 : t383 < (y390.length : Int) := (by have h_ : (t383 : Int) < ((x7_1.length : Int) : Int) := zas (taab); first | (have e_ := (zbd HO_7.out).1; omega) | simpa only [Ny390.out, List.length_set] using h_); have ql391 : ((t383 : Int) < ((x7_1.length : Int) : Int)) = True := eq_true (zas (taab)); obtain ⟨ad391, e391, hx391_0⟩ := zbx (zbd HO_7.out).2.2 t383 p391 q391; obtain rfl : (⟨go29, 0, none⟩ : Addr) = ad391 := (by injection e391); (first | simp only [add_plain] at hx391_0 | simp only [add_at] at hx391_0 | simp only [Addr.add, Nat.zero_add] at hx391_0 | skip); replace p391 := eq_true p391; replace q391 := eq_true q391; have p30 : 0 ≤ (t383 : Int) := zas (taab); have q30 : (t383 : Int) < ((x7_1.length : Int) : Int) := zas (taab); obtain ⟨hx30_0, hf30_0⟩ := Kd.R_celln 0 HO_7.out (t383 : Int) p30 q30; replace p30 := eq_true p30; replace q30 := eq_true q30; obtain ⟨hy37_, hz37_⟩ := Kd.R_celln 0 HO_7.out (t383 : Int) (zas (taab)) (zas (taab)); have HP37 := Kd.R_putg HO_7.out (t383 : Int) (wrap64 ((rd y390 t383) + 1))) | ((with_reducible refine gate_store (t := 3) (p := 72) rfl ?_); refine store_event (t := 3) (p := 72) (v := ?vo_w38) (w1 := (w36.setCell ⟨go29, (t383 : Int).toNat, none⟩ (.int .i64 (wrap64 ((rd y390 t383) + 1))))) ?hg ?ho ?hn ?hr ?_; (case ho => rfl); (case hg => rfl); (case hn => rfl); (case hr => first | (go_simp; done) | (go_simp; rfl)); intro w38 hw; have hg : w36.grownBy w38 (some go29) := (by rw [hw]; exact HP37.2); have hp_ : Kd.R (Kd.int .i64) 3 w38 w.heap.size (fun k_ => some k_ ≠ (.slice Ao14 t358.length co14 : Value).ownBlock) (.slice (some ⟨go29, 0, none⟩) x7_1.length co31) y392 := (by rw [hw, Ny392.out]; exact HP37.1); clear HP37; have n0_ := zad (Kd.R_after (v := (.slice (some ⟨go29, 0, none⟩) x7_1.length co31)) (v1 := (.slice (some ⟨go29, 0, none⟩) x7_1.length co31)) (ok := (fun _ => True)) (taae) hg (.inl rfl)); have n1_ := zad (hp_); have n2_ := zad (IsS51.grown (taal) hg (IsS51.own_ne HI0.out HO_7.out (by decide))); have n3_ := zad ((by rw [hw]; exact zah (HB.out) (Nat.le_trans HL.out GB29.out) : Below w0.heap.size w0 w38)); have n4_ := zad (zbq (taak) (KeepBut.of_grown hg g) (Kd.R_base2 HO_7.out)); clear HO_6 HO_7 HI0 HB HK; have HO_6 := n0_; have HO_7 := n1_; have HI0 := n2_; have HB := n3_; have HK := n4_; clear n0_ n1_ n2_ n3_ n4_ hg hw hp_))
                     go_roundg kj16
                     case measure => have := HK1.out; have := HJ16.out; omega
                     case rel => exact ⟨(y392), (wrap64 (x8_1 - 1)), (t384), (t385), (taad), H', ⟨tace⟩, ⟨tacs⟩, ⟨taag⟩, ⟨taal⟩, ⟨taak⟩, ⟨taar⟩⟩
                   · rw [if_neg c28] at H
                     have c28b0 : decide ((rd x7_1 t383) < (rd x7_1 t380)) = false := zbh c28
                     clear c28; replace H := zay.mp H; obtain ⟨⟨t393, t394, t395⟩, A390, H⟩ := H
                     replace H : (if t393 = true then ((some (x7_1.set (t380 : Int).toNat (wrap64 ((rd x7_1 t380) - 1)) : List Int)).bind fun y397 => (spec_l1Cur_fitting.l0 kj16 t358 (y397.set (t383 : Int).toNat (wrap64 ((rd y397 t383) + 1))) (wrap64 (x8_1 - 1)) s0_0 t394 t395)) else (spec_l1Cur_fitting.l0 kj16 t358 x7_1 (wrap64 (x8_1 - 1)) s0_0 t394 t395)) = some (r1, r2, r3, r4) := H
                     have A39 := zad A390; clear A390; by_cases c40 : t393 = true
                     · subst c40
                       have H1 : ((some (x7_1.set (t380 : Int).toNat (wrap64 ((rd x7_1 t380) - 1)) : List Int)).bind fun y397 => (spec_l1Cur_fitting.l0 kj16 t358 (y397.set (t383 : Int).toNat (wrap64 ((rd y397 t383) + 1))) (wrap64 (x8_1 - 1)) s0_0 t394 t395)) = some (r1, r2, r3, r4) := by rw [if_pos rfl] at H; exact H
                       clear H; have H := H1; clear H1; obtain ⟨y397, hy397⟩ : ∃ y_ : List Int, y_ = (x7_1.set (t380 : Int).toNat (wrap64 ((rd x7_1 t380) - 1))) := ⟨_, rfl⟩
                       replace H : (spec_l1Cur_fitting.l0 kj16 t358 (y397.set (t383 : Int).toNat (wrap64 ((rd y397 t383) + 1))) (wrap64 (x8_1 - 1)) s0_0 t394 t395) = some (r1, r2, r3, r4) := by first | (rw [hy397]; with_reducible exact H) | (have H2_ := (zbb _ _).symm.trans H; rw [hy397]; with_reducible exact H2_) | (have H2_ := (zbb _ _).symm.trans H; with_reducible exact H2_) | with_reducible exact H | (rw [hy397]; exact H) | exact H
                       have Ny397 := zad hy397; clear hy397; obtain ⟨y399, hy399⟩ : ∃ y_ : List Int, y_ = (y397.set (t383 : Int).toNat (wrap64 ((rd y397 t383) + 1))) := ⟨_, rfl⟩
                       replace H : (spec_l1Cur_fitting.l0 kj16 t358 y399 (wrap64 (x8_1 - 1)) s0_0 t394 t395) = some (r1, r2, r3, r4) := by first | (rw [hy399]; with_reducible exact H) | (have H2_ := (zbb _ _).symm.trans H; rw [hy399]; with_reducible exact H2_) | (have H2_ := (zbb _ _).symm.trans H; with_reducible exact H2_) | with_reducible exact H | (rw [hy399]; exact H) | exact H
                       have Ny399 := zad hy399; clear hy399; have H' := zad H
                       clear H; obtain ⟨Ao43, co43, eo43⟩ := zbt HO_7.out
                       subst eo43; try go_wp2_with (first | ((with_reducible refine zbf (f := 47) rfl ?_); refine zbl (some 36) rfl rfl Try.func47 (by kernel_rfl) rfl #[.pointer (some ⟨g, 0, none⟩), .int .i64 (x7_1.length : Int)] rfl (taac) ?_; (with_reducible refine (zcj g s0_0 x1001_1 x1002_1 (x7_1.length : Int) t380 t381 t382 w0 _ ?side1 ?side2 A21.out).mono ?_); (case side1 => repeat (first | (with_reducible first | exact HI0.out | apply zcd | apply zce | apply zcf | apply zch | apply zci) | exact HI0.out)); (case side2 => repeat (first | (with_reducible first | exact HB.out | apply zag | apply zae | apply zaf | refine zah ?_ (zcg HI0.out)) | exact HB.out)); rintro e w44 ⟨rfl, hi, hb, hk⟩; refine ⟨_, rfl, ?_⟩; have n0_ := zad (zbo (zbp (IsS51.apart (show IsS51 w0 _ g s0_0 x1001_1 x1002_1 from by exact taej) (taae) (by decide)) hk (fun _ h => h.2)) (fun _ h => h.1)); have n1_ := zad (zbo (zbp (IsS51.apart (show IsS51 w0 _ g s0_0 x1001_1 x1002_1 from by exact taej) (taag) (by decide)) hk (fun _ h => h.2)) (fun _ h => h.1)); have n2_ := zad (zbq (taak) hk (.inl rfl)); have n3_ := zad (hb); have n4_ := zad (hi); clear HO_6 HO_7 HK HB HI0; have HO_6 := n0_; have HO_7 := n1_; have HK := n2_; have HB := n3_; have HI0 := n4_; clear n0_ n1_ n2_ n3_ n4_; (try clear hb); (try clear hb2); (try clear hk); (try clear hi)) | ((with_reducible refine zbf (f := 47) rfl ?_); refine zbl (some 40) rfl rfl Try.func47 (by kernel_rfl) rfl #[.pointer (some ⟨g, 0, none⟩), .int .i64 (x7_1.length : Int)] rfl (taac) ?_; (with_reducible refine (zcj g s0_0 t381 t382 (x7_1.length : Int) t383 t384 t385 w0 _ ?side1 ?side2 A22.out).mono ?_); (case side1 => repeat (first | (with_reducible first | exact HI0.out | apply zcd | apply zce | apply zcf | apply zch | apply zci) | exact HI0.out)); (case side2 => repeat (first | (with_reducible first | exact HB.out | apply zag | apply zae | apply zaf | refine zah ?_ (zcg HI0.out)) | exact HB.out)); rintro e w45 ⟨rfl, hi, hb, hk⟩; refine ⟨_, rfl, ?_⟩; have n0_ := zad (zbo (zbp (IsS51.apart (show IsS51 w0 _ g s0_0 t381 t382 from by exact taej) (taae) (by decide)) hk (fun _ h => h.2)) (fun _ h => h.1)); have n1_ := zad (zbo (zbp (IsS51.apart (show IsS51 w0 _ g s0_0 t381 t382 from by exact taej) (taag) (by decide)) hk (fun _ h => h.2)) (fun _ h => h.1)); have n2_ := zad (zbq (taak) hk (.inl rfl)); have n3_ := zad (hb); have n4_ := zad (hi); clear HO_6 HO_7 HK HB HI0; have HO_6 := n0_; have HO_7 := n1_; have HK := n2_; have HB := n3_; have HI0 := n4_; clear n0_ n1_ n2_ n3_ n4_; (try clear hb); (try clear hb2); (try clear hk); (try clear hi)))
                       have n0_ := zad (zak HO_6.out)
                       have n1_ := zad (zak HO_7.out)
                       have n2_ := zad (zcf HI0.out)
                       have n3_ := zad (zaq HK.out)
                       have n4_ := zad (zaf HB.out)
                       clear HO_6 HO_7 HI0 HK HB; have HO_6 := n0_; have HO_7 := n1_; have HI0 := n2_; have HK := n3_; have HB := n4_; clear n0_ n1_ n2_ n3_ n4_; have p386 : 0 ≤ (t380 : Int) := zas (taab)
                       have q386 : t380 < (x7_1.length : Int) := zas (taab)
                       obtain ⟨ad386, e386, hx386_0⟩ := zbx (zbd HO_7.out).2.2 t380 p386 q386
                       cases e386
                       replace p386 := eq_true p386
                       replace q386 := eq_true q386
                       have p387 : 0 ≤ (t380 : Int) := zas (taab)
                       have q387 : t380 < (x7_1.length : Int) := zas (taab)
                       obtain ⟨ad387, e387, hx387_0⟩ := zbx (zbd HO_7.out).2.2 t380 p387 q387
                       obtain rfl : ad386 = ad387 := (by injection e387)
                       replace p387 := eq_true p387
                       replace q387 := eq_true q387
                       have p388 : 0 ≤ (t383 : Int) := zas (taab)
                       have q388 : t383 < (x7_1.length : Int) := zas (taab)
                       obtain ⟨ad388, e388, hx388_0⟩ := zbx (zbd HO_7.out).2.2 t383 p388 q388
                       obtain rfl : ad386 = ad388 := (by injection e388)
                       replace p388 := eq_true p388
                       replace q388 := eq_true q388
                       refine start_ (n := 20) (S := fun w' => w'.cell? (ad386.add (t380).toNat) = some (.int .i64 (rd x7_1 t380)) ∧ w'.cell? (ad386.add (t380).toNat) = some (.int .i64 (rd x7_1 t380)) ∧ w'.cell? (ad386.add (t383).toNat) = some (.int .i64 (rd x7_1 t383))) (ds := []) #[false, false, false, false, false, false, false, false, false, false, false, false, false, false, false, false, false, false, false, false] (by kernel_rfl) rfl rfl ⟨hx386_0, hx387_0, hx388_0⟩ (fun hHeld => ?_); refine with_tabW spec_l1Cur_fitting.tab9 spec_l1Cur_fitting.bits9 (fun HT_ HW_ => ?_)
                       generalize w45.drew = w46 at HO_6 HO_7 HI0 HK HB hx386_0 hx387_0 hx388_0 hHeld ⊢
                       refine pure_ (i := 0) (N := some 41) (v := ?_) (a' := ?_) taey rfl rfl (zbw HT_.out (by kernel_rfl)) (fun _ _ _ h => h) (Or.inl ⟨by rfl, ?_⟩) ?_ ?_
                       rotate_left
                       · intro w'
                         go_simp; with_reducible rfl
                       rotate_left
                       · simp only [Act.put, zaa, zab, zac, zbu, zbv]
                         rfl
                       refine pure_ (i := 1) (N := some 42) (v := ?_) (a' := ?_) taez rfl rfl (zbw HT_.out (by kernel_rfl)) (fun _ _ _ h => h) (Or.inl ⟨by rfl, ?_⟩) ?_ ?_
                       rotate_left
                       · intro w'
                         go_simp; with_reducible rfl
                       rotate_left
                       · simp only [Act.put, zaa, zab, zac, zbu, zbv]
                         rfl
                       refine pure_ (i := 2) (N := some 43) (v := ?_) (a' := ?_) tafa rfl rfl (zbw HT_.out (by kernel_rfl)) (fun _ _ _ h => h) (Or.inl ⟨by rfl, ?_⟩) ?_ ?_
                       rotate_left
                       · intro w'
                         go_simp; with_reducible rfl
                       rotate_left
                       · simp only [Act.put, zaa, zab, zac, zbu, zbv]
                         rfl
                       refine take_ (i := 3) (N := some 44) (v := ?_) (a' := ?_) tafb rfl rfl (take_ofW HT_.out HW_.out (by kernel_rfl)) (fun _ _ _ h => h) (Or.inl ⟨by rfl, ?_⟩) hHeld ?_ ?_
                       rotate_left
                       · rintro w' ⟨s0, s1, s2⟩
                         go_simp; with_reducible rfl
                       rotate_left
                       · simp only [Act.put, zaa, zab, zac, zbu, zbv]
                         rfl
                       refine pure_ (i := 4) (N := some 45) (v := ?_) (a' := ?_) tafc rfl rfl (zbw HT_.out (by kernel_rfl)) (fun _ _ _ h => h) (Or.inl ⟨by rfl, ?_⟩) ?_ ?_
                       rotate_left
                       · intro w'
                         go_simp; with_reducible rfl
                       rotate_left
                       · simp only [Act.put, zaa, zab, zac, zbu, zbv]
                         rfl
                       refine pure_ (i := 5) (N := some 46) (v := ?_) (a' := ?_) tafd rfl rfl (zbw HT_.out (by kernel_rfl)) (fun _ _ _ h => h) (Or.inl ⟨by rfl, ?_⟩) ?_ ?_
                       rotate_left
                       · intro w'
                         go_simp; with_reducible rfl
                       rotate_left
                       · simp only [Act.put, zaa, zab, zac, zbu, zbv]
                         rfl
                       refine pure_ (i := 6) (N := some 47) (v := ?_) (a' := ?_) tafe rfl rfl (zbw HT_.out (by kernel_rfl)) (fun _ _ _ h => h) (Or.inl ⟨by rfl, ?_⟩) ?_ ?_
                       rotate_left
                       · intro w'
                         go_simp; with_reducible rfl
                       rotate_left
                       · simp only [Act.put, zaa, zab, zac, zbu, zbv]
                         rfl
                       refine pure_ (i := 7) (N := some 48) (v := ?_) (a' := ?_) taff rfl rfl (zbw HT_.out (by kernel_rfl)) (fun _ _ _ h => h) (Or.inl ⟨by rfl, ?_⟩) ?_ ?_
                       rotate_left
                       · intro w'
                         go_simp; with_reducible rfl
                       rotate_left
                       · simp only [Act.put, zaa, zab, zac, zbu, zbv]
                         rfl
                       refine pure_ (i := 8) (N := some 49) (v := ?_) (a' := ?_) tafg rfl rfl (zbw HT_.out (by kernel_rfl)) (fun _ _ _ h => h) (Or.inl ⟨by rfl, ?_⟩) ?_ ?_
                       rotate_left
                       · intro w'
                         go_simp; with_reducible rfl
                       rotate_left
                       · simp only [Act.put, zaa, zab, zac, zbu, zbv]
                         rfl
                       refine pure_ (i := 10) (N := some 51) (v := ?_) (a' := ?_) tafh rfl rfl (zbw HT_.out (by kernel_rfl)) (fun _ _ _ h => h) (Or.inl ⟨by rfl, ?_⟩) ?_ ?_
                       rotate_left
                       · intro w'
                         go_simp; with_reducible rfl
                       rotate_left
                       · simp only [Act.put, zaa, zab, zac, zbu, zbv]
                         rfl
                       refine pure_ (i := 11) (N := some 52) (v := ?_) (a' := ?_) tafi rfl rfl (zbw HT_.out (by kernel_rfl)) (fun _ _ _ h => h) (Or.inl ⟨by rfl, ?_⟩) ?_ ?_
                       rotate_left
                       · intro w'
                         go_simp; with_reducible rfl
                       rotate_left
                       · simp only [Act.put, zaa, zab, zac, zbu, zbv]
                         rfl
                       refine pure_ (i := 12) (N := some 53) (v := ?_) (a' := ?_) tafj rfl rfl (zbw HT_.out (by kernel_rfl)) (fun _ _ _ h => h) (Or.inl ⟨by rfl, ?_⟩) ?_ ?_
                       rotate_left
                       · intro w'
                         go_simp; with_reducible rfl
                       rotate_left
                       · simp only [Act.put, zaa, zab, zac, zbu, zbv]
                         rfl
                       refine take_ (i := 9) (N := some 50) (v := ?_) (a' := ?_) tafk rfl rfl (take_ofW HT_.out HW_.out (by kernel_rfl)) (fun _ _ _ h => h) (Or.inl ⟨by rfl, ?_⟩) hHeld ?_ ?_
                       rotate_left
                       · rintro w' ⟨s0, s1, s2⟩
                         go_simp; with_reducible rfl
                       rotate_left
                       · simp only [Act.put, zaa, zab, zac, zbu, zbv]
                         rfl
                       refine take_ (i := 13) (N := some 54) (v := ?_) (a' := ?_) tafl rfl rfl (take_ofW HT_.out HW_.out (by kernel_rfl)) (fun _ _ _ h => h) (Or.inl ⟨by rfl, ?_⟩) hHeld ?_ ?_
                       rotate_left
                       · rintro w' ⟨s0, s1, s2⟩
                         go_simp; with_reducible rfl
                       rotate_left
                       · simp only [Act.put, zaa, zab, zac, zbu, zbv]
                         rfl
                       refine pure_ (i := 14) (N := some 55) (v := ?_) (a' := ?_) tafm rfl rfl (zbw HT_.out (by kernel_rfl)) (fun _ _ _ h => h) (Or.inl ⟨by rfl, ?_⟩) ?_ ?_
                       rotate_left
                       · intro w'
                         go_simp; with_reducible rfl
                       rotate_left
                       · simp only [Act.put, zaa, zab, zac, zbu, zbv]
                         rfl
                       refine pure_ (i := 15) (N := some 56) (v := ?_) (a' := ?_) tafn rfl rfl (zbw HT_.out (by kernel_rfl)) (fun _ _ _ h => h) (Or.inl ⟨by rfl, ?_⟩) ?_ ?_
                       rotate_left
                       · intro w'
                         go_simp; with_reducible rfl
                       rotate_left
                       · simp only [Act.put, zaa, zab, zac, zbu, zbv]
                         rfl
                       refine pure_ (i := 16) (N := some 57) (v := ?_) (a' := ?_) tafo rfl rfl (zbw HT_.out (by kernel_rfl)) (fun _ _ _ h => h) (Or.inl ⟨by rfl, ?_⟩) ?_ ?_
                       rotate_left
                       · intro w'
                         go_simp; with_reducible rfl
                       rotate_left
                       · simp only [Act.put, zaa, zab, zac, zbu, zbv]
                         rfl
                       refine one_ (i := 17) (N := some 58) #[true, true, true, true, true, true, true, true, true, true, true, true, true, true, true, true, true, true, false, false] rfl rfl (one_of HT_.out (by kernel_rfl)) (by decide) (fun K hK => ?_)
                       refine goes_ Try.func46 (by kernel_rfl) rfl #[.pointer (some ⟨g, 0, none⟩), .int .i64 4] (by rfl) rfl rfl (taac) ?_
                       with_reducible refine (spec_l1Cur_one.calls g s0_0 t384 t385 4 true t394 t395 w0 _ ?side1 ?side2 A39.out).mono ?_
                       (case side1 => exact tael)
                       (case side2 => exact taem)
                       rintro e w47 ⟨rfl, hi, hb, hk⟩
                       have HS0_ := keep_cell hk (hHeld.1) (tabo)
                       have HS1_ := keep_cell hk (hHeld.2.1) (tabo)
                       have HS2_ := keep_cell hk (hHeld.2.2) (tabo)
                       refine ⟨_, rfl, ?_⟩
                       have n0_ := zad (zbo (zbp (IsS51.apart (show IsS51 w0 _ g s0_0 t384 t385 from by exact taej) (taae) (by decide)) hk (fun _ h => h.2)) (fun _ h => h.1))
                       have n1_ := zad (zbo (zbp (IsS51.apart (show IsS51 w0 _ g s0_0 t384 t385 from by exact taej) (taag) (by decide)) hk (fun _ h => h.2)) (fun _ h => h.1))
                       have n2_ := zad (zbq (taak) hk (.inl rfl))
                       have n3_ := zad (hb)
                       have n4_ := zad (hi)
                       clear HO_6 HO_7 HK HB HI0; have HO_6 := n0_; have HO_7 := n1_; have HK := n2_; have HB := n3_; have HI0 := n4_; clear n0_ n1_ n2_ n3_ n4_; (try clear hb); (try clear hb2); (try clear hk); (try clear hi); refine hK.out _ _ ⟨HS0_, HS1_, HS2_⟩ (fun hHeld => ?_)
                       clear hK K; refine norm_ (a' := ?_) ?_ ?_
                       rotate_left
                       · show Act.put _ (some 58) _ = _
                         simp only [Act.put, zaa, zab, zac, zbu, zbv]
                         rfl
                       refine pure_ (i := 18) (N := some 59) (v := ?_) (a' := ?_) tafq rfl rfl (zbw HT_.out (by kernel_rfl)) (fun _ _ _ h => h) (Or.inl ⟨by rfl, ?_⟩) ?_ ?_
                       rotate_left
                       · intro w'
                         go_simp; with_reducible rfl
                       rotate_left
                       · simp only [Act.put, zaa, zab, zac, zbu, zbv]
                         rfl
                       refine pure_ (i := 19) (N := some 60) (v := ?_) (a' := ?_) tafr rfl rfl (zbw HT_.out (by kernel_rfl)) (fun _ _ _ h => h) (Or.inl ⟨by rfl, ?_⟩) ?_ ?_
                       rotate_left
                       · intro w'
                         go_simp; with_reducible rfl
                       rotate_left
                       · simp only [Act.put, zaa, zab, zac, zbu, zbv]
                         rfl
                       refine done_ (done_of HT_.out (by kernel_rfl)) ?_
                       have p396 : 0 ≤ (t380 : Int) := zas (taab)
                       have q396 : t380 < (x7_1.length : Int) := zas (taab)
                       obtain ⟨ad396, e396, hx396_0⟩ := zbx (zbd HO_7.out).2.2 t380 p396 q396
                       obtain rfl : ad386 = ad396 := (by injection e396)
                       replace p396 := eq_true p396
                       replace q396 := eq_true q396
                       have p41 : 0 ≤ (t380 : Int) := zas (taab)
                       have q41 : (t380 : Int) < ((x7_1.length : Int) : Int) := zas (taab)
                       obtain ⟨go41, co41, eo41, gb41, gl41, cl41, HG41⟩ := Kd.R_form HO_7.out (by omega)
                       (first | cases eo41 | (injection eo41 with ea_ en_ ec_; (first | subst ea_ | (injection ea_ with ea_; subst ea_)); subst ec_; clear en_))
                       have GB41 := zad gb41; have GG41 := zad HG41; clear gb41 gl41 HG41; (first | simp only [add_plain] at hx386_0 | skip)
                       (first | simp only [add_plain] at hx387_0 | skip)
                       (first | simp only [add_plain] at hx388_0 | skip)
                       (first | simp only [add_plain] at hx396_0 | skip)
                       obtain ⟨hx41_0, hf41_0⟩ := Kd.R_celln 0 HO_7.out (t380 : Int) p41 q41
                       replace p41 := eq_true p41
                       replace q41 := eq_true q41
                       obtain ⟨hy48_, hz48_⟩ := Kd.R_celln 0 HO_7.out (t380 : Int) (zas (taab)) (zas (taab))
                       have HP48 := Kd.R_putg HO_7.out (t380 : Int) (wrap64 ((rd x7_1 t380) - 1))
                       try go_wp2_with (first | ((with_reducible refine gate_store (t := 3) (p := 66) rfl ?_); refine store_event (t := 3) (p := 66) (v := ?vo_w49) (w1 := (w47.setCell ⟨go41, (t380 : Int).toNat, none⟩ (.int .i64 (wrap64 ((rd x7_1 t380) - 1))))) ?hg ?ho ?hn ?hr ?_; (case ho => rfl); (case hg => rfl); (case hn => rfl); (case hr => first | (go_simp; done) | (go_simp; rfl)); intro w49 hw; have hg : w47.grownBy w49 (some go41) := (by rw [hw]; exact HP48.2); have hp_ : Kd.R (Kd.int .i64) 3 w49 w.heap.size (fun k_ => some k_ ≠ (.slice Ao14 t358.length co14 : Value).ownBlock) (.slice (some ⟨go41, 0, none⟩) x7_1.length co43) y397 := (by rw [hw, Ny397.out]; exact HP48.1); clear HP48; have n0_ := zad (Kd.R_after (v := (.slice (some ⟨go41, 0, none⟩) x7_1.length co43)) (v1 := (.slice (some ⟨go41, 0, none⟩) x7_1.length co43)) (ok := (fun _ => True)) (tacr) hg (.inl rfl)); have n1_ := zad (hp_); have n2_ := zad (IsS51.grown (taal) hg (IsS51.own_ne HI0.out HO_7.out (by decide))); have n3_ := zad ((by rw [hw]; exact zah (HB.out) (Nat.le_trans HL.out GB41.out) : Below w0.heap.size w0 w49)); have n4_ := zad (zbq (taak) (KeepBut.of_grown hg g) (Kd.R_base2 HO_7.out)); clear HO_6 HO_7 HI0 HB HK; have HO_6 := n0_; have HO_7 := n1_; have HI0 := n2_; have HB := n3_; have HK := n4_; clear n0_ n1_ n2_ n3_ n4_ hg hw hp_; have p398 : 0 ≤ (t383 : Int) := zas (taab); have q398 : t383 < (y397.length : Int) := (by have h_ : (t383 : Int) < ((x7_1.length : Int) : Int) := zas (taab); first | (have e_ := (zbd HO_7.out).1; omega) | simpa only [Ny397.out, List.length_set] using h_); have ql398 : ((t383 : Int) < ((x7_1.length : Int) : Int)) = True := eq_true (zas (taab)); obtain ⟨ad398, e398, hx398_0⟩ := zbx (zbd HO_7.out).2.2 t383 p398 q398; obtain rfl : (⟨go41, 0, none⟩ : Addr) = ad398 := (by injection e398); (first | simp only [add_plain] at hx398_0 | simp only [add_at] at hx398_0 | simp only [Addr.add, Nat.zero_add] at hx398_0 | skip); replace p398 := eq_true p398; replace q398 := eq_true q398; have p42 : 0 ≤ (t383 : Int) := zas (taab); have q42 : (t383 : Int) < ((x7_1.length : Int) : Int) := zas (taab); obtain ⟨hx42_0, hf42_0⟩ := Kd.R_celln 0 HO_7.out (t383 : Int) p42 q42; replace p42 := eq_true p42; replace q42 := eq_true q42; obtain ⟨hy50_, hz50_⟩ := Kd.R_celln 0 HO_7.out (t383 : Int) (zas (taab)) (zas (taab)); have HP50 := Kd.R_putg HO_7.out (t383 : Int) (wrap64 ((rd y397 t383) + 1))) | ((with_reducible refine gate_store (t := 3) (p := 72) rfl ?_); refine store_event (t := 3) (p := 72) (v := ?vo_w51) (w1 := (w49.setCell ⟨go41, (t383 : Int).toNat, none⟩ (.int .i64 (wrap64 ((rd y397 t383) + 1))))) ?hg ?ho ?hn ?hr ?_; (case ho => rfl); (case hg => rfl); (case hn => rfl); (case hr => first | (go_simp; done) | (go_simp; rfl)); intro w51 hw; have hg : w49.grownBy w51 (some go41) := (by rw [hw]; exact HP50.2); have hp_ : Kd.R (Kd.int .i64) 3 w51 w.heap.size (fun k_ => some k_ ≠ (.slice Ao14 t358.length co14 : Value).ownBlock) (.slice (some ⟨go41, 0, none⟩) x7_1.length co43) y399 := (by rw [hw, Ny399.out]; exact HP50.1); clear HP50; have n0_ := zad (Kd.R_after (v := (.slice (some ⟨go41, 0, none⟩) x7_1.length co43)) (v1 := (.slice (some ⟨go41, 0, none⟩) x7_1.length co43)) (ok := (fun _ => True)) (taae) hg (.inl rfl)); have n1_ := zad (hp_); have n2_ := zad (IsS51.grown (taal) hg (IsS51.own_ne HI0.out HO_7.out (by decide))); have n3_ := zad ((by rw [hw]; exact zah (HB.out) (Nat.le_trans HL.out GB41.out) : Below w0.heap.size w0 w51)); have n4_ := zad (zbq (taak) (KeepBut.of_grown hg g) (Kd.R_base2 HO_7.out)); clear HO_6 HO_7 HI0 HB HK; have HO_6 := n0_; have HO_7 := n1_; have HI0 := n2_; have HB := n3_; have HK := n4_; clear n0_ n1_ n2_ n3_ n4_ hg hw hp_))
                       go_roundg kj16
                       case measure => have := HK1.out; have := HJ16.out; omega
                       case rel => exact ⟨(y399), (wrap64 (x8_1 - 1)), (t394), (t395), (taad), H', ⟨tace⟩, ⟨tacs⟩, ⟨taag⟩, ⟨taal⟩, ⟨taak⟩, ⟨taar⟩⟩
                     · replace c40 := zbg.mpr c40
                       subst c40; have H1 : (spec_l1Cur_fitting.l0 kj16 t358 x7_1 (wrap64 (x8_1 - 1)) s0_0 t394 t395) = some (r1, r2, r3, r4) := by rw [if_neg (show ¬ (false = true) by decide)] at H; exact H
                       clear H; have H := H1; clear H1; have H' := zad H
                       clear H; obtain ⟨Ao52, co52, eo52⟩ := zbt HO_7.out
                       subst eo52; try go_wp2_with (first | ((with_reducible refine zbf (f := 47) rfl ?_); refine zbl (some 36) rfl rfl Try.func47 (by kernel_rfl) rfl #[.pointer (some ⟨g, 0, none⟩), .int .i64 (x7_1.length : Int)] rfl (taac) ?_; (with_reducible refine (zcj g s0_0 x1001_1 x1002_1 (x7_1.length : Int) t380 t381 t382 w0 _ ?side1 ?side2 A21.out).mono ?_); (case side1 => repeat (first | (with_reducible first | exact HI0.out | apply zcd | apply zce | apply zcf | apply zch | apply zci) | exact HI0.out)); (case side2 => repeat (first | (with_reducible first | exact HB.out | apply zag | apply zae | apply zaf | refine zah ?_ (zcg HI0.out)) | exact HB.out)); rintro e w53 ⟨rfl, hi, hb, hk⟩; refine ⟨_, rfl, ?_⟩; have n0_ := zad (zbo (zbp (IsS51.apart (show IsS51 w0 _ g s0_0 x1001_1 x1002_1 from by exact taej) (taae) (by decide)) hk (fun _ h => h.2)) (fun _ h => h.1)); have n1_ := zad (zbo (zbp (IsS51.apart (show IsS51 w0 _ g s0_0 x1001_1 x1002_1 from by exact taej) (taag) (by decide)) hk (fun _ h => h.2)) (fun _ h => h.1)); have n2_ := zad (zbq (taak) hk (.inl rfl)); have n3_ := zad (hb); have n4_ := zad (hi); clear HO_6 HO_7 HK HB HI0; have HO_6 := n0_; have HO_7 := n1_; have HK := n2_; have HB := n3_; have HI0 := n4_; clear n0_ n1_ n2_ n3_ n4_; (try clear hb); (try clear hb2); (try clear hk); (try clear hi)) | ((with_reducible refine zbf (f := 47) rfl ?_); refine zbl (some 40) rfl rfl Try.func47 (by kernel_rfl) rfl #[.pointer (some ⟨g, 0, none⟩), .int .i64 (x7_1.length : Int)] rfl (taac) ?_; (with_reducible refine (zcj g s0_0 t381 t382 (x7_1.length : Int) t383 t384 t385 w0 _ ?side1 ?side2 A22.out).mono ?_); (case side1 => repeat (first | (with_reducible first | exact HI0.out | apply zcd | apply zce | apply zcf | apply zch | apply zci) | exact HI0.out)); (case side2 => repeat (first | (with_reducible first | exact HB.out | apply zag | apply zae | apply zaf | refine zah ?_ (zcg HI0.out)) | exact HB.out)); rintro e w54 ⟨rfl, hi, hb, hk⟩; refine ⟨_, rfl, ?_⟩; have n0_ := zad (zbo (zbp (IsS51.apart (show IsS51 w0 _ g s0_0 t381 t382 from by exact taej) (taae) (by decide)) hk (fun _ h => h.2)) (fun _ h => h.1)); have n1_ := zad (zbo (zbp (IsS51.apart (show IsS51 w0 _ g s0_0 t381 t382 from by exact taej) (taag) (by decide)) hk (fun _ h => h.2)) (fun _ h => h.1)); have n2_ := zad (zbq (taak) hk (.inl rfl)); have n3_ := zad (hb); have n4_ := zad (hi); clear HO_6 HO_7 HK HB HI0; have HO_6 := n0_; have HO_7 := n1_; have HK := n2_; have HB := n3_; have HI0 := n4_; clear n0_ n1_ n2_ n3_ n4_; (try clear hb); (try clear hb2); (try clear hk); (try clear hi)))
                       have n0_ := zad (zak HO_6.out)
                       have n1_ := zad (zak HO_7.out)
                       have n2_ := zad (zcf HI0.out)
                       have n3_ := zad (zaq HK.out)
                       have n4_ := zad (zaf HB.out)
                       clear HO_6 HO_7 HI0 HK HB; have HO_6 := n0_; have HO_7 := n1_; have HI0 := n2_; have HK := n3_; have HB := n4_; clear n0_ n1_ n2_ n3_ n4_; have p386 : 0 ≤ (t380 : Int) := zas (taab)
                       have q386 : t380 < (x7_1.length : Int) := zas (taab)
                       obtain ⟨ad386, e386, hx386_0⟩ := zbx (zbd HO_7.out).2.2 t380 p386 q386
                       cases e386
                       replace p386 := eq_true p386
                       replace q386 := eq_true q386
                       have p387 : 0 ≤ (t380 : Int) := zas (taab)
                       have q387 : t380 < (x7_1.length : Int) := zas (taab)
                       obtain ⟨ad387, e387, hx387_0⟩ := zbx (zbd HO_7.out).2.2 t380 p387 q387
                       obtain rfl : ad386 = ad387 := (by injection e387)
                       replace p387 := eq_true p387
                       replace q387 := eq_true q387
                       have p388 : 0 ≤ (t383 : Int) := zas (taab)
                       have q388 : t383 < (x7_1.length : Int) := zas (taab)
                       obtain ⟨ad388, e388, hx388_0⟩ := zbx (zbd HO_7.out).2.2 t383 p388 q388
                       obtain rfl : ad386 = ad388 := (by injection e388)
                       replace p388 := eq_true p388
                       replace q388 := eq_true q388
                       refine start_ (n := 20) (S := fun w' => w'.cell? (ad386.add (t380).toNat) = some (.int .i64 (rd x7_1 t380)) ∧ w'.cell? (ad386.add (t380).toNat) = some (.int .i64 (rd x7_1 t380)) ∧ w'.cell? (ad386.add (t383).toNat) = some (.int .i64 (rd x7_1 t383))) (ds := []) #[false, false, false, false, false, false, false, false, false, false, false, false, false, false, false, false, false, false, false, false] (by kernel_rfl) rfl rfl ⟨hx386_0, hx387_0, hx388_0⟩ (fun hHeld => ?_); refine with_tabW spec_l1Cur_fitting.tab9 spec_l1Cur_fitting.bits9 (fun HT_ HW_ => ?_)
                       generalize w54.drew = w55 at HO_6 HO_7 HI0 HK HB hx386_0 hx387_0 hx388_0 hHeld ⊢
                       refine pure_ (i := 0) (N := some 41) (v := ?_) (a' := ?_) taey rfl rfl (zbw HT_.out (by kernel_rfl)) (fun _ _ _ h => h) (Or.inl ⟨by rfl, ?_⟩) ?_ ?_
                       rotate_left
                       · intro w'
                         go_simp; with_reducible rfl
                       rotate_left
                       · simp only [Act.put, zaa, zab, zac, zbu, zbv]
                         rfl
                       refine pure_ (i := 1) (N := some 42) (v := ?_) (a' := ?_) taez rfl rfl (zbw HT_.out (by kernel_rfl)) (fun _ _ _ h => h) (Or.inl ⟨by rfl, ?_⟩) ?_ ?_
                       rotate_left
                       · intro w'
                         go_simp; with_reducible rfl
                       rotate_left
                       · simp only [Act.put, zaa, zab, zac, zbu, zbv]
                         rfl
                       refine pure_ (i := 2) (N := some 43) (v := ?_) (a' := ?_) tafa rfl rfl (zbw HT_.out (by kernel_rfl)) (fun _ _ _ h => h) (Or.inl ⟨by rfl, ?_⟩) ?_ ?_
                       rotate_left
                       · intro w'
                         go_simp; with_reducible rfl
                       rotate_left
                       · simp only [Act.put, zaa, zab, zac, zbu, zbv]
                         rfl
                       refine take_ (i := 3) (N := some 44) (v := ?_) (a' := ?_) tafb rfl rfl (take_ofW HT_.out HW_.out (by kernel_rfl)) (fun _ _ _ h => h) (Or.inl ⟨by rfl, ?_⟩) hHeld ?_ ?_
                       rotate_left
                       · rintro w' ⟨s0, s1, s2⟩
                         go_simp; with_reducible rfl
                       rotate_left
                       · simp only [Act.put, zaa, zab, zac, zbu, zbv]
                         rfl
                       refine pure_ (i := 4) (N := some 45) (v := ?_) (a' := ?_) tafc rfl rfl (zbw HT_.out (by kernel_rfl)) (fun _ _ _ h => h) (Or.inl ⟨by rfl, ?_⟩) ?_ ?_
                       rotate_left
                       · intro w'
                         go_simp; with_reducible rfl
                       rotate_left
                       · simp only [Act.put, zaa, zab, zac, zbu, zbv]
                         rfl
                       refine pure_ (i := 5) (N := some 46) (v := ?_) (a' := ?_) tafd rfl rfl (zbw HT_.out (by kernel_rfl)) (fun _ _ _ h => h) (Or.inl ⟨by rfl, ?_⟩) ?_ ?_
                       rotate_left
                       · intro w'
                         go_simp; with_reducible rfl
                       rotate_left
                       · simp only [Act.put, zaa, zab, zac, zbu, zbv]
                         rfl
                       refine pure_ (i := 6) (N := some 47) (v := ?_) (a' := ?_) tafe rfl rfl (zbw HT_.out (by kernel_rfl)) (fun _ _ _ h => h) (Or.inl ⟨by rfl, ?_⟩) ?_ ?_
                       rotate_left
                       · intro w'
                         go_simp; with_reducible rfl
                       rotate_left
                       · simp only [Act.put, zaa, zab, zac, zbu, zbv]
                         rfl
                       refine pure_ (i := 7) (N := some 48) (v := ?_) (a' := ?_) taff rfl rfl (zbw HT_.out (by kernel_rfl)) (fun _ _ _ h => h) (Or.inl ⟨by rfl, ?_⟩) ?_ ?_
                       rotate_left
                       · intro w'
                         go_simp; with_reducible rfl
                       rotate_left
                       · simp only [Act.put, zaa, zab, zac, zbu, zbv]
                         rfl
                       refine pure_ (i := 8) (N := some 49) (v := ?_) (a' := ?_) tafg rfl rfl (zbw HT_.out (by kernel_rfl)) (fun _ _ _ h => h) (Or.inl ⟨by rfl, ?_⟩) ?_ ?_
                       rotate_left
                       · intro w'
                         go_simp; with_reducible rfl
                       rotate_left
                       · simp only [Act.put, zaa, zab, zac, zbu, zbv]
                         rfl
                       refine pure_ (i := 10) (N := some 51) (v := ?_) (a' := ?_) tafh rfl rfl (zbw HT_.out (by kernel_rfl)) (fun _ _ _ h => h) (Or.inl ⟨by rfl, ?_⟩) ?_ ?_
                       rotate_left
                       · intro w'
                         go_simp; with_reducible rfl
                       rotate_left
                       · simp only [Act.put, zaa, zab, zac, zbu, zbv]
                         rfl
                       refine pure_ (i := 11) (N := some 52) (v := ?_) (a' := ?_) tafi rfl rfl (zbw HT_.out (by kernel_rfl)) (fun _ _ _ h => h) (Or.inl ⟨by rfl, ?_⟩) ?_ ?_
                       rotate_left
                       · intro w'
                         go_simp; with_reducible rfl
                       rotate_left
                       · simp only [Act.put, zaa, zab, zac, zbu, zbv]
                         rfl
                       refine pure_ (i := 12) (N := some 53) (v := ?_) (a' := ?_) tafj rfl rfl (zbw HT_.out (by kernel_rfl)) (fun _ _ _ h => h) (Or.inl ⟨by rfl, ?_⟩) ?_ ?_
                       rotate_left
                       · intro w'
                         go_simp; with_reducible rfl
                       rotate_left
                       · simp only [Act.put, zaa, zab, zac, zbu, zbv]
                         rfl
                       refine take_ (i := 9) (N := some 50) (v := ?_) (a' := ?_) tafk rfl rfl (take_ofW HT_.out HW_.out (by kernel_rfl)) (fun _ _ _ h => h) (Or.inl ⟨by rfl, ?_⟩) hHeld ?_ ?_
                       rotate_left
                       · rintro w' ⟨s0, s1, s2⟩
                         go_simp; with_reducible rfl
                       rotate_left
                       · simp only [Act.put, zaa, zab, zac, zbu, zbv]
                         rfl
                       refine take_ (i := 13) (N := some 54) (v := ?_) (a' := ?_) tafl rfl rfl (take_ofW HT_.out HW_.out (by kernel_rfl)) (fun _ _ _ h => h) (Or.inl ⟨by rfl, ?_⟩) hHeld ?_ ?_
                       rotate_left
                       · rintro w' ⟨s0, s1, s2⟩
                         go_simp; with_reducible rfl
                       rotate_left
                       · simp only [Act.put, zaa, zab, zac, zbu, zbv]
                         rfl
                       refine pure_ (i := 14) (N := some 55) (v := ?_) (a' := ?_) tafm rfl rfl (zbw HT_.out (by kernel_rfl)) (fun _ _ _ h => h) (Or.inl ⟨by rfl, ?_⟩) ?_ ?_
                       rotate_left
                       · intro w'
                         go_simp; with_reducible rfl
                       rotate_left
                       · simp only [Act.put, zaa, zab, zac, zbu, zbv]
                         rfl
                       refine pure_ (i := 15) (N := some 56) (v := ?_) (a' := ?_) tafn rfl rfl (zbw HT_.out (by kernel_rfl)) (fun _ _ _ h => h) (Or.inl ⟨by rfl, ?_⟩) ?_ ?_
                       rotate_left
                       · intro w'
                         go_simp; with_reducible rfl
                       rotate_left
                       · simp only [Act.put, zaa, zab, zac, zbu, zbv]
                         rfl
                       refine pure_ (i := 16) (N := some 57) (v := ?_) (a' := ?_) tafo rfl rfl (zbw HT_.out (by kernel_rfl)) (fun _ _ _ h => h) (Or.inl ⟨by rfl, ?_⟩) ?_ ?_
                       rotate_left
                       · intro w'
                         go_simp; with_reducible rfl
                       rotate_left
                       · simp only [Act.put, zaa, zab, zac, zbu, zbv]
                         rfl
                       refine one_ (i := 17) (N := some 58) #[true, true, true, true, true, true, true, true, true, true, true, true, true, true, true, true, true, true, false, false] rfl rfl (one_of HT_.out (by kernel_rfl)) (by decide) (fun K hK => ?_)
                       refine goes_ Try.func46 (by kernel_rfl) rfl #[.pointer (some ⟨g, 0, none⟩), .int .i64 4] (by rfl) rfl rfl (taac) ?_
                       with_reducible refine (spec_l1Cur_one.calls g s0_0 t384 t385 4 false t394 t395 w0 _ ?side1 ?side2 A39.out).mono ?_
                       (case side1 => exact tael)
                       (case side2 => exact taem)
                       rintro e w56 ⟨rfl, hi, hb, hk⟩
                       have HS0_ := keep_cell hk (hHeld.1) (tabo)
                       have HS1_ := keep_cell hk (hHeld.2.1) (tabo)
                       have HS2_ := keep_cell hk (hHeld.2.2) (tabo)
                       refine ⟨_, rfl, ?_⟩
                       have n0_ := zad (zbo (zbp (IsS51.apart (show IsS51 w0 _ g s0_0 t384 t385 from by exact taej) (taae) (by decide)) hk (fun _ h => h.2)) (fun _ h => h.1))
                       have n1_ := zad (zbo (zbp (IsS51.apart (show IsS51 w0 _ g s0_0 t384 t385 from by exact taej) (taag) (by decide)) hk (fun _ h => h.2)) (fun _ h => h.1))
                       have n2_ := zad (zbq (taak) hk (.inl rfl))
                       have n3_ := zad (hb)
                       have n4_ := zad (hi)
                       clear HO_6 HO_7 HK HB HI0; have HO_6 := n0_; have HO_7 := n1_; have HK := n2_; have HB := n3_; have HI0 := n4_; clear n0_ n1_ n2_ n3_ n4_; (try clear hb); (try clear hb2); (try clear hk); (try clear hi); refine hK.out _ _ ⟨HS0_, HS1_, HS2_⟩ (fun hHeld => ?_)
                       clear hK K; refine norm_ (a' := ?_) ?_ ?_
                       rotate_left
                       · show Act.put _ (some 58) _ = _
                         simp only [Act.put, zaa, zab, zac, zbu, zbv]
                         rfl
                       refine pure_ (i := 18) (N := some 59) (v := ?_) (a' := ?_) tafq rfl rfl (zbw HT_.out (by kernel_rfl)) (fun _ _ _ h => h) (Or.inl ⟨by rfl, ?_⟩) ?_ ?_
                       rotate_left
                       · intro w'
                         go_simp; with_reducible rfl
                       rotate_left
                       · simp only [Act.put, zaa, zab, zac, zbu, zbv]
                         rfl
                       refine pure_ (i := 19) (N := some 60) (v := ?_) (a' := ?_) tafr rfl rfl (zbw HT_.out (by kernel_rfl)) (fun _ _ _ h => h) (Or.inl ⟨by rfl, ?_⟩) ?_ ?_
                       rotate_left
                       · intro w'
                         go_simp; with_reducible rfl
                       rotate_left
                       · simp only [Act.put, zaa, zab, zac, zbu, zbv]
                         rfl
                       refine done_ (done_of HT_.out (by kernel_rfl)) ?_
                       try go_wp2
                       go_roundg kj16
                       case measure => have := HK1.out; have := HJ16.out; omega
                       case rel => exact ⟨(x7_1), (wrap64 (x8_1 - 1)), (t394), (t395), (taad), H', ⟨tace⟩, ⟨taae⟩, ⟨taag⟩, ⟨taal⟩, ⟨taak⟩, ⟨taar⟩⟩
                 · rw [if_neg c27] at H
                   exact absurd H (taah)
               · rw [if_neg c26] at H
                 exact absurd H (taah)
             · rw [if_neg c25] at H
               have c25b0 : decide (0 < (rd x7_1 t380)) = false := zbh c25
               clear c25; have H' := zad H
               clear H; obtain ⟨Ao57, co57, eo57⟩ := zbt HO_7.out
               subst eo57; try go_wp2_with (first | ((with_reducible refine zbf (f := 47) rfl ?_); refine zbl (some 36) rfl rfl Try.func47 (by kernel_rfl) rfl #[.pointer (some ⟨g, 0, none⟩), .int .i64 (x7_1.length : Int)] rfl (taac) ?_; (with_reducible refine (zcj g s0_0 x1001_1 x1002_1 (x7_1.length : Int) t380 t381 t382 w0 _ ?side1 ?side2 A21.out).mono ?_); (case side1 => repeat (first | (with_reducible first | exact HI0.out | apply zcd | apply zce | apply zcf | apply zch | apply zci) | exact HI0.out)); (case side2 => repeat (first | (with_reducible first | exact HB.out | apply zag | apply zae | apply zaf | refine zah ?_ (zcg HI0.out)) | exact HB.out)); rintro e w58 ⟨rfl, hi, hb, hk⟩; refine ⟨_, rfl, ?_⟩; have n0_ := zad (zbo (zbp (IsS51.apart (show IsS51 w0 _ g s0_0 x1001_1 x1002_1 from by exact taej) (taae) (by decide)) hk (fun _ h => h.2)) (fun _ h => h.1)); have n1_ := zad (zbo (zbp (IsS51.apart (show IsS51 w0 _ g s0_0 x1001_1 x1002_1 from by exact taej) (taag) (by decide)) hk (fun _ h => h.2)) (fun _ h => h.1)); have n2_ := zad (zbq (taak) hk (.inl rfl)); have n3_ := zad (hb); have n4_ := zad (hi); clear HO_6 HO_7 HK HB HI0; have HO_6 := n0_; have HO_7 := n1_; have HK := n2_; have HB := n3_; have HI0 := n4_; clear n0_ n1_ n2_ n3_ n4_; (try clear hb); (try clear hb2); (try clear hk); (try clear hi)) | ((with_reducible refine zbf (f := 47) rfl ?_); refine zbl (some 40) rfl rfl Try.func47 (by kernel_rfl) rfl #[.pointer (some ⟨g, 0, none⟩), .int .i64 (x7_1.length : Int)] rfl (taac) ?_; (with_reducible refine (zcj g s0_0 t381 t382 (x7_1.length : Int) t383 t384 t385 w0 _ ?side1 ?side2 A22.out).mono ?_); (case side1 => repeat (first | (with_reducible first | exact HI0.out | apply zcd | apply zce | apply zcf | apply zch | apply zci) | exact HI0.out)); (case side2 => repeat (first | (with_reducible first | exact HB.out | apply zag | apply zae | apply zaf | refine zah ?_ (zcg HI0.out)) | exact HB.out)); rintro e w59 ⟨rfl, hi, hb, hk⟩; refine ⟨_, rfl, ?_⟩; have n0_ := zad (zbo (zbp (IsS51.apart (show IsS51 w0 _ g s0_0 t381 t382 from by exact taej) (taae) (by decide)) hk (fun _ h => h.2)) (fun _ h => h.1)); have n1_ := zad (zbo (zbp (IsS51.apart (show IsS51 w0 _ g s0_0 t381 t382 from by exact taej) (taag) (by decide)) hk (fun _ h => h.2)) (fun _ h => h.1)); have n2_ := zad (zbq (taak) hk (.inl rfl)); have n3_ := zad (hb); have n4_ := zad (hi); clear HO_6 HO_7 HK HB HI0; have HO_6 := n0_; have HO_7 := n1_; have HK := n2_; have HB := n3_; have HI0 := n4_; clear n0_ n1_ n2_ n3_ n4_; (try clear hb); (try clear hb2); (try clear hk); (try clear hi)))
               have n0_ := zad (zak HO_6.out)
               have n1_ := zad (zak HO_7.out)
               have n2_ := zad (zcf HI0.out)
               have n3_ := zad (zaq HK.out)
               have n4_ := zad (zaf HB.out)
               clear HO_6 HO_7 HI0 HK HB; have HO_6 := n0_; have HO_7 := n1_; have HI0 := n2_; have HK := n3_; have HB := n4_; clear n0_ n1_ n2_ n3_ n4_; have p386 : 0 ≤ (t380 : Int) := zas (taab)
               have q386 : t380 < (x7_1.length : Int) := zas (taab)
               obtain ⟨ad386, e386, hx386_0⟩ := zbx (zbd HO_7.out).2.2 t380 p386 q386
               cases e386
               replace p386 := eq_true p386
               replace q386 := eq_true q386
               refine start_ (n := 20) (S := fun w' => w'.cell? (ad386.add (t380).toNat) = some (.int .i64 (rd x7_1 t380))) (ds := []) #[false, false, false, false, false, false, false, false, false, false, false, false, false, false, false, false, false, false, false, false] (by kernel_rfl) rfl rfl (hx386_0) (fun hHeld => ?_); refine with_tabW spec_l1Cur_fitting.tab9 spec_l1Cur_fitting.bits9 (fun HT_ HW_ => ?_)
               generalize w59.drew = w60 at HO_6 HO_7 HI0 HK HB hx386_0 hHeld ⊢
               refine pure_ (i := 0) (N := some 41) (v := ?_) (a' := ?_) taey rfl rfl (zbw HT_.out (by kernel_rfl)) (fun _ _ _ h => h) (Or.inl ⟨by rfl, ?_⟩) ?_ ?_
               rotate_left
               · intro w'
                 go_simp; with_reducible rfl
               rotate_left
               · simp only [Act.put, zaa, zab, zac, zbu, zbv]
                 rfl
               refine pure_ (i := 1) (N := some 42) (v := ?_) (a' := ?_) taez rfl rfl (zbw HT_.out (by kernel_rfl)) (fun _ _ _ h => h) (Or.inl ⟨by rfl, ?_⟩) ?_ ?_
               rotate_left
               · intro w'
                 go_simp; with_reducible rfl
               rotate_left
               · simp only [Act.put, zaa, zab, zac, zbu, zbv]
                 rfl
               refine pure_ (i := 2) (N := some 43) (v := ?_) (a' := ?_) tafa rfl rfl (zbw HT_.out (by kernel_rfl)) (fun _ _ _ h => h) (Or.inl ⟨by rfl, ?_⟩) ?_ ?_
               rotate_left
               · intro w'
                 go_simp; with_reducible rfl
               rotate_left
               · simp only [Act.put, zaa, zab, zac, zbu, zbv]
                 rfl
               refine take_ (i := 3) (N := some 44) (v := ?_) (a' := ?_) tafb rfl rfl (take_ofW HT_.out HW_.out (by kernel_rfl)) (fun _ _ _ h => h) (Or.inl ⟨by rfl, ?_⟩) hHeld ?_ ?_
               rotate_left
               · intro w' s0
                 go_simp; with_reducible rfl
               rotate_left
               · simp only [Act.put, zaa, zab, zac, zbu, zbv]
                 rfl
               refine pure_ (i := 4) (N := some 45) (v := ?_) (a' := ?_) tafc rfl rfl (zbw HT_.out (by kernel_rfl)) (fun _ _ _ h => h) (Or.inl ⟨by rfl, ?_⟩) ?_ ?_
               rotate_left
               · intro w'
                 go_simp; with_reducible rfl
               rotate_left
               · simp only [Act.put, zaa, zab, zac, zbu, zbv]
                 rfl
               refine pure_ (i := 5) (N := some 46) (v := ?_) (a' := ?_) tafd rfl rfl (zbw HT_.out (by kernel_rfl)) (fun _ _ _ h => h) (Or.inl ⟨by rfl, ?_⟩) ?_ ?_
               rotate_left
               · intro w'
                 go_simp; with_reducible rfl
               rotate_left
               · simp only [Act.put, zaa, zab, zac, zbu, zbv]
                 rfl
               refine pure_ (i := 6) (N := some 47) (v := undef) (a' := ?_) tafe rfl rfl (zbw HT_.out (by kernel_rfl)) (fun _ _ _ h => h) (Or.inr ⟨by rfl, rfl⟩) ?_ ?_
               rotate_left
               · simp only [Act.put, zaa, zab, zac, zbu, zbv]
                 rfl
               refine pure_ (i := 7) (N := some 48) (v := undef) (a' := ?_) taff rfl rfl (zbw HT_.out (by kernel_rfl)) (fun _ _ _ h => h) (Or.inr ⟨by rfl, rfl⟩) ?_ ?_
               rotate_left
               · simp only [Act.put, zaa, zab, zac, zbu, zbv]
                 rfl
               refine pure_ (i := 8) (N := some 49) (v := undef) (a' := ?_) tafg rfl rfl (zbw HT_.out (by kernel_rfl)) (fun _ _ _ h => h) (Or.inr ⟨by rfl, rfl⟩) ?_ ?_
               rotate_left
               · simp only [Act.put, zaa, zab, zac, zbu, zbv]
                 rfl
               refine pure_ (i := 9) (N := some 50) (v := undef) (a' := ?_) #[true, true, true, true, true, true, true, true, true, true, false, false, false, false, false, false, false, false, false, false] rfl rfl (zbw HT_.out (by kernel_rfl)) (fun _ _ _ h => h) (Or.inr ⟨by rfl, rfl⟩) ?_ ?_
               rotate_left
               · simp only [Act.put, zaa, zab, zac, zbu, zbv]
                 rfl
               refine pure_ (i := 10) (N := some 51) (v := undef) (a' := ?_) #[true, true, true, true, true, true, true, true, true, true, true, false, false, false, false, false, false, false, false, false] rfl rfl (zbw HT_.out (by kernel_rfl)) (fun _ _ _ h => h) (Or.inr ⟨by rfl, rfl⟩) ?_ ?_
               rotate_left
               · simp only [Act.put, zaa, zab, zac, zbu, zbv]
                 rfl
               refine pure_ (i := 11) (N := some 52) (v := undef) (a' := ?_) #[true, true, true, true, true, true, true, true, true, true, true, true, false, false, false, false, false, false, false, false] rfl rfl (zbw HT_.out (by kernel_rfl)) (fun _ _ _ h => h) (Or.inr ⟨by rfl, rfl⟩) ?_ ?_
               rotate_left
               · simp only [Act.put, zaa, zab, zac, zbu, zbv]
                 rfl
               refine pure_ (i := 12) (N := some 53) (v := undef) (a' := ?_) tafk rfl rfl (zbw HT_.out (by kernel_rfl)) (fun _ _ _ h => h) (Or.inr ⟨by rfl, rfl⟩) ?_ ?_
               rotate_left
               · simp only [Act.put, zaa, zab, zac, zbu, zbv]
                 rfl
               refine pure_ (i := 13) (N := some 54) (v := undef) (a' := ?_) tafl rfl rfl (zbw HT_.out (by kernel_rfl)) (fun _ _ _ h => h) (Or.inr ⟨by rfl, rfl⟩) ?_ ?_
               rotate_left
               · simp only [Act.put, zaa, zab, zac, zbu, zbv]
                 rfl
               refine pure_ (i := 14) (N := some 55) (v := undef) (a' := ?_) tafm rfl rfl (zbw HT_.out (by kernel_rfl)) (fun _ _ _ h => h) (Or.inr ⟨by rfl, rfl⟩) ?_ ?_
               rotate_left
               · simp only [Act.put, zaa, zab, zac, zbu, zbv]
                 rfl
               refine pure_ (i := 15) (N := some 56) (v := undef) (a' := ?_) tafn rfl rfl (zbw HT_.out (by kernel_rfl)) (fun _ _ _ h => h) (Or.inr ⟨by rfl, rfl⟩) ?_ ?_
               rotate_left
               · simp only [Act.put, zaa, zab, zac, zbu, zbv]
                 rfl
               refine pure_ (i := 16) (N := some 57) (v := undef) (a' := ?_) tafo rfl rfl (zbw HT_.out (by kernel_rfl)) (fun _ _ _ h => h) (Or.inr ⟨by rfl, rfl⟩) ?_ ?_
               rotate_left
               · simp only [Act.put, zaa, zab, zac, zbu, zbv]
                 rfl
               refine pure_ (i := 17) (N := some 58) (v := undef) (a' := ?_) tafp rfl rfl (zbw HT_.out (by kernel_rfl)) (fun _ _ _ h => h) (Or.inr ⟨by rfl, rfl⟩) ?_ ?_
               rotate_left
               · simp only [Act.put, zaa, zab, zac, zbu, zbv]
                 rfl
               refine pure_ (i := 18) (N := some 59) (v := undef) (a' := ?_) tafq rfl rfl (zbw HT_.out (by kernel_rfl)) (fun _ _ _ h => h) (Or.inr ⟨by rfl, rfl⟩) ?_ ?_
               rotate_left
               · simp only [Act.put, zaa, zab, zac, zbu, zbv]
                 rfl
               refine pure_ (i := 19) (N := some 60) (v := ?_) (a' := ?_) tafr rfl rfl (zbw HT_.out (by kernel_rfl)) (fun _ _ _ h => h) (Or.inl ⟨by rfl, ?_⟩) ?_ ?_
               rotate_left
               · intro w'
                 go_simp; with_reducible rfl
               rotate_left
               · simp only [Act.put, zaa, zab, zac, zbu, zbv]
                 rfl
               refine done_ (done_of HT_.out (by kernel_rfl)) ?_
               try go_wp2
               go_roundg kj16
               case measure => have := HK1.out; have := HJ16.out; omega
               case rel => exact ⟨(x7_1), (wrap64 (x8_1 - 1)), (t384), (t385), (taad), H', ⟨tace⟩, ⟨taae⟩, ⟨taag⟩, ⟨taal⟩, ⟨taak⟩, ⟨taar⟩⟩
           · rw [if_neg c24] at H
             exact absurd H (taah)
         · rw [if_neg c23] at H
           exact absurd H (taah)
       · replace c20 := zbg.mpr c20
         subst c20; have H1 : ((spec_l1Cur_one.f s0_0 x1001_1 x1002_1 5).bind fun bt377 => (if bt377.1 = true then (some (t358, x7_1, bt377.2.1, bt377.2.2)) else (some (x7_1, t358, bt377.2.1, bt377.2.2)))) = some (r1, r2, r3, r4) := by rw [if_neg (show ¬ (false = true) by decide)] at H; exact H
         clear H; have H := H1; clear H1; replace H := zay.mp H; obtain ⟨⟨t377, t378, t379⟩, A610, H⟩ := H
         replace H : (if t377 = true then (some (t358, x7_1, t378, t379)) else (some (x7_1, t358, t378, t379))) = some (r1, r2, r3, r4) := H
         have A61 := zad A610; clear A610; by_cases c62 : t377 = true
         · subst c62
           have H1 : (some (t358, x7_1, t378, t379)) = some (r1, r2, r3, r4) := by rw [if_pos rfl] at H; exact H
           clear H; have H := H1; clear H1; simp only [zbj, zbn] at H
           obtain ⟨rfl, rfl, rfl, rfl⟩ := H
           go_wp2_with (first | ((with_reducible refine zbf (f := 46) rfl ?_); refine zbl (some 74) rfl rfl Try.func46 (by kernel_rfl) rfl #[.pointer (some ⟨g, 0, none⟩), .int .i64 5] rfl (taac) ?_; (with_reducible refine (spec_l1Cur_one.calls g s0_0 x1001_1 x1002_1 5 true t378 t379 w0 _ ?side1 ?side2 A61.out).mono ?_); (case side1 => exact tael); (case side2 => exact taem); rintro e w63 ⟨rfl, hi, hb, hk⟩; refine ⟨_, rfl, ?_⟩; have n0_ := zad (zbo (zbp (IsS51.apart (show IsS51 w0 _ g s0_0 x1001_1 x1002_1 from by exact taej) (taae) (by decide)) hk (fun _ h => h.2)) (fun _ h => h.1)); have n1_ := zad (zbo (zbp (IsS51.apart (show IsS51 w0 _ g s0_0 x1001_1 x1002_1 from by exact taej) (taag) (by decide)) hk (fun _ h => h.2)) (fun _ h => h.1)); have n2_ := zad (zbq (taak) hk (.inl rfl)); have n3_ := zad (hb); have n4_ := zad (hi); clear HO_6 HO_7 HK HB HI0; have HO_6 := n0_; have HO_7 := n1_; have HK := n2_; have HB := n3_; have HI0 := n4_; clear n0_ n1_ n2_ n3_ n4_; (try clear hb); (try clear hb2); (try clear hk); (try clear hi)))
           go_ret2
           exact ⟨_, _, taam, taae, taag, taal, taar, taak⟩
         · replace c62 := zbg.mpr c62
           subst c62; have H1 : (some (x7_1, t358, t378, t379)) = some (r1, r2, r3, r4) := by rw [if_neg (show ¬ (false = true) by decide)] at H; exact H
           clear H; have H := H1; clear H1; simp only [zbj, zbn] at H
           obtain ⟨rfl, rfl, rfl, rfl⟩ := H
           go_wp2_with (first | ((with_reducible refine zbf (f := 46) rfl ?_); refine zbl (some 74) rfl rfl Try.func46 (by kernel_rfl) rfl #[.pointer (some ⟨g, 0, none⟩), .int .i64 5] rfl (taac) ?_; (with_reducible refine (spec_l1Cur_one.calls g s0_0 x1001_1 x1002_1 5 false t378 t379 w0 _ ?side1 ?side2 A61.out).mono ?_); (case side1 => exact tael); (case side2 => exact taem); rintro e w64 ⟨rfl, hi, hb, hk⟩; refine ⟨_, rfl, ?_⟩; have n0_ := zad (zbo (zbp (IsS51.apart (show IsS51 w0 _ g s0_0 x1001_1 x1002_1 from by exact taej) (taae) (by decide)) hk (fun _ h => h.2)) (fun _ h => h.1)); have n1_ := zad (zbo (zbp (IsS51.apart (show IsS51 w0 _ g s0_0 x1001_1 x1002_1 from by exact taej) (taag) (by decide)) hk (fun _ h => h.2)) (fun _ h => h.1)); have n2_ := zad (zbq (taak) hk (.inl rfl)); have n3_ := zad (hb); have n4_ := zad (hi); clear HO_6 HO_7 HK HB HI0; have HO_6 := n0_; have HO_7 := n1_; have HK := n2_; have HB := n3_; have HI0 := n4_; clear n0_ n1_ n2_ n3_ n4_; (try clear hb); (try clear hb2); (try clear hk); (try clear hi)))
           go_ret2
           exact ⟨_, _, taam, taag, taae, taal, taar, taak⟩
def spec_l1Least.f (a0 : Int) (a1 : Int) : Option (Int) := if a0 < a1 then (some a0) else (some a1)
theorem spec_l1Least.calls (a0 : Int) (a1 : Int) (r : Int) (w : World) (h : spec_l1Least.f a0 a1 = some r) :
 Calls Try.prog 48 #[.int .i64 a0, .int .i64 a1] w fun e w' => e = .returned (.int .i64 r) ∧ Drawn0 w w' := by
 have H : (if a0 < a1 then (some a0) else (some a1)) = some r := h
 clear h; by_cases c3 : a0 < a1
 · rw [if_pos c3] at H
   have c3b0 : decide (a0 < a1) = true := zba c3
   clear c3; obtain rfl := zbc H
   go_enter Try.func48, Try.ntmps48
   go_wp2
   go_ret
   exact ⟨taad, taap⟩
 · rw [if_neg c3] at H
   have c3b0 : decide (a0 < a1) = false := zbh c3
   clear c3; obtain rfl := zbc H
   go_enter Try.func48, Try.ntmps48
   go_wp2
   go_ret
   exact ⟨taad, taap⟩
def spec_DrawJoinOf.j0 : Nat → List Int → List Int → Bool → List Int → Int → Int → Option (List Int × List Int)
 | 0, _, _, _, _, _, _ => none
 | k + 1, x5, x6, x24, x401000, x401001, x401002 => if x24 = true then ((spec_l1Cur_pick.f x401000 x401001 x401002 (x5.length : Int)).bind fun bt412 => ((spec_l1Cur_pick.f x401000 bt412.2.1 bt412.2.2 (x5.length : Int)).bind fun bt415 => (if 0 ≤ bt412.1 then (if bt412.1 < (x5.length : Int) then ((spec_l1Least.f (rd x5 bt412.1) 2).bind fun t419 => (if t419 > 0 then ((some (x5.set (bt412.1 : Int).toNat (wrap64 ((rd x5 bt412.1) - t419)) : List Int)).bind fun y421 => (if 0 ≤ bt415.1 then (if bt415.1 < (x5.length : Int) then (some ((y421.set (bt415.1 : Int).toNat (wrap64 ((rd y421 bt415.1) + t419))), x6)) else (none)) else (none))) else (some (x5, x6)))) else (none)) else (none)))) else (some (x5, x6))
def spec_DrawJoinOf.f (k : Nat) (l0 : List Int) : Option (List Int × List Int) := (spec_l1Cur_fitting.f k l0 0 0 9).bind fun bt401 => (if (bt401.1.length : Int) > 1 then ((spec_l1Cur_one.f l0 bt401.2.2.1 bt401.2.2.2 2).bind fun bt409 => (spec_DrawJoinOf.j0 k bt401.1 bt401.2.1 bt409.1 l0 bt409.2.1 bt409.2.2)) else (spec_DrawJoinOf.j0 k bt401.1 bt401.2.1 false l0 bt401.2.2.1 bt401.2.2.2))
theorem spec_DrawJoinOf.calls (k : Nat) (A0 : Option Addr) (c0 : Nat) (l0 : List Int) (r1 : List Int) (r2 : List Int) (w : World) (hr0 : Kd.C (Kd.int .u8) w A0 l0.length l0) (hc0 : l0.length ≤ c0) (h : spec_DrawJoinOf.f k l0 = some (r1, r2)) :
 Calls Try.prog 15 #[.slice A0 l0.length c0] w fun e w' => ∃ v0_ v1_ : Value, e = .returned (.tuple #[v0_, v1_]) ∧ Kd.R (Kd.int .i64) 3 w' w.heap.size (fun k_ => some k_ ≠ (v1_ : Value).ownBlock) v0_ r1 ∧ Kd.R (Kd.int .i64) 3 w' w.heap.size (fun k_ => some k_ ≠ (v0_ : Value).ownBlock) v1_ r2 ∧ Below w.heap.size w w' := by
 have hu51 := Try.underlying51
 have HR0 := zad hr0; have HC0 := zad hc0; clear hr0 hc0; have HB := zad (Below.refl w.heap.size w)
 have H : ((spec_l1Cur_fitting.f k l0 0 0 9).bind fun bt401 => (if (bt401.1.length : Int) > 1 then ((spec_l1Cur_one.f l0 bt401.2.2.1 bt401.2.2.2 2).bind fun bt409 => (spec_DrawJoinOf.j0 k bt401.1 bt401.2.1 bt409.1 l0 bt409.2.1 bt409.2.2)) else (spec_DrawJoinOf.j0 k bt401.1 bt401.2.1 false l0 bt401.2.2.1 bt401.2.2.2))) = some (r1, r2) := h
 clear h; replace H := zay.mp H; obtain ⟨⟨t401, t404, t407, t408⟩, A20, H⟩ := H
 replace H : (if (t401.length : Int) > 1 then ((spec_l1Cur_one.f l0 t407 t408 2).bind fun bt409 => (spec_DrawJoinOf.j0 k t401 t404 bt409.1 l0 bt409.2.1 bt409.2.2)) else (spec_DrawJoinOf.j0 k t401 t404 false l0 t407 t408)) = some (r1, r2) := H
 have A2 := zad A20; clear A20; have HC3 := zad H; clear H; go_enter Try.func15, Try.ntmps15
 go_upto_region 3 with (first | ((with_reducible refine gate_dst (N := 12) rfl ?_); refine box_event ?hg (N := 12) ?hd (cs := #[.slice A0 l0.length c0, .int .i64 0, .int .u64 0]) (t := 51) ?hr ?_; (case hd => rfl); (case hg => rfl); (case hr => first | (go_simp; done) | (go_simp; rfl)); intro gb400 hg w4 hbox hb; have n0_ := zad (zbe (taaa) hb); have n1_ := zad ((show IsS51 w w4 gb400 l0 0 0 from ⟨_, _, hbox, (by rw [hg]; exact (zbi (taaa))), HR0.out⟩)); clear HB; have HB := n0_; have HI400 := n1_; clear n0_ n1_ hb hbox hg) | ((with_reducible refine zbf (f := 45) rfl ?_); refine zbl (some 15) rfl rfl Try.func45 (by kernel_rfl) rfl #[.pointer (some ⟨gb400, 0, none⟩), .int .i64 9] rfl (taac) ?_; (with_reducible refine (spec_l1Cur_fitting.calls k gb400 l0 0 0 9 t401 t404 t407 t408 w _ ?side1 ?side2 A2.out).mono ?_); (case side1 => exact taer); (case side2 => exact taes); rintro e w5 ⟨v402, v405, rfl, ho0, ho1, hi, hb, hk⟩; refine ⟨_, rfl, ?_⟩; have n0_ := zad (zbs ho0 (zbi (tabi))); have n1_ := zad (zbs ho1 (zbi (tabi))); have n2_ := zad (hb); have n3_ := zad (hi); clear HB HI400; have HO403 := n0_; have HO406 := n1_; have HB := n2_; have HI400 := n3_; clear n0_ n1_ n2_ n3_; (try clear hb); (try clear hb2); (try clear hk); (try clear hi); (try clear ho0); (try clear ho1)))
 (try simp only [Act.put, zaa, zab, zac])
 go_cut [24] (fun v24 wc => ∃ (kq : Nat) (x24_2 : Bool) (x401001_2 : Int) (x401002_2 : Int), v24 = .bool x24_2 ∧ Aside0 (spec_DrawJoinOf.j0 kq t401 t404 x24_2 l0 x401001_2 x401002_2 = some (r1, r2)) ∧ Aside0 (kq ≤ k) ∧ Aside0 (Kd.R (Kd.int .i64) 3 wc w.heap.size (fun k_ => some k_ ≠ (v405 : Value).ownBlock) v402 t401) ∧ Aside0 (Kd.R (Kd.int .i64) 3 wc w.heap.size (fun k_ => some k_ ≠ (v402 : Value).ownBlock) v405 t404) ∧ Aside0 (IsS51 w wc gb400 l0 x401001_2 x401002_2) ∧ Aside0 (Below w.heap.size w wc))
 case first =>
  have H := HC3.out
  clear HC3; by_cases c6 : (t401.length : Int) > 1
  · rw [if_pos c6] at H
    have c6b0 : decide (1 < (t401.length : Int)) = true := zba c6
    have c6b1 : decide (1 < t401.length) = true := zba (by omega)
    clear c6; (first | rw [c6b0] | (simp only [zbu, zbv]; rw [c6b0]) | skip)
    replace H := zay.mp H; obtain ⟨⟨t409, t410, t411⟩, A70, H⟩ := H
    replace H : (spec_DrawJoinOf.j0 k t401 t404 t409 l0 t410 t411) = some (r1, r2) := H
    have A7 := zad A70; clear A70; have H' := zad H
    clear H; obtain ⟨Ao8, co8, eo8⟩ := zbt HO403.out
    subst eo8; go_wp2_with (first | (go_at_call 46; (with_reducible refine (spec_l1Cur_one.calls gb400 l0 t407 t408 2 t409 t410 t411 w _ ?side1 ?side2 A7.out).mono ?_); (case side1 => exact taer); (case side2 => exact taes); rintro e w9 ⟨rfl, hi, hb, hk⟩; have n0_ := zad (zbo (zbp (IsS51.apart (show IsS51 w _ gb400 l0 t407 t408 from by exact taek) (tact) (by decide)) hk (fun _ h => h.2)) (fun _ h => h.1)); have n1_ := zad (zbo (zbp (IsS51.apart (show IsS51 w _ gb400 l0 t407 t408 from by exact taek) (tacu) (by decide)) hk (fun _ h => h.2)) (fun _ h => h.1)); have n2_ := zad (hb); have n3_ := zad (hi); clear HO403 HO406 HB HI400; have HO403 := n0_; have HO406 := n1_; have HB := n2_; have HI400 := n3_; clear n0_ n1_ n2_ n3_; (try clear hb); (try clear hb2); (try clear hk); (try clear hi)))
    go_meet
    case rel => exact ⟨_, (t409), (t410), (t411), (taad), H', ⟨taay⟩, ⟨tact⟩, ⟨tacu⟩, ⟨taax⟩, ⟨tabi⟩⟩
  · rw [if_neg c6] at H
    have c6b0 : decide (1 < (t401.length : Int)) = false := zbh c6
    have c6b1 : decide (1 < t401.length) = false := zbh (by omega)
    clear c6; (first | rw [c6b0] | (simp only [zbu, zbv]; rw [c6b0]) | skip)
    have H' := zad H
    clear H; obtain ⟨Ao10, co10, eo10⟩ := zbt HO403.out
    subst eo10; go_wp2
    go_meet
    case rel => exact ⟨_, (false), (t407), (t408), (taad), H', ⟨taay⟩, ⟨tact⟩, ⟨tacu⟩, ⟨taax⟩, ⟨tabi⟩⟩
 case rest =>
  clear HC3; try clear c1
  try clear p2
  try clear c4
  try clear c6
  try clear c6b0
  try clear c6b1
  obtain ⟨kq, x24_2, x401001_2, x401002_2, rfl, HA, HJ2, HO_5, HO_6, HI400, HB⟩ := hcut
  cases kq with
  | zero => exact absurd HA.out (by simp [spec_DrawJoinOf.j0])
  | succ kj2 =>
   have H := HA.out
   clear HA; simp only [spec_DrawJoinOf.j0] at H
   by_cases c11 : x24_2 = true
   · subst c11
     have H1 : ((spec_l1Cur_pick.f l0 x401001_2 x401002_2 (t401.length : Int)).bind fun bt412 => ((spec_l1Cur_pick.f l0 bt412.2.1 bt412.2.2 (t401.length : Int)).bind fun bt415 => (if 0 ≤ bt412.1 then (if bt412.1 < (t401.length : Int) then ((spec_l1Least.f (rd t401 bt412.1) 2).bind fun t419 => (if t419 > 0 then ((some (t401.set (bt412.1 : Int).toNat (wrap64 ((rd t401 bt412.1) - t419)) : List Int)).bind fun y421 => (if 0 ≤ bt415.1 then (if bt415.1 < (t401.length : Int) then (some ((y421.set (bt415.1 : Int).toNat (wrap64 ((rd y421 bt415.1) + t419))), t404)) else (none)) else (none))) else (some (t401, t404)))) else (none)) else (none)))) = some (r1, r2) := by rw [if_pos rfl] at H; exact H
     clear H; have H := H1; clear H1; replace H := zay.mp H; obtain ⟨⟨t412, t413, t414⟩, A120, H⟩ := H
     replace H : ((spec_l1Cur_pick.f l0 t413 t414 (t401.length : Int)).bind fun bt415 => (if 0 ≤ t412 then (if t412 < (t401.length : Int) then ((spec_l1Least.f (rd t401 t412) 2).bind fun t419 => (if t419 > 0 then ((some (t401.set (t412 : Int).toNat (wrap64 ((rd t401 t412) - t419)) : List Int)).bind fun y421 => (if 0 ≤ bt415.1 then (if bt415.1 < (t401.length : Int) then (some ((y421.set (bt415.1 : Int).toNat (wrap64 ((rd y421 bt415.1) + t419))), t404)) else (none)) else (none))) else (some (t401, t404)))) else (none)) else (none))) = some (r1, r2) := H
     have A12 := zad A120; clear A120; replace H := zay.mp H; obtain ⟨⟨t415, t416, t417⟩, A130, H⟩ := H
     replace H : (if 0 ≤ t412 then (if t412 < (t401.length : Int) then ((spec_l1Least.f (rd t401 t412) 2).bind fun t419 => (if t419 > 0 then ((some (t401.set (t412 : Int).toNat (wrap64 ((rd t401 t412) - t419)) : List Int)).bind fun y421 => (if 0 ≤ t415 then (if t415 < (t401.length : Int) then (some ((y421.set (t415 : Int).toNat (wrap64 ((rd y421 t415) + t419))), t404)) else (none)) else (none))) else (some (t401, t404)))) else (none)) else (none)) = some (r1, r2) := H
     have A13 := zad A130; clear A130; by_cases c14 : 0 ≤ t412
     · rw [if_pos c14] at H
       have c14b0 : decide (0 ≤ t412) = true := zba c14
       clear c14; by_cases c15 : t412 < (t401.length : Int)
       · rw [if_pos c15] at H
         have c15b0 : decide (t412 < (t401.length : Int)) = true := zba c15
         clear c15; replace H := zay.mp H; obtain ⟨t419, A160, H⟩ := H
         replace H : (if t419 > 0 then ((some (t401.set (t412 : Int).toNat (wrap64 ((rd t401 t412) - t419)) : List Int)).bind fun y421 => (if 0 ≤ t415 then (if t415 < (t401.length : Int) then (some ((y421.set (t415 : Int).toNat (wrap64 ((rd y421 t415) + t419))), t404)) else (none)) else (none))) else (some (t401, t404))) = some (r1, r2) := H
         have A16 := zad A160; clear A160; by_cases c17 : t419 > 0
         · rw [if_pos c17] at H
           have c17b0 : decide (0 < t419) = true := zba c17
           clear c17; obtain ⟨y421, hy421⟩ : ∃ y_ : List Int, y_ = (t401.set (t412 : Int).toNat (wrap64 ((rd t401 t412) - t419))) := ⟨_, rfl⟩
           replace H : (if 0 ≤ t415 then (if t415 < (t401.length : Int) then (some ((y421.set (t415 : Int).toNat (wrap64 ((rd y421 t415) + t419))), t404)) else (none)) else (none)) = some (r1, r2) := by first | (rw [hy421]; with_reducible exact H) | (have H2_ := (zbb _ _).symm.trans H; rw [hy421]; with_reducible exact H2_) | (have H2_ := (zbb _ _).symm.trans H; with_reducible exact H2_) | with_reducible exact H | (rw [hy421]; exact H) | exact H
           have Ny421 := zad hy421; clear hy421; by_cases c19 : 0 ≤ t415
           · rw [if_pos c19] at H
             have c19b0 : decide (0 ≤ t415) = true := zba c19
             clear c19; by_cases c20 : t415 < (t401.length : Int)
             · rw [if_pos c20] at H
               have c20b0 : decide (t415 < (t401.length : Int)) = true := zba c20
               clear c20; obtain ⟨y423, hy423⟩ : ∃ y_ : List Int, y_ = (y421.set (t415 : Int).toNat (wrap64 ((rd y421 t415) + t419))) := ⟨_, rfl⟩
               replace H : (some (y423, t404)) = some (r1, r2) := by first | (rw [hy423]; with_reducible exact H) | (have H2_ := (zbb _ _).symm.trans H; rw [hy423]; with_reducible exact H2_) | (have H2_ := (zbb _ _).symm.trans H; with_reducible exact H2_) | with_reducible exact H | (rw [hy423]; exact H) | exact H
               have Ny423 := zad hy423; clear hy423; simp only [zbj, zbn] at H
               obtain ⟨rfl, rfl⟩ := H
               obtain ⟨Ao22, co22, eo22⟩ := zbt HO_5.out
               subst eo22; go_wp2_with (first | ((with_reducible refine zbf (f := 47) rfl ?_); refine zbl (some 28) rfl rfl Try.func47 (by kernel_rfl) rfl #[.pointer (some ⟨gb400, 0, none⟩), .int .i64 (t401.length : Int)] rfl (taac) ?_; (with_reducible refine (zcj gb400 l0 x401001_2 x401002_2 (t401.length : Int) t412 t413 t414 w _ ?side1 ?side2 A12.out).mono ?_); (case side1 => repeat (first | (with_reducible first | exact HI400.out | apply zcd | apply zce | apply zcf | apply zch | apply zci) | exact HI400.out)); (case side2 => repeat (first | (with_reducible first | exact HB.out | apply zag | apply zae | apply zaf | refine zah ?_ (zcg HI400.out)) | exact HB.out)); rintro e w23 ⟨rfl, hi, hb, hk⟩; refine ⟨_, rfl, ?_⟩; have n0_ := zad (zbo (zbp (IsS51.apart (show IsS51 w _ gb400 l0 x401001_2 x401002_2 from by exact taek) (taaf) (by decide)) hk (fun _ h => h.2)) (fun _ h => h.1)); have n1_ := zad (zbo (zbp (IsS51.apart (show IsS51 w _ gb400 l0 x401001_2 x401002_2 from by exact taek) (taae) (by decide)) hk (fun _ h => h.2)) (fun _ h => h.1)); have n2_ := zad (hb); have n3_ := zad (hi); clear HO_5 HO_6 HB HI400; have HO_5 := n0_; have HO_6 := n1_; have HB := n2_; have HI400 := n3_; clear n0_ n1_ n2_ n3_; (try clear hb); (try clear hb2); (try clear hk); (try clear hi)) | ((with_reducible refine zbf (f := 47) rfl ?_); refine zbl (some 32) rfl rfl Try.func47 (by kernel_rfl) rfl #[.pointer (some ⟨gb400, 0, none⟩), .int .i64 (t401.length : Int)] rfl (taac) ?_; (with_reducible refine (zcj gb400 l0 t413 t414 (t401.length : Int) t415 t416 t417 w _ ?side1 ?side2 A13.out).mono ?_); (case side1 => repeat (first | (with_reducible first | exact HI400.out | apply zcd | apply zce | apply zcf | apply zch | apply zci) | exact HI400.out)); (case side2 => repeat (first | (with_reducible first | exact HB.out | apply zag | apply zae | apply zaf | refine zah ?_ (zcg HI400.out)) | exact HB.out)); rintro e w24 ⟨rfl, hi, hb, hk⟩; refine ⟨_, rfl, ?_⟩; have n0_ := zad (zbo (zbp (IsS51.apart (show IsS51 w _ gb400 l0 t413 t414 from by exact taek) (taaf) (by decide)) hk (fun _ h => h.2)) (fun _ h => h.1)); have n1_ := zad (zbo (zbp (IsS51.apart (show IsS51 w _ gb400 l0 t413 t414 from by exact taek) (taae) (by decide)) hk (fun _ h => h.2)) (fun _ h => h.1)); have n2_ := zad (hb); have n3_ := zad (hi); clear HO_5 HO_6 HB HI400; have HO_5 := n0_; have HO_6 := n1_; have HB := n2_; have HI400 := n3_; clear n0_ n1_ n2_ n3_; (try clear hb); (try clear hb2); (try clear hk); (try clear hi); have p418 : 0 ≤ (t412 : Int) := zas (taab); have q418 : t412 < (t401.length : Int) := zas (taab); obtain ⟨ad418, e418, hx418_0⟩ := zbx (zbd HO_5.out).2.2 t412 p418 q418; cases e418; replace p418 := eq_true p418; replace q418 := eq_true q418) | ((with_reducible refine zbf (f := 48) rfl ?_); refine zbl (some 37) rfl rfl Try.func48 (by kernel_rfl) rfl #[.int .i64 (rd t401 t412), .int .i64 2] rfl (taac) ?_; (with_reducible refine (spec_l1Least.calls (rd t401 t412) 2 t419 _ A16.out).mono ?_); rintro e w' ⟨rfl, ⟨nd, rfl⟩⟩; refine ⟨_, rfl, ?_⟩; (try (rw [drewN_self w24]; generalize hq_ : World.drewN w24 _ = w24; have n0_ : Aside0 (Kd.R (Kd.int .i64) 3 w24 w.heap.size (fun k_ => some k_ ≠ (v405 : Value).ownBlock) (.slice (some ad418) t401.length co22) t401) := ⟨by rw [← hq_]; exact (taaf)⟩; have n1_ : Aside0 (Kd.R (Kd.int .i64) 3 w24 w.heap.size (fun k_ => some k_ ≠ (.slice (some ad418) t401.length co22 : Value).ownBlock) v405 t404) := ⟨by rw [← hq_]; exact (taae)⟩; have n2_ : Aside0 (IsS51 w w24 gb400 l0 t416 t417) := ⟨by rw [← hq_]; exact (taax)⟩; have n3_ : Aside0 (Below w.heap.size w w24) := ⟨by rw [← hq_]; exact (tabi)⟩; clear HO_5 HO_6 HI400 HB hq_; have HO_5 := n0_; have HO_6 := n1_; have HI400 := n2_; have HB := n3_; clear n0_ n1_ n2_ n3_)); have p420 : 0 ≤ (t412 : Int) := zas (taab); have q420 : t412 < (t401.length : Int) := zas (taab); obtain ⟨ad420, e420, hx420_0⟩ := zbx (zbd HO_5.out).2.2 t412 p420 q420; obtain rfl : ad418 = ad420 := (by injection e420); replace p420 := eq_true p420; replace q420 := eq_true q420; have p18 : 0 ≤ (t412 : Int) := zas (taab); have q18 : (t412 : Int) < ((t401.length : Int) : Int) := zas (taab); obtain ⟨go18, co18, eo18, gb18, gl18, cl18, HG18⟩ := Kd.R_form HO_5.out (by omega); (first | cases eo18 | (injection eo18 with ea_ en_ ec_; (first | subst ea_ | (injection ea_ with ea_; subst ea_)); subst ec_; clear en_)); have GB18 := zad gb18; have GG18 := zad HG18; clear gb18 gl18 HG18; (first | simp only [add_plain] at hx418_0 | skip); (first | simp only [add_plain] at hx420_0 | skip); obtain ⟨hx18_0, hf18_0⟩ := Kd.R_celln 0 HO_5.out (t412 : Int) p18 q18; replace p18 := eq_true p18; replace q18 := eq_true q18; obtain ⟨hy25_, hz25_⟩ := Kd.R_celln 0 HO_5.out (t412 : Int) (zas (taab)) (zas (taab)); have HP25 := Kd.R_putg HO_5.out (t412 : Int) (wrap64 ((rd t401 t412) - t419))) | ((with_reducible refine gate_store (t := 3) (p := 46) rfl ?_); refine store_event (t := 3) (p := 46) (v := ?vo_w26) (w1 := (w24.setCell ⟨go18, (t412 : Int).toNat, none⟩ (.int .i64 (wrap64 ((rd t401 t412) - t419))))) ?hg ?ho ?hn ?hr ?_; (case ho => rfl); (case hg => rfl); (case hn => rfl); (case hr => first | (go_simp; done) | (go_simp; rfl)); intro w26 hw; have hg : w24.grownBy w26 (some go18) := (by rw [hw]; exact HP25.2); have hp_ : Kd.R (Kd.int .i64) 3 w26 w.heap.size (fun k_ => some k_ ≠ (v405 : Value).ownBlock) (.slice (some ⟨go18, 0, none⟩) t401.length co22) y421 := (by rw [hw, Ny421.out]; exact HP25.1); clear HP25; have n0_ := zad (hp_); have n1_ := zad (Kd.R_after (v := (.slice (some ⟨go18, 0, none⟩) t401.length co22)) (v1 := (.slice (some ⟨go18, 0, none⟩) t401.length co22)) (ok := (fun _ => True)) (tacr) hg (.inl rfl)); have n2_ := zad (IsS51.grown (taax) hg (IsS51.own_ne HI400.out HO_5.out (by decide))); have n3_ := zad ((by rw [hw]; exact zah (HB.out) GB18.out : Below w.heap.size w w26)); clear HO_5 HO_6 HI400 HB; have HO_5 := n0_; have HO_6 := n1_; have HI400 := n2_; have HB := n3_; clear n0_ n1_ n2_ n3_ hg hw hp_; have p422 : 0 ≤ (t415 : Int) := zas (taab); have q422 : t415 < (y421.length : Int) := (by have h_ : (t415 : Int) < ((t401.length : Int) : Int) := zas (taab); first | (have e_ := (zbd HO_5.out).1; omega) | simpa only [Ny421.out, List.length_set] using h_); have ql422 : ((t415 : Int) < ((t401.length : Int) : Int)) = True := eq_true (zas (taab)); obtain ⟨ad422, e422, hx422_0⟩ := zbx (zbd HO_5.out).2.2 t415 p422 q422; obtain rfl : (⟨go18, 0, none⟩ : Addr) = ad422 := (by injection e422); (first | simp only [add_plain] at hx422_0 | simp only [add_at] at hx422_0 | simp only [Addr.add, Nat.zero_add] at hx422_0 | skip); replace p422 := eq_true p422; replace q422 := eq_true q422; have p21 : 0 ≤ (t415 : Int) := zas (taab); have q21 : (t415 : Int) < ((t401.length : Int) : Int) := zas (taab); obtain ⟨hx21_0, hf21_0⟩ := Kd.R_celln 0 HO_5.out (t415 : Int) p21 q21; replace p21 := eq_true p21; replace q21 := eq_true q21; obtain ⟨hy27_, hz27_⟩ := Kd.R_celln 0 HO_5.out (t415 : Int) (zas (taab)) (zas (taab)); have HP27 := Kd.R_putg HO_5.out (t415 : Int) (wrap64 ((rd y421 t415) + t419))) | ((with_reducible refine gate_store (t := 3) (p := 53) rfl ?_); refine store_event (t := 3) (p := 53) (v := ?vo_w28) (w1 := (w26.setCell ⟨go18, (t415 : Int).toNat, none⟩ (.int .i64 (wrap64 ((rd y421 t415) + t419))))) ?hg ?ho ?hn ?hr ?_; (case ho => rfl); (case hg => rfl); (case hn => rfl); (case hr => first | (go_simp; done) | (go_simp; rfl)); intro w28 hw; have hg : w26.grownBy w28 (some go18) := (by rw [hw]; exact HP27.2); have hp_ : Kd.R (Kd.int .i64) 3 w28 w.heap.size (fun k_ => some k_ ≠ (v405 : Value).ownBlock) (.slice (some ⟨go18, 0, none⟩) t401.length co22) y423 := (by rw [hw, Ny423.out]; exact HP27.1); clear HP27; have n0_ := zad (hp_); have n1_ := zad (Kd.R_after (v := (.slice (some ⟨go18, 0, none⟩) t401.length co22)) (v1 := (.slice (some ⟨go18, 0, none⟩) t401.length co22)) (ok := (fun _ => True)) (taae) hg (.inl rfl)); have n2_ := zad (IsS51.grown (taax) hg (IsS51.own_ne HI400.out HO_5.out (by decide))); have n3_ := zad ((by rw [hw]; exact zah (HB.out) GB18.out : Below w.heap.size w w28)); clear HO_5 HO_6 HI400 HB; have HO_5 := n0_; have HO_6 := n1_; have HI400 := n2_; have HB := n3_; clear n0_ n1_ n2_ n3_ hg hw hp_))
               go_ret2
               exact ⟨_, _, taam, taaf, tacs, tabi⟩
             · rw [if_neg c20] at H
               exact absurd H (taah)
           · rw [if_neg c19] at H
             exact absurd H (taah)
         · rw [if_neg c17] at H
           have c17b0 : decide (0 < t419) = false := zbh c17
           clear c17; simp only [zbj, zbn] at H
           obtain ⟨rfl, rfl⟩ := H
           obtain ⟨Ao29, co29, eo29⟩ := zbt HO_5.out
           subst eo29; go_wp2_with (first | ((with_reducible refine zbf (f := 47) rfl ?_); refine zbl (some 28) rfl rfl Try.func47 (by kernel_rfl) rfl #[.pointer (some ⟨gb400, 0, none⟩), .int .i64 (t401.length : Int)] rfl (taac) ?_; (with_reducible refine (zcj gb400 l0 x401001_2 x401002_2 (t401.length : Int) t412 t413 t414 w _ ?side1 ?side2 A12.out).mono ?_); (case side1 => repeat (first | (with_reducible first | exact HI400.out | apply zcd | apply zce | apply zcf | apply zch | apply zci) | exact HI400.out)); (case side2 => repeat (first | (with_reducible first | exact HB.out | apply zag | apply zae | apply zaf | refine zah ?_ (zcg HI400.out)) | exact HB.out)); rintro e w30 ⟨rfl, hi, hb, hk⟩; refine ⟨_, rfl, ?_⟩; have n0_ := zad (zbo (zbp (IsS51.apart (show IsS51 w _ gb400 l0 x401001_2 x401002_2 from by exact taek) (taaf) (by decide)) hk (fun _ h => h.2)) (fun _ h => h.1)); have n1_ := zad (zbo (zbp (IsS51.apart (show IsS51 w _ gb400 l0 x401001_2 x401002_2 from by exact taek) (taae) (by decide)) hk (fun _ h => h.2)) (fun _ h => h.1)); have n2_ := zad (hb); have n3_ := zad (hi); clear HO_5 HO_6 HB HI400; have HO_5 := n0_; have HO_6 := n1_; have HB := n2_; have HI400 := n3_; clear n0_ n1_ n2_ n3_; (try clear hb); (try clear hb2); (try clear hk); (try clear hi)) | ((with_reducible refine zbf (f := 47) rfl ?_); refine zbl (some 32) rfl rfl Try.func47 (by kernel_rfl) rfl #[.pointer (some ⟨gb400, 0, none⟩), .int .i64 (t401.length : Int)] rfl (taac) ?_; (with_reducible refine (zcj gb400 l0 t413 t414 (t401.length : Int) t415 t416 t417 w _ ?side1 ?side2 A13.out).mono ?_); (case side1 => repeat (first | (with_reducible first | exact HI400.out | apply zcd | apply zce | apply zcf | apply zch | apply zci) | exact HI400.out)); (case side2 => repeat (first | (with_reducible first | exact HB.out | apply zag | apply zae | apply zaf | refine zah ?_ (zcg HI400.out)) | exact HB.out)); rintro e w31 ⟨rfl, hi, hb, hk⟩; refine ⟨_, rfl, ?_⟩; have n0_ := zad (zbo (zbp (IsS51.apart (show IsS51 w _ gb400 l0 t413 t414 from by exact taek) (taaf) (by decide)) hk (fun _ h => h.2)) (fun _ h => h.1)); have n1_ := zad (zbo (zbp (IsS51.apart (show IsS51 w _ gb400 l0 t413 t414 from by exact taek) (taae) (by decide)) hk (fun _ h => h.2)) (fun _ h => h.1)); have n2_ := zad (hb); have n3_ := zad (hi); clear HO_5 HO_6 HB HI400; have HO_5 := n0_; have HO_6 := n1_; have HB := n2_; have HI400 := n3_; clear n0_ n1_ n2_ n3_; (try clear hb); (try clear hb2); (try clear hk); (try clear hi); have p418 : 0 ≤ (t412 : Int) := zas (taab); have q418 : t412 < (t401.length : Int) := zas (taab); obtain ⟨ad418, e418, hx418_0⟩ := zbx (zbd HO_5.out).2.2 t412 p418 q418; cases e418; replace p418 := eq_true p418; replace q418 := eq_true q418) | ((with_reducible refine zbf (f := 48) rfl ?_); refine zbl (some 37) rfl rfl Try.func48 (by kernel_rfl) rfl #[.int .i64 (rd t401 t412), .int .i64 2] rfl (taac) ?_; (with_reducible refine (spec_l1Least.calls (rd t401 t412) 2 t419 _ A16.out).mono ?_); rintro e w' ⟨rfl, ⟨nd, rfl⟩⟩; refine ⟨_, rfl, ?_⟩))
           go_ret2
           exact ⟨_, _, taam, taaf, taae, tabi⟩
       · rw [if_neg c15] at H
         exact absurd H (taah)
     · rw [if_neg c14] at H
       exact absurd H (taah)
   · replace c11 := zbg.mpr c11
     subst c11; have H1 : (some (t401, t404)) = some (r1, r2) := by rw [if_neg (show ¬ (false = true) by decide)] at H; exact H
     clear H; have H := H1; clear H1; simp only [zbj, zbn] at H
     obtain ⟨rfl, rfl⟩ := H
     go_wp2
     go_ret2
     exact ⟨_, _, taam, taaf, taae, tabi⟩
def impl_within.f (a0 : Int) (a1 : Int) (a2 : Int) : Option (Bool) := if a0 ≥ a1 then (some (decide (a0 ≤ a2))) else (some false)
theorem impl_within.calls (a0 : Int) (a1 : Int) (a2 : Int) (r : Bool) (w : World) (h : impl_within.f a0 a1 a2 = some r) :
 Calls Try.prog 64 #[.int .i64 a0, .int .i64 a1, .int .i64 a2] w fun e w' => e = .returned (.bool r) ∧ Drawn0 w w' := by
 have H : (if a0 ≥ a1 then (some (decide (a0 ≤ a2))) else (some false)) = some r := h
 clear h; by_cases c4 : a0 ≥ a1
 · rw [if_pos c4] at H
   have c4b0 : decide (a1 ≤ a0) = true := zba c4
   clear c4; obtain rfl := zbc H
   go_enter Try.func64, Try.ntmps64
   go_wp2
   go_ret
   exact ⟨taad, taap⟩
 · rw [if_neg c4] at H
   have c4b0 : decide (a1 ≤ a0) = false := zbh c4
   clear c4; obtain rfl := zbc H
   go_enter Try.func64, Try.ntmps64
   go_wp2
   go_ret
   exact ⟨taad, taap⟩
def impl_allWithin.l0 : Nat → Int → Int → List Int → Int → Int → Option (Bool)
 | 0, _, _, _, _, _ => none
 | k + 1, x1, x2, x9, x10, x11 => if x11 < x10 then (if 0 ≤ x11 then (if x11 < (x9.length : Int) then ((impl_within.f (rd x9 x11) x1 x2).bind fun t251 => (if t251 = true then (impl_allWithin.l0 k x1 x2 x9 x10 (wrap64 (x11 + 1))) else (some false))) else (none)) else (none)) else (some true)
def impl_allWithin.f (k : Nat) (l0 : List Int) (a1 : Int) (a2 : Int) : Option (Bool) := impl_allWithin.l0 k a1 a2 l0 (l0.length : Int) 0
theorem impl_allWithin.calls (k : Nat) (A0 : Option Addr) (c0 : Nat) (l0 : List Int) (a1 : Int) (a2 : Int) (r : Bool) (w : World) (hr0 : Kd.C (Kd.int .i64) w A0 l0.length l0) (hc0 : l0.length ≤ c0) (h : impl_allWithin.f k l0 a1 a2 = some r) :
 Calls Try.prog 72 #[.slice A0 l0.length c0, .int .i64 a1, .int .i64 a2] w fun e w' => e = .returned (.bool r) ∧ Drawn0 w w' := by
 have HR0 := zad hr0; have HC0 := zad hc0; clear hr0 hc0; have H : (impl_allWithin.l0 k a1 a2 l0 (l0.length : Int) 0) = some r := h
 clear h; have H' := zad H
 clear H; go_enter Try.func72, Try.ntmps72
 go_wp2
 go_loopg [11] k (fun kq v11 w' => ∃ (x11_1 : Int), v11 = .int .i64 x11_1 ∧ Aside0 (impl_allWithin.l0 kq a1 a2 l0 (l0.length : Int) x11_1 = some r) ∧ Aside0 (kq ≤ k) ∧ Drawn0 w w')
 case atStart => exact ⟨(0), (taad), H', ⟨zcc _⟩, taap⟩
 case round =>
  clear H'
  try clear p2
  obtain ⟨x11_1, rfl, HA, HK1, ⟨m1, rfl⟩⟩ := hrel
  cases gk with
  | zero => exact absurd HA.out (by simp [impl_allWithin.l0])
  | succ k1 =>
   have H := HA.out
   clear HA; simp only [impl_allWithin.l0] at H
   by_cases c4 : x11_1 < (l0.length : Int)
   · rw [if_pos c4] at H
     have c4b0 : decide (x11_1 < (l0.length : Int)) = true := zba c4
     clear c4; by_cases c5 : 0 ≤ x11_1
     · rw [if_pos c5] at H
       have c5b0 : decide (0 ≤ x11_1) = true := zba c5
       clear c5; by_cases c6 : x11_1 < (l0.length : Int)
       · rw [if_pos c6] at H
         have c6b0 : decide (x11_1 < (l0.length : Int)) = true := zba c6
         clear c6; replace H := zay.mp H; obtain ⟨t251, A70, H⟩ := H
         replace H : (if t251 = true then (impl_allWithin.l0 k1 a1 a2 l0 (l0.length : Int) (wrap64 (x11_1 + 1))) else (some false)) = some r := H
         have A7 := zad A70; clear A70; by_cases c8 : t251 = true
         · subst c8
           have H1 : (impl_allWithin.l0 k1 a1 a2 l0 (l0.length : Int) (wrap64 (x11_1 + 1))) = some r := by rw [if_pos rfl] at H; exact H
           clear H; have H := H1; clear H1; have H' := zad H
           clear H; have p250 : 0 ≤ (x11_1 : Int) := zas (taab)
           have q250 : x11_1 < (l0.length : Int) := zas (taab)
           obtain ⟨ad250, e250, hx250_0⟩ := zbx HR0.out x11_1 p250 q250
           cases e250
           replace p250 := eq_true p250
           replace q250 := eq_true q250
           go_wp2_with (first | ((with_reducible refine zbf (f := 64) rfl ?_); refine zbl (some 18) rfl rfl Try.func64 (by kernel_rfl) rfl #[.int .i64 (rd l0 x11_1), .int .i64 a1, .int .i64 a2] rfl (taac) ?_; (with_reducible refine (impl_within.calls (rd l0 x11_1) a1 a2 true _ A7.out).mono ?_); rintro e w' ⟨rfl, ⟨nd, rfl⟩⟩; refine ⟨_, rfl, ?_⟩))
           go_roundg k1
           case measure => have := HK1.out; omega
           case rel => exact ⟨(wrap64 (x11_1 + 1)), (taad), H', ⟨taaw⟩, taap⟩
         · replace c8 := zbg.mpr c8
           subst c8; have H1 : (some false) = some r := by rw [if_neg (show ¬ (false = true) by decide)] at H; exact H
           clear H; have H := H1; clear H1; obtain rfl := zbc H
           have p250 : 0 ≤ (x11_1 : Int) := zas (taab)
           have q250 : x11_1 < (l0.length : Int) := zas (taab)
           obtain ⟨ad250, e250, hx250_0⟩ := zbx HR0.out x11_1 p250 q250
           cases e250
           replace p250 := eq_true p250
           replace q250 := eq_true q250
           go_wp2_with (first | ((with_reducible refine zbf (f := 64) rfl ?_); refine zbl (some 18) rfl rfl Try.func64 (by kernel_rfl) rfl #[.int .i64 (rd l0 x11_1), .int .i64 a1, .int .i64 a2] rfl (taac) ?_; (with_reducible refine (impl_within.calls (rd l0 x11_1) a1 a2 false _ A7.out).mono ?_); rintro e w' ⟨rfl, ⟨nd, rfl⟩⟩; refine ⟨_, rfl, ?_⟩))
           go_ret
           exact ⟨taad, taap⟩
       · rw [if_neg c6] at H
         exact absurd H (taah)
     · rw [if_neg c5] at H
       exact absurd H (taah)
   · rw [if_neg c4] at H
     have c4b0 : decide (x11_1 < (l0.length : Int)) = false := zbh c4
     clear c4; obtain rfl := zbc H
     go_wp2
     go_ret
     exact ⟨taad, taap⟩
def impl_IsList.f (k : Nat) (l0 : List Int) : Option (Bool) := (impl_within.f (l0.length : Int) 1 8).bind fun t252 => (if t252 = true then ((impl_allWithin.f k l0 0 60).bind fun t253 => (some t253)) else (some false))
theorem impl_IsList.calls (k : Nat) (A0 : Option Addr) (c0 : Nat) (l0 : List Int) (r : Bool) (w : World) (hr0 : Kd.C (Kd.int .i64) w A0 l0.length l0) (hc0 : l0.length ≤ c0) (h : impl_IsList.f k l0 = some r) :
 Calls Try.prog 38 #[.slice A0 l0.length c0] w fun e w' => e = .returned (.bool r) ∧ Drawn0 w w' := by
 have HR0 := zad hr0; have HC0 := zad hc0; clear hr0 hc0; have H : ((impl_within.f (l0.length : Int) 1 8).bind fun t252 => (if t252 = true then ((impl_allWithin.f k l0 0 60).bind fun t253 => (some t253)) else (some false))) = some r := h
 clear h; replace H := zay.mp H; obtain ⟨t252, A20, H⟩ := H
 replace H : (if t252 = true then ((impl_allWithin.f k l0 0 60).bind fun t253 => (some t253)) else (some false)) = some r := H
 have A2 := zad A20; clear A20; by_cases c3 : t252 = true
 · subst c3
   have H1 : ((impl_allWithin.f k l0 0 60).bind fun t253 => (some t253)) = some r := by rw [if_pos rfl] at H; exact H
   clear H; have H := H1; clear H1; replace H := zay.mp H; obtain ⟨t253, A40, H⟩ := H
   replace H : (some t253) = some r := H
   have A4 := zad A40; clear A40; obtain rfl := zbc H
   go_enter Try.func38, Try.ntmps38
   go_wp2_with (first | ((with_reducible refine zbf (f := 64) rfl ?_); refine zbl (some 5) rfl rfl Try.func64 (by kernel_rfl) rfl #[.int .i64 (l0.length : Int), .int .i64 1, .int .i64 8] rfl (taac) ?_; (with_reducible refine (impl_within.calls (l0.length : Int) 1 8 true _ A2.out).mono ?_); rintro e w' ⟨rfl, ⟨nd, rfl⟩⟩; refine ⟨_, rfl, ?_⟩) | (go_at_call 72; (with_reducible refine (impl_allWithin.calls k _ _ l0 0 60 t253 _ ?side1 ?side2 A4.out).mono ?_); (case side1 => repeat (first | exact HR0.out | (with_reducible refine zal ?_ _) | (with_reducible refine zam ?_ _) | (with_reducible refine zan ?_))); (case side2 => exact HC0.out); rintro e w' ⟨rfl, ⟨nd, rfl⟩⟩))
   go_ret
   exact ⟨taad, taap⟩
 · replace c3 := zbg.mpr c3
   subst c3; have H1 : (some false) = some r := by rw [if_neg (show ¬ (false = true) by decide)] at H; exact H
   clear H; have H := H1; clear H1; obtain rfl := zbc H
   go_enter Try.func38, Try.ntmps38
   go_wp2_with (first | ((with_reducible refine zbf (f := 64) rfl ?_); refine zbl (some 5) rfl rfl Try.func64 (by kernel_rfl) rfl #[.int .i64 (l0.length : Int), .int .i64 1, .int .i64 8] rfl (taac) ?_; (with_reducible refine (impl_within.calls (l0.length : Int) 1 8 false _ A2.out).mono ?_); rintro e w' ⟨rfl, ⟨nd, rfl⟩⟩; refine ⟨_, rfl, ?_⟩))
   go_ret
   exact ⟨taad, taap⟩
def impl_areLists.f (k : Nat) (l0 : List Int) (l1 : List Int) : Option (Bool) := (impl_IsList.f k l0).bind fun t424 => (if t424 = true then ((impl_IsList.f k l1).bind fun t425 => (some t425)) else (some false))
theorem impl_areLists.calls (k : Nat) (A0 : Option Addr) (c0 : Nat) (l0 : List Int) (A1 : Option Addr) (c1 : Nat) (l1 : List Int) (r : Bool) (w : World) (hr0 : Kd.C (Kd.int .i64) w A0 l0.length l0) (hc0 : l0.length ≤ c0) (hr1 : Kd.C (Kd.int .i64) w A1 l1.length l1) (hc1 : l1.length ≤ c1) (h : impl_areLists.f k l0 l1 = some r) :
 Calls Try.prog 49 #[.slice A0 l0.length c0, .slice A1 l1.length c1] w fun e w' => e = .returned (.bool r) ∧ Drawn0 w w' := by
 have HR0 := zad hr0; have HC0 := zad hc0; clear hr0 hc0; have HR1 := zad hr1; have HC1 := zad hc1; clear hr1 hc1; have H : ((impl_IsList.f k l0).bind fun t424 => (if t424 = true then ((impl_IsList.f k l1).bind fun t425 => (some t425)) else (some false))) = some r := h
 clear h; replace H := zay.mp H; obtain ⟨t424, A30, H⟩ := H
 replace H : (if t424 = true then ((impl_IsList.f k l1).bind fun t425 => (some t425)) else (some false)) = some r := H
 have A3 := zad A30; clear A30; by_cases c4 : t424 = true
 · subst c4
   have H1 : ((impl_IsList.f k l1).bind fun t425 => (some t425)) = some r := by rw [if_pos rfl] at H; exact H
   clear H; have H := H1; clear H1; replace H := zay.mp H; obtain ⟨t425, A50, H⟩ := H
   replace H : (some t425) = some r := H
   have A5 := zad A50; clear A50; obtain rfl := zbc H
   go_enter Try.func49, Try.ntmps49
   go_wp2_with (first | ((with_reducible refine zbf (f := 38) rfl ?_); refine zbl (some 6) rfl rfl Try.func38 (by kernel_rfl) rfl #[.slice A0 l0.length c0] rfl (taac) ?_; (with_reducible refine (impl_IsList.calls k _ _ l0 true _ ?side1 ?side2 A3.out).mono ?_); (case side1 => repeat (first | exact HR0.out | (with_reducible refine zal ?_ _) | (with_reducible refine zam ?_ _) | (with_reducible refine zan ?_))); (case side2 => exact HC0.out); rintro e w' ⟨rfl, ⟨nd, rfl⟩⟩; refine ⟨_, rfl, ?_⟩) | (go_at_call 38; (with_reducible refine (impl_IsList.calls k _ _ l1 t425 _ ?side1 ?side2 A5.out).mono ?_); (case side1 => repeat (first | exact HR1.out | (with_reducible refine zal ?_ _) | (with_reducible refine zam ?_ _) | (with_reducible refine zan ?_))); (case side2 => exact HC1.out); rintro e w' ⟨rfl, ⟨nd, rfl⟩⟩))
   go_ret
   exact ⟨taad, taap⟩
 · replace c4 := zbg.mpr c4
   subst c4; have H1 : (some false) = some r := by rw [if_neg (show ¬ (false = true) by decide)] at H; exact H
   clear H; have H := H1; clear H1; obtain rfl := zbc H
   go_enter Try.func49, Try.ntmps49
   go_wp2_with (first | ((with_reducible refine zbf (f := 38) rfl ?_); refine zbl (some 6) rfl rfl Try.func38 (by kernel_rfl) rfl #[.slice A0 l0.length c0] rfl (taac) ?_; (with_reducible refine (impl_IsList.calls k _ _ l0 false _ ?side1 ?side2 A3.out).mono ?_); (case side1 => exact taen); (case side2 => exact HC0.out); rintro e w' ⟨rfl, ⟨nd, rfl⟩⟩; refine ⟨_, rfl, ?_⟩))
   go_ret
   exact ⟨taad, taap⟩
def impl_total.l0 : Nat → Int → List Int → Int → Int → Option (Int)
 | 0, _, _, _, _ => none
 | k + 1, x3, x6, x7, x8 => if x8 < x7 then (if 0 ≤ x8 then (if x8 < (x6.length : Int) then (impl_total.l0 k (wrap64 (x3 + (rd x6 x8))) x6 x7 (wrap64 (x8 + 1))) else (none)) else (none)) else (some x3)
def impl_total.f (k : Nat) (l0 : List Int) : Option (Int) := impl_total.l0 k 0 l0 (l0.length : Int) 0
theorem impl_total.calls (k : Nat) (A0 : Option Addr) (c0 : Nat) (l0 : List Int) (r : Int) (w : World) (hr0 : Kd.C (Kd.int .i64) w A0 l0.length l0) (hc0 : l0.length ≤ c0) (h : impl_total.f k l0 = some r) :
 Calls Try.prog 39 #[.slice A0 l0.length c0] w fun e w' => e = .returned (.int .i64 r) ∧ Drawn0 w w' := by
 have HR0 := zad hr0; have HC0 := zad hc0; clear hr0 hc0; have H : (impl_total.l0 k 0 l0 (l0.length : Int) 0) = some r := h
 clear h; have H' := zad H
 clear H; go_enter Try.func39, Try.ntmps39
 go_wp2
 go_loopg [3, 8] k (fun kq v3 v8 w' => ∃ (x3_1 : Int) (x8_1 : Int), v3 = .int .i64 x3_1 ∧ v8 = .int .i64 x8_1 ∧ Aside0 (impl_total.l0 kq x3_1 l0 (l0.length : Int) x8_1 = some r) ∧ Aside0 (kq ≤ k) ∧ Drawn0 w w')
 case atStart => exact ⟨(0), (0), (taad), (taad), H', ⟨zcc _⟩, taap⟩
 case round =>
  clear H'
  obtain ⟨x3_1, x8_1, rfl, rfl, HA, HK1, ⟨m1, rfl⟩⟩ := hrel
  cases gk with
  | zero => exact absurd HA.out (by simp [impl_total.l0])
  | succ k1 =>
   have H := HA.out
   clear HA; simp only [impl_total.l0] at H
   by_cases c2 : x8_1 < (l0.length : Int)
   · rw [if_pos c2] at H
     have c2b0 : decide (x8_1 < (l0.length : Int)) = true := zba c2
     clear c2; by_cases c3 : 0 ≤ x8_1
     · rw [if_pos c3] at H
       have c3b0 : decide (0 ≤ x8_1) = true := zba c3
       clear c3; by_cases c4 : x8_1 < (l0.length : Int)
       · rw [if_pos c4] at H
         have c4b0 : decide (x8_1 < (l0.length : Int)) = true := zba c4
         clear c4; have H' := zad H
         clear H; have p254 : 0 ≤ (x8_1 : Int) := zas (taab)
         have q254 : x8_1 < (l0.length : Int) := zas (taab)
         obtain ⟨ad254, e254, hx254_0⟩ := zbx HR0.out x8_1 p254 q254
         cases e254
         replace p254 := eq_true p254
         replace q254 := eq_true q254
         go_wp2
         go_roundg k1
         case measure => have := HK1.out; omega
         case rel => exact ⟨(wrap64 (x3_1 + (rd l0 x8_1))), (wrap64 (x8_1 + 1)), (taad), (taad), H', ⟨taaw⟩, taap⟩
       · rw [if_neg c4] at H
         exact absurd H (taah)
     · rw [if_neg c3] at H
       exact absurd H (taah)
   · rw [if_neg c2] at H
     have c2b0 : decide (x8_1 < (l0.length : Int)) = false := zbh c2
     clear c2; obtain rfl := zbc H
     go_wp2
     go_ret
     exact ⟨taad, taap⟩
def impl_doFit.f (k : Nat) (l0 : List Int) (l1 : List Int) : Option (Bool) := if (l0.length : Int) = (l1.length : Int) then ((impl_total.f k l0).bind fun t426 => ((impl_total.f k l1).bind fun t427 => (some (t426 == t427)))) else (some false)
theorem impl_doFit.calls (k : Nat) (A0 : Option Addr) (c0 : Nat) (l0 : List Int) (A1 : Option Addr) (c1 : Nat) (l1 : List Int) (r : Bool) (w : World) (hr0 : Kd.C (Kd.int .i64) w A0 l0.length l0) (hc0 : l0.length ≤ c0) (hr1 : Kd.C (Kd.int .i64) w A1 l1.length l1) (hc1 : l1.length ≤ c1) (h : impl_doFit.f k l0 l1 = some r) :
 Calls Try.prog 50 #[.slice A0 l0.length c0, .slice A1 l1.length c1] w fun e w' => e = .returned (.bool r) ∧ Drawn0 w w' := by
 have HR0 := zad hr0; have HC0 := zad hc0; clear hr0 hc0; have HR1 := zad hr1; have HC1 := zad hc1; clear hr1 hc1; have H : (if (l0.length : Int) = (l1.length : Int) then ((impl_total.f k l0).bind fun t426 => ((impl_total.f k l1).bind fun t427 => (some (t426 == t427)))) else (some false)) = some r := h
 clear h; by_cases c3 : (l0.length : Int) = (l1.length : Int)
 · rw [if_pos c3] at H
   have c3b0 : ((l0.length : Int) == (l1.length : Int)) = true := beq_iff_eq.mpr c3
   have c3b1 : ((l0.length : Int) != (l1.length : Int)) = false := bne_eq_false_iff_eq.mpr c3
   have c3b2 : (l0.length == l1.length) = true := by first | simpa using c3 | (simp at c3 ⊢; omega)
   clear c3; replace H := zay.mp H; obtain ⟨t426, A40, H⟩ := H
   replace H : ((impl_total.f k l1).bind fun t427 => (some (t426 == t427))) = some r := H
   have A4 := zad A40; clear A40; replace H := zay.mp H; obtain ⟨t427, A50, H⟩ := H
   replace H : (some (t426 == t427)) = some r := H
   have A5 := zad A50; clear A50; obtain rfl := zbc H
   go_enter Try.func50, Try.ntmps50
   go_wp2_with (first | (go_at_call 39; (with_reducible refine (impl_total.calls k _ _ l0 t426 _ ?side1 ?side2 A4.out).mono ?_); (case side1 => repeat (first | exact HR0.out | (with_reducible refine zal ?_ _) | (with_reducible refine zam ?_ _) | (with_reducible refine zan ?_))); (case side2 => exact HC0.out); rintro e w' ⟨rfl, ⟨nd, rfl⟩⟩) | (go_at_call 39; (with_reducible refine (impl_total.calls k _ _ l1 t427 _ ?side1 ?side2 A5.out).mono ?_); (case side1 => repeat (first | exact HR1.out | (with_reducible refine zal ?_ _) | (with_reducible refine zam ?_ _) | (with_reducible refine zan ?_))); (case side2 => exact HC1.out); rintro e w' ⟨rfl, ⟨nd, rfl⟩⟩))
   go_ret
   exact ⟨taad, taap⟩
 · rw [if_neg c3] at H
   have c3b0 : ((l0.length : Int) == (l1.length : Int)) = false := zbm.mpr c3
   have c3b1 : ((l0.length : Int) != (l1.length : Int)) = true := bne_iff_ne.mpr c3
   have c3b2 : (l0.length == l1.length) = false := by first | simpa using c3 | (simp at c3 ⊢; omega)
   obtain rfl := zbc H
   go_enter Try.func50, Try.ntmps50
   go_wp2
   go_ret
   exact ⟨taad, taap⟩
def slices_Max_int_int.l0 : Nat → List Int → Int → Int → Option (Int)
 | 0, _, _, _ => none
 | k + 1, x0, x3, x4 => if x4 < (x0.length : Int) then (if 0 ≤ x4 then (slices_Max_int_int.l0 k x0 (mx x3 (rd x0 x4)) (wrap64 (x4 + 1))) else (none)) else (some x3)
def slices_Max_int_int.f (k : Nat) (l0 : List Int) : Option (Int) := if (l0.length : Int) < 1 then (none) else (if 0 < (l0.length : Int) then (slices_Max_int_int.l0 k l0 (rd l0 0) 1) else (none))
theorem slices_Max_int_int.calls (k : Nat) (A0 : Option Addr) (c0 : Nat) (l0 : List Int) (r : Int) (w : World) (hr0 : Kd.C (Kd.int .i64) w A0 l0.length l0) (hc0 : l0.length ≤ c0) (h : slices_Max_int_int.f k l0 = some r) :
 Calls Try.prog 51 #[.slice A0 l0.length c0] w fun e w' => e = .returned (.int .i64 r) ∧ Below w.heap.size w w' := by
 have HR0 := zad hr0; have HC0 := zad hc0; clear hr0 hc0; have HB := zad (Below.refl w.heap.size w)
 have H : (if (l0.length : Int) < 1 then (none) else (if 0 < (l0.length : Int) then (slices_Max_int_int.l0 k l0 (rd l0 0) 1) else (none))) = some r := h
 clear h; by_cases c2 : (l0.length : Int) < 1
 · rw [if_pos c2] at H
   exact absurd H (taah)
 · rw [if_neg c2] at H
   have c2b0 : decide ((l0.length : Int) < 1) = false := zbh c2
   have c2b1 : decide (l0.length < 1) = false := zbh (by omega)
   clear c2; by_cases c3 : 0 < (l0.length : Int)
   · rw [if_pos c3] at H
     have c3b0 : decide (0 < (l0.length : Int)) = true := zba c3
     have c3b1 : decide (0 < l0.length) = true := zba (by omega)
     clear c3; have H' := zad H
     clear H; have p428 : 0 ≤ (0 : Int) := (by omega)
     have q428 : 0 < (l0.length : Int) := zas (taab)
     obtain ⟨ad428, e428, hx428_0⟩ := zbx HR0.out 0 p428 q428
     cases e428
     have qi428 : (0 < l0.length) = True := eq_true (by omega)
     (try rw [show ((0 : Int)).toNat = 0 from rfl] at hx428_0)
     (try rw [Addr.add_zero'] at hx428_0)
     replace p428 := eq_true p428
     replace q428 := eq_true q428
     go_enter Try.func51, Try.ntmps51
     go_wp2
     go_loopg [3, 4] k (fun kq v3 v4 w' => ∃ (x3_1 : Int) (x4_1 : Int), v3 = .int .i64 x3_1 ∧ v4 = .int .i64 x4_1 ∧ Aside0 (slices_Max_int_int.l0 kq l0 x3_1 x4_1 = some r) ∧ Aside0 (kq ≤ k) ∧ Aside0 (Below w.heap.size w w'))
     case atStart => exact ⟨(rd l0 0), (1), (taad), (taad), H', ⟨zcc _⟩, ⟨taaa⟩⟩
     case round =>
      clear H'
      try clear c2
      try clear c2b0
      try clear c2b1
      try clear p2
      try clear c3
      try clear c3b0
      try clear c3b1
      try clear hx428_0
      try clear p428
      try clear q428
      obtain ⟨x3_1, x4_1, rfl, rfl, HA, HK1, HB⟩ := hrel
      cases gk with
      | zero => exact absurd HA.out (by simp [slices_Max_int_int.l0])
      | succ k1 =>
       have H := HA.out
       clear HA; simp only [slices_Max_int_int.l0] at H
       by_cases c4 : x4_1 < (l0.length : Int)
       · rw [if_pos c4] at H
         have c4b0 : decide (x4_1 < (l0.length : Int)) = true := zba c4
         clear c4; by_cases c5 : 0 ≤ x4_1
         · rw [if_pos c5] at H
           have c5b0 : decide (0 ≤ x4_1) = true := zba c5
           clear c5; obtain ⟨ji6, hji6⟩ : ∃ j_ : Int, (mx x3_1 (rd l0 x4_1)) = j_ := ⟨_, rfl⟩
           replace H : (slices_Max_int_int.l0 k1 l0 ji6 (wrap64 (x4_1 + 1))) = some r := by first | (rw [hji6] at H; exact H) | (simp only [hji6] at H ⊢; exact H)
           have hji6_ : (if x3_1 < (rd l0 x4_1) then (rd l0 x4_1) else x3_1) = ji6 := hji6
           have H' := zad H
           clear H; have p429 : 0 ≤ (x4_1 : Int) := zas (taab)
           have q429 : x4_1 < (l0.length : Int) := zas (taab)
           obtain ⟨ad429, e429, hx429_0⟩ := zbx HR0.out x4_1 p429 q429
           obtain rfl : ad428 = ad429 := (by injection e429)
           replace hx429_0 := (HB.out.cell (zaz w _ hx429_0)).trans hx429_0
           replace p429 := eq_true p429
           replace q429 := eq_true q429
           go_wp2
           go_roundg k1
           case measure => have := HK1.out; omega
           case rel => exact ⟨(ji6), (wrap64 (x4_1 + 1)), (by first | rfl | (simp; done) | (simp only [← hji6] <;> (first | rfl | simp)) | (simp [*]; done)), (taad), H', ⟨taaw⟩, ⟨taaa⟩⟩
         · rw [if_neg c5] at H
           exact absurd H (taah)
       · rw [if_neg c4] at H
         have c4b0 : decide (x4_1 < (l0.length : Int)) = false := zbh c4
         clear c4; obtain rfl := zbc H
         go_wp2
         go_ret
         exact ⟨taam, taaa⟩
   · rw [if_neg c3] at H
     exact absurd H (taah)
mutual
def impl_conjugate.l0 : Nat → Int → List Int → List Int → Int → Int → Option (List Int)
 | 0, _, _, _, _, _ => none
 | k + 1, x1, x5, x11, x12, x13 => if x13 < x12 then (if 0 ≤ x13 then (if x13 < (x11.length : Int) then (impl_conjugate.l1 k x1 x5 x11 x12 x13 (mn (rd x11 x13) x1) 0) else (none)) else (none)) else (some x5)
def impl_conjugate.l1 : Nat → Int → List Int → List Int → Int → Int → Int → Int → Option (List Int)
 | 0, _, _, _, _, _, _, _ => none
 | k + 1, x1, x5, x11, x12, x13, x19, x20 => if x20 < x19 then (if 0 ≤ x20 then (if x20 < (x5.length : Int) then (impl_conjugate.l1 k x1 (x5.set (x20 : Int).toNat (wrap64 ((rd x5 x20) + 1))) x11 x12 x13 x19 (wrap64 (x20 + 1))) else (none)) else (none)) else (impl_conjugate.l0 k x1 x5 x11 x12 (wrap64 (x13 + 1)))
end
def impl_conjugate.f (k : Nat) (l0 : List Int) (a1 : Int) : Option (List Int) := if 0 ≤ a1 then (if (a1 : Int).toNat ≤ 35184372088832 then (impl_conjugate.l0 k a1 (List.replicate (a1 : Int).toNat 0) l0 (l0.length : Int) 0) else (none)) else (none)
theorem impl_conjugate.calls (k : Nat) (A0 : Option Addr) (c0 : Nat) (l0 : List Int) (a1 : Int) (r : List Int) (w : World) (hr0 : Kd.C (Kd.int .i64) w A0 l0.length l0) (hc0 : l0.length ≤ c0) (h : impl_conjugate.f k l0 a1 = some r) :
 Calls Try.prog 52 #[.slice A0 l0.length c0, .int .i64 a1] w fun e w' => ∃ v0_ : Value, e = .returned (v0_) ∧ Kd.R (Kd.int .i64) 3 w' w.heap.size (fun _ => True) v0_ r ∧ Below w.heap.size w w' := by
 have HR0 := zad hr0; have HC0 := zad hc0; clear hr0 hc0; have HB := zad (Below.refl w.heap.size w)
 have H : (if 0 ≤ a1 then (if (a1 : Int).toNat ≤ 35184372088832 then (impl_conjugate.l0 k a1 (List.replicate (a1 : Int).toNat 0) l0 (l0.length : Int) 0) else (none)) else (none)) = some r := h
 clear h; by_cases c3 : 0 ≤ a1
 · rw [if_pos c3] at H
   have c3b0 := eq_true c3; have c3b1 : decide (0 ≤ a1) = true := zba c3
   clear c3; by_cases c4 : (a1 : Int).toNat ≤ 35184372088832
   · rw [if_pos c4] at H
     have c4b0 := eq_true c4; have c4b1 : decide ((a1 : Int).toNat ≤ 35184372088832) = true := zba c4
     clear c4; obtain ⟨y430, hy430⟩ : ∃ y_ : List Int, y_ = (List.replicate (a1 : Int).toNat 0) := ⟨_, rfl⟩
     replace H : (impl_conjugate.l0 k a1 y430 l0 (l0.length : Int) 0) = some r := by first | (rw [hy430]; with_reducible exact H) | (have H2_ := (zbb _ _).symm.trans H; rw [hy430]; with_reducible exact H2_) | (have H2_ := (zbb _ _).symm.trans H; with_reducible exact H2_) | with_reducible exact H | (rw [hy430]; exact H) | exact H
     have Ny430 := zad hy430; clear hy430; have H' := zad H
     clear H; go_enter Try.func52, Try.ntmps52
     go_wp2_with (first | ((with_reducible refine gate_dst (N := 10) rfl ?_); refine Kd.R_make (Kd.int .i64) _ 3 rfl (N := 10) rfl 22 _ _ rfl a1 rfl rfl Try.underlying22 (.int .i64 0) 8 info3 rfl (by decide) (by omega) 0 (ok := fun _ => True) (okp := fun _ => True) rfl (fun _ hk => hk) trivial (zas (taab)) (Nat.le_trans (Nat.mul_le_mul_right _ (zas (taab) : a1.toNat ≤ 35184372088832)) (by omega)) (Below.refl _ _) (zcc _) ?_; intro v431 w5 ho6 hb hg_ hnew_; clear hg_ hnew_; (first | rw [← Ny430.out] at ho6 | (simp only [Int.reduceToNat] at ho6; rw [← Ny430.out] at ho6)); have n0_ := zad (zbs ho6 (zbi (taaa))); have n1_ := zad (zbe (taaa) hb); clear HB; have HO432 := n0_; have HB := n1_; clear n0_ n1_ hb ho6))
     go_loopg [13] k (fun kq v13 w' => ∃ (x5_1 : List Int) (x13_1 : Int), v13 = .int .i64 x13_1 ∧ Aside0 (impl_conjugate.l0 kq a1 x5_1 l0 (l0.length : Int) x13_1 = some r) ∧ Aside0 (kq ≤ k) ∧ Aside0 (Kd.R (Kd.int .i64) 3 w' w.heap.size (fun _ => True) v431 x5_1) ∧ Aside0 (Below w.heap.size w w'))
     case atStart => exact ⟨(y430), (0), (taad), H', ⟨zcc _⟩, ⟨by (with_reducible repeat (first | apply zai | apply zaj | apply zak)); exact HO432.out⟩, ⟨taaa⟩⟩
     case round =>
      clear H'
      try clear p2
      try clear c3
      try clear c3b0
      try clear c3b1
      try clear c4
      try clear c4b0
      try clear c4b1
      try clear c5
      obtain ⟨x5_1, x13_1, rfl, HA, HK1, HO_5, HB⟩ := hrel
      cases gk with
      | zero => exact absurd HA.out (by simp [impl_conjugate.l0])
      | succ k1 =>
       have H := HA.out
       clear HA; simp only [impl_conjugate.l0] at H
       by_cases c7 : x13_1 < (l0.length : Int)
       · rw [if_pos c7] at H
         have c7b0 : decide (x13_1 < (l0.length : Int)) = true := zba c7
         clear c7; by_cases c8 : 0 ≤ x13_1
         · rw [if_pos c8] at H
           have c8b0 : decide (0 ≤ x13_1) = true := zba c8
           clear c8; by_cases c9 : x13_1 < (l0.length : Int)
           · rw [if_pos c9] at H
             have c9b0 : decide (x13_1 < (l0.length : Int)) = true := zba c9
             clear c9; obtain ⟨ji10, hji10⟩ : ∃ j_ : Int, (mn (rd l0 x13_1) a1) = j_ := ⟨_, rfl⟩
             replace H : (impl_conjugate.l1 k1 a1 x5_1 l0 (l0.length : Int) x13_1 ji10 0) = some r := by first | (rw [hji10] at H; exact H) | (simp only [hji10] at H ⊢; exact H)
             have hji10_ : (if a1 < (rd l0 x13_1) then a1 else (rd l0 x13_1)) = ji10 := hji10
             have H' := zad H
             clear H; have p433 : 0 ≤ (x13_1 : Int) := zas (taab)
             have q433 : x13_1 < (l0.length : Int) := zas (taab)
             obtain ⟨ad433, e433, hx433_0⟩ := zbx HR0.out x13_1 p433 q433
             cases e433
             replace hx433_0 := (HB.out.cell (zaz w _ hx433_0)).trans hx433_0
             replace p433 := eq_true p433
             replace q433 := eq_true q433
             go_wp2
             go_loopg [20] k1 (fun kq v20 w' => ∃ (x5_2 : List Int) (x20_2 : Int), v20 = .int .i64 x20_2 ∧ Aside0 (impl_conjugate.l1 kq a1 x5_2 l0 (l0.length : Int) x13_1 ji10 x20_2 = some r) ∧ Aside0 (kq ≤ k1) ∧ Aside0 (Kd.R (Kd.int .i64) 3 w' w.heap.size (fun _ => True) v431 x5_2) ∧ Aside0 (Below w.heap.size w w'))
             case atStart => exact ⟨(x5_1), (0), (taad), H', ⟨zcc _⟩, ⟨taaf⟩, ⟨taaa⟩⟩
             case round =>
              clear H'
              try clear p2
              try clear c3
              try clear c3b0
              try clear c3b1
              try clear c4
              try clear c4b0
              try clear c4b1
              try clear p4
              try clear q4
              try clear hx4
              try clear c5
              try clear c7
              try clear c7b0
              try clear c8
              try clear c8b0
              try clear c9
              try clear c9b0
              try clear hx433_0
              try clear p2
              try clear p433
              try clear q433
              obtain ⟨x5_2, x20_2, rfl, HA, HK2, HO_5, HB⟩ := hrel
              cases gk with
              | zero => exact absurd HA.out (by simp [impl_conjugate.l1])
              | succ k2 =>
               have H := HA.out
               clear HA; simp only [impl_conjugate.l1] at H
               by_cases c11 : x20_2 < ji10
               · rw [if_pos c11] at H
                 have c11b0 : decide (x20_2 < ji10) = true := zba c11
                 clear c11; by_cases c12 : 0 ≤ x20_2
                 · rw [if_pos c12] at H
                   have c12b0 : decide (0 ≤ x20_2) = true := zba c12
                   clear c12; by_cases c13 : x20_2 < (x5_2.length : Int)
                   · rw [if_pos c13] at H
                     have c13b0 : decide (x20_2 < (x5_2.length : Int)) = true := zba c13
                     clear c13; obtain ⟨y435, hy435⟩ : ∃ y_ : List Int, y_ = (x5_2.set (x20_2 : Int).toNat (wrap64 ((rd x5_2 x20_2) + 1))) := ⟨_, rfl⟩
                     replace H : (impl_conjugate.l1 k2 a1 y435 l0 (l0.length : Int) x13_1 ji10 (wrap64 (x20_2 + 1))) = some r := by first | (rw [hy435]; with_reducible exact H) | (have H2_ := (zbb _ _).symm.trans H; rw [hy435]; with_reducible exact H2_) | (have H2_ := (zbb _ _).symm.trans H; with_reducible exact H2_) | with_reducible exact H | (rw [hy435]; exact H) | exact H
                     have Ny435 := zad hy435; clear hy435; have H' := zad H
                     clear H; obtain ⟨Ao15, co15, eo15⟩ := zbt HO_5.out
                     subst eo15; have p434 : 0 ≤ (x20_2 : Int) := zas (taab)
                     have q434 : x20_2 < (x5_2.length : Int) := zas (taab)
                     obtain ⟨ad434, e434, hx434_0⟩ := zbx (zbd HO_5.out).2.2 x20_2 p434 q434
                     cases e434
                     replace p434 := eq_true p434
                     replace q434 := eq_true q434
                     have p14 : 0 ≤ (x20_2 : Int) := zas (taab)
                     have q14 : (x20_2 : Int) < ((x5_2.length : Int) : Int) := zas (taab)
                     obtain ⟨go14, co14, eo14, gb14, gl14, cl14, HG14⟩ := Kd.R_form HO_5.out (by omega)
                     (first | cases eo14 | (injection eo14 with ea_ en_ ec_; (first | subst ea_ | (injection ea_ with ea_; subst ea_)); subst ec_; clear en_))
                     have GB14 := zad gb14; have GG14 := zad HG14; clear gb14 gl14 HG14; (first | simp only [add_plain] at hx434_0 | skip)
                     obtain ⟨hx14_0, hf14_0⟩ := Kd.R_celln 0 HO_5.out (x20_2 : Int) p14 q14
                     replace p14 := eq_true p14
                     replace q14 := eq_true q14
                     have HP16 := Kd.R_putg HO_5.out (x20_2 : Int) (wrap64 ((rd x5_2 x20_2) + 1))
                     go_wp2_with (first | ((with_reducible refine gate_store (t := 3) (p := 28) rfl ?_); refine store_event (t := 3) (p := 28) (v := ?vo_w17) (w1 := (wr.setCell ⟨go14, (x20_2 : Int).toNat, none⟩ (.int .i64 (wrap64 ((rd x5_2 x20_2) + 1))))) ?hg ?ho ?hn ?hr ?_; (case ho => rfl); (case hg => rfl); (case hn => rfl); (case hr => first | (go_simp; done) | (go_simp; rfl)); intro w17 hw; have hg : wr.grownBy w17 (some go14) := (by rw [hw]; exact HP16.2); have hp_ : Kd.R (Kd.int .i64) 3 w17 w.heap.size (fun _ => True) (.slice (some ⟨go14, 0, none⟩) x5_2.length co15) y435 := (by rw [hw, Ny435.out]; exact HP16.1); clear HP16; have n0_ := zad (hp_); have n1_ := zad ((by rw [hw]; exact zah (HB.out) GB14.out : Below w.heap.size w w17)); clear HO_5 HB; have HO_5 := n0_; have HB := n1_; clear n0_ n1_ hg hw hp_))
                     go_roundg k2
                     case measure => have := HK1.out; have := HK2.out; omega
                     case rel => exact ⟨(y435), (wrap64 (x20_2 + 1)), (taad), H', ⟨tabj⟩, ⟨taaf⟩, ⟨taaa⟩⟩
                   · rw [if_neg c13] at H
                     exact absurd H (taah)
                 · rw [if_neg c12] at H
                   exact absurd H (taah)
               · rw [if_neg c11] at H
                 have c11b0 : decide (x20_2 < ji10) = false := zbh c11
                 clear c11; have H' := zad H
                 clear H; go_wp2
                 go_roundg k2
                 case measure => have := HK1.out; have := HK2.out; omega
                 case rel => exact ⟨(x5_2), (wrap64 (x13_1 + 1)), (taad), H', ⟨tabj⟩, ⟨taaf⟩, ⟨taaa⟩⟩
           · rw [if_neg c9] at H
             exact absurd H (taah)
         · rw [if_neg c8] at H
           exact absurd H (taah)
       · rw [if_neg c7] at H
         have c7b0 : decide (x13_1 < (l0.length : Int)) = false := zbh c7
         clear c7; obtain rfl := zbc H
         go_wp2
         go_ret
         exact ⟨_, taam, taaf, taaa⟩
   · rw [if_neg c4] at H
     exact absurd H (taah)
 · rw [if_neg c3] at H
   exact absurd H (taah)
def slices_Clone_int_int.f (l0 : List Int) : Option (List Int) := if l0.length ≤ 17592186044416 then some l0 else none
theorem slices_Clone_int_int.calls (A0 : Option Addr) (c0 : Nat) (l0 : List Int) (r : List Int) (w : World) (hr0 : Kd.C (Kd.int .i64) w A0 l0.length l0) (hc0 : l0.length ≤ c0) (h : slices_Clone_int_int.f l0 = some r) :
 Calls Try.prog 80 #[.slice A0 l0.length c0] w fun e w' => ∃ v0_ : Value, e = .returned (v0_) ∧ Kd.R (Kd.int .i64) 3 w' w.heap.size (fun _ => True) v0_ r ∧ Below w.heap.size w w' := by
 have hl : l0.length ≤ 17592186044416 ∧ l0 = r := by
  unfold slices_Clone_int_int.f at h
  by_cases c : l0.length ≤ 17592186044416
  · rw [if_pos c] at h
    exact ⟨c, zbc h⟩
  · rw [if_neg c] at h
    cases h
 clear h; obtain ⟨hl, rfl⟩ := hl
 have hn := (Kd.reads_of_C (d := (0 : Int)) (h1 := fun _ => rfl) hr0).2.2
 clear hr0; have q := fun (w : World) (a : Option Addr) (n c n' c' : Nat) => Lib.run_eql_slice_nil (P := Try.prog) w 22 3 a n c n' c' Try.underlying22
 cases A0 with
 | none =>
  have e0 : l0 = [] := by
   cases l0 with
   | nil => rfl
   | cons x t =>
    obtain ⟨ad, e', _⟩ := hn (taah)
    cases e'
  subst e0; clear hn; go_enter Try.func80, Try.ntmps80
  go_wp2
  go_ret
  exact ⟨_, rfl, Kd.R_nil _ _ _ _ _, Below.refl _ _⟩
 | some ad =>
  have HC : Aside0 (∀ j u, (encs (Value.int .i64) l0)[j]? = some u → w.cell? (ad.add j) = some u) := ⟨by
   intro j u hj
   have hjl : j < l0.length := by
    have := (List.getElem?_eq_some_iff.1 hj).1
    rwa [encs_length] at this
   obtain ⟨ad', e', hcell⟩ := hn (by omega)
   cases e'
   rw [encs_get (d := (0 : Int)) l0 j hjl] at hj
   injection hj with hj
   rw [← hj]
   exact hcell j hjl⟩
  clear hn; obtain ⟨i0, hi, hzz⟩ := Option.map_eq_some_iff.1 info3
  simp only [zbn] at hzz
  obtain ⟨hz0, hz1, hz2⟩ := hzz
  have Hl := zad hl; have Hc := zad hc0; clear hl hc0; go_enter Try.func80, Try.ntmps80
  go_wp2_with (at_builtin; refine wpList_append_own _ rfl _ _ 22 rfl w.heap.size 3 i0 (.int .i64 0) 1 8 Try.underlying22 hi hz0 hz1 hz2 rfl (by decide) _ _ _ rfl (World.ownsRow_made w #[] 0 (zcc _) (Nat.zero_le _) (taah)) ad l0.length c0 (encs (Value.int .i64) l0) rfl ?qc1 ?qc2 ?qc3 ?qc4 ?qc5 ?qc6 ?_)
  case qc1 => rw [encs_length, Nat.mul_one]
  case qc2 =>
   intro j u hj
   exact Lib.cell?_alloc_some _ (HC.out j u hj)
  case qc3 =>
   intro u hu
   obtain ⟨x, _, rfl⟩ := List.mem_map.1 hu
   rfl
  case qc4 =>
   have := Hl.out
   unfold maxLen
   omega
  case qc5 =>
   have := Hl.out
   omega
  case qc6 => simp
  intro v' w1 hown hgrow hnil
  go_wp2
  go_ret
  refine ⟨v', rfl, ?_, ?_⟩
  · refine Kd.R_of_own ?_ (fun _ _ => trivial)
    simpa using hown
  · exact ((Below.refl _ w).alloc (zcc _) _).grown hgrow (taah) (by intro k hk; simp [Value.ownBlock] at hk; omega)
section
open Go.Shelf Go.Lib Go.Sort
theorem heap_sorted {α : Type} [Inhabited α] (enc : α → Value) (w : World) (blk off m : Nat) (d : Array α) (os : Array Obj) (k : Nat) (hk : k < w.heap.size) :
 (sortWorld enc w blk off m d os).heap[k]? = if blk = k then (w.heap[k]?).map (onCells (putCells enc off d)) else w.heap[k]? := by
 have h1 : (sortWorld enc w blk off m d os).heap = (w.heap.modify blk (onCells (putCells enc off d))) ++ os := rfl
 rw [h1, Array.getElem?_append_left (by rw [Array.size_modify]; exact hk), Array.getElem?_modify]
theorem size_sorted {α : Type} [Inhabited α] (enc : α → Value) (w : World) (blk off m : Nat) (d : Array α) (os : Array Obj) : w.heap.size ≤ (sortWorld enc w blk off m d os).heap.size := by
 have h1 : (sortWorld enc w blk off m d os).heap = (w.heap.modify blk (onCells (putCells enc off d))) ++ os := rfl
 rw [h1, Array.size_append, Array.size_modify]
 omega
theorem below_sorted {α : Type} [Inhabited α] (enc : α → Value) {w w1 : World} (hb : Below w.heap.size w w1) {blk off m : Nat} (d : Array α) (os : Array Obj) (hg : w.heap.size ≤ blk) : Below w.heap.size w (sortWorld enc w1 blk off m d os) := by
 refine ⟨hb.os, hb.tape, hb.output, Nat.le_trans hb.size (size_sorted _ _ _ _ _ _ _), fun k hk => ?_⟩
 rw [heap_sorted _ _ _ _ _ _ _ _ (Nat.lt_of_lt_of_le hk hb.size), if_neg (by omega)]
 exact hb.block k hk
theorem putCells_take {α : Type} [Inhabited α] (enc : α → Value) (d : Array α) (cur : Array Value) (h : d.size ≤ cur.size) : (putCells enc 0 d cur).toList.take d.size = d.toList.map enc := by
 apply List.ext_getElem?
 intro i
 by_cases hi : i < d.size
 · rw [List.getElem?_take_of_lt hi, List.getElem?_map, Array.getElem?_toList, Array.getElem?_toList, Array.getElem?_eq_getElem hi]
   unfold putCells
   rw [Array.getElem?_mapIdx, Array.getElem?_eq_getElem (show i < cur.size by omega)]
   simp [hi, getElem!_pos]
 · rw [List.getElem?_eq_none (by rw [zax]; omega), List.getElem?_eq_none (by simp; omega)]
theorem own_sorted {α : Type} [Inhabited α] (enc : α → Value) {w1 : World} {base e n g cap m : Nat} {cur : Array Value} (d : Array α) (os : Array Obj) (hb : base ≤ g) (hh : w1.heap[g]? = some (.cells cur e (0, 0))) (hn : n ≤ cap) (hc : cap ≤ maxLen) (hs : cur.size = cap * 1) (hd : d.size = n) :
 (sortWorld enc w1 g 0 m d os).ownsRow base e 1 (.slice (some ⟨g, 0, none⟩) n cap) n (d.toList.map enc) := by
 have hg : g < w1.heap.size := (Array.getElem?_eq_some_iff.1 hh).1
 refine ⟨by simp [hd], .inr ⟨g, cap, putCells enc 0 d cur, rfl, hb, ?_, hn, hc, ?_, ?_⟩⟩
 · rw [heap_sorted _ _ _ _ _ _ _ _ hg, if_pos rfl, hh]
   rfl
 · unfold putCells
   rw [Array.size_mapIdx]
   exact hs
 · rw [Nat.mul_one, ← hd]
   exact putCells_take enc d cur (by omega)
theorem holds_own {α : Type} [Inhabited α] (enc : α → Value) {w1 : World} {e n g cap : Nat} {cur : Array Value} (d : Array α) (hh : w1.heap[g]? = some (.cells cur e (0, 0))) (hn : n ≤ cap) (hs : cur.size = cap * 1) (hd : d.size = n) (ht : cur.toList.take (n * 1) = d.toList.map enc) : Holds enc w1 g 0 d := by
 intro j hj
 have h1 : (cur.toList.take (n * 1))[j]? = (d.toList.map enc)[j]? := by rw [ht]
 rw [List.getElem?_take_of_lt (by omega), List.getElem?_map, Array.getElem?_toList, Array.getElem?_toList, Array.getElem?_eq_getElem hj] at h1
 rw [Nat.zero_add]
 refine ⟨?_, blk_frozen hh j⟩
 rw [blk_cell hh j, h1, getElem!_pos d j hj]
 rfl
end
end Go.Proofs.Ytdkimdlbjeobiaa.A
/-
  DERIVED: THE SHELF's CONTRACTS AT THIS DUMP, IN PLAIN WORDS (tools/lay-plain.mjs out of 'YtdkimdlbjeobiaaShelf.lean', which tools/lay-shelf.mjs wrote): THE SAME DECLARATIONS UNDER THE SAME NAMES: 'import', 'namespace', 'open', 'def', 'theorem' AND NOTHING ELSE: no command of the shelf's: FOR A HAND-IN. Each laying: the table of numbers ('.._ren') and one theorem, a field a fact of the dump's own or the kernel's comparison; each contract: ONE APPLICATION.
-/
namespace Go.Proofs
open Go.Shelf
def Try.sortL_ren : Go.Shelf.Ren := ⟨fun | 6 => 81 | 15 => 85 | 14 => 84 | 28 => 94 | 29 => 95 | 20 => 86 | 21 => 87 | 22 => 88 | 23 => 89 | 24 => 90 | 25 => 91 | 26 => 92 | 27 => 93 | 46 => 96 | 47 => 97 | 48 => 98 | 49 => 99 | 50 => 100 | 57 => 101 | n => n, fun | 22 => 22 | 24 => 3 | 25 => 55 | 3 => 3 | 39 => 69 | 0 => 0 | 53 => 81 | 55 => 49 | 4 => 4 | 46 => 74 | 45 => 73 | 50 => 78 | 5 => 5 | 9 => 9 | 66 => 83 | 70 => 87 | 76 => 89 | 77 => 41 | n => n, fun | n => n⟩
theorem Try.sortL : Go.Proofs.SlLaysF.n6 Try.prog Try.sortL_ren := {
 mixed := by kernel_rfl
 f6 := ⟨Try.f81.name, by decide, Try.func81.trans (congrArg some (by kernel_rfl))⟩
 f14 := ⟨Try.f84.name, by decide, Try.func84.trans (congrArg some (by kernel_rfl))⟩
 f15 := Try.func85.trans (congrArg some (by kernel_rfl))
 f20 := ⟨Try.f86.name, by decide, Try.func86.trans (congrArg some (by kernel_rfl))⟩
 f21 := ⟨Try.f87.name, by decide, Try.func87.trans (congrArg some (by kernel_rfl))⟩
 f22 := ⟨Try.f88.name, by decide, Try.func88.trans (congrArg some (by kernel_rfl))⟩
 f23 := ⟨Try.f89.name, by decide, Try.func89.trans (congrArg some (by kernel_rfl))⟩
 f24 := ⟨Try.f90.name, by decide, Try.func90.trans (congrArg some (by kernel_rfl))⟩
 f25 := ⟨Try.f91.name, by decide, Try.func91.trans (congrArg some (by kernel_rfl))⟩
 f26 := ⟨Try.f92.name, by decide, Try.func92.trans (congrArg some (by kernel_rfl))⟩
 f27 := ⟨Try.f93.name, by decide, Try.func93.trans (congrArg some (by kernel_rfl))⟩
 f28 := Try.func94.trans (congrArg some (by kernel_rfl))
 f29 := Try.func95.trans (congrArg some (by kernel_rfl))
 f46 := ⟨Try.f96.name, by decide, Try.func96.trans (congrArg some (by kernel_rfl))⟩
 f47 := Try.func97.trans (congrArg some (by kernel_rfl))
 f48 := Try.func98.trans (congrArg some (by kernel_rfl))
 f49 := ⟨Try.f99.name, by decide, Try.func99.trans (congrArg some (by kernel_rfl))⟩
 f50 := ⟨Try.f100.name, by decide, Try.func100.trans (congrArg some (by kernel_rfl))⟩
 f57 := ⟨Try.f101.name, by decide, Try.func101.trans (congrArg some (by kernel_rfl))⟩
 t0 := Try.underlying0
 a0 := Try.isAgg0
 z0 := Try.sizeOf0
 v0 := Try.zeroValue0
 t3 := Try.underlying3
 a3 := Try.isAgg3
 z3 := Try.sizeOf3
 v3 := Try.zeroValue3
 t4 := Try.underlying4
 a4 := Try.isAgg4
 z4 := Try.sizeOf4
 v4 := Try.zeroValue4
 t5 := Try.underlying5
 a5 := Try.isAgg5
 z5 := Try.sizeOf5
 v5 := Try.zeroValue5
 t9 := Try.underlying9
 a9 := Try.isAgg9
 z9 := Try.sizeOf9
 v9 := Try.zeroValue9
 t22 := Try.underlying22
 a22 := Try.isAgg22
 z22 := Try.sizeOf22
 v22 := Try.zeroValue22
 a24 := Try.isAgg3
 z24 := Try.sizeOf3
 t25 := Try.underlying55
 a25 := Try.isAgg55
 z25 := Try.sizeOf55
 v25 := Try.zeroValue55
 t39 := Try.underlying69
 a39 := Try.isAgg69
 z39 := Try.sizeOf69
 v39 := Try.zeroValue69
 t45 := Try.underlying73
 a45 := Try.isAgg73
 z45 := Try.sizeOf73
 v45 := Try.zeroValue73
 t46 := Try.underlying74
 a46 := Try.isAgg74
 z46 := Try.sizeOf74
 v46 := Try.zeroValue74
 t50 := Try.underlying78
 a50 := Try.isAgg78
 z50 := Try.sizeOf78
 v50 := Try.zeroValue78
 t53 := Try.underlying81
 a53 := Try.isAgg81
 z53 := Try.sizeOf81
 v53 := Try.zeroValue81
 t55 := Try.underlying49
 a55 := Try.isAgg49
 z55 := Try.sizeOf49
 v55 := Try.zeroValue49
 t66 := Try.underlying83
 a66 := Try.isAgg83
 z66 := Try.sizeOf83
 v66 := Try.zeroValue83
 t70 := Try.underlying87
 a70 := Try.isAgg87
 z70 := Try.sizeOf87
 v70 := Try.zeroValue87
 t76 := Try.underlying89
 a76 := Try.isAgg89
 z76 := Try.sizeOf89
 v76 := Try.zeroValue89
 t77 := Try.underlying41
 a77 := Try.isAgg41
 z77 := Try.sizeOf41
 v77 := Try.zeroValue41 }
end Go.Proofs

namespace Go.Proofs.Ytdkimdlbjeobiaa.A
open Go.RowKit Go.Proofs.YtdkimdlbjeobiaaW.PrintWords Go.Proofs.YtdkimdlbjeobiaaW.PrintLast Go.Proofs.YtdkimdlbjeobiaaW.PrintMore
attribute [local go_sem] max2_int min2_int max_two min_two max_three min_three max_four min_four
section
open Go.Shelf Go.Lib Go.Sort
def descL (l : List Int) : List Int := l.mergeSort fun x y => decide (y ≤ x)
def smallL (l : List Int) : Bool := decide (l.length ≤ 1000000) && l.all fun x => decide (0 ≤ x ∧ x ≤ 1000000)
def impl_ranking.f (l0 : List Int) : Option (List Int) := if smallL l0 = true then some (descL l0) else none
abbrev SmallI : Type := { x : Int // 0 ≤ x ∧ x ≤ 1000000 }
instance : Inhabited SmallI := ⟨⟨0, by omega, by omega⟩⟩
def encI (x : SmallI) : Value := .int .i64 x.1
def cfI (x y : SmallI) : Int := y.1 - x.1
theorem ltI (x y : SmallI) : ltOf cfI x y = decide (y.1 < x.1) := by
 unfold ltOf cfI
 by_cases h : y.1 < x.1
 · simp [h]
   omega
 · simp [h]
   omega
theorem swoI : SWO (ltOf cfI) where
 irrefl x := by rw [ltI]; simp
 trans x y z h1 h2 := by rw [ltI] at *; simp at *; omega
 ntrans x y z h1 h2 := by rw [ltI] at *; simp at *; omega
theorem totI (x y : SmallI) (h1 : ltOf cfI x y = false) (h2 : ltOf cfI y x = false) : x = y := by
 rw [ltI] at *
 simp at *
 exact Subtype.ext (by omega)
theorem geI : (fun x y : SmallI => !ltOf cfI y x) = fun x y => decide (y.1 ≤ x.1) := by
 funext x y
 rw [ltI]
 by_cases h : y.1 ≤ x.1
 · have h' : ¬ x.1 < y.1 := by omega
   simp [h, h']
 · have h' : x.1 < y.1 := by omega
   simp [h, h']
theorem ranking_cmp (x y : SmallI) (W : World) : Calls Try.prog 82 #[encI x, encI y] W fun e w' => e = .returned (.int .i64 (cfI x y)) ∧ ∃ q, w' = W.drewN q := by
 obtain ⟨x, hx0, hx1⟩ := x
 obtain ⟨y, hy0, hy1⟩ := y
 unfold encI cfI
 go_enter Try.func82, Try.ntmps82
 go_wp2
 go_ret
 exact ⟨rfl, 0, rfl⟩
theorem attach_enc (l : List Int) (h : ∀ x ∈ l, 0 ≤ x ∧ x ≤ 1000000) : (l.attachWith (fun x => 0 ≤ x ∧ x ≤ 1000000) h).map encI = encs (Value.int .i64) l := by
 unfold encs
 rw [show encI = (Value.int .i64) ∘ Subtype.val from rfl, ← List.map_map, List.attachWith_map_subtype_val]
theorem descL_attach (l : List Int) (h : ∀ x ∈ l, 0 ≤ x ∧ x ≤ 1000000) : ((l.attachWith (fun x => 0 ≤ x ∧ x ≤ 1000000) h).mergeSort fun x y => decide (y.1 ≤ x.1)).map encI = encs (Value.int .i64) (descL l) := by
 have h1 : ((l.attachWith (fun x => 0 ≤ x ∧ x ≤ 1000000) h).mergeSort fun x y => decide (y.1 ≤ x.1)).map Subtype.val = descL l := by
  unfold descL
  rw [List.map_mergeSort (s := fun x y => decide (y ≤ x)) (fun a _ b _ => rfl), List.attachWith_map_subtype_val]
 unfold encs
 rw [← h1, List.map_map]
 rfl
theorem impl_ranking.calls (A0 : Option Addr) (c0 : Nat) (l0 : List Int) (r : List Int) (w : World) (hr0 : Kd.C (Kd.int .i64) w A0 l0.length l0) (hc0 : l0.length ≤ c0) (h : impl_ranking.f l0 = some r) :
 Calls Try.prog 59 #[.slice A0 l0.length c0] w fun e w' => ∃ v0_ : Value, e = .returned (v0_) ∧ Kd.R (Kd.int .i64) 3 w' w.heap.size (fun _ => True) v0_ r ∧ Below w.heap.size w w' := by
 have hl : smallL l0 = true ∧ descL l0 = r := by
  unfold impl_ranking.f at h
  by_cases c : smallL l0 = true
  · rw [if_pos c] at h
    exact ⟨c, zbc h⟩
  · rw [if_neg c] at h
    cases h
 clear h; obtain ⟨hs, rfl⟩ := hl
 unfold smallL at hs
 simp only [Bool.and_eq_true, decide_eq_true_eq, List.all_eq_true] at hs
 obtain ⟨hl, hall⟩ := hs
 have HCl := zad (slices_Clone_int_int.calls A0 c0 l0 l0 w hr0 hc0 (by unfold slices_Clone_int_int.f; rw [if_pos (by omega)]))
 have Hall := zad hall; have Hl := zad hl; clear hall hl hr0 hc0; have eg : ∀ args w, (callFunc 82 args).run Try.prog w = .ok (.enter 82 args) w := enters_of Try.func82 (by kernel_rfl) rfl
 have Heg := zad eg; clear eg; go_enter Try.func59, Try.ntmps59
 go_wp2_with fail
 refine HCl.out.mono ?_
 rintro e w1 ⟨v, rfl, hR, hb⟩
 have ho := Kd.own_of_R hR
 clear hR HCl; have Hb := zad hb; clear hb; obtain ⟨hlen', hcase⟩ := ho
 rcases hcase with ⟨rfl, h0⟩ | ⟨g, cap, cur, rfl, hg, hh, hnc, hcm, hcs, htake⟩
 · have hnil : l0 = [] := List.length_eq_zero_iff.1 h0
   subst hnil; clear h0 hlen' Hall Hl
   have hS := AnyF.slices_SortFunc_none (P := Try.prog) (ρ := Try.sortL_ren) { Try.sortL with } none 0 (.func (.func 82) #[] #[]) w1
   change Calls Try.prog 81 _ _ _ at hS
   have HS := zad hS; clear hS; go_wp2_with fail
   refine HS.out.mono ?_
   rintro e w2 ⟨rfl, rfl⟩
   go_wp2
   go_ret
   exact ⟨_, rfl, by unfold descL; simp only [List.mergeSort]; exact Kd.R_nil _ _ _ _ _, Hb.out⟩
 · have hd : (l0.attachWith (fun x => 0 ≤ x ∧ x ≤ 1000000) Hall.out).toArray.size = l0.length := by simp
   have hH := holds_own encI (l0.attachWith (fun x => 0 ≤ x ∧ x ≤ 1000000) Hall.out).toArray hh hnc hcs hd (by
    rw [htake, List.toList_toArray, attach_enc])
   have hS := Any.slices_SortFunc_total Try.sortL encI (fun _ => rfl) cfI swoI 82 #[] g 0 cap (l0.attachWith (fun x => 0 ≤ x ∧ x ≤ 1000000) Hall.out).toArray w1 Heg.out
    (CmpReads.lays (fun _ _ _ _ x y => ranking_cmp x y _)) hH (Array.getElem?_eq_some_iff.1 hh).1 (by have := Hl.out; rw [hd]; omega) totI
   rw [geI, hd] at hS
   change Calls Try.prog 81 _ _ _ at hS
   have HS := zad hS
   have HF : Aside0 (∀ m os, Kd.R (Kd.int .i64) 3 (sortWorld encI w1 g 0 m ((l0.attachWith (fun x => 0 ≤ x ∧ x ≤ 1000000) Hall.out).mergeSort fun x y => decide (y.1 ≤ x.1)).toArray os) w.heap.size (fun _ => True) (.slice (some ⟨g, 0, none⟩) l0.length cap) (descL l0) ∧ Below w.heap.size w (sortWorld encI w1 g 0 m ((l0.attachWith (fun x => 0 ≤ x ∧ x ≤ 1000000) Hall.out).mergeSort fun x y => decide (y.1 ≤ x.1)).toArray os)) := ⟨fun m os => by
    refine ⟨?_, below_sorted encI Hb.out _ os hg⟩
    have hdl : (descL l0).length = l0.length := List.length_mergeSort l0
    have ho := own_sorted encI (m := m) ((l0.attachWith (fun x => 0 ≤ x ∧ x ≤ 1000000) Hall.out).mergeSort fun x y => decide (y.1 ≤ x.1)).toArray os hg hh hnc hcm hcs (by simp [List.length_mergeSort])
    rw [List.toList_toArray, descL_attach] at ho
    exact Kd.R_of_own (by rw [hdl]; exact ho) (fun _ _ => trivial)⟩
   clear hS hH hd hh hnc hcm hcs htake hlen' hg
   go_wp2_with fail
   refine HS.out.mono ?_
   rintro e w2 ⟨rfl, n, os, rfl⟩
   have hF := HF.out n os
   have HF2 := zad hF; clear hF; generalize sortWorld encI w1 g 0 n ((l0.attachWith (fun x => 0 ≤ x ∧ x ≤ 1000000) Hall.out).mergeSort fun x y => decide (y.1 ≤ x.1)).toArray os = w2 at HF2 ⊢
   go_wp2
   go_ret
   exact ⟨_, rfl, HF2.out.1, HF2.out.2⟩
end
def impl_partial.l0 : Nat → List Int → Int → List Int → Int → Int → Option (List Int)
 | 0, _, _, _, _, _ => none
 | k + 1, x3, x4, x9, x10, x11 => if x11 < x10 then (if 0 ≤ x11 then (if x11 < (x9.length : Int) then (if x3.length < 17592186044416 then (impl_partial.l0 k (x3 ++ [wrap64 (x4 + (rd x9 x11))]) (wrap64 (x4 + (rd x9 x11))) x9 x10 (wrap64 (x11 + 1))) else (none)) else (none)) else (none)) else (some x3)
def impl_partial.f (k : Nat) (l0 : List Int) : Option (List Int) := (impl_ranking.f l0).bind fun t441 => (impl_partial.l0 k (([] : List Int)) 0 t441 (t441.length : Int) 0)
theorem impl_partial.calls (k : Nat) (A0 : Option Addr) (c0 : Nat) (l0 : List Int) (r : List Int) (w : World) (hr0 : Kd.C (Kd.int .i64) w A0 l0.length l0) (hc0 : l0.length ≤ c0) (h : impl_partial.f k l0 = some r) :
 Calls Try.prog 78 #[.slice A0 l0.length c0] w fun e w' => ∃ v0_ : Value, e = .returned (v0_) ∧ Kd.R (Kd.int .i64) 3 w' w.heap.size (fun _ => True) v0_ r ∧ Below w.heap.size w w' := by
 have HR0 := zad hr0; have HC0 := zad hc0; clear hr0 hc0; have HB := zad (Below.refl w.heap.size w)
 have H : ((impl_ranking.f l0).bind fun t441 => (impl_partial.l0 k (([] : List Int)) 0 t441 (t441.length : Int) 0)) = some r := h
 clear h; obtain ⟨y438, hy438⟩ : ∃ y_ : List Int, y_ = (([] : List Int)) := ⟨_, rfl⟩
 replace H : ((impl_ranking.f l0).bind fun t441 => (impl_partial.l0 k y438 0 t441 (t441.length : Int) 0)) = some r := by first | (rw [hy438]; with_reducible exact H) | (have H2_ := (zbb _ _).symm.trans H; rw [hy438]; with_reducible exact H2_) | (have H2_ := (zbb _ _).symm.trans H; with_reducible exact H2_) | with_reducible exact H | (rw [hy438]; exact H) | exact H
 have Ny438 := zad hy438; clear hy438; replace H := zay.mp H; obtain ⟨t441, A20, H⟩ := H
 replace H : (impl_partial.l0 k y438 0 t441 (t441.length : Int) 0) = some r := H
 have A2 := zad A20; clear A20; have H' := zad H
 clear H; go_enter Try.func78, Try.ntmps78
 go_wp2_with (first | ((with_reducible refine gate_dst (N := 7) rfl ?_); refine Kd.R_lit (Kd.int .i64) _ 3 ?hg (N := 7) ?hd (xs := ([] : List Int)) (inner := []) (ok := fun _ => True) (okp := fun _ => True) ?hr ?hp (fun _ hk => hk) trivial (Below.refl _ _) (zcc _) (taah) ?_; (case hd => rfl); (case hg => rfl); (case hr => first | (go_simp; done) | (go_simp; rfl)); (case hp => exact (Reps.none _ _)); intro v439 w3 ho4 hb hg_ hnew_; clear hg_ hnew_; (first | rw [← Ny438.out] at ho4 | (simp only [Int.reduceToNat] at ho4; rw [← Ny438.out] at ho4)); have n0_ := zad (zbs ho4 (zbi (taaa))); have n1_ := zad (zbe (taaa) hb); clear HB; have HO440 := n0_; have HB := n1_; clear n0_ n1_ hb ho4) | ((with_reducible refine zbf (f := 59) rfl ?_); refine zbl (some 9) rfl rfl Try.func59 (by kernel_rfl) rfl #[.slice A0 l0.length c0] rfl (taac) ?_; (with_reducible refine (impl_ranking.calls _ _ l0 t441 _ ?side1 ?side2 A2.out).mono ?_); (case side1 => exact taep); (case side2 => exact HC0.out); rintro e w5 ⟨v442, rfl, ho0, hb⟩; refine ⟨_, rfl, ?_⟩; have n0_ := zad (zby (tada) (zca ho0) hb); have n1_ := zad (zbs (zbz ho0 (zcb (tada))) (zbi (taaa))); have n2_ := zad (zbe (taaa) hb); clear HO440 HB; have HO440 := n0_; have HO443 := n1_; have HB := n2_; clear n0_ n1_ n2_; (try clear hb); (try clear hb2); (try clear hk); (try clear hi); (try clear ho0); obtain ⟨Ao6, co6, eo6⟩ := zbt HO443.out; subst eo6))
 go_loopg [3, 4, 11] k (fun kq v3 v4 v11 w' => ∃ (x3_1 : List Int) (x4_1 : Int) (x11_1 : Int), v4 = .int .i64 x4_1 ∧ v11 = .int .i64 x11_1 ∧ Aside0 (impl_partial.l0 kq x3_1 x4_1 t441 (t441.length : Int) x11_1 = some r) ∧ Aside0 (kq ≤ k) ∧ Aside0 (Kd.R (Kd.int .i64) 3 w' w.heap.size (fun k_ => some k_ ≠ ((.slice Ao6 t441.length co6) : Value).ownBlock) v3 x3_1) ∧ Aside0 (Kd.R (Kd.int .i64) 3 w' w.heap.size (fun k_ => some k_ ≠ (v3 : Value).ownBlock) (.slice Ao6 t441.length co6) t441) ∧ Aside0 (Below w.heap.size w w'))
 case atStart => exact ⟨(y438), (0), (0), (taad), (taad), H', ⟨zcc _⟩, ⟨by (with_reducible repeat (first | apply zai | apply zaj | apply zak)); exact zbo HO440.out (fun _ hk => hk.2)⟩, ⟨by (with_reducible repeat (first | apply zai | apply zaj | apply zak)); exact zbo HO443.out (fun _ hk => hk.2)⟩, ⟨taaa⟩⟩
 case round =>
  clear H'
  try clear p2
  try clear c5
  obtain ⟨x3_1, x4_1, x11_1, rfl, rfl, HA, HK1, HO_3, HO_9, HB⟩ := hrel
  cases gk with
  | zero => exact absurd HA.out (by simp [impl_partial.l0])
  | succ k1 =>
   have H := HA.out
   clear HA; simp only [impl_partial.l0] at H
   by_cases c7 : x11_1 < (t441.length : Int)
   · rw [if_pos c7] at H
     have c7b0 : decide (x11_1 < (t441.length : Int)) = true := zba c7
     clear c7; by_cases c8 : 0 ≤ x11_1
     · rw [if_pos c8] at H
       have c8b0 : decide (0 ≤ x11_1) = true := zba c8
       clear c8; by_cases c9 : x11_1 < (t441.length : Int)
       · rw [if_pos c9] at H
         have c9b0 : decide (x11_1 < (t441.length : Int)) = true := zba c9
         clear c9; by_cases c10 : x3_1.length < 17592186044416
         · rw [if_pos c10] at H
           have LMc10 := zad c10; clear c10; obtain ⟨y445, hy445⟩ : ∃ y_ : List Int, y_ = (x3_1 ++ [wrap64 (x4_1 + (rd t441 x11_1))]) := ⟨_, rfl⟩
           replace H : (impl_partial.l0 k1 y445 (wrap64 (x4_1 + (rd t441 x11_1))) t441 (t441.length : Int) (wrap64 (x11_1 + 1))) = some r := by first | (rw [hy445]; with_reducible exact H) | (have H2_ := (zbb _ _).symm.trans H; rw [hy445]; with_reducible exact H2_) | (have H2_ := (zbb _ _).symm.trans H; with_reducible exact H2_) | with_reducible exact H | (rw [hy445]; exact H) | exact H
           have Ny445 := zad hy445; clear hy445; have H' := zad H
           clear H; have p444 : 0 ≤ (x11_1 : Int) := zas (taab)
           have q444 : x11_1 < (t441.length : Int) := zas (taab)
           obtain ⟨ad444, e444, hx444_0⟩ := zbx (zbd HO_9.out).2.2 x11_1 p444 q444
           cases e444
           replace p444 := eq_true p444
           replace q444 := eq_true q444
           go_wp2_with (first | ((with_reducible refine gate_builtin (b := .append) (xs := #[.tmp 18, .tmp 20]) rfl ?_); at_builtin; refine Kd.R_append (Kd.int .i64) (w0 := w) w.heap.size rfl (.tmp 18) (.tmp 20) 22 3 (.int .i64 0) 8 rfl Try.underlying22 info3 rfl (by decide) (by omega) u3 x3_1 (wrap64 (x4_1 + (rd t441 x11_1))) [.int .i64 (wrap64 (x4_1 + (rd t441 x11_1)))] (fun k_ => some k_ ≠ (.slice (some ad444) t441.length co6 : Value).ownBlock) (fun _ => False) rfl rfl ?aP (fun _ hk => hk.elim) ?aF ?aO ?aB ?aS ?aL ?_; (case aP => exact rfl); (case aB => exact (taaa)); (case aF => exact (fun k_ hk => Kd.fresh' (zcb (by (with_reducible repeat (first | apply zai | apply zaj | apply zak)); exact HO_9.out)) k_ hk)); (case aO => exact (taaq)); (case aS => exact (zbi (taaa))); (case aL => have := LMc10.out; omega); intro v446 w11 ho hb hg hat; rw [← Ny445.out] at ho; have n0_ := zad (Kd.R_after (ok := (fun _ => True)) (by (with_reducible repeat (first | apply zai | apply zaj | apply zak)); exact zbo HO_9.out (fun _ hk => ⟨trivial, hk⟩)) hg hat); have n1_ := zad (hb); have n2_ := zad (ho); clear HO_9 HB HO_3; have HO_9 := n0_; have HB := n1_; have HO447 := n2_; clear n0_ n1_ n2_ ho hb hg hat))
           go_roundg k1
           case measure => have := HK1.out; omega
           case rel => exact ⟨(y445), (wrap64 (x4_1 + (rd t441 x11_1))), (wrap64 (x11_1 + 1)), (taad), (taad), H', ⟨taaw⟩, ⟨by (with_reducible repeat (first | apply zai | apply zaj | apply zak)); exact HO447.out⟩, ⟨by (with_reducible repeat (first | apply zai | apply zaj | apply zak)); exact zbo HO_9.out (fun _ hk => hk.2)⟩, ⟨taaa⟩⟩
         · rw [if_neg c10] at H
           exact absurd H (taah)
       · rw [if_neg c9] at H
         exact absurd H (taah)
     · rw [if_neg c8] at H
       exact absurd H (taah)
   · rw [if_neg c7] at H
     have c7b0 : decide (x11_1 < (t441.length : Int)) = false := zbh c7
     clear c7; obtain rfl := zbc H
     go_wp2
     go_ret
     exact ⟨_, taam, by (with_reducible repeat (first | apply zai | apply zaj | apply zak)); exact zbo HO_3.out (fun _ hk => trivial), taaa⟩
def impl_meet.l0 : Nat → List Int → Int → List Int → List Int → Int → Int → Option (List Int)
 | 0, _, _, _, _, _, _ => none
 | k + 1, x5, x6, x7, x14, x15, x16 => if x16 < x15 then (if 0 ≤ x16 then (if x16 < (x14.length : Int) then (if x16 < (x7.length : Int) then (if x5.length < 17592186044416 then (impl_meet.l0 k (x5 ++ [wrap64 ((mn (rd x14 x16) (rd x7 x16)) - x6)]) (mn (rd x14 x16) (rd x7 x16)) x7 x14 x15 (wrap64 (x16 + 1))) else (none)) else (none)) else (none)) else (none)) else (some x5)
def impl_meet.f (k : Nat) (l0 : List Int) (l1 : List Int) : Option (List Int) := (impl_partial.f k l1).bind fun t451 => ((impl_partial.f k l0).bind fun t454 => (impl_meet.l0 k (([] : List Int)) 0 t451 t454 (t454.length : Int) 0))
theorem impl_meet.calls (k : Nat) (A0 : Option Addr) (c0 : Nat) (l0 : List Int) (A1 : Option Addr) (c1 : Nat) (l1 : List Int) (r : List Int) (w : World) (hr0 : Kd.C (Kd.int .i64) w A0 l0.length l0) (hc0 : l0.length ≤ c0) (hr1 : Kd.C (Kd.int .i64) w A1 l1.length l1) (hc1 : l1.length ≤ c1) (h : impl_meet.f k l0 l1 = some r) :
 Calls Try.prog 53 #[.slice A0 l0.length c0, .slice A1 l1.length c1] w fun e w' => ∃ v0_ : Value, e = .returned (v0_) ∧ Kd.R (Kd.int .i64) 3 w' w.heap.size (fun _ => True) v0_ r ∧ Below w.heap.size w w' := by
 have HR0 := zad hr0; have HC0 := zad hc0; clear hr0 hc0; have HR1 := zad hr1; have HC1 := zad hc1; clear hr1 hc1; have HB := zad (Below.refl w.heap.size w)
 have H : ((impl_partial.f k l1).bind fun t451 => ((impl_partial.f k l0).bind fun t454 => (impl_meet.l0 k (([] : List Int)) 0 t451 t454 (t454.length : Int) 0))) = some r := h
 clear h; obtain ⟨y448, hy448⟩ : ∃ y_ : List Int, y_ = (([] : List Int)) := ⟨_, rfl⟩
 replace H : ((impl_partial.f k l1).bind fun t451 => ((impl_partial.f k l0).bind fun t454 => (impl_meet.l0 k y448 0 t451 t454 (t454.length : Int) 0))) = some r := by first | (rw [hy448]; with_reducible exact H) | (have H2_ := (zbb _ _).symm.trans H; rw [hy448]; with_reducible exact H2_) | (have H2_ := (zbb _ _).symm.trans H; with_reducible exact H2_) | with_reducible exact H | (rw [hy448]; exact H) | exact H
 have Ny448 := zad hy448; clear hy448; replace H := zay.mp H; obtain ⟨t451, A30, H⟩ := H
 replace H : ((impl_partial.f k l0).bind fun t454 => (impl_meet.l0 k y448 0 t451 t454 (t454.length : Int) 0)) = some r := H
 have A3 := zad A30; clear A30; replace H := zay.mp H; obtain ⟨t454, A40, H⟩ := H
 replace H : (impl_meet.l0 k y448 0 t451 t454 (t454.length : Int) 0) = some r := H
 have A4 := zad A40; clear A40; have H' := zad H
 clear H; go_enter Try.func53, Try.ntmps53
 go_wp2_with (first | ((with_reducible refine gate_dst (N := 10) rfl ?_); refine Kd.R_lit (Kd.int .i64) _ 3 ?hg (N := 10) ?hd (xs := ([] : List Int)) (inner := []) (ok := fun _ => True) (okp := fun _ => True) ?hr ?hp (fun _ hk => hk) trivial (Below.refl _ _) (zcc _) (taah) ?_; (case hd => rfl); (case hg => rfl); (case hr => first | (go_simp; done) | (go_simp; rfl)); (case hp => exact (Reps.none _ _)); intro v449 w5 ho6 hb hg_ hnew_; clear hg_ hnew_; (first | rw [← Ny448.out] at ho6 | (simp only [Int.reduceToNat] at ho6; rw [← Ny448.out] at ho6)); have n0_ := zad (zbs ho6 (zbi (taaa))); have n1_ := zad (zbe (taaa) hb); clear HB; have HO450 := n0_; have HB := n1_; clear n0_ n1_ hb ho6) | ((with_reducible refine zbf (f := 78) rfl ?_); refine zbl (some 12) rfl rfl Try.func78 (by kernel_rfl) rfl #[.slice A1 l1.length c1] rfl (taac) ?_; (with_reducible refine (impl_partial.calls k _ _ l1 t451 _ ?side1 ?side2 A3.out).mono ?_); (case side1 => repeat (first | exact (Kd.C_below HR1.out HB.out) | (with_reducible refine zal ?_ _) | (with_reducible refine zam ?_ _) | (with_reducible refine zan ?_))); (case side2 => exact HC1.out); rintro e w7 ⟨v452, rfl, ho0, hb⟩; refine ⟨_, rfl, ?_⟩; have n0_ := zad (zby (tacf) (zca ho0) hb); have n1_ := zad (zbs (zbz ho0 (zcb (tacf))) (zbi (taaa))); have n2_ := zad (zbe (taaa) hb); clear HO450 HB; have HO450 := n0_; have HO453 := n1_; have HB := n2_; clear n0_ n1_ n2_; (try clear hb); (try clear hb2); (try clear hk); (try clear hi); (try clear ho0)) | ((with_reducible refine zbf (f := 78) rfl ?_); refine zbl (some 14) rfl rfl Try.func78 (by kernel_rfl) rfl #[.slice A0 l0.length c0] rfl (taac) ?_; (with_reducible refine (impl_partial.calls k _ _ l0 t454 _ ?side1 ?side2 A4.out).mono ?_); (case side1 => repeat (first | exact (Kd.C_below HR0.out HB.out) | (with_reducible refine zal ?_ _) | (with_reducible refine zam ?_ _) | (with_reducible refine zan ?_))); (case side2 => exact HC0.out); rintro e w8 ⟨v455, rfl, ho0, hb⟩; refine ⟨_, rfl, ?_⟩; have n0_ := zad (zby (tacf) (zca ho0) hb); have n1_ := zad (zby (tadb) (zca ho0) hb); have n2_ := zad (zbs (zbz (zbz ho0 (zcb (tacf))) (zcb (tadb))) (zbi (taaa))); have n3_ := zad (zbe (taaa) hb); clear HO450 HO453 HB; have HO450 := n0_; have HO453 := n1_; have HO456 := n2_; have HB := n3_; clear n0_ n1_ n2_ n3_; (try clear hb); (try clear hb2); (try clear hk); (try clear hi); (try clear ho0); obtain ⟨Ao9, co9, eo9⟩ := zbt HO456.out; subst eo9))
 go_loopg [5, 6, 16] k (fun kq v5 v6 v16 w' => ∃ (x5_1 : List Int) (x6_1 : Int) (x16_1 : Int), v6 = .int .i64 x6_1 ∧ v16 = .int .i64 x16_1 ∧ Aside0 (impl_meet.l0 kq x5_1 x6_1 t451 t454 (t454.length : Int) x16_1 = some r) ∧ Aside0 (kq ≤ k) ∧ Aside0 (Kd.R (Kd.int .i64) 3 w' w.heap.size (fun k_ => some k_ ≠ (v452 : Value).ownBlock ∧ some k_ ≠ ((.slice Ao9 t454.length co9) : Value).ownBlock) v5 x5_1) ∧ Aside0 (Kd.R (Kd.int .i64) 3 w' w.heap.size (fun k_ => some k_ ≠ (v5 : Value).ownBlock ∧ some k_ ≠ ((.slice Ao9 t454.length co9) : Value).ownBlock) v452 t451) ∧ Aside0 (Kd.R (Kd.int .i64) 3 w' w.heap.size (fun k_ => some k_ ≠ (v5 : Value).ownBlock ∧ some k_ ≠ (v452 : Value).ownBlock) (.slice Ao9 t454.length co9) t454) ∧ Aside0 (Below w.heap.size w w'))
 case atStart => exact ⟨(y448), (0), (0), (taad), (taad), H', ⟨zcc _⟩, ⟨by (with_reducible repeat (first | apply zai | apply zaj | apply zak)); exact zbo HO450.out (fun _ hk => ⟨hk.1.2, hk.2⟩)⟩, ⟨by (with_reducible repeat (first | apply zai | apply zaj | apply zak)); exact zbo HO453.out (fun _ hk => ⟨hk.1.2, hk.2⟩)⟩, ⟨by (with_reducible repeat (first | apply zai | apply zaj | apply zak)); exact zbo HO456.out (fun _ hk => ⟨hk.1.2, hk.2⟩)⟩, ⟨taaa⟩⟩
 case round =>
  clear H'
  try clear c1
  try clear p2
  try clear c5
  try clear c7
  obtain ⟨x5_1, x6_1, x16_1, rfl, rfl, HA, HK1, HO_5, HO_7, HO_14, HB⟩ := hrel
  cases gk with
  | zero => exact absurd HA.out (by simp [impl_meet.l0])
  | succ k1 =>
   have H := HA.out
   clear HA; simp only [impl_meet.l0] at H
   by_cases c10 : x16_1 < (t454.length : Int)
   · rw [if_pos c10] at H
     have c10b0 : decide (x16_1 < (t454.length : Int)) = true := zba c10
     clear c10; by_cases c11 : 0 ≤ x16_1
     · rw [if_pos c11] at H
       have c11b0 : decide (0 ≤ x16_1) = true := zba c11
       clear c11; by_cases c12 : x16_1 < (t454.length : Int)
       · rw [if_pos c12] at H
         have c12b0 : decide (x16_1 < (t454.length : Int)) = true := zba c12
         clear c12; by_cases c13 : x16_1 < (t451.length : Int)
         · rw [if_pos c13] at H
           have c13b0 : decide (x16_1 < (t451.length : Int)) = true := zba c13
           clear c13; obtain ⟨ji14, hji14⟩ : ∃ j_ : Int, (mn (rd t454 x16_1) (rd t451 x16_1)) = j_ := ⟨_, rfl⟩
           replace H : (if x5_1.length < 17592186044416 then (impl_meet.l0 k1 (x5_1 ++ [wrap64 ((ji14) - x6_1)]) ji14 t451 t454 (t454.length : Int) (wrap64 (x16_1 + 1))) else (none)) = some r := by first | (rw [hji14] at H; exact H) | (simp only [hji14] at H ⊢; exact H)
           have hji14_ : (if (rd t451 x16_1) < (rd t454 x16_1) then (rd t451 x16_1) else (rd t454 x16_1)) = ji14 := hji14
           by_cases c15 : x5_1.length < 17592186044416
           · rw [if_pos c15] at H
             have LMc15 := zad c15; clear c15; obtain ⟨y459, hy459⟩ : ∃ y_ : List Int, y_ = (x5_1 ++ [wrap64 ((ji14) - x6_1)]) := ⟨_, rfl⟩
             replace H : (impl_meet.l0 k1 y459 ji14 t451 t454 (t454.length : Int) (wrap64 (x16_1 + 1))) = some r := by first | (rw [hy459]; with_reducible exact H) | (have H2_ := (zbb _ _).symm.trans H; rw [hy459]; with_reducible exact H2_) | (have H2_ := (zbb _ _).symm.trans H; with_reducible exact H2_) | with_reducible exact H | (rw [hy459]; exact H) | exact H
             have Ny459 := zad hy459; clear hy459; have H' := zad H
             clear H; have p457 : 0 ≤ (x16_1 : Int) := zas (taab)
             have q457 : x16_1 < (t454.length : Int) := zas (taab)
             obtain ⟨ad457, e457, hx457_0⟩ := zbx (zbd HO_14.out).2.2 x16_1 p457 q457
             cases e457
             replace p457 := eq_true p457
             replace q457 := eq_true q457
             obtain ⟨Ao16, co16, eo16⟩ := zbt HO_7.out
             subst eo16; have p458 : 0 ≤ (x16_1 : Int) := zas (taab)
             have q458 : x16_1 < (t451.length : Int) := zas (taab)
             obtain ⟨ad458, e458, hx458_0⟩ := zbx (zbd HO_7.out).2.2 x16_1 p458 q458
             cases e458
             replace p458 := eq_true p458
             replace q458 := eq_true q458
             go_wp2_with (first | ((with_reducible refine gate_builtin (b := .append) (xs := #[.tmp 27, .tmp 31]) rfl ?_); at_builtin; refine Kd.R_append (Kd.int .i64) (w0 := w) w.heap.size rfl (.tmp 27) (.tmp 31) 22 3 (.int .i64 0) 8 rfl Try.underlying22 info3 rfl (by decide) (by omega) u5 x5_1 (wrap64 ((ji14) - x6_1)) [.int .i64 (wrap64 ((ji14) - x6_1))] (fun k_ => some k_ ≠ (.slice (some ad458) t451.length co16 : Value).ownBlock ∧ some k_ ≠ (.slice (some ad457) t454.length co9 : Value).ownBlock) (fun _ => False) rfl rfl ?aP (fun _ hk => hk.elim) ?aF ?aO ?aB ?aS ?aL ?_; (case aP => exact rfl); (case aB => exact (taaa)); (case aF => exact (fun k_ hk => ⟨Kd.fresh' (zcb (taag)) k_ hk, Kd.fresh' (zcb (by (with_reducible repeat (first | apply zai | apply zaj | apply zak)); exact HO_14.out)) k_ hk⟩)); (case aO => exact (taaf)); (case aS => exact (zbi (taaa))); (case aL => have := LMc15.out; omega); intro v460 w17 ho hb hg hat; rw [← Ny459.out] at ho; have n0_ := zad (Kd.R_after (ok := (fun k_ => some k_ ≠ (.slice (some ad457) t454.length co9 : Value).ownBlock)) (tadc) hg hat); have n1_ := zad (Kd.R_after (ok := (fun k_ => some k_ ≠ (.slice (some ad458) t451.length co16 : Value).ownBlock)) (tadd) hg hat); have n2_ := zad (hb); have n3_ := zad (ho); clear HO_7 HO_14 HB HO_5; have HO_7 := n0_; have HO_14 := n1_; have HB := n2_; have HO461 := n3_; clear n0_ n1_ n2_ n3_ ho hb hg hat))
             go_roundg k1
             case measure => have := HK1.out; omega
             case rel => exact ⟨(y459), (ji14), (wrap64 (x16_1 + 1)), (by first | rfl | (simp; done) | (simp only [← hji14] <;> (first | rfl | simp)) | (simp [*]; done)), (taad), H', ⟨taaw⟩, ⟨by (with_reducible repeat (first | apply zai | apply zaj | apply zak)); exact HO461.out⟩, ⟨tadc⟩, ⟨tadd⟩, ⟨taaa⟩⟩
           · rw [if_neg c15] at H
             exact absurd H (taah)
         · rw [if_neg c13] at H
           exact absurd H (taah)
       · rw [if_neg c12] at H
         exact absurd H (taah)
     · rw [if_neg c11] at H
       exact absurd H (taah)
   · rw [if_neg c10] at H
     have c10b0 : decide (x16_1 < (t454.length : Int)) = false := zbh c10
     clear c10; obtain rfl := zbc H
     go_wp2
     go_ret
     exact ⟨_, taam, by (with_reducible repeat (first | apply zai | apply zaj | apply zak)); exact zbo HO_5.out (fun _ hk => trivial), taaa⟩
end Go.Proofs.Ytdkimdlbjeobiaa.A
