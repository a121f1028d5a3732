/- What the law FnCoversOfLists reaches, part 1: Lean functions with the same answers as the Go functions, the proofs that the Go code comes to these answers, and lemmas about them; no condition beyond those that each theorem names. -/
import Derived.Test.YtdkimdlbjeobiaaCFnCoversOfListsw1
import Derived.Test.YtdkimdlbjeobiaaProg
import Derived.Below
import Derived.Deep.Draws
import Derived.Deep.AppendLies
import Derived.Maps.AppendAt
import Derived.OwnWalk
import Derived.Laws.BytesArg
import Derived.Laws.MakeOwn
import Derived.Laws.OwnMore
import Derived.Deep.OwnRows
import Derived.Tactics
import Derived.Lib.ConvBytes
import Derived.Laws.Slices
import Derived.WalkKit
import Derived.KernelRfl
import Derived.RowKit3
import Derived.Deep.LoopGhost
import Derived.Deep.QuietTactic
import Derived.BigQuiet
import Derived.WideLaws
import Derived.Deep.DeepCutAuto
import Derived.Deep.CutBlock
import Derived.Deep.RegionHeld3
import Derived.Laws.Rows
import Derived.Lib.AppendStr
import Derived.ArgAppend
import Derived.Laws.IdiomCopy
import Derived.OrdersHeld
import Derived.Laws.BitsLemmas
import Derived.RowKit
import Derived.Lib.SliceRun
import Derived.Shelf.SlSortCmp.NoneTotal
import Derived.Shelf.SlGeneric
import Derived.Ground.SlsfProg
import Derived.Lib.SlKept
import Derived.Shelf.SlicesE.DeleteFunc
import Derived.Shelf.SlLaysH
import Derived.Ground.SlgfProg
set_option linter.unusedVariables false
set_option linter.unusedSimpArgs false
set_option maxHeartbeats 8000000
set_option maxRecDepth 100000
namespace Go.Proofs.Ytdkimdlbjeobiaa.A
open Go.RowKit Go.Proofs.YtdkimdlbjeobiaaW.PrintWords Go.Proofs.YtdkimdlbjeobiaaW.PrintLast Go.Proofs.YtdkimdlbjeobiaaW.PrintMore
attribute [local go_sem] max2_int min2_int max_two min_two max_three min_three max_four min_four
abbrev zaa := @List.setIfInBounds_toArray
abbrev zab := @List.set_cons_zero
abbrev zac := @List.set_cons_succ
abbrev zad := @Aside0.mk
abbrev zae := @pw_below_drewN
abbrev zaf := @below_drew1
abbrev zag := @below_alloc
abbrev zah := @below_set
abbrev zai := @Kd.R_alloc
abbrev zaj := @Kd.R_drewN
abbrev zak := @Kd.R_drew
abbrev zal := @Kd.C_alloc
abbrev zam := @Kd.C_drewN
abbrev zan := @Kd.C_drew
abbrev zao := @KeepBut.set_
abbrev zap := @keep_drewN
abbrev zaq := @keep_drew
abbrev zar := @keep_alloc
abbrev zas := @of_decide_eq_true
abbrev zat := @List.map_toArray
abbrev zau := @List.map_cons
abbrev zav := @List.map_nil
abbrev zaw := @List.length_drop
abbrev zax := @List.length_take
abbrev zay := @Option.bind_eq_some_iff
abbrev zaz := @World.block_lt_of_cell?
abbrev zba := @decide_eq_true
abbrev zbb := @Kd.V_alloc
abbrev zbc := @Kd.V_drewN
abbrev zbd := @Kd.V_drew
abbrev zbe := @Option.bind_some
abbrev zbf := @Option.some.inj
abbrev zbg := @Kd.R_reads'
abbrev zbh := @below_step
abbrev zbi := @gate_callee
abbrev zbj := @Bool.eq_false_iff
abbrev zbk := @decide_eq_false
abbrev zbl := @below_size
abbrev zbm := @Option.some.injEq
abbrev zbn := @Bool.false_eq_true
abbrev zbo := @goesL_
abbrev zbp := @beq_eq_false_iff_ne
abbrev zbq := @Prod.mk.injEq
abbrev zbr := @Kd.R_mono
abbrev zbs := @KeepBut.trans
abbrev zbt := @Kd.R_below
abbrev zbu := @Kd.R_lower
abbrev zbv := @Kd.R_slice
abbrev zbw := @Kd.at_int
abbrev zbx := @Kd.R_elder'
abbrev zby := @Kd.R_new'
abbrev zbz := @Kd.R_base
abbrev zca := @Kd.R_lt
abbrev zcb := @Nat.le_refl
theorem taaa {P : Prop} (h : P := by repeat (first | (with_reducible first | exact HB.out | apply zag | apply zae | apply zaf) | exact HB.out)) : P := h
theorem taab {P : Prop} (h : P := by first | (with_reducible assumption) | assumption) : P := h
theorem taac {P : Prop} (h : P := by simp) : P := h
theorem taad {P : Prop} (h : P := by first | rfl | (simp; done) | (simp [*]; done)) : P := h
theorem taae {P : Prop} (h : P := by (try simp only [zat, zau, zav]); first | done | rfl | (simp only [zaw, zax]; rfl)) : P := h
theorem taaf {P : Prop} (h : P := by first | rfl | (simp [errW_none, errW_some] <;> rfl) | (simp [*, errW_none, errW_some] <;> rfl)) : P := h
theorem taag {P : Prop} (h : P := by repeat (first | exact Drawn0.refl _ | apply Drawn0.step)) : P := h
theorem taah {P : Prop} (h : P := by (with_reducible repeat (first | apply zai | apply zaj | apply zak)); exact HO_5.out) : P := h
theorem taai {P : Prop} (h : P := by repeat (first | (with_reducible first | exact HK.out | apply zao | apply zap | apply zaq | apply zar) | exact HK.out)) : P := h
theorem taaj {P : Prop} (h : P := by repeat (first | (with_reducible exact HR721_0.out) | (with_reducible refine zal ?_ _) | (with_reducible refine zam ?_ _) | (with_reducible refine zan ?_) | exact HR721_0.out)) : P := h
theorem taak {P : Prop} (h : P := by (with_reducible repeat (first | apply zai | apply zaj | apply zak)); exact HO_3.out) : P := h
theorem taal {P : Prop} (h : P := by repeat (first | (with_reducible first | exact HI0.out | apply zcc | apply zcd | apply zce | apply zcf | apply zcg) | exact HI0.out)) : P := h
theorem taam {P : Prop} (h : P := by (with_reducible repeat (first | apply Kd.S_alloc | apply Kd.S_drewN | apply Kd.S_drew)); exact HO_6.out) : P := h
theorem taan {P : Prop} (h : P := by repeat (first | (with_reducible first | exact HB.out | apply zag | apply zae | apply zaf | refine zah ?_ (IsS51.ge HI0.out)) | exact HB.out)) : P := h
theorem taao {P : Prop} (h : P := by repeat (first | (with_reducible exact HR748_0.out) | (with_reducible refine zal ?_ _) | (with_reducible refine zam ?_ _) | (with_reducible refine zan ?_) | exact HR748_0.out)) : P := h
theorem taap {P : Prop} (h : P := by (with_reducible repeat (first | apply Kd.S_alloc | apply Kd.S_drewN | apply Kd.S_drew)); exact HO_3.out) : P := h
theorem taaq {P : Prop} (h : P := by repeat (first | (with_reducible exact HR743.out) | (with_reducible refine zal ?_ _) | (with_reducible refine zam ?_ _) | (with_reducible refine zan ?_) | exact HR743.out)) : P := h
theorem taar {P : Prop} (h : P := by (with_reducible repeat (first | apply Kd.S_alloc | apply Kd.S_drewN | apply Kd.S_drew)); exact HO_20.out) : P := h
theorem taas {P : Prop} (h : P := by (with_reducible repeat (first | apply zai | apply zaj | apply zak)); exact HO_22.out) : P := h
theorem taat {P : Prop} (h : P := by have := HK1.out; omega) : P := h
theorem taau {P : Prop} (h : P := by (with_reducible repeat (first | apply zai | apply zaj | apply zak)); exact HL721_0.out) : P := h
theorem taav {P : Prop} (h : P := by (with_reducible repeat (first | apply Kd.S_alloc | apply Kd.S_drewN | apply Kd.S_drew)); exact HO_7.out) : P := h
theorem taaw {P : Prop} (h : P := by (with_reducible repeat (first | apply Kd.S_alloc | apply Kd.S_drewN | apply Kd.S_drew)); exact HO_12.out) : P := h
theorem taax {P : Prop} (h : P := by repeat (first | (with_reducible exact HR769_0.out) | (with_reducible refine zal ?_ _) | (with_reducible refine zam ?_ _) | (with_reducible refine zan ?_) | exact HR769_0.out)) : P := h
theorem taay {P : Prop} (h : P := by (with_reducible repeat (first | apply zai | apply zaj | apply zak)); exact HO158.out) : P := h
theorem taaz {P : Prop} (h : P := by simpa using h) : P := h
theorem taba {P : Prop} (h : P := by first | exact Kd.S_nil _ _ _ _ _ | exact Kd.N_nil _ _ _ _ _ | exact Kd.V_nil _ _ _ _ _ | exact Kd.Q_nil _ _ _ _ _ | exact Kd.R_nil _ _ _ _ _) : P := h
theorem tabb {P : Prop} (h : P := by (with_reducible repeat (first | apply Kd.S_alloc | apply Kd.S_drewN | apply Kd.S_drew)); exact HO_83.out) : P := h
theorem tabc {P : Prop} (h : P := by repeat (first | (with_reducible exact HR744_0.out) | (with_reducible refine zal ?_ _) | (with_reducible refine zam ?_ _) | (with_reducible refine zan ?_) | exact HR744_0.out)) : P := h
theorem tabd {P : Prop} (h : P := by (with_reducible repeat (first | apply zbb | apply zbc | apply zbd)); exact HO_0.out) : P := h
theorem tabe {P : Prop} (h : P := by (with_reducible repeat (first | apply zai | apply zaj | apply zak)); exact HO334.out) : P := h
theorem tabf {P : Prop} (h : P := by (with_reducible repeat (first | apply zbb | apply zbc | apply zbd)); exact HO_1.out) : P := h
theorem tabg {P : Prop} (h : P := by (with_reducible repeat (first | apply zbb | apply zbc | apply zbd)); exact HO_4.out) : P := h
theorem tabh {P : Prop} (h : P := by (with_reducible repeat (first | apply zbb | apply zbc | apply zbd)); exact HO_5.out) : P := h
theorem tabi {P : Prop} (h : P := by (with_reducible repeat (first | apply zbb | apply zbc | apply zbd)); exact HO_22.out) : P := h
theorem tabj {P : Prop} (h : P := by repeat (first | (with_reducible first | exact HB.out | apply zag | apply zae | apply zaf | refine zah ?_ (IsS51.ge HI642.out)) | exact HB.out)) : P := h
theorem tabk {P : Prop} (h : P := by (with_reducible repeat (first | apply zbb | apply zbc | apply zbd)); exact HL353_0.out) : P := h
theorem tabl {P : Prop} (h : P := by (with_reducible repeat (first | apply Kd.S_alloc | apply Kd.S_drewN | apply Kd.S_drew)); exact HO_190.out) : P := h
theorem tabm {P : Prop} (h : P := by (with_reducible repeat (first | apply Kd.S_alloc | apply Kd.S_drewN | apply Kd.S_drew)); exact HO_205.out) : P := h
theorem tabn {P : Prop} (h : P := by first | omega | exact zcb _) : P := h
theorem tabo {P : Prop} (h : P := by repeat (first | exact Below.refl _ _ | apply zag | apply zae | apply zaf)) : P := h
theorem tabp {P : Prop} (h : P := by have := HK1.out; have := HK2.out; omega) : P := h
theorem tabq {P : Prop} (h : P := by repeat (first | (with_reducible exact HR117.out) | (with_reducible refine zal ?_ _) | (with_reducible refine zam ?_ _) | (with_reducible refine zan ?_) | exact HR117.out)) : P := h
theorem tabr {P : Prop} (h : P := by repeat (first | (with_reducible exact HR137.out) | (with_reducible refine zal ?_ _) | (with_reducible refine zam ?_ _) | (with_reducible refine zan ?_) | exact HR137.out)) : P := h
theorem tabs {P : Prop} (h : P := by (with_reducible repeat (first | apply zai | apply zaj | apply zak)); exact HO185.out) : P := h
theorem tabt {P : Prop} (h : P := by (with_reducible repeat (first | apply zai | apply zaj | apply zak)); exact HO700.out) : P := h
theorem tabu {P : Prop} (h : P := by first | exact Kd.R_nil _ _ _ _ _ | exact Kd.N_nil _ _ _ _ _ | exact Kd.V_nil _ _ _ _ _ | exact Kd.Q_nil _ _ _ _ _ | exact Kd.S_nil _ _ _ _ _) : P := h
theorem tabv {P : Prop} (h : P := by repeat (first | (with_reducible first | exact HI642.out | apply zcc | apply zcd | apply zce | apply zcf | apply zcg) | exact HI642.out)) : P := h
theorem tabw {P : Prop} (h : P := by (with_reducible repeat (first | apply zai | apply zaj | apply zak)); exact HO123.out) : P := h
theorem tabx {P : Prop} (h : P := by (with_reducible repeat (first | apply zai | apply zaj | apply zak)); exact HO143.out) : P := h
theorem taby {P : Prop} (h : P := by have := HJ1.out; have := HK2.out; have := HK3.out; omega) : P := h
theorem tabz {P : Prop} (h : P := by (with_reducible repeat (first | apply zbb | apply zbc | apply zbd)); exact HO_28.out) : P := h
theorem taca {P : Prop} (h : P := by have := HK1.out; first | omega | exact zcb _) : P := h
theorem tacb {P : Prop} (h : P := by (with_reducible repeat (first | apply zai | apply zaj | apply zak)); exact HL267_0.out) : P := h
theorem tacc {P : Prop} (h : P := by (try simp only [Int.add_zero]); repeat (first | (with_reducible first | exact HI0.out | apply IsS51.alloc | apply IsS51.drewN | apply IsS51.drew | apply IsS51.set_1 | apply IsS51.set_2) | exact HI0.out)) : P := h
theorem tacd {P : Prop} (h : P := by (with_reducible repeat (first | apply zai | apply zaj | apply zak)); exact HL680_0.out) : P := h
theorem tace {P : Prop} (h : P := by repeat (first | (with_reducible exact HR130.out) | (with_reducible refine zal ?_ _) | (with_reducible refine zam ?_ _) | (with_reducible refine zan ?_) | exact HR130.out)) : P := h
theorem tacf {P : Prop} (h : P := by simp only [putAll, Act.put, zaa, zab, zac]) : P := h
theorem tacg {P : Prop} (h : P := by repeat (first | (with_reducible exact HR150.out) | (with_reducible refine zal ?_ _) | (with_reducible refine zam ?_ _) | (with_reducible refine zan ?_) | exact HR150.out)) : P := h
theorem tach {P : Prop} (h : P := by repeat (first | (with_reducible exact HR197_0.out) | (with_reducible refine zal ?_ _) | (with_reducible refine zam ?_ _) | (with_reducible refine zan ?_) | exact HR197_0.out)) : P := h
theorem taci {P : Prop} (h : P := by (with_reducible repeat (first | apply zbb | apply zbc | apply zbd)); exact HL197_0.out) : P := h
theorem tacj {P : Prop} (h : P := by (with_reducible repeat (first | apply zbb | apply zbc | apply zbd)); exact HL199_0.out) : P := h
theorem tack {P : Prop} (h : P := by repeat (first | (with_reducible exact HR354_0.out) | (with_reducible refine zal ?_ _) | (with_reducible refine zam ?_ _) | (with_reducible refine zan ?_) | exact HR354_0.out)) : P := h
theorem tacl {P : Prop} (h : P := by repeat (first | (with_reducible exact HR728_0.out) | (with_reducible refine zal ?_ _) | (with_reducible refine zam ?_ _) | (with_reducible refine zan ?_) | exact HR728_0.out)) : P := h
theorem tacm {P : Prop} (h : P := by repeat (first | (with_reducible exact HR746_0.out) | (with_reducible refine zal ?_ _) | (with_reducible refine zam ?_ _) | (with_reducible refine zan ?_) | exact HR746_0.out)) : P := h
theorem tacn {P : Prop} (h : P := by (with_reducible repeat (first | apply Kd.S_alloc | apply Kd.S_drewN | apply Kd.S_drew)); exact HO_175.out) : P := h
theorem taco {P : Prop} (h : P := by (with_reducible repeat (first | apply zai | apply zaj | apply zak)); exact HL769_0.out) : P := h
theorem tacp {P : Prop} (h : P := by have := HJ7.out; have := HJ20.out; have := HK3.out; have := HJ63.out; have := HJ69.out; have := HK6.out; have := HK7.out; have := HK8.out; omega) : P := h
theorem tacq {P : Prop} (h : P := by rw [List.length_append, List.length_singleton]; omega) : P := h
theorem tacr {P : Prop} (h : P := by rw [List.length_set]; exact h2.2) : P := h
theorem tacs {P : Prop} (h : P := by rw [giveL_length]; omega) : P := h
theorem tact {P : Prop} (h : P := by rw [List.length_append]; simp; omega) : P := h
theorem tacu {P : Prop} (h : P := by (with_reducible repeat (first | apply Kd.S_alloc | apply Kd.S_drewN | apply Kd.S_drew)); exact HO_38.out) : P := h
theorem tacv {P : Prop} (h : P := by first | (simp; done) | (simp; omega)) : P := h
theorem tacw {P : Prop} (h : P := by (with_reducible repeat (first | apply zai | apply zaj | apply zak)); exact HO342.out) : P := h
theorem tacx {P : Prop} (h : P := by (with_reducible repeat (first | apply Kd.S_alloc | apply Kd.S_drewN | apply Kd.S_drew)); exact HO_36.out) : P := h
theorem tacy {P : Prop} (h : P := by rw [hw, Ny160.out]; exact HP18.1) : P := h
theorem tacz {P : Prop} (h : P := by rw [hw, Ny162.out]; exact HP20.1) : P := h
theorem tada {P : Prop} (h : P := by first | (rw [show y162.length = t156.length from (zbg HO158.out).1.symm] <;> rfl) | rfl) : P := h
theorem tadb {P : Prop} (h : P := by (with_reducible repeat (first | apply Kd.S_alloc | apply Kd.S_drewN | apply Kd.S_drew)); exact Kd.S_mono HO_3.out (fun k_ hk => ⟨hk.1.2, fun e_ => hk.2 e_⟩)) : P := h
theorem tadc {P : Prop} (h : P := by repeat (first | (with_reducible exact HR199_0.out) | (with_reducible refine zal ?_ _) | (with_reducible refine zam ?_ _) | (with_reducible refine zan ?_) | exact HR199_0.out)) : P := h
theorem tadd {P : Prop} (h : P := by (with_reducible repeat (first | apply zbb | apply zbc | apply zbd)); exact HO208.out) : P := h
theorem tade {P : Prop} (h : P := by (with_reducible repeat (first | apply zbb | apply zbc | apply zbd)); exact HO230.out) : P := h
theorem tadf {P : Prop} (h : P := by repeat (first | (with_reducible exact HR353_0.out) | (with_reducible refine zal ?_ _) | (with_reducible refine zam ?_ _) | (with_reducible refine zan ?_) | exact HR353_0.out)) : P := h
theorem tadg {P : Prop} (h : P := by have := HJ7.out; have := HJ20.out; have := HK3.out; have := HJ63.out; first | omega | exact zcb _) : P := h
theorem tadh {P : Prop} (h : P := by (with_reducible repeat (first | apply zai | apply zaj | apply zak)); exact zbr HO_5.out (fun _ hk => hk.2)) : P := h
theorem tadi {P : Prop} (h : P := by (with_reducible repeat (first | apply Kd.S_alloc | apply Kd.S_drewN | apply Kd.S_drew)); exact Kd.S_mono HO_6.out (fun _ hk => ⟨hk.1.1, ⟨hk.1.2, hk.2⟩⟩)) : P := h
theorem tadj {P : Prop} (h : P := by (with_reducible repeat (first | apply Kd.S_alloc | apply Kd.S_drewN | apply Kd.S_drew)); exact Kd.S_mono HO_20.out (fun _ hk => ⟨hk.1.1, ⟨hk.1.2, hk.2⟩⟩)) : P := h
theorem tadk {P : Prop} (h : P := by (with_reducible repeat (first | apply zai | apply zaj | apply zak)); exact zbr HO737.out (fun _ hk => hk.2)) : P := h
theorem tadl {P : Prop} (h : P := by have := HJ7.out; have := HJ20.out; have := HK3.out; have := HJ63.out; have := HJ69.out; have := HK6.out; have := HK7.out; omega) : P := h
theorem tadm {P : Prop} (h : P := by (with_reducible repeat (first | apply zai | apply zaj | apply zak)); exact HO440.out) : P := h
theorem tadn {P : Prop} (h : P := by (with_reducible repeat (first | apply zai | apply zaj | apply zak)); exact HO549.out) : P := h
theorem tado {P : Prop} (h : P := by (with_reducible repeat (first | apply Kd.S_alloc | apply Kd.S_drewN | apply Kd.S_drew)); exact Kd.S_mono HO_7.out (fun _ hk => hk.2)) : P := h
theorem tadp {P : Prop} (h : P := by repeat (first | (with_reducible exact HR267_0.out) | (with_reducible refine zal ?_ _) | (with_reducible refine zam ?_ _) | (with_reducible refine zan ?_) | exact HR267_0.out)) : P := h
theorem tadq {P : Prop} (h : P := by (with_reducible repeat (first | apply Kd.S_alloc | apply Kd.S_drewN | apply Kd.S_drew)); exact Kd.S_mono HO_7.out (fun k_ hk => ⟨hk.1, fun e_ => hk.2 e_⟩)) : P := h
theorem tadr {P : Prop} (h : P := by (with_reducible repeat (first | apply Kd.S_alloc | apply Kd.S_drewN | apply Kd.S_drew)); exact Kd.S_mono HO_7.out (fun _ hk => trivial)) : P := h
theorem tads {P : Prop} (h : P := by repeat (first | (with_reducible first | exact HB.out | apply zag | apply zae | apply zaf | refine zah ?_ (IsS51.ge HI633.out)) | exact HB.out)) : P := h
theorem tadt {P : Prop} (h : P := by (with_reducible repeat (first | apply zai | apply zaj | apply zak)); exact HO660.out) : P := h
theorem tadu {P : Prop} (h : P := by repeat (first | (with_reducible exact HR680_0.out) | (with_reducible refine zal ?_ _) | (with_reducible refine zam ?_ _) | (with_reducible refine zan ?_) | exact HR680_0.out)) : P := h
theorem tadv {P : Prop} (h : P := by (with_reducible repeat (first | apply zai | apply zaj | apply zak)); exact HO120.out) : P := h
theorem tadw {P : Prop} (h : P := by (with_reducible repeat (first | apply zai | apply zaj | apply zak)); exact zbr HO120.out (fun _ hk => ⟨hk.2, hk.1.2⟩)) : P := h
theorem tadx {P : Prop} (h : P := by (with_reducible repeat (first | apply zai | apply zaj | apply zak)); exact zbr HO123.out (fun _ hk => ⟨hk.2, hk.1.2⟩)) : P := h
theorem tady {P : Prop} (h : P := by (with_reducible repeat (first | apply zai | apply zaj | apply zak)); exact zbr HO_3.out (fun _ hk => ⟨hk.1.2, hk.2⟩)) : P := h
theorem tadz {P : Prop} (h : P := by (with_reducible repeat (first | apply zai | apply zaj | apply zak)); exact zbr HO_3.out (fun _ hk => ⟨hk.2, hk.1.2⟩)) : P := h
theorem taea {P : Prop} (h : P := by (with_reducible repeat (first | apply zai | apply zaj | apply zak)); exact zbr HO_3.out (fun _ hk => ⟨hk.2, hk.1⟩)) : P := h
theorem taeb {P : Prop} (h : P := by (with_reducible repeat (first | apply zai | apply zaj | apply zak)); exact HO140.out) : P := h
theorem taec {P : Prop} (h : P := by (with_reducible repeat (first | apply zai | apply zaj | apply zak)); exact zbr HO140.out (fun _ hk => ⟨hk.2, hk.1.2⟩)) : P := h
theorem taed {P : Prop} (h : P := by (with_reducible repeat (first | apply zai | apply zaj | apply zak)); exact zbr HO143.out (fun _ hk => ⟨hk.2, hk.1.2⟩)) : P := h
theorem taee {P : Prop} (h : P := by (with_reducible repeat (first | apply zai | apply zaj | apply zak)); exact HO179.out) : P := h
theorem taef {P : Prop} (h : P := by (with_reducible repeat (first | apply zbb | apply zbc | apply zbd)); exact HO219.out) : P := h
theorem taeg {P : Prop} (h : P := by (with_reducible repeat (first | apply zbb | apply zbc | apply zbd)); exact HO241.out) : P := h
theorem taeh {P : Prop} (h : P := by first | exact Kd.V_nil _ _ _ _ _ | exact Kd.N_nil _ _ _ _ _ | exact Kd.V_nil _ _ _ _ _ | exact Kd.Q_nil _ _ _ _ _ | exact Kd.R_nil _ _ _ _ _) : P := h
theorem taei {P : Prop} (h : P := by (with_reducible repeat (first | apply zbb | apply zbc | apply zbd)); exact HO352.out) : P := h
theorem taej {P : Prop} (h : P := by (with_reducible repeat (first | apply Kd.S_alloc | apply Kd.S_drewN | apply Kd.S_drew)); exact HO704.out) : P := h
theorem taek {P : Prop} (h : P := by (with_reducible repeat (first | apply Kd.S_alloc | apply Kd.S_drewN | apply Kd.S_drew)); exact Kd.S_mono HO704.out (fun _ hk => hk.2)) : P := h
theorem tael {P : Prop} (h : P := by (with_reducible repeat (first | apply Kd.S_alloc | apply Kd.S_drewN | apply Kd.S_drew)); exact HO715.out) : P := h
theorem taem {P : Prop} (h : P := by (with_reducible repeat (first | apply Kd.S_alloc | apply Kd.S_drewN | apply Kd.S_drew)); exact Kd.S_mono HO_6.out (fun _ hk => ⟨hk.1.1, hk.1.2⟩)) : P := h
theorem taen {P : Prop} (h : P := by (with_reducible repeat (first | apply Kd.S_alloc | apply Kd.S_drewN | apply Kd.S_drew)); exact Kd.S_mono HO715.out (fun _ hk => ⟨hk.1.1.2, hk.1.2⟩)) : P := h
theorem taeo {P : Prop} (h : P := by (with_reducible repeat (first | apply zai | apply zaj | apply zak)); exact HO725.out) : P := h
theorem taep {P : Prop} (h : P := by (with_reducible repeat (first | apply zai | apply zaj | apply zak)); exact HL728_0.out) : P := h
theorem taeq {P : Prop} (h : P := by (with_reducible repeat (first | apply zai | apply zaj | apply zak)); exact zbr HO_5.out (fun _ hk => trivial)) : P := h
theorem taer {P : Prop} (h : P := by (with_reducible repeat (first | apply Kd.S_alloc | apply Kd.S_drewN | apply Kd.S_drew)); exact Kd.S_mono HO_6.out (fun _ hk => ⟨hk.1.1, ⟨hk.1.2.1, hk.1.2.2⟩⟩)) : P := h
theorem taes {P : Prop} (h : P := by (with_reducible repeat (first | apply Kd.S_alloc | apply Kd.S_drewN | apply Kd.S_drew)); exact Kd.S_mono HO_12.out (fun _ hk => ⟨hk.1.1, hk.1.2⟩)) : P := h
theorem taet {P : Prop} (h : P := by (with_reducible repeat (first | apply Kd.S_alloc | apply Kd.S_drewN | apply Kd.S_drew)); exact Kd.S_mono HO_83.out (fun _ hk => ⟨hk.1.1, hk.1.2⟩)) : P := h
theorem taeu {P : Prop} (h : P := by have := HJ7.out; have := HJ20.out; have := HK3.out; first | omega | exact zcb _) : P := h
theorem taev {P : Prop} (h : P := by (with_reducible repeat (first | apply Kd.S_alloc | apply Kd.S_drewN | apply Kd.S_drew)); exact Kd.S_mono HO_6.out (fun _ hk => ⟨hk.1.1, hk.2⟩)) : P := h
theorem taew {P : Prop} (h : P := by (with_reducible repeat (first | apply Kd.S_alloc | apply Kd.S_drewN | apply Kd.S_drew)); exact Kd.S_mono HO733.out (fun _ hk => ⟨hk.1.1.1.2, hk.1.1.2⟩)) : P := h
theorem taex {P : Prop} (h : P := by (with_reducible repeat (first | apply zai | apply zaj | apply zak)); exact HL746_0.out) : P := h
theorem taey {P : Prop} (h : P := by simp only [Bool.and_eq_true, Bool.not_eq_true'] at h; exact h) : P := h
theorem taez {P : Prop} (h : P := by exact taal) : P := h
theorem tafa {P : Prop} (h : P := by first | exact q721 | exact zas (taab) | (have e_ := (Kd.S_reads' HO_83.out).1; omega)) : P := h
theorem tafb {P : Prop} (h : P := by rw [hg]; exact (zbl (taaa))) : P := h
theorem tafc {P : Prop} (h : P := by first | exact q769 | exact zas (taab) | (have e_ := (Kd.S_reads' HO_205.out).1; omega)) : P := h
theorem tafd {P : Prop} (h : P := by first | exact q197 | exact zas (taab) | (have e_ := (Kd.V_reads' HO_0.out).1; omega)) : P := h
theorem tafe {P : Prop} (h : P := by first | exact q354 | exact zas (taab) | (have e_ := (Kd.V_reads' HO_28.out).1; omega)) : P := h
theorem taff {P : Prop} (h : P := by first | exact q748 | exact zas (taab) | (have e_ := (Kd.S_reads' HO_190.out).1; omega)) : P := h
theorem tafg {P : Prop} (h : P := by simp only [Bool.and_eq_true, Bool.not_eq_true']; exact ⟨h, by simpa using hs⟩) : P := h
theorem tafh {P : Prop} (h : P := by first | exact q199 | exact zas (taab) | (have e_ := (Kd.V_reads' HO_0.out).1; omega)) : P := h
theorem tafi {P : Prop} (h : P := by first | exact q728 | exact zas (taab) | (have e_ := (Kd.S_reads' HO_12.out).1; omega)) : P := h
theorem tafj {P : Prop} (h : P := by first | exact q746 | exact zas (taab) | (have e_ := (Kd.S_reads' HO_175.out).1; omega)) : P := h
theorem tafk {P : Prop} (h : P := by simp only [Bool.and_eq_true, Bool.not_eq_true']; exact ⟨k, by simpa using ht⟩) : P := h
theorem tafl {P : Prop} (h : P := by exact taez) : P := h
theorem tafm {P : Prop} (h : P := by exact tafl) : P := h
theorem tafn {P : Prop} (h : P := by (repeat (first | exact HR0.out | (with_reducible refine zal ?_ _) | (with_reducible refine zam ?_ _) | (with_reducible refine zan ?_))); done) : P := h
theorem tafo {P : Prop} (h : P := by (repeat (first | exact HR1.out | (with_reducible refine zal ?_ _) | (with_reducible refine zam ?_ _) | (with_reducible refine zan ?_))); done) : P := h
theorem tafp {P : Prop} (h : P := by (repeat (first | (with_reducible first | exact HI0.out | apply zcc | apply zcd | apply zce | apply zcf | apply zcg) | exact HI0.out)); done) : P := h
theorem tafq {P : Prop} (h : P := by (repeat (first | (with_reducible first | exact HB.out | apply zag | apply zae | apply zaf | refine zah ?_ (IsS51.ge HI0.out)) | exact HB.out)); done) : P := h
theorem tafr {P : Prop} (h : P := by (repeat (first | exact (Kd.C_below HR0.out HB.out) | (with_reducible refine zal ?_ _) | (with_reducible refine zam ?_ _) | (with_reducible refine zan ?_))); done) : P := h
theorem tafs {P : Prop} (h : P := by (repeat (first | exact (zbg HO_5.out).2.2 | (with_reducible refine zal ?_ _) | (with_reducible refine zam ?_ _) | (with_reducible refine zan ?_))); done) : P := h
theorem taft {P : Prop} (h : P := by (repeat (first | exact (tabc) | (with_reducible refine zal ?_ _) | (with_reducible refine zam ?_ _) | (with_reducible refine zan ?_))); done) : P := h
theorem tafu {P : Prop} (h : P := by (repeat (first | exact HR639_0.out | (with_reducible refine zal ?_ _) | (with_reducible refine zam ?_ _) | (with_reducible refine zan ?_))); done) : P := h
theorem tafv {P : Prop} (h : P := by (repeat (first | exact HR640_0.out | (with_reducible refine zal ?_ _) | (with_reducible refine zam ?_ _) | (with_reducible refine zan ?_))); done) : P := h
theorem tafw {P : Prop} (h : P := by (repeat (first | exact HR695_0.out | (with_reducible refine zal ?_ _) | (with_reducible refine zam ?_ _) | (with_reducible refine zan ?_))); done) : P := h
theorem tafx {P : Prop} (h : P := by (repeat (first | exact (tabq) | (with_reducible refine zal ?_ _) | (with_reducible refine zam ?_ _) | (with_reducible refine zan ?_))); done) : P := h
theorem tafy {P : Prop} (h : P := by (repeat (first | exact (tabr) | (with_reducible refine zal ?_ _) | (with_reducible refine zam ?_ _) | (with_reducible refine zan ?_))); done) : P := h
theorem tafz {P : Prop} (h : P := by (repeat (first | exact (tacm) | (with_reducible refine zal ?_ _) | (with_reducible refine zam ?_ _) | (with_reducible refine zan ?_))); done) : P := h
theorem taga {P : Prop} (h : P := by (repeat (first | exact (taao) | (with_reducible refine zal ?_ _) | (with_reducible refine zam ?_ _) | (with_reducible refine zan ?_))); done) : P := h
def errW : Option Int → Value
 | none => .nilIface
 | some c => .iface 0 (.int .i64 c)
theorem errW_none : errW none = .nilIface := rfl
theorem errW_some (c : Int) : errW (some c) = .iface 0 (.int .i64 c) := rfl
theorem info3 : (Try.prog.info? 3).map (fun i => (i.zero, i.size, i.bytes)) = some (some (.int .i64 0), 1, 8) := by kernel_rfl
theorem info22 : (Try.prog.info? 22).map (fun i => (i.zero, i.size, i.bytes)) = some (some (.slice none 0 0), 1, 24) := by kernel_rfl
def rd_L1 (xs : List (List Int)) (i : Int) : (List Int) := xs.getD i.toNat ([] : List Int)
theorem at_L1 {w : World} {A : Option Addr} {n : Nat} {xs : List (List Int)} (h : Kd.C (Kd.slice 3 (Kd.int .i64)) w A n xs) (i : Int) (h0 : 0 ≤ i) (h1 : i < n) : ∃ ad A0 c0, A = some ad ∧ w.cell? (ad.add i.toNat) = some (.slice A0 (rd_L1 xs i).length c0) ∧ (rd_L1 xs i).length ≤ c0 ∧ (Kd.int .i64).C w A0 (rd_L1 xs i).length (rd_L1 xs i) := by
 obtain ⟨ad, c, e, _, hK, hc0⟩ := Kd.C_get h ([] : List Int) i h0 h1
 have hc : ∀ j u, c[j]? = some u → w.cell? (ad.add (i.toNat * 1 + j)) = some u := hc0
 obtain ⟨A0, c0, rfl, l0, g0⟩ := hK
 exact ⟨ad, A0, c0, e, by have hq := hc 0 _ rfl; rwa [Nat.mul_one, Nat.add_zero] at hq, l0, g0⟩
def laws_big.f (l0 : List Int) (l1 : List Int) : Option (Bool) := if (l0.length : Int) > 1048576 then (some true) else (some (decide ((l1.length : Int) > (wrap64 (1048576 - (l0.length : Int))))))
theorem laws_big.calls (A0 : Option Addr) (c0 : Nat) (l0 : List Int) (A1 : Option Addr) (c1 : Nat) (l1 : List Int) (r : Bool) (w : World) (hr0 : Kd.C (Kd.int .u8) w A0 l0.length l0) (hc0 : l0.length ≤ c0) (hr1 : Kd.C (Kd.int .u8) w A1 l1.length l1) (hc1 : l1.length ≤ c1) (h : laws_big.f l0 l1 = some r) :
 Calls Try.prog 14 #[.slice A0 l0.length c0, .slice A1 l1.length c1] w fun e w' => e = .returned (.bool r) ∧ Drawn0 w w' := by
 have HR0 := zad hr0; have HC0 := zad hc0; clear hr0 hc0; have HR1 := zad hr1; have HC1 := zad hc1; clear hr1 hc1; have H : (if (l0.length : Int) > 1048576 then (some true) else (some (decide ((l1.length : Int) > (wrap64 (1048576 - (l0.length : Int))))))) = some r := h
 clear h; by_cases c3 : (l0.length : Int) > 1048576
 · rw [if_pos c3] at H
   have c3b0 : decide (1048576 < (l0.length : Int)) = true := zba c3
   have c3b1 : decide (1048576 < l0.length) = true := zba (by omega)
   clear c3; obtain rfl := zbf H
   go_enter Try.func14, Try.ntmps14
   go_wp2
   go_ret
   exact ⟨taad, taag⟩
 · rw [if_neg c3] at H
   have c3b0 : decide (1048576 < (l0.length : Int)) = false := zbk c3
   have c3b1 : decide (1048576 < l0.length) = false := zbk (by omega)
   clear c3; obtain rfl := zbf H
   go_enter Try.func14, Try.ntmps14
   go_wp2
   go_ret
   exact ⟨taad, taag⟩
def laws_pSame.l0 : Nat → List Int → List Int → Int → Int → Option (Bool)
 | 0, _, _, _, _ => none
 | k + 1, x0, x1, x12, x13 => if x13 < x12 then (if 0 ≤ x13 then (if x13 < (x0.length : Int) then (if x13 < (x1.length : Int) then (if (rd x0 x13) = (rd x1 x13) then (laws_pSame.l0 k x0 x1 x12 (wrap64 (x13 + 1))) else (some false)) else (none)) else (none)) else (none)) else (some true)
def laws_pSame.f (k : Nat) (l0 : List Int) (l1 : List Int) : Option (Bool) := if (l0.length : Int) = (l1.length : Int) then (laws_pSame.l0 k l0 l1 (l0.length : Int) 0) else (some false)
theorem laws_pSame.calls (k : Nat) (A0 : Option Addr) (c0 : Nat) (l0 : List Int) (A1 : Option Addr) (c1 : Nat) (l1 : List Int) (r : Bool) (w : World) (hr0 : Kd.C (Kd.int .i64) w A0 l0.length l0) (hc0 : l0.length ≤ c0) (hr1 : Kd.C (Kd.int .i64) w A1 l1.length l1) (hc1 : l1.length ≤ c1) (h : laws_pSame.f k l0 l1 = some r) :
 Calls Try.prog 20 #[.slice A0 l0.length c0, .slice A1 l1.length c1] w fun e w' => e = .returned (.bool r) ∧ Drawn0 w w' := by
 have HR0 := zad hr0; have HC0 := zad hc0; clear hr0 hc0; have HR1 := zad hr1; have HC1 := zad hc1; clear hr1 hc1; have H : (if (l0.length : Int) = (l1.length : Int) then (laws_pSame.l0 k l0 l1 (l0.length : Int) 0) else (some false)) = some r := h
 clear h; by_cases c3 : (l0.length : Int) = (l1.length : Int)
 · rw [if_pos c3] at H
   have c3b0 : ((l0.length : Int) == (l1.length : Int)) = true := beq_iff_eq.mpr c3
   have c3b1 : ((l0.length : Int) != (l1.length : Int)) = false := bne_eq_false_iff_eq.mpr c3
   have c3b2 : (l0.length == l1.length) = true := by first | simpa using c3 | (simp at c3 ⊢; omega)
   clear c3; have H' := zad H
   clear H; go_enter Try.func20, Try.ntmps20
   go_wp2
   repeat (go_quiet (fail); try go_wp2)
   go_loopg [13] k (fun kq v13 w' => ∃ (x13_1 : Int), v13 = .int .i64 x13_1 ∧ Aside0 (laws_pSame.l0 kq l0 l1 (l0.length : Int) x13_1 = some r) ∧ Aside0 (kq ≤ k) ∧ Drawn0 w w')
   case atStart => exact ⟨(0), (taad), H', ⟨zcb _⟩, taag⟩
   case round =>
    clear H'
    try clear c1
    try clear c2
    try clear p2
    try clear c3
    try clear c3b0
    try clear c3b1
    try clear c3b2
    obtain ⟨x13_1, rfl, HA, HK1, ⟨m1, rfl⟩⟩ := hrel
    cases gk with
    | zero => exact absurd HA.out (by simp [laws_pSame.l0])
    | succ k1 =>
     have H := HA.out
     clear HA; simp only [laws_pSame.l0] at H
     by_cases c4 : x13_1 < (l0.length : Int)
     · rw [if_pos c4] at H
       have c4b0 : decide (x13_1 < (l0.length : Int)) = true := zba c4
       clear c4; by_cases c5 : 0 ≤ x13_1
       · rw [if_pos c5] at H
         have c5b0 : decide (0 ≤ x13_1) = true := zba c5
         clear c5; by_cases c6 : x13_1 < (l0.length : Int)
         · rw [if_pos c6] at H
           have c6b0 : decide (x13_1 < (l0.length : Int)) = true := zba c6
           clear c6; by_cases c7 : x13_1 < (l1.length : Int)
           · rw [if_pos c7] at H
             have c7b0 : decide (x13_1 < (l1.length : Int)) = true := zba c7
             clear c7; by_cases c8 : (rd l0 x13_1) = (rd l1 x13_1)
             · rw [if_pos c8] at H
               have c8b0 : ((rd l0 x13_1) == (rd l1 x13_1)) = true := beq_iff_eq.mpr c8
               have c8b1 : ((rd l0 x13_1) != (rd l1 x13_1)) = false := bne_eq_false_iff_eq.mpr c8
               clear c8; have H' := zad H
               clear H; have p541 : 0 ≤ (x13_1 : Int) := zas (taab)
               have q541 : x13_1 < (l0.length : Int) := zas (taab)
               obtain ⟨ad541, e541, hx541_0⟩ := zbw HR0.out x13_1 p541 q541
               cases e541
               replace p541 := eq_true p541
               replace q541 := eq_true q541
               have p542 : 0 ≤ (x13_1 : Int) := zas (taab)
               have q542 : x13_1 < (l1.length : Int) := zas (taab)
               obtain ⟨ad542, e542, hx542_0⟩ := zbw HR1.out x13_1 p542 q542
               cases e542
               replace p542 := eq_true p542
               replace q542 := eq_true q542
               go_wp2
               repeat (go_quiet (fail); try go_wp2)
               go_roundg k1
               case measure => have := HK1.out; omega
               case rel => exact ⟨(wrap64 (x13_1 + 1)), (taad), H', ⟨taat⟩, taag⟩
             · rw [if_neg c8] at H
               have c8b0 : ((rd l0 x13_1) == (rd l1 x13_1)) = false := zbp.mpr c8
               have c8b1 : ((rd l0 x13_1) != (rd l1 x13_1)) = true := bne_iff_ne.mpr c8
               obtain rfl := zbf H
               have p541 : 0 ≤ (x13_1 : Int) := zas (taab)
               have q541 : x13_1 < (l0.length : Int) := zas (taab)
               obtain ⟨ad541, e541, hx541_0⟩ := zbw HR0.out x13_1 p541 q541
               cases e541
               replace p541 := eq_true p541
               replace q541 := eq_true q541
               have p542 : 0 ≤ (x13_1 : Int) := zas (taab)
               have q542 : x13_1 < (l1.length : Int) := zas (taab)
               obtain ⟨ad542, e542, hx542_0⟩ := zbw HR1.out x13_1 p542 q542
               cases e542
               replace p542 := eq_true p542
               replace q542 := eq_true q542
               go_wp2
               repeat (go_quiet (fail); try go_wp2)
               go_ret
               exact ⟨taad, taag⟩
           · rw [if_neg c7] at H
             exact absurd H (taac)
         · rw [if_neg c6] at H
           exact absurd H (taac)
       · rw [if_neg c5] at H
         exact absurd H (taac)
     · rw [if_neg c4] at H
       have c4b0 : decide (x13_1 < (l0.length : Int)) = false := zbk c4
       clear c4; obtain rfl := zbf H
       go_wp2
       repeat (go_quiet (fail); try go_wp2)
       go_ret
       exact ⟨taad, taag⟩
 · rw [if_neg c3] at H
   have c3b0 : ((l0.length : Int) == (l1.length : Int)) = false := zbp.mpr c3
   have c3b1 : ((l0.length : Int) != (l1.length : Int)) = true := bne_iff_ne.mpr c3
   have c3b2 : (l0.length == l1.length) = false := by first | simpa using c3 | (simp at c3 ⊢; omega)
   obtain rfl := zbf H
   go_enter Try.func20, Try.ntmps20
   go_wp2
   repeat (go_quiet (fail); try go_wp2)
   go_ret
   exact ⟨taad, taag⟩
def impl_within.f (a0 : Int) (a1 : Int) (a2 : Int) : Option (Bool) := if a0 ≥ a1 then (some (decide (a0 ≤ a2))) else (some false)
theorem impl_within.calls (a0 : Int) (a1 : Int) (a2 : Int) (r : Bool) (w : World) (h : impl_within.f a0 a1 a2 = some r) :
 Calls Try.prog 64 #[.int .i64 a0, .int .i64 a1, .int .i64 a2] w fun e w' => e = .returned (.bool r) ∧ Drawn0 w w' := by
 have H : (if a0 ≥ a1 then (some (decide (a0 ≤ a2))) else (some false)) = some r := h
 clear h; by_cases c4 : a0 ≥ a1
 · rw [if_pos c4] at H
   have c4b0 : decide (a1 ≤ a0) = true := zba c4
   clear c4; obtain rfl := zbf H
   go_enter Try.func64, Try.ntmps64
   go_wp2
   go_ret
   exact ⟨taad, taag⟩
 · rw [if_neg c4] at H
   have c4b0 : decide (a1 ≤ a0) = false := zbk c4
   clear c4; obtain rfl := zbf H
   go_enter Try.func64, Try.ntmps64
   go_wp2
   go_ret
   exact ⟨taad, taag⟩
def impl_allWithin.l0 : Nat → Int → Int → List Int → Int → Int → Option (Bool)
 | 0, _, _, _, _, _ => none
 | k + 1, x1, x2, x9, x10, x11 => if x11 < x10 then (if 0 ≤ x11 then (if x11 < (x9.length : Int) then ((impl_within.f (rd x9 x11) x1 x2).bind fun t251 => (if t251 = true then (impl_allWithin.l0 k x1 x2 x9 x10 (wrap64 (x11 + 1))) else (some false))) else (none)) else (none)) else (some true)
def impl_allWithin.f (k : Nat) (l0 : List Int) (a1 : Int) (a2 : Int) : Option (Bool) := impl_allWithin.l0 k a1 a2 l0 (l0.length : Int) 0
theorem impl_allWithin.calls (k : Nat) (A0 : Option Addr) (c0 : Nat) (l0 : List Int) (a1 : Int) (a2 : Int) (r : Bool) (w : World) (hr0 : Kd.C (Kd.int .i64) w A0 l0.length l0) (hc0 : l0.length ≤ c0) (h : impl_allWithin.f k l0 a1 a2 = some r) :
 Calls Try.prog 72 #[.slice A0 l0.length c0, .int .i64 a1, .int .i64 a2] w fun e w' => e = .returned (.bool r) ∧ Drawn0 w w' := by
 have HR0 := zad hr0; have HC0 := zad hc0; clear hr0 hc0; have H : (impl_allWithin.l0 k a1 a2 l0 (l0.length : Int) 0) = some r := h
 clear h; have H' := zad H
 clear H; go_enter Try.func72, Try.ntmps72
 go_wp2
 go_loopg [11] k (fun kq v11 w' => ∃ (x11_1 : Int), v11 = .int .i64 x11_1 ∧ Aside0 (impl_allWithin.l0 kq a1 a2 l0 (l0.length : Int) x11_1 = some r) ∧ Aside0 (kq ≤ k) ∧ Drawn0 w w')
 case atStart => exact ⟨(0), (taad), H', ⟨zcb _⟩, taag⟩
 case round =>
  clear H'
  try clear p2
  obtain ⟨x11_1, rfl, HA, HK1, ⟨m1, rfl⟩⟩ := hrel
  cases gk with
  | zero => exact absurd HA.out (by simp [impl_allWithin.l0])
  | succ k1 =>
   have H := HA.out
   clear HA; simp only [impl_allWithin.l0] at H
   by_cases c4 : x11_1 < (l0.length : Int)
   · rw [if_pos c4] at H
     have c4b0 : decide (x11_1 < (l0.length : Int)) = true := zba c4
     clear c4; by_cases c5 : 0 ≤ x11_1
     · rw [if_pos c5] at H
       have c5b0 : decide (0 ≤ x11_1) = true := zba c5
       clear c5; by_cases c6 : x11_1 < (l0.length : Int)
       · rw [if_pos c6] at H
         have c6b0 : decide (x11_1 < (l0.length : Int)) = true := zba c6
         clear c6; replace H := zay.mp H; obtain ⟨t251, A70, H⟩ := H
         replace H : (if t251 = true then (impl_allWithin.l0 k1 a1 a2 l0 (l0.length : Int) (wrap64 (x11_1 + 1))) else (some false)) = some r := H
         have A7 := zad A70; clear A70; by_cases c8 : t251 = true
         · subst c8
           have H1 : (impl_allWithin.l0 k1 a1 a2 l0 (l0.length : Int) (wrap64 (x11_1 + 1))) = some r := by rw [if_pos rfl] at H; exact H
           clear H; have H := H1; clear H1; have H' := zad H
           clear H; have p250 : 0 ≤ (x11_1 : Int) := zas (taab)
           have q250 : x11_1 < (l0.length : Int) := zas (taab)
           obtain ⟨ad250, e250, hx250_0⟩ := zbw HR0.out x11_1 p250 q250
           cases e250
           replace p250 := eq_true p250
           replace q250 := eq_true q250
           go_wp2_with (first | ((with_reducible refine zbi (f := 64) rfl ?_); refine zbo (some 18) rfl rfl Try.func64 (by kernel_rfl) rfl #[.int .i64 (rd l0 x11_1), .int .i64 a1, .int .i64 a2] rfl (taae) ?_; (with_reducible refine (impl_within.calls (rd l0 x11_1) a1 a2 true _ A7.out).mono ?_); rintro e w' ⟨rfl, ⟨nd, rfl⟩⟩; refine ⟨_, rfl, ?_⟩))
           go_roundg k1
           case measure => have := HK1.out; omega
           case rel => exact ⟨(wrap64 (x11_1 + 1)), (taad), H', ⟨taat⟩, taag⟩
         · replace c8 := zbj.mpr c8
           subst c8; have H1 : (some false) = some r := by rw [if_neg (show ¬ (false = true) by decide)] at H; exact H
           clear H; have H := H1; clear H1; obtain rfl := zbf H
           have p250 : 0 ≤ (x11_1 : Int) := zas (taab)
           have q250 : x11_1 < (l0.length : Int) := zas (taab)
           obtain ⟨ad250, e250, hx250_0⟩ := zbw HR0.out x11_1 p250 q250
           cases e250
           replace p250 := eq_true p250
           replace q250 := eq_true q250
           go_wp2_with (first | ((with_reducible refine zbi (f := 64) rfl ?_); refine zbo (some 18) rfl rfl Try.func64 (by kernel_rfl) rfl #[.int .i64 (rd l0 x11_1), .int .i64 a1, .int .i64 a2] rfl (taae) ?_; (with_reducible refine (impl_within.calls (rd l0 x11_1) a1 a2 false _ A7.out).mono ?_); rintro e w' ⟨rfl, ⟨nd, rfl⟩⟩; refine ⟨_, rfl, ?_⟩))
           go_ret
           exact ⟨taad, taag⟩
       · rw [if_neg c6] at H
         exact absurd H (taac)
     · rw [if_neg c5] at H
       exact absurd H (taac)
   · rw [if_neg c4] at H
     have c4b0 : decide (x11_1 < (l0.length : Int)) = false := zbk c4
     clear c4; obtain rfl := zbf H
     go_wp2
     go_ret
     exact ⟨taad, taag⟩
def impl_IsList.f (k : Nat) (l0 : List Int) : Option (Bool) := (impl_within.f (l0.length : Int) 1 8).bind fun t252 => (if t252 = true then ((impl_allWithin.f k l0 0 60).bind fun t253 => (some t253)) else (some false))
theorem impl_IsList.calls (k : Nat) (A0 : Option Addr) (c0 : Nat) (l0 : List Int) (r : Bool) (w : World) (hr0 : Kd.C (Kd.int .i64) w A0 l0.length l0) (hc0 : l0.length ≤ c0) (h : impl_IsList.f k l0 = some r) :
 Calls Try.prog 38 #[.slice A0 l0.length c0] w fun e w' => e = .returned (.bool r) ∧ Drawn0 w w' := by
 have HR0 := zad hr0; have HC0 := zad hc0; clear hr0 hc0; have H : ((impl_within.f (l0.length : Int) 1 8).bind fun t252 => (if t252 = true then ((impl_allWithin.f k l0 0 60).bind fun t253 => (some t253)) else (some false))) = some r := h
 clear h; replace H := zay.mp H; obtain ⟨t252, A20, H⟩ := H
 replace H : (if t252 = true then ((impl_allWithin.f k l0 0 60).bind fun t253 => (some t253)) else (some false)) = some r := H
 have A2 := zad A20; clear A20; by_cases c3 : t252 = true
 · subst c3
   have H1 : ((impl_allWithin.f k l0 0 60).bind fun t253 => (some t253)) = some r := by rw [if_pos rfl] at H; exact H
   clear H; have H := H1; clear H1; replace H := zay.mp H; obtain ⟨t253, A40, H⟩ := H
   replace H : (some t253) = some r := H
   have A4 := zad A40; clear A40; obtain rfl := zbf H
   go_enter Try.func38, Try.ntmps38
   go_wp2_with (first | ((with_reducible refine zbi (f := 64) rfl ?_); refine zbo (some 5) rfl rfl Try.func64 (by kernel_rfl) rfl #[.int .i64 (l0.length : Int), .int .i64 1, .int .i64 8] rfl (taae) ?_; (with_reducible refine (impl_within.calls (l0.length : Int) 1 8 true _ A2.out).mono ?_); rintro e w' ⟨rfl, ⟨nd, rfl⟩⟩; refine ⟨_, rfl, ?_⟩) | (go_at_call 72; (with_reducible refine (impl_allWithin.calls k _ _ l0 0 60 t253 _ ?side1 ?side2 A4.out).mono ?_); (case side1 => repeat (first | exact HR0.out | (with_reducible refine zal ?_ _) | (with_reducible refine zam ?_ _) | (with_reducible refine zan ?_))); (case side2 => exact HC0.out); rintro e w' ⟨rfl, ⟨nd, rfl⟩⟩))
   go_ret
   exact ⟨taad, taag⟩
 · replace c3 := zbj.mpr c3
   subst c3; have H1 : (some false) = some r := by rw [if_neg (show ¬ (false = true) by decide)] at H; exact H
   clear H; have H := H1; clear H1; obtain rfl := zbf H
   go_enter Try.func38, Try.ntmps38
   go_wp2_with (first | ((with_reducible refine zbi (f := 64) rfl ?_); refine zbo (some 5) rfl rfl Try.func64 (by kernel_rfl) rfl #[.int .i64 (l0.length : Int), .int .i64 1, .int .i64 8] rfl (taae) ?_; (with_reducible refine (impl_within.calls (l0.length : Int) 1 8 false _ A2.out).mono ?_); rintro e w' ⟨rfl, ⟨nd, rfl⟩⟩; refine ⟨_, rfl, ?_⟩))
   go_ret
   exact ⟨taad, taag⟩
def slices_Clone_int_int.f (l0 : List Int) : Option (List Int) := if l0.length ≤ 17592186044416 then some l0 else none
theorem slices_Clone_int_int.calls (A0 : Option Addr) (c0 : Nat) (l0 : List Int) (r : List Int) (w : World) (hr0 : Kd.C (Kd.int .i64) w A0 l0.length l0) (hc0 : l0.length ≤ c0) (h : slices_Clone_int_int.f l0 = some r) :
 Calls Try.prog 80 #[.slice A0 l0.length c0] w fun e w' => ∃ v0_ : Value, e = .returned (v0_) ∧ Kd.R (Kd.int .i64) 3 w' w.heap.size (fun _ => True) v0_ r ∧ Below w.heap.size w w' := by
 have hl : l0.length ≤ 17592186044416 ∧ l0 = r := by
  unfold slices_Clone_int_int.f at h
  by_cases c : l0.length ≤ 17592186044416
  · rw [if_pos c] at h
    exact ⟨c, zbf h⟩
  · rw [if_neg c] at h
    cases h
 clear h; obtain ⟨hl, rfl⟩ := hl
 have hn := (Kd.reads_of_C (d := (0 : Int)) (h1 := fun _ => rfl) hr0).2.2
 clear hr0; have q := fun (w : World) (a : Option Addr) (n c n' c' : Nat) => Lib.run_eql_slice_nil (P := Try.prog) w 22 3 a n c n' c' Try.underlying22
 cases A0 with
 | none =>
  have e0 : l0 = [] := by
   cases l0 with
   | nil => rfl
   | cons x t =>
    obtain ⟨ad, e', _⟩ := hn (taac)
    cases e'
  subst e0; clear hn; go_enter Try.func80, Try.ntmps80
  go_wp2
  go_ret
  exact ⟨_, rfl, Kd.R_nil _ _ _ _ _, Below.refl _ _⟩
 | some ad =>
  have HC : Aside0 (∀ j u, (encs (Value.int .i64) l0)[j]? = some u → w.cell? (ad.add j) = some u) := ⟨by
   intro j u hj
   have hjl : j < l0.length := by
    have := (List.getElem?_eq_some_iff.1 hj).1
    rwa [encs_length] at this
   obtain ⟨ad', e', hcell⟩ := hn (by omega)
   cases e'
   rw [encs_get (d := (0 : Int)) l0 j hjl] at hj
   injection hj with hj
   rw [← hj]
   exact hcell j hjl⟩
  clear hn; obtain ⟨i0, hi, hzz⟩ := Option.map_eq_some_iff.1 info3
  simp only [zbq] at hzz
  obtain ⟨hz0, hz1, hz2⟩ := hzz
  have Hl := zad hl; have Hc := zad hc0; clear hl hc0; go_enter Try.func80, Try.ntmps80
  go_wp2_with (at_builtin; refine wpList_append_own _ rfl _ _ 22 rfl w.heap.size 3 i0 (.int .i64 0) 1 8 Try.underlying22 hi hz0 hz1 hz2 rfl (by decide) _ _ _ rfl (World.ownsRow_made w #[] 0 (zcb _) (Nat.zero_le _) (taac)) ad l0.length c0 (encs (Value.int .i64) l0) rfl ?qc1 ?qc2 ?qc3 ?qc4 ?qc5 ?qc6 ?_)
  case qc1 => rw [encs_length, Nat.mul_one]
  case qc2 =>
   intro j u hj
   exact Lib.cell?_alloc_some _ (HC.out j u hj)
  case qc3 =>
   intro u hu
   obtain ⟨x, _, rfl⟩ := List.mem_map.1 hu
   rfl
  case qc4 =>
   have := Hl.out
   unfold maxLen
   omega
  case qc5 =>
   have := Hl.out
   omega
  case qc6 => simp
  intro v' w1 hown hgrow hnil
  go_wp2
  go_ret
  refine ⟨v', rfl, ?_, ?_⟩
  · refine Kd.R_of_own ?_ (fun _ _ => trivial)
    simpa using hown
  · exact ((Below.refl _ w).alloc (zcb _) _).grown hgrow (taac) (by intro k hk; simp [Value.ownBlock] at hk; omega)
section
open Go.Shelf Go.Lib Go.Sort
theorem heap_sorted {α : Type} [Inhabited α] (enc : α → Value) (w : World) (blk off m : Nat) (d : Array α) (os : Array Obj) (k : Nat) (hk : k < w.heap.size) :
 (sortWorld enc w blk off m d os).heap[k]? = if blk = k then (w.heap[k]?).map (onCells (putCells enc off d)) else w.heap[k]? := by
 have h1 : (sortWorld enc w blk off m d os).heap = (w.heap.modify blk (onCells (putCells enc off d))) ++ os := rfl
 rw [h1, Array.getElem?_append_left (by rw [Array.size_modify]; exact hk), Array.getElem?_modify]
theorem size_sorted {α : Type} [Inhabited α] (enc : α → Value) (w : World) (blk off m : Nat) (d : Array α) (os : Array Obj) : w.heap.size ≤ (sortWorld enc w blk off m d os).heap.size := by
 have h1 : (sortWorld enc w blk off m d os).heap = (w.heap.modify blk (onCells (putCells enc off d))) ++ os := rfl
 rw [h1, Array.size_append, Array.size_modify]
 omega
theorem below_sorted {α : Type} [Inhabited α] (enc : α → Value) {w w1 : World} (hb : Below w.heap.size w w1) {blk off m : Nat} (d : Array α) (os : Array Obj) (hg : w.heap.size ≤ blk) : Below w.heap.size w (sortWorld enc w1 blk off m d os) := by
 refine ⟨hb.os, hb.tape, hb.output, Nat.le_trans hb.size (size_sorted _ _ _ _ _ _ _), fun k hk => ?_⟩
 rw [heap_sorted _ _ _ _ _ _ _ _ (Nat.lt_of_lt_of_le hk hb.size), if_neg (by omega)]
 exact hb.block k hk
theorem putCells_take {α : Type} [Inhabited α] (enc : α → Value) (d : Array α) (cur : Array Value) (h : d.size ≤ cur.size) : (putCells enc 0 d cur).toList.take d.size = d.toList.map enc := by
 apply List.ext_getElem?
 intro i
 by_cases hi : i < d.size
 · rw [List.getElem?_take_of_lt hi, List.getElem?_map, Array.getElem?_toList, Array.getElem?_toList, Array.getElem?_eq_getElem hi]
   unfold putCells
   rw [Array.getElem?_mapIdx, Array.getElem?_eq_getElem (show i < cur.size by omega)]
   simp [hi, getElem!_pos]
 · rw [List.getElem?_eq_none (by rw [zax]; omega), List.getElem?_eq_none (by simp; omega)]
theorem own_sorted {α : Type} [Inhabited α] (enc : α → Value) {w1 : World} {base e n g cap m : Nat} {cur : Array Value} (d : Array α) (os : Array Obj) (hb : base ≤ g) (hh : w1.heap[g]? = some (.cells cur e (0, 0))) (hn : n ≤ cap) (hc : cap ≤ maxLen) (hs : cur.size = cap * 1) (hd : d.size = n) :
 (sortWorld enc w1 g 0 m d os).ownsRow base e 1 (.slice (some ⟨g, 0, none⟩) n cap) n (d.toList.map enc) := by
 have hg : g < w1.heap.size := (Array.getElem?_eq_some_iff.1 hh).1
 refine ⟨by simp [hd], .inr ⟨g, cap, putCells enc 0 d cur, rfl, hb, ?_, hn, hc, ?_, ?_⟩⟩
 · rw [heap_sorted _ _ _ _ _ _ _ _ hg, if_pos rfl, hh]
   rfl
 · unfold putCells
   rw [Array.size_mapIdx]
   exact hs
 · rw [Nat.mul_one, ← hd]
   exact putCells_take enc d cur (by omega)
theorem holds_own {α : Type} [Inhabited α] (enc : α → Value) {w1 : World} {e n g cap : Nat} {cur : Array Value} (d : Array α) (hh : w1.heap[g]? = some (.cells cur e (0, 0))) (hn : n ≤ cap) (hs : cur.size = cap * 1) (hd : d.size = n) (ht : cur.toList.take (n * 1) = d.toList.map enc) : Holds enc w1 g 0 d := by
 intro j hj
 have h1 : (cur.toList.take (n * 1))[j]? = (d.toList.map enc)[j]? := by rw [ht]
 rw [List.getElem?_take_of_lt (by omega), List.getElem?_map, Array.getElem?_toList, Array.getElem?_toList, Array.getElem?_eq_getElem hj] at h1
 rw [Nat.zero_add]
 refine ⟨?_, blk_frozen hh j⟩
 rw [blk_cell hh j, h1, getElem!_pos d j hj]
 rfl
end
end Go.Proofs.Ytdkimdlbjeobiaa.A
/-
  DERIVED: THE SHELF's CONTRACTS AT THIS DUMP, IN PLAIN WORDS (tools/lay-plain.mjs out of 'YtdkimdlbjeobiaaShelf.lean', which tools/lay-shelf.mjs wrote): THE SAME DECLARATIONS UNDER THE SAME NAMES: 'import', 'namespace', 'open', 'def', 'theorem' AND NOTHING ELSE: no command of the shelf's: FOR A HAND-IN. Each laying: the table of numbers ('.._ren') and one theorem, a field a fact of the dump's own or the kernel's comparison; each contract: ONE APPLICATION.
-/
namespace Go.Proofs
open Go.Shelf
def Try.sortL_ren : Go.Shelf.Ren := ⟨fun | 6 => 81 | 15 => 85 | 14 => 84 | 28 => 94 | 29 => 95 | 20 => 86 | 21 => 87 | 22 => 88 | 23 => 89 | 24 => 90 | 25 => 91 | 26 => 92 | 27 => 93 | 46 => 96 | 47 => 97 | 48 => 98 | 49 => 99 | 50 => 100 | 57 => 101 | n => n, fun | 22 => 22 | 24 => 3 | 25 => 55 | 3 => 3 | 39 => 69 | 0 => 0 | 53 => 81 | 55 => 49 | 4 => 4 | 46 => 74 | 45 => 73 | 50 => 78 | 5 => 5 | 9 => 9 | 66 => 83 | 70 => 87 | 76 => 89 | 77 => 41 | n => n, fun | n => n⟩
theorem Try.sortL : Go.Proofs.SlLaysF.n6 Try.prog Try.sortL_ren := {
 mixed := by kernel_rfl
 f6 := ⟨Try.f81.name, by decide, Try.func81.trans (congrArg some (by kernel_rfl))⟩
 f14 := ⟨Try.f84.name, by decide, Try.func84.trans (congrArg some (by kernel_rfl))⟩
 f15 := Try.func85.trans (congrArg some (by kernel_rfl))
 f20 := ⟨Try.f86.name, by decide, Try.func86.trans (congrArg some (by kernel_rfl))⟩
 f21 := ⟨Try.f87.name, by decide, Try.func87.trans (congrArg some (by kernel_rfl))⟩
 f22 := ⟨Try.f88.name, by decide, Try.func88.trans (congrArg some (by kernel_rfl))⟩
 f23 := ⟨Try.f89.name, by decide, Try.func89.trans (congrArg some (by kernel_rfl))⟩
 f24 := ⟨Try.f90.name, by decide, Try.func90.trans (congrArg some (by kernel_rfl))⟩
 f25 := ⟨Try.f91.name, by decide, Try.func91.trans (congrArg some (by kernel_rfl))⟩
 f26 := ⟨Try.f92.name, by decide, Try.func92.trans (congrArg some (by kernel_rfl))⟩
 f27 := ⟨Try.f93.name, by decide, Try.func93.trans (congrArg some (by kernel_rfl))⟩
 f28 := Try.func94.trans (congrArg some (by kernel_rfl))
 f29 := Try.func95.trans (congrArg some (by kernel_rfl))
 f46 := ⟨Try.f96.name, by decide, Try.func96.trans (congrArg some (by kernel_rfl))⟩
 f47 := Try.func97.trans (congrArg some (by kernel_rfl))
 f48 := Try.func98.trans (congrArg some (by kernel_rfl))
 f49 := ⟨Try.f99.name, by decide, Try.func99.trans (congrArg some (by kernel_rfl))⟩
 f50 := ⟨Try.f100.name, by decide, Try.func100.trans (congrArg some (by kernel_rfl))⟩
 f57 := ⟨Try.f101.name, by decide, Try.func101.trans (congrArg some (by kernel_rfl))⟩
 t0 := Try.underlying0
 a0 := Try.isAgg0
 z0 := Try.sizeOf0
 v0 := Try.zeroValue0
 t3 := Try.underlying3
 a3 := Try.isAgg3
 z3 := Try.sizeOf3
 v3 := Try.zeroValue3
 t4 := Try.underlying4
 a4 := Try.isAgg4
 z4 := Try.sizeOf4
 v4 := Try.zeroValue4
 t5 := Try.underlying5
 a5 := Try.isAgg5
 z5 := Try.sizeOf5
 v5 := Try.zeroValue5
 t9 := Try.underlying9
 a9 := Try.isAgg9
 z9 := Try.sizeOf9
 v9 := Try.zeroValue9
 t22 := Try.underlying22
 a22 := Try.isAgg22
 z22 := Try.sizeOf22
 v22 := Try.zeroValue22
 a24 := Try.isAgg3
 z24 := Try.sizeOf3
 t25 := Try.underlying55
 a25 := Try.isAgg55
 z25 := Try.sizeOf55
 v25 := Try.zeroValue55
 t39 := Try.underlying69
 a39 := Try.isAgg69
 z39 := Try.sizeOf69
 v39 := Try.zeroValue69
 t45 := Try.underlying73
 a45 := Try.isAgg73
 z45 := Try.sizeOf73
 v45 := Try.zeroValue73
 t46 := Try.underlying74
 a46 := Try.isAgg74
 z46 := Try.sizeOf74
 v46 := Try.zeroValue74
 t50 := Try.underlying78
 a50 := Try.isAgg78
 z50 := Try.sizeOf78
 v50 := Try.zeroValue78
 t53 := Try.underlying81
 a53 := Try.isAgg81
 z53 := Try.sizeOf81
 v53 := Try.zeroValue81
 t55 := Try.underlying49
 a55 := Try.isAgg49
 z55 := Try.sizeOf49
 v55 := Try.zeroValue49
 t66 := Try.underlying83
 a66 := Try.isAgg83
 z66 := Try.sizeOf83
 v66 := Try.zeroValue83
 t70 := Try.underlying87
 a70 := Try.isAgg87
 z70 := Try.sizeOf87
 v70 := Try.zeroValue87
 t76 := Try.underlying89
 a76 := Try.isAgg89
 z76 := Try.sizeOf89
 v76 := Try.zeroValue89
 t77 := Try.underlying41
 a77 := Try.isAgg41
 z77 := Try.sizeOf41
 v77 := Try.zeroValue41 }
end Go.Proofs

namespace Go.Proofs.Ytdkimdlbjeobiaa.A
open Go.RowKit Go.Proofs.YtdkimdlbjeobiaaW.PrintWords Go.Proofs.YtdkimdlbjeobiaaW.PrintLast Go.Proofs.YtdkimdlbjeobiaaW.PrintMore
attribute [local go_sem] max2_int min2_int max_two min_two max_three min_three max_four min_four
section
open Go.Shelf Go.Lib Go.Sort
def descL (l : List Int) : List Int := l.mergeSort fun x y => decide (y ≤ x)
def smallL (l : List Int) : Bool := decide (l.length ≤ 1000000) && l.all fun x => decide (0 ≤ x ∧ x ≤ 1000000)
def impl_ranking.f (l0 : List Int) : Option (List Int) := if smallL l0 = true then some (descL l0) else none
abbrev SmallI : Type := { x : Int // 0 ≤ x ∧ x ≤ 1000000 }
instance : Inhabited SmallI := ⟨⟨0, by omega, by omega⟩⟩
def encI (x : SmallI) : Value := .int .i64 x.1
def cfI (x y : SmallI) : Int := y.1 - x.1
theorem ltI (x y : SmallI) : ltOf cfI x y = decide (y.1 < x.1) := by
 unfold ltOf cfI
 by_cases h : y.1 < x.1
 · simp [h]
   omega
 · simp [h]
   omega
theorem swoI : SWO (ltOf cfI) where
 irrefl x := by rw [ltI]; simp
 trans x y z h1 h2 := by rw [ltI] at *; simp at *; omega
 ntrans x y z h1 h2 := by rw [ltI] at *; simp at *; omega
theorem totI (x y : SmallI) (h1 : ltOf cfI x y = false) (h2 : ltOf cfI y x = false) : x = y := by
 rw [ltI] at *
 simp at *
 exact Subtype.ext (by omega)
theorem geI : (fun x y : SmallI => !ltOf cfI y x) = fun x y => decide (y.1 ≤ x.1) := by
 funext x y
 rw [ltI]
 by_cases h : y.1 ≤ x.1
 · have h' : ¬ x.1 < y.1 := by omega
   simp [h, h']
 · have h' : x.1 < y.1 := by omega
   simp [h, h']
theorem ranking_cmp (x y : SmallI) (W : World) : Calls Try.prog 82 #[encI x, encI y] W fun e w' => e = .returned (.int .i64 (cfI x y)) ∧ ∃ q, w' = W.drewN q := by
 obtain ⟨x, hx0, hx1⟩ := x
 obtain ⟨y, hy0, hy1⟩ := y
 unfold encI cfI
 go_enter Try.func82, Try.ntmps82
 go_wp2
 go_ret
 exact ⟨rfl, 0, rfl⟩
theorem attach_enc (l : List Int) (h : ∀ x ∈ l, 0 ≤ x ∧ x ≤ 1000000) : (l.attachWith (fun x => 0 ≤ x ∧ x ≤ 1000000) h).map encI = encs (Value.int .i64) l := by
 unfold encs
 rw [show encI = (Value.int .i64) ∘ Subtype.val from rfl, ← List.map_map, List.attachWith_map_subtype_val]
theorem descL_attach (l : List Int) (h : ∀ x ∈ l, 0 ≤ x ∧ x ≤ 1000000) : ((l.attachWith (fun x => 0 ≤ x ∧ x ≤ 1000000) h).mergeSort fun x y => decide (y.1 ≤ x.1)).map encI = encs (Value.int .i64) (descL l) := by
 have h1 : ((l.attachWith (fun x => 0 ≤ x ∧ x ≤ 1000000) h).mergeSort fun x y => decide (y.1 ≤ x.1)).map Subtype.val = descL l := by
  unfold descL
  rw [List.map_mergeSort (s := fun x y => decide (y ≤ x)) (fun a _ b _ => rfl), List.attachWith_map_subtype_val]
 unfold encs
 rw [← h1, List.map_map]
 rfl
theorem impl_ranking.calls (A0 : Option Addr) (c0 : Nat) (l0 : List Int) (r : List Int) (w : World) (hr0 : Kd.C (Kd.int .i64) w A0 l0.length l0) (hc0 : l0.length ≤ c0) (h : impl_ranking.f l0 = some r) :
 Calls Try.prog 59 #[.slice A0 l0.length c0] w fun e w' => ∃ v0_ : Value, e = .returned (v0_) ∧ Kd.R (Kd.int .i64) 3 w' w.heap.size (fun _ => True) v0_ r ∧ Below w.heap.size w w' := by
 have hl : smallL l0 = true ∧ descL l0 = r := by
  unfold impl_ranking.f at h
  by_cases c : smallL l0 = true
  · rw [if_pos c] at h
    exact ⟨c, zbf h⟩
  · rw [if_neg c] at h
    cases h
 clear h; obtain ⟨hs, rfl⟩ := hl
 unfold smallL at hs
 simp only [Bool.and_eq_true, decide_eq_true_eq, List.all_eq_true] at hs
 obtain ⟨hl, hall⟩ := hs
 have HCl := zad (slices_Clone_int_int.calls A0 c0 l0 l0 w hr0 hc0 (by unfold slices_Clone_int_int.f; rw [if_pos (by omega)]))
 have Hall := zad hall; have Hl := zad hl; clear hall hl hr0 hc0; have eg : ∀ args w, (callFunc 82 args).run Try.prog w = .ok (.enter 82 args) w := enters_of Try.func82 (by kernel_rfl) rfl
 have Heg := zad eg; clear eg; go_enter Try.func59, Try.ntmps59
 go_wp2_with fail
 refine HCl.out.mono ?_
 rintro e w1 ⟨v, rfl, hR, hb⟩
 have ho := Kd.own_of_R hR
 clear hR HCl; have Hb := zad hb; clear hb; obtain ⟨hlen', hcase⟩ := ho
 rcases hcase with ⟨rfl, h0⟩ | ⟨g, cap, cur, rfl, hg, hh, hnc, hcm, hcs, htake⟩
 · have hnil : l0 = [] := List.length_eq_zero_iff.1 h0
   subst hnil; clear h0 hlen' Hall Hl
   have hS := AnyF.slices_SortFunc_none (P := Try.prog) (ρ := Try.sortL_ren) { Try.sortL with } none 0 (.func (.func 82) #[] #[]) w1
   change Calls Try.prog 81 _ _ _ at hS
   have HS := zad hS; clear hS; go_wp2_with fail
   refine HS.out.mono ?_
   rintro e w2 ⟨rfl, rfl⟩
   go_wp2
   go_ret
   exact ⟨_, rfl, by unfold descL; simp only [List.mergeSort]; exact Kd.R_nil _ _ _ _ _, Hb.out⟩
 · have hd : (l0.attachWith (fun x => 0 ≤ x ∧ x ≤ 1000000) Hall.out).toArray.size = l0.length := by simp
   have hH := holds_own encI (l0.attachWith (fun x => 0 ≤ x ∧ x ≤ 1000000) Hall.out).toArray hh hnc hcs hd (by
    rw [htake, List.toList_toArray, attach_enc])
   have hS := Any.slices_SortFunc_total Try.sortL encI (fun _ => rfl) cfI swoI 82 #[] g 0 cap (l0.attachWith (fun x => 0 ≤ x ∧ x ≤ 1000000) Hall.out).toArray w1 Heg.out
    (CmpReads.lays (fun _ _ _ _ x y => ranking_cmp x y _)) hH (Array.getElem?_eq_some_iff.1 hh).1 (by have := Hl.out; rw [hd]; omega) totI
   rw [geI, hd] at hS
   change Calls Try.prog 81 _ _ _ at hS
   have HS := zad hS
   have HF : Aside0 (∀ m os, Kd.R (Kd.int .i64) 3 (sortWorld encI w1 g 0 m ((l0.attachWith (fun x => 0 ≤ x ∧ x ≤ 1000000) Hall.out).mergeSort fun x y => decide (y.1 ≤ x.1)).toArray os) w.heap.size (fun _ => True) (.slice (some ⟨g, 0, none⟩) l0.length cap) (descL l0) ∧ Below w.heap.size w (sortWorld encI w1 g 0 m ((l0.attachWith (fun x => 0 ≤ x ∧ x ≤ 1000000) Hall.out).mergeSort fun x y => decide (y.1 ≤ x.1)).toArray os)) := ⟨fun m os => by
    refine ⟨?_, below_sorted encI Hb.out _ os hg⟩
    have hdl : (descL l0).length = l0.length := List.length_mergeSort l0
    have ho := own_sorted encI (m := m) ((l0.attachWith (fun x => 0 ≤ x ∧ x ≤ 1000000) Hall.out).mergeSort fun x y => decide (y.1 ≤ x.1)).toArray os hg hh hnc hcm hcs (by simp [List.length_mergeSort])
    rw [List.toList_toArray, descL_attach] at ho
    exact Kd.R_of_own (by rw [hdl]; exact ho) (fun _ _ => trivial)⟩
   clear hS hH hd hh hnc hcm hcs htake hlen' hg
   go_wp2_with fail
   refine HS.out.mono ?_
   rintro e w2 ⟨rfl, n, os, rfl⟩
   have hF := HF.out n os
   have HF2 := zad hF; clear hF; generalize sortWorld encI w1 g 0 n ((l0.attachWith (fun x => 0 ≤ x ∧ x ≤ 1000000) Hall.out).mergeSort fun x y => decide (y.1 ≤ x.1)).toArray os = w2 at HF2 ⊢
   go_wp2
   go_ret
   exact ⟨_, rfl, HF2.out.1, HF2.out.2⟩
end
def impl_RankingOf.f (k : Nat) (l0 : List Int) : Option (List Int × Bool) := (impl_IsList.f k l0).bind fun t543 => (if t543 = true then ((impl_ranking.f l0).bind fun t544 => (some (t544, true))) else (some (([] : List Int), false)))
theorem impl_RankingOf.calls (k : Nat) (A0 : Option Addr) (c0 : Nat) (l0 : List Int) (r1 : List Int) (r2 : Bool) (w : World) (hr0 : Kd.C (Kd.int .i64) w A0 l0.length l0) (hc0 : l0.length ≤ c0) (h : impl_RankingOf.f k l0 = some (r1, r2)) :
 Calls Try.prog 21 #[.slice A0 l0.length c0] w fun e w' => ∃ v0_ : Value, e = .returned (.tuple #[v0_, .bool r2]) ∧ Kd.R (Kd.int .i64) 3 w' w.heap.size (fun _ => True) v0_ r1 ∧ Below w.heap.size w w' := by
 have HR0 := zad hr0; have HC0 := zad hc0; clear hr0 hc0; have HB := zad (Below.refl w.heap.size w)
 have H : ((impl_IsList.f k l0).bind fun t543 => (if t543 = true then ((impl_ranking.f l0).bind fun t544 => (some (t544, true))) else (some (([] : List Int), false)))) = some (r1, r2) := h
 clear h; replace H := zay.mp H; obtain ⟨t543, A20, H⟩ := H
 replace H : (if t543 = true then ((impl_ranking.f l0).bind fun t544 => (some (t544, true))) else (some (([] : List Int), false))) = some (r1, r2) := H
 have A2 := zad A20; clear A20; by_cases c3 : t543 = true
 · subst c3
   have H1 : ((impl_ranking.f l0).bind fun t544 => (some (t544, true))) = some (r1, r2) := by rw [if_pos rfl] at H; exact H
   clear H; have H := H1; clear H1; replace H := zay.mp H; obtain ⟨t544, A40, H⟩ := H
   replace H : (some (t544, true)) = some (r1, r2) := H
   have A4 := zad A40; clear A40; simp only [zbm, zbq] at H
   obtain ⟨rfl, rfl⟩ := H
   go_enter Try.func21, Try.ntmps21
   go_wp2_with (first | ((with_reducible refine zbi (f := 38) rfl ?_); refine zbo (some 5) rfl rfl Try.func38 (by kernel_rfl) rfl #[.slice A0 l0.length c0] rfl (taae) ?_; (with_reducible refine (impl_IsList.calls k _ _ l0 true _ ?side1 ?side2 A2.out).mono ?_); (case side1 => repeat (first | exact HR0.out | (with_reducible refine zal ?_ _) | (with_reducible refine zam ?_ _) | (with_reducible refine zan ?_))); (case side2 => exact HC0.out); rintro e w' ⟨rfl, ⟨nd, rfl⟩⟩; refine ⟨_, rfl, ?_⟩) | ((with_reducible refine zbi (f := 59) rfl ?_); refine zbo (some 8) rfl rfl Try.func59 (by kernel_rfl) rfl #[.slice A0 l0.length c0] rfl (taae) ?_; (with_reducible refine (impl_ranking.calls _ _ l0 t544 _ ?side1 ?side2 A4.out).mono ?_); (case side1 => repeat (first | exact HR0.out | (with_reducible refine zal ?_ _) | (with_reducible refine zam ?_ _) | (with_reducible refine zan ?_))); (case side2 => exact HC0.out); rintro e w5 ⟨v545, rfl, ho0, hb⟩; refine ⟨_, rfl, ?_⟩; have n0_ := zad (zbu ho0 (zbl (taaa))); have n1_ := zad (zbh (taaa) hb); clear HB; have HO546 := n0_; have HB := n1_; clear n0_ n1_; (try clear hb); (try clear hb2); (try clear hk); (try clear hi); (try clear ho0)))
   go_ret2
   exact ⟨_, taaf, by (with_reducible repeat (first | apply zai | apply zaj | apply zak)); exact HO546.out, taaa⟩
 · replace c3 := zbj.mpr c3
   subst c3; have H1 : (some (([] : List Int), false)) = some (r1, r2) := by rw [if_neg (show ¬ (false = true) by decide)] at H; exact H
   clear H; have H := H1; clear H1; simp only [zbm, zbq] at H
   obtain ⟨rfl, rfl⟩ := H
   go_enter Try.func21, Try.ntmps21
   go_wp2_with (first | ((with_reducible refine zbi (f := 38) rfl ?_); refine zbo (some 5) rfl rfl Try.func38 (by kernel_rfl) rfl #[.slice A0 l0.length c0] rfl (taae) ?_; (with_reducible refine (impl_IsList.calls k _ _ l0 false _ ?side1 ?side2 A2.out).mono ?_); (case side1 => exact tafn); (case side2 => exact HC0.out); rintro e w' ⟨rfl, ⟨nd, rfl⟩⟩; refine ⟨_, rfl, ?_⟩))
   go_ret2
   exact ⟨_, taaf, tabu, taaa⟩
def impl_total.l0 : Nat → Int → List Int → Int → Int → Option (Int)
 | 0, _, _, _, _ => none
 | k + 1, x3, x6, x7, x8 => if x8 < x7 then (if 0 ≤ x8 then (if x8 < (x6.length : Int) then (impl_total.l0 k (wrap64 (x3 + (rd x6 x8))) x6 x7 (wrap64 (x8 + 1))) else (none)) else (none)) else (some x3)
def impl_total.f (k : Nat) (l0 : List Int) : Option (Int) := impl_total.l0 k 0 l0 (l0.length : Int) 0
theorem impl_total.calls (k : Nat) (A0 : Option Addr) (c0 : Nat) (l0 : List Int) (r : Int) (w : World) (hr0 : Kd.C (Kd.int .i64) w A0 l0.length l0) (hc0 : l0.length ≤ c0) (h : impl_total.f k l0 = some r) :
 Calls Try.prog 39 #[.slice A0 l0.length c0] w fun e w' => e = .returned (.int .i64 r) ∧ Drawn0 w w' := by
 have HR0 := zad hr0; have HC0 := zad hc0; clear hr0 hc0; have H : (impl_total.l0 k 0 l0 (l0.length : Int) 0) = some r := h
 clear h; have H' := zad H
 clear H; go_enter Try.func39, Try.ntmps39
 go_wp2
 go_loopg [3, 8] k (fun kq v3 v8 w' => ∃ (x3_1 : Int) (x8_1 : Int), v3 = .int .i64 x3_1 ∧ v8 = .int .i64 x8_1 ∧ Aside0 (impl_total.l0 kq x3_1 l0 (l0.length : Int) x8_1 = some r) ∧ Aside0 (kq ≤ k) ∧ Drawn0 w w')
 case atStart => exact ⟨(0), (0), (taad), (taad), H', ⟨zcb _⟩, taag⟩
 case round =>
  clear H'
  obtain ⟨x3_1, x8_1, rfl, rfl, HA, HK1, ⟨m1, rfl⟩⟩ := hrel
  cases gk with
  | zero => exact absurd HA.out (by simp [impl_total.l0])
  | succ k1 =>
   have H := HA.out
   clear HA; simp only [impl_total.l0] at H
   by_cases c2 : x8_1 < (l0.length : Int)
   · rw [if_pos c2] at H
     have c2b0 : decide (x8_1 < (l0.length : Int)) = true := zba c2
     clear c2; by_cases c3 : 0 ≤ x8_1
     · rw [if_pos c3] at H
       have c3b0 : decide (0 ≤ x8_1) = true := zba c3
       clear c3; by_cases c4 : x8_1 < (l0.length : Int)
       · rw [if_pos c4] at H
         have c4b0 : decide (x8_1 < (l0.length : Int)) = true := zba c4
         clear c4; have H' := zad H
         clear H; have p254 : 0 ≤ (x8_1 : Int) := zas (taab)
         have q254 : x8_1 < (l0.length : Int) := zas (taab)
         obtain ⟨ad254, e254, hx254_0⟩ := zbw HR0.out x8_1 p254 q254
         cases e254
         replace p254 := eq_true p254
         replace q254 := eq_true q254
         go_wp2
         go_roundg k1
         case measure => have := HK1.out; omega
         case rel => exact ⟨(wrap64 (x3_1 + (rd l0 x8_1))), (wrap64 (x8_1 + 1)), (taad), (taad), H', ⟨taat⟩, taag⟩
       · rw [if_neg c4] at H
         exact absurd H (taac)
     · rw [if_neg c3] at H
       exact absurd H (taac)
   · rw [if_neg c2] at H
     have c2b0 : decide (x8_1 < (l0.length : Int)) = false := zbk c2
     clear c2; obtain rfl := zbf H
     go_wp2
     go_ret
     exact ⟨taad, taag⟩
def impl_doFit.f (k : Nat) (l0 : List Int) (l1 : List Int) : Option (Bool) := if (l0.length : Int) = (l1.length : Int) then ((impl_total.f k l0).bind fun t426 => ((impl_total.f k l1).bind fun t427 => (some (t426 == t427)))) else (some false)
theorem impl_doFit.calls (k : Nat) (A0 : Option Addr) (c0 : Nat) (l0 : List Int) (A1 : Option Addr) (c1 : Nat) (l1 : List Int) (r : Bool) (w : World) (hr0 : Kd.C (Kd.int .i64) w A0 l0.length l0) (hc0 : l0.length ≤ c0) (hr1 : Kd.C (Kd.int .i64) w A1 l1.length l1) (hc1 : l1.length ≤ c1) (h : impl_doFit.f k l0 l1 = some r) :
 Calls Try.prog 50 #[.slice A0 l0.length c0, .slice A1 l1.length c1] w fun e w' => e = .returned (.bool r) ∧ Drawn0 w w' := by
 have HR0 := zad hr0; have HC0 := zad hc0; clear hr0 hc0; have HR1 := zad hr1; have HC1 := zad hc1; clear hr1 hc1; have H : (if (l0.length : Int) = (l1.length : Int) then ((impl_total.f k l0).bind fun t426 => ((impl_total.f k l1).bind fun t427 => (some (t426 == t427)))) else (some false)) = some r := h
 clear h; by_cases c3 : (l0.length : Int) = (l1.length : Int)
 · rw [if_pos c3] at H
   have c3b0 : ((l0.length : Int) == (l1.length : Int)) = true := beq_iff_eq.mpr c3
   have c3b1 : ((l0.length : Int) != (l1.length : Int)) = false := bne_eq_false_iff_eq.mpr c3
   have c3b2 : (l0.length == l1.length) = true := by first | simpa using c3 | (simp at c3 ⊢; omega)
   clear c3; replace H := zay.mp H; obtain ⟨t426, A40, H⟩ := H
   replace H : ((impl_total.f k l1).bind fun t427 => (some (t426 == t427))) = some r := H
   have A4 := zad A40; clear A40; replace H := zay.mp H; obtain ⟨t427, A50, H⟩ := H
   replace H : (some (t426 == t427)) = some r := H
   have A5 := zad A50; clear A50; obtain rfl := zbf H
   go_enter Try.func50, Try.ntmps50
   go_wp2_with (first | (go_at_call 39; (with_reducible refine (impl_total.calls k _ _ l0 t426 _ ?side1 ?side2 A4.out).mono ?_); (case side1 => repeat (first | exact HR0.out | (with_reducible refine zal ?_ _) | (with_reducible refine zam ?_ _) | (with_reducible refine zan ?_))); (case side2 => exact HC0.out); rintro e w' ⟨rfl, ⟨nd, rfl⟩⟩) | (go_at_call 39; (with_reducible refine (impl_total.calls k _ _ l1 t427 _ ?side1 ?side2 A5.out).mono ?_); (case side1 => repeat (first | exact HR1.out | (with_reducible refine zal ?_ _) | (with_reducible refine zam ?_ _) | (with_reducible refine zan ?_))); (case side2 => exact HC1.out); rintro e w' ⟨rfl, ⟨nd, rfl⟩⟩))
   go_ret
   exact ⟨taad, taag⟩
 · rw [if_neg c3] at H
   have c3b0 : ((l0.length : Int) == (l1.length : Int)) = false := zbp.mpr c3
   have c3b1 : ((l0.length : Int) != (l1.length : Int)) = true := bne_iff_ne.mpr c3
   have c3b2 : (l0.length == l1.length) = false := by first | simpa using c3 | (simp at c3 ⊢; omega)
   obtain rfl := zbf H
   go_enter Try.func50, Try.ntmps50
   go_wp2
   go_ret
   exact ⟨taad, taag⟩
def impl_partial.l0 : Nat → List Int → Int → List Int → Int → Int → Option (List Int)
 | 0, _, _, _, _, _ => none
 | k + 1, x3, x4, x9, x10, x11 => if x11 < x10 then (if 0 ≤ x11 then (if x11 < (x9.length : Int) then (if x3.length < 17592186044416 then (impl_partial.l0 k (x3 ++ [wrap64 (x4 + (rd x9 x11))]) (wrap64 (x4 + (rd x9 x11))) x9 x10 (wrap64 (x11 + 1))) else (none)) else (none)) else (none)) else (some x3)
def impl_partial.f (k : Nat) (l0 : List Int) : Option (List Int) := (impl_ranking.f l0).bind fun t441 => (impl_partial.l0 k (([] : List Int)) 0 t441 (t441.length : Int) 0)
theorem impl_partial.calls (k : Nat) (A0 : Option Addr) (c0 : Nat) (l0 : List Int) (r : List Int) (w : World) (hr0 : Kd.C (Kd.int .i64) w A0 l0.length l0) (hc0 : l0.length ≤ c0) (h : impl_partial.f k l0 = some r) :
 Calls Try.prog 78 #[.slice A0 l0.length c0] w fun e w' => ∃ v0_ : Value, e = .returned (v0_) ∧ Kd.R (Kd.int .i64) 3 w' w.heap.size (fun _ => True) v0_ r ∧ Below w.heap.size w w' := by
 have HR0 := zad hr0; have HC0 := zad hc0; clear hr0 hc0; have HB := zad (Below.refl w.heap.size w)
 have H : ((impl_ranking.f l0).bind fun t441 => (impl_partial.l0 k (([] : List Int)) 0 t441 (t441.length : Int) 0)) = some r := h
 clear h; obtain ⟨y438, hy438⟩ : ∃ y_ : List Int, y_ = (([] : List Int)) := ⟨_, rfl⟩
 replace H : ((impl_ranking.f l0).bind fun t441 => (impl_partial.l0 k y438 0 t441 (t441.length : Int) 0)) = some r := by first | (rw [hy438]; with_reducible exact H) | (have H2_ := (zbe _ _).symm.trans H; rw [hy438]; with_reducible exact H2_) | (have H2_ := (zbe _ _).symm.trans H; with_reducible exact H2_) | with_reducible exact H | (rw [hy438]; exact H) | exact H
 have Ny438 := zad hy438; clear hy438; replace H := zay.mp H; obtain ⟨t441, A20, H⟩ := H
 replace H : (impl_partial.l0 k y438 0 t441 (t441.length : Int) 0) = some r := H
 have A2 := zad A20; clear A20; have H' := zad H
 clear H; go_enter Try.func78, Try.ntmps78
 go_wp2_with (first | ((with_reducible refine gate_dst (N := 7) rfl ?_); refine Kd.R_lit (Kd.int .i64) _ 3 ?hg (N := 7) ?hd (xs := ([] : List Int)) (inner := []) (ok := fun _ => True) (okp := fun _ => True) ?hr ?hp (fun _ hk => hk) trivial (Below.refl _ _) (zcb _) (taac) ?_; (case hd => rfl); (case hg => rfl); (case hr => first | (go_simp; done) | (go_simp; rfl)); (case hp => exact (Reps.none _ _)); intro v439 w3 ho4 hb hg_ hnew_; clear hg_ hnew_; (first | rw [← Ny438.out] at ho4 | (simp only [Int.reduceToNat] at ho4; rw [← Ny438.out] at ho4)); have n0_ := zad (zbu ho4 (zbl (taaa))); have n1_ := zad (zbh (taaa) hb); clear HB; have HO440 := n0_; have HB := n1_; clear n0_ n1_ hb ho4) | ((with_reducible refine zbi (f := 59) rfl ?_); refine zbo (some 9) rfl rfl Try.func59 (by kernel_rfl) rfl #[.slice A0 l0.length c0] rfl (taae) ?_; (with_reducible refine (impl_ranking.calls _ _ l0 t441 _ ?side1 ?side2 A2.out).mono ?_); (case side1 => exact tafr); (case side2 => exact HC0.out); rintro e w5 ⟨v442, rfl, ho0, hb⟩; refine ⟨_, rfl, ?_⟩; have n0_ := zad (zbx (tadm) (zbz ho0) hb); have n1_ := zad (zbu (zby ho0 (zca (tadm))) (zbl (taaa))); have n2_ := zad (zbh (taaa) hb); clear HO440 HB; have HO440 := n0_; have HO443 := n1_; have HB := n2_; clear n0_ n1_ n2_; (try clear hb); (try clear hb2); (try clear hk); (try clear hi); (try clear ho0); obtain ⟨Ao6, co6, eo6⟩ := zbv HO443.out; subst eo6))
 go_loopg [3, 4, 11] k (fun kq v3 v4 v11 w' => ∃ (x3_1 : List Int) (x4_1 : Int) (x11_1 : Int), v4 = .int .i64 x4_1 ∧ v11 = .int .i64 x11_1 ∧ Aside0 (impl_partial.l0 kq x3_1 x4_1 t441 (t441.length : Int) x11_1 = some r) ∧ Aside0 (kq ≤ k) ∧ Aside0 (Kd.R (Kd.int .i64) 3 w' w.heap.size (fun k_ => some k_ ≠ ((.slice Ao6 t441.length co6) : Value).ownBlock) v3 x3_1) ∧ Aside0 (Kd.R (Kd.int .i64) 3 w' w.heap.size (fun k_ => some k_ ≠ (v3 : Value).ownBlock) (.slice Ao6 t441.length co6) t441) ∧ Aside0 (Below w.heap.size w w'))
 case atStart => exact ⟨(y438), (0), (0), (taad), (taad), H', ⟨zcb _⟩, ⟨by (with_reducible repeat (first | apply zai | apply zaj | apply zak)); exact zbr HO440.out (fun _ hk => hk.2)⟩, ⟨by (with_reducible repeat (first | apply zai | apply zaj | apply zak)); exact zbr HO443.out (fun _ hk => hk.2)⟩, ⟨taaa⟩⟩
 case round =>
  clear H'
  try clear p2
  try clear c5
  obtain ⟨x3_1, x4_1, x11_1, rfl, rfl, HA, HK1, HO_3, HO_9, HB⟩ := hrel
  cases gk with
  | zero => exact absurd HA.out (by simp [impl_partial.l0])
  | succ k1 =>
   have H := HA.out
   clear HA; simp only [impl_partial.l0] at H
   by_cases c7 : x11_1 < (t441.length : Int)
   · rw [if_pos c7] at H
     have c7b0 : decide (x11_1 < (t441.length : Int)) = true := zba c7
     clear c7; by_cases c8 : 0 ≤ x11_1
     · rw [if_pos c8] at H
       have c8b0 : decide (0 ≤ x11_1) = true := zba c8
       clear c8; by_cases c9 : x11_1 < (t441.length : Int)
       · rw [if_pos c9] at H
         have c9b0 : decide (x11_1 < (t441.length : Int)) = true := zba c9
         clear c9; by_cases c10 : x3_1.length < 17592186044416
         · rw [if_pos c10] at H
           have LMc10 := zad c10; clear c10; obtain ⟨y445, hy445⟩ : ∃ y_ : List Int, y_ = (x3_1 ++ [wrap64 (x4_1 + (rd t441 x11_1))]) := ⟨_, rfl⟩
           replace H : (impl_partial.l0 k1 y445 (wrap64 (x4_1 + (rd t441 x11_1))) t441 (t441.length : Int) (wrap64 (x11_1 + 1))) = some r := by first | (rw [hy445]; with_reducible exact H) | (have H2_ := (zbe _ _).symm.trans H; rw [hy445]; with_reducible exact H2_) | (have H2_ := (zbe _ _).symm.trans H; with_reducible exact H2_) | with_reducible exact H | (rw [hy445]; exact H) | exact H
           have Ny445 := zad hy445; clear hy445; have H' := zad H
           clear H; have p444 : 0 ≤ (x11_1 : Int) := zas (taab)
           have q444 : x11_1 < (t441.length : Int) := zas (taab)
           obtain ⟨ad444, e444, hx444_0⟩ := zbw (zbg HO_9.out).2.2 x11_1 p444 q444
           cases e444
           replace p444 := eq_true p444
           replace q444 := eq_true q444
           go_wp2_with (first | ((with_reducible refine gate_builtin (b := .append) (xs := #[.tmp 18, .tmp 20]) rfl ?_); at_builtin; refine Kd.R_append (Kd.int .i64) (w0 := w) w.heap.size rfl (.tmp 18) (.tmp 20) 22 3 (.int .i64 0) 8 rfl Try.underlying22 info3 rfl (by decide) (by omega) u3 x3_1 (wrap64 (x4_1 + (rd t441 x11_1))) [.int .i64 (wrap64 (x4_1 + (rd t441 x11_1)))] (fun k_ => some k_ ≠ (.slice (some ad444) t441.length co6 : Value).ownBlock) (fun _ => False) rfl rfl ?aP (fun _ hk => hk.elim) ?aF ?aO ?aB ?aS ?aL ?_; (case aP => exact rfl); (case aB => exact (taaa)); (case aF => exact (fun k_ hk => Kd.fresh' (zca (by (with_reducible repeat (first | apply zai | apply zaj | apply zak)); exact HO_9.out)) k_ hk)); (case aO => exact (taak)); (case aS => exact (zbl (taaa))); (case aL => have := LMc10.out; omega); intro v446 w11 ho hb hg hat; rw [← Ny445.out] at ho; have n0_ := zad (Kd.R_after (ok := (fun _ => True)) (by (with_reducible repeat (first | apply zai | apply zaj | apply zak)); exact zbr HO_9.out (fun _ hk => ⟨trivial, hk⟩)) hg hat); have n1_ := zad (hb); have n2_ := zad (ho); clear HO_9 HB HO_3; have HO_9 := n0_; have HB := n1_; have HO447 := n2_; clear n0_ n1_ n2_ ho hb hg hat))
           go_roundg k1
           case measure => have := HK1.out; omega
           case rel => exact ⟨(y445), (wrap64 (x4_1 + (rd t441 x11_1))), (wrap64 (x11_1 + 1)), (taad), (taad), H', ⟨taat⟩, ⟨by (with_reducible repeat (first | apply zai | apply zaj | apply zak)); exact HO447.out⟩, ⟨by (with_reducible repeat (first | apply zai | apply zaj | apply zak)); exact zbr HO_9.out (fun _ hk => hk.2)⟩, ⟨taaa⟩⟩
         · rw [if_neg c10] at H
           exact absurd H (taac)
       · rw [if_neg c9] at H
         exact absurd H (taac)
     · rw [if_neg c8] at H
       exact absurd H (taac)
   · rw [if_neg c7] at H
     have c7b0 : decide (x11_1 < (t441.length : Int)) = false := zbk c7
     clear c7; obtain rfl := zbf H
     go_wp2
     go_ret
     exact ⟨_, taaf, by (with_reducible repeat (first | apply zai | apply zaj | apply zak)); exact zbr HO_3.out (fun _ hk => trivial), taaa⟩
def impl_refused.l0 : Nat → List Int → List Int → Int → Int → Option (Int)
 | 0, _, _, _, _ => none
 | k + 1, x5, x11, x12, x13 => if x13 < x12 then (if 0 ≤ x13 then (if x13 < (x11.length : Int) then (if x13 < (x5.length : Int) then (if (rd x11 x13) > (rd x5 x13) then (some (wrap64 (x13 + 1))) else (impl_refused.l0 k x5 x11 x12 (wrap64 (x13 + 1)))) else (none)) else (none)) else (none)) else (some 0)
def impl_refused.f (k : Nat) (l0 : List Int) (l1 : List Int) : Option (Int) := (impl_partial.f k l1).bind fun t547 => ((impl_partial.f k l0).bind fun t550 => (impl_refused.l0 k t547 t550 (t550.length : Int) 0))
theorem impl_refused.calls (k : Nat) (A0 : Option Addr) (c0 : Nat) (l0 : List Int) (A1 : Option Addr) (c1 : Nat) (l1 : List Int) (r : Int) (w : World) (hr0 : Kd.C (Kd.int .i64) w A0 l0.length l0) (hc0 : l0.length ≤ c0) (hr1 : Kd.C (Kd.int .i64) w A1 l1.length l1) (hc1 : l1.length ≤ c1) (h : impl_refused.f k l0 l1 = some r) :
 Calls Try.prog 76 #[.slice A0 l0.length c0, .slice A1 l1.length c1] w fun e w' => e = .returned (.int .i64 r) ∧ Below w.heap.size w w' := by
 have HR0 := zad hr0; have HC0 := zad hc0; clear hr0 hc0; have HR1 := zad hr1; have HC1 := zad hc1; clear hr1 hc1; have HB := zad (Below.refl w.heap.size w)
 have H : ((impl_partial.f k l1).bind fun t547 => ((impl_partial.f k l0).bind fun t550 => (impl_refused.l0 k t547 t550 (t550.length : Int) 0))) = some r := h
 clear h; replace H := zay.mp H; obtain ⟨t547, A30, H⟩ := H
 replace H : ((impl_partial.f k l0).bind fun t550 => (impl_refused.l0 k t547 t550 (t550.length : Int) 0)) = some r := H
 have A3 := zad A30; clear A30; replace H := zay.mp H; obtain ⟨t550, A40, H⟩ := H
 replace H : (impl_refused.l0 k t547 t550 (t550.length : Int) 0) = some r := H
 have A4 := zad A40; clear A40; have H' := zad H
 clear H; go_enter Try.func76, Try.ntmps76
 go_wp2_with (first | ((with_reducible refine zbi (f := 78) rfl ?_); refine zbo (some 9) rfl rfl Try.func78 (by kernel_rfl) rfl #[.slice A1 l1.length c1] rfl (taae) ?_; (with_reducible refine (impl_partial.calls k _ _ l1 t547 _ ?side1 ?side2 A3.out).mono ?_); (case side1 => repeat (first | exact HR1.out | (with_reducible refine zal ?_ _) | (with_reducible refine zam ?_ _) | (with_reducible refine zan ?_))); (case side2 => exact HC1.out); rintro e w5 ⟨v548, rfl, ho0, hb⟩; refine ⟨_, rfl, ?_⟩; have n0_ := zad (zbu ho0 (zbl (taaa))); have n1_ := zad (zbh (taaa) hb); clear HB; have HO549 := n0_; have HB := n1_; clear n0_ n1_; (try clear hb); (try clear hb2); (try clear hk); (try clear hi); (try clear ho0)) | ((with_reducible refine zbi (f := 78) rfl ?_); refine zbo (some 11) rfl rfl Try.func78 (by kernel_rfl) rfl #[.slice A0 l0.length c0] rfl (taae) ?_; (with_reducible refine (impl_partial.calls k _ _ l0 t550 _ ?side1 ?side2 A4.out).mono ?_); (case side1 => repeat (first | exact (Kd.C_below HR0.out HB.out) | (with_reducible refine zal ?_ _) | (with_reducible refine zam ?_ _) | (with_reducible refine zan ?_))); (case side2 => exact HC0.out); rintro e w6 ⟨v551, rfl, ho0, hb⟩; refine ⟨_, rfl, ?_⟩; have n0_ := zad (zbx (tadn) (zbz ho0) hb); have n1_ := zad (zbu (zby ho0 (zca (tadn))) (zbl (taaa))); have n2_ := zad (zbh (taaa) hb); clear HO549 HB; have HO549 := n0_; have HO552 := n1_; have HB := n2_; clear n0_ n1_ n2_; (try clear hb); (try clear hb2); (try clear hk); (try clear hi); (try clear ho0); obtain ⟨Ao7, co7, eo7⟩ := zbv HO552.out; subst eo7))
 go_loopg [13] k (fun kq v13 w' => ∃ (x13_1 : Int), v13 = .int .i64 x13_1 ∧ Aside0 (impl_refused.l0 kq t547 t550 (t550.length : Int) x13_1 = some r) ∧ Aside0 (kq ≤ k) ∧ Aside0 (Kd.R (Kd.int .i64) 3 w' w.heap.size (fun k_ => some k_ ≠ ((.slice Ao7 t550.length co7) : Value).ownBlock) v548 t547) ∧ Aside0 (Kd.R (Kd.int .i64) 3 w' w.heap.size (fun k_ => some k_ ≠ (v548 : Value).ownBlock) (.slice Ao7 t550.length co7) t550) ∧ Aside0 (Below w.heap.size w w'))
 case atStart => exact ⟨(0), (taad), H', ⟨zcb _⟩, ⟨by (with_reducible repeat (first | apply zai | apply zaj | apply zak)); exact zbr HO549.out (fun _ hk => hk.2)⟩, ⟨by (with_reducible repeat (first | apply zai | apply zaj | apply zak)); exact zbr HO552.out (fun _ hk => hk.2)⟩, ⟨taaa⟩⟩
 case round =>
  clear H'
  try clear c1
  try clear p2
  try clear c7
  obtain ⟨x13_1, rfl, HA, HK1, HO_5, HO_11, HB⟩ := hrel
  cases gk with
  | zero => exact absurd HA.out (by simp [impl_refused.l0])
  | succ k1 =>
   have H := HA.out
   clear HA; simp only [impl_refused.l0] at H
   by_cases c8 : x13_1 < (t550.length : Int)
   · rw [if_pos c8] at H
     have c8b0 : decide (x13_1 < (t550.length : Int)) = true := zba c8
     clear c8; by_cases c9 : 0 ≤ x13_1
     · rw [if_pos c9] at H
       have c9b0 : decide (0 ≤ x13_1) = true := zba c9
       clear c9; by_cases c10 : x13_1 < (t550.length : Int)
       · rw [if_pos c10] at H
         have c10b0 : decide (x13_1 < (t550.length : Int)) = true := zba c10
         clear c10; by_cases c11 : x13_1 < (t547.length : Int)
         · rw [if_pos c11] at H
           have c11b0 : decide (x13_1 < (t547.length : Int)) = true := zba c11
           clear c11; by_cases c12 : (rd t550 x13_1) > (rd t547 x13_1)
           · rw [if_pos c12] at H
             have c12b0 : decide ((rd t547 x13_1) < (rd t550 x13_1)) = true := zba c12
             clear c12; obtain rfl := zbf H
             have p553 : 0 ≤ (x13_1 : Int) := zas (taab)
             have q553 : x13_1 < (t550.length : Int) := zas (taab)
             obtain ⟨ad553, e553, hx553_0⟩ := zbw (zbg HO_11.out).2.2 x13_1 p553 q553
             cases e553
             replace p553 := eq_true p553
             replace q553 := eq_true q553
             obtain ⟨Ao13, co13, eo13⟩ := zbv HO_5.out
             subst eo13; have p554 : 0 ≤ (x13_1 : Int) := zas (taab)
             have q554 : x13_1 < (t547.length : Int) := zas (taab)
             obtain ⟨ad554, e554, hx554_0⟩ := zbw (zbg HO_5.out).2.2 x13_1 p554 q554
             cases e554
             replace p554 := eq_true p554
             replace q554 := eq_true q554
             go_wp2
             go_ret
             exact ⟨taaf, taaa⟩
           · rw [if_neg c12] at H
             have c12b0 : decide ((rd t547 x13_1) < (rd t550 x13_1)) = false := zbk c12
             clear c12; have H' := zad H
             clear H; have p553 : 0 ≤ (x13_1 : Int) := zas (taab)
             have q553 : x13_1 < (t550.length : Int) := zas (taab)
             obtain ⟨ad553, e553, hx553_0⟩ := zbw (zbg HO_11.out).2.2 x13_1 p553 q553
             cases e553
             replace p553 := eq_true p553
             replace q553 := eq_true q553
             obtain ⟨Ao14, co14, eo14⟩ := zbv HO_5.out
             subst eo14; have p554 : 0 ≤ (x13_1 : Int) := zas (taab)
             have q554 : x13_1 < (t547.length : Int) := zas (taab)
             obtain ⟨ad554, e554, hx554_0⟩ := zbw (zbg HO_5.out).2.2 x13_1 p554 q554
             cases e554
             replace p554 := eq_true p554
             replace q554 := eq_true q554
             go_wp2
             go_roundg k1
             case measure => have := HK1.out; omega
             case rel => exact ⟨(wrap64 (x13_1 + 1)), (taad), H', ⟨taat⟩, ⟨taah⟩, ⟨by (with_reducible repeat (first | apply zai | apply zaj | apply zak)); exact HO_11.out⟩, ⟨taaa⟩⟩
         · rw [if_neg c11] at H
           exact absurd H (taac)
       · rw [if_neg c10] at H
         exact absurd H (taac)
     · rw [if_neg c9] at H
       exact absurd H (taac)
   · rw [if_neg c8] at H
     have c8b0 : decide (x13_1 < (t550.length : Int)) = false := zbk c8
     clear c8; obtain rfl := zbf H
     go_wp2
     go_ret
     exact ⟨taaf, taaa⟩
def impl_isMajorized.f (k : Nat) (l0 : List Int) (l1 : List Int) : Option (Bool) := (impl_doFit.f k l0 l1).bind fun t555 => (if t555 = true then ((impl_refused.f k l0 l1).bind fun t556 => (some (t556 == 0))) else (some false))
theorem impl_isMajorized.calls (k : Nat) (A0 : Option Addr) (c0 : Nat) (l0 : List Int) (A1 : Option Addr) (c1 : Nat) (l1 : List Int) (r : Bool) (w : World) (hr0 : Kd.C (Kd.int .i64) w A0 l0.length l0) (hc0 : l0.length ≤ c0) (hr1 : Kd.C (Kd.int .i64) w A1 l1.length l1) (hc1 : l1.length ≤ c1) (h : impl_isMajorized.f k l0 l1 = some r) :
 Calls Try.prog 43 #[.slice A0 l0.length c0, .slice A1 l1.length c1] w fun e w' => e = .returned (.bool r) ∧ Below w.heap.size w w' := by
 have HR0 := zad hr0; have HC0 := zad hc0; clear hr0 hc0; have HR1 := zad hr1; have HC1 := zad hc1; clear hr1 hc1; have HB := zad (Below.refl w.heap.size w)
 have H : ((impl_doFit.f k l0 l1).bind fun t555 => (if t555 = true then ((impl_refused.f k l0 l1).bind fun t556 => (some (t556 == 0))) else (some false))) = some r := h
 clear h; replace H := zay.mp H; obtain ⟨t555, A30, H⟩ := H
 replace H : (if t555 = true then ((impl_refused.f k l0 l1).bind fun t556 => (some (t556 == 0))) else (some false)) = some r := H
 have A3 := zad A30; clear A30; by_cases c4 : t555 = true
 · subst c4
   have H1 : ((impl_refused.f k l0 l1).bind fun t556 => (some (t556 == 0))) = some r := by rw [if_pos rfl] at H; exact H
   clear H; have H := H1; clear H1; replace H := zay.mp H; obtain ⟨t556, A50, H⟩ := H
   replace H : (some (t556 == 0)) = some r := H
   have A5 := zad A50; clear A50; obtain rfl := zbf H
   go_enter Try.func43, Try.ntmps43
   go_wp2_with (first | ((with_reducible refine zbi (f := 50) rfl ?_); refine zbo (some 7) rfl rfl Try.func50 (by kernel_rfl) rfl #[.slice A0 l0.length c0, .slice A1 l1.length c1] rfl (taae) ?_; (with_reducible refine (impl_doFit.calls k _ _ l0 _ _ l1 true _ ?side1 ?side2 ?side3 ?side4 A3.out).mono ?_); (case side1 => repeat (first | exact HR0.out | (with_reducible refine zal ?_ _) | (with_reducible refine zam ?_ _) | (with_reducible refine zan ?_))); (case side2 => exact HC0.out); (case side3 => repeat (first | exact HR1.out | (with_reducible refine zal ?_ _) | (with_reducible refine zam ?_ _) | (with_reducible refine zan ?_))); (case side4 => exact HC1.out); rintro e w' ⟨rfl, ⟨nd, rfl⟩⟩; refine ⟨_, rfl, ?_⟩) | (go_at_call 76; (with_reducible refine (impl_refused.calls k _ _ l0 _ _ l1 t556 _ ?side1 ?side2 ?side3 ?side4 A5.out).mono ?_); (case side1 => repeat (first | exact HR0.out | (with_reducible refine zal ?_ _) | (with_reducible refine zam ?_ _) | (with_reducible refine zan ?_))); (case side2 => exact HC0.out); (case side3 => repeat (first | exact HR1.out | (with_reducible refine zal ?_ _) | (with_reducible refine zam ?_ _) | (with_reducible refine zan ?_))); (case side4 => exact HC1.out); rintro e w6 ⟨rfl, hb⟩; have n0_ := zad (zbh (taaa) hb); clear HB; have HB := n0_; clear n0_; (try clear hb); (try clear hb2); (try clear hk); (try clear hi)))
   go_ret
   exact ⟨taaf, taaa⟩
 · replace c4 := zbj.mpr c4
   subst c4; have H1 : (some false) = some r := by rw [if_neg (show ¬ (false = true) by decide)] at H; exact H
   clear H; have H := H1; clear H1; obtain rfl := zbf H
   go_enter Try.func43, Try.ntmps43
   go_wp2_with (first | ((with_reducible refine zbi (f := 50) rfl ?_); refine zbo (some 7) rfl rfl Try.func50 (by kernel_rfl) rfl #[.slice A0 l0.length c0, .slice A1 l1.length c1] rfl (taae) ?_; (with_reducible refine (impl_doFit.calls k _ _ l0 _ _ l1 false _ ?side1 ?side2 ?side3 ?side4 A3.out).mono ?_); (case side1 => exact tafn); (case side2 => exact HC0.out); (case side3 => exact tafo); (case side4 => exact HC1.out); rintro e w' ⟨rfl, ⟨nd, rfl⟩⟩; refine ⟨_, rfl, ?_⟩))
   go_ret
   exact ⟨taaf, taaa⟩
def impl_areLists.f (k : Nat) (l0 : List Int) (l1 : List Int) : Option (Bool) := (impl_IsList.f k l0).bind fun t424 => (if t424 = true then ((impl_IsList.f k l1).bind fun t425 => (some t425)) else (some false))
theorem impl_areLists.calls (k : Nat) (A0 : Option Addr) (c0 : Nat) (l0 : List Int) (A1 : Option Addr) (c1 : Nat) (l1 : List Int) (r : Bool) (w : World) (hr0 : Kd.C (Kd.int .i64) w A0 l0.length l0) (hc0 : l0.length ≤ c0) (hr1 : Kd.C (Kd.int .i64) w A1 l1.length l1) (hc1 : l1.length ≤ c1) (h : impl_areLists.f k l0 l1 = some r) :
 Calls Try.prog 49 #[.slice A0 l0.length c0, .slice A1 l1.length c1] w fun e w' => e = .returned (.bool r) ∧ Drawn0 w w' := by
 have HR0 := zad hr0; have HC0 := zad hc0; clear hr0 hc0; have HR1 := zad hr1; have HC1 := zad hc1; clear hr1 hc1; have H : ((impl_IsList.f k l0).bind fun t424 => (if t424 = true then ((impl_IsList.f k l1).bind fun t425 => (some t425)) else (some false))) = some r := h
 clear h; replace H := zay.mp H; obtain ⟨t424, A30, H⟩ := H
 replace H : (if t424 = true then ((impl_IsList.f k l1).bind fun t425 => (some t425)) else (some false)) = some r := H
 have A3 := zad A30; clear A30; by_cases c4 : t424 = true
 · subst c4
   have H1 : ((impl_IsList.f k l1).bind fun t425 => (some t425)) = some r := by rw [if_pos rfl] at H; exact H
   clear H; have H := H1; clear H1; replace H := zay.mp H; obtain ⟨t425, A50, H⟩ := H
   replace H : (some t425) = some r := H
   have A5 := zad A50; clear A50; obtain rfl := zbf H
   go_enter Try.func49, Try.ntmps49
   go_wp2_with (first | ((with_reducible refine zbi (f := 38) rfl ?_); refine zbo (some 6) rfl rfl Try.func38 (by kernel_rfl) rfl #[.slice A0 l0.length c0] rfl (taae) ?_; (with_reducible refine (impl_IsList.calls k _ _ l0 true _ ?side1 ?side2 A3.out).mono ?_); (case side1 => repeat (first | exact HR0.out | (with_reducible refine zal ?_ _) | (with_reducible refine zam ?_ _) | (with_reducible refine zan ?_))); (case side2 => exact HC0.out); rintro e w' ⟨rfl, ⟨nd, rfl⟩⟩; refine ⟨_, rfl, ?_⟩) | (go_at_call 38; (with_reducible refine (impl_IsList.calls k _ _ l1 t425 _ ?side1 ?side2 A5.out).mono ?_); (case side1 => repeat (first | exact HR1.out | (with_reducible refine zal ?_ _) | (with_reducible refine zam ?_ _) | (with_reducible refine zan ?_))); (case side2 => exact HC1.out); rintro e w' ⟨rfl, ⟨nd, rfl⟩⟩))
   go_ret
   exact ⟨taad, taag⟩
 · replace c4 := zbj.mpr c4
   subst c4; have H1 : (some false) = some r := by rw [if_neg (show ¬ (false = true) by decide)] at H; exact H
   clear H; have H := H1; clear H1; obtain rfl := zbf H
   go_enter Try.func49, Try.ntmps49
   go_wp2_with (first | ((with_reducible refine zbi (f := 38) rfl ?_); refine zbo (some 6) rfl rfl Try.func38 (by kernel_rfl) rfl #[.slice A0 l0.length c0] rfl (taae) ?_; (with_reducible refine (impl_IsList.calls k _ _ l0 false _ ?side1 ?side2 A3.out).mono ?_); (case side1 => exact tafn); (case side2 => exact HC0.out); rintro e w' ⟨rfl, ⟨nd, rfl⟩⟩; refine ⟨_, rfl, ?_⟩))
   go_ret
   exact ⟨taad, taag⟩
def impl_IsMajorized.f (k : Nat) (l0 : List Int) (l1 : List Int) : Option (Bool × Bool) := (impl_areLists.f k l0 l1).bind fun t557 => (if t557 = true then ((impl_isMajorized.f k l0 l1).bind fun t558 => (some (t558, true))) else (some (false, false)))
theorem impl_IsMajorized.calls (k : Nat) (A0 : Option Addr) (c0 : Nat) (l0 : List Int) (A1 : Option Addr) (c1 : Nat) (l1 : List Int) (r1 : Bool) (r2 : Bool) (w : World) (hr0 : Kd.C (Kd.int .i64) w A0 l0.length l0) (hc0 : l0.length ≤ c0) (hr1 : Kd.C (Kd.int .i64) w A1 l1.length l1) (hc1 : l1.length ≤ c1) (h : impl_IsMajorized.f k l0 l1 = some (r1, r2)) :
 Calls Try.prog 60 #[.slice A0 l0.length c0, .slice A1 l1.length c1] w fun e w' => e = .returned (.tuple #[.bool r1, .bool r2]) ∧ Below w.heap.size w w' := by
 have HR0 := zad hr0; have HC0 := zad hc0; clear hr0 hc0; have HR1 := zad hr1; have HC1 := zad hc1; clear hr1 hc1; have HB := zad (Below.refl w.heap.size w)
 have H : ((impl_areLists.f k l0 l1).bind fun t557 => (if t557 = true then ((impl_isMajorized.f k l0 l1).bind fun t558 => (some (t558, true))) else (some (false, false)))) = some (r1, r2) := h
 clear h; replace H := zay.mp H; obtain ⟨t557, A30, H⟩ := H
 replace H : (if t557 = true then ((impl_isMajorized.f k l0 l1).bind fun t558 => (some (t558, true))) else (some (false, false))) = some (r1, r2) := H
 have A3 := zad A30; clear A30; by_cases c4 : t557 = true
 · subst c4
   have H1 : ((impl_isMajorized.f k l0 l1).bind fun t558 => (some (t558, true))) = some (r1, r2) := by rw [if_pos rfl] at H; exact H
   clear H; have H := H1; clear H1; replace H := zay.mp H; obtain ⟨t558, A50, H⟩ := H
   replace H : (some (t558, true)) = some (r1, r2) := H
   have A5 := zad A50; clear A50; simp only [zbm, zbq] at H
   obtain ⟨rfl, rfl⟩ := H
   go_enter Try.func60, Try.ntmps60
   go_wp2_with (first | ((with_reducible refine zbi (f := 49) rfl ?_); refine zbo (some 8) rfl rfl Try.func49 (by kernel_rfl) rfl #[.slice A0 l0.length c0, .slice A1 l1.length c1] rfl (taae) ?_; (with_reducible refine (impl_areLists.calls k _ _ l0 _ _ l1 true _ ?side1 ?side2 ?side3 ?side4 A3.out).mono ?_); (case side1 => repeat (first | exact HR0.out | (with_reducible refine zal ?_ _) | (with_reducible refine zam ?_ _) | (with_reducible refine zan ?_))); (case side2 => exact HC0.out); (case side3 => repeat (first | exact HR1.out | (with_reducible refine zal ?_ _) | (with_reducible refine zam ?_ _) | (with_reducible refine zan ?_))); (case side4 => exact HC1.out); rintro e w' ⟨rfl, ⟨nd, rfl⟩⟩; refine ⟨_, rfl, ?_⟩) | ((with_reducible refine zbi (f := 43) rfl ?_); refine zbo (some 12) rfl rfl Try.func43 (by kernel_rfl) rfl #[.slice A0 l0.length c0, .slice A1 l1.length c1] rfl (taae) ?_; (with_reducible refine (impl_isMajorized.calls k _ _ l0 _ _ l1 t558 _ ?side1 ?side2 ?side3 ?side4 A5.out).mono ?_); (case side1 => repeat (first | exact HR0.out | (with_reducible refine zal ?_ _) | (with_reducible refine zam ?_ _) | (with_reducible refine zan ?_))); (case side2 => exact HC0.out); (case side3 => repeat (first | exact HR1.out | (with_reducible refine zal ?_ _) | (with_reducible refine zam ?_ _) | (with_reducible refine zan ?_))); (case side4 => exact HC1.out); rintro e w6 ⟨rfl, hb⟩; refine ⟨_, rfl, ?_⟩; have n0_ := zad (zbh (taaa) hb); clear HB; have HB := n0_; clear n0_; (try clear hb); (try clear hb2); (try clear hk); (try clear hi)))
   go_ret2
   exact ⟨taaf, taaa⟩
 · replace c4 := zbj.mpr c4
   subst c4; have H1 : (some (false, false)) = some (r1, r2) := by rw [if_neg (show ¬ (false = true) by decide)] at H; exact H
   clear H; have H := H1; clear H1; simp only [zbm, zbq] at H
   obtain ⟨rfl, rfl⟩ := H
   go_enter Try.func60, Try.ntmps60
   go_wp2_with (first | ((with_reducible refine zbi (f := 49) rfl ?_); refine zbo (some 8) rfl rfl Try.func49 (by kernel_rfl) rfl #[.slice A0 l0.length c0, .slice A1 l1.length c1] rfl (taae) ?_; (with_reducible refine (impl_areLists.calls k _ _ l0 _ _ l1 false _ ?side1 ?side2 ?side3 ?side4 A3.out).mono ?_); (case side1 => exact tafn); (case side2 => exact HC0.out); (case side3 => exact tafo); (case side4 => exact HC1.out); rintro e w' ⟨rfl, ⟨nd, rfl⟩⟩; refine ⟨_, rfl, ?_⟩))
   go_ret2
   exact ⟨taaf, taaa⟩
def laws_pBelow.f (k : Nat) (l0 : List Int) (l1 : List Int) : Option (Bool) := (impl_IsMajorized.f k l0 l1).bind fun bt559 => (if bt559.2 = true then (some bt559.1) else (some false))
theorem laws_pBelow.calls (k : Nat) (A0 : Option Addr) (c0 : Nat) (l0 : List Int) (A1 : Option Addr) (c1 : Nat) (l1 : List Int) (r : Bool) (w : World) (hr0 : Kd.C (Kd.int .i64) w A0 l0.length l0) (hc0 : l0.length ≤ c0) (hr1 : Kd.C (Kd.int .i64) w A1 l1.length l1) (hc1 : l1.length ≤ c1) (h : laws_pBelow.f k l0 l1 = some r) :
 Calls Try.prog 22 #[.slice A0 l0.length c0, .slice A1 l1.length c1] w fun e w' => e = .returned (.bool r) ∧ Below w.heap.size w w' := by
 have HR0 := zad hr0; have HC0 := zad hc0; clear hr0 hc0; have HR1 := zad hr1; have HC1 := zad hc1; clear hr1 hc1; have HB := zad (Below.refl w.heap.size w)
 have H : ((impl_IsMajorized.f k l0 l1).bind fun bt559 => (if bt559.2 = true then (some bt559.1) else (some false))) = some r := h
 clear h; replace H := zay.mp H; obtain ⟨⟨t559, t560⟩, A30, H⟩ := H
 replace H : (if t560 = true then (some t559) else (some false)) = some r := H
 have A3 := zad A30; clear A30; by_cases c4 : t560 = true
 · subst c4
   have H1 : (some t559) = some r := by rw [if_pos rfl] at H; exact H
   clear H; have H := H1; clear H1; obtain rfl := zbf H
   go_enter Try.func22, Try.ntmps22
   go_wp2_with (first | ((with_reducible refine zbi (f := 60) rfl ?_); refine zbo (some 10) rfl rfl Try.func60 (by kernel_rfl) rfl #[.slice A0 l0.length c0, .slice A1 l1.length c1] rfl (taae) ?_; (with_reducible refine (impl_IsMajorized.calls k _ _ l0 _ _ l1 t559 true _ ?side1 ?side2 ?side3 ?side4 A3.out).mono ?_); (case side1 => exact tafn); (case side2 => exact HC0.out); (case side3 => exact tafo); (case side4 => exact HC1.out); rintro e w5 ⟨rfl, hb⟩; refine ⟨_, rfl, ?_⟩; have n0_ := zad (zbh (taaa) hb); clear HB; have HB := n0_; clear n0_; (try clear hb); (try clear hb2); (try clear hk); (try clear hi)))
   go_ret
   exact ⟨taaf, taaa⟩
 · replace c4 := zbj.mpr c4
   subst c4; have H1 : (some false) = some r := by rw [if_neg (show ¬ (false = true) by decide)] at H; exact H
   clear H; have H := H1; clear H1; obtain rfl := zbf H
   go_enter Try.func22, Try.ntmps22
   go_wp2_with (first | ((with_reducible refine zbi (f := 60) rfl ?_); refine zbo (some 10) rfl rfl Try.func60 (by kernel_rfl) rfl #[.slice A0 l0.length c0, .slice A1 l1.length c1] rfl (taae) ?_; (with_reducible refine (impl_IsMajorized.calls k _ _ l0 _ _ l1 t559 false _ ?side1 ?side2 ?side3 ?side4 A3.out).mono ?_); (case side1 => exact tafn); (case side2 => exact HC0.out); (case side3 => exact tafo); (case side4 => exact HC1.out); rintro e w6 ⟨rfl, hb⟩; refine ⟨_, rfl, ?_⟩; have n0_ := zad (zbh (taaa) hb); clear HB; have HB := n0_; clear n0_; (try clear hb); (try clear hb2); (try clear hk); (try clear hi)))
   go_ret
   exact ⟨taaf, taaa⟩
mutual
def impl_rankings.l0 : Nat → Int → Int → List (List Int) → Int → Option ((List (List Int)))
 | 0, _, _, _, _ => none
 | k + 1, x0, x1, x7, x8 => if x8 ≥ 0 then (impl_rankings.j1 k x0 x1 x7 x8 (decide ((wrap64 (x8 * x0)) ≥ x1))) else (impl_rankings.j1 k x0 x1 x7 x8 false)
def impl_rankings.j1 : Nat → Int → Int → List (List Int) → Int → Bool → Option ((List (List Int)))
 | 0, _, _, _, _, _ => none
 | k + 1, x0, x1, x7, x8, x29 => if x29 = true then ((impl_rankings.f k (wrap64 (x0 - 1)) (wrap64 (x1 - x8)) x8).bind fun t264 => (impl_rankings.l1 k x0 x1 x7 x8 t264 (t264.length : Int) 0)) else (some x7)
def impl_rankings.l1 : Nat → Int → Int → List (List Int) → Int → List (List Int) → Int → Int → Option ((List (List Int)))
 | 0, _, _, _, _, _, _, _ => none
 | k + 1, x0, x1, x7, x8, x38, x39, x40 => if x40 < x39 then (if 0 ≤ x40 then (if x40 < (x38.length : Int) then ((some (([x8] : List Int) : List Int)).bind fun y268 => (if y268.length + (rd_L1 x38 x40).length < 17592186044416 then (if x7.length < 5864062014805 then (impl_rankings.l1 k x0 x1 (x7 ++ [(y268 ++ (rd_L1 x38 x40))]) x8 x38 x39 (wrap64 (x40 + 1))) else (none)) else (none))) else (none)) else (none)) else (impl_rankings.l0 k x0 x1 x7 (wrap64 (x8 - 1)))
def impl_rankings.f : Nat → Int → Int → Int → Option ((List (List Int)))
 | 0, _, _, _ => none
 | k + 1, a0, a1, a2 => if a0 = 0 then (if a1 = 0 then (some (([(([] : List Int))] : List (List Int)))) else (some ([] : List (List Int)))) else (impl_rankings.l0 k a0 a1 (([] : List (List Int))) (mn a1 a2))
end
theorem impl_rankings.calls (k : Nat) : ∀ (a0 : Int) (a1 : Int) (a2 : Int) (r : List (List Int)) (w : World) (h : impl_rankings.f k a0 a1 a2 = some r),
 Calls Try.prog 65 #[.int .i64 a0, .int .i64 a1, .int .i64 a2] w fun e w' => ∃ v0_ : Value, e = .returned (v0_) ∧ Kd.S (Kd.slice 3 (Kd.int .i64)) 22 w' w.heap.size (fun _ => True) v0_ r ∧ Below w.heap.size w w' := by
 induction k using Nat.strongRecOn with
 | _ k ih =>
 intro a0 a1 a2 r w h
 cases k with
 | zero => exact absurd h (by simp [impl_rankings.f])
 | succ k =>
 simp only [impl_rankings.f] at h
 have HB := zad (Below.refl w.heap.size w)
 have H : (if a0 = 0 then (if a1 = 0 then (some (([(([] : List Int))] : List (List Int)))) else (some ([] : List (List Int)))) else (impl_rankings.l0 k a0 a1 (([] : List (List Int))) (mn a1 a2))) = some r := h
 clear h; by_cases c4 : a0 = 0
 · rw [if_pos c4] at H
   have c4b0 : (a0 == 0) = true := beq_iff_eq.mpr c4
   have c4b1 : (a0 != 0) = false := bne_eq_false_iff_eq.mpr c4
   clear c4; by_cases c5 : a1 = 0
   · rw [if_pos c5] at H
     have c5b0 : (a1 == 0) = true := beq_iff_eq.mpr c5
     have c5b1 : (a1 != 0) = false := bne_eq_false_iff_eq.mpr c5
     clear c5; obtain ⟨y255, hy255⟩ : ∃ y_ : List Int, y_ = (([] : List Int)) := ⟨_, rfl⟩
     replace H : (some (([y255] : List (List Int)))) = some r := by first | (rw [hy255]; with_reducible exact H) | (have H2_ := (zbe _ _).symm.trans H; rw [hy255]; with_reducible exact H2_) | (have H2_ := (zbe _ _).symm.trans H; with_reducible exact H2_) | with_reducible exact H | (rw [hy255]; exact H) | exact H
     have Ny255 := zad hy255; clear hy255; obtain ⟨y258, hy258⟩ : ∃ y_ : List (List Int), y_ = (([y255] : List (List Int))) := ⟨_, rfl⟩
     replace H : (some y258) = some r := by first | (rw [hy258]; with_reducible exact H) | (have H2_ := (zbe _ _).symm.trans H; rw [hy258]; with_reducible exact H2_) | (have H2_ := (zbe _ _).symm.trans H; with_reducible exact H2_) | with_reducible exact H | (rw [hy258]; exact H) | exact H
     have Ny258 := zad hy258; clear hy258; obtain rfl := zbf H
     go_enter Try.func65, Try.ntmps65
     go_wp2_with (first | ((with_reducible refine gate_dst (N := 15) rfl ?_); refine Kd.R_lit (Kd.int .i64) _ 3 ?hg (N := 15) ?hd (xs := ([] : List Int)) (inner := []) (ok := fun _ => True) (okp := fun _ => True) ?hr ?hp (fun _ hk => hk) trivial (Below.refl _ _) (zcb _) (taac) ?_; (case hd => rfl); (case hg => rfl); (case hr => first | (go_simp; done) | (go_simp; rfl)); (case hp => exact (Reps.none _ _)); intro v256 w6 ho7 hb hg_ hnew_; clear hg_ hnew_; (first | rw [← Ny255.out] at ho7 | (simp only [Int.reduceToNat] at ho7; rw [← Ny255.out] at ho7)); have n0_ := zad (zbu ho7 (zbl (taaa))); have n1_ := zad (zbh (taaa) hb); clear HB; have HO257 := n0_; have HB := n1_; clear n0_ n1_ hb ho7; obtain ⟨Ao8, co8, eo8⟩ := zbv HO257.out; subst eo8) | ((with_reducible refine gate_dst (N := 16) rfl ?_); refine Kd.S_lits (Kd.slice 3 (Kd.int .i64)) _ 22 ?hg (N := 16) ?hd (xs := ([y255] : List (List Int))) (inner := [.slice Ao8 y255.length co8]) (ok := fun _ => True) (fun j_ _ => j_ = 0) ?hr rfl ?hp (fun i_ j_ _ h1 h2 => h1.trans h2.symm) (fun _ _ _ => trivial) trivial (Below.refl _ _) (zbl (taaa)) (taac) ?_; (case hd => rfl); (case hg => rfl); (case hr => first | (go_simp; done) | (go_simp; rfl)); (case hp => intro j_ x_ hx_; cases j_ with | zero => (simp only [List.getElem?_cons_zero, zbm] at hx_; subst hx_; exact ⟨_, rfl, zbr (by (with_reducible repeat (first | apply zai | apply zaj | apply zak)); exact HO257.out) (fun _ _ => rfl)⟩) | succ j_ => simp at hx_); intro v259 w9 hoLITho10 hb hg_ hnew_; replace hb := (fun {a b : World} (h : a.grownBy b none) => (⟨h.os, h.tape, h.output, h.size, fun i hi => h.block i hi (taac)⟩ : Below a.heap.size a b)) hg_; clear hg_ hnew_; (first | rw [← Ny258.out] at hoLITho10 | (simp only [Int.reduceToNat] at hoLITho10; rw [← Ny258.out] at hoLITho10)); have n0_ := zad (hoLITho10); have n1_ := zad (zbh (taaa) hb); clear HB HO257; have HO260 := n0_; have HB := n1_; clear n0_ n1_ hb hoLITho10))
     go_ret
     exact ⟨_, taaf, by (with_reducible repeat (first | apply Kd.S_alloc | apply Kd.S_drewN | apply Kd.S_drew)); exact HO260.out, taaa⟩
   · rw [if_neg c5] at H
     have c5b0 : (a1 == 0) = false := zbp.mpr c5
     have c5b1 : (a1 != 0) = true := bne_iff_ne.mpr c5
     obtain rfl := zbf H
     go_enter Try.func65, Try.ntmps65
     go_wp2
     go_ret
     exact ⟨_, taaf, taba, taaa⟩
 · rw [if_neg c4] at H
   have c4b0 : (a0 == 0) = false := zbp.mpr c4
   have c4b1 : (a0 != 0) = true := bne_iff_ne.mpr c4
   obtain ⟨y261, hy261⟩ : ∃ y_ : List (List Int), y_ = (([] : List (List Int))) := ⟨_, rfl⟩
   replace H : (impl_rankings.l0 k a0 a1 y261 (mn a1 a2)) = some r := by first | (rw [hy261]; with_reducible exact H) | (have H2_ := (zbe _ _).symm.trans H; rw [hy261]; with_reducible exact H2_) | (have H2_ := (zbe _ _).symm.trans H; with_reducible exact H2_) | with_reducible exact H | (rw [hy261]; exact H) | exact H
   have Ny261 := zad hy261; clear hy261; obtain ⟨ji11, hji11⟩ : ∃ j_ : Int, (mn a1 a2) = j_ := ⟨_, rfl⟩
   replace H : (impl_rankings.l0 k a0 a1 y261 ji11) = some r := by first | (rw [hji11] at H; exact H) | (simp only [hji11] at H ⊢; exact H)
   have hji11_ : (if a2 < a1 then a2 else a1) = ji11 := hji11
   have H' := zad H
   clear H; go_enter Try.func65, Try.ntmps65
   go_wp2_with (first | ((with_reducible refine gate_dst (N := 17) rfl ?_); refine Kd.S_lit (Kd.slice 3 (Kd.int .i64)) _ 22 ?hg (N := 17) ?hd (xs := ([] : List (List Int))) (inner := []) (ok := fun _ => True) (okp := fun _ => True) ?hr ?hp (fun _ hk => hk) trivial (Below.refl _ _) (zcb _) (taac) ?_; (case hd => rfl); (case hg => rfl); (case hr => first | (go_simp; done) | (go_simp; rfl)); (case hp => exact (Reps.none _ _)); intro v262 w12 ho13 hb hg_ hnew_; clear hg_ hnew_; (first | rw [← Ny261.out] at ho13 | (simp only [Int.reduceToNat] at ho13; rw [← Ny261.out] at ho13)); have n0_ := zad (Kd.S_lower ho13 (zbl (taaa))); have n1_ := zad (zbh (taaa) hb); clear HB; have HO263 := n0_; have HB := n1_; clear n0_ n1_ hb ho13))
   go_loopg [7, 8] k (fun kq v7 v8 w' => ∃ (x7_1 : List (List Int)) (x8_1 : Int), v8 = .int .i64 x8_1 ∧ Aside0 (impl_rankings.l0 kq a0 a1 x7_1 x8_1 = some r) ∧ Aside0 (kq ≤ k) ∧ Aside0 (Kd.S (Kd.slice 3 (Kd.int .i64)) 22 w' w.heap.size (fun _ => True) v7 x7_1) ∧ Aside0 (Below w.heap.size w w'))
   case atStart => exact ⟨(y261), (ji11), (by first | rfl | (simp; done) | (simp only [← hji11] <;> (first | rfl | simp)) | (simp [*]; done)), H', ⟨zcb _⟩, ⟨by (with_reducible repeat (first | apply Kd.S_alloc | apply Kd.S_drewN | apply Kd.S_drew)); exact HO263.out⟩, ⟨taaa⟩⟩
   case round =>
    clear H'
    try clear p2
    try clear c4
    try clear c4b0
    try clear c4b1
    try clear c5
    try clear c5b0
    try clear c5b1
    try clear c6
    obtain ⟨x7_1, x8_1, rfl, HA, HK1, HO_7, HB⟩ := hrel
    cases gk with
    | zero => exact absurd HA.out (by simp [impl_rankings.l0])
    | succ k1 =>
     have H := HA.out
     clear HA; simp only [impl_rankings.l0] at H
     have HC14 := zad H; clear H; go_upto_region 7 with (fail)
     go_cut [29] (fun v29 wc => ∃ (kq : Nat) (x29_13 : Bool), v29 = .bool x29_13 ∧ Aside0 (impl_rankings.j1 kq a0 a1 x7_1 x8_1 x29_13 = some r) ∧ Aside0 (kq ≤ k1) ∧ Aside0 (Kd.S (Kd.slice 3 (Kd.int .i64)) 22 wc w.heap.size (fun _ => True) u7 x7_1) ∧ Aside0 (Below w.heap.size w wc))
     case first =>
      have H := HC14.out
      clear HC14; by_cases c15 : x8_1 ≥ 0
      · rw [if_pos c15] at H
        have c15b0 : decide (0 ≤ x8_1) = true := zba c15
        clear c15; (first | rw [c15b0] | (simp only [i64_w, i32_w]; rw [c15b0]) | skip)
        have H' := zad H
        clear H; go_wp2
        go_meet
        case rel => exact ⟨_, (decide ((wrap64 (x8_1 * a0)) ≥ a1)), (taad), H', ⟨taca⟩, ⟨taav⟩, ⟨taaa⟩⟩
      · rw [if_neg c15] at H
        have c15b0 : decide (0 ≤ x8_1) = false := zbk c15
        clear c15; (first | rw [c15b0] | (simp only [i64_w, i32_w]; rw [c15b0]) | skip)
        have H' := zad H
        clear H; go_wp2
        go_meet
        case rel => exact ⟨_, (false), (taad), H', ⟨taca⟩, ⟨taav⟩, ⟨taaa⟩⟩
     case rest =>
      clear HC14; try clear c1
      try clear p2
      try clear c4
      try clear c4b0
      try clear c4b1
      try clear c5
      try clear c5b0
      try clear c5b1
      try clear c6
      try clear p6
      try clear c15
      try clear c15b0
      try clear p2
      obtain ⟨kq, x29_13, rfl, HA, HJ13, HO_7, HB⟩ := hcut
      cases kq with
      | zero => exact absurd HA.out (by simp [impl_rankings.j1])
      | succ kj13 =>
       have H := HA.out
       clear HA; simp only [impl_rankings.j1] at H
       by_cases c16 : x29_13 = true
       · subst c16
         have H1 : ((impl_rankings.f kj13 (wrap64 (a0 - 1)) (wrap64 (a1 - x8_1)) x8_1).bind fun t264 => (impl_rankings.l1 kj13 a0 a1 x7_1 x8_1 t264 (t264.length : Int) 0)) = some r := by rw [if_pos rfl] at H; exact H
         clear H; have H := H1; clear H1; replace H := zay.mp H; obtain ⟨t264, A170, H⟩ := H
         replace H : (impl_rankings.l1 kj13 a0 a1 x7_1 x8_1 t264 (t264.length : Int) 0) = some r := H
         have A17 := zad A170; clear A170; have H' := zad H
         clear H; go_wp2_with (first | ((with_reducible refine zbi (f := 65) rfl ?_); refine zbo (some 38) rfl rfl Try.func65 (by kernel_rfl) rfl #[.int .i64 (wrap64 (a0 - 1)), .int .i64 (wrap64 (a1 - x8_1)), .int .i64 x8_1] rfl (taae) ?_; (with_reducible refine (ih kj13 (by have := HK1.out; have := HJ13.out; omega) (wrap64 (a0 - 1)) (wrap64 (a1 - x8_1)) x8_1 t264 _ A17.out).mono ?_); rintro e w18 ⟨v265, rfl, ho0, hb⟩; refine ⟨_, rfl, ?_⟩; have n0_ := zad (Kd.S_elder' (taav) (Kd.S_base ho0) hb); have n1_ := zad (Kd.S_lower (Kd.S_new' ho0 (Kd.S_lt (taav))) (zbl (taaa))); have n2_ := zad (zbh (taaa) hb); clear HO_7 HB; have HO_7 := n0_; have HO266 := n1_; have HB := n2_; clear n0_ n1_ n2_; (try clear hb); (try clear hb2); (try clear hk); (try clear hi); (try clear ho0); obtain ⟨Ao19, co19, eo19⟩ := Kd.S_slice HO266.out; subst eo19))
         go_loopg [7, 40] kj13 (fun kq v7 v40 w' => ∃ (x7_3 : List (List Int)) (x40_3 : Int), v40 = .int .i64 x40_3 ∧ Aside0 (impl_rankings.l1 kq a0 a1 x7_3 x8_1 t264 (t264.length : Int) x40_3 = some r) ∧ Aside0 (kq ≤ kj13) ∧ Aside0 (Kd.S (Kd.slice 3 (Kd.int .i64)) 22 w' w.heap.size (fun k_ => some k_ ≠ ((.slice Ao19 t264.length co19) : Value).ownBlock) v7 x7_3) ∧ Aside0 (Kd.S (Kd.slice 3 (Kd.int .i64)) 22 w' w.heap.size (fun k_ => some k_ ≠ (v7 : Value).ownBlock) (.slice Ao19 t264.length co19) t264) ∧ Aside0 (Below w.heap.size w w'))
         case atStart => exact ⟨(x7_1), (0), (taad), H', ⟨zcb _⟩, ⟨tado⟩, ⟨by (with_reducible repeat (first | apply Kd.S_alloc | apply Kd.S_drewN | apply Kd.S_drew)); exact Kd.S_mono HO266.out (fun _ hk => hk.2)⟩, ⟨taaa⟩⟩
         case round =>
          clear H'
          try clear c1
          try clear p2
          try clear c4
          try clear c4b0
          try clear c4b1
          try clear c5
          try clear c5b0
          try clear c5b1
          try clear c6
          try clear p6
          try clear c15
          try clear c15b0
          try clear c16
          try clear p2
          try clear p6
          obtain ⟨x7_3, x40_3, rfl, HA, HK3, HO_7, HO_38, HB⟩ := hrel
          cases gk with
          | zero => exact absurd HA.out (by simp [impl_rankings.l1])
          | succ k3 =>
           have H := HA.out
           clear HA; simp only [impl_rankings.l1] at H
           by_cases c20 : x40_3 < (t264.length : Int)
           · rw [if_pos c20] at H
             have c20b0 : decide (x40_3 < (t264.length : Int)) = true := zba c20
             clear c20; by_cases c21 : 0 ≤ x40_3
             · rw [if_pos c21] at H
               have c21b0 : decide (0 ≤ x40_3) = true := zba c21
               clear c21; by_cases c22 : x40_3 < (t264.length : Int)
               · rw [if_pos c22] at H
                 have c22b0 : decide (x40_3 < (t264.length : Int)) = true := zba c22
                 clear c22; obtain ⟨y268, hy268⟩ : ∃ y_ : List Int, y_ = (([x8_1] : List Int)) := ⟨_, rfl⟩
                 replace H : (if y268.length + (rd_L1 t264 x40_3).length < 17592186044416 then (if x7_3.length < 5864062014805 then (impl_rankings.l1 k3 a0 a1 (x7_3 ++ [(y268 ++ (rd_L1 t264 x40_3))]) x8_1 t264 (t264.length : Int) (wrap64 (x40_3 + 1))) else (none)) else (none)) = some r := by first | (rw [hy268]; with_reducible exact H) | (have H2_ := (zbe _ _).symm.trans H; rw [hy268]; with_reducible exact H2_) | (have H2_ := (zbe _ _).symm.trans H; with_reducible exact H2_) | with_reducible exact H | (rw [hy268]; exact H) | exact H
                 have Ny268 := zad hy268; clear hy268; by_cases c23 : y268.length + (rd_L1 t264 x40_3).length < 17592186044416
                 · rw [if_pos c23] at H
                   have LMc23 := zad c23; clear c23; obtain ⟨y271, hy271⟩ : ∃ y_ : List Int, y_ = (y268 ++ (rd_L1 t264 x40_3)) := ⟨_, rfl⟩
                   replace H : (if x7_3.length < 5864062014805 then (impl_rankings.l1 k3 a0 a1 (x7_3 ++ [y271]) x8_1 t264 (t264.length : Int) (wrap64 (x40_3 + 1))) else (none)) = some r := by first | (rw [hy271]; with_reducible exact H) | (have H2_ := (zbe _ _).symm.trans H; rw [hy271]; with_reducible exact H2_) | (have H2_ := (zbe _ _).symm.trans H; with_reducible exact H2_) | with_reducible exact H | (rw [hy271]; exact H) | exact H
                   have Ny271 := zad hy271; clear hy271; by_cases c24 : x7_3.length < 5864062014805
                   · rw [if_pos c24] at H
                     have LMc24 := zad c24; clear c24; obtain ⟨y274, hy274⟩ : ∃ y_ : List (List Int), y_ = (x7_3 ++ [y271]) := ⟨_, rfl⟩
                     replace H : (impl_rankings.l1 k3 a0 a1 y274 x8_1 t264 (t264.length : Int) (wrap64 (x40_3 + 1))) = some r := by first | (rw [hy274]; with_reducible exact H) | (have H2_ := (zbe _ _).symm.trans H; rw [hy274]; with_reducible exact H2_) | (have H2_ := (zbe _ _).symm.trans H; with_reducible exact H2_) | with_reducible exact H | (rw [hy274]; exact H) | exact H
                     have Ny274 := zad hy274; clear hy274; have H' := zad H
                     clear H; have p267 : 0 ≤ (x40_3 : Int) := zas (taab)
                     have q267 : x40_3 < (t264.length : Int) := zas (taab)
                     obtain ⟨ad267, A267_0, c267_0, e267, hx267_0, hl267_0, hi267_0⟩ := at_L1 (Kd.S_reads' HO_38.out).2.2 x40_3 p267 q267
                     cases e267
                     obtain ⟨ce267, hce267, hMe267, hcc267⟩ := Kd.S_get HO_38.out [] x40_3 p267 (by first | exact q267 | exact zas (taab) | (have e_ := (Kd.S_reads' HO_38.out).1; omega))
                     obtain ⟨ve267_0, rfl, ge267_0⟩ := hMe267
                     have hv267_0 := hcc267 0 _ rfl
                     rw [Nat.add_zero, show ((Kd.slice 3 (Kd.int .i64))).sz = 1 from rfl, Nat.mul_one] at hv267_0
                     replace hv267_0 := zbf (hv267_0.symm.trans hx267_0)
                     rw [hv267_0] at ge267_0
                     have HL267_0 := zad (show Kd.R (Kd.int .i64) 3 _ _ _ _ (rd_L1 t264 x40_3) from ge267_0)
                     clear hv267_0 ge267_0 hcc267 hce267; have HR267_0 := zad hi267_0; have HC267_0 := zad hl267_0; clear hi267_0 hl267_0; replace p267 := eq_true p267
                     replace q267 := eq_true q267
                     go_wp2_with (first | ((with_reducible refine gate_dst (N := 46) rfl ?_); refine Kd.R_lit (Kd.int .i64) _ 3 ?hg (N := 46) ?hd (xs := ([x8_1] : List Int)) (inner := [.int .i64 x8_1]) (ok := fun _ => True) (okp := fun _ => True) ?hr ?hp (fun _ hk => hk) trivial (Below.refl _ _) (zcb _) (taac) ?_; (case hd => rfl); (case hg => rfl); (case hr => first | (go_simp; done) | (go_simp; rfl)); (case hp => exact (Reps.one (show Kd.M (Kd.int .i64) _ _ _ x8_1 [.int .i64 x8_1] from rfl) (Reps.none _ _))); intro v269 w25 ho26 hb hg_ hnew_; clear hg_ hnew_; (first | rw [← Ny268.out] at ho26 | (simp only [Int.reduceToNat] at ho26; rw [← Ny268.out] at ho26)); have n0_ := zad (Kd.S_elder' (taav) (zbz ho26) hb); have n1_ := zad (Kd.S_elder' (tacu) (zbz ho26) hb); have n2_ := zad (zbx (tacb) (zbz ho26) hb); have n3_ := zad (zbu (zby ho26 (zca (tacb))) (zbl (taaa))); have n4_ := zad (Kd.C_below (tadp) hb); have n5_ := zad (zbh (taaa) hb); clear HO_7 HO_38 HL267_0 HR267_0 HB; have HO_7 := n0_; have HO_38 := n1_; have HL267_0 := n2_; have HO270 := n3_; have HR267_0 := n4_; have HB := n5_; clear n0_ n1_ n2_ n3_ n4_ n5_ hb ho26) | ((with_reducible refine gate_builtin (b := .append) (xs := #[.tmp 46, .tmp 47]) rfl ?_); at_builtin; refine Kd.R_append_rows (Kd.int .i64) (w0 := w) w.heap.size rfl (.tmp 46) (.tmp 47) 22 3 (.int .i64 0) 8 rfl Try.underlying22 info3 rfl (by decide) (by omega) v269 y268 (rd_L1 t264 x40_3) _ _ _ (fun k_ => some k_ ≠ (.slice A267_0 (rd_L1 t264 x40_3).length c267_0 : Value).ownBlock) (fun _ => False) rfl rfl ?aO ?aR (fun _ _ h => h) (fun _ h => h.elim) ?aF ?aB ?aS ?aL ?_; (case aR => repeat (first | exact (tadp) | (with_reducible refine zal ?_ _) | (with_reducible refine zam ?_ _) | (with_reducible refine zan ?_))); (case aB => exact (taaa)); (case aF => exact (fun k_ hk => Kd.fresh' (zca (tacb)) k_ hk)); (case aO => exact (by (with_reducible repeat (first | apply zai | apply zaj | apply zak)); exact zbr HO270.out (fun _ hk => hk.2))); (case aS => exact (zbl (taaa))); (case aL => have := LMc23.out; omega); intro v272 w27 ho hb hg hat; rw [← Ny271.out] at ho; have n0_ := zad (Kd.S_after (ok := (fun k_ => some k_ ≠ (.slice (some ad267) t264.length co19 : Value).ownBlock)) (taav) hg hat); have n1_ := zad (Kd.S_after (ok := (fun k_ => some k_ ≠ (u7 : Value).ownBlock)) (tacu) hg hat); have n2_ := zad (Kd.R_after (ok := (fun k_ => some k_ ≠ (u7 : Value).ownBlock ∧ some k_ ≠ (.slice (some ad267) t264.length co19 : Value).ownBlock)) (tacb) hg hat); have n3_ := zad (hb); have n4_ := zad (ho); clear HO_7 HO_38 HL267_0 HB HO270; have HO_7 := n0_; have HO_38 := n1_; have HL267_0 := n2_; have HB := n3_; have HO273 := n4_; clear n0_ n1_ n2_ n3_ n4_ ho hb hg hat; obtain ⟨Ao29, co29, eo29⟩ := zbv HO273.out; subst eo29) | ((with_reducible refine gate_builtin (b := .append) (xs := #[.tmp 44, .tmp 49]) rfl ?_); at_builtin; refine Kd.S_append (Kd.slice 3 (Kd.int .i64)) (w0 := w) w.heap.size rfl (.tmp 44) (.tmp 49) 23 22 (.slice none 0 0) 24 rfl Try.underlying23 info22 rfl (by decide) (by omega) u7 x7_3 y271 [.slice Ao29 y271.length co29] (fun k_ => some k_ ≠ (.slice (some ad267) t264.length co19 : Value).ownBlock) (fun k_ => some k_ = (.slice Ao29 y271.length co29 : Value).ownBlock) rfl rfl ?aP (fun k_ hk_ => ((zbr (ok' := fun k_ => ((fun k_ => some k_ ≠ (.slice (some ad267) t264.length co19 : Value).ownBlock)) k_ ∧ some k_ ≠ (u7 : Value).ownBlock) (Kd.R_apart' (Kd.R_apart' (HO273.out) (Kd.S_typed HO_38.out) (by decide)) (Kd.S_typed HO_7.out) (by decide)) (fun k_ hk => ⟨hk.1.2, hk.2⟩))).1 k_ hk_.symm) ?aF ?aO ?aB ?aS ?aL ?_; (case aP => exact Kd.M_row (zbr (Kd.R_tight rfl (zbr (ok' := fun k_ => ((fun k_ => some k_ ≠ (.slice (some ad267) t264.length co19 : Value).ownBlock)) k_ ∧ some k_ ≠ (u7 : Value).ownBlock) (Kd.R_apart' (Kd.R_apart' (HO273.out) (Kd.S_typed HO_38.out) (by decide)) (Kd.S_typed HO_7.out) (by decide)) (fun k_ hk => ⟨hk.1.2, hk.2⟩))) (fun _ h_ => h_))); (case aB => exact (taaa)); (case aF => exact (fun k_ hk => Kd.fresh' (Kd.S_lt (tacu)) k_ hk)); (case aO => exact (tadq)); (case aS => exact (zbl (taaa))); (case aL => have := LMc24.out; omega); intro v275 w28 ho hb hg hat; rw [← Ny274.out] at ho; have n0_ := zad (Kd.S_after (ok := (fun k_ => some k_ ≠ (.slice Ao29 y271.length co29 : Value).ownBlock)) (by (with_reducible repeat (first | apply Kd.S_alloc | apply Kd.S_drewN | apply Kd.S_drew)); exact Kd.S_mono HO_38.out (fun _ hk => ⟨hk.2, hk.1⟩)) hg hat); have n1_ := zad (Kd.R_after (ok := (fun k_ => some k_ ≠ (.slice (some ad267) t264.length co19 : Value).ownBlock ∧ some k_ ≠ (.slice Ao29 y271.length co29 : Value).ownBlock)) (by (with_reducible repeat (first | apply zai | apply zaj | apply zak)); exact zbr HL267_0.out (fun _ hk => ⟨⟨hk.1.2, hk.2⟩, hk.1.1⟩)) hg hat); have n2_ := zad (hb); have n3_ := zad (ho); clear HO_38 HL267_0 HB HO_7 HO273; have HO_38 := n0_; have HL267_0 := n1_; have HB := n2_; have HO276 := n3_; clear n0_ n1_ n2_ n3_ ho hb hg hat))
                     go_roundg k3
                     case measure => have := HK1.out; have := HJ13.out; have := HK3.out; omega
                     case rel => exact ⟨(y274), (wrap64 (x40_3 + 1)), (taad), H', ⟨by have := HK1.out; have := HJ13.out; have := HK3.out; omega⟩, ⟨by (with_reducible repeat (first | apply Kd.S_alloc | apply Kd.S_drewN | apply Kd.S_drew)); exact HO276.out⟩, ⟨by (with_reducible repeat (first | apply Kd.S_alloc | apply Kd.S_drewN | apply Kd.S_drew)); exact Kd.S_mono HO_38.out (fun _ hk => hk.2)⟩, ⟨taaa⟩⟩
                   · rw [if_neg c24] at H
                     exact absurd H (taac)
                 · rw [if_neg c23] at H
                   exact absurd H (taac)
               · rw [if_neg c22] at H
                 exact absurd H (taac)
             · rw [if_neg c21] at H
               exact absurd H (taac)
           · rw [if_neg c20] at H
             have c20b0 : decide (x40_3 < (t264.length : Int)) = false := zbk c20
             clear c20; have H' := zad H
             clear H; go_wp2
             go_roundg k3
             case measure => have := HK1.out; have := HJ13.out; have := HK3.out; omega
             case rel => exact ⟨(x7_3), (wrap64 (x8_1 - 1)), (taad), H', ⟨by have := HK1.out; have := HJ13.out; have := HK3.out; omega⟩, ⟨tadr⟩, ⟨taaa⟩⟩
       · replace c16 := zbj.mpr c16
         subst c16; have H1 : (some x7_1) = some r := by rw [if_neg (show ¬ (false = true) by decide)] at H; exact H
         clear H; have H := H1; clear H1; obtain rfl := zbf H
         go_wp2
         go_ret
         exact ⟨_, by first | rfl | (simp [errW_none, errW_some] <;> rfl) | (simp only [← hji11]; first | rfl | (simp [errW_none, errW_some] <;> rfl)) | (simp [*, errW_none, errW_some] <;> rfl), taav, taaa⟩
def GB (w W : World) (g : Nat) : Prop := w.grownBy W (some g)
theorem gb_refl (w : World) (g : Nat) : GB w w g := World.grownBy.refl w _
theorem gb_trans {w W W' : World} {g : Nat} (h : GB w W g) (k : GB W W' g) : GB w W' g := ⟨k.os.trans h.os, k.tape.trans h.tape, k.output.trans h.output, Nat.le_trans h.size k.size, fun i hi hne => (k.block i (Nat.lt_of_lt_of_le hi h.size) hne).trans (h.block i hi hne)⟩
theorem gb_below {W W' : World} {g : Nat} (h : Below W.heap.size W W') : GB W W' g := ⟨h.os, h.tape, h.output, h.size, fun i hi _ => h.block i hi⟩
theorem below_gb {w W W' : World} {g : Nat} (h : Below w.heap.size w W) (k : GB W W' g) (hg : w.heap.size ≤ g) : Below w.heap.size w W' := ⟨k.os.trans h.os, k.tape.trans h.tape, k.output.trans h.output, Nat.le_trans h.size k.size, fun i hi => (k.block i (Nat.lt_of_lt_of_le hi h.size) (by intro e; injection e with e; omega)).trans (h.block i hi)⟩
theorem gb_set0 (W : World) (g i : Nat) (u : Value) : GB W (W.setCell ⟨g, i, none⟩ u) g := ⟨rfl, rfl, rfl, taac, fun k hk hne => Below.heap_setCell W ⟨g, i, none⟩ u k (by intro e; exact hne (congrArg some e))⟩
section
open Go.Lib
def keptL {α : Type} [Inhabited α] (kp : Nat → Bool) (xs : List α) : List α := ((List.range xs.length).filter kp).map fun j => xs[j]!
theorem keptL_length {α : Type} [Inhabited α] (kp : Nat → Bool) (xs : List α) (cur : Array Value) : (keptL kp xs).length = (keptUpTo kp cur xs.length).length := by simp [keptL, keptUpTo]
theorem idx_at {l : List Nat} (h : l.Nodup) {q : Nat} (hq : q < l.length) : l.idxOf l[q] = q := by
 induction l generalizing q with
 | nil => simp at hq
 | cons a l ih =>
  cases q with
  | zero => simp
  | succ q =>
   have hn := List.nodup_cons.1 h
   have hq' : q < l.length := by simpa using hq
   have hne : ¬ a = l[q] := fun e => hn.1 (by rw [e]; exact List.getElem_mem hq')
   have hb : (a == l[q]) = false := zbp.2 hne
   rw [List.getElem_cons_succ, List.idxOf_cons, hb, cond_false, ih hn.2 hq']
theorem S_kept_rows {α : Type} [Inhabited α] {d : Kd α} (hd1 : d.sz = 1) {e : Nat} {w w' : World} {base : Nat} {ok : Nat → Prop} {blk cap : Nat} {xs : List α} {kp : Nat → Bool} {cur cur' : Array Value}
 (hS : Kd.S d e w base ok (.slice (some ⟨blk, 0, none⟩) xs.length cap) xs) (hheap : w.heap[blk]? = some (.cells cur e (0, 0))) (hG : GB w w' blk) (hheap' : w'.heap[blk]? = some (.cells cur' e (0, 0))) (hsz : cur'.size = cur.size)
 (hlow : ∀ j, j < (keptUpTo kp cur xs.length).length → (keptUpTo kp cur xs.length)[j]? = some cur'[j]!) :
 Kd.S d e w' base ok (.slice (some ⟨blk, 0, none⟩) (keptL kp xs).length cap) (keptL kp xs) := by
 obtain ⟨f, h0, inner, ho, hr⟩ := hS
 have hm : (keptL kp xs).length = (keptUpTo kp cur xs.length).length := keptL_length kp xs cur
 have hidx : ((List.range xs.length).filter kp).Nodup := List.Pairwise.filter _ List.nodup_range
 have hmle : (keptL kp xs).length ≤ xs.length := by
  unfold keptL
  rw [List.length_map]
  exact Nat.le_trans (List.length_filter_le _ _) (taac)
 rw [List.length_zipIdx] at ho
 obtain ⟨hil, hown⟩ := ho
 have hsz1 : (Kd.tag f d).sz = 1 := hd1
 rw [hsz1, Nat.mul_one] at hil
 rcases hown with ⟨he, _⟩ | ⟨g, cap2, cur2, he, hb, hh, hn, hc, hcs, htk⟩
 · cases he
 injection he with e1 e2 e3
 injection e1 with e1
 injection e1 with e1 _ _
 subst e1; subst e3; rw [hheap] at hh
 injection hh with hh
 injection hh with hh1 _ _
 subst hh1; rw [hsz1, Nat.mul_one] at hcs htk
 refine ⟨fun b => ((List.range xs.length).filter kp).idxOf (f b), h0, keptUpTo kp cur xs.length, ⟨?_, .inr ⟨blk, cap, cur', by rw [List.length_zipIdx], hb, hheap', ?_, hc, ?_, ?_⟩⟩, ?_, ?_⟩
 · rw [List.length_zipIdx, hm]
   show _ = _ * d.sz
   rw [hd1, Nat.mul_one]
 · rw [List.length_zipIdx]
   omega
 · show _ = _ * d.sz
   rw [hd1, Nat.mul_one, hsz, hcs]
 · rw [List.length_zipIdx]
   show List.take ((keptL kp xs).length * d.sz) _ = _
   rw [hd1, Nat.mul_one, hm]
   apply List.ext_getElem?
   intro j
   by_cases hj : j < (keptUpTo kp cur xs.length).length
   · rw [List.getElem?_take, if_pos hj, hlow j hj, getElem!_pos cur' j (by omega), Array.getElem?_toList, Array.getElem?_eq_getElem (by omega)]
   · rw [List.getElem?_take, if_neg hj, List.getElem?_eq_none (by omega)]
 · rw [List.length_zipIdx, hm]
   show _ = _ * d.sz
   rw [hd1, Nat.mul_one]
 · intro q p hq
   rw [List.getElem?_zipIdx, Nat.zero_add] at hq
   obtain ⟨x, hx, rfl⟩ := Option.map_eq_some_iff.1 hq
   obtain ⟨hql, hxe⟩ := List.getElem?_eq_some_iff.1 hx
   have hqi : q < ((List.range xs.length).filter kp).length := by
    unfold keptL at hql
    rwa [List.length_map] at hql
   obtain ⟨j, hje⟩ : ∃ j, j = ((List.range xs.length).filter kp)[q] := ⟨_, rfl⟩
   have hjm : j ∈ (List.range xs.length).filter kp := by rw [hje]; exact List.getElem_mem hqi
   have hjn : j < xs.length := List.mem_range.1 (List.mem_filter.1 hjm).1
   have hxj : x = xs[j] := by
    rw [← hxe]
    simp only [keptL, List.getElem_map]
    rw [← hje, getElem!_pos xs j hjn]
   have hM := hr.2 j (xs[j], j) (Kd.zip_at (List.getElem?_eq_getElem hjn))
   rw [hsz1, Nat.mul_one] at hM
   have hcell : (inner.drop j).take 1 = [cur[j]!] := by
    rw [← htk, List.drop_take, List.take_take, Nat.min_eq_left (by omega)]
    have : j < cur.toList.length := by rw [Array.length_toList]; omega
    rw [List.drop_eq_getElem_cons this, List.take_succ_cons, List.take_zero, getElem!_pos cur j (by simpa using this), Array.getElem_toList]
   have hcell' : ((keptUpTo kp cur xs.length).drop q).take 1 = [cur[j]!] := by
    have hql' : q < (keptUpTo kp cur xs.length).length := by rw [← hm]; exact hql
    rw [List.drop_eq_getElem_cons hql', List.take_succ_cons, List.take_zero]
    congr 1
    simp only [keptUpTo, List.getElem_map]
    rw [← hje]
   rw [hcell] at hM
   show (Kd.tag _ d).M w' base _ (x, q) (((keptUpTo kp cur xs.length).drop (q * (Kd.tag _ d).sz)).take (Kd.tag _ d).sz)
   have hs2 : ∀ f', (Kd.tag f' d).sz = 1 := fun _ => hd1
   rw [hs2, Nat.mul_one, hcell', hxj]
   have hM2 : d.M w base (fun k => (ok k ∧ some k ≠ (Value.slice (some ⟨blk, 0, none⟩) xs.length cap).ownBlock) ∧ f k = j) xs[j] [cur[j]!] := hM
   have hM3 := Kd.M_step (w1 := w') hM2 (fun k hk hlt => hG.block k hlt hk.1.2)
   exact d.M_mono (fun k hk => ⟨hk.1, by show List.idxOf (f k) _ = q; rw [hk.2, hje, idx_at hidx hqi]⟩) hM3
end
section
open Go.Shelf Go.Lib
theorem anyIdxB {P : Program} {ρ : Ren} (L : SlLaysH.n6 P ρ) (ad : Addr) (n c : Nat) (vs : Nat → Value) (ps : Nat → Bool) (g : Nat) (lb : Array Value) (w : World) (eg : ∀ args w, (callFunc g args).run P w = .ok (.enter g args) w) (hbig : n ≤ 9223372036854775807)
 (hcell : ∀ j, j < n → w.cell? (ad.add j) = some (vs j)) (hcall : ∀ j, j < n → ∀ W, Below w.heap.size w W → Calls P g (#[vs j] ++ lb) W fun e w' => e = .returned (.bool (ps j)) ∧ Below W.heap.size W w') :
 Calls P (ρ.f 6) #[.slice (some ad) n c, .func (.func g) #[] lb] w fun e w' => ∃ i : Int, e = .returned (.int .i64 i) ∧ ((i = -1 ∧ ∀ j, j < n → ps j = false) ∨ ∃ k : Nat, k < n ∧ i = (k : Int) ∧ ps k = true ∧ ∀ j, j < k → ps j = false) ∧ Below w.heap.size w w' := by
 have mixed := L.mixed; have t0 := L.t0; have a0 := L.a0; have z0 := L.z0; have v0 := L.v0; have t3 := L.t3; have a3 := L.a3; have z3 := L.z3; have v3 := L.v3; have t4 := L.t4; have a4 := L.a4; have z4 := L.z4; have v4 := L.v4; have t22 := L.t22; have a22 := L.a22; have z22 := L.z22; have v22 := L.v22; have a23 := L.a23; have z23 := L.z23; have t25 := L.t25; have a25 := L.a25; have z25 := L.z25; have v25 := L.v25
 have HC := zad hcell; have HF := zad hcall; have HB := zad (Below.refl w.heap.size w)
 clear hcell hcall; obtain ⟨_, _, FG⟩ := L.f6
 go_enter FG, SlBodyH.n6_ntmps ρ
 go_wp2
 go_loopg [5, 8] n (fun gg _ s8 wr => ∃ kk : Nat, kk ≤ n ∧ n - kk ≤ gg ∧ s8 = .int .i64 kk ∧ Aside0 (Below w.heap.size w wr) ∧ Aside0 (∀ j, j < kk → ps j = false))
 case atStart => exact ⟨0, Nat.zero_le _, by omega, rfl, ⟨taaa⟩, ⟨fun j hj => absurd hj (Nat.not_lt_zero _)⟩⟩
 case round =>
  clear HB; obtain ⟨kk, hkk, hg, rfl, HB, HA⟩ := hrel
  by_cases hlt : kk < n
  · have hltz : (kk : Int) < (n : Int) := by omega
    have hc0 := HC.out kk hlt
    have hce := (HB.out.cell (zaz w _ hc0)).trans hc0
    have hca := HF.out kk hlt wr HB.out
    clear hc0; generalize vs kk = v at hce hca
    cases hq : ps kk with
    | true =>
     rw [hq] at hca
     go_wp2_with (go_at_fn g; refine hca.mono ?_; rintro e w' ⟨rfl, hb⟩; have HB2 := zad (zbh HB.out hb); clear hb)
     go_ret
     exact ⟨_, rfl, .inr ⟨kk, hlt, rfl, hq, HA.out⟩, HB2.out⟩
    | false =>
     rw [hq] at hca
     go_wp2_with (go_at_fn g; refine hca.mono ?_; rintro e w' ⟨rfl, hb⟩; have HB2 := zad (zbh HB.out hb); clear hb)
     go_roundg (n - (kk + 1))
     case measure => omega
     case rel =>
      refine ⟨kk + 1, by omega, by omega, by go_num, ⟨HB2.out⟩, ⟨fun j hj => ?_⟩⟩
      by_cases e : j = kk
      · subst e
        exact hq
      · exact HA.out j (by omega)
  · have hltz : ¬ (kk : Int) < (n : Int) := by omega
    have : kk = n := by omega
    subst this; go_wp2
    go_ret
    exact ⟨_, rfl, .inl ⟨rfl, HA.out⟩, HB.out⟩
theorem anyHasB {P : Program} {ρ : Ren} (L : SlLaysH.n8 P ρ) (ad : Addr) (n c : Nat) (vs : Nat → Value) (ps : Nat → Bool) (g : Nat) (lb : Array Value) (w : World) (eg : ∀ args w, (callFunc g args).run P w = .ok (.enter g args) w) (hbig : n ≤ 9223372036854775807)
 (hcell : ∀ j, j < n → w.cell? (ad.add j) = some (vs j)) (hcall : ∀ j, j < n → ∀ W, Below w.heap.size w W → Calls P g (#[vs j] ++ lb) W fun e w' => e = .returned (.bool (ps j)) ∧ Below W.heap.size W w') :
 Calls P (ρ.f 8) #[.slice (some ad) n c, .func (.func g) #[] lb] w fun e w' => ∃ r : Bool, e = .returned (.bool r) ∧ (r = true ↔ ∃ j, j < n ∧ ps j = true) ∧ Below w.heap.size w w' := by
 have mixed := L.mixed; have t0 := L.t0; have a0 := L.a0; have z0 := L.z0; have v0 := L.v0; have t3 := L.t3; have a3 := L.a3; have z3 := L.z3; have v3 := L.v3; have t4 := L.t4; have a4 := L.a4; have z4 := L.z4; have v4 := L.v4; have t22 := L.t22; have a22 := L.a22; have z22 := L.z22; have v22 := L.v22; have a23 := L.a23; have z23 := L.z23; have t25 := L.t25; have a25 := L.a25; have z25 := L.z25; have v25 := L.v25
 have e6 : ∀ args w, (callFunc (ρ.f 6) args).run P w = .ok (.enter (ρ.f 6) args) w := L.f6.enters rfl
 have HC := zad hcell; have HF := zad hcall; clear hcell hcall; obtain ⟨_, _, FG⟩ := L.f8
 go_enter FG, SlBodyH.n8_ntmps ρ
 go_wp2_with (go_at_fn (ρ.f 6); refine (anyIdxB { L with } ad n c vs ps g lb _ eg hbig HC.out HF.out).mono ?_; rintro e w' ⟨i, rfl, hi, hb⟩; have HI := zad hi; have HB := zad hb; clear hi hb)
 go_ret
 refine ⟨_, rfl, ?_, HB.out⟩
 rw [decide_eq_true_iff]
 rcases HI.out with ⟨rfl, hn⟩ | ⟨k, hk, rfl, hp, _⟩
 · exact ⟨fun h => absurd h (by decide), fun ⟨j, hj, hp⟩ => by rw [hn j hj] at hp; cases hp⟩
 · exact ⟨fun _ => ⟨k, hk, hp⟩, fun _ => by omega⟩
theorem addr0_add (b j : Nat) : (⟨b, 0, none⟩ : Addr).add j = ⟨b, j, none⟩ := by
 unfold Addr.add
 split
 · next h => rw [h]
 · simp
theorem heap_setCells {g : Nat} {t : TypeId} : ∀ (vs : List Value) (o : Nat) (w : World) (cs : Array Value), w.heap[g]? = some (.cells cs t (0, 0)) → ∃ cs', (w.setCells g o vs).heap[g]? = some (.cells cs' t (0, 0)) ∧ cs'.size = cs.size ∧ (∀ j, j < o → cs'[j]! = cs[j]!) ∧ GB w (w.setCells g o vs) g
 | [], o, w, cs, h => ⟨cs, h, rfl, fun _ _ => rfl, gb_refl _ _⟩
 | v :: vs, o, w, cs, h => by
  obtain ⟨cs', h1, h2, h3, h4⟩ := heap_setCells vs (o + 1) (w.setCell ⟨g, o, none⟩ v) _ (blk_set h o v)
  refine ⟨cs', h1, by rw [h2]; simp, fun j hj => ?_, gb_trans (gb_set0 w g o v) h4⟩
  rw [h3 j (by omega)]
  exact Go.Sort.getElem!_set_other cs o j v (by omega)
theorem first_is {kp : Nat → Bool} {k0 n : Nat} {i : Int} (hd : kp k0 = false) (hall : ∀ j, j < k0 → kp j = true) (hk : k0 < n) (h : (i = -1 ∧ ∀ j, j < n → (!kp j) = false) ∨ ∃ k : Nat, k < n ∧ i = (k : Int) ∧ (!kp k) = true ∧ ∀ j, j < k → (!kp j) = false) : i = (k0 : Int) := by
 rcases h with ⟨_, hn⟩ | ⟨k, hkn, rfl, hp, ha⟩
 · have := hn k0 hk
   rw [hd] at this
   cases this
 · have h1 : ¬ k < k0 := fun h => by rw [hall k h] at hp; cases hp
   have h2 : ¬ k0 < k := fun h => by have := ha k0 h; rw [hd] at this; cases this
   omega
theorem none_is {kp : Nat → Bool} {n : Nat} {i : Int} (hall : ∀ j, j < n → kp j = true) (h : (i = -1 ∧ ∀ j, j < n → (!kp j) = false) ∨ ∃ k : Nat, k < n ∧ i = (k : Int) ∧ (!kp k) = true ∧ ∀ j, j < k → (!kp j) = false) : i = -1 := by
 rcases h with ⟨e, _⟩ | ⟨k, hkn, rfl, hp, _⟩
 · exact e
 · rw [hall k hkn] at hp
   cases hp
theorem gb_heap {W W' : World} {blk : Nat} {o : Obj} (hb : Below W.heap.size W W') (h : W.heap[blk]? = some o) : W'.heap[blk]? = some o := (hb.block blk (blk_lt h)).trans h
theorem delRows {P : Program} {ρ : Ren} (L : SlLaysH.n10 P ρ) (blk n cap : Nat) (et : TypeId) (cur : Array Value) (kp : Nat → Bool) (g : Nat) (lb : Array Value) (w : World) (eg : ∀ args w, (callFunc g args).run P w = .ok (.enter g args) w) (v23 : ∀ w, (zeroValue (ρ.t 23)).run P w = .ok (.slice none 0 0) w)
 (hheap : w.heap[blk]? = some (.cells cur et (0, 0))) (hsz : cur.size = cap) (hn : n ≤ cap) (hcap : cap ≤ 9223372036854775807) (hsl : ∀ j, j < n → ∃ A k c, cur[j]! = .slice A k c)
 (hcall : ∀ j, j < n → ∀ W, GB w W blk → Calls P g (#[cur[j]!] ++ lb) W fun e w' => e = .returned (.bool (!kp j)) ∧ Below W.heap.size W w') :
 Calls P (ρ.f 10) #[.slice (some ⟨blk, 0, none⟩) n cap, .func (.func g) #[] lb] w fun e w' => e = .returned (.slice (some ⟨blk, 0, none⟩) (keptUpTo kp cur n).length cap) ∧ GB w w' blk ∧ ∃ cur', w'.heap[blk]? = some (.cells cur' et (0, 0)) ∧ cur'.size = cap ∧ ∀ j, j < (keptUpTo kp cur n).length → (keptUpTo kp cur n)[j]? = some cur'[j]! := by
 have mixed := L.mixed; have t0 := L.t0; have a0 := L.a0; have z0 := L.z0; have v0 := L.v0; have t3 := L.t3; have a3 := L.a3; have z3 := L.z3; have v3 := L.v3; have t4 := L.t4; have a4 := L.a4; have z4 := L.z4; have v4 := L.v4; have t22 := L.t22; have a22 := L.a22; have z22 := L.z22; have v22 := L.v22; have a23 := L.a23; have z23 := L.z23; have t25 := L.t25; have a25 := L.a25; have z25 := L.z25; have v25 := L.v25
 have e6 : ∀ args w, (callFunc (ρ.f 6) args).run P w = .ok (.enter (ρ.f 6) args) w := L.f6.enters rfl
 have hcl0 : ∀ (A : Option Addr) (k c : Nat), (Value.slice A k c).cells = #[Value.slice A k c] := fun _ _ _ => rfl
 have cellAt : ∀ (W : World) (dk : Array Value), W.heap[blk]? = some (.cells dk et (0, 0)) → dk.size = cap → ∀ j, j < cap → W.cell? ⟨blk, j, none⟩ = some dk[j]! := fun W dk h hs j hj => by
  rw [blk_cell h j, getElem!_pos dk j (by omega), Array.getElem?_eq_getElem (by omega)]
 have hIF := anyIdxB (P := P) (ρ := ρ) { L with } ⟨blk, 0, none⟩ n cap (fun j => cur[j]!) (fun j => !kp j) g lb w eg (by omega) (fun j hj => by
  rw [addr0_add]
  exact cellAt w cur hheap hsz j (by omega)) (fun j hj W hb => hcall j hj W (gb_below hb))
 have HIF := zad hIF; have HC := zad hcall; have HH := zad hheap; have HCA := zad cellAt; have HSL := zad hsl; clear hIF hcall hheap cellAt hsl; by_cases hany : ∃ k, k < n ∧ kp k = false
 · obtain ⟨k0, hk0, hd0, hall⟩ : ∃ k0, k0 < n ∧ kp k0 = false ∧ ∀ j, j < k0 → kp j = true := by
    obtain ⟨k, hk, hd⟩ := hany
    induction k using Nat.strongRecOn with
    | _ k ih =>
     by_cases h : ∃ j, j < k ∧ kp j = false
     · obtain ⟨j, hj, hdj⟩ := h
       exact ih j hj (by omega) hdj
     · exact ⟨k, hk, hd, fun j hj => by
        cases e : kp j with
        | true => rfl
        | false => exact (h ⟨j, hj, e⟩).elim⟩
   have HALL := zad hall; have HD0 := zad hd0; have hne1 : ((k0 : Int) == -1) = false := zbp.2 (by omega)
   clear hall hd0 hany; obtain ⟨_, _, FG⟩ := L.f10
   go_enter FG, SlBodyH.n10_ntmps ρ
   go_wp2_with (go_at_fn (ρ.f 6); refine HIF.out.mono ?_; rintro e w1 ⟨i1, rfl, hi1, hb1⟩; obtain rfl : i1 = (k0 : Int) := first_is HD0.out HALL.out hk0 hi1; have HB1 := zad hb1; have HH1 := zad (gb_heap hb1 HH.out); clear hi1 hb1)
   go_loopg [5, 6, 7] n (fun gg s5 s6 _ wr => ∃ (i j : Nat) (dk : Array Value), s5 = .int .i64 i ∧ s6 = .int .i64 j ∧ j ≤ n ∧ n - j ≤ gg ∧ i ≤ j ∧ Aside0 (GB w wr blk) ∧ Aside0 (wr.heap[blk]? = some (.cells dk et (0, 0))) ∧ Aside0 (KeptInv kp cur j i dk))
   case atStart => exact ⟨k0, k0 + 1, cur, rfl, by go_num, by omega, by omega, by omega, ⟨gb_below HB1.out⟩, ⟨HH1.out⟩, ⟨KeptInv.start HALL.out HD0.out⟩⟩
   case round =>
    obtain ⟨i, j, dk, rfl, rfl, hjd, hgg, hij0, HG, HW, I2⟩ := hrel
    have hI := I2.out
    have hij := hI.lt
    have hds := hI.size
    by_cases hlt : j < n
    · have hltz : (j : Int) < (n : Int) := by omega
      have cj := HCA.out wr dk HW.out (by omega) j (by omega)
      have ci := HCA.out wr dk HW.out (by omega) i (by omega)
      have fi := blk_frozen HW.out i
      rw [hI.high j (by omega)] at cj
      have hcall := HC.out j hlt wr HG.out
      obtain ⟨Au, ku, cu, hu⟩ := HSL.out j hlt
      rw [hu] at cj hcall
      have C := zad hu; generalize dk[i]! = old at ci
      clear hI hu; cases hq : kp j with
      | true =>
       rw [hq] at hcall
       go_wp2_with (go_at_fn g; refine hcall.mono ?_; rintro e w' ⟨rfl, hb⟩; have HB2 := zad (gb_trans HG.out (gb_below hb)); have HW2 := zad (gb_heap hb HW.out); (have ci2 := (hb.cell (p := ⟨blk, i, none⟩) (zaz wr _ ci)).trans ci); (have fi2 := (hb.frozen (p := ⟨blk, i, none⟩) (zaz wr _ ci)).trans fi); (have cj2 := (hb.cell (p := ⟨blk, j, none⟩) (zaz wr _ cj)).trans cj); clear hb)
       go_roundg (n - (j + 1))
       case measure => omega
       case rel => exact ⟨i + 1, j + 1, dk.setIfInBounds i (.slice Au ku cu), by go_num, by go_num, by omega, zcb _, by omega, ⟨gb_trans HB2.out (gb_set0 _ blk i _)⟩, ⟨blk_set HW2.out i _⟩, ⟨by have := I2.out.keep (by omega) hq; rwa [C.out] at this⟩⟩
      | false =>
       rw [hq] at hcall
       go_wp2_with (go_at_fn g; refine hcall.mono ?_; rintro e w' ⟨rfl, hb⟩; have HB2 := zad (gb_trans HG.out (gb_below hb)); have HW2 := zad (gb_heap hb HW.out); clear hb)
       go_roundg (n - (j + 1))
       case measure => omega
       case rel => exact ⟨i, j + 1, dk, rfl, by go_num, by omega, zcb _, by omega, ⟨HB2.out⟩, ⟨HW2.out⟩, ⟨I2.out.skip hq⟩⟩
    · obtain rfl : j = n := by omega
      have hltz : ¬ (j : Int) < (j : Int) := by omega
      have hcl : ∀ ty, (Builtin.clear_ #[ρ.t 22] ty #[.slice (some ⟨blk, i, none⟩) (j - i) (cap - i)]).run P wr = .ok (.tuple #[]) (wr.setCells blk i (List.replicate (j - i) (.slice none 0 0))) :=
       fun ty => Lib.run_clear_slice wr _ _ ty _ t22 v23 rfl rfl blk i _ _ (by omega) (fun t ht => by rw [HCA.out wr dk HW.out (by omega) (i + t) (by omega)]; rfl) (fun t ht => blk_frozen HW.out _)
      have HS := zad (heap_setCells (List.replicate (j - i) (.slice none 0 0)) i wr dk HW.out)
      have HDS := zad hds; clear hI hds; go_wp2
      go_ret
      have hI := I2.out
      obtain ⟨cs', h1, h2, h3, h4⟩ := HS.out
      refine ⟨by rw [hI.len]; rfl, gb_trans HG.out h4, cs', h1, by rw [h2, HDS.out, hsz], fun q hq => ?_⟩
      rw [hI.len] at hq
      rw [h3 q (by omega)]
      exact hI.low q hq
 · have hkeep : ∀ j, j < n → kp j = true := fun j hj => by
    cases e : kp j with
    | true => rfl
    | false => exact (hany ⟨j, hj, e⟩).elim
   have e3 : keptUpTo kp cur n = (List.range n).map (cur[·]!) := keptUpTo_all kp cur n hkeep
   have e4 : (keptUpTo kp cur n).length = n := by rw [e3]; simp
   have HKE := zad hkeep; have E3 := zad e3; rw [e4]
   clear hany hkeep e3 e4; obtain ⟨_, _, FG⟩ := L.f10
   go_enter FG, SlBodyH.n10_ntmps ρ
   go_wp2_with (go_at_fn (ρ.f 6); refine HIF.out.mono ?_; rintro e w1 ⟨i1, rfl, hi1, hb1⟩; obtain rfl : i1 = -1 := none_is HKE.out hi1; have HB1 := zad hb1; have HH1 := zad (gb_heap hb1 HH.out); clear hi1 hb1)
   go_ret
   refine ⟨rfl, gb_below HB1.out, cur, HH1.out, hsz, fun j hj => ?_⟩
   rw [E3.out, List.getElem?_map, List.getElem?_range hj]
   rfl
end
theorem tab_bx {W W' : World} {B : Nat} {v : Value} (hb : Below W.heap.size W W') (h : W.cell? ⟨B, 0, none⟩ = some v) (hB : B < W.heap.size) : W'.cell? ⟨B, 0, none⟩ = some v := (hb.cell (p := ⟨B, 0, none⟩) hB).trans h
end Go.Proofs.Ytdkimdlbjeobiaa.A
/-
  DERIVED: THE SHELF's CONTRACTS AT THIS DUMP, IN PLAIN WORDS (tools/lay-plain.mjs out of 'YtdkimdlbjeobiaaShelfD.lean', which tools/lay-shelf.mjs wrote): THE SAME DECLARATIONS UNDER THE SAME NAMES: 'import', 'namespace', 'open', 'def', 'theorem' AND NOTHING ELSE: no command of the shelf's: FOR A HAND-IN. Each laying: the table of numbers ('.._ren') and one theorem, a field a fact of the dump's own or the kernel's comparison; each contract: ONE APPLICATION.
-/
namespace Go.Proofs
open Go.Shelf
def Try.delL_ren : Go.Shelf.Ren := ⟨fun | 10 => 73 | 6 => 75 | n => n, fun | 22 => 23 | 23 => 22 | 25 => 31 | 3 => 3 | 4 => 4 | 0 => 0 | n => n, fun | n => n⟩
theorem Try.delL : Go.Proofs.SlLaysH.n10 Try.prog Try.delL_ren := {
 mixed := by kernel_rfl
 f6 := ⟨Try.f75.name, by decide, Try.func75.trans (congrArg some (by kernel_rfl))⟩
 f10 := ⟨Try.f73.name, by decide, Try.func73.trans (congrArg some (by kernel_rfl))⟩
 t0 := Try.underlying0
 a0 := Try.isAgg0
 z0 := Try.sizeOf0
 v0 := Try.zeroValue0
 t3 := Try.underlying3
 a3 := Try.isAgg3
 z3 := Try.sizeOf3
 v3 := Try.zeroValue3
 t4 := Try.underlying4
 a4 := Try.isAgg4
 z4 := Try.sizeOf4
 v4 := Try.zeroValue4
 t22 := Try.underlying23
 a22 := Try.isAgg23
 z22 := Try.sizeOf23
 v22 := Try.zeroValue23
 a23 := Try.isAgg22
 z23 := Try.sizeOf22
 t25 := Try.underlying31
 a25 := Try.isAgg31
 z25 := Try.sizeOf31
 v25 := Try.zeroValue31 }
end Go.Proofs

namespace Go.Proofs.Ytdkimdlbjeobiaa.A
open Go.RowKit Go.Proofs.YtdkimdlbjeobiaaW.PrintWords Go.Proofs.YtdkimdlbjeobiaaW.PrintLast Go.Proofs.YtdkimdlbjeobiaaW.PrintMore
attribute [local go_sem] max2_int min2_int max_two min_two max_three min_three max_four min_four
def majAll (k : Nat) (l0 : List Int) (xs : List (List Int)) : Bool := xs.all fun x => (impl_isMajorized.f k x l0).isSome
def majKept (k : Nat) (l0 : List Int) (xs : List (List Int)) : List (List Int) := xs.filter fun x => impl_isMajorized.f k x l0 == some true
def impl_below.f (k : Nat) (l0 : List Int) : Option (List (List Int)) := (impl_total.f k l0).bind fun s => (impl_rankings.f k (l0.length : Int) s s).bind fun rs => if 0 < rs.length ∧ majAll k l0 rs = true then some (majKept k l0 rs) else none
theorem S_cells {e i : Nat} {w : World} {base : Nat} {ok : Nat → Prop} {v : Value} {xs : List (List Int)} (hS : Kd.S (Kd.slice i (Kd.int .i64)) e w base ok v xs) (hn : 0 < xs.length) :
 ∃ (blk cap : Nat) (cur : Array Value), v = .slice (some ⟨blk, 0, none⟩) xs.length cap ∧ base ≤ blk ∧ w.heap[blk]? = some (.cells cur e (0, 0)) ∧ cur.size = cap ∧ xs.length ≤ cap ∧ cap ≤ 9223372036854775807 ∧
  ∀ j, j < xs.length → ∃ A c, cur[j]! = .slice A (xs[j]!).length c ∧ (xs[j]!).length ≤ c ∧ ∀ W, GB w W blk → Kd.C (Kd.int .i64) W A (xs[j]!).length (xs[j]!) := by
 obtain ⟨f, h0, inner, ho, hr⟩ := hS
 rw [List.length_zipIdx] at ho
 obtain ⟨hil, hown⟩ := ho
 have hsz1 : (Kd.tag f (Kd.slice i (Kd.int .i64))).sz = 1 := rfl
 rw [hsz1, Nat.mul_one] at hil
 rcases hown with ⟨_, hz⟩ | ⟨blk, cap, cur, rfl, hb, hh, hnc, hc, hcs, htk⟩
 · omega
 rw [hsz1, Nat.mul_one] at hcs htk
 refine ⟨blk, cap, cur, rfl, hb, hh, hcs, hnc, by unfold maxLen at hc; omega, fun j hj => ?_⟩
 have hM := hr.2 j (xs[j], j) (Kd.zip_at (List.getElem?_eq_getElem hj))
 rw [hsz1, Nat.mul_one] at hM
 have hcell : (inner.drop j).take 1 = [cur[j]!] := by
  rw [← htk, List.drop_take, List.take_take, Nat.min_eq_left (by omega)]
  have : j < cur.toList.length := by rw [Array.length_toList]; omega
  rw [List.drop_eq_getElem_cons this, List.take_succ_cons, List.take_zero, getElem!_pos cur j (by simpa using this), Array.getElem_toList]
 rw [hcell] at hM
 have hM2 : (Kd.slice i (Kd.int .i64)).M w base (fun k => (ok k ∧ some k ≠ (Value.slice (some ⟨blk, 0, none⟩) xs.length cap).ownBlock) ∧ f k = j) xs[j] [cur[j]!] := hM
 obtain ⟨v, hv, hR⟩ := hM2
 obtain ⟨A, c, hA, hl, _⟩ := Kd.R_reads hR
 have e : cur[j]! = v := by simpa using hv
 rw [getElem!_pos xs j hj]
 refine ⟨A, c, by rw [e, hA], hl, fun W hG => ?_⟩
 have hR2 := Kd.R_step (w1 := W) hR (fun k hk hlt => hG.block k hlt hk.1.2)
 rw [hA] at hR2
 exact (zbg hR2).2.2
theorem gb_cell {w W : World} {g : Nat} {p : Addr} {v : Value} (h : GB w W g) (hc : w.cell? p = some v) (hne : p.block ≠ g) : W.cell? p = some v := by
 have hlt := zaz w _ hc
 have hb := h.block p.block hlt (by intro e; injection e with e; exact hne e)
 unfold World.cell? at *
 rw [hb]
 exact hc
theorem keptL_filter {α : Type} [Inhabited α] (p : α → Bool) (xs : List α) : keptL (fun j => p xs[j]!) xs = xs.filter p := by
 unfold keptL
 have e : ((List.range xs.length).map fun j => xs[j]!) = xs := by
  apply List.ext_getElem
  · simp
  · intro i h1 h2
    rw [List.getElem_map, List.getElem_range, getElem!_pos xs i h2]
 have := List.filter_map (p := p) (f := fun j => xs[j]!) (l := List.range xs.length)
 rw [e] at this
 rw [this]
 rfl
theorem below_cell (k : Nat) (l0 x : List Int) (t : Bool) (A0 A : Option Addr) (c0 c B : Nat) (W : World) (h0 : W.cell? ⟨B, 0, none⟩ = some (.slice A0 l0.length c0)) (hr0 : Kd.C (Kd.int .i64) W A0 l0.length l0) (hc0 : l0.length ≤ c0) (hr : Kd.C (Kd.int .i64) W A x.length x) (hc : x.length ≤ c) (h : impl_isMajorized.f k x l0 = some t) :
 Calls Try.prog 74 (#[.slice A x.length c] ++ #[.pointer (some ⟨B, 0, none⟩)]) W fun e w' => e = .returned (.bool (!t)) ∧ Below W.heap.size W w' := by
 have HR0 := zad hr0; have HC0 := zad hc0; have HR := zad hr; have HC := zad hc; have HK := zad h; clear hr0 hc0 hr hc h; show Calls Try.prog 74 #[.slice A x.length c, .pointer (some ⟨B, 0, none⟩)] W _
 go_enter Try.func74, Try.ntmps74
 go_wp2_with (go_at_call 43; (refine (impl_isMajorized.calls k A c x A0 c0 l0 t _ ?side1 ?side2 ?side3 ?side4 HK.out).mono ?_); (case side1 => first | exact HR.out | exact zam HR.out _); (case side2 => exact HC.out); (case side3 => first | exact HR0.out | exact zam HR0.out _); (case side4 => exact HC0.out); rintro e w' ⟨rfl, hb⟩; have HB := zad hb; clear hb)
 go_ret
 exact ⟨by cases t <;> rfl, HB.out⟩
theorem below_del (k : Nat) (l0 : List Int) (A0 : Option Addr) (c0 B base : Nat) (rs : List (List Int)) (v : Value) (w : World) (hB : w.cell? ⟨B, 0, none⟩ = some (.slice A0 l0.length c0)) (hlt : B < base) (hr0 : Kd.C (Kd.int .i64) w A0 l0.length l0) (hfoot : ∀ k, base ≤ k → ∀ W, GB w W k → Kd.C (Kd.int .i64) W A0 l0.length l0) (hc0 : l0.length ≤ c0) (hn : 0 < rs.length) (hall : majAll k l0 rs = true)
 (hS : Kd.S (Kd.slice 3 (Kd.int .i64)) 22 w base (fun _ => True) v rs) :
 Calls Try.prog 73 #[v, .func (.func 74) #[] #[.pointer (some ⟨B, 0, none⟩)]] w fun e w' => ∃ v' blk, e = .returned v' ∧ base ≤ blk ∧ Kd.S (Kd.slice 3 (Kd.int .i64)) 22 w' base (fun _ => True) v' (majKept k l0 rs) ∧ GB w w' blk := by
 have hS0 := hS
 obtain ⟨blk, cap, cur, rfl, hbb, hh, hsz, hnc, hcm, hrow⟩ := S_cells hS hn
 have eg : ∀ args w, (callFunc 74 args).run Try.prog w = .ok (.enter 74 args) w := fun args w => enters_ Try.func74 (by kernel_rfl) rfl args w
 have hkp : ∀ j, j < rs.length → impl_isMajorized.f k (rs[j]!) l0 = some (impl_isMajorized.f k (rs[j]!) l0 == some true) := fun j hj => by
  have := List.all_eq_true.1 hall (rs[j]!) (by rw [getElem!_pos rs j hj]; exact List.getElem_mem hj)
  obtain ⟨b, hb⟩ := Option.isSome_iff_exists.1 this
  rw [hb]
  cases b <;> rfl
 refine (delRows Try.delL blk rs.length cap 22 cur (fun j => impl_isMajorized.f k (rs[j]!) l0 == some true) 74 #[.pointer (some ⟨B, 0, none⟩)] w eg (fun w => Try.zeroValue22 w) hh hsz hnc hcm (fun j hj => ?_) (fun j hj W hG => ?_)).mono ?_
 · obtain ⟨A, c, h, _⟩ := hrow j hj
   exact ⟨A, _, c, h⟩
 · obtain ⟨A, c, h, hl, hC⟩ := hrow j hj
   rw [h]
   exact below_cell k l0 (rs[j]!) _ A0 A c0 c B W (gb_cell hG hB (by show B ≠ blk; omega)) (hfoot blk hbb W hG) hc0 (hC W hG) hl (hkp j hj)
 · rintro e w' ⟨rfl, hG, cur', hh', hs', hl'⟩
   have hk := S_kept_rows (d := Kd.slice 3 (Kd.int .i64)) rfl (kp := fun j => impl_isMajorized.f k (rs[j]!) l0 == some true) hS0 hh hG hh' (by rw [hs', hsz]) hl'
   rw [keptL_length _ rs cur] at hk
   rw [keptL_filter (fun x => impl_isMajorized.f k x l0 == some true) rs] at hk
   exact ⟨_, blk, rfl, hbb, hk, hG⟩
theorem impl_below.calls (k : Nat) (A0 : Option Addr) (c0 : Nat) (l0 : List Int) (r : List (List Int)) (w : World) (hr0 : Kd.C (Kd.int .i64) w A0 l0.length l0) (hc0 : l0.length ≤ c0) (h : impl_below.f k l0 = some r) :
 Calls Try.prog 40 #[.slice A0 l0.length c0] w fun e w' => ∃ v0_ : Value, e = .returned (v0_) ∧ Kd.S (Kd.slice 3 (Kd.int .i64)) 22 w' w.heap.size (fun _ => True) v0_ r ∧ Below w.heap.size w w' := by
 unfold impl_below.f at h
 obtain ⟨s, ht, h⟩ := zay.mp h
 obtain ⟨rs, hrk, h⟩ := zay.mp h
 split at h
 next hc =>
  obtain ⟨hn, hall⟩ := hc
  obtain rfl := zbf h
  have HT := zad ht; have HRK := zad hrk; have HN := zad hn; have HALL := zad hall; have HR0 := zad hr0; have HC0 := zad hc0; have HB := zad (Below.refl w.heap.size w)
  clear hr0 hc0 ht hrk hn hall h; go_enter Try.func40, Try.ntmps40
  go_wp2
  go_region_held3 (fun w' => w'.cell? ⟨w.heap.size, 0, none⟩ = some (.slice A0 l0.length c0)) (first | exact x0 | exact x9 | (simp [go_sem]; done))
   (first | (go_at_call 39; (refine (impl_total.calls k A0 c0 l0 s _ ?side1 ?side2 HT.out).mono ?_); (case side1 => exact Kd.C_below HR0.out (taaa)); (case side2 => exact HC0.out); rintro e w1 ⟨rfl, ⟨m1, rfl⟩⟩) | (go_at_call 65; (refine (impl_rankings.calls k (l0.length : Int) s s rs _ HRK.out).mono ?_); rintro e w2 ⟨v2, rfl, ho, hb⟩; have HB2 := zad (zbh (taaa) hb); have x0 := tab_bx hb (B := w.heap.size) (v := .slice A0 l0.length c0) (by simp [go_sem]) (tacv); have HO := zad (show Kd.S (Kd.slice 3 (Kd.int .i64)) 22 w2 (w.heap.size + 1) (fun _ => True) v2 rs from Kd.S_lower ho (tacv)); clear HB hb ho; have HB := HB2; clear HB2; obtain ⟨Au, cu, eu⟩ := Kd.S_slice HO.out; subst eu) | (go_at_call 73; (refine (below_del k l0 A0 c0 w.heap.size (w.heap.size + 1) rs _ _ x0 (by omega) ?side1 ?side2 HC0.out HN.out HALL.out HO.out).mono ?_); (case side1 => exact Kd.C_below HR0.out HB.out); (case side2 => exact fun kk hk W hG => Kd.C_below HR0.out (below_gb HB.out hG (by omega))); rintro e w3 ⟨v3, blk, rfl, hbb, ho, hG⟩; have HO2 := zad (Kd.S_lower (base' := w.heap.size) ho (by omega)); have HB2 := zad (below_gb HB.out hG (by omega)); have x9 := gb_cell hG x0 (by show w.heap.size ≠ blk; omega); clear HO ho hG HB x0; have HO := HO2; have HB := HB2; clear HO2 HB2))
  all_goals (go_wp2; go_ret; exact ⟨_, rfl, HO.out, HB.out⟩)
 next => cases h
def impl_BelowOf.f (k : Nat) (l0 : List Int) : Option ((List (List Int)) × Bool) := (impl_IsList.f k l0).bind fun t561 => (if t561 = true then ((impl_total.f k l0).bind fun t562 => (if t562 > 30 then (some (([] : List (List Int)), false)) else ((impl_below.f k l0).bind fun t563 => (some (t563, true))))) else (some (([] : List (List Int)), false)))
theorem impl_BelowOf.calls (k : Nat) (A0 : Option Addr) (c0 : Nat) (l0 : List Int) (r1 : List (List Int)) (r2 : Bool) (w : World) (hr0 : Kd.C (Kd.int .i64) w A0 l0.length l0) (hc0 : l0.length ≤ c0) (h : impl_BelowOf.f k l0 = some (r1, r2)) :
 Calls Try.prog 23 #[.slice A0 l0.length c0] w fun e w' => ∃ v0_ : Value, e = .returned (.tuple #[v0_, .bool r2]) ∧ Kd.S (Kd.slice 3 (Kd.int .i64)) 22 w' w.heap.size (fun _ => True) v0_ r1 ∧ Below w.heap.size w w' := by
 have HR0 := zad hr0; have HC0 := zad hc0; clear hr0 hc0; have HB := zad (Below.refl w.heap.size w)
 have H : ((impl_IsList.f k l0).bind fun t561 => (if t561 = true then ((impl_total.f k l0).bind fun t562 => (if t562 > 30 then (some (([] : List (List Int)), false)) else ((impl_below.f k l0).bind fun t563 => (some (t563, true))))) else (some (([] : List (List Int)), false)))) = some (r1, r2) := h
 clear h; replace H := zay.mp H; obtain ⟨t561, A20, H⟩ := H
 replace H : (if t561 = true then ((impl_total.f k l0).bind fun t562 => (if t562 > 30 then (some (([] : List (List Int)), false)) else ((impl_below.f k l0).bind fun t563 => (some (t563, true))))) else (some (([] : List (List Int)), false))) = some (r1, r2) := H
 have A2 := zad A20; clear A20; by_cases c3 : t561 = true
 · subst c3
   have H1 : ((impl_total.f k l0).bind fun t562 => (if t562 > 30 then (some (([] : List (List Int)), false)) else ((impl_below.f k l0).bind fun t563 => (some (t563, true))))) = some (r1, r2) := by rw [if_pos rfl] at H; exact H
   clear H; have H := H1; clear H1; replace H := zay.mp H; obtain ⟨t562, A40, H⟩ := H
   replace H : (if t562 > 30 then (some (([] : List (List Int)), false)) else ((impl_below.f k l0).bind fun t563 => (some (t563, true)))) = some (r1, r2) := H
   have A4 := zad A40; clear A40; by_cases c5 : t562 > 30
   · rw [if_pos c5] at H
     have c5b0 : decide (30 < t562) = true := zba c5
     clear c5; simp only [zbm, zbq] at H
     obtain ⟨rfl, rfl⟩ := H
     go_enter Try.func23, Try.ntmps23
     go_wp2_with (first | ((with_reducible refine zbi (f := 38) rfl ?_); refine zbo (some 5) rfl rfl Try.func38 (by kernel_rfl) rfl #[.slice A0 l0.length c0] rfl (taae) ?_; (with_reducible refine (impl_IsList.calls k _ _ l0 true _ ?side1 ?side2 A2.out).mono ?_); (case side1 => repeat (first | exact HR0.out | (with_reducible refine zal ?_ _) | (with_reducible refine zam ?_ _) | (with_reducible refine zan ?_))); (case side2 => exact HC0.out); rintro e w' ⟨rfl, ⟨nd, rfl⟩⟩; refine ⟨_, rfl, ?_⟩) | (go_at_call 39; (with_reducible refine (impl_total.calls k _ _ l0 t562 _ ?side1 ?side2 A4.out).mono ?_); (case side1 => repeat (first | exact HR0.out | (with_reducible refine zal ?_ _) | (with_reducible refine zam ?_ _) | (with_reducible refine zan ?_))); (case side2 => exact HC0.out); rintro e w' ⟨rfl, ⟨nd, rfl⟩⟩))
     go_ret2
     exact ⟨_, taaf, taba, taaa⟩
   · rw [if_neg c5] at H
     have c5b0 : decide (30 < t562) = false := zbk c5
     clear c5; replace H := zay.mp H; obtain ⟨t563, A60, H⟩ := H
     replace H : (some (t563, true)) = some (r1, r2) := H
     have A6 := zad A60; clear A60; simp only [zbm, zbq] at H
     obtain ⟨rfl, rfl⟩ := H
     go_enter Try.func23, Try.ntmps23
     go_wp2_with (first | ((with_reducible refine zbi (f := 38) rfl ?_); refine zbo (some 5) rfl rfl Try.func38 (by kernel_rfl) rfl #[.slice A0 l0.length c0] rfl (taae) ?_; (with_reducible refine (impl_IsList.calls k _ _ l0 true _ ?side1 ?side2 A2.out).mono ?_); (case side1 => repeat (first | exact HR0.out | (with_reducible refine zal ?_ _) | (with_reducible refine zam ?_ _) | (with_reducible refine zan ?_))); (case side2 => exact HC0.out); rintro e w' ⟨rfl, ⟨nd, rfl⟩⟩; refine ⟨_, rfl, ?_⟩) | (go_at_call 39; (with_reducible refine (impl_total.calls k _ _ l0 t562 _ ?side1 ?side2 A4.out).mono ?_); (case side1 => repeat (first | exact HR0.out | (with_reducible refine zal ?_ _) | (with_reducible refine zam ?_ _) | (with_reducible refine zan ?_))); (case side2 => exact HC0.out); rintro e w' ⟨rfl, ⟨nd, rfl⟩⟩) | ((with_reducible refine zbi (f := 40) rfl ?_); refine zbo (some 13) rfl rfl Try.func40 (by kernel_rfl) rfl #[.slice A0 l0.length c0] rfl (taae) ?_; (with_reducible refine (impl_below.calls k _ _ l0 t563 _ ?side1 ?side2 A6.out).mono ?_); (case side1 => repeat (first | exact HR0.out | (with_reducible refine zal ?_ _) | (with_reducible refine zam ?_ _) | (with_reducible refine zan ?_))); (case side2 => exact HC0.out); rintro e w7 ⟨v564, rfl, ho0, hb⟩; refine ⟨_, rfl, ?_⟩; have n0_ := zad (Kd.S_lower ho0 (zbl (taaa))); have n1_ := zad (zbh (taaa) hb); clear HB; have HO565 := n0_; have HB := n1_; clear n0_ n1_; (try clear hb); (try clear hb2); (try clear hk); (try clear hi); (try clear ho0)))
     go_ret2
     exact ⟨_, taaf, by (with_reducible repeat (first | apply Kd.S_alloc | apply Kd.S_drewN | apply Kd.S_drew)); exact HO565.out, taaa⟩
 · replace c3 := zbj.mpr c3
   subst c3; have H1 : (some (([] : List (List Int)), false)) = some (r1, r2) := by rw [if_neg (show ¬ (false = true) by decide)] at H; exact H
   clear H; have H := H1; clear H1; simp only [zbm, zbq] at H
   obtain ⟨rfl, rfl⟩ := H
   go_enter Try.func23, Try.ntmps23
   go_wp2_with (first | ((with_reducible refine zbi (f := 38) rfl ?_); refine zbo (some 5) rfl rfl Try.func38 (by kernel_rfl) rfl #[.slice A0 l0.length c0] rfl (taae) ?_; (with_reducible refine (impl_IsList.calls k _ _ l0 false _ ?side1 ?side2 A2.out).mono ?_); (case side1 => exact tafn); (case side2 => exact HC0.out); rintro e w' ⟨rfl, ⟨nd, rfl⟩⟩; refine ⟨_, rfl, ?_⟩))
   go_ret2
   exact ⟨_, taaf, taba, taaa⟩
def laws_pSum.l0 : Nat → Int → List Int → Int → Int → Option (Int)
 | 0, _, _, _, _ => none
 | k + 1, x3, x6, x7, x8 => if x8 < x7 then (if 0 ≤ x8 then (if x8 < (x6.length : Int) then (laws_pSum.l0 k (wrap64 (x3 + (rd x6 x8))) x6 x7 (wrap64 (x8 + 1))) else (none)) else (none)) else (some x3)
def laws_pSum.f (k : Nat) (l0 : List Int) : Option (Int) := laws_pSum.l0 k 0 l0 (l0.length : Int) 0
theorem laws_pSum.calls (k : Nat) (A0 : Option Addr) (c0 : Nat) (l0 : List Int) (r : Int) (w : World) (hr0 : Kd.C (Kd.int .i64) w A0 l0.length l0) (hc0 : l0.length ≤ c0) (h : laws_pSum.f k l0 = some r) :
 Calls Try.prog 24 #[.slice A0 l0.length c0] w fun e w' => e = .returned (.int .i64 r) ∧ Drawn0 w w' := by
 have HR0 := zad hr0; have HC0 := zad hc0; clear hr0 hc0; have H : (laws_pSum.l0 k 0 l0 (l0.length : Int) 0) = some r := h
 clear h; have H' := zad H
 clear H; go_enter Try.func24, Try.ntmps24
 go_wp2
 go_loopg [3, 8] k (fun kq v3 v8 w' => ∃ (x3_1 : Int) (x8_1 : Int), v3 = .int .i64 x3_1 ∧ v8 = .int .i64 x8_1 ∧ Aside0 (laws_pSum.l0 kq x3_1 l0 (l0.length : Int) x8_1 = some r) ∧ Aside0 (kq ≤ k) ∧ Drawn0 w w')
 case atStart => exact ⟨(0), (0), (taad), (taad), H', ⟨zcb _⟩, taag⟩
 case round =>
  clear H'
  obtain ⟨x3_1, x8_1, rfl, rfl, HA, HK1, ⟨m1, rfl⟩⟩ := hrel
  cases gk with
  | zero => exact absurd HA.out (by simp [laws_pSum.l0])
  | succ k1 =>
   have H := HA.out
   clear HA; simp only [laws_pSum.l0] at H
   by_cases c2 : x8_1 < (l0.length : Int)
   · rw [if_pos c2] at H
     have c2b0 : decide (x8_1 < (l0.length : Int)) = true := zba c2
     clear c2; by_cases c3 : 0 ≤ x8_1
     · rw [if_pos c3] at H
       have c3b0 : decide (0 ≤ x8_1) = true := zba c3
       clear c3; by_cases c4 : x8_1 < (l0.length : Int)
       · rw [if_pos c4] at H
         have c4b0 : decide (x8_1 < (l0.length : Int)) = true := zba c4
         clear c4; have H' := zad H
         clear H; have p566 : 0 ≤ (x8_1 : Int) := zas (taab)
         have q566 : x8_1 < (l0.length : Int) := zas (taab)
         obtain ⟨ad566, e566, hx566_0⟩ := zbw HR0.out x8_1 p566 q566
         cases e566
         replace p566 := eq_true p566
         replace q566 := eq_true q566
         go_wp2
         go_roundg k1
         case measure => have := HK1.out; omega
         case rel => exact ⟨(wrap64 (x3_1 + (rd l0 x8_1))), (wrap64 (x8_1 + 1)), (taad), (taad), H', ⟨taat⟩, taag⟩
       · rw [if_neg c4] at H
         exact absurd H (taac)
     · rw [if_neg c3] at H
       exact absurd H (taac)
   · rw [if_neg c2] at H
     have c2b0 : decide (x8_1 < (l0.length : Int)) = false := zbk c2
     clear c2; obtain rfl := zbf H
     go_wp2
     go_ret
     exact ⟨taad, taag⟩
def IsS51 (w0 W : World) (g : Nat) (f0 : List Int) (f1 : Int) (f2 : Int) : Prop := ∃ A0 c0, W.heap[g]? = some (.cells #[.slice A0 f0.length c0, .int .i64 f1, .int .u64 f2] 51 (0, 0)) ∧ w0.heap.size ≤ g ∧ Kd.C (Kd.int .u8) w0 A0 f0.length f0
theorem IsS51.grown {w0 W : World} {g : Nat} {f0 : List Int} {f1 : Int} {f2 : Int} {W1 : World} {row : Option Nat} (h : IsS51 w0 W g f0 f1 f2) (hw : W.grownBy W1 row) (hne : some g ≠ row) : IsS51 w0 W1 g f0 f1 f2 := by
 obtain ⟨A0, c0, hb, hg, hr0⟩ := h
 exact ⟨A0, c0, blk_grown hb hw hne, hg, hr0⟩
theorem IsS51.below {w0 W : World} {g : Nat} {f0 : List Int} {f1 : Int} {f2 : Int} {W1 : World} (h : IsS51 w0 W g f0 f1 f2) (hw : Below W.heap.size W W1) : IsS51 w0 W1 g f0 f1 f2 := h.grown (grown_of_below hw none) (taac)
theorem IsS51.alloc {w0 W : World} {g : Nat} {f0 : List Int} {f1 : Int} {f2 : Int} (h : IsS51 w0 W g f0 f1 f2) (o : Obj) : IsS51 w0 (W.alloc o) g f0 f1 f2 := h.below (zag (Below.refl _ _) o)
theorem IsS51.drewN {w0 W : World} {g : Nat} {f0 : List Int} {f1 : Int} {f2 : Int} (h : IsS51 w0 W g f0 f1 f2) (m : Nat) : IsS51 w0 (W.drewN m) g f0 f1 f2 := h
theorem IsS51.drew {w0 W : World} {g : Nat} {f0 : List Int} {f1 : Int} {f2 : Int} (h : IsS51 w0 W g f0 f1 f2) : IsS51 w0 W.drew g f0 f1 f2 := h
theorem IsS51.apart {w0 W : World} {g : Nat} {f0 : List Int} {f1 : Int} {f2 : Int} {α : Type} {d : Kd α} {e : Nat} {base : Nat} {ok : Nat → Prop} {v : Value} {xs : List α} (h : IsS51 w0 W g f0 f1 f2) (ho : d.R e W base ok v xs) (ht : ∀ q, q ∈ e :: d.E → q ≠ 51) : d.R e W base (fun k => ok k ∧ k ≠ g) v xs := by
 obtain ⟨A0, c0, hb, hg, hr0⟩ := h
 exact Kd.R_types ho hb ht
theorem IsS51.own_ne {w0 W : World} {g : Nat} {f0 : List Int} {f1 : Int} {f2 : Int} {α : Type} {d : Kd α} {e : Nat} {base : Nat} {ok : Nat → Prop} {v : Value} {xs : List α} (h : IsS51 w0 W g f0 f1 f2) (ho : d.R e W base ok v xs) (ht : e ≠ 51) : some g ≠ v.ownBlock := by
 obtain ⟨A0, c0, hb, hg, hr0⟩ := h
 exact Kd.R_ne ho hb ht
theorem IsS51.lt {w0 W : World} {g : Nat} {f0 : List Int} {f1 : Int} {f2 : Int} (h : IsS51 w0 W g f0 f1 f2) : g < W.heap.size := by
 obtain ⟨A0, c0, hb, hg, hr0⟩ := h
 exact blk_lt hb
theorem IsS51.ge {w0 W : World} {g : Nat} {f0 : List Int} {f1 : Int} {f2 : Int} (h : IsS51 w0 W g f0 f1 f2) : w0.heap.size ≤ g := by
 obtain ⟨A0, c0, hb, hg, hr0⟩ := h
 exact hg
theorem cellS51_0 {W : World} {g : Nat} {A0 : Option Addr} {c0 : Nat} {f0 : List Int} {f1 : Int} {f2 : Int} (h : W.heap[g]? = some (.cells #[.slice A0 f0.length c0, .int .i64 f1, .int .u64 f2] 51 (0, 0))) : W.cell? ⟨g, 0, none⟩ = some (.slice A0 f0.length c0) := (blk_cell h 0).trans rfl
theorem cellS51_1 {W : World} {g : Nat} {A0 : Option Addr} {c0 : Nat} {f0 : List Int} {f1 : Int} {f2 : Int} (h : W.heap[g]? = some (.cells #[.slice A0 f0.length c0, .int .i64 f1, .int .u64 f2] 51 (0, 0))) : W.cell? ⟨g, 1, none⟩ = some (.int .i64 f1) := (blk_cell h 1).trans rfl
theorem IsS51.set_1 {w0 W : World} {g : Nat} {f0 : List Int} {f1 : Int} {f2 : Int} (h : IsS51 w0 W g f0 f1 f2) (x : Int) : IsS51 w0 (W.setCell ⟨g, 1, none⟩ (.int .i64 x)) g f0 x f2 := by
 obtain ⟨A0, c0, hb, hg, hr0⟩ := h
 exact ⟨A0, c0, by simpa using blk_set hb 1 (.int .i64 x), hg, hr0⟩
theorem cellS51_2 {W : World} {g : Nat} {A0 : Option Addr} {c0 : Nat} {f0 : List Int} {f1 : Int} {f2 : Int} (h : W.heap[g]? = some (.cells #[.slice A0 f0.length c0, .int .i64 f1, .int .u64 f2] 51 (0, 0))) : W.cell? ⟨g, 2, none⟩ = some (.int .u64 f2) := (blk_cell h 2).trans rfl
theorem IsS51.set_2 {w0 W : World} {g : Nat} {f0 : List Int} {f1 : Int} {f2 : Int} (h : IsS51 w0 W g f0 f1 f2) (x : Int) : IsS51 w0 (W.setCell ⟨g, 2, none⟩ (.int .u64 x)) g f0 f1 x := by
 obtain ⟨A0, c0, hb, hg, hr0⟩ := h
 exact ⟨A0, c0, by simpa using blk_set hb 2 (.int .u64 x), hg, hr0⟩
def spec_l1Cur_next.f (s0_0 : List Int) (s0_1 : Int) (s0_2 : Int) : Option (Int × Int × Int) := if s0_1 < (s0_0.length : Int) then (if 0 ≤ s0_1 then (if (wrap64 (s0_1 + 1)) ≤ (s0_0.length : Int) then (some (wrap64 (rd s0_0 s0_1), wrap64 (s0_1 + 1), IntKind.u64.wrap ((IntKind.u64.wrap ((IntKind.u64.wrap (s0_2 * 6364136223846793005)) + (IntKind.u64.wrap (wrap64 (rd s0_0 s0_1))))) + 1442695040888963407))) else (some (wrap64 (Go.bits .and .u64 ((IntKind.u64.wrap ((IntKind.u64.wrap ((IntKind.u64.wrap (s0_2 * 6364136223846793005)) + (IntKind.u64.wrap (wrap64 (rd s0_0 s0_1))))) + 1442695040888963407)) / 1099511627776) 255), wrap64 (s0_1 + 1), IntKind.u64.wrap ((IntKind.u64.wrap ((IntKind.u64.wrap (s0_2 * 6364136223846793005)) + (IntKind.u64.wrap (wrap64 (rd s0_0 s0_1))))) + 1442695040888963407)))) else (none)) else (if (wrap64 (s0_1 + 1)) ≤ (s0_0.length : Int) then (some (0, wrap64 (s0_1 + 1), IntKind.u64.wrap ((IntKind.u64.wrap ((IntKind.u64.wrap (s0_2 * 6364136223846793005)) + 0)) + 1442695040888963407))) else (some (wrap64 (Go.bits .and .u64 ((IntKind.u64.wrap ((IntKind.u64.wrap ((IntKind.u64.wrap (s0_2 * 6364136223846793005)) + 0)) + 1442695040888963407)) / 1099511627776) 255), wrap64 (s0_1 + 1), IntKind.u64.wrap ((IntKind.u64.wrap ((IntKind.u64.wrap (s0_2 * 6364136223846793005)) + 0)) + 1442695040888963407))))
theorem spec_l1Cur_next.calls (g : Nat) (s0_0 : List Int) (s0_1 : Int) (s0_2 : Int) (r1 : Int) (r2 : Int) (r3 : Int) (w0 w : World) (hI : IsS51 w0 w g s0_0 s0_1 s0_2) (hB : Below w0.heap.size w0 w) (h : spec_l1Cur_next.f s0_0 s0_1 s0_2 = some (r1, r2, r3)) :
 Calls Try.prog 77 #[.pointer (some ⟨g, 0, none⟩)] w fun e w' => e = .returned (.int .i64 r1) ∧ IsS51 w0 w' g s0_0 r2 r3 ∧ Below w0.heap.size w0 w' ∧ KeepBut w w' g none := by
 have HI0 := zad hI; have HK := zad (KeepBut.refl w g none)
 have HL := zad hB.size; clear hI; have HW0 := zad hB.size; have HB := zad hB; clear hB; have H : (if s0_1 < (s0_0.length : Int) then (if 0 ≤ s0_1 then (if (wrap64 (s0_1 + 1)) ≤ (s0_0.length : Int) then (some (wrap64 (rd s0_0 s0_1), wrap64 (s0_1 + 1), IntKind.u64.wrap ((IntKind.u64.wrap ((IntKind.u64.wrap (s0_2 * 6364136223846793005)) + (IntKind.u64.wrap (wrap64 (rd s0_0 s0_1))))) + 1442695040888963407))) else (some (wrap64 (Go.bits .and .u64 ((IntKind.u64.wrap ((IntKind.u64.wrap ((IntKind.u64.wrap (s0_2 * 6364136223846793005)) + (IntKind.u64.wrap (wrap64 (rd s0_0 s0_1))))) + 1442695040888963407)) / 1099511627776) 255), wrap64 (s0_1 + 1), IntKind.u64.wrap ((IntKind.u64.wrap ((IntKind.u64.wrap (s0_2 * 6364136223846793005)) + (IntKind.u64.wrap (wrap64 (rd s0_0 s0_1))))) + 1442695040888963407)))) else (none)) else (if (wrap64 (s0_1 + 1)) ≤ (s0_0.length : Int) then (some (0, wrap64 (s0_1 + 1), IntKind.u64.wrap ((IntKind.u64.wrap ((IntKind.u64.wrap (s0_2 * 6364136223846793005)) + 0)) + 1442695040888963407))) else (some (wrap64 (Go.bits .and .u64 ((IntKind.u64.wrap ((IntKind.u64.wrap ((IntKind.u64.wrap (s0_2 * 6364136223846793005)) + 0)) + 1442695040888963407)) / 1099511627776) 255), wrap64 (s0_1 + 1), IntKind.u64.wrap ((IntKind.u64.wrap ((IntKind.u64.wrap (s0_2 * 6364136223846793005)) + 0)) + 1442695040888963407))))) = some (r1, r2, r3) := h
 clear h; by_cases c2 : s0_1 < (s0_0.length : Int)
 · rw [if_pos c2] at H
   have c2b0 : decide (s0_1 < (s0_0.length : Int)) = true := zba c2
   clear c2; by_cases c3 : 0 ≤ s0_1
   · rw [if_pos c3] at H
     have c3b0 : decide (0 ≤ s0_1) = true := zba c3
     clear c3; by_cases c4 : (wrap64 (s0_1 + 1)) ≤ (s0_0.length : Int)
     · rw [if_pos c4] at H
       have c4b0 : decide ((wrap64 (s0_1 + 1)) ≤ (s0_0.length : Int)) = true := zba c4
       clear c4; simp only [zbm, zbq] at H
       obtain ⟨rfl, rfl, rfl⟩ := H
       obtain ⟨ASz5_0, cSz5_0, HGz5, hgz5, HSz5_0⟩ := HI0.out
       have hcz5_0 := cellS51_0 HGz5; have hcz5_1 := cellS51_1 HGz5; have hcz5_2 := cellS51_2 HGz5; have hfz5_1 := blk_frozen HGz5 1
       have hfz5_2 := blk_frozen HGz5 2
       clear HGz5 hgz5; have p309 : 0 ≤ (s0_1 : Int) := zas (taab)
       have q309 : s0_1 < (s0_0.length : Int) := zas (taab)
       obtain ⟨ad309, e309, hx309_0⟩ := zbw HSz5_0 s0_1 p309 q309
       cases e309
       replace hx309_0 := pw_cell_below HB.out hx309_0
       replace p309 := eq_true p309
       replace q309 := eq_true q309
       go_enter Try.func77, Try.ntmps77
       go_wp2
       repeat (go_quiet (fail); try go_wp2)
       go_ret
       exact ⟨taaf, tacc, taan, taai⟩
     · rw [if_neg c4] at H
       have c4b0 : decide ((wrap64 (s0_1 + 1)) ≤ (s0_0.length : Int)) = false := zbk c4
       clear c4; simp only [zbm, zbq] at H
       obtain ⟨rfl, rfl, rfl⟩ := H
       obtain ⟨ASz6_0, cSz6_0, HGz6, hgz6, HSz6_0⟩ := HI0.out
       have hcz6_0 := cellS51_0 HGz6; have hcz6_1 := cellS51_1 HGz6; have hcz6_2 := cellS51_2 HGz6; have hfz6_1 := blk_frozen HGz6 1
       have hfz6_2 := blk_frozen HGz6 2
       clear HGz6 hgz6; have p309 : 0 ≤ (s0_1 : Int) := zas (taab)
       have q309 : s0_1 < (s0_0.length : Int) := zas (taab)
       obtain ⟨ad309, e309, hx309_0⟩ := zbw HSz6_0 s0_1 p309 q309
       cases e309
       replace hx309_0 := pw_cell_below HB.out hx309_0
       replace p309 := eq_true p309
       replace q309 := eq_true q309
       go_enter Try.func77, Try.ntmps77
       go_wp2
       repeat (go_quiet (fail); try go_wp2)
       go_ret
       exact ⟨taaf, tacc, taan, taai⟩
   · rw [if_neg c3] at H
     exact absurd H (taac)
 · rw [if_neg c2] at H
   have c2b0 : decide (s0_1 < (s0_0.length : Int)) = false := zbk c2
   clear c2; by_cases c7 : (wrap64 (s0_1 + 1)) ≤ (s0_0.length : Int)
   · rw [if_pos c7] at H
     have c7b0 : decide ((wrap64 (s0_1 + 1)) ≤ (s0_0.length : Int)) = true := zba c7
     clear c7; simp only [zbm, zbq] at H
     obtain ⟨rfl, rfl, rfl⟩ := H
     obtain ⟨ASz8_0, cSz8_0, HGz8, hgz8, HSz8_0⟩ := HI0.out
     have hcz8_0 := cellS51_0 HGz8; have hcz8_1 := cellS51_1 HGz8; have hcz8_2 := cellS51_2 HGz8; have hfz8_1 := blk_frozen HGz8 1
     have hfz8_2 := blk_frozen HGz8 2
     clear HGz8 hgz8; go_enter Try.func77, Try.ntmps77
     go_wp2
     repeat (go_quiet (fail); try go_wp2)
     go_ret
     exact ⟨taaf, tacc, taan, taai⟩
   · rw [if_neg c7] at H
     have c7b0 : decide ((wrap64 (s0_1 + 1)) ≤ (s0_0.length : Int)) = false := zbk c7
     clear c7; simp only [zbm, zbq] at H
     obtain ⟨rfl, rfl, rfl⟩ := H
     obtain ⟨ASz9_0, cSz9_0, HGz9, hgz9, HSz9_0⟩ := HI0.out
     have hcz9_0 := cellS51_0 HGz9; have hcz9_1 := cellS51_1 HGz9; have hcz9_2 := cellS51_2 HGz9; have hfz9_1 := blk_frozen HGz9 1
     have hfz9_2 := blk_frozen HGz9 2
     clear HGz9 hgz9; go_enter Try.func77, Try.ntmps77
     go_wp2
     repeat (go_quiet (fail); try go_wp2)
     go_ret
     exact ⟨taaf, tacc, taan, taai⟩
abbrev zcc := @IsS51.alloc
abbrev zcd := @IsS51.drewN
abbrev zce := @IsS51.drew
abbrev zcf := @IsS51.set_1
abbrev zcg := @IsS51.set_2
def spec_l1Cur_pick.f (s0_0 : List Int) (s0_1 : Int) (s0_2 : Int) (a1 : Int) : Option (Int × Int × Int) := if a1 ≤ 1 then (some (0, s0_1, s0_2)) else ((spec_l1Cur_next.f s0_0 s0_1 s0_2).bind fun bt310 => (if a1 > 200 then ((spec_l1Cur_next.f s0_0 bt310.2.1 bt310.2.2).bind fun bt313 => (if a1 = 0 then (none) else (some (Int.tmod (wrap64 ((wrap64 (bt310.1 * 256)) + bt313.1)) a1, bt313.2.1, bt313.2.2)))) else (if a1 = 0 then (none) else (some (Int.tmod bt310.1 a1, bt310.2.1, bt310.2.2)))))
theorem spec_l1Cur_pick.calls (g : Nat) (s0_0 : List Int) (s0_1 : Int) (s0_2 : Int) (a1 : Int) (r1 : Int) (r2 : Int) (r3 : Int) (w0 w : World) (hI : IsS51 w0 w g s0_0 s0_1 s0_2) (hB : Below w0.heap.size w0 w) (h : spec_l1Cur_pick.f s0_0 s0_1 s0_2 a1 = some (r1, r2, r3)) :
 Calls Try.prog 47 #[.pointer (some ⟨g, 0, none⟩), .int .i64 a1] w fun e w' => e = .returned (.int .i64 r1) ∧ IsS51 w0 w' g s0_0 r2 r3 ∧ Below w0.heap.size w0 w' ∧ KeepBut w w' g none := by
 have HI0 := zad hI; have HK := zad (KeepBut.refl w g none)
 have HL := zad hB.size; clear hI; have HW0 := zad hB.size; have HB := zad hB; clear hB; have H : (if a1 ≤ 1 then (some (0, s0_1, s0_2)) else ((spec_l1Cur_next.f s0_0 s0_1 s0_2).bind fun bt310 => (if a1 > 200 then ((spec_l1Cur_next.f s0_0 bt310.2.1 bt310.2.2).bind fun bt313 => (if a1 = 0 then (none) else (some (Int.tmod (wrap64 ((wrap64 (bt310.1 * 256)) + bt313.1)) a1, bt313.2.1, bt313.2.2)))) else (if a1 = 0 then (none) else (some (Int.tmod bt310.1 a1, bt310.2.1, bt310.2.2)))))) = some (r1, r2, r3) := h
 clear h; by_cases c3 : a1 ≤ 1
 · rw [if_pos c3] at H
   have c3b0 : decide (a1 ≤ 1) = true := zba c3
   clear c3; simp only [zbm, zbq] at H
   obtain ⟨rfl, rfl, rfl⟩ := H
   go_enter Try.func47, Try.ntmps47
   go_wp2
   go_ret
   exact ⟨taaf, taal, taan, taai⟩
 · rw [if_neg c3] at H
   have c3b0 : decide (a1 ≤ 1) = false := zbk c3
   clear c3; replace H := zay.mp H; obtain ⟨⟨t310, t311, t312⟩, A40, H⟩ := H
   replace H : (if a1 > 200 then ((spec_l1Cur_next.f s0_0 t311 t312).bind fun bt313 => (if a1 = 0 then (none) else (some (Int.tmod (wrap64 ((wrap64 (t310 * 256)) + bt313.1)) a1, bt313.2.1, bt313.2.2)))) else (if a1 = 0 then (none) else (some (Int.tmod t310 a1, t311, t312)))) = some (r1, r2, r3) := H
   have A4 := zad A40; clear A40; by_cases c5 : a1 > 200
   · rw [if_pos c5] at H
     have c5b0 : decide (200 < a1) = true := zba c5
     clear c5; replace H := zay.mp H; obtain ⟨⟨t313, t314, t315⟩, A60, H⟩ := H
     replace H : (if a1 = 0 then (none) else (some (Int.tmod (wrap64 ((wrap64 (t310 * 256)) + t313)) a1, t314, t315))) = some (r1, r2, r3) := H
     have A6 := zad A60; clear A60; by_cases c7 : a1 = 0
     · rw [if_pos c7] at H
       exact absurd H (taac)
     · rw [if_neg c7] at H
       have c7b0 : (a1 == 0) = false := zbp.mpr c7
       have c7b1 : (a1 != 0) = true := bne_iff_ne.mpr c7
       simp only [zbm, zbq] at H
       obtain ⟨rfl, rfl, rfl⟩ := H
       go_enter Try.func47, Try.ntmps47
       go_wp2_with (first | ((with_reducible refine zbi (f := 77) rfl ?_); refine zbo (some 9) rfl rfl Try.func77 (by kernel_rfl) rfl #[.pointer (some ⟨g, 0, none⟩)] rfl (taae) ?_; (with_reducible refine (spec_l1Cur_next.calls g s0_0 s0_1 s0_2 t310 t311 t312 w0 _ ?side1 ?side2 A4.out).mono ?_); (case side1 => repeat (first | (with_reducible first | exact HI0.out | apply zcc | apply zcd | apply zce | apply zcf | apply zcg) | exact HI0.out)); (case side2 => repeat (first | (with_reducible first | exact HB.out | apply zag | apply zae | apply zaf | refine zah ?_ (IsS51.ge HI0.out)) | exact HB.out)); rintro e w8 ⟨rfl, hi, hb, hk⟩; refine ⟨_, rfl, ?_⟩; have n0_ := zad (zbs (taai) hk (.inl rfl)); have n1_ := zad (hb); have n2_ := zad (hi); clear HK HB HI0; have HK := n0_; have HB := n1_; have HI0 := n2_; clear n0_ n1_ n2_; (try clear hb); (try clear hb2); (try clear hk); (try clear hi)) | ((with_reducible refine zbi (f := 77) rfl ?_); refine zbo (some 15) rfl rfl Try.func77 (by kernel_rfl) rfl #[.pointer (some ⟨g, 0, none⟩)] rfl (taae) ?_; (with_reducible refine (spec_l1Cur_next.calls g s0_0 t311 t312 t313 t314 t315 w0 _ ?side1 ?side2 A6.out).mono ?_); (case side1 => repeat (first | (with_reducible first | exact HI0.out | apply zcc | apply zcd | apply zce | apply zcf | apply zcg) | exact HI0.out)); (case side2 => repeat (first | (with_reducible first | exact HB.out | apply zag | apply zae | apply zaf | refine zah ?_ (IsS51.ge HI0.out)) | exact HB.out)); rintro e w9 ⟨rfl, hi, hb, hk⟩; refine ⟨_, rfl, ?_⟩; have n0_ := zad (zbs (taai) hk (.inl rfl)); have n1_ := zad (hb); have n2_ := zad (hi); clear HK HB HI0; have HK := n0_; have HB := n1_; have HI0 := n2_; clear n0_ n1_ n2_; (try clear hb); (try clear hb2); (try clear hk); (try clear hi)))
       go_ret
       exact ⟨taaf, taal, taan, taai⟩
   · rw [if_neg c5] at H
     have c5b0 : decide (200 < a1) = false := zbk c5
     clear c5; by_cases c10 : a1 = 0
     · rw [if_pos c10] at H
       exact absurd H (taac)
     · rw [if_neg c10] at H
       have c10b0 : (a1 == 0) = false := zbp.mpr c10
       have c10b1 : (a1 != 0) = true := bne_iff_ne.mpr c10
       simp only [zbm, zbq] at H
       obtain ⟨rfl, rfl, rfl⟩ := H
       go_enter Try.func47, Try.ntmps47
       go_wp2_with (first | ((with_reducible refine zbi (f := 77) rfl ?_); refine zbo (some 9) rfl rfl Try.func77 (by kernel_rfl) rfl #[.pointer (some ⟨g, 0, none⟩)] rfl (taae) ?_; (with_reducible refine (spec_l1Cur_next.calls g s0_0 s0_1 s0_2 t310 t311 t312 w0 _ ?side1 ?side2 A4.out).mono ?_); (case side1 => exact tafp); (case side2 => exact tafq); rintro e w11 ⟨rfl, hi, hb, hk⟩; refine ⟨_, rfl, ?_⟩; have n0_ := zad (zbs (taai) hk (.inl rfl)); have n1_ := zad (hb); have n2_ := zad (hi); clear HK HB HI0; have HK := n0_; have HB := n1_; have HI0 := n2_; clear n0_ n1_ n2_; (try clear hb); (try clear hb2); (try clear hk); (try clear hi)))
       go_ret
       exact ⟨taaf, taal, taan, taai⟩
def spec_l1Cur_among.f (s0_0 : List Int) (s0_1 : Int) (s0_2 : Int) (l1 : List Int) : Option (Int × Int × Int) := (spec_l1Cur_pick.f s0_0 s0_1 s0_2 (l1.length : Int)).bind fun bt319 => (if 0 ≤ bt319.1 then (if bt319.1 < (l1.length : Int) then (some (rd l1 bt319.1, bt319.2.1, bt319.2.2)) else (none)) else (none))
theorem spec_l1Cur_among.calls (g : Nat) (s0_0 : List Int) (s0_1 : Int) (s0_2 : Int) (A1 : Option Addr) (c1 : Nat) (l1 : List Int) (r1 : Int) (r2 : Int) (r3 : Int) (w0 w : World) (hI : IsS51 w0 w g s0_0 s0_1 s0_2) (hB : Below w0.heap.size w0 w) (hr1 : Kd.C (Kd.int .i64) w A1 l1.length l1) (hc1 : l1.length ≤ c1) (hf1 : ∀ ad, A1 = some ad → 0 < l1.length → ad.block ≠ g) (h : spec_l1Cur_among.f s0_0 s0_1 s0_2 l1 = some (r1, r2, r3)) :
 Calls Try.prog 62 #[.pointer (some ⟨g, 0, none⟩), .slice A1 l1.length c1] w fun e w' => e = .returned (.int .i64 r1) ∧ IsS51 w0 w' g s0_0 r2 r3 ∧ Below w0.heap.size w0 w' ∧ KeepBut w w' g none := by
 have HR1 := zad hr1; have HC1 := zad hc1; clear hr1 hc1; have HI0 := zad hI; have HK := zad (KeepBut.refl w g none)
 have HL := zad hB.size; clear hI; have HW0 := zad hB.size; have HB := zad hB; clear hB; have H : ((spec_l1Cur_pick.f s0_0 s0_1 s0_2 (l1.length : Int)).bind fun bt319 => (if 0 ≤ bt319.1 then (if bt319.1 < (l1.length : Int) then (some (rd l1 bt319.1, bt319.2.1, bt319.2.2)) else (none)) else (none))) = some (r1, r2, r3) := h
 clear h; replace H := zay.mp H; obtain ⟨⟨t319, t320, t321⟩, A30, H⟩ := H
 replace H : (if 0 ≤ t319 then (if t319 < (l1.length : Int) then (some (rd l1 t319, t320, t321)) else (none)) else (none)) = some (r1, r2, r3) := H
 have A3 := zad A30; clear A30; by_cases c4 : 0 ≤ t319
 · rw [if_pos c4] at H
   have c4b0 : decide (0 ≤ t319) = true := zba c4
   clear c4; by_cases c5 : t319 < (l1.length : Int)
   · rw [if_pos c5] at H
     have c5b0 : decide (t319 < (l1.length : Int)) = true := zba c5
     clear c5; simp only [zbm, zbq] at H
     obtain ⟨rfl, rfl, rfl⟩ := H
     go_enter Try.func62, Try.ntmps62
     go_wp2_with (first | ((with_reducible refine zbi (f := 47) rfl ?_); refine zbo (some 9) rfl rfl Try.func47 (by kernel_rfl) rfl #[.pointer (some ⟨g, 0, none⟩), .int .i64 (l1.length : Int)] rfl (taae) ?_; (with_reducible refine (spec_l1Cur_pick.calls g s0_0 s0_1 s0_2 (l1.length : Int) t319 t320 t321 w0 _ ?side1 ?side2 A3.out).mono ?_); (case side1 => exact tafp); (case side2 => exact tafq); rintro e w6 ⟨rfl, hi, hb, hk⟩; refine ⟨_, rfl, ?_⟩; have n0_ := zad (zbs (taai) hk (.inl rfl)); have n1_ := zad (hb); have n2_ := zad (hi); clear HK HB HI0; have HK := n0_; have HB := n1_; have HI0 := n2_; clear n0_ n1_ n2_; (try clear hb); (try clear hb2); (try clear hk); (try clear hi); have p322 : 0 ≤ (t319 : Int) := zas (taab); have q322 : t319 < (l1.length : Int) := zas (taab); obtain ⟨ad322, e322, hx322_0⟩ := zbw HR1.out t319 p322 q322; cases e322; replace hx322_0 := keep_cell HK.out hx322_0 (by first | (rw [add_block]; exact hf1 _ rfl (by omega)) | exact hf1 _ rfl (by omega) | exact hf1 ad322 rfl (by omega)); replace p322 := eq_true p322; replace q322 := eq_true q322))
     go_ret
     exact ⟨taaf, taal, taan, taai⟩
   · rw [if_neg c5] at H
     exact absurd H (taac)
 · rw [if_neg c4] at H
   exact absurd H (taac)
def spec_l1Cur_list.l0 : Nat → Int → List Int → Int → List Int → Int → Int → Option (List Int × Int × Int)
 | 0, _, _, _, _, _, _ => none
 | k + 1, x1, x5, x6, x1000, x1001, x1002 => if x6 > 0 then ((spec_l1Cur_pick.f x1000 x1001 x1002 (wrap64 (x1 + 1))).bind fun bt326 => (if x5.length < 17592186044416 then (spec_l1Cur_list.l0 k x1 (x5 ++ [bt326.1]) (wrap64 (x6 - 1)) x1000 bt326.2.1 bt326.2.2) else (none))) else (some (x5, x1001, x1002))
def spec_l1Cur_list.f (k : Nat) (s0_0 : List Int) (s0_1 : Int) (s0_2 : Int) (a1 : Int) : Option (List Int × Int × Int) := (spec_l1Cur_pick.f s0_0 s0_1 s0_2 6).bind fun bt323 => (spec_l1Cur_list.l0 k a1 ([] : List Int) (wrap64 (1 + bt323.1)) s0_0 bt323.2.1 bt323.2.2)
theorem spec_l1Cur_list.calls (k : Nat) (g : Nat) (s0_0 : List Int) (s0_1 : Int) (s0_2 : Int) (a1 : Int) (r1 : List Int) (r2 : Int) (r3 : Int) (w0 w : World) (hI : IsS51 w0 w g s0_0 s0_1 s0_2) (hB : Below w0.heap.size w0 w) (h : spec_l1Cur_list.f k s0_0 s0_1 s0_2 a1 = some (r1, r2, r3)) :
 Calls Try.prog 83 #[.pointer (some ⟨g, 0, none⟩), .int .i64 a1] w fun e w' => ∃ v0_ : Value, e = .returned (v0_) ∧ Kd.R (Kd.int .i64) 3 w' w.heap.size (fun _ => True) v0_ r1 ∧ IsS51 w0 w' g s0_0 r2 r3 ∧ Below w0.heap.size w0 w' ∧ KeepBut w w' g none := by
 have HI0 := zad hI; have HK := zad (KeepBut.refl w g none)
 have HL := zad hB.size; clear hI; have HW0 := zad hB.size; have HB := zad hB; clear hB; have H : ((spec_l1Cur_pick.f s0_0 s0_1 s0_2 6).bind fun bt323 => (spec_l1Cur_list.l0 k a1 ([] : List Int) (wrap64 (1 + bt323.1)) s0_0 bt323.2.1 bt323.2.2)) = some (r1, r2, r3) := h
 clear h; replace H := zay.mp H; obtain ⟨⟨t323, t324, t325⟩, A30, H⟩ := H
 replace H : (spec_l1Cur_list.l0 k a1 ([] : List Int) (wrap64 (1 + t323)) s0_0 t324 t325) = some (r1, r2, r3) := H
 have A3 := zad A30; clear A30; have H' := zad H
 clear H; go_enter Try.func83, Try.ntmps83
 go_wp2_with (first | ((with_reducible refine zbi (f := 47) rfl ?_); refine zbo (some 8) rfl rfl Try.func47 (by kernel_rfl) rfl #[.pointer (some ⟨g, 0, none⟩), .int .i64 6] rfl (taae) ?_; (with_reducible refine (spec_l1Cur_pick.calls g s0_0 s0_1 s0_2 6 t323 t324 t325 w0 _ ?side1 ?side2 A3.out).mono ?_); (case side1 => exact tafp); (case side2 => exact tafq); rintro e w4 ⟨rfl, hi, hb, hk⟩; refine ⟨_, rfl, ?_⟩; have n0_ := zad (zbs (taai) hk (.inl rfl)); have n1_ := zad (hb); have n2_ := zad (hi); clear HK HB HI0; have HK := n0_; have HB := n1_; have HI0 := n2_; clear n0_ n1_ n2_; (try clear hb); (try clear hb2); (try clear hk); (try clear hi)))
 go_loopg [5, 6] k (fun kq v5 v6 w' => ∃ (x5_1 : List Int) (x6_1 : Int) (x1001_1 : Int) (x1002_1 : Int), v6 = .int .i64 x6_1 ∧ Aside0 (spec_l1Cur_list.l0 kq a1 x5_1 x6_1 s0_0 x1001_1 x1002_1 = some (r1, r2, r3)) ∧ Aside0 (kq ≤ k) ∧ Aside0 (Kd.R (Kd.int .i64) 3 w' w.heap.size (fun _ => True) v5 x5_1) ∧ Aside0 (IsS51 w0 w' g s0_0 x1001_1 x1002_1) ∧ Aside0 (KeepBut w w' g none) ∧ Aside0 (Below w0.heap.size w0 w'))
 case atStart => exact ⟨(([] : List Int)), (wrap64 (1 + t323)), (t324), (t325), (taad), H', ⟨zcb _⟩, ⟨tabu⟩, ⟨taal⟩, ⟨taai⟩, ⟨taan⟩⟩
 case round =>
  clear H'
  try clear p2
  try clear c4
  obtain ⟨x5_1, x6_1, x1001_1, x1002_1, rfl, HA, HK1, HO_5, HI0, HK, HB⟩ := hrel
  cases gk with
  | zero => exact absurd HA.out (by simp [spec_l1Cur_list.l0])
  | succ k1 =>
   have H := HA.out
   clear HA; simp only [spec_l1Cur_list.l0] at H
   by_cases c5 : x6_1 > 0
   · rw [if_pos c5] at H
     have c5b0 : decide (0 < x6_1) = true := zba c5
     clear c5; replace H := zay.mp H; obtain ⟨⟨t326, t327, t328⟩, A60, H⟩ := H
     replace H : (if x5_1.length < 17592186044416 then (spec_l1Cur_list.l0 k1 a1 (x5_1 ++ [t326]) (wrap64 (x6_1 - 1)) s0_0 t327 t328) else (none)) = some (r1, r2, r3) := H
     have A6 := zad A60; clear A60; by_cases c7 : x5_1.length < 17592186044416
     · rw [if_pos c7] at H
       have LMc7 := zad c7; clear c7; obtain ⟨y329, hy329⟩ : ∃ y_ : List Int, y_ = (x5_1 ++ [t326]) := ⟨_, rfl⟩
       replace H : (spec_l1Cur_list.l0 k1 a1 y329 (wrap64 (x6_1 - 1)) s0_0 t327 t328) = some (r1, r2, r3) := by first | (rw [hy329]; with_reducible exact H) | (have H2_ := (zbe _ _).symm.trans H; rw [hy329]; with_reducible exact H2_) | (have H2_ := (zbe _ _).symm.trans H; with_reducible exact H2_) | with_reducible exact H | (rw [hy329]; exact H) | exact H
       have Ny329 := zad hy329; clear hy329; have H' := zad H
       clear H; go_wp2_with (first | ((with_reducible refine zbi (f := 47) rfl ?_); refine zbo (some 18) rfl rfl Try.func47 (by kernel_rfl) rfl #[.pointer (some ⟨g, 0, none⟩), .int .i64 (wrap64 (a1 + 1))] rfl (taae) ?_; (with_reducible refine (spec_l1Cur_pick.calls g s0_0 x1001_1 x1002_1 (wrap64 (a1 + 1)) t326 t327 t328 w0 _ ?side1 ?side2 A6.out).mono ?_); (case side1 => exact tafp); (case side2 => exact tafq); rintro e w8 ⟨rfl, hi, hb, hk⟩; refine ⟨_, rfl, ?_⟩; have n0_ := zad (zbr (Kd.R_keep (IsS51.apart (show IsS51 w0 _ g s0_0 x1001_1 x1002_1 from by exact tafm) (taah) (by decide)) hk (fun _ h => h.2)) (fun _ h => h.1)); have n1_ := zad (zbs (taai) hk (.inl rfl)); have n2_ := zad (hb); have n3_ := zad (hi); clear HO_5 HK HB HI0; have HO_5 := n0_; have HK := n1_; have HB := n2_; have HI0 := n3_; clear n0_ n1_ n2_ n3_; (try clear hb); (try clear hb2); (try clear hk); (try clear hi)) | ((with_reducible refine gate_builtin (b := .append) (xs := #[.tmp 14, .tmp 19]) rfl ?_); at_builtin; refine Kd.R_append (Kd.int .i64) w.heap.size rfl (.tmp 14) (.tmp 19) 22 3 (.int .i64 0) 8 rfl Try.underlying22 info3 rfl (by decide) (by omega) u5 x5_1 t326 [.int .i64 t326] (fun _ => True) (fun _ => False) rfl rfl ?aP (fun _ hk => hk.elim) ?aF ?aO (Below.refl _ _) ?aS ?aL ?_; (case aP => exact rfl); (case aF => exact (fun _ _ => trivial)); (case aO => exact (taah)); (case aS => exact (keep_size (w := w) (g := g) (row := none) (taai))); (case aL => have := LMc7.out; omega); intro v330 w9 ho hb hg hat; rw [← Ny329.out] at ho; have n0_ := zad (IsS51.grown (taal) hg (IsS51.own_ne HI0.out HO_5.out (by decide))); have n1_ := zad (below_weaken (taan) HL.out hb); have n2_ := zad (zbs (taai) (KeepBut.of_grown hg g) (Kd.R_base2 HO_5.out)); have n3_ := zad (ho); clear HI0 HB HK HO_5; have HI0 := n0_; have HB := n1_; have HK := n2_; have HO331 := n3_; clear n0_ n1_ n2_ n3_ ho hb hg hat))
       go_roundg k1
       case measure => have := HK1.out; omega
       case rel => exact ⟨(y329), (wrap64 (x6_1 - 1)), (t327), (t328), (taad), H', ⟨taat⟩, ⟨by (with_reducible repeat (first | apply zai | apply zaj | apply zak)); exact HO331.out⟩, ⟨taal⟩, ⟨taai⟩, ⟨taan⟩⟩
     · rw [if_neg c7] at H
       exact absurd H (taac)
   · rw [if_neg c5] at H
     have c5b0 : decide (0 < x6_1) = false := zbk c5
     clear c5; simp only [zbm, zbq] at H
     obtain ⟨rfl, rfl, rfl⟩ := H
     go_wp2
     go_ret
     exact ⟨_, taaf, taah, taal, taan, taai⟩
def spec_l1Cur_anyList.l0 : Nat → List Int → List Int → Int → Int → Option (List Int × Int × Int)
 | 0, _, _, _, _ => none
 | k + 1, x5, x1000, x1001, x1002 => (spec_l1Cur_pick.f x1000 x1001 x1002 2).bind fun bt349 => (if (x5.length : Int) < (wrap64 (8 + bt349.1)) then ((spec_l1Cur_pick.f x1000 bt349.2.1 bt349.2.2 9).bind fun bt352 => (if x5.length < 17592186044416 then (spec_l1Cur_anyList.l0 k (x5 ++ [bt352.1]) x1000 bt352.2.1 bt352.2.2) else (none))) else (some (x5, bt349.2.1, bt349.2.2)))
def spec_l1Cur_anyList.f (k : Nat) (s0_0 : List Int) (s0_1 : Int) (s0_2 : Int) (a1 : Int) : Option (List Int × Int × Int) := (spec_l1Cur_list.f k s0_0 s0_1 s0_2 a1).bind fun bt332 => ((spec_l1Cur_pick.f s0_0 bt332.2.1 bt332.2.2 14).bind fun bt337 => (if bt337.1 = 0 then ((spec_l1Cur_among.f s0_0 bt337.2.1 bt337.2.2 (([(-1), 0, 60, 61] : List Int))).bind fun bt343 => (if bt332.1.length < 17592186044416 then (some ((bt332.1 ++ [bt343.1]), bt343.2.1, bt343.2.2)) else (none))) else (if bt337.1 = 1 then (spec_l1Cur_anyList.l0 k bt332.1 s0_0 bt337.2.1 bt337.2.2) else (if bt337.1 = 2 then (some (([] : List Int), bt337.2.1, bt337.2.2)) else (some (bt332.1, bt337.2.1, bt337.2.2))))))
theorem spec_l1Cur_anyList.calls (k : Nat) (g : Nat) (s0_0 : List Int) (s0_1 : Int) (s0_2 : Int) (a1 : Int) (r1 : List Int) (r2 : Int) (r3 : Int) (w0 w : World) (hI : IsS51 w0 w g s0_0 s0_1 s0_2) (hB : Below w0.heap.size w0 w) (h : spec_l1Cur_anyList.f k s0_0 s0_1 s0_2 a1 = some (r1, r2, r3)) :
 Calls Try.prog 61 #[.pointer (some ⟨g, 0, none⟩), .int .i64 a1] w fun e w' => ∃ v0_ : Value, e = .returned (v0_) ∧ Kd.R (Kd.int .i64) 3 w' w.heap.size (fun _ => True) v0_ r1 ∧ IsS51 w0 w' g s0_0 r2 r3 ∧ Below w0.heap.size w0 w' ∧ KeepBut w w' g none := by
 have HI0 := zad hI; have HK := zad (KeepBut.refl w g none)
 have HL := zad hB.size; clear hI; have HW0 := zad hB.size; have HB := zad hB; clear hB; have H : ((spec_l1Cur_list.f k s0_0 s0_1 s0_2 a1).bind fun bt332 => ((spec_l1Cur_pick.f s0_0 bt332.2.1 bt332.2.2 14).bind fun bt337 => (if bt337.1 = 0 then ((spec_l1Cur_among.f s0_0 bt337.2.1 bt337.2.2 (([(-1), 0, 60, 61] : List Int))).bind fun bt343 => (if bt332.1.length < 17592186044416 then (some ((bt332.1 ++ [bt343.1]), bt343.2.1, bt343.2.2)) else (none))) else (if bt337.1 = 1 then (spec_l1Cur_anyList.l0 k bt332.1 s0_0 bt337.2.1 bt337.2.2) else (if bt337.1 = 2 then (some (([] : List Int), bt337.2.1, bt337.2.2)) else (some (bt332.1, bt337.2.1, bt337.2.2))))))) = some (r1, r2, r3) := h
 clear h; replace H := zay.mp H; obtain ⟨⟨t332, t335, t336⟩, A30, H⟩ := H
 replace H : ((spec_l1Cur_pick.f s0_0 t335 t336 14).bind fun bt337 => (if bt337.1 = 0 then ((spec_l1Cur_among.f s0_0 bt337.2.1 bt337.2.2 (([(-1), 0, 60, 61] : List Int))).bind fun bt343 => (if t332.length < 17592186044416 then (some ((t332 ++ [bt343.1]), bt343.2.1, bt343.2.2)) else (none))) else (if bt337.1 = 1 then (spec_l1Cur_anyList.l0 k t332 s0_0 bt337.2.1 bt337.2.2) else (if bt337.1 = 2 then (some (([] : List Int), bt337.2.1, bt337.2.2)) else (some (t332, bt337.2.1, bt337.2.2)))))) = some (r1, r2, r3) := H
 have A3 := zad A30; clear A30; replace H := zay.mp H; obtain ⟨⟨t337, t338, t339⟩, A40, H⟩ := H
 replace H : (if t337 = 0 then ((spec_l1Cur_among.f s0_0 t338 t339 (([(-1), 0, 60, 61] : List Int))).bind fun bt343 => (if t332.length < 17592186044416 then (some ((t332 ++ [bt343.1]), bt343.2.1, bt343.2.2)) else (none))) else (if t337 = 1 then (spec_l1Cur_anyList.l0 k t332 s0_0 t338 t339) else (if t337 = 2 then (some (([] : List Int), t338, t339)) else (some (t332, t338, t339))))) = some (r1, r2, r3) := H
 have A4 := zad A40; clear A40; by_cases c5 : t337 = 0
 · rw [if_pos c5] at H
   have c5b0 : (t337 == 0) = true := beq_iff_eq.mpr c5
   have c5b1 : (t337 != 0) = false := bne_eq_false_iff_eq.mpr c5
   clear c5; obtain ⟨y340, hy340⟩ : ∃ y_ : List Int, y_ = (([(-1), 0, 60, 61] : List Int)) := ⟨_, rfl⟩
   replace H : ((spec_l1Cur_among.f s0_0 t338 t339 y340).bind fun bt343 => (if t332.length < 17592186044416 then (some ((t332 ++ [bt343.1]), bt343.2.1, bt343.2.2)) else (none))) = some (r1, r2, r3) := by first | (rw [hy340]; with_reducible exact H) | (have H2_ := (zbe _ _).symm.trans H; rw [hy340]; with_reducible exact H2_) | (have H2_ := (zbe _ _).symm.trans H; with_reducible exact H2_) | with_reducible exact H | (rw [hy340]; exact H) | exact H
   have Ny340 := zad hy340; clear hy340; replace H := zay.mp H; obtain ⟨⟨t343, t344, t345⟩, A60, H⟩ := H
   replace H : (if t332.length < 17592186044416 then (some ((t332 ++ [t343]), t344, t345)) else (none)) = some (r1, r2, r3) := H
   have A6 := zad A60; clear A60; by_cases c7 : t332.length < 17592186044416
   · rw [if_pos c7] at H
     have LMc7 := zad c7; clear c7; obtain ⟨y346, hy346⟩ : ∃ y_ : List Int, y_ = (t332 ++ [t343]) := ⟨_, rfl⟩
     replace H : (some (y346, t344, t345)) = some (r1, r2, r3) := by first | (rw [hy346]; with_reducible exact H) | (have H2_ := (zbe _ _).symm.trans H; rw [hy346]; with_reducible exact H2_) | (have H2_ := (zbe _ _).symm.trans H; with_reducible exact H2_) | with_reducible exact H | (rw [hy346]; exact H) | exact H
     have Ny346 := zad hy346; clear hy346; simp only [zbm, zbq] at H
     obtain ⟨rfl, rfl, rfl⟩ := H
     go_enter Try.func61, Try.ntmps61
     go_wp2_with (first | ((with_reducible refine zbi (f := 83) rfl ?_); refine zbo (some 8) rfl rfl Try.func83 (by kernel_rfl) rfl #[.pointer (some ⟨g, 0, none⟩), .int .i64 a1] rfl (taae) ?_; (with_reducible refine (spec_l1Cur_list.calls k g s0_0 s0_1 s0_2 a1 t332 t335 t336 w0 _ ?side1 ?side2 A3.out).mono ?_); (case side1 => repeat (first | (with_reducible first | exact HI0.out | apply zcc | apply zcd | apply zce | apply zcf | apply zcg) | exact HI0.out)); (case side2 => repeat (first | (with_reducible first | exact HB.out | apply zag | apply zae | apply zaf | refine zah ?_ (IsS51.ge HI0.out)) | exact HB.out)); rintro e w8 ⟨v333, rfl, ho0, hi, hb, hk⟩; refine ⟨_, rfl, ?_⟩; have n0_ := zad (zbu ho0 (keep_size (w := w) (g := g) (row := none) (taai))); have n1_ := zad (zbs (taai) hk (.inl rfl)); have n2_ := zad (hb); have n3_ := zad (hi); clear HK HB HI0; have HO334 := n0_; have HK := n1_; have HB := n2_; have HI0 := n3_; clear n0_ n1_ n2_ n3_; (try clear hb); (try clear hb2); (try clear hk); (try clear hi); (try clear ho0)) | ((with_reducible refine zbi (f := 47) rfl ?_); refine zbo (some 10) rfl rfl Try.func47 (by kernel_rfl) rfl #[.pointer (some ⟨g, 0, none⟩), .int .i64 14] rfl (taae) ?_; (with_reducible refine (spec_l1Cur_pick.calls g s0_0 t335 t336 14 t337 t338 t339 w0 _ ?side1 ?side2 A4.out).mono ?_); (case side1 => repeat (first | (with_reducible first | exact HI0.out | apply zcc | apply zcd | apply zce | apply zcf | apply zcg) | exact HI0.out)); (case side2 => repeat (first | (with_reducible first | exact HB.out | apply zag | apply zae | apply zaf | refine zah ?_ (IsS51.ge HI0.out)) | exact HB.out)); rintro e w9 ⟨rfl, hi, hb, hk⟩; refine ⟨_, rfl, ?_⟩; have n0_ := zad (zbr (Kd.R_keep (IsS51.apart (show IsS51 w0 _ g s0_0 t335 t336 from by exact tafm) (tabe) (by decide)) hk (fun _ h => h.2)) (fun _ h => h.1)); have n1_ := zad (zbs (taai) hk (.inl rfl)); have n2_ := zad (hb); have n3_ := zad (hi); clear HO334 HK HB HI0; have HO334 := n0_; have HK := n1_; have HB := n2_; have HI0 := n3_; clear n0_ n1_ n2_ n3_; (try clear hb); (try clear hb2); (try clear hk); (try clear hi)) | ((with_reducible refine gate_dst (N := 15) rfl ?_); refine Kd.R_lit (Kd.int .i64) _ 3 ?hg (N := 15) ?hd (xs := ([(-1), 0, 60, 61] : List Int)) (inner := [.int .i64 (-1), .int .i64 0, .int .i64 60, .int .i64 61]) (ok := fun _ => True) (okp := fun _ => True) ?hr ?hp (fun _ hk => hk) trivial (Below.refl _ _) (zcb _) (taac) ?_; (case hd => rfl); (case hg => rfl); (case hr => first | (go_simp; done) | (go_simp; rfl)); (case hp => exact (Reps.one (show Kd.M (Kd.int .i64) _ _ _ (-1) [.int .i64 (-1)] from rfl) (Reps.one (show Kd.M (Kd.int .i64) _ _ _ 0 [.int .i64 0] from rfl) (Reps.one (show Kd.M (Kd.int .i64) _ _ _ 60 [.int .i64 60] from rfl) (Reps.one (show Kd.M (Kd.int .i64) _ _ _ 61 [.int .i64 61] from rfl) (Reps.none _ _)))))); intro v341 w10 ho11 hb hg_ hnew_; clear hg_ hnew_; (first | rw [← Ny340.out] at ho11 | (simp only [Int.reduceToNat] at ho11; rw [← Ny340.out] at ho11)); have n0_ := zad (zbx (tabe) (zbz ho11) hb); have n1_ := zad (zbu (zby ho11 (zca (tabe))) (keep_size (w := w) (g := g) (row := none) (taai))); have n2_ := zad (IsS51.below (taal) hb); have n3_ := zad (zbs (taai) (KeepBut.of_below hb g none) (.inl rfl)); have n4_ := zad (zbh (taan) hb); clear HO334 HI0 HK HB; have HO334 := n0_; have HO342 := n1_; have HI0 := n2_; have HK := n3_; have HB := n4_; clear n0_ n1_ n2_ n3_ n4_ hb ho11; obtain ⟨Ao12, co12, eo12⟩ := zbv HO342.out; subst eo12) | ((with_reducible refine zbi (f := 62) rfl ?_); refine zbo (some 16) rfl rfl Try.func62 (by kernel_rfl) rfl #[.pointer (some ⟨g, 0, none⟩), .slice Ao12 y340.length co12] rfl (taae) ?_; (with_reducible refine (spec_l1Cur_among.calls g s0_0 t338 t339 _ _ y340 t343 t344 t345 w0 _ ?side1 ?side2 ?side3 ?side4 ?side5 A6.out).mono ?_); (case side1 => repeat (first | (with_reducible first | exact HI0.out | apply zcc | apply zcd | apply zce | apply zcf | apply zcg) | exact HI0.out)); (case side2 => repeat (first | (with_reducible first | exact HB.out | apply zag | apply zae | apply zaf | refine zah ?_ (IsS51.ge HI0.out)) | exact HB.out)); (case side3 => repeat (first | exact (zbg HO342.out).2.2 | (with_reducible refine zal ?_ _) | (with_reducible refine zam ?_ _) | (with_reducible refine zan ?_))); (case side4 => exact (zbg HO342.out).2.1); (case side5 => exact far_slice (IsS51.own_ne HI0.out HO342.out (by decide))); rintro e w13 ⟨rfl, hi, hb, hk⟩; refine ⟨_, rfl, ?_⟩; have n0_ := zad (zbr (Kd.R_keep (IsS51.apart (show IsS51 w0 _ g s0_0 t338 t339 from by exact tafm) (tabe) (by decide)) hk (fun _ h => h.2)) (fun _ h => h.1)); have n1_ := zad (zbr (Kd.R_keep (IsS51.apart (show IsS51 w0 _ g s0_0 t338 t339 from by exact tafm) (tacw) (by decide)) hk (fun _ h => h.2)) (fun _ h => h.1)); have n2_ := zad (zbs (taai) hk (.inl rfl)); have n3_ := zad (hb); have n4_ := zad (hi); clear HO334 HO342 HK HB HI0; have HO334 := n0_; have HO342 := n1_; have HK := n2_; have HB := n3_; have HI0 := n4_; clear n0_ n1_ n2_ n3_ n4_; (try clear hb); (try clear hb2); (try clear hk); (try clear hi)) | ((with_reducible refine gate_builtin (b := .append) (xs := #[.tmp 13, .tmp 17]) rfl ?_); at_builtin; refine Kd.R_append (Kd.int .i64) w.heap.size rfl (.tmp 13) (.tmp 17) 22 3 (.int .i64 0) 8 rfl Try.underlying22 info3 rfl (by decide) (by omega) v333 t332 t343 [.int .i64 t343] (fun k_ => some k_ ≠ (.slice Ao12 y340.length co12 : Value).ownBlock) (fun _ => False) rfl rfl ?aP (fun _ hk => hk.elim) ?aF ?aO (Below.refl _ _) ?aS ?aL ?_; (case aP => exact rfl); (case aF => exact (fun k_ hk => Kd.fresh' (zca (tacw)) k_ hk)); (case aO => exact (by (with_reducible repeat (first | apply zai | apply zaj | apply zak)); exact zbr HO334.out (fun _ hk => hk.2))); (case aS => exact (keep_size (w := w) (g := g) (row := none) (taai))); (case aL => have := LMc7.out; omega); intro v347 w14 ho hb hg hat; rw [← Ny346.out] at ho; have n0_ := zad (IsS51.grown (taal) hg (IsS51.own_ne HI0.out HO334.out (by decide))); have n1_ := zad (Kd.R_after (ok := (fun _ => True)) (tacw) hg hat); have n2_ := zad (below_weaken (taan) HL.out hb); have n3_ := zad (zbs (taai) (KeepBut.of_grown hg g) (Kd.R_base2 HO334.out)); have n4_ := zad (ho); clear HI0 HO342 HB HK HO334; have HI0 := n0_; have HO342 := n1_; have HB := n2_; have HK := n3_; have HO348 := n4_; clear n0_ n1_ n2_ n3_ n4_ ho hb hg hat))
     go_ret
     exact ⟨_, taaf, by (with_reducible repeat (first | apply zai | apply zaj | apply zak)); exact zbr HO348.out (fun _ hk => trivial), taal, taan, taai⟩
   · rw [if_neg c7] at H
     exact absurd H (taac)
 · rw [if_neg c5] at H
   have c5b0 : (t337 == 0) = false := zbp.mpr c5
   have c5b1 : (t337 != 0) = true := bne_iff_ne.mpr c5
   by_cases c15 : t337 = 1
   · rw [if_pos c15] at H
     have c15b0 : (t337 == 1) = true := beq_iff_eq.mpr c15
     have c15b1 : (t337 != 1) = false := bne_eq_false_iff_eq.mpr c15
     clear c15; have H' := zad H
     clear H; go_enter Try.func61, Try.ntmps61
     go_wp2_with (first | ((with_reducible refine zbi (f := 83) rfl ?_); refine zbo (some 8) rfl rfl Try.func83 (by kernel_rfl) rfl #[.pointer (some ⟨g, 0, none⟩), .int .i64 a1] rfl (taae) ?_; (with_reducible refine (spec_l1Cur_list.calls k g s0_0 s0_1 s0_2 a1 t332 t335 t336 w0 _ ?side1 ?side2 A3.out).mono ?_); (case side1 => repeat (first | (with_reducible first | exact HI0.out | apply zcc | apply zcd | apply zce | apply zcf | apply zcg) | exact HI0.out)); (case side2 => repeat (first | (with_reducible first | exact HB.out | apply zag | apply zae | apply zaf | refine zah ?_ (IsS51.ge HI0.out)) | exact HB.out)); rintro e w16 ⟨v333, rfl, ho0, hi, hb, hk⟩; refine ⟨_, rfl, ?_⟩; have n0_ := zad (zbu ho0 (keep_size (w := w) (g := g) (row := none) (taai))); have n1_ := zad (zbs (taai) hk (.inl rfl)); have n2_ := zad (hb); have n3_ := zad (hi); clear HK HB HI0; have HO334 := n0_; have HK := n1_; have HB := n2_; have HI0 := n3_; clear n0_ n1_ n2_ n3_; (try clear hb); (try clear hb2); (try clear hk); (try clear hi); (try clear ho0)) | ((with_reducible refine zbi (f := 47) rfl ?_); refine zbo (some 10) rfl rfl Try.func47 (by kernel_rfl) rfl #[.pointer (some ⟨g, 0, none⟩), .int .i64 14] rfl (taae) ?_; (with_reducible refine (spec_l1Cur_pick.calls g s0_0 t335 t336 14 t337 t338 t339 w0 _ ?side1 ?side2 A4.out).mono ?_); (case side1 => repeat (first | (with_reducible first | exact HI0.out | apply zcc | apply zcd | apply zce | apply zcf | apply zcg) | exact HI0.out)); (case side2 => repeat (first | (with_reducible first | exact HB.out | apply zag | apply zae | apply zaf | refine zah ?_ (IsS51.ge HI0.out)) | exact HB.out)); rintro e w17 ⟨rfl, hi, hb, hk⟩; refine ⟨_, rfl, ?_⟩; have n0_ := zad (zbr (Kd.R_keep (IsS51.apart (show IsS51 w0 _ g s0_0 t335 t336 from by exact tafm) (tabe) (by decide)) hk (fun _ h => h.2)) (fun _ h => h.1)); have n1_ := zad (zbs (taai) hk (.inl rfl)); have n2_ := zad (hb); have n3_ := zad (hi); clear HO334 HK HB HI0; have HO334 := n0_; have HK := n1_; have HB := n2_; have HI0 := n3_; clear n0_ n1_ n2_ n3_; (try clear hb); (try clear hb2); (try clear hk); (try clear hi)))
     go_loopg [5] k (fun kq v5 w' => ∃ (x5_1 : List Int) (x1001_1 : Int) (x1002_1 : Int), Aside0 (spec_l1Cur_anyList.l0 kq x5_1 s0_0 x1001_1 x1002_1 = some (r1, r2, r3)) ∧ Aside0 (kq ≤ k) ∧ Aside0 (Kd.R (Kd.int .i64) 3 w' w.heap.size (fun _ => True) v5 x5_1) ∧ Aside0 (IsS51 w0 w' g s0_0 x1001_1 x1002_1) ∧ Aside0 (KeepBut w w' g none) ∧ Aside0 (Below w0.heap.size w0 w'))
     case atStart => exact ⟨(t332), (t338), (t339), H', ⟨zcb _⟩, ⟨tabe⟩, ⟨taal⟩, ⟨taai⟩, ⟨taan⟩⟩
     case round =>
      clear H'
      try clear c1
      try clear p2
      try clear c4
      try clear c5
      try clear c5b0
      try clear c5b1
      try clear c6
      try clear c7
      try clear c8
      try clear c15
      try clear c15b0
      try clear c15b1
      obtain ⟨x5_1, x1001_1, x1002_1, HA, HK1, HO_5, HI0, HK, HB⟩ := hrel
      cases gk with
      | zero => exact absurd HA.out (by simp [spec_l1Cur_anyList.l0])
      | succ k1 =>
       have H := HA.out
       clear HA; simp only [spec_l1Cur_anyList.l0] at H
       replace H := zay.mp H; obtain ⟨⟨t349, t350, t351⟩, A180, H⟩ := H
       replace H : (if (x5_1.length : Int) < (wrap64 (8 + t349)) then ((spec_l1Cur_pick.f s0_0 t350 t351 9).bind fun bt352 => (if x5_1.length < 17592186044416 then (spec_l1Cur_anyList.l0 k1 (x5_1 ++ [bt352.1]) s0_0 bt352.2.1 bt352.2.2) else (none))) else (some (x5_1, t350, t351))) = some (r1, r2, r3) := H
       have A18 := zad A180; clear A180; by_cases c19 : (x5_1.length : Int) < (wrap64 (8 + t349))
       · rw [if_pos c19] at H
         have c19b0 : decide ((x5_1.length : Int) < (wrap64 (8 + t349))) = true := zba c19
         clear c19; replace H := zay.mp H; obtain ⟨⟨t352, t353, t354⟩, A200, H⟩ := H
         replace H : (if x5_1.length < 17592186044416 then (spec_l1Cur_anyList.l0 k1 (x5_1 ++ [t352]) s0_0 t353 t354) else (none)) = some (r1, r2, r3) := H
         have A20 := zad A200; clear A200; by_cases c21 : x5_1.length < 17592186044416
         · rw [if_pos c21] at H
           have LMc21 := zad c21; clear c21; obtain ⟨y355, hy355⟩ : ∃ y_ : List Int, y_ = (x5_1 ++ [t352]) := ⟨_, rfl⟩
           replace H : (spec_l1Cur_anyList.l0 k1 y355 s0_0 t353 t354) = some (r1, r2, r3) := by first | (rw [hy355]; with_reducible exact H) | (have H2_ := (zbe _ _).symm.trans H; rw [hy355]; with_reducible exact H2_) | (have H2_ := (zbe _ _).symm.trans H; with_reducible exact H2_) | with_reducible exact H | (rw [hy355]; exact H) | exact H
           have Ny355 := zad hy355; clear hy355; have H' := zad H
           clear H; obtain ⟨Ao22, co22, eo22⟩ := zbv HO_5.out
           subst eo22; go_wp2_with (first | ((with_reducible refine zbi (f := 47) rfl ?_); refine zbo (some 24) rfl rfl Try.func47 (by kernel_rfl) rfl #[.pointer (some ⟨g, 0, none⟩), .int .i64 2] rfl (taae) ?_; (with_reducible refine (spec_l1Cur_pick.calls g s0_0 x1001_1 x1002_1 2 t349 t350 t351 w0 _ ?side1 ?side2 A18.out).mono ?_); (case side1 => repeat (first | (with_reducible first | exact HI0.out | apply zcc | apply zcd | apply zce | apply zcf | apply zcg) | exact HI0.out)); (case side2 => repeat (first | (with_reducible first | exact HB.out | apply zag | apply zae | apply zaf | refine zah ?_ (IsS51.ge HI0.out)) | exact HB.out)); rintro e w23 ⟨rfl, hi, hb, hk⟩; refine ⟨_, rfl, ?_⟩; have n0_ := zad (zbr (Kd.R_keep (IsS51.apart (show IsS51 w0 _ g s0_0 x1001_1 x1002_1 from by exact tafm) (taah) (by decide)) hk (fun _ h => h.2)) (fun _ h => h.1)); have n1_ := zad (zbs (taai) hk (.inl rfl)); have n2_ := zad (hb); have n3_ := zad (hi); clear HO_5 HK HB HI0; have HO_5 := n0_; have HK := n1_; have HB := n2_; have HI0 := n3_; clear n0_ n1_ n2_ n3_; (try clear hb); (try clear hb2); (try clear hk); (try clear hi)) | ((with_reducible refine zbi (f := 47) rfl ?_); refine zbo (some 29) rfl rfl Try.func47 (by kernel_rfl) rfl #[.pointer (some ⟨g, 0, none⟩), .int .i64 9] rfl (taae) ?_; (with_reducible refine (spec_l1Cur_pick.calls g s0_0 t350 t351 9 t352 t353 t354 w0 _ ?side1 ?side2 A20.out).mono ?_); (case side1 => repeat (first | (with_reducible first | exact HI0.out | apply zcc | apply zcd | apply zce | apply zcf | apply zcg) | exact HI0.out)); (case side2 => repeat (first | (with_reducible first | exact HB.out | apply zag | apply zae | apply zaf | refine zah ?_ (IsS51.ge HI0.out)) | exact HB.out)); rintro e w24 ⟨rfl, hi, hb, hk⟩; refine ⟨_, rfl, ?_⟩; have n0_ := zad (zbr (Kd.R_keep (IsS51.apart (show IsS51 w0 _ g s0_0 t350 t351 from by exact tafm) (taah) (by decide)) hk (fun _ h => h.2)) (fun _ h => h.1)); have n1_ := zad (zbs (taai) hk (.inl rfl)); have n2_ := zad (hb); have n3_ := zad (hi); clear HO_5 HK HB HI0; have HO_5 := n0_; have HK := n1_; have HB := n2_; have HI0 := n3_; clear n0_ n1_ n2_ n3_; (try clear hb); (try clear hb2); (try clear hk); (try clear hi)) | ((with_reducible refine gate_builtin (b := .append) (xs := #[.tmp 27, .tmp 30]) rfl ?_); at_builtin; refine Kd.R_append (Kd.int .i64) w.heap.size rfl (.tmp 27) (.tmp 30) 22 3 (.int .i64 0) 8 rfl Try.underlying22 info3 rfl (by decide) (by omega) (.slice Ao22 x5_1.length co22) x5_1 t352 [.int .i64 t352] (fun _ => True) (fun _ => False) rfl rfl ?aP (fun _ hk => hk.elim) ?aF ?aO (Below.refl _ _) ?aS ?aL ?_; (case aP => exact rfl); (case aF => exact (fun _ _ => trivial)); (case aO => exact (taah)); (case aS => exact (keep_size (w := w) (g := g) (row := none) (taai))); (case aL => have := LMc21.out; omega); intro v356 w25 ho hb hg hat; rw [← Ny355.out] at ho; have n0_ := zad (IsS51.grown (taal) hg (IsS51.own_ne HI0.out HO_5.out (by decide))); have n1_ := zad (below_weaken (taan) HL.out hb); have n2_ := zad (zbs (taai) (KeepBut.of_grown hg g) (Kd.R_base2 HO_5.out)); have n3_ := zad (ho); clear HI0 HB HK HO_5; have HI0 := n0_; have HB := n1_; have HK := n2_; have HO357 := n3_; clear n0_ n1_ n2_ n3_ ho hb hg hat))
           go_roundg k1
           case measure => have := HK1.out; omega
           case rel => exact ⟨(y355), (t353), (t354), H', ⟨taat⟩, ⟨by (with_reducible repeat (first | apply zai | apply zaj | apply zak)); exact HO357.out⟩, ⟨taal⟩, ⟨taai⟩, ⟨taan⟩⟩
         · rw [if_neg c21] at H
           exact absurd H (taac)
       · rw [if_neg c19] at H
         have c19b0 : decide ((x5_1.length : Int) < (wrap64 (8 + t349))) = false := zbk c19
         clear c19; simp only [zbm, zbq] at H
         obtain ⟨rfl, rfl, rfl⟩ := H
         obtain ⟨Ao26, co26, eo26⟩ := zbv HO_5.out
         subst eo26; go_wp2_with (first | ((with_reducible refine zbi (f := 47) rfl ?_); refine zbo (some 24) rfl rfl Try.func47 (by kernel_rfl) rfl #[.pointer (some ⟨g, 0, none⟩), .int .i64 2] rfl (taae) ?_; (with_reducible refine (spec_l1Cur_pick.calls g s0_0 x1001_1 x1002_1 2 t349 t350 t351 w0 _ ?side1 ?side2 A18.out).mono ?_); (case side1 => exact tafp); (case side2 => exact tafq); rintro e w27 ⟨rfl, hi, hb, hk⟩; refine ⟨_, rfl, ?_⟩; have n0_ := zad (zbr (Kd.R_keep (IsS51.apart (show IsS51 w0 _ g s0_0 x1001_1 x1002_1 from by exact tafm) (taah) (by decide)) hk (fun _ h => h.2)) (fun _ h => h.1)); have n1_ := zad (zbs (taai) hk (.inl rfl)); have n2_ := zad (hb); have n3_ := zad (hi); clear HO_5 HK HB HI0; have HO_5 := n0_; have HK := n1_; have HB := n2_; have HI0 := n3_; clear n0_ n1_ n2_ n3_; (try clear hb); (try clear hb2); (try clear hk); (try clear hi)))
         go_ret
         exact ⟨_, taaf, taah, taal, taan, taai⟩
   · rw [if_neg c15] at H
     have c15b0 : (t337 == 1) = false := zbp.mpr c15
     have c15b1 : (t337 != 1) = true := bne_iff_ne.mpr c15
     by_cases c28 : t337 = 2
     · rw [if_pos c28] at H
       have c28b0 : (t337 == 2) = true := beq_iff_eq.mpr c28
       have c28b1 : (t337 != 2) = false := bne_eq_false_iff_eq.mpr c28
       clear c28; simp only [zbm, zbq] at H
       obtain ⟨rfl, rfl, rfl⟩ := H
       go_enter Try.func61, Try.ntmps61
       go_wp2_with (first | ((with_reducible refine zbi (f := 83) rfl ?_); refine zbo (some 8) rfl rfl Try.func83 (by kernel_rfl) rfl #[.pointer (some ⟨g, 0, none⟩), .int .i64 a1] rfl (taae) ?_; (with_reducible refine (spec_l1Cur_list.calls k g s0_0 s0_1 s0_2 a1 t332 t335 t336 w0 _ ?side1 ?side2 A3.out).mono ?_); (case side1 => repeat (first | (with_reducible first | exact HI0.out | apply zcc | apply zcd | apply zce | apply zcf | apply zcg) | exact HI0.out)); (case side2 => repeat (first | (with_reducible first | exact HB.out | apply zag | apply zae | apply zaf | refine zah ?_ (IsS51.ge HI0.out)) | exact HB.out)); rintro e w29 ⟨v333, rfl, ho0, hi, hb, hk⟩; refine ⟨_, rfl, ?_⟩; have n0_ := zad (zbu ho0 (keep_size (w := w) (g := g) (row := none) (taai))); have n1_ := zad (zbs (taai) hk (.inl rfl)); have n2_ := zad (hb); have n3_ := zad (hi); clear HK HB HI0; have HO334 := n0_; have HK := n1_; have HB := n2_; have HI0 := n3_; clear n0_ n1_ n2_ n3_; (try clear hb); (try clear hb2); (try clear hk); (try clear hi); (try clear ho0)) | ((with_reducible refine zbi (f := 47) rfl ?_); refine zbo (some 10) rfl rfl Try.func47 (by kernel_rfl) rfl #[.pointer (some ⟨g, 0, none⟩), .int .i64 14] rfl (taae) ?_; (with_reducible refine (spec_l1Cur_pick.calls g s0_0 t335 t336 14 t337 t338 t339 w0 _ ?side1 ?side2 A4.out).mono ?_); (case side1 => repeat (first | (with_reducible first | exact HI0.out | apply zcc | apply zcd | apply zce | apply zcf | apply zcg) | exact HI0.out)); (case side2 => repeat (first | (with_reducible first | exact HB.out | apply zag | apply zae | apply zaf | refine zah ?_ (IsS51.ge HI0.out)) | exact HB.out)); rintro e w30 ⟨rfl, hi, hb, hk⟩; refine ⟨_, rfl, ?_⟩; have n0_ := zad (zbr (Kd.R_keep (IsS51.apart (show IsS51 w0 _ g s0_0 t335 t336 from by exact tafm) (tabe) (by decide)) hk (fun _ h => h.2)) (fun _ h => h.1)); have n1_ := zad (zbs (taai) hk (.inl rfl)); have n2_ := zad (hb); have n3_ := zad (hi); clear HO334 HK HB HI0; have HO334 := n0_; have HK := n1_; have HB := n2_; have HI0 := n3_; clear n0_ n1_ n2_ n3_; (try clear hb); (try clear hb2); (try clear hk); (try clear hi)))
       go_ret
       exact ⟨_, taaf, tabu, taal, taan, taai⟩
     · rw [if_neg c28] at H
       have c28b0 : (t337 == 2) = false := zbp.mpr c28
       have c28b1 : (t337 != 2) = true := bne_iff_ne.mpr c28
       simp only [zbm, zbq] at H
       obtain ⟨rfl, rfl, rfl⟩ := H
       go_enter Try.func61, Try.ntmps61
       go_wp2_with (first | ((with_reducible refine zbi (f := 83) rfl ?_); refine zbo (some 8) rfl rfl Try.func83 (by kernel_rfl) rfl #[.pointer (some ⟨g, 0, none⟩), .int .i64 a1] rfl (taae) ?_; (with_reducible refine (spec_l1Cur_list.calls k g s0_0 s0_1 s0_2 a1 t332 t335 t336 w0 _ ?side1 ?side2 A3.out).mono ?_); (case side1 => repeat (first | (with_reducible first | exact HI0.out | apply zcc | apply zcd | apply zce | apply zcf | apply zcg) | exact HI0.out)); (case side2 => repeat (first | (with_reducible first | exact HB.out | apply zag | apply zae | apply zaf | refine zah ?_ (IsS51.ge HI0.out)) | exact HB.out)); rintro e w31 ⟨v333, rfl, ho0, hi, hb, hk⟩; refine ⟨_, rfl, ?_⟩; have n0_ := zad (zbu ho0 (keep_size (w := w) (g := g) (row := none) (taai))); have n1_ := zad (zbs (taai) hk (.inl rfl)); have n2_ := zad (hb); have n3_ := zad (hi); clear HK HB HI0; have HO334 := n0_; have HK := n1_; have HB := n2_; have HI0 := n3_; clear n0_ n1_ n2_ n3_; (try clear hb); (try clear hb2); (try clear hk); (try clear hi); (try clear ho0)) | ((with_reducible refine zbi (f := 47) rfl ?_); refine zbo (some 10) rfl rfl Try.func47 (by kernel_rfl) rfl #[.pointer (some ⟨g, 0, none⟩), .int .i64 14] rfl (taae) ?_; (with_reducible refine (spec_l1Cur_pick.calls g s0_0 t335 t336 14 t337 t338 t339 w0 _ ?side1 ?side2 A4.out).mono ?_); (case side1 => repeat (first | (with_reducible first | exact HI0.out | apply zcc | apply zcd | apply zce | apply zcf | apply zcg) | exact HI0.out)); (case side2 => repeat (first | (with_reducible first | exact HB.out | apply zag | apply zae | apply zaf | refine zah ?_ (IsS51.ge HI0.out)) | exact HB.out)); rintro e w32 ⟨rfl, hi, hb, hk⟩; refine ⟨_, rfl, ?_⟩; have n0_ := zad (zbr (Kd.R_keep (IsS51.apart (show IsS51 w0 _ g s0_0 t335 t336 from by exact tafm) (tabe) (by decide)) hk (fun _ h => h.2)) (fun _ h => h.1)); have n1_ := zad (zbs (taai) hk (.inl rfl)); have n2_ := zad (hb); have n3_ := zad (hi); clear HO334 HK HB HI0; have HO334 := n0_; have HK := n1_; have HB := n2_; have HI0 := n3_; clear n0_ n1_ n2_ n3_; (try clear hb); (try clear hb2); (try clear hk); (try clear hi)))
       go_ret
       exact ⟨_, taaf, tabe, taal, taan, taai⟩
def spec_DrawLowerCovers.f (k : Nat) (l0 : List Int) : Option (List Int) := (spec_l1Cur_anyList.f k l0 0 0 6).bind fun bt634 => (some bt634.1)
theorem spec_DrawLowerCovers.calls (k : Nat) (A0 : Option Addr) (c0 : Nat) (l0 : List Int) (r : List Int) (w : World) (hr0 : Kd.C (Kd.int .u8) w A0 l0.length l0) (hc0 : l0.length ≤ c0) (h : spec_DrawLowerCovers.f k l0 = some r) :
 Calls Try.prog 25 #[.slice A0 l0.length c0] w fun e w' => ∃ v0_ : Value, e = .returned (v0_) ∧ Kd.R (Kd.int .i64) 3 w' w.heap.size (fun _ => True) v0_ r ∧ Below w.heap.size w w' := by
 have hu51 := Try.underlying51
 have HR0 := zad hr0; have HC0 := zad hc0; clear hr0 hc0; have HB := zad (Below.refl w.heap.size w)
 have H : ((spec_l1Cur_anyList.f k l0 0 0 6).bind fun bt634 => (some bt634.1)) = some r := h
 clear h; replace H := zay.mp H; obtain ⟨⟨t634, t637, t638⟩, A20, H⟩ := H
 replace H : (some t634) = some r := H
 have A2 := zad A20; clear A20; obtain rfl := zbf H
 go_enter Try.func25, Try.ntmps25
 go_wp2_with (first | ((with_reducible refine gate_dst (N := 6) rfl ?_); refine box_event ?hg (N := 6) ?hd (cs := #[.slice A0 l0.length c0, .int .i64 0, .int .u64 0]) (t := 51) ?hr ?_; (case hd => rfl); (case hg => rfl); (case hr => first | (go_simp; done) | (go_simp; rfl)); intro gb633 hg w3 hbox hb; have n0_ := zad (zbh (taaa) hb); have n1_ := zad ((show IsS51 w w3 gb633 l0 0 0 from ⟨_, _, hbox, (tafb), HR0.out⟩)); clear HB; have HB := n0_; have HI633 := n1_; clear n0_ n1_ hb hbox hg) | ((with_reducible refine zbi (f := 61) rfl ?_); refine zbo (some 8) rfl rfl Try.func61 (by kernel_rfl) rfl #[.pointer (some ⟨gb633, 0, none⟩), .int .i64 6] rfl (taae) ?_; (with_reducible refine (spec_l1Cur_anyList.calls k gb633 l0 0 0 6 t634 t637 t638 w _ ?side1 ?side2 A2.out).mono ?_); (case side1 => repeat (first | (with_reducible first | exact HI633.out | apply zcc | apply zcd | apply zce | apply zcf | apply zcg) | exact HI633.out)); (case side2 => repeat (first | (with_reducible first | exact HB.out | apply zag | apply zae | apply zaf | refine zah ?_ (IsS51.ge HI633.out)) | exact HB.out)); rintro e w4 ⟨v635, rfl, ho0, hi, hb, hk⟩; refine ⟨_, rfl, ?_⟩; have n0_ := zad (zbu ho0 (zbl (tads))); have n1_ := zad (hb); have n2_ := zad (hi); clear HB HI633; have HO636 := n0_; have HB := n1_; have HI633 := n2_; clear n0_ n1_ n2_; (try clear hb); (try clear hb2); (try clear hk); (try clear hi); (try clear ho0)))
 go_ret
 exact ⟨_, taaf, by (with_reducible repeat (first | apply zai | apply zaj | apply zak)); exact HO636.out, tads⟩
def laws_pSameRows.l0 : Nat → List (List Int) → List (List Int) → Int → Int → Option (Bool)
 | 0, _, _, _, _ => none
 | k + 1, x0, x1, x12, x13 => if x13 < x12 then (if 0 ≤ x13 then (if x13 < (x0.length : Int) then (if x13 < (x1.length : Int) then ((laws_pSame.f k (rd_L1 x0 x13) (rd_L1 x1 x13)).bind fun t641 => (if t641 = true then (laws_pSameRows.l0 k x0 x1 x12 (wrap64 (x13 + 1))) else (some false))) else (none)) else (none)) else (none)) else (some true)
def laws_pSameRows.f (k : Nat) (l0 : List (List Int)) (l1 : List (List Int)) : Option (Bool) := if (l0.length : Int) = (l1.length : Int) then (laws_pSameRows.l0 k l0 l1 (l0.length : Int) 0) else (some false)
theorem laws_pSameRows.calls (k : Nat) (A0 : Option Addr) (c0 : Nat) (l0 : List (List Int)) (A1 : Option Addr) (c1 : Nat) (l1 : List (List Int)) (r : Bool) (w : World) (hr0 : Kd.C (Kd.slice 3 (Kd.int .i64)) w A0 l0.length l0) (hc0 : l0.length ≤ c0) (hr1 : Kd.C (Kd.slice 3 (Kd.int .i64)) w A1 l1.length l1) (hc1 : l1.length ≤ c1) (h : laws_pSameRows.f k l0 l1 = some r) :
 Calls Try.prog 26 #[.slice A0 l0.length c0, .slice A1 l1.length c1] w fun e w' => e = .returned (.bool r) ∧ Drawn0 w w' := by
 have HR0 := zad hr0; have HC0 := zad hc0; clear hr0 hc0; have HR1 := zad hr1; have HC1 := zad hc1; clear hr1 hc1; have H : (if (l0.length : Int) = (l1.length : Int) then (laws_pSameRows.l0 k l0 l1 (l0.length : Int) 0) else (some false)) = some r := h
 clear h; by_cases c3 : (l0.length : Int) = (l1.length : Int)
 · rw [if_pos c3] at H
   have c3b0 : ((l0.length : Int) == (l1.length : Int)) = true := beq_iff_eq.mpr c3
   have c3b1 : ((l0.length : Int) != (l1.length : Int)) = false := bne_eq_false_iff_eq.mpr c3
   have c3b2 : (l0.length == l1.length) = true := by first | simpa using c3 | (simp at c3 ⊢; omega)
   clear c3; have H' := zad H
   clear H; go_enter Try.func26, Try.ntmps26
   go_wp2
   repeat (go_quiet (fail); try go_wp2)
   go_loopg [13] k (fun kq v13 w' => ∃ (x13_1 : Int), v13 = .int .i64 x13_1 ∧ Aside0 (laws_pSameRows.l0 kq l0 l1 (l0.length : Int) x13_1 = some r) ∧ Aside0 (kq ≤ k) ∧ Drawn0 w w')
   case atStart => exact ⟨(0), (taad), H', ⟨zcb _⟩, taag⟩
   case round =>
    clear H'
    try clear c1
    try clear c2
    try clear p2
    try clear c3
    try clear c3b0
    try clear c3b1
    try clear c3b2
    obtain ⟨x13_1, rfl, HA, HK1, ⟨m1, rfl⟩⟩ := hrel
    cases gk with
    | zero => exact absurd HA.out (by simp [laws_pSameRows.l0])
    | succ k1 =>
     have H := HA.out
     clear HA; simp only [laws_pSameRows.l0] at H
     by_cases c4 : x13_1 < (l0.length : Int)
     · rw [if_pos c4] at H
       have c4b0 : decide (x13_1 < (l0.length : Int)) = true := zba c4
       clear c4; by_cases c5 : 0 ≤ x13_1
       · rw [if_pos c5] at H
         have c5b0 : decide (0 ≤ x13_1) = true := zba c5
         clear c5; by_cases c6 : x13_1 < (l0.length : Int)
         · rw [if_pos c6] at H
           have c6b0 : decide (x13_1 < (l0.length : Int)) = true := zba c6
           clear c6; by_cases c7 : x13_1 < (l1.length : Int)
           · rw [if_pos c7] at H
             have c7b0 : decide (x13_1 < (l1.length : Int)) = true := zba c7
             clear c7; replace H := zay.mp H; obtain ⟨t641, A80, H⟩ := H
             replace H : (if t641 = true then (laws_pSameRows.l0 k1 l0 l1 (l0.length : Int) (wrap64 (x13_1 + 1))) else (some false)) = some r := H
             have A8 := zad A80; clear A80; by_cases c9 : t641 = true
             · subst c9
               have H1 : (laws_pSameRows.l0 k1 l0 l1 (l0.length : Int) (wrap64 (x13_1 + 1))) = some r := by rw [if_pos rfl] at H; exact H
               clear H; have H := H1; clear H1; have H' := zad H
               clear H; have p639 : 0 ≤ (x13_1 : Int) := zas (taab)
               have q639 : x13_1 < (l0.length : Int) := zas (taab)
               obtain ⟨ad639, A639_0, c639_0, e639, hx639_0, hl639_0, hi639_0⟩ := at_L1 HR0.out x13_1 p639 q639
               cases e639
               have HR639_0 := zad hi639_0; have HC639_0 := zad hl639_0; clear hi639_0 hl639_0; replace p639 := eq_true p639
               replace q639 := eq_true q639
               have p640 : 0 ≤ (x13_1 : Int) := zas (taab)
               have q640 : x13_1 < (l1.length : Int) := zas (taab)
               obtain ⟨ad640, A640_0, c640_0, e640, hx640_0, hl640_0, hi640_0⟩ := at_L1 HR1.out x13_1 p640 q640
               cases e640
               have HR640_0 := zad hi640_0; have HC640_0 := zad hl640_0; clear hi640_0 hl640_0; replace p640 := eq_true p640
               replace q640 := eq_true q640
               go_wp2_with (first | (go_at_call 20; (with_reducible refine (laws_pSame.calls k1 _ _ (rd_L1 l0 x13_1) _ _ (rd_L1 l1 x13_1) true _ ?side1 ?side2 ?side3 ?side4 A8.out).mono ?_); (case side1 => exact tafu); (case side2 => exact HC639_0.out); (case side3 => exact tafv); (case side4 => exact HC640_0.out); rintro e w' ⟨rfl, ⟨nd, rfl⟩⟩; (try first | exact ⟨rfl, _, World.drewN_drewN _ _ _⟩ | exact ⟨rfl, _, Eq.trans (World.drewN_drewN _ _ _) (congrArg (World.drewN _) (Nat.add_assoc _ _ _))⟩)))
               repeat (go_quiet (first | (go_at_call 20; (with_reducible refine (laws_pSame.calls k1 _ _ (rd_L1 l0 x13_1) _ _ (rd_L1 l1 x13_1) true _ ?side1 ?side2 ?side3 ?side4 A8.out).mono ?_); (case side1 => repeat (first | exact HR639_0.out | (with_reducible refine zal ?_ _) | (with_reducible refine zam ?_ _) | (with_reducible refine zan ?_))); (case side2 => exact HC639_0.out); (case side3 => repeat (first | exact HR640_0.out | (with_reducible refine zal ?_ _) | (with_reducible refine zam ?_ _) | (with_reducible refine zan ?_))); (case side4 => exact HC640_0.out); rintro e w' ⟨rfl, ⟨nd, rfl⟩⟩; (try first | exact ⟨rfl, _, World.drewN_drewN _ _ _⟩ | exact ⟨rfl, _, Eq.trans (World.drewN_drewN _ _ _) (congrArg (World.drewN _) (Nat.add_assoc _ _ _))⟩))); try go_wp2_with (first | (go_at_call 20; (with_reducible refine (laws_pSame.calls k1 _ _ (rd_L1 l0 x13_1) _ _ (rd_L1 l1 x13_1) true _ ?side1 ?side2 ?side3 ?side4 A8.out).mono ?_); (case side1 => repeat (first | exact HR639_0.out | (with_reducible refine zal ?_ _) | (with_reducible refine zam ?_ _) | (with_reducible refine zan ?_))); (case side2 => exact HC639_0.out); (case side3 => repeat (first | exact HR640_0.out | (with_reducible refine zal ?_ _) | (with_reducible refine zam ?_ _) | (with_reducible refine zan ?_))); (case side4 => exact HC640_0.out); rintro e w' ⟨rfl, ⟨nd, rfl⟩⟩; (try first | exact ⟨rfl, _, World.drewN_drewN _ _ _⟩ | exact ⟨rfl, _, Eq.trans (World.drewN_drewN _ _ _) (congrArg (World.drewN _) (Nat.add_assoc _ _ _))⟩))))
               go_roundg k1
               case measure => have := HK1.out; omega
               case rel => exact ⟨(wrap64 (x13_1 + 1)), (taad), H', ⟨taat⟩, taag⟩
             · replace c9 := zbj.mpr c9
               subst c9; have H1 : (some false) = some r := by rw [if_neg (show ¬ (false = true) by decide)] at H; exact H
               clear H; have H := H1; clear H1; obtain rfl := zbf H
               have p639 : 0 ≤ (x13_1 : Int) := zas (taab)
               have q639 : x13_1 < (l0.length : Int) := zas (taab)
               obtain ⟨ad639, A639_0, c639_0, e639, hx639_0, hl639_0, hi639_0⟩ := at_L1 HR0.out x13_1 p639 q639
               cases e639
               have HR639_0 := zad hi639_0; have HC639_0 := zad hl639_0; clear hi639_0 hl639_0; replace p639 := eq_true p639
               replace q639 := eq_true q639
               have p640 : 0 ≤ (x13_1 : Int) := zas (taab)
               have q640 : x13_1 < (l1.length : Int) := zas (taab)
               obtain ⟨ad640, A640_0, c640_0, e640, hx640_0, hl640_0, hi640_0⟩ := at_L1 HR1.out x13_1 p640 q640
               cases e640
               have HR640_0 := zad hi640_0; have HC640_0 := zad hl640_0; clear hi640_0 hl640_0; replace p640 := eq_true p640
               replace q640 := eq_true q640
               go_wp2_with (first | (go_at_call 20; (with_reducible refine (laws_pSame.calls k1 _ _ (rd_L1 l0 x13_1) _ _ (rd_L1 l1 x13_1) false _ ?side1 ?side2 ?side3 ?side4 A8.out).mono ?_); (case side1 => exact tafu); (case side2 => exact HC639_0.out); (case side3 => exact tafv); (case side4 => exact HC640_0.out); rintro e w' ⟨rfl, ⟨nd, rfl⟩⟩; (try first | exact ⟨rfl, _, World.drewN_drewN _ _ _⟩ | exact ⟨rfl, _, Eq.trans (World.drewN_drewN _ _ _) (congrArg (World.drewN _) (Nat.add_assoc _ _ _))⟩)))
               repeat (go_quiet (first | (go_at_call 20; (with_reducible refine (laws_pSame.calls k1 _ _ (rd_L1 l0 x13_1) _ _ (rd_L1 l1 x13_1) false _ ?side1 ?side2 ?side3 ?side4 A8.out).mono ?_); (case side1 => repeat (first | exact HR639_0.out | (with_reducible refine zal ?_ _) | (with_reducible refine zam ?_ _) | (with_reducible refine zan ?_))); (case side2 => exact HC639_0.out); (case side3 => repeat (first | exact HR640_0.out | (with_reducible refine zal ?_ _) | (with_reducible refine zam ?_ _) | (with_reducible refine zan ?_))); (case side4 => exact HC640_0.out); rintro e w' ⟨rfl, ⟨nd, rfl⟩⟩; (try first | exact ⟨rfl, _, World.drewN_drewN _ _ _⟩ | exact ⟨rfl, _, Eq.trans (World.drewN_drewN _ _ _) (congrArg (World.drewN _) (Nat.add_assoc _ _ _))⟩))); try go_wp2_with (first | (go_at_call 20; (with_reducible refine (laws_pSame.calls k1 _ _ (rd_L1 l0 x13_1) _ _ (rd_L1 l1 x13_1) false _ ?side1 ?side2 ?side3 ?side4 A8.out).mono ?_); (case side1 => repeat (first | exact HR639_0.out | (with_reducible refine zal ?_ _) | (with_reducible refine zam ?_ _) | (with_reducible refine zan ?_))); (case side2 => exact HC639_0.out); (case side3 => repeat (first | exact HR640_0.out | (with_reducible refine zal ?_ _) | (with_reducible refine zam ?_ _) | (with_reducible refine zan ?_))); (case side4 => exact HC640_0.out); rintro e w' ⟨rfl, ⟨nd, rfl⟩⟩; (try first | exact ⟨rfl, _, World.drewN_drewN _ _ _⟩ | exact ⟨rfl, _, Eq.trans (World.drewN_drewN _ _ _) (congrArg (World.drewN _) (Nat.add_assoc _ _ _))⟩))))
               go_ret
               exact ⟨taad, taag⟩
           · rw [if_neg c7] at H
             exact absurd H (taac)
         · rw [if_neg c6] at H
           exact absurd H (taac)
       · rw [if_neg c5] at H
         exact absurd H (taac)
     · rw [if_neg c4] at H
       have c4b0 : decide (x13_1 < (l0.length : Int)) = false := zbk c4
       clear c4; obtain rfl := zbf H
       go_wp2
       repeat (go_quiet (fail); try go_wp2)
       go_ret
       exact ⟨taad, taag⟩
 · rw [if_neg c3] at H
   have c3b0 : ((l0.length : Int) == (l1.length : Int)) = false := zbp.mpr c3
   have c3b1 : ((l0.length : Int) != (l1.length : Int)) = true := bne_iff_ne.mpr c3
   have c3b2 : (l0.length == l1.length) = false := by first | simpa using c3 | (simp at c3 ⊢; omega)
   obtain rfl := zbf H
   go_enter Try.func26, Try.ntmps26
   go_wp2
   repeat (go_quiet (fail); try go_wp2)
   go_ret
   exact ⟨taad, taag⟩
def spec_DrawAllRankings.f (l0 : List Int) : Option (Int × Int) := (spec_l1Cur_pick.f l0 0 0 5).bind fun bt643 => ((spec_l1Cur_pick.f l0 bt643.2.1 bt643.2.2 14).bind fun bt646 => ((spec_l1Cur_pick.f l0 bt646.2.1 bt646.2.2 10).bind fun bt649 => (if bt649.1 = 0 then ((spec_l1Cur_among.f l0 bt649.2.1 bt649.2.2 (([(-1), 0, 8, 9] : List Int))).bind fun bt655 => (some (bt655.1, bt646.1))) else (if bt649.1 = 1 then ((spec_l1Cur_among.f l0 bt649.2.1 bt649.2.2 (([(-1), 0, 30, 31] : List Int))).bind fun bt661 => ((spec_l1Cur_pick.f l0 bt661.2.1 bt661.2.2 3).bind fun bt664 => (some (wrap64 (1 + bt664.1), bt661.1)))) else (some (wrap64 (1 + bt643.1), bt646.1))))))
theorem spec_DrawAllRankings.calls (A0 : Option Addr) (c0 : Nat) (l0 : List Int) (r1 : Int) (r2 : Int) (w : World) (hr0 : Kd.C (Kd.int .u8) w A0 l0.length l0) (hc0 : l0.length ≤ c0) (h : spec_DrawAllRankings.f l0 = some (r1, r2)) :
 Calls Try.prog 27 #[.slice A0 l0.length c0] w fun e w' => e = .returned (.tuple #[.int .i64 r1, .int .i64 r2]) ∧ Below w.heap.size w w' := by
 have hu51 := Try.underlying51
 have HR0 := zad hr0; have HC0 := zad hc0; clear hr0 hc0; have HB := zad (Below.refl w.heap.size w)
 have H : ((spec_l1Cur_pick.f l0 0 0 5).bind fun bt643 => ((spec_l1Cur_pick.f l0 bt643.2.1 bt643.2.2 14).bind fun bt646 => ((spec_l1Cur_pick.f l0 bt646.2.1 bt646.2.2 10).bind fun bt649 => (if bt649.1 = 0 then ((spec_l1Cur_among.f l0 bt649.2.1 bt649.2.2 (([(-1), 0, 8, 9] : List Int))).bind fun bt655 => (some (bt655.1, bt646.1))) else (if bt649.1 = 1 then ((spec_l1Cur_among.f l0 bt649.2.1 bt649.2.2 (([(-1), 0, 30, 31] : List Int))).bind fun bt661 => ((spec_l1Cur_pick.f l0 bt661.2.1 bt661.2.2 3).bind fun bt664 => (some (wrap64 (1 + bt664.1), bt661.1)))) else (some (wrap64 (1 + bt643.1), bt646.1))))))) = some (r1, r2) := h
 clear h; replace H := zay.mp H; obtain ⟨⟨t643, t644, t645⟩, A20, H⟩ := H
 replace H : ((spec_l1Cur_pick.f l0 t644 t645 14).bind fun bt646 => ((spec_l1Cur_pick.f l0 bt646.2.1 bt646.2.2 10).bind fun bt649 => (if bt649.1 = 0 then ((spec_l1Cur_among.f l0 bt649.2.1 bt649.2.2 (([(-1), 0, 8, 9] : List Int))).bind fun bt655 => (some (bt655.1, bt646.1))) else (if bt649.1 = 1 then ((spec_l1Cur_among.f l0 bt649.2.1 bt649.2.2 (([(-1), 0, 30, 31] : List Int))).bind fun bt661 => ((spec_l1Cur_pick.f l0 bt661.2.1 bt661.2.2 3).bind fun bt664 => (some (wrap64 (1 + bt664.1), bt661.1)))) else (some (wrap64 (1 + t643), bt646.1)))))) = some (r1, r2) := H
 have A2 := zad A20; clear A20; replace H := zay.mp H; obtain ⟨⟨t646, t647, t648⟩, A30, H⟩ := H
 replace H : ((spec_l1Cur_pick.f l0 t647 t648 10).bind fun bt649 => (if bt649.1 = 0 then ((spec_l1Cur_among.f l0 bt649.2.1 bt649.2.2 (([(-1), 0, 8, 9] : List Int))).bind fun bt655 => (some (bt655.1, t646))) else (if bt649.1 = 1 then ((spec_l1Cur_among.f l0 bt649.2.1 bt649.2.2 (([(-1), 0, 30, 31] : List Int))).bind fun bt661 => ((spec_l1Cur_pick.f l0 bt661.2.1 bt661.2.2 3).bind fun bt664 => (some (wrap64 (1 + bt664.1), bt661.1)))) else (some (wrap64 (1 + t643), t646))))) = some (r1, r2) := H
 have A3 := zad A30; clear A30; replace H := zay.mp H; obtain ⟨⟨t649, t650, t651⟩, A40, H⟩ := H
 replace H : (if t649 = 0 then ((spec_l1Cur_among.f l0 t650 t651 (([(-1), 0, 8, 9] : List Int))).bind fun bt655 => (some (bt655.1, t646))) else (if t649 = 1 then ((spec_l1Cur_among.f l0 t650 t651 (([(-1), 0, 30, 31] : List Int))).bind fun bt661 => ((spec_l1Cur_pick.f l0 bt661.2.1 bt661.2.2 3).bind fun bt664 => (some (wrap64 (1 + bt664.1), bt661.1)))) else (some (wrap64 (1 + t643), t646)))) = some (r1, r2) := H
 have A4 := zad A40; clear A40; by_cases c5 : t649 = 0
 · rw [if_pos c5] at H
   have c5b0 : (t649 == 0) = true := beq_iff_eq.mpr c5
   have c5b1 : (t649 != 0) = false := bne_eq_false_iff_eq.mpr c5
   clear c5; obtain ⟨y652, hy652⟩ : ∃ y_ : List Int, y_ = (([(-1), 0, 8, 9] : List Int)) := ⟨_, rfl⟩
   replace H : ((spec_l1Cur_among.f l0 t650 t651 y652).bind fun bt655 => (some (bt655.1, t646))) = some (r1, r2) := by first | (rw [hy652]; with_reducible exact H) | (have H2_ := (zbe _ _).symm.trans H; rw [hy652]; with_reducible exact H2_) | (have H2_ := (zbe _ _).symm.trans H; with_reducible exact H2_) | with_reducible exact H | (rw [hy652]; exact H) | exact H
   have Ny652 := zad hy652; clear hy652; replace H := zay.mp H; obtain ⟨⟨t655, t656, t657⟩, A60, H⟩ := H
   replace H : (some (t655, t646)) = some (r1, r2) := H
   have A6 := zad A60; clear A60; simp only [zbm, zbq] at H
   obtain ⟨rfl, rfl⟩ := H
   go_enter Try.func27, Try.ntmps27
   go_wp2_with (first | ((with_reducible refine gate_dst (N := 9) rfl ?_); refine box_event ?hg (N := 9) ?hd (cs := #[.slice A0 l0.length c0, .int .i64 0, .int .u64 0]) (t := 51) ?hr ?_; (case hd => rfl); (case hg => rfl); (case hr => first | (go_simp; done) | (go_simp; rfl)); intro gb642 hg w7 hbox hb; have n0_ := zad (zbh (taaa) hb); have n1_ := zad ((show IsS51 w w7 gb642 l0 0 0 from ⟨_, _, hbox, (tafb), HR0.out⟩)); clear HB; have HB := n0_; have HI642 := n1_; clear n0_ n1_ hb hbox hg) | ((with_reducible refine zbi (f := 47) rfl ?_); refine zbo (some 11) rfl rfl Try.func47 (by kernel_rfl) rfl #[.pointer (some ⟨gb642, 0, none⟩), .int .i64 5] rfl (taae) ?_; (with_reducible refine (spec_l1Cur_pick.calls gb642 l0 0 0 5 t643 t644 t645 w _ ?side1 ?side2 A2.out).mono ?_); (case side1 => repeat (first | (with_reducible first | exact HI642.out | apply zcc | apply zcd | apply zce | apply zcf | apply zcg) | exact HI642.out)); (case side2 => repeat (first | (with_reducible first | exact HB.out | apply zag | apply zae | apply zaf | refine zah ?_ (IsS51.ge HI642.out)) | exact HB.out)); rintro e w8 ⟨rfl, hi, hb, hk⟩; refine ⟨_, rfl, ?_⟩; have n0_ := zad (hb); have n1_ := zad (hi); clear HB HI642; have HB := n0_; have HI642 := n1_; clear n0_ n1_; (try clear hb); (try clear hb2); (try clear hk); (try clear hi)) | ((with_reducible refine zbi (f := 47) rfl ?_); refine zbo (some 14) rfl rfl Try.func47 (by kernel_rfl) rfl #[.pointer (some ⟨gb642, 0, none⟩), .int .i64 14] rfl (taae) ?_; (with_reducible refine (spec_l1Cur_pick.calls gb642 l0 t644 t645 14 t646 t647 t648 w _ ?side1 ?side2 A3.out).mono ?_); (case side1 => repeat (first | (with_reducible first | exact HI642.out | apply zcc | apply zcd | apply zce | apply zcf | apply zcg) | exact HI642.out)); (case side2 => repeat (first | (with_reducible first | exact HB.out | apply zag | apply zae | apply zaf | refine zah ?_ (IsS51.ge HI642.out)) | exact HB.out)); rintro e w9 ⟨rfl, hi, hb, hk⟩; refine ⟨_, rfl, ?_⟩; have n0_ := zad (hb); have n1_ := zad (hi); clear HB HI642; have HB := n0_; have HI642 := n1_; clear n0_ n1_; (try clear hb); (try clear hb2); (try clear hk); (try clear hi)) | ((with_reducible refine zbi (f := 47) rfl ?_); refine zbo (some 16) rfl rfl Try.func47 (by kernel_rfl) rfl #[.pointer (some ⟨gb642, 0, none⟩), .int .i64 10] rfl (taae) ?_; (with_reducible refine (spec_l1Cur_pick.calls gb642 l0 t647 t648 10 t649 t650 t651 w _ ?side1 ?side2 A4.out).mono ?_); (case side1 => repeat (first | (with_reducible first | exact HI642.out | apply zcc | apply zcd | apply zce | apply zcf | apply zcg) | exact HI642.out)); (case side2 => repeat (first | (with_reducible first | exact HB.out | apply zag | apply zae | apply zaf | refine zah ?_ (IsS51.ge HI642.out)) | exact HB.out)); rintro e w10 ⟨rfl, hi, hb, hk⟩; refine ⟨_, rfl, ?_⟩; have n0_ := zad (hb); have n1_ := zad (hi); clear HB HI642; have HB := n0_; have HI642 := n1_; clear n0_ n1_; (try clear hb); (try clear hb2); (try clear hk); (try clear hi)) | ((with_reducible refine gate_dst (N := 20) rfl ?_); refine Kd.R_lit (Kd.int .i64) _ 3 ?hg (N := 20) ?hd (xs := ([(-1), 0, 8, 9] : List Int)) (inner := [.int .i64 (-1), .int .i64 0, .int .i64 8, .int .i64 9]) (ok := fun _ => True) (okp := fun _ => True) ?hr ?hp (fun _ hk => hk) trivial (Below.refl _ _) (zcb _) (taac) ?_; (case hd => rfl); (case hg => rfl); (case hr => first | (go_simp; done) | (go_simp; rfl)); (case hp => exact (Reps.one (show Kd.M (Kd.int .i64) _ _ _ (-1) [.int .i64 (-1)] from rfl) (Reps.one (show Kd.M (Kd.int .i64) _ _ _ 0 [.int .i64 0] from rfl) (Reps.one (show Kd.M (Kd.int .i64) _ _ _ 8 [.int .i64 8] from rfl) (Reps.one (show Kd.M (Kd.int .i64) _ _ _ 9 [.int .i64 9] from rfl) (Reps.none _ _)))))); intro v653 w11 ho12 hb hg_ hnew_; clear hg_ hnew_; (first | rw [← Ny652.out] at ho12 | (simp only [Int.reduceToNat] at ho12; rw [← Ny652.out] at ho12)); have n0_ := zad (zbu ho12 (zbl (tabj))); have n1_ := zad (IsS51.below (tabv) hb); have n2_ := zad (zbh (tabj) hb); clear HI642 HB; have HO654 := n0_; have HI642 := n1_; have HB := n2_; clear n0_ n1_ n2_ hb ho12; obtain ⟨Ao13, co13, eo13⟩ := zbv HO654.out; subst eo13) | ((with_reducible refine zbi (f := 62) rfl ?_); refine zbo (some 21) rfl rfl Try.func62 (by kernel_rfl) rfl #[.pointer (some ⟨gb642, 0, none⟩), .slice Ao13 y652.length co13] rfl (taae) ?_; (with_reducible refine (spec_l1Cur_among.calls gb642 l0 t650 t651 _ _ y652 t655 t656 t657 w _ ?side1 ?side2 ?side3 ?side4 ?side5 A6.out).mono ?_); (case side1 => repeat (first | (with_reducible first | exact HI642.out | apply zcc | apply zcd | apply zce | apply zcf | apply zcg) | exact HI642.out)); (case side2 => repeat (first | (with_reducible first | exact HB.out | apply zag | apply zae | apply zaf | refine zah ?_ (IsS51.ge HI642.out)) | exact HB.out)); (case side3 => repeat (first | exact (zbg HO654.out).2.2 | (with_reducible refine zal ?_ _) | (with_reducible refine zam ?_ _) | (with_reducible refine zan ?_))); (case side4 => exact (zbg HO654.out).2.1); (case side5 => exact far_slice (IsS51.own_ne HI642.out HO654.out (by decide))); rintro e w14 ⟨rfl, hi, hb, hk⟩; refine ⟨_, rfl, ?_⟩; have n0_ := zad (zbr (Kd.R_keep (IsS51.apart (show IsS51 w _ gb642 l0 t650 t651 from by exact tabv) (by (with_reducible repeat (first | apply zai | apply zaj | apply zak)); exact HO654.out) (by decide)) hk (fun _ h => h.2)) (fun _ h => h.1)); have n1_ := zad (hb); have n2_ := zad (hi); clear HO654 HB HI642; have HO654 := n0_; have HB := n1_; have HI642 := n2_; clear n0_ n1_ n2_; (try clear hb); (try clear hb2); (try clear hk); (try clear hi)))
   go_ret2
   exact ⟨taaf, tabj⟩
 · rw [if_neg c5] at H
   have c5b0 : (t649 == 0) = false := zbp.mpr c5
   have c5b1 : (t649 != 0) = true := bne_iff_ne.mpr c5
   by_cases c15 : t649 = 1
   · rw [if_pos c15] at H
     have c15b0 : (t649 == 1) = true := beq_iff_eq.mpr c15
     have c15b1 : (t649 != 1) = false := bne_eq_false_iff_eq.mpr c15
     clear c15; obtain ⟨y658, hy658⟩ : ∃ y_ : List Int, y_ = (([(-1), 0, 30, 31] : List Int)) := ⟨_, rfl⟩
     replace H : ((spec_l1Cur_among.f l0 t650 t651 y658).bind fun bt661 => ((spec_l1Cur_pick.f l0 bt661.2.1 bt661.2.2 3).bind fun bt664 => (some (wrap64 (1 + bt664.1), bt661.1)))) = some (r1, r2) := by first | (rw [hy658]; with_reducible exact H) | (have H2_ := (zbe _ _).symm.trans H; rw [hy658]; with_reducible exact H2_) | (have H2_ := (zbe _ _).symm.trans H; with_reducible exact H2_) | with_reducible exact H | (rw [hy658]; exact H) | exact H
     have Ny658 := zad hy658; clear hy658; replace H := zay.mp H; obtain ⟨⟨t661, t662, t663⟩, A160, H⟩ := H
     replace H : ((spec_l1Cur_pick.f l0 t662 t663 3).bind fun bt664 => (some (wrap64 (1 + bt664.1), t661))) = some (r1, r2) := H
     have A16 := zad A160; clear A160; replace H := zay.mp H; obtain ⟨⟨t664, t665, t666⟩, A170, H⟩ := H
     replace H : (some (wrap64 (1 + t664), t661)) = some (r1, r2) := H
     have A17 := zad A170; clear A170; simp only [zbm, zbq] at H
     obtain ⟨rfl, rfl⟩ := H
     go_enter Try.func27, Try.ntmps27
     go_wp2_with (first | ((with_reducible refine gate_dst (N := 9) rfl ?_); refine box_event ?hg (N := 9) ?hd (cs := #[.slice A0 l0.length c0, .int .i64 0, .int .u64 0]) (t := 51) ?hr ?_; (case hd => rfl); (case hg => rfl); (case hr => first | (go_simp; done) | (go_simp; rfl)); intro gb642 hg w18 hbox hb; have n0_ := zad (zbh (taaa) hb); have n1_ := zad ((show IsS51 w w18 gb642 l0 0 0 from ⟨_, _, hbox, (tafb), HR0.out⟩)); clear HB; have HB := n0_; have HI642 := n1_; clear n0_ n1_ hb hbox hg) | ((with_reducible refine zbi (f := 47) rfl ?_); refine zbo (some 11) rfl rfl Try.func47 (by kernel_rfl) rfl #[.pointer (some ⟨gb642, 0, none⟩), .int .i64 5] rfl (taae) ?_; (with_reducible refine (spec_l1Cur_pick.calls gb642 l0 0 0 5 t643 t644 t645 w _ ?side1 ?side2 A2.out).mono ?_); (case side1 => repeat (first | (with_reducible first | exact HI642.out | apply zcc | apply zcd | apply zce | apply zcf | apply zcg) | exact HI642.out)); (case side2 => repeat (first | (with_reducible first | exact HB.out | apply zag | apply zae | apply zaf | refine zah ?_ (IsS51.ge HI642.out)) | exact HB.out)); rintro e w19 ⟨rfl, hi, hb, hk⟩; refine ⟨_, rfl, ?_⟩; have n0_ := zad (hb); have n1_ := zad (hi); clear HB HI642; have HB := n0_; have HI642 := n1_; clear n0_ n1_; (try clear hb); (try clear hb2); (try clear hk); (try clear hi)) | ((with_reducible refine zbi (f := 47) rfl ?_); refine zbo (some 14) rfl rfl Try.func47 (by kernel_rfl) rfl #[.pointer (some ⟨gb642, 0, none⟩), .int .i64 14] rfl (taae) ?_; (with_reducible refine (spec_l1Cur_pick.calls gb642 l0 t644 t645 14 t646 t647 t648 w _ ?side1 ?side2 A3.out).mono ?_); (case side1 => repeat (first | (with_reducible first | exact HI642.out | apply zcc | apply zcd | apply zce | apply zcf | apply zcg) | exact HI642.out)); (case side2 => repeat (first | (with_reducible first | exact HB.out | apply zag | apply zae | apply zaf | refine zah ?_ (IsS51.ge HI642.out)) | exact HB.out)); rintro e w20 ⟨rfl, hi, hb, hk⟩; refine ⟨_, rfl, ?_⟩; have n0_ := zad (hb); have n1_ := zad (hi); clear HB HI642; have HB := n0_; have HI642 := n1_; clear n0_ n1_; (try clear hb); (try clear hb2); (try clear hk); (try clear hi)) | ((with_reducible refine zbi (f := 47) rfl ?_); refine zbo (some 16) rfl rfl Try.func47 (by kernel_rfl) rfl #[.pointer (some ⟨gb642, 0, none⟩), .int .i64 10] rfl (taae) ?_; (with_reducible refine (spec_l1Cur_pick.calls gb642 l0 t647 t648 10 t649 t650 t651 w _ ?side1 ?side2 A4.out).mono ?_); (case side1 => repeat (first | (with_reducible first | exact HI642.out | apply zcc | apply zcd | apply zce | apply zcf | apply zcg) | exact HI642.out)); (case side2 => repeat (first | (with_reducible first | exact HB.out | apply zag | apply zae | apply zaf | refine zah ?_ (IsS51.ge HI642.out)) | exact HB.out)); rintro e w21 ⟨rfl, hi, hb, hk⟩; refine ⟨_, rfl, ?_⟩; have n0_ := zad (hb); have n1_ := zad (hi); clear HB HI642; have HB := n0_; have HI642 := n1_; clear n0_ n1_; (try clear hb); (try clear hb2); (try clear hk); (try clear hi)) | ((with_reducible refine gate_dst (N := 25) rfl ?_); refine Kd.R_lit (Kd.int .i64) _ 3 ?hg (N := 25) ?hd (xs := ([(-1), 0, 30, 31] : List Int)) (inner := [.int .i64 (-1), .int .i64 0, .int .i64 30, .int .i64 31]) (ok := fun _ => True) (okp := fun _ => True) ?hr ?hp (fun _ hk => hk) trivial (Below.refl _ _) (zcb _) (taac) ?_; (case hd => rfl); (case hg => rfl); (case hr => first | (go_simp; done) | (go_simp; rfl)); (case hp => exact (Reps.one (show Kd.M (Kd.int .i64) _ _ _ (-1) [.int .i64 (-1)] from rfl) (Reps.one (show Kd.M (Kd.int .i64) _ _ _ 0 [.int .i64 0] from rfl) (Reps.one (show Kd.M (Kd.int .i64) _ _ _ 30 [.int .i64 30] from rfl) (Reps.one (show Kd.M (Kd.int .i64) _ _ _ 31 [.int .i64 31] from rfl) (Reps.none _ _)))))); intro v659 w22 ho23 hb hg_ hnew_; clear hg_ hnew_; (first | rw [← Ny658.out] at ho23 | (simp only [Int.reduceToNat] at ho23; rw [← Ny658.out] at ho23)); have n0_ := zad (zbu ho23 (zbl (tabj))); have n1_ := zad (IsS51.below (tabv) hb); have n2_ := zad (zbh (tabj) hb); clear HI642 HB; have HO660 := n0_; have HI642 := n1_; have HB := n2_; clear n0_ n1_ n2_ hb ho23; obtain ⟨Ao24, co24, eo24⟩ := zbv HO660.out; subst eo24) | ((with_reducible refine zbi (f := 62) rfl ?_); refine zbo (some 26) rfl rfl Try.func62 (by kernel_rfl) rfl #[.pointer (some ⟨gb642, 0, none⟩), .slice Ao24 y658.length co24] rfl (taae) ?_; (with_reducible refine (spec_l1Cur_among.calls gb642 l0 t650 t651 _ _ y658 t661 t662 t663 w _ ?side1 ?side2 ?side3 ?side4 ?side5 A16.out).mono ?_); (case side1 => repeat (first | (with_reducible first | exact HI642.out | apply zcc | apply zcd | apply zce | apply zcf | apply zcg) | exact HI642.out)); (case side2 => repeat (first | (with_reducible first | exact HB.out | apply zag | apply zae | apply zaf | refine zah ?_ (IsS51.ge HI642.out)) | exact HB.out)); (case side3 => repeat (first | exact (zbg HO660.out).2.2 | (with_reducible refine zal ?_ _) | (with_reducible refine zam ?_ _) | (with_reducible refine zan ?_))); (case side4 => exact (zbg HO660.out).2.1); (case side5 => exact far_slice (IsS51.own_ne HI642.out HO660.out (by decide))); rintro e w25 ⟨rfl, hi, hb, hk⟩; refine ⟨_, rfl, ?_⟩; have n0_ := zad (zbr (Kd.R_keep (IsS51.apart (show IsS51 w _ gb642 l0 t650 t651 from by exact tabv) (tadt) (by decide)) hk (fun _ h => h.2)) (fun _ h => h.1)); have n1_ := zad (hb); have n2_ := zad (hi); clear HO660 HB HI642; have HO660 := n0_; have HB := n1_; have HI642 := n2_; clear n0_ n1_ n2_; (try clear hb); (try clear hb2); (try clear hk); (try clear hi)) | ((with_reducible refine zbi (f := 47) rfl ?_); refine zbo (some 28) rfl rfl Try.func47 (by kernel_rfl) rfl #[.pointer (some ⟨gb642, 0, none⟩), .int .i64 3] rfl (taae) ?_; (with_reducible refine (spec_l1Cur_pick.calls gb642 l0 t662 t663 3 t664 t665 t666 w _ ?side1 ?side2 A17.out).mono ?_); (case side1 => repeat (first | (with_reducible first | exact HI642.out | apply zcc | apply zcd | apply zce | apply zcf | apply zcg) | exact HI642.out)); (case side2 => repeat (first | (with_reducible first | exact HB.out | apply zag | apply zae | apply zaf | refine zah ?_ (IsS51.ge HI642.out)) | exact HB.out)); rintro e w26 ⟨rfl, hi, hb, hk⟩; refine ⟨_, rfl, ?_⟩; have n0_ := zad (zbr (Kd.R_keep (IsS51.apart (show IsS51 w _ gb642 l0 t662 t663 from by exact tabv) (tadt) (by decide)) hk (fun _ h => h.2)) (fun _ h => h.1)); have n1_ := zad (hb); have n2_ := zad (hi); clear HO660 HB HI642; have HO660 := n0_; have HB := n1_; have HI642 := n2_; clear n0_ n1_ n2_; (try clear hb); (try clear hb2); (try clear hk); (try clear hi)))
     go_ret2
     exact ⟨taaf, tabj⟩
   · rw [if_neg c15] at H
     have c15b0 : (t649 == 1) = false := zbp.mpr c15
     have c15b1 : (t649 != 1) = true := bne_iff_ne.mpr c15
     simp only [zbm, zbq] at H
     obtain ⟨rfl, rfl⟩ := H
     go_enter Try.func27, Try.ntmps27
     go_wp2_with (first | ((with_reducible refine gate_dst (N := 9) rfl ?_); refine box_event ?hg (N := 9) ?hd (cs := #[.slice A0 l0.length c0, .int .i64 0, .int .u64 0]) (t := 51) ?hr ?_; (case hd => rfl); (case hg => rfl); (case hr => first | (go_simp; done) | (go_simp; rfl)); intro gb642 hg w27 hbox hb; have n0_ := zad (zbh (taaa) hb); have n1_ := zad ((show IsS51 w w27 gb642 l0 0 0 from ⟨_, _, hbox, (tafb), HR0.out⟩)); clear HB; have HB := n0_; have HI642 := n1_; clear n0_ n1_ hb hbox hg) | ((with_reducible refine zbi (f := 47) rfl ?_); refine zbo (some 11) rfl rfl Try.func47 (by kernel_rfl) rfl #[.pointer (some ⟨gb642, 0, none⟩), .int .i64 5] rfl (taae) ?_; (with_reducible refine (spec_l1Cur_pick.calls gb642 l0 0 0 5 t643 t644 t645 w _ ?side1 ?side2 A2.out).mono ?_); (case side1 => repeat (first | (with_reducible first | exact HI642.out | apply zcc | apply zcd | apply zce | apply zcf | apply zcg) | exact HI642.out)); (case side2 => repeat (first | (with_reducible first | exact HB.out | apply zag | apply zae | apply zaf | refine zah ?_ (IsS51.ge HI642.out)) | exact HB.out)); rintro e w28 ⟨rfl, hi, hb, hk⟩; refine ⟨_, rfl, ?_⟩; have n0_ := zad (hb); have n1_ := zad (hi); clear HB HI642; have HB := n0_; have HI642 := n1_; clear n0_ n1_; (try clear hb); (try clear hb2); (try clear hk); (try clear hi)) | ((with_reducible refine zbi (f := 47) rfl ?_); refine zbo (some 14) rfl rfl Try.func47 (by kernel_rfl) rfl #[.pointer (some ⟨gb642, 0, none⟩), .int .i64 14] rfl (taae) ?_; (with_reducible refine (spec_l1Cur_pick.calls gb642 l0 t644 t645 14 t646 t647 t648 w _ ?side1 ?side2 A3.out).mono ?_); (case side1 => repeat (first | (with_reducible first | exact HI642.out | apply zcc | apply zcd | apply zce | apply zcf | apply zcg) | exact HI642.out)); (case side2 => repeat (first | (with_reducible first | exact HB.out | apply zag | apply zae | apply zaf | refine zah ?_ (IsS51.ge HI642.out)) | exact HB.out)); rintro e w29 ⟨rfl, hi, hb, hk⟩; refine ⟨_, rfl, ?_⟩; have n0_ := zad (hb); have n1_ := zad (hi); clear HB HI642; have HB := n0_; have HI642 := n1_; clear n0_ n1_; (try clear hb); (try clear hb2); (try clear hk); (try clear hi)) | ((with_reducible refine zbi (f := 47) rfl ?_); refine zbo (some 16) rfl rfl Try.func47 (by kernel_rfl) rfl #[.pointer (some ⟨gb642, 0, none⟩), .int .i64 10] rfl (taae) ?_; (with_reducible refine (spec_l1Cur_pick.calls gb642 l0 t647 t648 10 t649 t650 t651 w _ ?side1 ?side2 A4.out).mono ?_); (case side1 => repeat (first | (with_reducible first | exact HI642.out | apply zcc | apply zcd | apply zce | apply zcf | apply zcg) | exact HI642.out)); (case side2 => repeat (first | (with_reducible first | exact HB.out | apply zag | apply zae | apply zaf | refine zah ?_ (IsS51.ge HI642.out)) | exact HB.out)); rintro e w30 ⟨rfl, hi, hb, hk⟩; refine ⟨_, rfl, ?_⟩; have n0_ := zad (hb); have n1_ := zad (hi); clear HB HI642; have HB := n0_; have HI642 := n1_; clear n0_ n1_; (try clear hb); (try clear hb2); (try clear hk); (try clear hi)))
     go_ret2
     exact ⟨taaf, tabj⟩
def impl_isMany.f (a0 : Int) : Option (Bool) := (impl_within.f a0 1 8).bind fun t667 => (some t667)
theorem impl_isMany.calls (a0 : Int) (r : Bool) (w : World) (h : impl_isMany.f a0 = some r) :
 Calls Try.prog 63 #[.int .i64 a0] w fun e w' => e = .returned (.bool r) ∧ Drawn0 w w' := by
 have H : ((impl_within.f a0 1 8).bind fun t667 => (some t667)) = some r := h
 clear h; replace H := zay.mp H; obtain ⟨t667, A20, H⟩ := H
 replace H : (some t667) = some r := H
 have A2 := zad A20; clear A20; obtain rfl := zbf H
 go_enter Try.func63, Try.ntmps63
 go_wp2_with (first | ((with_reducible refine zbi (f := 64) rfl ?_); refine zbo (some 4) rfl rfl Try.func64 (by kernel_rfl) rfl #[.int .i64 a0, .int .i64 1, .int .i64 8] rfl (taae) ?_; (with_reducible refine (impl_within.calls a0 1 8 t667 _ A2.out).mono ?_); rintro e w' ⟨rfl, ⟨nd, rfl⟩⟩; refine ⟨_, rfl, ?_⟩))
 go_ret
 exact ⟨taad, taag⟩
def impl_AllRankings.f (k : Nat) (a0 : Int) (a1 : Int) : Option ((List (List Int)) × Bool) := (impl_isMany.f a0).bind fun t668 => (if t668 = true then ((impl_within.f a1 0 30).bind fun t669 => (if t669 = true then ((impl_rankings.f k a0 a1 a1).bind fun t670 => (some (t670, true))) else (some (([] : List (List Int)), false)))) else (some (([] : List (List Int)), false)))
theorem impl_AllRankings.calls (k : Nat) (a0 : Int) (a1 : Int) (r1 : List (List Int)) (r2 : Bool) (w : World) (h : impl_AllRankings.f k a0 a1 = some (r1, r2)) :
 Calls Try.prog 28 #[.int .i64 a0, .int .i64 a1] w fun e w' => ∃ v0_ : Value, e = .returned (.tuple #[v0_, .bool r2]) ∧ Kd.S (Kd.slice 3 (Kd.int .i64)) 22 w' w.heap.size (fun _ => True) v0_ r1 ∧ Below w.heap.size w w' := by
 have HB := zad (Below.refl w.heap.size w)
 have H : ((impl_isMany.f a0).bind fun t668 => (if t668 = true then ((impl_within.f a1 0 30).bind fun t669 => (if t669 = true then ((impl_rankings.f k a0 a1 a1).bind fun t670 => (some (t670, true))) else (some (([] : List (List Int)), false)))) else (some (([] : List (List Int)), false)))) = some (r1, r2) := h
 clear h; replace H := zay.mp H; obtain ⟨t668, A30, H⟩ := H
 replace H : (if t668 = true then ((impl_within.f a1 0 30).bind fun t669 => (if t669 = true then ((impl_rankings.f k a0 a1 a1).bind fun t670 => (some (t670, true))) else (some (([] : List (List Int)), false)))) else (some (([] : List (List Int)), false))) = some (r1, r2) := H
 have A3 := zad A30; clear A30; by_cases c4 : t668 = true
 · subst c4
   have H1 : ((impl_within.f a1 0 30).bind fun t669 => (if t669 = true then ((impl_rankings.f k a0 a1 a1).bind fun t670 => (some (t670, true))) else (some (([] : List (List Int)), false)))) = some (r1, r2) := by rw [if_pos rfl] at H; exact H
   clear H; have H := H1; clear H1; replace H := zay.mp H; obtain ⟨t669, A50, H⟩ := H
   replace H : (if t669 = true then ((impl_rankings.f k a0 a1 a1).bind fun t670 => (some (t670, true))) else (some (([] : List (List Int)), false))) = some (r1, r2) := H
   have A5 := zad A50; clear A50; by_cases c6 : t669 = true
   · subst c6
     have H1 : ((impl_rankings.f k a0 a1 a1).bind fun t670 => (some (t670, true))) = some (r1, r2) := by rw [if_pos rfl] at H; exact H
     clear H; have H := H1; clear H1; replace H := zay.mp H; obtain ⟨t670, A70, H⟩ := H
     replace H : (some (t670, true)) = some (r1, r2) := H
     have A7 := zad A70; clear A70; simp only [zbm, zbq] at H
     obtain ⟨rfl, rfl⟩ := H
     go_enter Try.func28, Try.ntmps28
     go_wp2_with (first | ((with_reducible refine zbi (f := 63) rfl ?_); refine zbo (some 7) rfl rfl Try.func63 (by kernel_rfl) rfl #[.int .i64 a0] rfl (taae) ?_; (with_reducible refine (impl_isMany.calls a0 true _ A3.out).mono ?_); rintro e w' ⟨rfl, ⟨nd, rfl⟩⟩; refine ⟨_, rfl, ?_⟩) | (go_at_call 64; (with_reducible refine (impl_within.calls a1 0 30 true _ A5.out).mono ?_); rintro e w' ⟨rfl, ⟨nd, rfl⟩⟩) | ((with_reducible refine zbi (f := 65) rfl ?_); refine zbo (some 17) rfl rfl Try.func65 (by kernel_rfl) rfl #[.int .i64 a0, .int .i64 a1, .int .i64 a1] rfl (taae) ?_; (with_reducible refine (impl_rankings.calls k a0 a1 a1 t670 _ A7.out).mono ?_); rintro e w8 ⟨v671, rfl, ho0, hb⟩; refine ⟨_, rfl, ?_⟩; have n0_ := zad (Kd.S_lower ho0 (zbl (taaa))); have n1_ := zad (zbh (taaa) hb); clear HB; have HO672 := n0_; have HB := n1_; clear n0_ n1_; (try clear hb); (try clear hb2); (try clear hk); (try clear hi); (try clear ho0)))
     go_ret2
     exact ⟨_, taaf, by (with_reducible repeat (first | apply Kd.S_alloc | apply Kd.S_drewN | apply Kd.S_drew)); exact HO672.out, taaa⟩
   · replace c6 := zbj.mpr c6
     subst c6; have H1 : (some (([] : List (List Int)), false)) = some (r1, r2) := by rw [if_neg (show ¬ (false = true) by decide)] at H; exact H
     clear H; have H := H1; clear H1; simp only [zbm, zbq] at H
     obtain ⟨rfl, rfl⟩ := H
     go_enter Try.func28, Try.ntmps28
     go_wp2_with (first | ((with_reducible refine zbi (f := 63) rfl ?_); refine zbo (some 7) rfl rfl Try.func63 (by kernel_rfl) rfl #[.int .i64 a0] rfl (taae) ?_; (with_reducible refine (impl_isMany.calls a0 true _ A3.out).mono ?_); rintro e w' ⟨rfl, ⟨nd, rfl⟩⟩; refine ⟨_, rfl, ?_⟩) | (go_at_call 64; (with_reducible refine (impl_within.calls a1 0 30 false _ A5.out).mono ?_); rintro e w' ⟨rfl, ⟨nd, rfl⟩⟩))
     go_ret2
     exact ⟨_, taaf, taba, taaa⟩
 · replace c4 := zbj.mpr c4
   subst c4; have H1 : (some (([] : List (List Int)), false)) = some (r1, r2) := by rw [if_neg (show ¬ (false = true) by decide)] at H; exact H
   clear H; have H := H1; clear H1; simp only [zbm, zbq] at H
   obtain ⟨rfl, rfl⟩ := H
   go_enter Try.func28, Try.ntmps28
   go_wp2_with (first | ((with_reducible refine zbi (f := 63) rfl ?_); refine zbo (some 7) rfl rfl Try.func63 (by kernel_rfl) rfl #[.int .i64 a0] rfl (taae) ?_; (with_reducible refine (impl_isMany.calls a0 false _ A3.out).mono ?_); rintro e w' ⟨rfl, ⟨nd, rfl⟩⟩; refine ⟨_, rfl, ?_⟩))
   go_ret2
   exact ⟨_, taaf, taba, taaa⟩
def spec_l1In.f (a0 : Int) (a1 : Int) (a2 : Int) : Option (Bool) := if a0 ≥ a1 then (some (decide (a0 ≤ a2))) else (some false)
theorem spec_l1In.calls (a0 : Int) (a1 : Int) (a2 : Int) (r : Bool) (w : World) (h : spec_l1In.f a0 a1 a2 = some r) :
 Calls Try.prog 66 #[.int .i64 a0, .int .i64 a1, .int .i64 a2] w fun e w' => e = .returned (.bool r) ∧ Drawn0 w w' := by
 have H : (if a0 ≥ a1 then (some (decide (a0 ≤ a2))) else (some false)) = some r := h
 clear h; by_cases c4 : a0 ≥ a1
 · rw [if_pos c4] at H
   have c4b0 : decide (a1 ≤ a0) = true := zba c4
   clear c4; obtain rfl := zbf H
   go_enter Try.func66, Try.ntmps66
   go_wp2
   go_ret
   exact ⟨taad, taag⟩
 · rw [if_neg c4] at H
   have c4b0 : decide (a1 ≤ a0) = false := zbk c4
   clear c4; obtain rfl := zbf H
   go_enter Try.func66, Try.ntmps66
   go_wp2
   go_ret
   exact ⟨taad, taag⟩
def spec_l1Least.f (a0 : Int) (a1 : Int) : Option (Int) := if a0 < a1 then (some a0) else (some a1)
theorem spec_l1Least.calls (a0 : Int) (a1 : Int) (r : Int) (w : World) (h : spec_l1Least.f a0 a1 = some r) :
 Calls Try.prog 48 #[.int .i64 a0, .int .i64 a1] w fun e w' => e = .returned (.int .i64 r) ∧ Drawn0 w w' := by
 have H : (if a0 < a1 then (some a0) else (some a1)) = some r := h
 clear h; by_cases c3 : a0 < a1
 · rw [if_pos c3] at H
   have c3b0 : decide (a0 < a1) = true := zba c3
   clear c3; obtain rfl := zbf H
   go_enter Try.func48, Try.ntmps48
   go_wp2
   go_ret
   exact ⟨taad, taag⟩
 · rw [if_neg c3] at H
   have c3b0 : decide (a0 < a1) = false := zbk c3
   clear c3; obtain rfl := zbf H
   go_enter Try.func48, Try.ntmps48
   go_wp2
   go_ret
   exact ⟨taad, taag⟩
mutual
def spec_liAll.l0 : Nat → Int → Int → List (List Int) → Int → Option ((List (List Int)))
 | 0, _, _, _, _ => none
 | k + 1, x0, x1, x7, x8 => if (wrap64 (x8 * x0)) ≥ x1 then (spec_liAll.j1 k x0 x1 x7 x8 (decide (x8 ≥ 0))) else (spec_liAll.j1 k x0 x1 x7 x8 false)
def spec_liAll.j1 : Nat → Int → Int → List (List Int) → Int → Bool → Option ((List (List Int)))
 | 0, _, _, _, _, _ => none
 | k + 1, x0, x1, x7, x8, x27 => if x27 = true then ((spec_liAll.f k (wrap64 (x0 - 1)) (wrap64 (x1 - x8)) x8).bind fun t677 => (spec_liAll.l1 k x0 x1 x7 x8 t677 (t677.length : Int) 0)) else (some x7)
def spec_liAll.l1 : Nat → Int → Int → List (List Int) → Int → List (List Int) → Int → Int → Option ((List (List Int)))
 | 0, _, _, _, _, _, _, _ => none
 | k + 1, x0, x1, x7, x8, x36, x37, x38 => if x38 < x37 then (if 0 ≤ x38 then (if x38 < (x36.length : Int) then ((some (([x8] : List Int) : List Int)).bind fun y681 => (if y681.length + (rd_L1 x36 x38).length < 17592186044416 then (if x7.length < 5864062014805 then (spec_liAll.l1 k x0 x1 (x7 ++ [(y681 ++ (rd_L1 x36 x38))]) x8 x36 x37 (wrap64 (x38 + 1))) else (none)) else (none))) else (none)) else (none)) else (spec_liAll.l0 k x0 x1 x7 (wrap64 (x8 - 1)))
def spec_liAll.f : Nat → Int → Int → Int → Option ((List (List Int)))
 | 0, _, _, _ => none
 | k + 1, a0, a1, a2 => if a0 = 0 then (if a1 = 0 then (some (([[]] : List (List Int)))) else (some ([] : List (List Int)))) else ((spec_l1Least.f a1 a2).bind fun t676 => (spec_liAll.l0 k a0 a1 ([] : List (List Int)) t676))
end
theorem spec_liAll.calls (k : Nat) : ∀ (a0 : Int) (a1 : Int) (a2 : Int) (r : List (List Int)) (w : World) (h : spec_liAll.f k a0 a1 a2 = some r),
 Calls Try.prog 67 #[.int .i64 a0, .int .i64 a1, .int .i64 a2] w fun e w' => ∃ v0_ : Value, e = .returned (v0_) ∧ Kd.S (Kd.slice 3 (Kd.int .i64)) 22 w' w.heap.size (fun _ => True) v0_ r ∧ Below w.heap.size w w' := by
 induction k using Nat.strongRecOn with
 | _ k ih =>
 intro a0 a1 a2 r w h
 cases k with
 | zero => exact absurd h (by simp [spec_liAll.f])
 | succ k =>
 simp only [spec_liAll.f] at h
 have HB := zad (Below.refl w.heap.size w)
 have H : (if a0 = 0 then (if a1 = 0 then (some (([[]] : List (List Int)))) else (some ([] : List (List Int)))) else ((spec_l1Least.f a1 a2).bind fun t676 => (spec_liAll.l0 k a0 a1 ([] : List (List Int)) t676))) = some r := h
 clear h; by_cases c4 : a0 = 0
 · rw [if_pos c4] at H
   have c4b0 : (a0 == 0) = true := beq_iff_eq.mpr c4
   have c4b1 : (a0 != 0) = false := bne_eq_false_iff_eq.mpr c4
   clear c4; by_cases c5 : a1 = 0
   · rw [if_pos c5] at H
     have c5b0 : (a1 == 0) = true := beq_iff_eq.mpr c5
     have c5b1 : (a1 != 0) = false := bne_eq_false_iff_eq.mpr c5
     clear c5; obtain ⟨y673, hy673⟩ : ∃ y_ : List (List Int), y_ = (([[]] : List (List Int))) := ⟨_, rfl⟩
     replace H : (some y673) = some r := by first | (rw [hy673]; with_reducible exact H) | (have H2_ := (zbe _ _).symm.trans H; rw [hy673]; with_reducible exact H2_) | (have H2_ := (zbe _ _).symm.trans H; with_reducible exact H2_) | with_reducible exact H | (rw [hy673]; exact H) | exact H
     have Ny673 := zad hy673; clear hy673; obtain rfl := zbf H
     go_enter Try.func67, Try.ntmps67
     go_wp2_with (first | ((with_reducible refine gate_dst (N := 15) rfl ?_); refine Kd.S_lit (Kd.slice 3 (Kd.int .i64)) _ 22 ?hg (N := 15) ?hd (xs := ([[]] : List (List Int))) (inner := [.slice none 0 0]) (ok := fun _ => True) (okp := fun _ => True) ?hr ?hp (fun _ hk => hk) trivial (Below.refl _ _) (zcb _) (taac) ?_; (case hd => rfl); (case hg => rfl); (case hr => first | (go_simp; done) | (go_simp; rfl)); (case hp => exact (Reps.one (show Kd.M (Kd.slice 3 (Kd.int .i64)) _ _ _ [] [.slice none 0 0] from ⟨_, rfl, Kd.R_nil _ _ _ _ _⟩) (Reps.none _ _))); intro v674 w6 ho7 hb hg_ hnew_; clear hg_ hnew_; (first | rw [← Ny673.out] at ho7 | (simp only [Int.reduceToNat] at ho7; rw [← Ny673.out] at ho7)); have n0_ := zad (Kd.S_lower ho7 (zbl (taaa))); have n1_ := zad (zbh (taaa) hb); clear HB; have HO675 := n0_; have HB := n1_; clear n0_ n1_ hb ho7))
     go_ret
     exact ⟨_, taaf, by (with_reducible repeat (first | apply Kd.S_alloc | apply Kd.S_drewN | apply Kd.S_drew)); exact HO675.out, taaa⟩
   · rw [if_neg c5] at H
     have c5b0 : (a1 == 0) = false := zbp.mpr c5
     have c5b1 : (a1 != 0) = true := bne_iff_ne.mpr c5
     obtain rfl := zbf H
     go_enter Try.func67, Try.ntmps67
     go_wp2
     go_ret
     exact ⟨_, taaf, taba, taaa⟩
 · rw [if_neg c4] at H
   have c4b0 : (a0 == 0) = false := zbp.mpr c4
   have c4b1 : (a0 != 0) = true := bne_iff_ne.mpr c4
   replace H := zay.mp H; obtain ⟨t676, A80, H⟩ := H
   replace H : (spec_liAll.l0 k a0 a1 ([] : List (List Int)) t676) = some r := H
   have A8 := zad A80; clear A80; have H' := zad H
   clear H; go_enter Try.func67, Try.ntmps67
   go_wp2_with (first | ((with_reducible refine zbi (f := 48) rfl ?_); refine zbo (some 18) rfl rfl Try.func48 (by kernel_rfl) rfl #[.int .i64 a1, .int .i64 a2] rfl (taae) ?_; (with_reducible refine (spec_l1Least.calls a1 a2 t676 _ A8.out).mono ?_); rintro e w' ⟨rfl, ⟨nd, rfl⟩⟩; refine ⟨_, rfl, ?_⟩))
   go_loopg [7, 8] k (fun kq v7 v8 w' => ∃ (x7_1 : List (List Int)) (x8_1 : Int), v8 = .int .i64 x8_1 ∧ Aside0 (spec_liAll.l0 kq a0 a1 x7_1 x8_1 = some r) ∧ Aside0 (kq ≤ k) ∧ Aside0 (Kd.S (Kd.slice 3 (Kd.int .i64)) 22 w' w.heap.size (fun _ => True) v7 x7_1) ∧ Aside0 (Below w.heap.size w w'))
   case atStart => exact ⟨(([] : List (List Int))), (t676), (taad), H', ⟨zcb _⟩, ⟨taba⟩, ⟨taaa⟩⟩
   case round =>
    clear H'
    try clear p2
    try clear c4
    try clear c4b0
    try clear c4b1
    try clear c5
    try clear c5b0
    try clear c5b1
    try clear c6
    obtain ⟨x7_1, x8_1, rfl, HA, HK1, HO_7, HB⟩ := hrel
    cases gk with
    | zero => exact absurd HA.out (by simp [spec_liAll.l0])
    | succ k1 =>
     have H := HA.out
     clear HA; simp only [spec_liAll.l0] at H
     have HC9 := zad H; clear H; go_upto_region 7 with (fail)
     go_cut [27] (fun v27 wc => ∃ (kq : Nat) (x27_8 : Bool), v27 = .bool x27_8 ∧ Aside0 (spec_liAll.j1 kq a0 a1 x7_1 x8_1 x27_8 = some r) ∧ Aside0 (kq ≤ k1) ∧ Aside0 (Kd.S (Kd.slice 3 (Kd.int .i64)) 22 wc w.heap.size (fun _ => True) u7 x7_1) ∧ Aside0 (Below w.heap.size w wc))
     case first =>
      have H := HC9.out
      clear HC9; by_cases c10 : (wrap64 (x8_1 * a0)) ≥ a1
      · rw [if_pos c10] at H
        have c10b0 : decide (a1 ≤ (wrap64 (x8_1 * a0))) = true := zba c10
        clear c10; (first | rw [c10b0] | (simp only [i64_w, i32_w]; rw [c10b0]) | skip)
        have H' := zad H
        clear H; go_wp2
        go_meet
        case rel => exact ⟨_, (decide (x8_1 ≥ 0)), (taad), H', ⟨taca⟩, ⟨taav⟩, ⟨taaa⟩⟩
      · rw [if_neg c10] at H
        have c10b0 : decide (a1 ≤ (wrap64 (x8_1 * a0))) = false := zbk c10
        clear c10; (first | rw [c10b0] | (simp only [i64_w, i32_w]; rw [c10b0]) | skip)
        have H' := zad H
        clear H; go_wp2
        go_meet
        case rel => exact ⟨_, (false), (taad), H', ⟨taca⟩, ⟨taav⟩, ⟨taaa⟩⟩
     case rest =>
      clear HC9; try clear c1
      try clear p2
      try clear c4
      try clear c4b0
      try clear c4b1
      try clear c5
      try clear c5b0
      try clear c5b1
      try clear c6
      try clear p6
      try clear c10
      try clear c10b0
      try clear p2
      obtain ⟨kq, x27_8, rfl, HA, HJ8, HO_7, HB⟩ := hcut
      cases kq with
      | zero => exact absurd HA.out (by simp [spec_liAll.j1])
      | succ kj8 =>
       have H := HA.out
       clear HA; simp only [spec_liAll.j1] at H
       by_cases c11 : x27_8 = true
       · subst c11
         have H1 : ((spec_liAll.f kj8 (wrap64 (a0 - 1)) (wrap64 (a1 - x8_1)) x8_1).bind fun t677 => (spec_liAll.l1 kj8 a0 a1 x7_1 x8_1 t677 (t677.length : Int) 0)) = some r := by rw [if_pos rfl] at H; exact H
         clear H; have H := H1; clear H1; replace H := zay.mp H; obtain ⟨t677, A120, H⟩ := H
         replace H : (spec_liAll.l1 kj8 a0 a1 x7_1 x8_1 t677 (t677.length : Int) 0) = some r := H
         have A12 := zad A120; clear A120; have H' := zad H
         clear H; go_wp2_with (first | ((with_reducible refine zbi (f := 67) rfl ?_); refine zbo (some 36) rfl rfl Try.func67 (by kernel_rfl) rfl #[.int .i64 (wrap64 (a0 - 1)), .int .i64 (wrap64 (a1 - x8_1)), .int .i64 x8_1] rfl (taae) ?_; (with_reducible refine (ih kj8 (by have := HK1.out; have := HJ8.out; omega) (wrap64 (a0 - 1)) (wrap64 (a1 - x8_1)) x8_1 t677 _ A12.out).mono ?_); rintro e w13 ⟨v678, rfl, ho0, hb⟩; refine ⟨_, rfl, ?_⟩; have n0_ := zad (Kd.S_elder' (taav) (Kd.S_base ho0) hb); have n1_ := zad (Kd.S_lower (Kd.S_new' ho0 (Kd.S_lt (taav))) (zbl (taaa))); have n2_ := zad (zbh (taaa) hb); clear HO_7 HB; have HO_7 := n0_; have HO679 := n1_; have HB := n2_; clear n0_ n1_ n2_; (try clear hb); (try clear hb2); (try clear hk); (try clear hi); (try clear ho0); obtain ⟨Ao14, co14, eo14⟩ := Kd.S_slice HO679.out; subst eo14))
         go_loopg [7, 38] kj8 (fun kq v7 v38 w' => ∃ (x7_3 : List (List Int)) (x38_3 : Int), v38 = .int .i64 x38_3 ∧ Aside0 (spec_liAll.l1 kq a0 a1 x7_3 x8_1 t677 (t677.length : Int) x38_3 = some r) ∧ Aside0 (kq ≤ kj8) ∧ Aside0 (Kd.S (Kd.slice 3 (Kd.int .i64)) 22 w' w.heap.size (fun k_ => some k_ ≠ ((.slice Ao14 t677.length co14) : Value).ownBlock) v7 x7_3) ∧ Aside0 (Kd.S (Kd.slice 3 (Kd.int .i64)) 22 w' w.heap.size (fun k_ => some k_ ≠ (v7 : Value).ownBlock) (.slice Ao14 t677.length co14) t677) ∧ Aside0 (Below w.heap.size w w'))
         case atStart => exact ⟨(x7_1), (0), (taad), H', ⟨zcb _⟩, ⟨tado⟩, ⟨by (with_reducible repeat (first | apply Kd.S_alloc | apply Kd.S_drewN | apply Kd.S_drew)); exact Kd.S_mono HO679.out (fun _ hk => hk.2)⟩, ⟨taaa⟩⟩
         case round =>
          clear H'
          try clear c1
          try clear p2
          try clear c4
          try clear c4b0
          try clear c4b1
          try clear c5
          try clear c5b0
          try clear c5b1
          try clear c6
          try clear p6
          try clear c10
          try clear c10b0
          try clear c11
          try clear p2
          try clear p6
          obtain ⟨x7_3, x38_3, rfl, HA, HK3, HO_7, HO_36, HB⟩ := hrel
          cases gk with
          | zero => exact absurd HA.out (by simp [spec_liAll.l1])
          | succ k3 =>
           have H := HA.out
           clear HA; simp only [spec_liAll.l1] at H
           by_cases c15 : x38_3 < (t677.length : Int)
           · rw [if_pos c15] at H
             have c15b0 : decide (x38_3 < (t677.length : Int)) = true := zba c15
             clear c15; by_cases c16 : 0 ≤ x38_3
             · rw [if_pos c16] at H
               have c16b0 : decide (0 ≤ x38_3) = true := zba c16
               clear c16; by_cases c17 : x38_3 < (t677.length : Int)
               · rw [if_pos c17] at H
                 have c17b0 : decide (x38_3 < (t677.length : Int)) = true := zba c17
                 clear c17; obtain ⟨y681, hy681⟩ : ∃ y_ : List Int, y_ = (([x8_1] : List Int)) := ⟨_, rfl⟩
                 replace H : (if y681.length + (rd_L1 t677 x38_3).length < 17592186044416 then (if x7_3.length < 5864062014805 then (spec_liAll.l1 k3 a0 a1 (x7_3 ++ [(y681 ++ (rd_L1 t677 x38_3))]) x8_1 t677 (t677.length : Int) (wrap64 (x38_3 + 1))) else (none)) else (none)) = some r := by first | (rw [hy681]; with_reducible exact H) | (have H2_ := (zbe _ _).symm.trans H; rw [hy681]; with_reducible exact H2_) | (have H2_ := (zbe _ _).symm.trans H; with_reducible exact H2_) | with_reducible exact H | (rw [hy681]; exact H) | exact H
                 have Ny681 := zad hy681; clear hy681; by_cases c18 : y681.length + (rd_L1 t677 x38_3).length < 17592186044416
                 · rw [if_pos c18] at H
                   have LMc18 := zad c18; clear c18; obtain ⟨y684, hy684⟩ : ∃ y_ : List Int, y_ = (y681 ++ (rd_L1 t677 x38_3)) := ⟨_, rfl⟩
                   replace H : (if x7_3.length < 5864062014805 then (spec_liAll.l1 k3 a0 a1 (x7_3 ++ [y684]) x8_1 t677 (t677.length : Int) (wrap64 (x38_3 + 1))) else (none)) = some r := by first | (rw [hy684]; with_reducible exact H) | (have H2_ := (zbe _ _).symm.trans H; rw [hy684]; with_reducible exact H2_) | (have H2_ := (zbe _ _).symm.trans H; with_reducible exact H2_) | with_reducible exact H | (rw [hy684]; exact H) | exact H
                   have Ny684 := zad hy684; clear hy684; by_cases c19 : x7_3.length < 5864062014805
                   · rw [if_pos c19] at H
                     have LMc19 := zad c19; clear c19; obtain ⟨y687, hy687⟩ : ∃ y_ : List (List Int), y_ = (x7_3 ++ [y684]) := ⟨_, rfl⟩
                     replace H : (spec_liAll.l1 k3 a0 a1 y687 x8_1 t677 (t677.length : Int) (wrap64 (x38_3 + 1))) = some r := by first | (rw [hy687]; with_reducible exact H) | (have H2_ := (zbe _ _).symm.trans H; rw [hy687]; with_reducible exact H2_) | (have H2_ := (zbe _ _).symm.trans H; with_reducible exact H2_) | with_reducible exact H | (rw [hy687]; exact H) | exact H
                     have Ny687 := zad hy687; clear hy687; have H' := zad H
                     clear H; have p680 : 0 ≤ (x38_3 : Int) := zas (taab)
                     have q680 : x38_3 < (t677.length : Int) := zas (taab)
                     obtain ⟨ad680, A680_0, c680_0, e680, hx680_0, hl680_0, hi680_0⟩ := at_L1 (Kd.S_reads' HO_36.out).2.2 x38_3 p680 q680
                     cases e680
                     obtain ⟨ce680, hce680, hMe680, hcc680⟩ := Kd.S_get HO_36.out [] x38_3 p680 (by first | exact q680 | exact zas (taab) | (have e_ := (Kd.S_reads' HO_36.out).1; omega))
                     obtain ⟨ve680_0, rfl, ge680_0⟩ := hMe680
                     have hv680_0 := hcc680 0 _ rfl
                     rw [Nat.add_zero, show ((Kd.slice 3 (Kd.int .i64))).sz = 1 from rfl, Nat.mul_one] at hv680_0
                     replace hv680_0 := zbf (hv680_0.symm.trans hx680_0)
                     rw [hv680_0] at ge680_0
                     have HL680_0 := zad (show Kd.R (Kd.int .i64) 3 _ _ _ _ (rd_L1 t677 x38_3) from ge680_0)
                     clear hv680_0 ge680_0 hcc680 hce680; have HR680_0 := zad hi680_0; have HC680_0 := zad hl680_0; clear hi680_0 hl680_0; replace p680 := eq_true p680
                     replace q680 := eq_true q680
                     go_wp2_with (first | ((with_reducible refine gate_dst (N := 44) rfl ?_); refine Kd.R_lit (Kd.int .i64) _ 3 ?hg (N := 44) ?hd (xs := ([x8_1] : List Int)) (inner := [.int .i64 x8_1]) (ok := fun _ => True) (okp := fun _ => True) ?hr ?hp (fun _ hk => hk) trivial (Below.refl _ _) (zcb _) (taac) ?_; (case hd => rfl); (case hg => rfl); (case hr => first | (go_simp; done) | (go_simp; rfl)); (case hp => exact (Reps.one (show Kd.M (Kd.int .i64) _ _ _ x8_1 [.int .i64 x8_1] from rfl) (Reps.none _ _))); intro v682 w20 ho21 hb hg_ hnew_; clear hg_ hnew_; (first | rw [← Ny681.out] at ho21 | (simp only [Int.reduceToNat] at ho21; rw [← Ny681.out] at ho21)); have n0_ := zad (Kd.S_elder' (taav) (zbz ho21) hb); have n1_ := zad (Kd.S_elder' (tacx) (zbz ho21) hb); have n2_ := zad (zbx (tacd) (zbz ho21) hb); have n3_ := zad (zbu (zby ho21 (zca (tacd))) (zbl (taaa))); have n4_ := zad (Kd.C_below (tadu) hb); have n5_ := zad (zbh (taaa) hb); clear HO_7 HO_36 HL680_0 HR680_0 HB; have HO_7 := n0_; have HO_36 := n1_; have HL680_0 := n2_; have HO683 := n3_; have HR680_0 := n4_; have HB := n5_; clear n0_ n1_ n2_ n3_ n4_ n5_ hb ho21) | ((with_reducible refine gate_builtin (b := .append) (xs := #[.tmp 44, .tmp 45]) rfl ?_); at_builtin; refine Kd.R_append_rows (Kd.int .i64) (w0 := w) w.heap.size rfl (.tmp 44) (.tmp 45) 22 3 (.int .i64 0) 8 rfl Try.underlying22 info3 rfl (by decide) (by omega) v682 y681 (rd_L1 t677 x38_3) _ _ _ (fun k_ => some k_ ≠ (.slice A680_0 (rd_L1 t677 x38_3).length c680_0 : Value).ownBlock) (fun _ => False) rfl rfl ?aO ?aR (fun _ _ h => h) (fun _ h => h.elim) ?aF ?aB ?aS ?aL ?_; (case aR => repeat (first | exact (tadu) | (with_reducible refine zal ?_ _) | (with_reducible refine zam ?_ _) | (with_reducible refine zan ?_))); (case aB => exact (taaa)); (case aF => exact (fun k_ hk => Kd.fresh' (zca (tacd)) k_ hk)); (case aO => exact (by (with_reducible repeat (first | apply zai | apply zaj | apply zak)); exact zbr HO683.out (fun _ hk => hk.2))); (case aS => exact (zbl (taaa))); (case aL => have := LMc18.out; omega); intro v685 w22 ho hb hg hat; rw [← Ny684.out] at ho; have n0_ := zad (Kd.S_after (ok := (fun k_ => some k_ ≠ (.slice (some ad680) t677.length co14 : Value).ownBlock)) (taav) hg hat); have n1_ := zad (Kd.S_after (ok := (fun k_ => some k_ ≠ (u7 : Value).ownBlock)) (tacx) hg hat); have n2_ := zad (Kd.R_after (ok := (fun k_ => some k_ ≠ (u7 : Value).ownBlock ∧ some k_ ≠ (.slice (some ad680) t677.length co14 : Value).ownBlock)) (tacd) hg hat); have n3_ := zad (hb); have n4_ := zad (ho); clear HO_7 HO_36 HL680_0 HB HO683; have HO_7 := n0_; have HO_36 := n1_; have HL680_0 := n2_; have HB := n3_; have HO686 := n4_; clear n0_ n1_ n2_ n3_ n4_ ho hb hg hat; obtain ⟨Ao24, co24, eo24⟩ := zbv HO686.out; subst eo24) | ((with_reducible refine gate_builtin (b := .append) (xs := #[.tmp 42, .tmp 47]) rfl ?_); at_builtin; refine Kd.S_append (Kd.slice 3 (Kd.int .i64)) (w0 := w) w.heap.size rfl (.tmp 42) (.tmp 47) 23 22 (.slice none 0 0) 24 rfl Try.underlying23 info22 rfl (by decide) (by omega) u7 x7_3 y684 [.slice Ao24 y684.length co24] (fun k_ => some k_ ≠ (.slice (some ad680) t677.length co14 : Value).ownBlock) (fun k_ => some k_ = (.slice Ao24 y684.length co24 : Value).ownBlock) rfl rfl ?aP (fun k_ hk_ => ((zbr (ok' := fun k_ => ((fun k_ => some k_ ≠ (.slice (some ad680) t677.length co14 : Value).ownBlock)) k_ ∧ some k_ ≠ (u7 : Value).ownBlock) (Kd.R_apart' (Kd.R_apart' (HO686.out) (Kd.S_typed HO_36.out) (by decide)) (Kd.S_typed HO_7.out) (by decide)) (fun k_ hk => ⟨hk.1.2, hk.2⟩))).1 k_ hk_.symm) ?aF ?aO ?aB ?aS ?aL ?_; (case aP => exact Kd.M_row (zbr (Kd.R_tight rfl (zbr (ok' := fun k_ => ((fun k_ => some k_ ≠ (.slice (some ad680) t677.length co14 : Value).ownBlock)) k_ ∧ some k_ ≠ (u7 : Value).ownBlock) (Kd.R_apart' (Kd.R_apart' (HO686.out) (Kd.S_typed HO_36.out) (by decide)) (Kd.S_typed HO_7.out) (by decide)) (fun k_ hk => ⟨hk.1.2, hk.2⟩))) (fun _ h_ => h_))); (case aB => exact (taaa)); (case aF => exact (fun k_ hk => Kd.fresh' (Kd.S_lt (tacx)) k_ hk)); (case aO => exact (tadq)); (case aS => exact (zbl (taaa))); (case aL => have := LMc19.out; omega); intro v688 w23 ho hb hg hat; rw [← Ny687.out] at ho; have n0_ := zad (Kd.S_after (ok := (fun k_ => some k_ ≠ (.slice Ao24 y684.length co24 : Value).ownBlock)) (by (with_reducible repeat (first | apply Kd.S_alloc | apply Kd.S_drewN | apply Kd.S_drew)); exact Kd.S_mono HO_36.out (fun _ hk => ⟨hk.2, hk.1⟩)) hg hat); have n1_ := zad (Kd.R_after (ok := (fun k_ => some k_ ≠ (.slice (some ad680) t677.length co14 : Value).ownBlock ∧ some k_ ≠ (.slice Ao24 y684.length co24 : Value).ownBlock)) (by (with_reducible repeat (first | apply zai | apply zaj | apply zak)); exact zbr HL680_0.out (fun _ hk => ⟨⟨hk.1.2, hk.2⟩, hk.1.1⟩)) hg hat); have n2_ := zad (hb); have n3_ := zad (ho); clear HO_36 HL680_0 HB HO_7 HO686; have HO_36 := n0_; have HL680_0 := n1_; have HB := n2_; have HO689 := n3_; clear n0_ n1_ n2_ n3_ ho hb hg hat))
                     go_roundg k3
                     case measure => have := HK1.out; have := HJ8.out; have := HK3.out; omega
                     case rel => exact ⟨(y687), (wrap64 (x38_3 + 1)), (taad), H', ⟨by have := HK1.out; have := HJ8.out; have := HK3.out; omega⟩, ⟨by (with_reducible repeat (first | apply Kd.S_alloc | apply Kd.S_drewN | apply Kd.S_drew)); exact HO689.out⟩, ⟨by (with_reducible repeat (first | apply Kd.S_alloc | apply Kd.S_drewN | apply Kd.S_drew)); exact Kd.S_mono HO_36.out (fun _ hk => hk.2)⟩, ⟨taaa⟩⟩
                   · rw [if_neg c19] at H
                     exact absurd H (taac)
                 · rw [if_neg c18] at H
                   exact absurd H (taac)
               · rw [if_neg c17] at H
                 exact absurd H (taac)
             · rw [if_neg c16] at H
               exact absurd H (taac)
           · rw [if_neg c15] at H
             have c15b0 : decide (x38_3 < (t677.length : Int)) = false := zbk c15
             clear c15; have H' := zad H
             clear H; go_wp2
             go_roundg k3
             case measure => have := HK1.out; have := HJ8.out; have := HK3.out; omega
             case rel => exact ⟨(x7_3), (wrap64 (x8_1 - 1)), (taad), H', ⟨by have := HK1.out; have := HJ8.out; have := HK3.out; omega⟩, ⟨tadr⟩, ⟨taaa⟩⟩
       · replace c11 := zbj.mpr c11
         subst c11; have H1 : (some x7_1) = some r := by rw [if_neg (show ¬ (false = true) by decide)] at H; exact H
         clear H; have H := H1; clear H1; obtain rfl := zbf H
         go_wp2
         go_ret
         exact ⟨_, taaf, taav, taaa⟩
end Go.Proofs.Ytdkimdlbjeobiaa.A
