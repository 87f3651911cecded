/-
  The walks: each Go function returns what its model says. Written by a program (gen.py).
-/
import Derived.Test.YtacggcanjanmkaaProg
import Derived.KernelRfl
import Derived.Test.YtacggcanjanmkaaAW
import Derived.Test.YtacggcanjanmkaaBW
import Derived.Test.YtacggcanjanmkaaCW
import Derived.Test.YtacggcanjanmkaaDM
namespace Go.Proofs.Ytacggcanjanmkaa
open Go Go.Bk
set_option linter.unusedVariables false
set_option linter.unnecessarySimpa false
theorem kfieldB_45_0_0_true : fieldB Try.prog 45 0 0 = true := by kernel_rfl
theorem kfieldB_45_1_1_true : fieldB Try.prog 45 1 1 = true := by kernel_rfl
theorem kcallB_18_true : callB Try.prog 18 = true := by kernel_rfl
theorem kfieldB_45_2_2_true : fieldB Try.prog 45 2 2 = true := by kernel_rfl
theorem kcallB_19_true : callB Try.prog 19 = true := by kernel_rfl
theorem kcallB_20_true : callB Try.prog 20 = true := by kernel_rfl
theorem kcallB_21_true : callB Try.prog 21 = true := by kernel_rfl
theorem kcallB_22_true : callB Try.prog 22 = true := by kernel_rfl
theorem kcallB_23_true : callB Try.prog 23 = true := by kernel_rfl
theorem kfieldB_45_3_3_true : fieldB Try.prog 45 3 3 = true := by kernel_rfl
theorem kinfo_52_bind_zero_some_agg_I_0_I_0 : (Try.prog.info? 52).bind (·.zero) = some (.agg #[I 0, I 0]) := by kernel_rfl
theorem kinfo_27_bind_zero_some_agg_slice_none_0_0_slice_none_0_0_slice_none_0_0_slice_none_0_0_slice_none_0_0 : (Try.prog.info? 27).bind (·.zero) = some (.agg #[.slice none 0 0, .slice none 0 0, .slice none 0 0, .slice none 0 0, .slice none 0 0]) := by kernel_rfl
theorem ksliceB_22_45_4_true : sliceB Try.prog 22 45 4 = true := by kernel_rfl
theorem ksizeB_27_5_true : sizeB Try.prog 27 5 = true := by kernel_rfl
theorem kaggB_27_5_true : aggB Try.prog 27 5 = true := by kernel_rfl
theorem kcallB_10_true : callB Try.prog 10 = true := by kernel_rfl
theorem kelemB_41_48_4_80_true : elemB Try.prog 41 48 4 80 = true := by kernel_rfl
theorem kinfo_48_bind_zero_some_agg_slice_none_0_0_I_0_slice_none_0_0_slice_none_0_0 : (Try.prog.info? 48).bind (·.zero) = some (.agg #[.slice none 0 0, I 0, .slice none 0 0, .slice none 0 0]) := by kernel_rfl
theorem kaggB_45_4_true : aggB Try.prog 45 4 = true := by kernel_rfl
theorem kinfo_45_bind_zero_some_agg_I_0_I_0_I_0_I_0 : (Try.prog.info? 45).bind (·.zero) = some (.agg #[I 0, I 0, I 0, I 0]) := by kernel_rfl
theorem ksizeB_45_4_true : sizeB Try.prog 45 4 = true := by kernel_rfl
theorem kfieldB_27_0_0_true : fieldB Try.prog 27 0 0 = true := by kernel_rfl
theorem kscalB_23_true : scalB Try.prog 23 = true := by kernel_rfl
theorem kcallB_11_true : callB Try.prog 11 = true := by kernel_rfl
theorem kelemB_23_28_1_8_true : elemB Try.prog 23 28 1 8 = true := by kernel_rfl
theorem kinfo_28_bind_zero_some_I_0 : (Try.prog.info? 28).bind (·.zero) = some (I 0) := by kernel_rfl
theorem ksizeB_23_1_true : sizeB Try.prog 23 1 = true := by kernel_rfl
theorem kaggB_48_4_true : aggB Try.prog 48 4 = true := by kernel_rfl
theorem ksizeB_48_4_true : sizeB Try.prog 48 4 = true := by kernel_rfl
theorem kfieldB_27_1_1_true : fieldB Try.prog 27 1 1 = true := by kernel_rfl
theorem kfieldB_27_2_2_true : fieldB Try.prog 27 2 2 = true := by kernel_rfl
theorem kfieldB_27_3_3_true : fieldB Try.prog 27 3 3 = true := by kernel_rfl
theorem kscalB_25_true : scalB Try.prog 25 = true := by kernel_rfl
theorem kcallB_14_true : callB Try.prog 14 = true := by kernel_rfl
theorem kelemB_25_36_1_24_true : elemB Try.prog 25 36 1 24 = true := by kernel_rfl
theorem kfieldB_27_4_4_true : fieldB Try.prog 27 4 4 = true := by kernel_rfl
theorem ksizeB_25_1_true : sizeB Try.prog 25 1 = true := by kernel_rfl

set_option maxHeartbeats 1000000 in
set_option maxRecDepth 100000 in
theorem C11 {B : World} {L : List HP} {a0 : ((List (Int × Int × Int × BitVec 32)) × List (Int × Int)) × List ((List (Int × Int)) × Int × (List Int) × List Int)} {a1 : Int × Int × Int × Int} {b0_ : Nat} {h0_1 : Nat} {h0_2 : Value} {h0_3 : Value} {h0_4 : Value} {h0_5 : List (List Value)} {r0 : Int} {s0 : ((List (Int × Int × Int × BitVec 32)) × List (Int × Int)) × List ((List (Int × Int)) × Int × (List Int) × List Int)} (hm : F11 a0 a1 = some (r0, s0)) {w : World} (st : St B (Bx b0_ 43 [.pointer (some ⟨h0_1, 0, none⟩), h0_4] :: Bx h0_1 64 [h0_2, h0_3] :: OwnS 67 4 h0_2 (a0.1.1.map cTiiiiu32) :: OwnS 79 2 h0_3 (a0.1.2.map cTii) :: SN 48 4 nT48 h0_4 h0_5 (a0.2) :: L) w) : Calls Try.prog 11 #[.pointer (some ⟨b0_, 0, none⟩), .agg (cTiiii a1).toArray] w (fun e w' => ∃ v M, e = .returned v ∧ (∃ (qv1 : Value) (qhs2 : List (List Value)), v = I r0 ∧ M = (Bx b0_ 43 [.pointer (some ⟨h0_1, 0, none⟩), h0_4] :: Bx h0_1 64 [h0_2, qv1] :: OwnS 67 4 h0_2 (s0.1.1.map cTiiiiu32) :: OwnS 79 2 qv1 (s0.1.2.map cTii) :: SN 48 4 nT48 h0_4 qhs2 (s0.2) :: L)) ∧ St B M w') := by
  refine calls_of (N := 134) (L := (Bx b0_ 43 [.pointer (some ⟨h0_1, 0, none⟩), h0_4] :: Bx h0_1 64 [h0_2, h0_3] :: OwnS 67 4 h0_2 (a0.1.1.map cTiiiiu32) :: OwnS 79 2 h0_3 (a0.1.2.map cTii) :: SN 48 4 nT48 h0_4 h0_5 (a0.2) :: L)) (args := [.pointer (some ⟨b0_, 0, none⟩), .agg (cTiiii a1).toArray]) Try.func11 rfl rfl rfl ?_ st
  dsimp only [F11] at hm
  refine TC.k ?_
  refine TC.region ?_
  refine TO.box (cs := [.pointer (some ⟨b0_, 0, none⟩)]) rfl rfl rfl fun b7 => ?_
  refine TO.box (cs := [I a1.1, I a1.2.1, I a1.2.2.1, I a1.2.2.2]) rfl rfl rfl fun b8 => ?_
  refine TO.s rfl rfl rfl (StepS.assign rfl) ?_
  refine TO.code ?_
  refine TC.k ?_
  refine TC.region ?_
  refine TO.s rfl rfl rfl (StepS.mkfn rfl) ?_
  refine TO.s rfl rfl rfl (StepS.assign rfl) ?_
  refine TO.code ?_
  refine TC.k ?_
  refine TC.region ?_
  refine TO.s rfl rfl rfl (StepS.fld rfl kfieldB_45_0_0_true) ?_
  refine TO.s rfl rfl rfl (StepS.ldB rfl (Ent.at 0 rfl) kscalB_3_true rfl) ?_
  refine TO.s rfl rfl rfl (StepS.cmp rfl rfl rfl) ?_
  refine TO.s rfl rfl rfl (StepS.move rfl) ?_
  refine TO.mid1 4 16 (.bool ((a1.1 == 2) || (a1.1 == 3))) ?_ ?_
  · refine bcase ((a1.1 == 2)) (fun hb9 => ?_) (fun hb9 => ?_)
    · refine TO.skip rfl rfl rfl (skipT hb9) rfl rfl ?_
      refine TO.skip rfl rfl rfl (skipT hb9) rfl rfl ?_
      refine TO.skip rfl rfl rfl (skipT hb9) rfl rfl ?_
      refine TO.s rfl rfl rfl (StepS.pickT rfl hb9 rfl) ?_
      exact TO.up1 4 0 rfl rfl (by rw [hb9]; rfl) rfl
    · refine TO.sw rfl rfl rfl hb9 rfl rfl (StepS.fld rfl kfieldB_45_0_0_true) ?_
      refine TO.sw rfl rfl rfl hb9 rfl rfl (StepS.ldB rfl (Ent.at 0 rfl) kscalB_3_true rfl) ?_
      refine TO.sw rfl rfl rfl hb9 rfl rfl (StepS.cmp rfl rfl rfl) ?_
      refine TO.s rfl rfl rfl (StepS.pickF rfl hb9 rfl) ?_
      exact TO.up1 4 0 rfl rfl (by rw [hb9]; rfl) rfl
  refine TO.s rfl rfl rfl (StepS.assign rfl) ?_
  refine TO.code ?_
  refine TC.k ?_
  refine TC.block ?_
  refine TC.k ?_
  refine TC.region ?_
  refine TO.s rfl rfl rfl (StepS.fld rfl kfieldB_45_0_0_true) ?_
  refine TO.s rfl rfl rfl (StepS.ldB rfl (Ent.at 0 rfl) kscalB_3_true rfl) ?_
  refine TO.s rfl rfl rfl (StepS.cmp rfl rfl rfl) ?_
  refine TO.s rfl rfl rfl (StepS.move rfl) ?_
  refine TO.mid1 4 25 (.bool ((decide (a1.1 < 1)) || (decide (a1.1 > 6)))) ?_ ?_
  · refine bcase ((decide (a1.1 < 1))) (fun hb10 => ?_) (fun hb10 => ?_)
    · refine TO.skip rfl rfl rfl (skipT hb10) rfl rfl ?_
      refine TO.skip rfl rfl rfl (skipT hb10) rfl rfl ?_
      refine TO.skip rfl rfl rfl (skipT hb10) rfl rfl ?_
      refine TO.s rfl rfl rfl (StepS.pickT rfl hb10 rfl) ?_
      exact TO.up1 4 0 rfl rfl (by rw [hb10]; rfl) rfl
    · refine TO.sw rfl rfl rfl hb10 rfl rfl (StepS.fld rfl kfieldB_45_0_0_true) ?_
      refine TO.sw rfl rfl rfl hb10 rfl rfl (StepS.ldB rfl (Ent.at 0 rfl) kscalB_3_true rfl) ?_
      refine TO.sw rfl rfl rfl hb10 rfl rfl (StepS.cmp rfl rfl rfl) ?_
      refine TO.s rfl rfl rfl (StepS.pickF rfl hb10 rfl) ?_
      exact TO.up1 4 0 rfl rfl (by rw [hb10]; rfl) rfl
  refine TO.s rfl rfl rfl (StepS.assign rfl) ?_
  refine TO.code ?_
  refine TC.cond rfl (fun hc11 => ?_) (fun hc11 => ?_)
  · replace hm := cond_t hc11 hm
    refine TC.k ?_
    refine TC.region ?_
    refine TO.s rfl rfl rfl (StepS.assign rfl) ?_
    refine TO.code ?_
    cases hm
    refine TC.ret fun a w e s => ?_
    refine FRet.mk1 (P := Try.prog) (fn := Try.f11) (t := 4) e rfl rfl ?_
    refine ⟨_, _, rfl, ⟨(h0_3), (h0_5), rfl, rfl⟩, ?_⟩
    refine s.mono fun _ s => ?_
    exact Sat.by [6, 6, 6, 6, 6] 5 2 (by kernel_rfl) s
  · replace hm := cond_f hc11 hm
    refine TC.k ?_
    refine TC.region ?_
    refine TO.s rfl rfl rfl (StepS.move rfl) ?_
    refine TO.s rfl rfl rfl (StepS.fld rfl kfieldB_45_1_1_true) ?_
    refine TO.s rfl rfl rfl (StepS.ldB rfl (Ent.at 0 rfl) kscalB_3_true rfl) ?_
    obtain ⟨r12, hc13, hm⟩ := bind_some hm
    refine TO.q rfl rfl rfl (StepQ.callC kcallB_18_true rfl rfl rfl (fun _ st => C18 (Ent.at 1 rfl) (Ent.at 2 rfl) (SN.hd (Ent.at 6 rfl)) hc13 st)) ?_
    refine TO.s rfl rfl rfl (StepS.move rfl) ?_
    obtain ⟨b15, hj16, hm⟩ := bind_some hm
    refine TO.mid1 15 46 (.bool b15) ?_ ?_
    · refine bcase (r12) (fun hb14 => ?_) (fun hb14 => ?_)
      · replace hj16 := cond_t hb14 hj16
        cases hj16
        refine TO.skip rfl rfl rfl (skipT hb14) rfl rfl ?_
        refine TO.skip rfl rfl rfl (skipT hb14) rfl rfl ?_
        refine TO.skip rfl rfl rfl skipU rfl rfl ?_
        refine TO.skip rfl rfl rfl skipU rfl rfl ?_
        refine TO.skip rfl rfl rfl skipU rfl rfl ?_
        refine TO.skip rfl rfl rfl skipU rfl rfl ?_
        refine TO.skip rfl rfl rfl skipU rfl rfl ?_
        refine TO.skip rfl rfl rfl skipU rfl rfl ?_
        refine TO.skip rfl rfl rfl skipU rfl rfl ?_
        refine TO.skip rfl rfl rfl skipU rfl rfl ?_
        refine TO.skip rfl rfl rfl skipU rfl rfl ?_
        refine TO.skip rfl rfl rfl skipU rfl rfl ?_
        refine TO.skip rfl rfl rfl skipU rfl rfl ?_
        refine TO.skip rfl rfl rfl (skipT hb14) rfl rfl ?_
        refine TO.s rfl rfl rfl (StepS.pickT rfl hb14 rfl) ?_
        exact TO.up1 15 0 rfl rfl rfl rfl
      · replace hj16 := cond_f hb14 hj16
        refine TO.sw rfl rfl rfl hb14 rfl rfl (StepS.move rfl) ?_
        refine TO.sw rfl rfl rfl hb14 rfl rfl (StepS.move rfl) ?_
        obtain ⟨b18, hj19, hj16⟩ := bind_some hj16
        refine TO.mid1 12 45 (.bool b18) ?_ ?_
        · refine bcase (((a1.1 == 2) || (a1.1 == 3))) (fun hb17 => ?_) (fun hb17 => ?_)
          · replace hj19 := cond_t hb17 hj19
            refine TO.sw rfl rfl rfl hb17 rfl rfl (StepS.move rfl) ?_
            refine TO.sw rfl rfl rfl hb17 rfl rfl (StepS.fld rfl kfieldB_45_2_2_true) ?_
            refine TO.sw rfl rfl rfl hb17 rfl rfl (StepS.ldB rfl (Ent.at 0 rfl) kscalB_3_true rfl) ?_
            obtain ⟨r20, hc21, hj19⟩ := bind_some hj19
            refine TO.qw rfl rfl rfl hb17 rfl rfl (StepQ.callC kcallB_18_true rfl rfl rfl (fun _ st => C18 (Ent.at 1 rfl) (Ent.at 2 rfl) (SN.hd (Ent.at 6 rfl)) hc21 st)) ?_
            refine TO.sw rfl rfl rfl hb17 rfl rfl (StepS.move rfl) ?_
            refine TO.mid1 6 44 (.bool (r20 || (a1.2.1 == a1.2.2.1))) ?_ ?_
            · refine bcase (r20) (fun hb22 => ?_) (fun hb22 => ?_)
              · refine TO.skip rfl rfl rfl (skipT hb22) rfl rfl ?_
                refine TO.skip rfl rfl rfl (skipT hb22) rfl rfl ?_
                refine TO.skip rfl rfl rfl (skipT hb22) rfl rfl ?_
                refine TO.skip rfl rfl rfl (skipT hb22) rfl rfl ?_
                refine TO.skip rfl rfl rfl (skipT hb22) rfl rfl ?_
                refine TO.sw rfl rfl rfl hb17 rfl rfl (StepS.pickT rfl hb22 rfl) ?_
                exact TO.up1 6 0 rfl rfl (by rw [hb22]; rfl) rfl
              · refine TO.sw rfl rfl rfl hb22 rfl rfl (StepS.fld rfl kfieldB_45_1_1_true) ?_
                refine TO.sw rfl rfl rfl hb22 rfl rfl (StepS.ldB rfl (Ent.at 0 rfl) kscalB_3_true rfl) ?_
                refine TO.sw rfl rfl rfl hb22 rfl rfl (StepS.fld rfl kfieldB_45_2_2_true) ?_
                refine TO.sw rfl rfl rfl hb22 rfl rfl (StepS.ldB rfl (Ent.at 0 rfl) kscalB_3_true rfl) ?_
                refine TO.sw rfl rfl rfl hb22 rfl rfl (StepS.cmp rfl rfl rfl) ?_
                refine TO.sw rfl rfl rfl hb17 rfl rfl (StepS.pickF rfl hb22 rfl) ?_
                exact TO.up1 6 0 rfl rfl (by rw [hb22]; rfl) rfl
            cases hj19
            refine TO.sw rfl rfl rfl hb14 rfl rfl (StepS.pickT rfl hb17 rfl) ?_
            exact TO.up1 7 0 rfl rfl rfl rfl
          · replace hj19 := cond_f hb17 hj19
            cases hj19
            refine TO.skip rfl rfl rfl (skipF hb17) rfl rfl ?_
            refine TO.skip rfl rfl rfl (skipF hb17) rfl rfl ?_
            refine TO.skip rfl rfl rfl (skipF hb17) rfl rfl ?_
            refine TO.skip rfl rfl rfl (skipF hb17) rfl rfl ?_
            refine TO.skip rfl rfl rfl (skipF hb17) rfl rfl ?_
            refine TO.skip rfl rfl rfl skipU rfl rfl ?_
            refine TO.skip rfl rfl rfl skipU rfl rfl ?_
            refine TO.skip rfl rfl rfl skipU rfl rfl ?_
            refine TO.skip rfl rfl rfl skipU rfl rfl ?_
            refine TO.skip rfl rfl rfl skipU rfl rfl ?_
            refine TO.skip rfl rfl rfl (skipF hb17) rfl rfl ?_
            refine TO.sw rfl rfl rfl hb14 rfl rfl (StepS.pickF rfl hb17 rfl) ?_
            exact TO.up1 12 0 rfl rfl rfl rfl
        cases hj16
        refine TO.s rfl rfl rfl (StepS.pickF rfl hb14 rfl) ?_
        exact TO.up1 4 0 rfl rfl rfl rfl
    refine TO.s rfl rfl rfl (StepS.assign rfl) ?_
    refine TO.code ?_
    refine TC.cond rfl (fun hc23 => ?_) (fun hc23 => ?_)
    · replace hm := cond_t hc23 hm
      refine TC.k ?_
      refine TC.region ?_
      refine TO.s rfl rfl rfl (StepS.assign rfl) ?_
      refine TO.code ?_
      cases hm
      refine TC.ret fun a w e s => ?_
      refine FRet.mk1 (P := Try.prog) (fn := Try.f11) (t := 4) e rfl rfl ?_
      refine ⟨_, _, rfl, ⟨(h0_3), (h0_5), rfl, rfl⟩, ?_⟩
      refine s.mono fun _ s => ?_
      exact Sat.by [6, 6, 6, 6, 6] 5 2 (by kernel_rfl) s
    · replace hm := cond_f hc23 hm
      refine TC.skipk ?_
      refine TC.k ?_
      refine TC.k ?_
      refine TC.region ?_
      refine TO.s rfl rfl rfl (StepS.fld rfl kfieldB_45_0_0_true) ?_
      refine TO.s rfl rfl rfl (StepS.ldB rfl (Ent.at 0 rfl) kscalB_3_true rfl) ?_
      refine TO.code ?_
      refine TC.block ?_
      refine TC.k ?_
      refine TC.region ?_
      refine TO.s rfl rfl rfl (StepS.cmp rfl rfl rfl) ?_
      refine TO.s rfl rfl rfl (StepS.assign rfl) ?_
      refine TO.code ?_
      refine TC.cond rfl (fun hc24 => ?_) (fun hc24 => ?_)
      · replace hm := cond_t hc24 hm
        refine TC.k ?_
        refine TC.region ?_
        refine TO.s rfl rfl rfl (StepS.ldB rfl (Ent.at 1 rfl) kscalB_38_true rfl) ?_
        refine TO.s rfl rfl rfl (StepS.fld rfl kfieldB_45_1_1_true) ?_
        refine TO.s rfl rfl rfl (StepS.ldB rfl (Ent.at 0 rfl) kscalB_3_true rfl) ?_
        refine TO.ghost (fun _ s => Sat.front 6 rfl s) ?_
        refine TO.ghost (fun _ s => Sat.front 6 rfl s) ?_
        refine TO.ghost (fun _ s => Sat.front 6 rfl s) ?_
        refine TO.ghost (fun _ s => Sat.front 6 rfl s) ?_
        refine TO.ghost (fun _ s => Sat.front 6 rfl s) ?_
        obtain ⟨⟨r25, r26⟩, hc27, hm⟩ := bind_some hm
        refine TO.callO kcallB_19_true rfl rfl rfl (fun _ st => C19 (a0 := ((a0.1.1, a0.1.2), a0.2))  hc27 st) ?_
        rintro _ _ ⟨v29, hs31, rfl, rfl⟩
        refine TO.s rfl rfl rfl (StepS.assign rfl) ?_
        refine TO.code ?_
        cases hm
        refine TC.ret fun a w e s => ?_
        refine FRet.mk1 (P := Try.prog) (fn := Try.f11) (t := 4) e rfl rfl ?_
        refine ⟨_, _, rfl, ⟨(v29), (hs31), rfl, rfl⟩, ?_⟩
        refine s.mono fun _ s => ?_
        exact Sat.by [4, 4, 4, 4, 4] 5 2 (by kernel_rfl) s
      · replace hm := cond_f hc24 hm
        refine TC.k ?_
        refine TC.region ?_
        refine TO.s rfl rfl rfl (StepS.cmp rfl rfl rfl) ?_
        refine TO.s rfl rfl rfl (StepS.assign rfl) ?_
        refine TO.code ?_
        refine TC.cond rfl (fun hc33 => ?_) (fun hc33 => ?_)
        · replace hm := cond_t hc33 hm
          refine TC.k ?_
          refine TC.region ?_
          refine TO.s rfl rfl rfl (StepS.ldB rfl (Ent.at 1 rfl) kscalB_38_true rfl) ?_
          refine TO.s rfl rfl rfl (StepS.fld rfl kfieldB_45_1_1_true) ?_
          refine TO.s rfl rfl rfl (StepS.ldB rfl (Ent.at 0 rfl) kscalB_3_true rfl) ?_
          refine TO.s rfl rfl rfl (StepS.fld rfl kfieldB_45_2_2_true) ?_
          refine TO.s rfl rfl rfl (StepS.ldB rfl (Ent.at 0 rfl) kscalB_3_true rfl) ?_
          refine TO.ghost (fun _ s => Sat.front 6 rfl s) ?_
          refine TO.ghost (fun _ s => Sat.front 6 rfl s) ?_
          refine TO.ghost (fun _ s => Sat.front 6 rfl s) ?_
          refine TO.ghost (fun _ s => Sat.front 6 rfl s) ?_
          refine TO.ghost (fun _ s => Sat.front 6 rfl s) ?_
          obtain ⟨⟨r34, r35⟩, hc36, hm⟩ := bind_some hm
          refine TO.callO kcallB_20_true rfl rfl rfl (fun _ st => C20 (a0 := ((a0.1.1, a0.1.2), a0.2))  hc36 st) ?_
          rintro _ _ ⟨v38, hs40, rfl, rfl⟩
          refine TO.s rfl rfl rfl (StepS.assign rfl) ?_
          refine TO.code ?_
          cases hm
          refine TC.ret fun a w e s => ?_
          refine FRet.mk1 (P := Try.prog) (fn := Try.f11) (t := 4) e rfl rfl ?_
          refine ⟨_, _, rfl, ⟨(v38), (hs40), rfl, rfl⟩, ?_⟩
          refine s.mono fun _ s => ?_
          exact Sat.by [4, 4, 4, 4, 4] 5 2 (by kernel_rfl) s
        · replace hm := cond_f hc33 hm
          refine TC.k ?_
          refine TC.region ?_
          refine TO.s rfl rfl rfl (StepS.cmp rfl rfl rfl) ?_
          refine TO.s rfl rfl rfl (StepS.assign rfl) ?_
          refine TO.code ?_
          refine TC.cond rfl (fun hc42 => ?_) (fun hc42 => ?_)
          · replace hm := cond_t hc42 hm
            refine TC.k ?_
            refine TC.region ?_
            refine TO.s rfl rfl rfl (StepS.ldB rfl (Ent.at 1 rfl) kscalB_38_true rfl) ?_
            refine TO.s rfl rfl rfl (StepS.fld rfl kfieldB_45_1_1_true) ?_
            refine TO.s rfl rfl rfl (StepS.ldB rfl (Ent.at 0 rfl) kscalB_3_true rfl) ?_
            refine TO.s rfl rfl rfl (StepS.fld rfl kfieldB_45_2_2_true) ?_
            refine TO.s rfl rfl rfl (StepS.ldB rfl (Ent.at 0 rfl) kscalB_3_true rfl) ?_
            refine TO.ghost (fun _ s => Sat.front 6 rfl s) ?_
            refine TO.ghost (fun _ s => Sat.front 6 rfl s) ?_
            refine TO.ghost (fun _ s => Sat.front 6 rfl s) ?_
            refine TO.ghost (fun _ s => Sat.front 6 rfl s) ?_
            refine TO.ghost (fun _ s => Sat.front 6 rfl s) ?_
            obtain ⟨⟨r43, r44⟩, hc45, hm⟩ := bind_some hm
            refine TO.callO kcallB_21_true rfl rfl rfl (fun _ st => C21 (a0 := ((a0.1.1, a0.1.2), a0.2))  hc45 st) ?_
            rintro _ _ ⟨hs48, rfl, rfl⟩
            refine TO.s rfl rfl rfl (StepS.assign rfl) ?_
            refine TO.code ?_
            cases hm
            refine TC.ret fun a w e s => ?_
            refine FRet.mk1 (P := Try.prog) (fn := Try.f11) (t := 4) e rfl rfl ?_
            refine ⟨_, _, rfl, ⟨(h0_3), (hs48), rfl, rfl⟩, ?_⟩
            refine s.mono fun _ s => ?_
            exact Sat.by [4, 4, 4, 4, 4] 5 2 (by kernel_rfl) s
          · replace hm := cond_f hc42 hm
            refine TC.k ?_
            refine TC.region ?_
            refine TO.s rfl rfl rfl (StepS.cmp rfl rfl rfl) ?_
            refine TO.s rfl rfl rfl (StepS.assign rfl) ?_
            refine TO.code ?_
            refine TC.cond rfl (fun hc50 => ?_) (fun hc50 => ?_)
            · replace hm := cond_t hc50 hm
              refine TC.k ?_
              refine TC.region ?_
              refine TO.s rfl rfl rfl (StepS.ldB rfl (Ent.at 1 rfl) kscalB_38_true rfl) ?_
              refine TO.s rfl rfl rfl (StepS.fld rfl kfieldB_45_1_1_true) ?_
              refine TO.s rfl rfl rfl (StepS.ldB rfl (Ent.at 0 rfl) kscalB_3_true rfl) ?_
              refine TO.ghost (fun _ s => Sat.front 6 rfl s) ?_
              refine TO.ghost (fun _ s => Sat.front 6 rfl s) ?_
              refine TO.ghost (fun _ s => Sat.front 6 rfl s) ?_
              refine TO.ghost (fun _ s => Sat.front 6 rfl s) ?_
              refine TO.ghost (fun _ s => Sat.front 6 rfl s) ?_
              obtain ⟨⟨r51, r52⟩, hc53, hm⟩ := bind_some hm
              refine TO.callO kcallB_22_true rfl rfl rfl (fun _ st => C22 (a0 := ((a0.1.1, a0.1.2), a0.2))  hc53 st) ?_
              rintro _ _ ⟨hs56, rfl, rfl⟩
              refine TO.s rfl rfl rfl (StepS.assign rfl) ?_
              refine TO.code ?_
              cases hm
              refine TC.ret fun a w e s => ?_
              refine FRet.mk1 (P := Try.prog) (fn := Try.f11) (t := 4) e rfl rfl ?_
              refine ⟨_, _, rfl, ⟨(h0_3), (hs56), rfl, rfl⟩, ?_⟩
              refine s.mono fun _ s => ?_
              exact Sat.by [4, 4, 4, 4, 4] 5 2 (by kernel_rfl) s
            · replace hm := cond_f hc50 hm
              refine TC.k ?_
              refine TC.region ?_
              refine TO.s rfl rfl rfl (StepS.cmp rfl rfl rfl) ?_
              refine TO.s rfl rfl rfl (StepS.assign rfl) ?_
              refine TO.code ?_
              refine TC.cond rfl (fun hc58 => ?_) (fun hc58 => ?_)
              · replace hm := cond_t hc58 hm
                refine TC.k ?_
                refine TC.region_tail 6 kfollows_mixedOrders_true (by kernel_rfl) ?_
                refine TS.s rfl rfl rfl (StepS.ldB rfl (Ent.at 1 rfl) kscalB_38_true rfl) ?_
                refine TS.s rfl rfl rfl (StepS.nilc rfl) ?_
                refine TS.s rfl rfl rfl (StepS.fld rfl kfieldB_43_0_0_true) ?_
                refine TS.s rfl rfl rfl (StepS.ldB rfl (Ent.at 2 rfl) kscalB_39_true rfl) ?_
                refine TS.s rfl rfl rfl (StepS.fld rfl kfieldB_45_1_1_true) ?_
                refine TS.s rfl rfl rfl (StepS.ldB rfl (Ent.at 0 rfl) kscalB_3_true rfl) ?_
                refine TS.nil ?_
                refine TO.at ?_
                refine TO.ghost (fun _ s => Sat.front 4 rfl s) ?_
                refine TO.ghost (fun _ s => Sat.front 4 rfl s) ?_
                obtain ⟨r59, hc60, hm⟩ := bind_some hm
                refine TO.callO kcallB_23_true rfl rfl rfl (fun _ st => C23 (a0 := a0.1.1)  hc60 st) ?_
                rintro _ _ ⟨rfl, rfl⟩
                refine TO.code ?_
                refine TC.k ?_
                refine TC.region_tail 8 kfollows_mixedOrders_true (by kernel_rfl) ?_
                refine TS.s rfl rfl rfl (StepS.ldB rfl (Ent.at 3 rfl) kscalB_38_true rfl) ?_
                refine TS.s rfl rfl rfl (StepS.nilc rfl) ?_
                refine TS.s rfl rfl rfl (StepS.fld rfl kfieldB_43_1_1_true) ?_
                refine TS.s rfl rfl rfl (StepS.ldB rfl (Ent.at 4 rfl) kscalB_41_true rfl) ?_
                refine TS.s rfl rfl rfl (StepS.fld rfl kfieldB_45_1_1_true) ?_
                refine TS.s rfl rfl rfl (StepS.ldB rfl (Ent.at 2 rfl) kscalB_3_true rfl) ?_
                obtain ⟨x62, hx63, hm⟩ := bind_some hm
                refine TS.s rfl rfl rfl (StepS.idxN rfl rfl (Ent.at 6 rfl) ksliceB_41_48_4_true hx63) ?_
                refine TS.s rfl rfl rfl (StepS.ptrf rfl kfieldB_48_1_1_true) ?_
                refine TS.nil ?_
                refine TO.at ?_
                refine TO.ghost (fun _ s => Sat.front 6 rfl s) ?_
                refine TO.openN (L' := (OwnS 52 2 (cv (gr h0_5 a1.2.1.toNat) 0) (x62.1.map cTii) :: OwnS 3 1 (cv (gr h0_5 a1.2.1.toNat) 1) (x62.2.2.1.map cI) :: OwnS 3 1 (cv (gr h0_5 a1.2.1.toNat) 2) (x62.2.2.2.map cI) :: SNh 48 4 nT48 h0_4 h0_5 (a0.2) a1.2.1.toNat [(cv (gr h0_5 a1.2.1.toNat) 0), I x62.2.1, (cv (gr h0_5 a1.2.1.toNat) 1), (cv (gr h0_5 a1.2.1.toNat) 2)] :: Bx h0_1 64 [h0_2, h0_3] :: OwnS 67 4 h0_2 (r59.map cTiiiiu32) :: Bx b8 45 [I a1.1, I a1.2.1, I a1.2.2.1, I a1.2.2.2] :: Bx b7 38 [.pointer (some ⟨b0_, 0, none⟩)] :: Bx b0_ 43 [.pointer (some ⟨h0_1, 0, none⟩), h0_4] :: OwnS 79 2 h0_3 (a0.1.2.map cTii) :: L)) rfl hx63 rfl ?_
                refine TO.ghost (fun _ s => Sat.front 3 rfl s) ?_
                refine TO.stNh (i := a1.2.1) (off := 1) (us := [I 0]) (cs' := [(cv (gr h0_5 a1.2.1.toNat) 0), I 0, (cv (gr h0_5 a1.2.1.toNat) 1), (cv (gr h0_5 a1.2.1.toNat) 2)]) rfl rfl ksizeB_3_1_true rfl rfl rfl hx63 rfl (by simp [Value.oneCell']) rfl ?_
                refine TO.ghost (fun _ s => Sat.front 3 rfl s) ?_
                refine TO.ghost (fun _ s => Sat.front 3 rfl s) ?_
                refine TO.ghost (fun _ s => Sat.front 3 rfl s) ?_
                obtain ⟨y68, hy69, hm⟩ := bind_some hm
                refine TO.closeN (T := nT48) (cs := [(cv (gr h0_5 a1.2.1.toNat) 0), I 0, (cv (gr h0_5 a1.2.1.toNat) 1), (cv (gr h0_5 a1.2.1.toNat) 2)]) [(cv (gr h0_5 a1.2.1.toNat) 0), (cv (gr h0_5 a1.2.1.toNat) 1), (cv (gr h0_5 a1.2.1.toNat) 2)] (x62.1, 0, x62.2.2.1, x62.2.2.2) rfl rfl hx63 (Option.some.inj hy69) fun hs67 => ?_
                refine TO.code ?_
                refine TC.k ?_
                refine TC.region ?_
                refine TO.s rfl rfl rfl (StepS.assign rfl) ?_
                refine TO.code ?_
                cases hm
                refine TC.ret fun a w e s => ?_
                refine FRet.mk1 (P := Try.prog) (fn := Try.f11) (t := 4) e rfl rfl ?_
                refine ⟨_, _, rfl, ⟨(h0_3), (hs67), rfl, rfl⟩, ?_⟩
                refine s.mono fun _ s => ?_
                exact Sat.by [0, 6, 3, 3, 6] 5 2 (by kernel_rfl) s
              · replace hm := cond_f hc58 hm
                refine TC.skipk ?_
                refine TC.k ?_
                refine TC.region_still kfollows_mixedOrders_true (by kernel_rfl) ?_
                refine TS.s rfl rfl rfl (StepS.ldB rfl (Ent.at 1 rfl) kscalB_38_true rfl) ?_
                refine TS.s rfl rfl rfl (StepS.nilc rfl) ?_
                refine TS.s rfl rfl rfl (StepS.fld rfl kfieldB_43_1_1_true) ?_
                refine TS.s rfl rfl rfl (StepS.ldB rfl (Ent.at 2 rfl) kscalB_41_true rfl) ?_
                refine TS.s rfl rfl rfl (StepS.fld rfl kfieldB_45_1_1_true) ?_
                refine TS.s rfl rfl rfl (StepS.ldB rfl (Ent.at 0 rfl) kscalB_3_true rfl) ?_
                obtain ⟨x70, hx71, hm⟩ := bind_some hm
                refine TS.s rfl rfl rfl (StepS.idxN rfl rfl (Ent.at 6 rfl) ksliceB_41_48_4_true hx71) ?_
                refine TS.s rfl rfl rfl (StepS.assign rfl) ?_
                refine TS.code ?_
                refine TC.k ?_
                refine TC.k ?_
                refine TC.region_quiet kfollows_mixedOrders_true (by kernel_rfl) ?_
                refine TQ.s rfl rfl rfl (StepS.ldB rfl (Ent.at 1 rfl) kscalB_38_true rfl).q ?_
                refine TQ.s rfl rfl rfl (StepS.nilc rfl).q ?_
                refine TQ.s rfl rfl rfl (StepS.fld rfl kfieldB_43_0_0_true).q ?_
                refine TQ.s rfl rfl rfl (StepS.ldB rfl (Ent.at 2 rfl) kscalB_39_true rfl).q ?_
                refine TQ.s rfl rfl rfl (StepS.fld rfl kfieldB_45_1_1_true).q ?_
                refine TQ.s rfl rfl rfl (StepS.ldB rfl (Ent.at 0 rfl) kscalB_3_true rfl).q ?_
                obtain ⟨r72, hc73, hm⟩ := bind_some hm
                refine TQ.s rfl rfl rfl (StepQ.call kcallB_13_true rfl rfl (fun _ st => C13 (Ent.at 3 rfl) (OwnS.rd (Ent.at 4 rfl)) (OwnS.rd (Ent.at 5 rfl)) hc73 st)) ?_
                refine TQ.s rfl rfl rfl (StepS.cmp rfl rfl rfl).q ?_
                refine TQ.code ?_
                refine TC.cond rfl (fun hc74 => ?_) (fun hc74 => ?_)
                · replace hm := cond_t hc74 hm
                  refine TC.k ?_
                  refine TC.region ?_
                  refine TO.s rfl rfl rfl (StepS.assign rfl) ?_
                  refine TO.code ?_
                  cases hm
                  refine TC.ret fun a w e s => ?_
                  refine FRet.mk1 (P := Try.prog) (fn := Try.f11) (t := 4) e rfl rfl ?_
                  refine ⟨_, _, rfl, ⟨(h0_3), (h0_5), rfl, rfl⟩, ?_⟩
                  refine s.mono fun _ s => ?_
                  exact Sat.by [6, 6, 6, 6, 6] 5 2 (by kernel_rfl) s
                · replace hm := cond_f hc74 hm
                  refine TC.skipk ?_
                  refine TC.k ?_
                  refine TC.k ?_
                  refine TC.region ?_
                  refine TO.s rfl rfl rfl (StepS.move rfl) ?_
                  refine TO.s rfl rfl rfl (StepS.nilc rfl) ?_
                  refine TO.s rfl rfl rfl (StepS.ptrf rfl kfieldB_48_0_0_true) ?_
                  refine TO.s rfl rfl rfl (StepS.ldN (j := 0) rfl (Ent.at 6 rfl) kscalB_36_true hx71 rfl rfl) ?_
                  refine TO.s rfl rfl rfl (StepS.lenm rfl (OwnS.rd (SN.piece (Ent.at 6 rfl) hx71 0 rfl)) ksliceB_36_52_2_true rfl) ?_
                  refine TO.s rfl rfl rfl (StepS.cmp rfl rfl rfl) ?_
                  refine TO.code ?_
                  refine TC.cond rfl (fun hc75 => ?_) (fun hc75 => ?_)
                  · replace hm := cond_t hc75 hm
                    refine TC.k ?_
                    refine TC.region ?_
                    refine TO.s rfl rfl rfl (StepS.assign rfl) ?_
                    refine TO.code ?_
                    cases hm
                    refine TC.ret fun a w e s => ?_
                    refine FRet.mk1 (P := Try.prog) (fn := Try.f11) (t := 4) e rfl rfl ?_
                    refine ⟨_, _, rfl, ⟨(h0_3), (h0_5), rfl, rfl⟩, ?_⟩
                    refine s.mono fun _ s => ?_
                    exact Sat.by [6, 6, 6, 6, 6] 5 2 (by kernel_rfl) s
                  · replace hm := cond_f hc75 hm
                    refine TC.skipk ?_
                    refine TC.k ?_
                    obtain ⟨y77, hj79, hm⟩ := bind_some hm
                    first | refine TC.cutM (fun a w => ∃ hs78 : List (List Value), Mid 134 B [] (Bx b8 45 [I a1.1, I a1.2.1, I a1.2.2.1, I a1.2.2.2] :: Bx b7 38 [.pointer (some ⟨b0_, 0, none⟩)] :: Bx b0_ 43 [.pointer (some ⟨h0_1, 0, none⟩), h0_4] :: Bx h0_1 64 [h0_2, h0_3] :: OwnS 67 4 h0_2 (a0.1.1.map cTiiiiu32) :: OwnS 79 2 h0_3 (a0.1.2.map cTii) :: SN 48 4 nT48 h0_4 hs78 (y77) :: L) a w) ?_ ?_ | refine TC.cutX (fun a w => ∃ hs78 : List (List Value), Mid 134 B [] (Bx b8 45 [I a1.1, I a1.2.1, I a1.2.2.1, I a1.2.2.2] :: Bx b7 38 [.pointer (some ⟨b0_, 0, none⟩)] :: Bx b0_ 43 [.pointer (some ⟨h0_1, 0, none⟩), h0_4] :: Bx h0_1 64 [h0_2, h0_3] :: OwnS 67 4 h0_2 (a0.1.1.map cTiiiiu32) :: OwnS 79 2 h0_3 (a0.1.2.map cTii) :: SN 48 4 nT48 h0_4 hs78 (y77) :: L) a w) ?_ ?_
                    · obtain ⟨rq76_11_1, hcq76_11_2, hj79⟩ := bind_some hj79
                      obtain ⟨yq76_16_4, hkq76_16_5, hj79⟩ := bind_some hj79
                      obtain ⟨yq76_19_3, hyq76_19_4, hj79⟩ := bind_some hj79
                      refine TC.region_any (Bx b8 45 [I a1.1, I a1.2.1, I a1.2.2.1, I a1.2.2.2] :: Bx b7 38 [.pointer (some ⟨b0_, 0, none⟩)] :: Bx b0_ 43 [.pointer (some ⟨h0_1, 0, none⟩), h0_4] :: Bx h0_1 64 [h0_2, h0_3] :: OwnS 67 4 h0_2 (a0.1.1.map cTiiiiu32) :: OwnS 79 2 h0_3 (a0.1.2.map cTii) :: L) 19 20 kfollows_mixedOrders_true rfl ?_
                      refine TA.takeW 0 rfl rfl rfl rfl (StepS.move rfl) (by kernel_rfl) (by kernel_rfl) (by kernel_rfl) rfl (.inr (fun _ s => Sat.by [5, 5, 5, 5, 5, 5] 6 1 (by kernel_rfl) s)) ?_
                      refine TA.takeW 1 rfl rfl rfl rfl (StepS.move rfl) (by kernel_rfl) (by kernel_rfl) (by kernel_rfl) rfl (.inr (fun _ s => Sat.by [5, 5, 5, 5, 5, 5] 6 1 (by kernel_rfl) s)) ?_
                      refine TA.takeW 2 rfl rfl rfl rfl (StepS.nilc rfl) (by kernel_rfl) (by kernel_rfl) (by kernel_rfl) rfl (.inr (fun _ s => Sat.by [5, 5, 5, 5, 5, 5] 6 1 (by kernel_rfl) s)) ?_
                      refine TA.takeW 3 rfl rfl rfl rfl (StepS.ptrf rfl kfieldB_48_0_0_true) (by kernel_rfl) (by kernel_rfl) (by kernel_rfl) rfl (.inr (fun _ s => Sat.by [5, 5, 5, 5, 5, 5] 6 1 (by kernel_rfl) s)) ?_
                      refine TA.take 5 rfl rfl rfl rfl (StepS.ldB rfl (Ent.at 1 rfl) kscalB_38_true rfl) (by kernel_rfl) (by kernel_rfl) (by kernel_rfl) (by kernel_rfl) (by kernel_rfl) (fun _ s => Sat.by [5, 5, 5, 5, 5, 5] 6 1 (by kernel_rfl) s) ?_
                      refine TA.takeW 6 rfl rfl rfl rfl (StepS.nilc rfl) (by kernel_rfl) (by kernel_rfl) (by kernel_rfl) rfl (.inr (fun _ s => Sat.by [5, 5, 5, 5, 5, 5] 6 1 (by kernel_rfl) s)) ?_
                      refine TA.takeW 7 rfl rfl rfl rfl (StepS.fld rfl kfieldB_43_0_0_true) (by kernel_rfl) (by kernel_rfl) (by kernel_rfl) rfl (.inr (fun _ s => Sat.by [5, 5, 5, 5, 5, 5] 6 1 (by kernel_rfl) s)) ?_
                      refine TA.take 8 rfl rfl rfl rfl (StepS.ldB rfl (Ent.at 2 rfl) kscalB_39_true rfl) (by kernel_rfl) (by kernel_rfl) (by kernel_rfl) (by kernel_rfl) (by kernel_rfl) (fun _ s => Sat.by [5, 5, 5, 5, 5, 5] 6 1 (by kernel_rfl) s) ?_
                      refine TA.takeW 9 rfl rfl rfl rfl (StepS.fld rfl kfieldB_45_1_1_true) (by kernel_rfl) (by kernel_rfl) (by kernel_rfl) rfl (.inr (fun _ s => Sat.by [5, 5, 5, 5, 5, 5] 6 1 (by kernel_rfl) s)) ?_
                      refine TA.take 10 rfl rfl rfl rfl (StepS.ldB rfl (Ent.at 0 rfl) kscalB_3_true rfl) (by kernel_rfl) (by kernel_rfl) (by kernel_rfl) (by kernel_rfl) (by kernel_rfl) (fun _ s => Sat.by [5, 5, 5, 5, 5, 5] 6 1 (by kernel_rfl) s) ?_
                      refine TA.takeW 12 rfl rfl rfl rfl (StepS.fld rfl kfieldB_45_3_3_true) (by kernel_rfl) (by kernel_rfl) (by kernel_rfl) rfl (.inr (fun _ s => Sat.by [5, 5, 5, 5, 5, 5] 6 1 (by kernel_rfl) s)) ?_
                      refine TA.take 13 rfl rfl rfl rfl (StepS.ldB rfl (Ent.at 0 rfl) kscalB_3_true rfl) (by kernel_rfl) (by kernel_rfl) (by kernel_rfl) (by kernel_rfl) (by kernel_rfl) (fun _ s => Sat.by [5, 5, 5, 5, 5, 5] 6 1 (by kernel_rfl) s) ?_
                      refine TA.all2 (i := 4) (j := 11) (by kernel_rfl) ?_ ?_
                      · refine TB.of rfl ?_
                        refine TO.s rfl rfl rfl (StepS.ldN (j := 0) rfl (Ent.at 6 rfl) kscalB_36_true hx71 rfl rfl) ?_
                        refine TA.back (.inr (fun _ s => Sat.by [5, 5, 5, 5, 5, 5] 6 1 (by kernel_rfl) s)) ?_
                        refine TA.asL (L' := (Bx b8 45 [I a1.1, I a1.2.1, I a1.2.2.1, I a1.2.2.2] :: Bx b7 38 [.pointer (some ⟨b0_, 0, none⟩)] :: Bx b0_ 43 [.pointer (some ⟨h0_1, 0, none⟩), h0_4] :: Bx h0_1 64 [h0_2, h0_3] :: OwnS 67 4 h0_2 (a0.1.1.map cTiiiiu32) :: OwnS 79 2 h0_3 (a0.1.2.map cTii) :: SN 48 4 nT48 h0_4 h0_5 (a0.2) :: L)) (listed' := #[true, true, true, true, true, true, true, true, true, true, true, false, true, true, false, false, false, false, false, false]) (by kernel_rfl) (by kernel_rfl) ?_
                        refine TA.all1 (i := 11) (by kernel_rfl) ?_
                        refine TB.of rfl ?_
                        refine TO.q rfl rfl rfl (StepQ.call kcallB_12_true rfl rfl (fun _ st => C12 (Ent.at 3 rfl) (OwnS.rd (Ent.at 4 rfl)) (OwnS.rd (Ent.at 5 rfl)) hcq76_11_2 st)) ?_
                        refine TA.back (.inr (fun _ s => Sat.by [5, 5, 5, 5, 5, 5] 6 1 (by kernel_rfl) s)) ?_
                        refine TA.asL (L' := (Bx b8 45 [I a1.1, I a1.2.1, I a1.2.2.1, I a1.2.2.2] :: Bx b7 38 [.pointer (some ⟨b0_, 0, none⟩)] :: Bx b0_ 43 [.pointer (some ⟨h0_1, 0, none⟩), h0_4] :: Bx h0_1 64 [h0_2, h0_3] :: OwnS 67 4 h0_2 (a0.1.1.map cTiiiiu32) :: OwnS 79 2 h0_3 (a0.1.2.map cTii) :: SN 48 4 nT48 h0_4 h0_5 (a0.2) :: L)) (listed' := #[true, true, true, true, true, true, true, true, true, true, true, true, true, true, false, false, false, false, false, false]) (by kernel_rfl) (by kernel_rfl) ?_
                        refine TA.takeW 14 rfl rfl rfl rfl (StepS.build (cs := [I rq76_11_1, I a1.2.2.2]) rfl (by kernel_rfl)) (by kernel_rfl) (by kernel_rfl) (by kernel_rfl) rfl (.inr (fun _ s => Sat.by [5, 5, 5, 5, 5, 5] 6 1 (by kernel_rfl) s)) ?_
                        refine TA.all1 (i := 15) (by kernel_rfl) ?_
                        refine TB.of rfl ?_
                        refine TO.litS (f := cTii) ([(rq76_11_1, a1.2.2.2)] : List (Int × Int)) kelemB_36_52_2_16_true kinfo_52_bind_zero_some_agg_I_0_I_0 rfl rfl (fun _ => rfl) rfl rfl (by kernel_rfl) rfl fun vq76_15_1 => ?_
                        refine TA.back (.inr (fun _ s => Sat.by [6, 6, 6, 6, 6, 6] 6 2 (by kernel_rfl) s)) ?_
                        refine TA.asL (L' := (OwnS 52 2 vq76_15_1 (([(rq76_11_1, a1.2.2.2)] : List (Int × Int)).map cTii) :: Bx b8 45 [I a1.1, I a1.2.1, I a1.2.2.1, I a1.2.2.2] :: Bx b7 38 [.pointer (some ⟨b0_, 0, none⟩)] :: Bx b0_ 43 [.pointer (some ⟨h0_1, 0, none⟩), h0_4] :: Bx h0_1 64 [h0_2, h0_3] :: OwnS 67 4 h0_2 (a0.1.1.map cTiiiiu32) :: OwnS 79 2 h0_3 (a0.1.2.map cTii) :: SN 48 4 nT48 h0_4 h0_5 (a0.2) :: L)) (listed' := #[true, true, true, true, true, true, true, true, true, true, true, true, true, true, true, true, false, false, false, false]) (by kernel_rfl) (by kernel_rfl) ?_
                        refine TA.all1 (i := 16) (by kernel_rfl) ?_
                        refine TB.of rfl ?_
                        refine TO.ghost (fun _ s => Sat.front 7 rfl s) ?_
                        refine TO.openN (L' := (OwnS 52 2 (cv (gr h0_5 a1.2.1.toNat) 0) (x70.1.map cTii) :: OwnS 3 1 (cv (gr h0_5 a1.2.1.toNat) 1) (x70.2.2.1.map cI) :: OwnS 3 1 (cv (gr h0_5 a1.2.1.toNat) 2) (x70.2.2.2.map cI) :: SNh 48 4 nT48 h0_4 h0_5 (a0.2) a1.2.1.toNat [(cv (gr h0_5 a1.2.1.toNat) 0), I x70.2.1, (cv (gr h0_5 a1.2.1.toNat) 1), (cv (gr h0_5 a1.2.1.toNat) 2)] :: OwnS 52 2 vq76_15_1 (([(rq76_11_1, a1.2.2.2)] : List (Int × Int)).map cTii) :: Bx b8 45 [I a1.1, I a1.2.1, I a1.2.2.1, I a1.2.2.2] :: Bx b7 38 [.pointer (some ⟨b0_, 0, none⟩)] :: Bx b0_ 43 [.pointer (some ⟨h0_1, 0, none⟩), h0_4] :: Bx h0_1 64 [h0_2, h0_3] :: OwnS 67 4 h0_2 (a0.1.1.map cTiiiiu32) :: OwnS 79 2 h0_3 (a0.1.2.map cTii) :: L)) rfl hx71 rfl ?_
                        refine TO.app (k := 0) (f := cTii) kelemB_36_52_2_16_true (by decide) rfl rfl rfl (OwnS.rd (Ent.at 4 rfl)) hkq76_16_5 (fun x c hc => by simp [Value.oneCell'] at hc ⊢; first | (obtain rfl := hc; rfl) | (rcases hc with rfl | rfl <;> rfl)) rfl rfl fun vq76_16_6 => ?_
                        refine TA.back (.inr (fun _ s => Sat.by [10, 10, 10, 10, 10, 10] 6 5 (by kernel_rfl) s)) ?_
                        refine TA.asL (L' := (OwnS 52 2 vq76_16_6 (yq76_16_4.map cTii) :: OwnS 3 1 (cv (gr h0_5 a1.2.1.toNat) 1) (x70.2.2.1.map cI) :: OwnS 3 1 (cv (gr h0_5 a1.2.1.toNat) 2) (x70.2.2.2.map cI) :: SNh 48 4 nT48 h0_4 h0_5 (a0.2) a1.2.1.toNat [(cv (gr h0_5 a1.2.1.toNat) 0), I x70.2.1, (cv (gr h0_5 a1.2.1.toNat) 1), (cv (gr h0_5 a1.2.1.toNat) 2)] :: OwnS 52 2 vq76_15_1 (([(rq76_11_1, a1.2.2.2)] : List (Int × Int)).map cTii) :: Bx b8 45 [I a1.1, I a1.2.1, I a1.2.2.1, I a1.2.2.2] :: Bx b7 38 [.pointer (some ⟨b0_, 0, none⟩)] :: Bx b0_ 43 [.pointer (some ⟨h0_1, 0, none⟩), h0_4] :: Bx h0_1 64 [h0_2, h0_3] :: OwnS 67 4 h0_2 (a0.1.1.map cTiiiiu32) :: OwnS 79 2 h0_3 (a0.1.2.map cTii) :: L)) (listed' := #[true, true, true, true, true, true, true, true, true, true, true, true, true, true, true, true, true, false, false, false]) (by kernel_rfl) (by kernel_rfl) ?_
                        refine TA.takeW 17 rfl rfl rfl rfl (StepS.nilc rfl) (by kernel_rfl) (by kernel_rfl) (by kernel_rfl) rfl (.inr (fun _ s => Sat.by [10, 10, 10, 10, 10, 10] 6 5 (by kernel_rfl) s)) ?_
                        refine TA.takeW 18 rfl rfl rfl rfl (StepS.ptrf rfl kfieldB_48_0_0_true) (by kernel_rfl) (by kernel_rfl) (by kernel_rfl) rfl (.inr (fun _ s => Sat.by [10, 10, 10, 10, 10, 10] 6 5 (by kernel_rfl) s)) ?_
                        refine TA.all1 (i := 19) (by kernel_rfl) ?_
                        refine TB.of rfl ?_
                        refine TO.pure (fun _ s => Rd.one (OwnS.rd (Ent.at 0 rfl)) s) fun ocq76_19_1 => ?_
                        refine TO.ghost (fun _ s => Sat.front 3 rfl s) ?_
                        refine TO.stNh (i := a1.2.1) (off := 0) (us := [vq76_16_6]) (cs' := [vq76_16_6, I x70.2.1, (cv (gr h0_5 a1.2.1.toNat) 1), (cv (gr h0_5 a1.2.1.toNat) 2)]) rfl rfl ksizeB_36_1_true ocq76_19_1.2 rfl rfl hx71 rfl (by intro u hu; simp only [List.mem_cons, List.not_mem_nil, or_false] at hu; rcases hu with rfl <;> first | exact ocq76_19_1.1 | rfl) rfl ?_
                        refine TO.ghost (fun _ s => Sat.front 3 rfl s) ?_
                        refine TO.ghost (fun _ s => Sat.front 3 rfl s) ?_
                        refine TO.ghost (fun _ s => Sat.front 3 rfl s) ?_
                        refine TO.closeN (T := nT48) (cs := [vq76_16_6, I x70.2.1, (cv (gr h0_5 a1.2.1.toNat) 1), (cv (gr h0_5 a1.2.1.toNat) 2)]) [vq76_16_6, (cv (gr h0_5 a1.2.1.toNat) 1), (cv (gr h0_5 a1.2.1.toNat) 2)] (yq76_16_4, x70.2.1, x70.2.2.1, x70.2.2.2) rfl rfl hx71 (Option.some.inj hyq76_19_4) fun hsq76_19_2 => ?_
                        refine TA.back (.inl (by kernel_rfl)) ?_
                        refine TA.asL (L' := (SN 48 4 nT48 h0_4 hsq76_19_2 (yq76_19_3) :: OwnS 52 2 vq76_15_1 (([(rq76_11_1, a1.2.2.2)] : List (Int × Int)).map cTii) :: Bx b8 45 [I a1.1, I a1.2.1, I a1.2.2.1, I a1.2.2.2] :: Bx b7 38 [.pointer (some ⟨b0_, 0, none⟩)] :: Bx b0_ 43 [.pointer (some ⟨h0_1, 0, none⟩), h0_4] :: Bx h0_1 64 [h0_2, h0_3] :: OwnS 67 4 h0_2 (a0.1.1.map cTiiiiu32) :: OwnS 79 2 h0_3 (a0.1.2.map cTii) :: L)) (listed' := #[true, true, true, true, true, true, true, true, true, true, true, true, true, true, true, true, true, true, true, true]) (by kernel_rfl) (by kernel_rfl) ?_
                        cases hj79
                        refine TA.nil (by kernel_rfl) fun a w e s => ?_
                        exact ⟨hsq76_19_2, e.sub (lk_of_allIn trivial), s.mono fun _ s => (by exact Sat.by [0, 7, 7, 7, 7, 7, 7] 7 1 (by kernel_rfl) s)⟩
                      · refine TB.of rfl ?_
                        refine TO.q rfl rfl rfl (StepQ.call kcallB_12_true rfl rfl (fun _ st => C12 (Ent.at 3 rfl) (OwnS.rd (Ent.at 4 rfl)) (OwnS.rd (Ent.at 5 rfl)) hcq76_11_2 st)) ?_
                        refine TA.back (.inr (fun _ s => Sat.by [5, 5, 5, 5, 5, 5] 6 1 (by kernel_rfl) s)) ?_
                        refine TA.asL (L' := (Bx b8 45 [I a1.1, I a1.2.1, I a1.2.2.1, I a1.2.2.2] :: Bx b7 38 [.pointer (some ⟨b0_, 0, none⟩)] :: Bx b0_ 43 [.pointer (some ⟨h0_1, 0, none⟩), h0_4] :: Bx h0_1 64 [h0_2, h0_3] :: OwnS 67 4 h0_2 (a0.1.1.map cTiiiiu32) :: OwnS 79 2 h0_3 (a0.1.2.map cTii) :: SN 48 4 nT48 h0_4 h0_5 (a0.2) :: L)) (listed' := #[true, true, true, true, false, true, true, true, true, true, true, true, true, true, false, false, false, false, false, false]) (by kernel_rfl) (by kernel_rfl) ?_
                        refine TA.takeW 14 rfl rfl rfl rfl (StepS.build (cs := [I rq76_11_1, I a1.2.2.2]) rfl (by kernel_rfl)) (by kernel_rfl) (by kernel_rfl) (by kernel_rfl) rfl (.inr (fun _ s => Sat.by [5, 5, 5, 5, 5, 5] 6 1 (by kernel_rfl) s)) ?_
                        refine TA.all2 (i := 4) (j := 15) (by kernel_rfl) ?_ ?_
                        · refine TB.of rfl ?_
                          refine TO.s rfl rfl rfl (StepS.ldN (j := 0) rfl (Ent.at 6 rfl) kscalB_36_true hx71 rfl rfl) ?_
                          refine TA.back (.inr (fun _ s => Sat.by [5, 5, 5, 5, 5, 5] 6 1 (by kernel_rfl) s)) ?_
                          refine TA.asL (L' := (Bx b8 45 [I a1.1, I a1.2.1, I a1.2.2.1, I a1.2.2.2] :: Bx b7 38 [.pointer (some ⟨b0_, 0, none⟩)] :: Bx b0_ 43 [.pointer (some ⟨h0_1, 0, none⟩), h0_4] :: Bx h0_1 64 [h0_2, h0_3] :: OwnS 67 4 h0_2 (a0.1.1.map cTiiiiu32) :: OwnS 79 2 h0_3 (a0.1.2.map cTii) :: SN 48 4 nT48 h0_4 h0_5 (a0.2) :: L)) (listed' := #[true, true, true, true, true, true, true, true, true, true, true, true, true, true, true, false, false, false, false, false]) (by kernel_rfl) (by kernel_rfl) ?_
                          refine TA.all1 (i := 15) (by kernel_rfl) ?_
                          refine TB.of rfl ?_
                          refine TO.litS (f := cTii) ([(rq76_11_1, a1.2.2.2)] : List (Int × Int)) kelemB_36_52_2_16_true kinfo_52_bind_zero_some_agg_I_0_I_0 rfl rfl (fun _ => rfl) rfl rfl (by kernel_rfl) rfl fun vq76_15_1 => ?_
                          refine TA.back (.inr (fun _ s => Sat.by [6, 6, 6, 6, 6, 6] 6 2 (by kernel_rfl) s)) ?_
                          refine TA.asL (L' := (OwnS 52 2 vq76_15_1 (([(rq76_11_1, a1.2.2.2)] : List (Int × Int)).map cTii) :: Bx b8 45 [I a1.1, I a1.2.1, I a1.2.2.1, I a1.2.2.2] :: Bx b7 38 [.pointer (some ⟨b0_, 0, none⟩)] :: Bx b0_ 43 [.pointer (some ⟨h0_1, 0, none⟩), h0_4] :: Bx h0_1 64 [h0_2, h0_3] :: OwnS 67 4 h0_2 (a0.1.1.map cTiiiiu32) :: OwnS 79 2 h0_3 (a0.1.2.map cTii) :: SN 48 4 nT48 h0_4 h0_5 (a0.2) :: L)) (listed' := #[true, true, true, true, true, true, true, true, true, true, true, true, true, true, true, true, false, false, false, false]) (by kernel_rfl) (by kernel_rfl) ?_
                          refine TA.all1 (i := 16) (by kernel_rfl) ?_
                          refine TB.of rfl ?_
                          refine TO.ghost (fun _ s => Sat.front 7 rfl s) ?_
                          refine TO.openN (L' := (OwnS 52 2 (cv (gr h0_5 a1.2.1.toNat) 0) (x70.1.map cTii) :: OwnS 3 1 (cv (gr h0_5 a1.2.1.toNat) 1) (x70.2.2.1.map cI) :: OwnS 3 1 (cv (gr h0_5 a1.2.1.toNat) 2) (x70.2.2.2.map cI) :: SNh 48 4 nT48 h0_4 h0_5 (a0.2) a1.2.1.toNat [(cv (gr h0_5 a1.2.1.toNat) 0), I x70.2.1, (cv (gr h0_5 a1.2.1.toNat) 1), (cv (gr h0_5 a1.2.1.toNat) 2)] :: OwnS 52 2 vq76_15_1 (([(rq76_11_1, a1.2.2.2)] : List (Int × Int)).map cTii) :: Bx b8 45 [I a1.1, I a1.2.1, I a1.2.2.1, I a1.2.2.2] :: Bx b7 38 [.pointer (some ⟨b0_, 0, none⟩)] :: Bx b0_ 43 [.pointer (some ⟨h0_1, 0, none⟩), h0_4] :: Bx h0_1 64 [h0_2, h0_3] :: OwnS 67 4 h0_2 (a0.1.1.map cTiiiiu32) :: OwnS 79 2 h0_3 (a0.1.2.map cTii) :: L)) rfl hx71 rfl ?_
                          refine TO.app (k := 0) (f := cTii) kelemB_36_52_2_16_true (by decide) rfl rfl rfl (OwnS.rd (Ent.at 4 rfl)) hkq76_16_5 (fun x c hc => by simp [Value.oneCell'] at hc ⊢; first | (obtain rfl := hc; rfl) | (rcases hc with rfl | rfl <;> rfl)) rfl rfl fun vq76_16_6 => ?_
                          refine TA.back (.inr (fun _ s => Sat.by [10, 10, 10, 10, 10, 10] 6 5 (by kernel_rfl) s)) ?_
                          refine TA.asL (L' := (OwnS 52 2 vq76_16_6 (yq76_16_4.map cTii) :: OwnS 3 1 (cv (gr h0_5 a1.2.1.toNat) 1) (x70.2.2.1.map cI) :: OwnS 3 1 (cv (gr h0_5 a1.2.1.toNat) 2) (x70.2.2.2.map cI) :: SNh 48 4 nT48 h0_4 h0_5 (a0.2) a1.2.1.toNat [(cv (gr h0_5 a1.2.1.toNat) 0), I x70.2.1, (cv (gr h0_5 a1.2.1.toNat) 1), (cv (gr h0_5 a1.2.1.toNat) 2)] :: OwnS 52 2 vq76_15_1 (([(rq76_11_1, a1.2.2.2)] : List (Int × Int)).map cTii) :: Bx b8 45 [I a1.1, I a1.2.1, I a1.2.2.1, I a1.2.2.2] :: Bx b7 38 [.pointer (some ⟨b0_, 0, none⟩)] :: Bx b0_ 43 [.pointer (some ⟨h0_1, 0, none⟩), h0_4] :: Bx h0_1 64 [h0_2, h0_3] :: OwnS 67 4 h0_2 (a0.1.1.map cTiiiiu32) :: OwnS 79 2 h0_3 (a0.1.2.map cTii) :: L)) (listed' := #[true, true, true, true, true, true, true, true, true, true, true, true, true, true, true, true, true, false, false, false]) (by kernel_rfl) (by kernel_rfl) ?_
                          refine TA.takeW 17 rfl rfl rfl rfl (StepS.nilc rfl) (by kernel_rfl) (by kernel_rfl) (by kernel_rfl) rfl (.inr (fun _ s => Sat.by [10, 10, 10, 10, 10, 10] 6 5 (by kernel_rfl) s)) ?_
                          refine TA.takeW 18 rfl rfl rfl rfl (StepS.ptrf rfl kfieldB_48_0_0_true) (by kernel_rfl) (by kernel_rfl) (by kernel_rfl) rfl (.inr (fun _ s => Sat.by [10, 10, 10, 10, 10, 10] 6 5 (by kernel_rfl) s)) ?_
                          refine TA.all1 (i := 19) (by kernel_rfl) ?_
                          refine TB.of rfl ?_
                          refine TO.pure (fun _ s => Rd.one (OwnS.rd (Ent.at 0 rfl)) s) fun ocq76_19_1 => ?_
                          refine TO.ghost (fun _ s => Sat.front 3 rfl s) ?_
                          refine TO.stNh (i := a1.2.1) (off := 0) (us := [vq76_16_6]) (cs' := [vq76_16_6, I x70.2.1, (cv (gr h0_5 a1.2.1.toNat) 1), (cv (gr h0_5 a1.2.1.toNat) 2)]) rfl rfl ksizeB_36_1_true ocq76_19_1.2 rfl rfl hx71 rfl (by intro u hu; simp only [List.mem_cons, List.not_mem_nil, or_false] at hu; rcases hu with rfl <;> first | exact ocq76_19_1.1 | rfl) rfl ?_
                          refine TO.ghost (fun _ s => Sat.front 3 rfl s) ?_
                          refine TO.ghost (fun _ s => Sat.front 3 rfl s) ?_
                          refine TO.ghost (fun _ s => Sat.front 3 rfl s) ?_
                          refine TO.closeN (T := nT48) (cs := [vq76_16_6, I x70.2.1, (cv (gr h0_5 a1.2.1.toNat) 1), (cv (gr h0_5 a1.2.1.toNat) 2)]) [vq76_16_6, (cv (gr h0_5 a1.2.1.toNat) 1), (cv (gr h0_5 a1.2.1.toNat) 2)] (yq76_16_4, x70.2.1, x70.2.2.1, x70.2.2.2) rfl rfl hx71 (Option.some.inj hyq76_19_4) fun hsq76_19_2 => ?_
                          refine TA.back (.inl (by kernel_rfl)) ?_
                          refine TA.asL (L' := (SN 48 4 nT48 h0_4 hsq76_19_2 (yq76_19_3) :: OwnS 52 2 vq76_15_1 (([(rq76_11_1, a1.2.2.2)] : List (Int × Int)).map cTii) :: Bx b8 45 [I a1.1, I a1.2.1, I a1.2.2.1, I a1.2.2.2] :: Bx b7 38 [.pointer (some ⟨b0_, 0, none⟩)] :: Bx b0_ 43 [.pointer (some ⟨h0_1, 0, none⟩), h0_4] :: Bx h0_1 64 [h0_2, h0_3] :: OwnS 67 4 h0_2 (a0.1.1.map cTiiiiu32) :: OwnS 79 2 h0_3 (a0.1.2.map cTii) :: L)) (listed' := #[true, true, true, true, true, true, true, true, true, true, true, true, true, true, true, true, true, true, true, true]) (by kernel_rfl) (by kernel_rfl) ?_
                          cases hj79
                          refine TA.nil (by kernel_rfl) fun a w e s => ?_
                          exact ⟨hsq76_19_2, e.sub (lk_of_allIn trivial), s.mono fun _ s => (by exact Sat.by [0, 7, 7, 7, 7, 7, 7] 7 1 (by kernel_rfl) s)⟩
                        · refine TB.of rfl ?_
                          refine TO.litS (f := cTii) ([(rq76_11_1, a1.2.2.2)] : List (Int × Int)) kelemB_36_52_2_16_true kinfo_52_bind_zero_some_agg_I_0_I_0 rfl rfl (fun _ => rfl) rfl rfl (by kernel_rfl) rfl fun vq76_15_1 => ?_
                          refine TA.back (.inr (fun _ s => Sat.by [6, 6, 6, 6, 6, 6] 6 2 (by kernel_rfl) s)) ?_
                          refine TA.asL (L' := (OwnS 52 2 vq76_15_1 (([(rq76_11_1, a1.2.2.2)] : List (Int × Int)).map cTii) :: Bx b8 45 [I a1.1, I a1.2.1, I a1.2.2.1, I a1.2.2.2] :: Bx b7 38 [.pointer (some ⟨b0_, 0, none⟩)] :: Bx b0_ 43 [.pointer (some ⟨h0_1, 0, none⟩), h0_4] :: Bx h0_1 64 [h0_2, h0_3] :: OwnS 67 4 h0_2 (a0.1.1.map cTiiiiu32) :: OwnS 79 2 h0_3 (a0.1.2.map cTii) :: SN 48 4 nT48 h0_4 h0_5 (a0.2) :: L)) (listed' := #[true, true, true, true, false, true, true, true, true, true, true, true, true, true, true, true, false, false, false, false]) (by kernel_rfl) (by kernel_rfl) ?_
                          refine TA.all1 (i := 4) (by kernel_rfl) ?_
                          refine TB.of rfl ?_
                          refine TO.s rfl rfl rfl (StepS.ldN (j := 0) rfl (Ent.at 7 rfl) kscalB_36_true hx71 rfl rfl) ?_
                          refine TA.back (.inr (fun _ s => Sat.by [6, 6, 6, 6, 6, 6] 6 2 (by kernel_rfl) s)) ?_
                          refine TA.asL (L' := (OwnS 52 2 vq76_15_1 (([(rq76_11_1, a1.2.2.2)] : List (Int × Int)).map cTii) :: Bx b8 45 [I a1.1, I a1.2.1, I a1.2.2.1, I a1.2.2.2] :: Bx b7 38 [.pointer (some ⟨b0_, 0, none⟩)] :: Bx b0_ 43 [.pointer (some ⟨h0_1, 0, none⟩), h0_4] :: Bx h0_1 64 [h0_2, h0_3] :: OwnS 67 4 h0_2 (a0.1.1.map cTiiiiu32) :: OwnS 79 2 h0_3 (a0.1.2.map cTii) :: SN 48 4 nT48 h0_4 h0_5 (a0.2) :: L)) (listed' := #[true, true, true, true, true, true, true, true, true, true, true, true, true, true, true, true, false, false, false, false]) (by kernel_rfl) (by kernel_rfl) ?_
                          refine TA.all1 (i := 16) (by kernel_rfl) ?_
                          refine TB.of rfl ?_
                          refine TO.ghost (fun _ s => Sat.front 7 rfl s) ?_
                          refine TO.openN (L' := (OwnS 52 2 (cv (gr h0_5 a1.2.1.toNat) 0) (x70.1.map cTii) :: OwnS 3 1 (cv (gr h0_5 a1.2.1.toNat) 1) (x70.2.2.1.map cI) :: OwnS 3 1 (cv (gr h0_5 a1.2.1.toNat) 2) (x70.2.2.2.map cI) :: SNh 48 4 nT48 h0_4 h0_5 (a0.2) a1.2.1.toNat [(cv (gr h0_5 a1.2.1.toNat) 0), I x70.2.1, (cv (gr h0_5 a1.2.1.toNat) 1), (cv (gr h0_5 a1.2.1.toNat) 2)] :: OwnS 52 2 vq76_15_1 (([(rq76_11_1, a1.2.2.2)] : List (Int × Int)).map cTii) :: Bx b8 45 [I a1.1, I a1.2.1, I a1.2.2.1, I a1.2.2.2] :: Bx b7 38 [.pointer (some ⟨b0_, 0, none⟩)] :: Bx b0_ 43 [.pointer (some ⟨h0_1, 0, none⟩), h0_4] :: Bx h0_1 64 [h0_2, h0_3] :: OwnS 67 4 h0_2 (a0.1.1.map cTiiiiu32) :: OwnS 79 2 h0_3 (a0.1.2.map cTii) :: L)) rfl hx71 rfl ?_
                          refine TO.app (k := 0) (f := cTii) kelemB_36_52_2_16_true (by decide) rfl rfl rfl (OwnS.rd (Ent.at 4 rfl)) hkq76_16_5 (fun x c hc => by simp [Value.oneCell'] at hc ⊢; first | (obtain rfl := hc; rfl) | (rcases hc with rfl | rfl <;> rfl)) rfl rfl fun vq76_16_6 => ?_
                          refine TA.back (.inr (fun _ s => Sat.by [10, 10, 10, 10, 10, 10] 6 5 (by kernel_rfl) s)) ?_
                          refine TA.asL (L' := (OwnS 52 2 vq76_16_6 (yq76_16_4.map cTii) :: OwnS 3 1 (cv (gr h0_5 a1.2.1.toNat) 1) (x70.2.2.1.map cI) :: OwnS 3 1 (cv (gr h0_5 a1.2.1.toNat) 2) (x70.2.2.2.map cI) :: SNh 48 4 nT48 h0_4 h0_5 (a0.2) a1.2.1.toNat [(cv (gr h0_5 a1.2.1.toNat) 0), I x70.2.1, (cv (gr h0_5 a1.2.1.toNat) 1), (cv (gr h0_5 a1.2.1.toNat) 2)] :: OwnS 52 2 vq76_15_1 (([(rq76_11_1, a1.2.2.2)] : List (Int × Int)).map cTii) :: Bx b8 45 [I a1.1, I a1.2.1, I a1.2.2.1, I a1.2.2.2] :: Bx b7 38 [.pointer (some ⟨b0_, 0, none⟩)] :: Bx b0_ 43 [.pointer (some ⟨h0_1, 0, none⟩), h0_4] :: Bx h0_1 64 [h0_2, h0_3] :: OwnS 67 4 h0_2 (a0.1.1.map cTiiiiu32) :: OwnS 79 2 h0_3 (a0.1.2.map cTii) :: L)) (listed' := #[true, true, true, true, true, true, true, true, true, true, true, true, true, true, true, true, true, false, false, false]) (by kernel_rfl) (by kernel_rfl) ?_
                          refine TA.takeW 17 rfl rfl rfl rfl (StepS.nilc rfl) (by kernel_rfl) (by kernel_rfl) (by kernel_rfl) rfl (.inr (fun _ s => Sat.by [10, 10, 10, 10, 10, 10] 6 5 (by kernel_rfl) s)) ?_
                          refine TA.takeW 18 rfl rfl rfl rfl (StepS.ptrf rfl kfieldB_48_0_0_true) (by kernel_rfl) (by kernel_rfl) (by kernel_rfl) rfl (.inr (fun _ s => Sat.by [10, 10, 10, 10, 10, 10] 6 5 (by kernel_rfl) s)) ?_
                          refine TA.all1 (i := 19) (by kernel_rfl) ?_
                          refine TB.of rfl ?_
                          refine TO.pure (fun _ s => Rd.one (OwnS.rd (Ent.at 0 rfl)) s) fun ocq76_19_1 => ?_
                          refine TO.ghost (fun _ s => Sat.front 3 rfl s) ?_
                          refine TO.stNh (i := a1.2.1) (off := 0) (us := [vq76_16_6]) (cs' := [vq76_16_6, I x70.2.1, (cv (gr h0_5 a1.2.1.toNat) 1), (cv (gr h0_5 a1.2.1.toNat) 2)]) rfl rfl ksizeB_36_1_true ocq76_19_1.2 rfl rfl hx71 rfl (by intro u hu; simp only [List.mem_cons, List.not_mem_nil, or_false] at hu; rcases hu with rfl <;> first | exact ocq76_19_1.1 | rfl) rfl ?_
                          refine TO.ghost (fun _ s => Sat.front 3 rfl s) ?_
                          refine TO.ghost (fun _ s => Sat.front 3 rfl s) ?_
                          refine TO.ghost (fun _ s => Sat.front 3 rfl s) ?_
                          refine TO.closeN (T := nT48) (cs := [vq76_16_6, I x70.2.1, (cv (gr h0_5 a1.2.1.toNat) 1), (cv (gr h0_5 a1.2.1.toNat) 2)]) [vq76_16_6, (cv (gr h0_5 a1.2.1.toNat) 1), (cv (gr h0_5 a1.2.1.toNat) 2)] (yq76_16_4, x70.2.1, x70.2.2.1, x70.2.2.2) rfl rfl hx71 (Option.some.inj hyq76_19_4) fun hsq76_19_2 => ?_
                          refine TA.back (.inl (by kernel_rfl)) ?_
                          refine TA.asL (L' := (SN 48 4 nT48 h0_4 hsq76_19_2 (yq76_19_3) :: OwnS 52 2 vq76_15_1 (([(rq76_11_1, a1.2.2.2)] : List (Int × Int)).map cTii) :: Bx b8 45 [I a1.1, I a1.2.1, I a1.2.2.1, I a1.2.2.2] :: Bx b7 38 [.pointer (some ⟨b0_, 0, none⟩)] :: Bx b0_ 43 [.pointer (some ⟨h0_1, 0, none⟩), h0_4] :: Bx h0_1 64 [h0_2, h0_3] :: OwnS 67 4 h0_2 (a0.1.1.map cTiiiiu32) :: OwnS 79 2 h0_3 (a0.1.2.map cTii) :: L)) (listed' := #[true, true, true, true, true, true, true, true, true, true, true, true, true, true, true, true, true, true, true, true]) (by kernel_rfl) (by kernel_rfl) ?_
                          cases hj79
                          refine TA.nil (by kernel_rfl) fun a w e s => ?_
                          exact ⟨hsq76_19_2, e.sub (lk_of_allIn trivial), s.mono fun _ s => (by exact Sat.by [0, 7, 7, 7, 7, 7, 7] 7 1 (by kernel_rfl) s)⟩
                    · intro a w ⟨hs78, he, hs⟩
                      refine TC.use ?_ he hs
                      refine TC.k ?_
                      refine TC.region ?_
                      refine TO.s rfl rfl rfl (StepS.assign rfl) ?_
                      refine TO.code ?_
                      cases hm
                      refine TC.ret fun a w e s => ?_
                      refine FRet.mk1 (P := Try.prog) (fn := Try.f11) (t := 4) e rfl rfl ?_
                      refine ⟨_, _, rfl, ⟨(h0_3), (hs78), rfl, rfl⟩, ?_⟩
                      refine s.mono fun _ s => ?_
                      exact Sat.by [6, 6, 6, 6, 6] 5 2 (by kernel_rfl) s

set_option maxHeartbeats 1000000 in
set_option maxRecDepth 100000 in
theorem C4 {B : World} {L : List HP} {a0 : Int} {a1 : List (Int × Int × Int × Int)} {h1 : Value} {r0 : (List Int) × (List Int) × (List Int) × (List (List (Int × Int))) × List Int} {r1 : Int} (e1 : Ent L (Rd 4 h1 (a1.map cTiiii))) (hm : F4 a0 a1 = some (r0, r1)) {w : World} (st : St B L w) : Calls Try.prog 4 #[I a0, h1] w (fun e w' => ∃ v M, e = .returned v ∧ (∃ (qv1 : Value) (qv2 : Value) (qv3 : Value) (qv4 : Value) (qhs5 : List Value) (qv6 : Value), v = .tuple #[.agg #[qv1, qv2, qv3, qv4, qv6], I r1] ∧ M = (OwnS 28 1 qv1 (r0.1.map cI) :: OwnS 3 1 qv2 (r0.2.1.map cI) :: OwnS 3 1 qv3 (r0.2.2.1.map cI) :: SS 36 52 2 cTii qv4 qhs5 (r0.2.2.2.1) :: OwnS 3 1 qv6 (r0.2.2.2.2.map cI) :: L)) ∧ St B M w') := by
  refine calls_of (N := 94) (L := L) (args := [I a0, h1]) Try.func4 rfl rfl rfl ?_ st
  dsimp only [F4] at hm
  refine TC.k ?_
  refine TC.region ?_
  refine TO.alloc kinfo_27_bind_zero_some_agg_slice_none_0_0_slice_none_0_0_slice_none_0_0_slice_none_0_0_slice_none_0_0 rfl rfl fun b6 => ?_
  refine TO.s rfl rfl rfl (StepS.assign rfl) ?_
  refine TO.code ?_
  refine TC.k ?_
  refine TC.k ?_
  refine TC.region ?_
  refine TO.s rfl rfl rfl (StepS.move rfl) ?_
  refine TO.s rfl rfl rfl (StepS.cmp rfl rfl rfl) ?_
  refine TO.s rfl rfl rfl (StepS.move rfl) ?_
  refine TO.mid1 3 17 (.bool ((decide (a0 < 1)) || (decide (a0 > 6)))) ?_ ?_
  · refine bcase ((decide (a0 < 1))) (fun hb7 => ?_) (fun hb7 => ?_)
    · refine TO.skip rfl rfl rfl (skipT hb7) rfl rfl ?_
      refine TO.skip rfl rfl rfl (skipT hb7) rfl rfl ?_
      refine TO.s rfl rfl rfl (StepS.pickT rfl hb7 rfl) ?_
      exact TO.up1 3 0 rfl rfl (by rw [hb7]; rfl) rfl
    · refine TO.sw rfl rfl rfl hb7 rfl rfl (StepS.move rfl) ?_
      refine TO.sw rfl rfl rfl hb7 rfl rfl (StepS.cmp rfl rfl rfl) ?_
      refine TO.s rfl rfl rfl (StepS.pickF rfl hb7 rfl) ?_
      exact TO.up1 3 0 rfl rfl (by rw [hb7]; rfl) rfl
  refine TO.s rfl rfl rfl (StepS.move rfl) ?_
  refine TO.mid1 4 22 (.bool (((decide (a0 < 1)) || (decide (a0 > 6))) || (decide ((a1.length : Int) > 60)))) ?_ ?_
  · refine bcase (((decide (a0 < 1)) || (decide (a0 > 6)))) (fun hb8 => ?_) (fun hb8 => ?_)
    · refine TO.skip rfl rfl rfl (skipT hb8) rfl rfl ?_
      refine TO.skip rfl rfl rfl (skipT hb8) rfl rfl ?_
      refine TO.skip rfl rfl rfl (skipT hb8) rfl rfl ?_
      refine TO.s rfl rfl rfl (StepS.pickT rfl hb8 rfl) ?_
      exact TO.up1 4 0 rfl rfl (by rw [hb8]; rfl) rfl
    · refine TO.sw rfl rfl rfl hb8 rfl rfl (StepS.move rfl) ?_
      refine TO.sw rfl rfl rfl hb8 rfl rfl (StepS.lenm rfl e1.tl ksliceB_22_45_4_true rfl) ?_
      refine TO.sw rfl rfl rfl hb8 rfl rfl (StepS.cmp rfl rfl rfl) ?_
      refine TO.s rfl rfl rfl (StepS.pickF rfl hb8 rfl) ?_
      exact TO.up1 4 0 rfl rfl (by rw [hb8]; rfl) rfl
  refine TO.code ?_
  refine TC.cond rfl (fun hc9 => ?_) (fun hc9 => ?_)
  · replace hm := cond_t hc9 hm
    refine TC.k ?_
    refine TC.region ?_
    refine TO.s rfl rfl rfl (StepS.build (cs := [.slice none 0 0, .slice none 0 0, .slice none 0 0, .slice none 0 0, .slice none 0 0]) rfl (by kernel_rfl)) ?_
    refine TO.stB (us := [.slice none 0 0, .slice none 0 0, .slice none 0 0, .slice none 0 0, .slice none 0 0]) 0 [.slice none 0 0, .slice none 0 0, .slice none 0 0, .slice none 0 0, .slice none 0 0] rfl rfl rfl ksizeB_27_5_true rfl rfl rfl (by simp [Value.oneCell']) rfl ?_
    refine TO.s rfl rfl rfl (StepS.assign rfl) ?_
    refine TO.code ?_
    cases hm
    refine TC.ret fun a w e s => ?_
    refine FRet.cell2 (P := Try.prog) (fn := Try.f4) e s rfl rfl rfl (Ent.at 0 rfl) kaggB_27_5_true rfl ?_
    refine ⟨_, _, rfl, ⟨(.slice none 0 0), (.slice none 0 0), (.slice none 0 0), (.slice none 0 0), ([]), (.slice none 0 0), rfl, rfl⟩, ?_⟩
    refine s.mono fun _ s => ?_
    replace s := Sat.nilS (e := 3) (sz := 1) (f := cI) s
    replace s := Sat.nilSS (e := 36) (ee := 52) (sz := 2) (f := cTii) s
    replace s := Sat.nilS (e := 3) (sz := 1) (f := cI) s
    replace s := Sat.nilS (e := 3) (sz := 1) (f := cI) s
    replace s := Sat.nilS (e := 28) (sz := 1) (f := cI) s
    replace s := Sat.erase 5 s
    exact s
  · replace hm := cond_f hc9 hm
    refine TC.skipk ?_
    refine TC.k ?_
    obtain ⟨⟨y14, y17, y20⟩, hj21, hm⟩ := bind_some hm
    first | refine TC.cutM (fun a w => ∃ v11 : Value, ∃ hs12 : List (List Value), ∃ v15 : Value, ∃ v18 : Value, ∃ bq10_5_1 : Nat, ∃ bq10_1_7 : Nat, Mid 94 B [(1, h1), (4, .pointer (some ⟨b6, 0, none⟩)), (6, .pointer (some ⟨bq10_5_1, 0, none⟩))] (SN 48 4 nT48 v11 hs12 (y14) :: OwnS 67 4 v15 (y17.map cTiiiiu32) :: OwnS 79 2 v18 (y20.map cTii) :: Bx bq10_5_1 43 [.pointer (some ⟨bq10_1_7, 0, none⟩), v11] :: Bx bq10_1_7 64 [v15, v18] :: Bx b6 27 [.slice none 0 0, .slice none 0 0, .slice none 0 0, .slice none 0 0, .slice none 0 0] :: L) a w) ?_ ?_ | refine TC.cutX (fun a w => ∃ v11 : Value, ∃ hs12 : List (List Value), ∃ v15 : Value, ∃ v18 : Value, ∃ bq10_5_1 : Nat, ∃ bq10_1_7 : Nat, Mid 94 B [(1, h1), (4, .pointer (some ⟨b6, 0, none⟩)), (6, .pointer (some ⟨bq10_5_1, 0, none⟩))] (SN 48 4 nT48 v11 hs12 (y14) :: OwnS 67 4 v15 (y17.map cTiiiiu32) :: OwnS 79 2 v18 (y20.map cTii) :: Bx bq10_5_1 43 [.pointer (some ⟨bq10_1_7, 0, none⟩), v11] :: Bx bq10_1_7 64 [v15, v18] :: Bx b6 27 [.slice none 0 0, .slice none 0 0, .slice none 0 0, .slice none 0 0, .slice none 0 0] :: L) a w) ?_ ?_
    · obtain ⟨rq10_1_1, hcq10_1_2, hj21⟩ := bind_some hj21
      obtain ⟨yq10_3_1, hkq10_3_2, hj21⟩ := bind_some hj21
      refine TC.region_any (Bx b6 27 [.slice none 0 0, .slice none 0 0, .slice none 0 0, .slice none 0 0, .slice none 0 0] :: L) 7 7 kfollows_mixedOrders_true rfl ?_
      refine TA.takeW 0 rfl rfl rfl rfl (StepS.move rfl) (by kernel_rfl) (by kernel_rfl) (by kernel_rfl) rfl (.inr (fun _ s => s)) ?_
      refine TA.takeW 2 rfl rfl rfl rfl (StepS.move rfl) (by kernel_rfl) (by kernel_rfl) (by kernel_rfl) rfl (.inr (fun _ s => s)) ?_
      refine TA.all2 (i := 1) (j := 3) (by kernel_rfl) ?_ ?_
      · refine TB.of rfl ?_
        refine TO.callO kcallB_10_true rfl rfl rfl (fun _ st => C10  hcq10_1_2 st) ?_
        rintro _ _ ⟨bq10_1_7, vq10_1_3, vq10_1_5, rfl, rfl⟩
        refine TA.back (.inr (fun _ s => Sat.by [3] 1 3 (by kernel_rfl) s)) ?_
        refine TA.asL (L' := (Bx bq10_1_7 64 [vq10_1_3, vq10_1_5] :: OwnS 67 4 vq10_1_3 (rq10_1_1.1.map cTiiiiu32) :: OwnS 79 2 vq10_1_5 (rq10_1_1.2.map cTii) :: Bx b6 27 [.slice none 0 0, .slice none 0 0, .slice none 0 0, .slice none 0 0, .slice none 0 0] :: L)) (listed' := #[true, true, true, false, false, false, false]) (by kernel_rfl) (by kernel_rfl) ?_
        refine TA.all1 (i := 3) (by kernel_rfl) ?_
        refine TB.of rfl ?_
        refine TO.mkN (T := nT48) [nilv, nilv, nilv] ([], 0, [], []) kelemB_41_48_4_80_true kinfo_48_bind_zero_some_agg_slice_none_0_0_I_0_slice_none_0_0_slice_none_0_0 rfl (by decide) rfl rfl hkq10_3_2 rfl (fun M g s => (Sat.nilS (e := 52) (sz := 2) (f := cTii) (Sat.nilS (e := 3) (sz := 1) (f := cI) (Sat.nilS (e := 3) (sz := 1) (f := cI) s)))) fun vq10_3_3 hsq10_3_4 => ?_
        refine TA.back (.inr (fun _ s => Sat.by [4] 1 4 (by kernel_rfl) s)) ?_
        refine TA.asL (L' := (SN 48 4 nT48 vq10_3_3 hsq10_3_4 (yq10_3_1) :: Bx bq10_1_7 64 [vq10_1_3, vq10_1_5] :: OwnS 67 4 vq10_1_3 (rq10_1_1.1.map cTiiiiu32) :: OwnS 79 2 vq10_1_5 (rq10_1_1.2.map cTii) :: Bx b6 27 [.slice none 0 0, .slice none 0 0, .slice none 0 0, .slice none 0 0, .slice none 0 0] :: L)) (listed' := #[true, true, true, true, false, false, false]) (by kernel_rfl) (by kernel_rfl) ?_
        refine TA.all1 (i := 4) (by kernel_rfl) ?_
        refine TB.of rfl ?_
        refine TO.pure (fun _ s => Rd.one (SN.top (Ent.at 0 rfl)) s) fun ocq10_4_1 => ?_
        refine TO.s rfl rfl rfl (StepS.buildS (us := [(0, .pointer (some ⟨bq10_1_7, 0, none⟩)), (1, .agg #[vq10_3_3])]) (cs := [.pointer (some ⟨bq10_1_7, 0, none⟩), vq10_3_3]) rfl (by simp only [List.map_cons, List.map_nil, ocq10_4_1.2] <;> rfl) (by kernel_rfl)) ?_
        refine TA.back (.inr (fun _ s => Sat.by [4] 1 4 (by kernel_rfl) s)) ?_
        refine TA.all1 (i := 5) (by kernel_rfl) ?_
        refine TB.of rfl ?_
        refine TO.box (cs := [.pointer (some ⟨bq10_1_7, 0, none⟩), vq10_3_3]) rfl rfl rfl fun bq10_5_1 => ?_
        refine TA.back (.inr (fun _ s => Sat.by [5] 1 5 (by kernel_rfl) s)) ?_
        refine TA.asL (L' := (Bx bq10_5_1 43 [.pointer (some ⟨bq10_1_7, 0, none⟩), vq10_3_3] :: SN 48 4 nT48 vq10_3_3 hsq10_3_4 (yq10_3_1) :: Bx bq10_1_7 64 [vq10_1_3, vq10_1_5] :: OwnS 67 4 vq10_1_3 (rq10_1_1.1.map cTiiiiu32) :: OwnS 79 2 vq10_1_5 (rq10_1_1.2.map cTii) :: Bx b6 27 [.slice none 0 0, .slice none 0 0, .slice none 0 0, .slice none 0 0, .slice none 0 0] :: L)) (listed' := #[true, true, true, true, true, true, false]) (by kernel_rfl) (by kernel_rfl) ?_
        refine TA.takeW 6 rfl rfl rfl rfl (StepS.assign rfl) (by kernel_rfl) (by kernel_rfl) (by kernel_rfl) rfl (.inr (fun _ s => Sat.by [5] 1 5 (by kernel_rfl) s)) ?_
        cases hj21
        refine TA.nil (by kernel_rfl) fun a w e s => ?_
        exact ⟨vq10_3_3, hsq10_3_4, vq10_1_3, vq10_1_5, bq10_5_1, bq10_1_7, e.sub (lk_of_allIn ⟨rfl, rfl, rfl, trivial⟩), s.mono fun _ s => (by exact Sat.by [5, 3, 2, 5, 5, 5] 6 0 (by kernel_rfl) s)⟩
      · refine TB.of rfl ?_
        refine TO.mkN (T := nT48) [nilv, nilv, nilv] ([], 0, [], []) kelemB_41_48_4_80_true kinfo_48_bind_zero_some_agg_slice_none_0_0_I_0_slice_none_0_0_slice_none_0_0 rfl (by decide) rfl rfl hkq10_3_2 rfl (fun M g s => (Sat.nilS (e := 52) (sz := 2) (f := cTii) (Sat.nilS (e := 3) (sz := 1) (f := cI) (Sat.nilS (e := 3) (sz := 1) (f := cI) s)))) fun vq10_3_3 hsq10_3_4 => ?_
        refine TA.back (.inr (fun _ s => Sat.by [1] 1 1 (by kernel_rfl) s)) ?_
        refine TA.asL (L' := (SN 48 4 nT48 vq10_3_3 hsq10_3_4 (yq10_3_1) :: Bx b6 27 [.slice none 0 0, .slice none 0 0, .slice none 0 0, .slice none 0 0, .slice none 0 0] :: L)) (listed' := #[true, false, true, true, false, false, false]) (by kernel_rfl) (by kernel_rfl) ?_
        refine TA.all1 (i := 1) (by kernel_rfl) ?_
        refine TB.of rfl ?_
        refine TO.callO kcallB_10_true rfl rfl rfl (fun _ st => C10  hcq10_1_2 st) ?_
        rintro _ _ ⟨bq10_1_7, vq10_1_3, vq10_1_5, rfl, rfl⟩
        refine TA.back (.inr (fun _ s => Sat.by [4] 1 4 (by kernel_rfl) s)) ?_
        refine TA.asL (L' := (Bx bq10_1_7 64 [vq10_1_3, vq10_1_5] :: OwnS 67 4 vq10_1_3 (rq10_1_1.1.map cTiiiiu32) :: OwnS 79 2 vq10_1_5 (rq10_1_1.2.map cTii) :: SN 48 4 nT48 vq10_3_3 hsq10_3_4 (yq10_3_1) :: Bx b6 27 [.slice none 0 0, .slice none 0 0, .slice none 0 0, .slice none 0 0, .slice none 0 0] :: L)) (listed' := #[true, true, true, true, false, false, false]) (by kernel_rfl) (by kernel_rfl) ?_
        refine TA.all1 (i := 4) (by kernel_rfl) ?_
        refine TB.of rfl ?_
        refine TO.pure (fun _ s => Rd.one (SN.top (Ent.at 3 rfl)) s) fun ocq10_4_1 => ?_
        refine TO.s rfl rfl rfl (StepS.buildS (us := [(0, .pointer (some ⟨bq10_1_7, 0, none⟩)), (1, .agg #[vq10_3_3])]) (cs := [.pointer (some ⟨bq10_1_7, 0, none⟩), vq10_3_3]) rfl (by simp only [List.map_cons, List.map_nil, ocq10_4_1.2] <;> rfl) (by kernel_rfl)) ?_
        refine TA.back (.inr (fun _ s => Sat.by [4] 1 4 (by kernel_rfl) s)) ?_
        refine TA.all1 (i := 5) (by kernel_rfl) ?_
        refine TB.of rfl ?_
        refine TO.box (cs := [.pointer (some ⟨bq10_1_7, 0, none⟩), vq10_3_3]) rfl rfl rfl fun bq10_5_1 => ?_
        refine TA.back (.inr (fun _ s => Sat.by [5] 1 5 (by kernel_rfl) s)) ?_
        refine TA.asL (L' := (Bx bq10_5_1 43 [.pointer (some ⟨bq10_1_7, 0, none⟩), vq10_3_3] :: Bx bq10_1_7 64 [vq10_1_3, vq10_1_5] :: OwnS 67 4 vq10_1_3 (rq10_1_1.1.map cTiiiiu32) :: OwnS 79 2 vq10_1_5 (rq10_1_1.2.map cTii) :: SN 48 4 nT48 vq10_3_3 hsq10_3_4 (yq10_3_1) :: Bx b6 27 [.slice none 0 0, .slice none 0 0, .slice none 0 0, .slice none 0 0, .slice none 0 0] :: L)) (listed' := #[true, true, true, true, true, true, false]) (by kernel_rfl) (by kernel_rfl) ?_
        refine TA.takeW 6 rfl rfl rfl rfl (StepS.assign rfl) (by kernel_rfl) (by kernel_rfl) (by kernel_rfl) rfl (.inr (fun _ s => Sat.by [5] 1 5 (by kernel_rfl) s)) ?_
        cases hj21
        refine TA.nil (by kernel_rfl) fun a w e s => ?_
        exact ⟨vq10_3_3, hsq10_3_4, vq10_1_3, vq10_1_5, bq10_5_1, bq10_1_7, e.sub (lk_of_allIn ⟨rfl, rfl, rfl, trivial⟩), s.mono fun _ s => (by exact Sat.by [5, 2, 2, 4, 4, 5] 6 0 (by kernel_rfl) s)⟩
    · intro a w ⟨v11, hs12, v15, v18, bq10_5_1, bq10_1_7, he, hs⟩
      refine TC.use ?_ he hs
      refine TC.k ?_
      refine TC.region ?_
      refine TO.alloc kinfo_27_bind_zero_some_agg_slice_none_0_0_slice_none_0_0_slice_none_0_0_slice_none_0_0_slice_none_0_0 rfl rfl fun b22 => ?_
      refine TO.code ?_
      refine TC.k ?_
      refine TC.k ?_
      refine TC.region ?_
      refine TO.s rfl rfl rfl (StepS.move rfl) ?_
      refine TO.s rfl rfl rfl (StepS.lenm rfl e1.tl.tl.tl.tl.tl.tl.tl ksliceB_22_45_4_true rfl) ?_
      refine TO.s rfl rfl rfl (StepS.move rfl) ?_
      refine TO.code ?_
      obtain ⟨o52, hw53, hm⟩ := bind_some hm
      refine TC.loop hw53 (fun (y25, y28, y29, y31, x32) => fun a w => ∃ v23 : Value, ∃ v26 : Value, ∃ hs30 : List (List Value), Mid 94 B [(4, .pointer (some ⟨b6, 0, none⟩)), (6, .pointer (some ⟨bq10_5_1, 0, none⟩)), (7, .pointer (some ⟨b22, 0, none⟩)), (30, h1), (31, I (a1.length : Int)), (32, I x32)] (OwnS 28 1 v23 (y25.map cI) :: OwnS 79 2 v26 (y28.map cTii) :: Bx b22 27 [v23, .slice none 0 0, .slice none 0 0, .slice none 0 0, .slice none 0 0] :: SN 48 4 nT48 v11 hs30 (y29) :: OwnS 67 4 v15 (y31.map cTiiiiu32) :: Bx bq10_5_1 43 [.pointer (some ⟨bq10_1_7, 0, none⟩), v11] :: Bx bq10_1_7 64 [v15, v26] :: Bx b6 27 [.slice none 0 0, .slice none 0 0, .slice none 0 0, .slice none 0 0, .slice none 0 0] :: L) a w) (fun (y45, y48, y49, y51) => fun a w => ∃ v43 : Value, ∃ v46 : Value, ∃ hs50 : List (List Value), Mid 94 B [(4, .pointer (some ⟨b6, 0, none⟩)), (6, .pointer (some ⟨bq10_5_1, 0, none⟩)), (7, .pointer (some ⟨b22, 0, none⟩))] (OwnS 28 1 v43 (y45.map cI) :: OwnS 79 2 v46 (y48.map cTii) :: Bx b22 27 [v43, .slice none 0 0, .slice none 0 0, .slice none 0 0, .slice none 0 0] :: SN 48 4 nT48 v11 hs50 (y49) :: OwnS 67 4 v15 (y51.map cTiiiiu32) :: Bx bq10_5_1 43 [.pointer (some ⟨bq10_1_7, 0, none⟩), v11] :: Bx bq10_1_7 64 [v15, v46] :: Bx b6 27 [.slice none 0 0, .slice none 0 0, .slice none 0 0, .slice none 0 0, .slice none 0 0] :: L) a w) (fun (_ : Unit) _ _ => False) ?_ ?_ ?_ ?_
      · rintro ⟨y25, y28, y29, y31, x32⟩ o52r hb54 a w ⟨v23, v26, hs30, he, hs⟩
        dsimp only [F4_L0] at hb54
        refine TC.use ?_ he hs
        refine TC.k ?_
        refine TC.region ?_
        refine TO.s rfl rfl rfl (StepS.cmp rfl rfl rfl) ?_
        refine TO.code ?_
        refine TC.k ?_
        refine TC.cond rfl (fun hc55 => ?_) (fun hc55 => ?_)
        · replace hb54 := cond_t hc55 hb54
          refine TC.skipk ?_
          refine TC.k ?_
          refine TC.block ?_
          refine TC.k ?_
          refine TC.region ?_
          obtain ⟨x56, hx57, hb54⟩ := bind_some hb54
          refine TO.s rfl rfl rfl (StepS.idx rfl rfl e1.tl.tl.tl.tl.tl.tl.tl.tl ksliceB_22_45_4_true (idx_spec hx57).1 (idxm_lt hx57)) ?_
          refine TO.s rfl rfl rfl (StepS.ldE rfl e1.tl.tl.tl.tl.tl.tl.tl.tl kaggB_45_4_true rfl (idxm hx57)) ?_
          refine TO.alloc kinfo_45_bind_zero_some_agg_I_0_I_0_I_0_I_0 rfl rfl fun b58 => ?_
          refine TO.stB (us := [I x56.1, I x56.2.1, I x56.2.2.1, I x56.2.2.2]) 0 [I x56.1, I x56.2.1, I x56.2.2.1, I x56.2.2.2] rfl rfl rfl ksizeB_45_4_true rfl rfl rfl (by simp [Value.oneCell']) rfl ?_
          refine TO.code ?_
          refine TC.region_any (Bx b58 45 [I x56.1, I x56.2.1, I x56.2.2.1, I x56.2.2.2] :: Bx b22 27 [v23, .slice none 0 0, .slice none 0 0, .slice none 0 0, .slice none 0 0] :: Bx bq10_5_1 43 [.pointer (some ⟨bq10_1_7, 0, none⟩), v11] :: Bx b6 27 [.slice none 0 0, .slice none 0 0, .slice none 0 0, .slice none 0 0, .slice none 0 0] :: L) 8 9 kfollows_mixedOrders_true rfl ?_
          refine TA.takeW 0 rfl rfl rfl rfl (StepS.fld rfl kfieldB_27_0_0_true) (by kernel_rfl) (by kernel_rfl) (by kernel_rfl) rfl (.inr (fun _ s => Sat.by [8, 7, 5, 3] 4 5 (by kernel_rfl) s)) ?_
          refine TA.take 1 rfl rfl rfl rfl (StepS.ldB rfl (Ent.at 1 rfl) kscalB_23_true rfl) (by kernel_rfl) (by kernel_rfl) (by kernel_rfl) (by kernel_rfl) (by kernel_rfl) (fun _ s => Sat.by [8, 7, 5, 3] 4 5 (by kernel_rfl) s) ?_
          refine TA.takeW 2 rfl rfl rfl rfl (StepS.move rfl) (by kernel_rfl) (by kernel_rfl) (by kernel_rfl) rfl (.inr (fun _ s => Sat.by [8, 7, 5, 3] 4 5 (by kernel_rfl) s)) ?_
          refine TA.take 3 rfl rfl rfl rfl (StepS.ldBA rfl (Ent.at 0 rfl) kaggB_45_4_true rfl rfl) (by kernel_rfl) (by kernel_rfl) (by kernel_rfl) (by kernel_rfl) (by kernel_rfl) (fun _ s => Sat.by [8, 7, 5, 3] 4 5 (by kernel_rfl) s) ?_
          refine TA.all1 (i := 4) (by kernel_rfl) ?_
          refine TB.of rfl ?_
          refine TO.ghost (fun _ s => Sat.front 4 rfl s) ?_
          refine TO.ghost (fun _ s => Sat.front 3 rfl s) ?_
          refine TO.ghost (fun _ s => Sat.front 5 rfl s) ?_
          refine TO.ghost (fun _ s => Sat.front 7 rfl s) ?_
          refine TO.ghost (fun _ s => Sat.front 7 rfl s) ?_
          obtain ⟨⟨rq59_4_1, rq59_4_2⟩, hcq59_4_3, hb54⟩ := bind_some hb54
          refine TO.callO kcallB_11_true rfl rfl rfl (fun _ st => C11 (a0 := ((y31, y28), y29))  hcq59_4_3 st) ?_
          rintro _ _ ⟨vq59_4_5, hsq59_4_7, rfl, rfl⟩
          refine TA.back (.inr (fun _ s => Sat.by [8, 1, 8, 7] 4 5 (by kernel_rfl) s)) ?_
          refine TA.asL (L' := (Bx bq10_5_1 43 [.pointer (some ⟨bq10_1_7, 0, none⟩), v11] :: Bx bq10_1_7 64 [v15, vq59_4_5] :: OwnS 67 4 v15 (rq59_4_2.1.1.map cTiiiiu32) :: OwnS 79 2 vq59_4_5 (rq59_4_2.1.2.map cTii) :: SN 48 4 nT48 v11 hsq59_4_7 (rq59_4_2.2) :: Bx b58 45 [I x56.1, I x56.2.1, I x56.2.2.1, I x56.2.2.2] :: OwnS 28 1 v23 (y25.map cI) :: Bx b22 27 [v23, .slice none 0 0, .slice none 0 0, .slice none 0 0, .slice none 0 0] :: Bx b6 27 [.slice none 0 0, .slice none 0 0, .slice none 0 0, .slice none 0 0, .slice none 0 0] :: L)) (listed' := #[true, true, true, true, true, false, false, false, false]) (by kernel_rfl) (by kernel_rfl) ?_
          refine TA.all1 (i := 5) (by kernel_rfl) ?_
          refine TB.of rfl ?_
          refine TO.litS (f := cI) ([rq59_4_1] : List Int) kelemB_23_28_1_8_true kinfo_28_bind_zero_some_I_0 rfl rfl (fun _ => rfl) rfl rfl (by kernel_rfl) rfl fun vq59_5_1 => ?_
          refine TA.back (.inr (fun _ s => Sat.by [9, 2, 9, 8] 4 6 (by kernel_rfl) s)) ?_
          refine TA.asL (L' := (OwnS 28 1 vq59_5_1 (([rq59_4_1] : List Int).map cI) :: Bx bq10_5_1 43 [.pointer (some ⟨bq10_1_7, 0, none⟩), v11] :: Bx bq10_1_7 64 [v15, vq59_4_5] :: OwnS 67 4 v15 (rq59_4_2.1.1.map cTiiiiu32) :: OwnS 79 2 vq59_4_5 (rq59_4_2.1.2.map cTii) :: SN 48 4 nT48 v11 hsq59_4_7 (rq59_4_2.2) :: Bx b58 45 [I x56.1, I x56.2.1, I x56.2.2.1, I x56.2.2.2] :: OwnS 28 1 v23 (y25.map cI) :: Bx b22 27 [v23, .slice none 0 0, .slice none 0 0, .slice none 0 0, .slice none 0 0] :: Bx b6 27 [.slice none 0 0, .slice none 0 0, .slice none 0 0, .slice none 0 0, .slice none 0 0] :: L)) (listed' := #[true, true, true, true, true, true, false, false, false]) (by kernel_rfl) (by kernel_rfl) ?_
          refine TA.all1 (i := 6) (by kernel_rfl) ?_
          refine TB.of rfl ?_
          obtain ⟨yq59_6_1, hkq59_6_2, hb54⟩ := bind_some hb54
          refine TO.app (k := 7) (f := cI) kelemB_23_28_1_8_true (by decide) rfl rfl rfl (OwnS.rd (Ent.at 0 rfl)) hkq59_6_2 (fun x c hc => by simp [Value.oneCell'] at hc ⊢; first | (obtain rfl := hc; rfl) | (rcases hc with rfl <;> rfl)) rfl rfl fun vq59_6_3 => ?_
          refine TA.back (.inr (fun _ s => Sat.by [9, 2, 9, 8] 4 6 (by kernel_rfl) s)) ?_
          refine TA.asL (L' := (OwnS 28 1 vq59_5_1 (([rq59_4_1] : List Int).map cI) :: Bx bq10_5_1 43 [.pointer (some ⟨bq10_1_7, 0, none⟩), v11] :: Bx bq10_1_7 64 [v15, vq59_4_5] :: OwnS 67 4 v15 (rq59_4_2.1.1.map cTiiiiu32) :: OwnS 79 2 vq59_4_5 (rq59_4_2.1.2.map cTii) :: SN 48 4 nT48 v11 hsq59_4_7 (rq59_4_2.2) :: Bx b58 45 [I x56.1, I x56.2.1, I x56.2.2.1, I x56.2.2.2] :: OwnS 28 1 vq59_6_3 (yq59_6_1.map cI) :: Bx b22 27 [v23, .slice none 0 0, .slice none 0 0, .slice none 0 0, .slice none 0 0] :: Bx b6 27 [.slice none 0 0, .slice none 0 0, .slice none 0 0, .slice none 0 0, .slice none 0 0] :: L)) (listed' := #[true, true, true, true, true, true, true, false, false]) (by kernel_rfl) (by kernel_rfl) ?_
          refine TA.takeW 7 rfl rfl rfl rfl (StepS.fld rfl kfieldB_27_0_0_true) (by kernel_rfl) (by kernel_rfl) (by kernel_rfl) rfl (.inr (fun _ s => Sat.by [9, 2, 9, 8] 4 6 (by kernel_rfl) s)) ?_
          refine TA.all1 (i := 8) (by kernel_rfl) ?_
          refine TB.of rfl ?_
          refine TO.pure (fun _ s => Rd.one (OwnS.rd (Ent.at 7 rfl)) s) fun ocq59_8_1 => ?_
          refine TO.stB (us := [vq59_6_3]) 8 [vq59_6_3, .slice none 0 0, .slice none 0 0, .slice none 0 0, .slice none 0 0] rfl rfl rfl ksizeB_23_1_true ocq59_8_1.2 rfl rfl (by intro u hu; simp only [List.mem_cons, List.not_mem_nil, or_false] at hu; rcases hu with rfl <;> first | exact ocq59_8_1.1 | rfl) rfl ?_
          refine TA.back (.inl (by kernel_rfl)) ?_
          refine TA.asL (L' := (OwnS 28 1 vq59_5_1 (([rq59_4_1] : List Int).map cI) :: Bx bq10_5_1 43 [.pointer (some ⟨bq10_1_7, 0, none⟩), v11] :: Bx bq10_1_7 64 [v15, vq59_4_5] :: OwnS 67 4 v15 (rq59_4_2.1.1.map cTiiiiu32) :: OwnS 79 2 vq59_4_5 (rq59_4_2.1.2.map cTii) :: SN 48 4 nT48 v11 hsq59_4_7 (rq59_4_2.2) :: Bx b58 45 [I x56.1, I x56.2.1, I x56.2.2.1, I x56.2.2.2] :: OwnS 28 1 vq59_6_3 (yq59_6_1.map cI) :: Bx b22 27 [vq59_6_3, .slice none 0 0, .slice none 0 0, .slice none 0 0, .slice none 0 0] :: Bx b6 27 [.slice none 0 0, .slice none 0 0, .slice none 0 0, .slice none 0 0, .slice none 0 0] :: L)) (listed' := #[true, true, true, true, true, true, true, true, true]) (by kernel_rfl) (by kernel_rfl) ?_
          refine TA.code (by kernel_rfl) ?_
          refine TC.region ?_
          refine TO.s rfl rfl rfl (StepS.ari rfl rfl rfl) ?_
          refine TO.s rfl rfl rfl (StepS.move rfl) ?_
          cases hb54
          refine TO.nil fun a w e s => ?_
          exact ⟨vq59_6_3, vq59_4_5, hsq59_4_7, e.sub (lk_of_allIn ⟨rfl, rfl, rfl, rfl, rfl, rfl, trivial⟩), s.mono fun _ s => (by exact Sat.by [9, 3, 3, 4, 6, 9, 7, 9] 8 2 (by kernel_rfl) s)⟩
        · replace hb54 := cond_f hc55 hb54
          cases hb54
          refine TC.exit rfl fun a w e s => ?_
          exact ⟨v23, v26, hs30, e.sub (lk_of_allIn ⟨rfl, rfl, rfl, trivial⟩), s⟩
      · exact fun a w e s => ⟨.slice none 0 0, v18, hs12, e.sub (lk_of_allIn ⟨rfl, rfl, rfl, rfl, rfl, rfl, trivial⟩), s.mono fun _ s => (by replace s := Sat.nilS (e := 28) (sz := 1) (f := cI) s; exact Sat.by [7, 7, 7, 6, 6, 6, 7, 7] 8 0 (by kernel_rfl) s)⟩
      · rintro ⟨y45, y48, y49, y51⟩ rfl a w ⟨v43, v46, hs50, he, hs⟩
        dsimp only [Ctl.on] at hm
        refine TC.use ?_ he hs
        refine TC.k ?_
        refine TC.k ?_
        refine TC.region ?_
        refine TO.s rfl rfl rfl (StepS.move rfl) ?_
        refine TO.s rfl rfl rfl (StepS.nilc rfl) ?_
        refine TO.s rfl rfl rfl (StepS.fld rfl kfieldB_43_1_1_true) ?_
        refine TO.s rfl rfl rfl (StepS.ldB rfl (Ent.at 5 rfl) kscalB_41_true rfl) ?_
        refine TO.s rfl rfl rfl (StepS.lenN rfl (Ent.at 3 rfl) ksliceB_41_48_4_true rfl) ?_
        refine TO.s rfl rfl rfl (StepS.move rfl) ?_
        refine TO.code ?_
        obtain ⟨o101, hw102, hm⟩ := bind_some hm
        refine TC.loop hw102 (fun (y62, y65, y69, y72, x73) => fun a w => ∃ v60 : Value, ∃ v63 : Value, ∃ v66 : Value, ∃ hs67 : List Value, ∃ v70 : Value, Mid 94 B [(4, .pointer (some ⟨b6, 0, none⟩)), (6, .pointer (some ⟨bq10_5_1, 0, none⟩)), (7, .pointer (some ⟨b22, 0, none⟩)), (48, v11), (49, I (y49.length : Int)), (50, I x73)] (OwnS 3 1 v60 (y62.map cI) :: OwnS 3 1 v63 (y65.map cI) :: SS 36 52 2 cTii v66 hs67 (y69) :: OwnS 3 1 v70 (y72.map cI) :: OwnS 28 1 v43 (y45.map cI) :: OwnS 79 2 v46 (y48.map cTii) :: Bx b22 27 [v43, v60, v63, v66, v70] :: SN 48 4 nT48 v11 hs50 (y49) :: OwnS 67 4 v15 (y51.map cTiiiiu32) :: Bx bq10_5_1 43 [.pointer (some ⟨bq10_1_7, 0, none⟩), v11] :: Bx bq10_1_7 64 [v15, v46] :: Bx b6 27 [.slice none 0 0, .slice none 0 0, .slice none 0 0, .slice none 0 0, .slice none 0 0] :: L) a w) (fun (y90, y93, y97, y100) => fun a w => ∃ v88 : Value, ∃ v91 : Value, ∃ v94 : Value, ∃ hs95 : List Value, ∃ v98 : Value, Mid 94 B [(4, .pointer (some ⟨b6, 0, none⟩)), (7, .pointer (some ⟨b22, 0, none⟩))] (OwnS 3 1 v88 (y90.map cI) :: OwnS 3 1 v91 (y93.map cI) :: SS 36 52 2 cTii v94 hs95 (y97) :: OwnS 3 1 v98 (y100.map cI) :: OwnS 28 1 v43 (y45.map cI) :: OwnS 79 2 v46 (y48.map cTii) :: Bx b22 27 [v43, v88, v91, v94, v98] :: SN 48 4 nT48 v11 hs50 (y49) :: OwnS 67 4 v15 (y51.map cTiiiiu32) :: Bx bq10_5_1 43 [.pointer (some ⟨bq10_1_7, 0, none⟩), v11] :: Bx bq10_1_7 64 [v15, v46] :: Bx b6 27 [.slice none 0 0, .slice none 0 0, .slice none 0 0, .slice none 0 0, .slice none 0 0] :: L) a w) (fun (_ : Unit) _ _ => False) ?_ ?_ ?_ ?_
        · rintro ⟨y62, y65, y69, y72, x73⟩ o101r hb103 a w ⟨v60, v63, v66, hs67, v70, he, hs⟩
          dsimp only [F4_L1] at hb103
          refine TC.use ?_ he hs
          refine TC.k ?_
          refine TC.region ?_
          refine TO.s rfl rfl rfl (StepS.cmp rfl rfl rfl) ?_
          refine TO.code ?_
          refine TC.k ?_
          refine TC.cond rfl (fun hc104 => ?_) (fun hc104 => ?_)
          · replace hb103 := cond_t hc104 hb103
            refine TC.skipk ?_
            refine TC.k ?_
            refine TC.block ?_
            refine TC.k ?_
            refine TC.region ?_
            refine TO.s rfl rfl rfl (StepS.move rfl) ?_
            obtain ⟨x105, hx106, hb103⟩ := bind_some hb103
            refine TO.s rfl rfl rfl (StepS.idxN rfl rfl (Ent.at 7 rfl) ksliceB_41_48_4_true hx106) ?_
            refine TO.s rfl rfl rfl (StepS.ldNE (cs := [(cv (gr hs50 x73.toNat) 0), I x105.2.1, (cv (gr hs50 x73.toNat) 1), (cv (gr hs50 x73.toNat) 2)]) rfl (Ent.at 7 rfl) kaggB_48_4_true hx106 rfl rfl) ?_
            refine TO.alloc kinfo_48_bind_zero_some_agg_slice_none_0_0_I_0_slice_none_0_0_slice_none_0_0 rfl rfl fun b107 => ?_
            refine TO.s rfl rfl rfl (StepS.assign rfl) ?_
            refine TO.pure (fun _ s => Rd.one (OwnS.rd (SN.piece (Ent.at 8 rfl) hx106 0 rfl)) s) fun oc108 => ?_
            refine TO.pure (fun _ s => Rd.one (OwnS.rd (SN.piece (Ent.at 8 rfl) hx106 1 rfl)) s) fun oc109 => ?_
            refine TO.pure (fun _ s => Rd.one (OwnS.rd (SN.piece (Ent.at 8 rfl) hx106 2 rfl)) s) fun oc110 => ?_
            refine TO.stB (us := [(cv (gr hs50 x73.toNat) 0), I x105.2.1, (cv (gr hs50 x73.toNat) 1), (cv (gr hs50 x73.toNat) 2)]) 0 [(cv (gr hs50 x73.toNat) 0), I x105.2.1, (cv (gr hs50 x73.toNat) 1), (cv (gr hs50 x73.toNat) 2)] rfl rfl rfl ksizeB_48_4_true rfl rfl rfl (by intro u hu; simp only [List.mem_cons, List.not_mem_nil, or_false] at hu; rcases hu with rfl | rfl | rfl | rfl <;> first | exact oc108.1 | exact oc109.1 | exact oc110.1 | rfl) rfl ?_
            refine TO.code ?_
            refine TC.k ?_
            obtain ⟨⟨y112, y114⟩, hj116, hb103⟩ := bind_some hb103
            first | refine TC.cutM (fun a w => ∃ v113 : Value, ∃ v115 : Value, Mid 94 B [(4, .pointer (some ⟨b6, 0, none⟩)), (6, .pointer (some ⟨bq10_5_1, 0, none⟩)), (7, .pointer (some ⟨b22, 0, none⟩)), (11, .pointer (some ⟨b107, 0, none⟩)), (48, v11), (49, I (y49.length : Int)), (50, I x73)] (Bx b107 48 [(cv (gr hs50 x73.toNat) 0), I x105.2.1, (cv (gr hs50 x73.toNat) 1), (cv (gr hs50 x73.toNat) 2)] :: OwnS 3 1 v113 (y112.map cI) :: OwnS 3 1 v115 (y114.map cI) :: SS 36 52 2 cTii v66 hs67 (y69) :: OwnS 3 1 v70 (y72.map cI) :: OwnS 28 1 v43 (y45.map cI) :: OwnS 79 2 v46 (y48.map cTii) :: Bx b22 27 [v43, v113, v115, v66, v70] :: SN 48 4 nT48 v11 hs50 (y49) :: OwnS 67 4 v15 (y51.map cTiiiiu32) :: Bx bq10_5_1 43 [.pointer (some ⟨bq10_1_7, 0, none⟩), v11] :: Bx bq10_1_7 64 [v15, v46] :: Bx b6 27 [.slice none 0 0, .slice none 0 0, .slice none 0 0, .slice none 0 0, .slice none 0 0] :: L) a w) ?_ ?_ | refine TC.cutX (fun a w => ∃ v113 : Value, ∃ v115 : Value, Mid 94 B [(4, .pointer (some ⟨b6, 0, none⟩)), (6, .pointer (some ⟨bq10_5_1, 0, none⟩)), (7, .pointer (some ⟨b22, 0, none⟩)), (11, .pointer (some ⟨b107, 0, none⟩)), (48, v11), (49, I (y49.length : Int)), (50, I x73)] (Bx b107 48 [(cv (gr hs50 x73.toNat) 0), I x105.2.1, (cv (gr hs50 x73.toNat) 1), (cv (gr hs50 x73.toNat) 2)] :: OwnS 3 1 v113 (y112.map cI) :: OwnS 3 1 v115 (y114.map cI) :: SS 36 52 2 cTii v66 hs67 (y69) :: OwnS 3 1 v70 (y72.map cI) :: OwnS 28 1 v43 (y45.map cI) :: OwnS 79 2 v46 (y48.map cTii) :: Bx b22 27 [v43, v113, v115, v66, v70] :: SN 48 4 nT48 v11 hs50 (y49) :: OwnS 67 4 v15 (y51.map cTiiiiu32) :: Bx bq10_5_1 43 [.pointer (some ⟨bq10_1_7, 0, none⟩), v11] :: Bx bq10_1_7 64 [v15, v46] :: Bx b6 27 [.slice none 0 0, .slice none 0 0, .slice none 0 0, .slice none 0 0, .slice none 0 0] :: L) a w) ?_ ?_
            · obtain ⟨rq111_7_1, hcq111_7_2, hj116⟩ := bind_some hj116
              obtain ⟨yq111_9_1, hkq111_9_2, hj116⟩ := bind_some hj116
              obtain ⟨rq111_17_1, hcq111_17_2, hj116⟩ := bind_some hj116
              obtain ⟨yq111_19_1, hkq111_19_2, hj116⟩ := bind_some hj116
              refine TC.region_any (Bx b107 48 [(cv (gr hs50 x73.toNat) 0), I x105.2.1, (cv (gr hs50 x73.toNat) 1), (cv (gr hs50 x73.toNat) 2)] :: SS 36 52 2 cTii v66 hs67 (y69) :: OwnS 3 1 v70 (y72.map cI) :: OwnS 28 1 v43 (y45.map cI) :: OwnS 79 2 v46 (y48.map cTii) :: Bx b22 27 [v43, v60, v63, v66, v70] :: SN 48 4 nT48 v11 hs50 (y49) :: OwnS 67 4 v15 (y51.map cTiiiiu32) :: Bx bq10_5_1 43 [.pointer (some ⟨bq10_1_7, 0, none⟩), v11] :: Bx bq10_1_7 64 [v15, v46] :: Bx b6 27 [.slice none 0 0, .slice none 0 0, .slice none 0 0, .slice none 0 0, .slice none 0 0] :: L) 21 24 kfollows_mixedOrders_true rfl ?_
              refine TA.takeW 0 rfl rfl rfl rfl (StepS.fld rfl kfieldB_27_1_1_true) (by kernel_rfl) (by kernel_rfl) (by kernel_rfl) rfl (.inr (fun _ s => Sat.by [12, 12, 12, 12, 12, 12, 12, 12, 12, 12, 10] 11 2 (by kernel_rfl) s)) ?_
              refine TA.take 1 rfl rfl rfl rfl (StepS.ldB rfl (Ent.at 5 rfl) kscalB_24_true rfl) (by kernel_rfl) (by kernel_rfl) (by kernel_rfl) (by kernel_rfl) (by kernel_rfl) (fun _ s => Sat.by [12, 12, 12, 12, 12, 12, 12, 12, 12, 12, 10] 11 2 (by kernel_rfl) s) ?_
              refine TA.takeW 2 rfl rfl rfl rfl (StepS.move rfl) (by kernel_rfl) (by kernel_rfl) (by kernel_rfl) rfl (.inr (fun _ s => Sat.by [12, 12, 12, 12, 12, 12, 12, 12, 12, 12, 10] 11 2 (by kernel_rfl) s)) ?_
              refine TA.takeW 3 rfl rfl rfl rfl (StepS.nilc rfl) (by kernel_rfl) (by kernel_rfl) (by kernel_rfl) rfl (.inr (fun _ s => Sat.by [12, 12, 12, 12, 12, 12, 12, 12, 12, 12, 10] 11 2 (by kernel_rfl) s)) ?_
              refine TA.takeW 4 rfl rfl rfl rfl (StepS.fld rfl kfieldB_43_0_0_true) (by kernel_rfl) (by kernel_rfl) (by kernel_rfl) rfl (.inr (fun _ s => Sat.by [12, 12, 12, 12, 12, 12, 12, 12, 12, 12, 10] 11 2 (by kernel_rfl) s)) ?_
              refine TA.take 5 rfl rfl rfl rfl (StepS.ldB rfl (Ent.at 8 rfl) kscalB_39_true rfl) (by kernel_rfl) (by kernel_rfl) (by kernel_rfl) (by kernel_rfl) (by kernel_rfl) (fun _ s => Sat.by [12, 12, 12, 12, 12, 12, 12, 12, 12, 12, 10] 11 2 (by kernel_rfl) s) ?_
              refine TA.takeW 6 rfl rfl rfl rfl (StepS.move rfl) (by kernel_rfl) (by kernel_rfl) (by kernel_rfl) rfl (.inr (fun _ s => Sat.by [12, 12, 12, 12, 12, 12, 12, 12, 12, 12, 10] 11 2 (by kernel_rfl) s)) ?_
              refine TA.takeW 10 rfl rfl rfl rfl (StepS.fld rfl kfieldB_27_2_2_true) (by kernel_rfl) (by kernel_rfl) (by kernel_rfl) rfl (.inr (fun _ s => Sat.by [12, 12, 12, 12, 12, 12, 12, 12, 12, 12, 10] 11 2 (by kernel_rfl) s)) ?_
              refine TA.take 11 rfl rfl rfl rfl (StepS.ldB rfl (Ent.at 5 rfl) kscalB_24_true rfl) (by kernel_rfl) (by kernel_rfl) (by kernel_rfl) (by kernel_rfl) (by kernel_rfl) (fun _ s => Sat.by [12, 12, 12, 12, 12, 12, 12, 12, 12, 12, 10] 11 2 (by kernel_rfl) s) ?_
              refine TA.takeW 12 rfl rfl rfl rfl (StepS.move rfl) (by kernel_rfl) (by kernel_rfl) (by kernel_rfl) rfl (.inr (fun _ s => Sat.by [12, 12, 12, 12, 12, 12, 12, 12, 12, 12, 10] 11 2 (by kernel_rfl) s)) ?_
              refine TA.takeW 13 rfl rfl rfl rfl (StepS.nilc rfl) (by kernel_rfl) (by kernel_rfl) (by kernel_rfl) rfl (.inr (fun _ s => Sat.by [12, 12, 12, 12, 12, 12, 12, 12, 12, 12, 10] 11 2 (by kernel_rfl) s)) ?_
              refine TA.takeW 14 rfl rfl rfl rfl (StepS.fld rfl kfieldB_43_0_0_true) (by kernel_rfl) (by kernel_rfl) (by kernel_rfl) rfl (.inr (fun _ s => Sat.by [12, 12, 12, 12, 12, 12, 12, 12, 12, 12, 10] 11 2 (by kernel_rfl) s)) ?_
              refine TA.takeW 16 rfl rfl rfl rfl (StepS.move rfl) (by kernel_rfl) (by kernel_rfl) (by kernel_rfl) rfl (.inr (fun _ s => Sat.by [12, 12, 12, 12, 12, 12, 12, 12, 12, 12, 10] 11 2 (by kernel_rfl) s)) ?_
              refine TA.all2 (i := 7) (j := 15) (by kernel_rfl) ?_ ?_
              · refine TB.of rfl ?_
                refine TO.q rfl rfl rfl (StepQ.call kcallB_12_true rfl rfl (fun _ st => C12 (Ent.at 11 rfl) (OwnS.rd (Ent.at 9 rfl)) (OwnS.rd (Ent.at 6 rfl)) hcq111_7_2 st)) ?_
                refine TA.back (.inr (fun _ s => Sat.by [12, 12, 12, 12, 12, 12, 12, 12, 12, 12, 10] 11 2 (by kernel_rfl) s)) ?_
                refine TA.asL (L' := (Bx b107 48 [(cv (gr hs50 x73.toNat) 0), I x105.2.1, (cv (gr hs50 x73.toNat) 1), (cv (gr hs50 x73.toNat) 2)] :: OwnS 3 1 v60 (y62.map cI) :: OwnS 3 1 v63 (y65.map cI) :: SS 36 52 2 cTii v66 hs67 (y69) :: OwnS 3 1 v70 (y72.map cI) :: OwnS 28 1 v43 (y45.map cI) :: OwnS 79 2 v46 (y48.map cTii) :: Bx b22 27 [v43, v60, v63, v66, v70] :: SN 48 4 nT48 v11 hs50 (y49) :: OwnS 67 4 v15 (y51.map cTiiiiu32) :: Bx bq10_5_1 43 [.pointer (some ⟨bq10_1_7, 0, none⟩), v11] :: Bx bq10_1_7 64 [v15, v46] :: Bx b6 27 [.slice none 0 0, .slice none 0 0, .slice none 0 0, .slice none 0 0, .slice none 0 0] :: L)) (listed' := #[true, true, true, true, true, true, true, true, false, false, true, true, true, true, true, false, true, false, false, false, false, false, false, false]) (by kernel_rfl) (by kernel_rfl) ?_
                refine TA.all2 (i := 8) (j := 15) (by kernel_rfl) ?_ ?_
                · refine TB.of rfl ?_
                  refine TO.litS (f := cI) ([rq111_7_1] : List Int) kelemB_24_3_1_8_true kinfo_3_bind_zero_some_I_0 rfl rfl (fun _ => rfl) rfl rfl (by kernel_rfl) rfl fun vq111_8_1 => ?_
                  refine TA.back (.inr (fun _ s => Sat.by [13, 13, 13, 13, 13, 13, 13, 13, 13, 13, 11] 11 3 (by kernel_rfl) s)) ?_
                  refine TA.asL (L' := (OwnS 3 1 vq111_8_1 (([rq111_7_1] : List Int).map cI) :: Bx b107 48 [(cv (gr hs50 x73.toNat) 0), I x105.2.1, (cv (gr hs50 x73.toNat) 1), (cv (gr hs50 x73.toNat) 2)] :: OwnS 3 1 v60 (y62.map cI) :: OwnS 3 1 v63 (y65.map cI) :: SS 36 52 2 cTii v66 hs67 (y69) :: OwnS 3 1 v70 (y72.map cI) :: OwnS 28 1 v43 (y45.map cI) :: OwnS 79 2 v46 (y48.map cTii) :: Bx b22 27 [v43, v60, v63, v66, v70] :: SN 48 4 nT48 v11 hs50 (y49) :: OwnS 67 4 v15 (y51.map cTiiiiu32) :: Bx bq10_5_1 43 [.pointer (some ⟨bq10_1_7, 0, none⟩), v11] :: Bx bq10_1_7 64 [v15, v46] :: Bx b6 27 [.slice none 0 0, .slice none 0 0, .slice none 0 0, .slice none 0 0, .slice none 0 0] :: L)) (listed' := #[true, true, true, true, true, true, true, true, true, false, true, true, true, true, true, false, true, false, false, false, false, false, false, false]) (by kernel_rfl) (by kernel_rfl) ?_
                  refine TA.all2 (i := 9) (j := 15) (by kernel_rfl) ?_ ?_
                  · refine TB.of rfl ?_
                    refine TO.app (k := 2) (f := cI) kelemB_24_3_1_8_true (by decide) rfl rfl rfl (OwnS.rd (Ent.at 0 rfl)) hkq111_9_2 (fun x c hc => by simp [Value.oneCell'] at hc ⊢; first | (obtain rfl := hc; rfl) | (rcases hc with rfl <;> rfl)) rfl rfl fun vq111_9_3 => ?_
                    refine TA.back (.inr (fun _ s => Sat.by [13, 13, 13, 13, 13, 13, 13, 13, 13, 13, 11] 11 3 (by kernel_rfl) s)) ?_
                    refine TA.asL (L' := (OwnS 3 1 vq111_8_1 (([rq111_7_1] : List Int).map cI) :: Bx b107 48 [(cv (gr hs50 x73.toNat) 0), I x105.2.1, (cv (gr hs50 x73.toNat) 1), (cv (gr hs50 x73.toNat) 2)] :: OwnS 3 1 vq111_9_3 (yq111_9_1.map cI) :: OwnS 3 1 v63 (y65.map cI) :: SS 36 52 2 cTii v66 hs67 (y69) :: OwnS 3 1 v70 (y72.map cI) :: OwnS 28 1 v43 (y45.map cI) :: OwnS 79 2 v46 (y48.map cTii) :: Bx b22 27 [v43, v60, v63, v66, v70] :: SN 48 4 nT48 v11 hs50 (y49) :: OwnS 67 4 v15 (y51.map cTiiiiu32) :: Bx bq10_5_1 43 [.pointer (some ⟨bq10_1_7, 0, none⟩), v11] :: Bx bq10_1_7 64 [v15, v46] :: Bx b6 27 [.slice none 0 0, .slice none 0 0, .slice none 0 0, .slice none 0 0, .slice none 0 0] :: L)) (listed' := #[true, true, true, true, true, true, true, true, true, true, true, true, true, true, true, false, true, false, false, false, false, false, false, false]) (by kernel_rfl) (by kernel_rfl) ?_
                    refine TA.takeW 20 rfl rfl rfl rfl (StepS.fld rfl kfieldB_27_1_1_true) (by kernel_rfl) (by kernel_rfl) (by kernel_rfl) rfl (.inr (fun _ s => Sat.by [13, 13, 13, 13, 13, 13, 13, 13, 13, 13, 11] 11 3 (by kernel_rfl) s)) ?_
                    refine TA.all1 (i := 15) (by kernel_rfl) ?_
                    refine TB.of rfl ?_
                    refine TO.s rfl rfl rfl (StepS.ldB rfl (Ent.at 11 rfl) kscalB_39_true rfl) ?_
                    refine TA.back (.inr (fun _ s => Sat.by [13, 13, 13, 13, 13, 13, 13, 13, 13, 13, 11] 11 3 (by kernel_rfl) s)) ?_
                    refine TA.asL (L' := (OwnS 3 1 vq111_8_1 (([rq111_7_1] : List Int).map cI) :: Bx b107 48 [(cv (gr hs50 x73.toNat) 0), I x105.2.1, (cv (gr hs50 x73.toNat) 1), (cv (gr hs50 x73.toNat) 2)] :: OwnS 3 1 vq111_9_3 (yq111_9_1.map cI) :: OwnS 3 1 v63 (y65.map cI) :: SS 36 52 2 cTii v66 hs67 (y69) :: OwnS 3 1 v70 (y72.map cI) :: OwnS 28 1 v43 (y45.map cI) :: OwnS 79 2 v46 (y48.map cTii) :: Bx b22 27 [v43, v60, v63, v66, v70] :: SN 48 4 nT48 v11 hs50 (y49) :: OwnS 67 4 v15 (y51.map cTiiiiu32) :: Bx bq10_5_1 43 [.pointer (some ⟨bq10_1_7, 0, none⟩), v11] :: Bx bq10_1_7 64 [v15, v46] :: Bx b6 27 [.slice none 0 0, .slice none 0 0, .slice none 0 0, .slice none 0 0, .slice none 0 0] :: L)) (listed' := #[true, true, true, true, true, true, true, true, true, true, true, true, true, true, true, true, true, false, false, false, true, false, false, false]) (by kernel_rfl) (by kernel_rfl) ?_
                    refine TA.all1 (i := 17) (by kernel_rfl) ?_
                    refine TB.of rfl ?_
                    refine TO.q rfl rfl rfl (StepQ.call kcallB_13_true rfl rfl (fun _ st => C13 (Ent.at 12 rfl) (OwnS.rd (Ent.at 10 rfl)) (OwnS.rd (Ent.at 7 rfl)) hcq111_17_2 st)) ?_
                    refine TA.back (.inr (fun _ s => Sat.by [13, 13, 13, 13, 13, 13, 13, 13, 13, 13, 11] 11 3 (by kernel_rfl) s)) ?_
                    refine TA.asL (L' := (OwnS 3 1 vq111_8_1 (([rq111_7_1] : List Int).map cI) :: Bx b107 48 [(cv (gr hs50 x73.toNat) 0), I x105.2.1, (cv (gr hs50 x73.toNat) 1), (cv (gr hs50 x73.toNat) 2)] :: OwnS 3 1 vq111_9_3 (yq111_9_1.map cI) :: OwnS 3 1 v63 (y65.map cI) :: SS 36 52 2 cTii v66 hs67 (y69) :: OwnS 3 1 v70 (y72.map cI) :: OwnS 28 1 v43 (y45.map cI) :: OwnS 79 2 v46 (y48.map cTii) :: Bx b22 27 [v43, v60, v63, v66, v70] :: SN 48 4 nT48 v11 hs50 (y49) :: OwnS 67 4 v15 (y51.map cTiiiiu32) :: Bx bq10_5_1 43 [.pointer (some ⟨bq10_1_7, 0, none⟩), v11] :: Bx bq10_1_7 64 [v15, v46] :: Bx b6 27 [.slice none 0 0, .slice none 0 0, .slice none 0 0, .slice none 0 0, .slice none 0 0] :: L)) (listed' := #[true, true, true, true, true, true, true, true, true, true, true, true, true, true, true, true, true, true, false, false, true, false, false, false]) (by kernel_rfl) (by kernel_rfl) ?_
                    refine TA.all1 (i := 18) (by kernel_rfl) ?_
                    refine TB.of rfl ?_
                    refine TO.litS (f := cI) ([rq111_17_1] : List Int) kelemB_24_3_1_8_true kinfo_3_bind_zero_some_I_0 rfl rfl (fun _ => rfl) rfl rfl (by kernel_rfl) rfl fun vq111_18_1 => ?_
                    refine TA.back (.inr (fun _ s => Sat.by [14, 14, 14, 14, 14, 14, 14, 14, 14, 14, 12] 11 4 (by kernel_rfl) s)) ?_
                    refine TA.asL (L' := (OwnS 3 1 vq111_18_1 (([rq111_17_1] : List Int).map cI) :: OwnS 3 1 vq111_8_1 (([rq111_7_1] : List Int).map cI) :: Bx b107 48 [(cv (gr hs50 x73.toNat) 0), I x105.2.1, (cv (gr hs50 x73.toNat) 1), (cv (gr hs50 x73.toNat) 2)] :: OwnS 3 1 vq111_9_3 (yq111_9_1.map cI) :: OwnS 3 1 v63 (y65.map cI) :: SS 36 52 2 cTii v66 hs67 (y69) :: OwnS 3 1 v70 (y72.map cI) :: OwnS 28 1 v43 (y45.map cI) :: OwnS 79 2 v46 (y48.map cTii) :: Bx b22 27 [v43, v60, v63, v66, v70] :: SN 48 4 nT48 v11 hs50 (y49) :: OwnS 67 4 v15 (y51.map cTiiiiu32) :: Bx bq10_5_1 43 [.pointer (some ⟨bq10_1_7, 0, none⟩), v11] :: Bx bq10_1_7 64 [v15, v46] :: Bx b6 27 [.slice none 0 0, .slice none 0 0, .slice none 0 0, .slice none 0 0, .slice none 0 0] :: L)) (listed' := #[true, true, true, true, true, true, true, true, true, true, true, true, true, true, true, true, true, true, true, false, true, false, false, false]) (by kernel_rfl) (by kernel_rfl) ?_
                    refine TA.all1 (i := 19) (by kernel_rfl) ?_
                    refine TB.of rfl ?_
                    refine TO.app (k := 4) (f := cI) kelemB_24_3_1_8_true (by decide) rfl rfl rfl (OwnS.rd (Ent.at 0 rfl)) hkq111_19_2 (fun x c hc => by simp [Value.oneCell'] at hc ⊢; first | (obtain rfl := hc; rfl) | (rcases hc with rfl <;> rfl)) rfl rfl fun vq111_19_3 => ?_
                    refine TA.back (.inr (fun _ s => Sat.by [14, 14, 14, 14, 14, 14, 14, 14, 14, 14, 12] 11 4 (by kernel_rfl) s)) ?_
                    refine TA.asL (L' := (OwnS 3 1 vq111_18_1 (([rq111_17_1] : List Int).map cI) :: OwnS 3 1 vq111_8_1 (([rq111_7_1] : List Int).map cI) :: Bx b107 48 [(cv (gr hs50 x73.toNat) 0), I x105.2.1, (cv (gr hs50 x73.toNat) 1), (cv (gr hs50 x73.toNat) 2)] :: OwnS 3 1 vq111_9_3 (yq111_9_1.map cI) :: OwnS 3 1 vq111_19_3 (yq111_19_1.map cI) :: SS 36 52 2 cTii v66 hs67 (y69) :: OwnS 3 1 v70 (y72.map cI) :: OwnS 28 1 v43 (y45.map cI) :: OwnS 79 2 v46 (y48.map cTii) :: Bx b22 27 [v43, v60, v63, v66, v70] :: SN 48 4 nT48 v11 hs50 (y49) :: OwnS 67 4 v15 (y51.map cTiiiiu32) :: Bx bq10_5_1 43 [.pointer (some ⟨bq10_1_7, 0, none⟩), v11] :: Bx bq10_1_7 64 [v15, v46] :: Bx b6 27 [.slice none 0 0, .slice none 0 0, .slice none 0 0, .slice none 0 0, .slice none 0 0] :: L)) (listed' := #[true, true, true, true, true, true, true, true, true, true, true, true, true, true, true, true, true, true, true, true, true, false, false, false]) (by kernel_rfl) (by kernel_rfl) ?_
                    refine TA.all1 (i := 21) (by kernel_rfl) ?_
                    refine TB.of rfl ?_
                    refine TO.pure (fun _ s => Rd.one (OwnS.rd (Ent.at 3 rfl)) s) fun ocq111_21_1 => ?_
                    refine TO.stB (us := [vq111_9_3]) 9 [v43, vq111_9_3, v63, v66, v70] rfl rfl rfl ksizeB_24_1_true ocq111_21_1.2 rfl rfl (by intro u hu; simp only [List.mem_cons, List.not_mem_nil, or_false] at hu; rcases hu with rfl <;> first | exact ocq111_21_1.1 | rfl) rfl ?_
                    refine TA.back (.inl (by kernel_rfl)) ?_
                    refine TA.asL (L' := (OwnS 3 1 vq111_18_1 (([rq111_17_1] : List Int).map cI) :: OwnS 3 1 vq111_8_1 (([rq111_7_1] : List Int).map cI) :: Bx b107 48 [(cv (gr hs50 x73.toNat) 0), I x105.2.1, (cv (gr hs50 x73.toNat) 1), (cv (gr hs50 x73.toNat) 2)] :: OwnS 3 1 vq111_9_3 (yq111_9_1.map cI) :: OwnS 3 1 vq111_19_3 (yq111_19_1.map cI) :: SS 36 52 2 cTii v66 hs67 (y69) :: OwnS 3 1 v70 (y72.map cI) :: OwnS 28 1 v43 (y45.map cI) :: OwnS 79 2 v46 (y48.map cTii) :: Bx b22 27 [v43, vq111_9_3, v63, v66, v70] :: SN 48 4 nT48 v11 hs50 (y49) :: OwnS 67 4 v15 (y51.map cTiiiiu32) :: Bx bq10_5_1 43 [.pointer (some ⟨bq10_1_7, 0, none⟩), v11] :: Bx bq10_1_7 64 [v15, v46] :: Bx b6 27 [.slice none 0 0, .slice none 0 0, .slice none 0 0, .slice none 0 0, .slice none 0 0] :: L)) (listed' := #[true, true, true, true, true, true, true, true, true, true, true, true, true, true, true, true, true, true, true, true, true, true, false, false]) (by kernel_rfl) (by kernel_rfl) ?_
                    refine TA.takeW 22 rfl rfl rfl rfl (StepS.fld rfl kfieldB_27_2_2_true) (by kernel_rfl) (by kernel_rfl) (by kernel_rfl) rfl (.inl (by kernel_rfl)) ?_
                    refine TA.all1 (i := 23) (by kernel_rfl) ?_
                    refine TB.of rfl ?_
                    refine TO.pure (fun _ s => Rd.one (OwnS.rd (Ent.at 4 rfl)) s) fun ocq111_23_1 => ?_
                    refine TO.stB (us := [vq111_19_3]) 9 [v43, vq111_9_3, vq111_19_3, v66, v70] rfl rfl rfl ksizeB_24_1_true ocq111_23_1.2 rfl rfl (by intro u hu; simp only [List.mem_cons, List.not_mem_nil, or_false] at hu; rcases hu with rfl <;> first | exact ocq111_23_1.1 | rfl) rfl ?_
                    refine TA.back (.inl (by kernel_rfl)) ?_
                    refine TA.asL (L' := (OwnS 3 1 vq111_18_1 (([rq111_17_1] : List Int).map cI) :: OwnS 3 1 vq111_8_1 (([rq111_7_1] : List Int).map cI) :: Bx b107 48 [(cv (gr hs50 x73.toNat) 0), I x105.2.1, (cv (gr hs50 x73.toNat) 1), (cv (gr hs50 x73.toNat) 2)] :: OwnS 3 1 vq111_9_3 (yq111_9_1.map cI) :: OwnS 3 1 vq111_19_3 (yq111_19_1.map cI) :: SS 36 52 2 cTii v66 hs67 (y69) :: OwnS 3 1 v70 (y72.map cI) :: OwnS 28 1 v43 (y45.map cI) :: OwnS 79 2 v46 (y48.map cTii) :: Bx b22 27 [v43, vq111_9_3, vq111_19_3, v66, v70] :: SN 48 4 nT48 v11 hs50 (y49) :: OwnS 67 4 v15 (y51.map cTiiiiu32) :: Bx bq10_5_1 43 [.pointer (some ⟨bq10_1_7, 0, none⟩), v11] :: Bx bq10_1_7 64 [v15, v46] :: Bx b6 27 [.slice none 0 0, .slice none 0 0, .slice none 0 0, .slice none 0 0, .slice none 0 0] :: L)) (listed' := #[true, true, true, true, true, true, true, true, true, true, true, true, true, true, true, true, true, true, true, true, true, true, true, true]) (by kernel_rfl) (by kernel_rfl) ?_
                    cases hj116
                    refine TA.nil (by kernel_rfl) fun a w e s => ?_
                    exact ⟨vq111_9_3, vq111_19_3, e.sub (lk_of_allIn ⟨rfl, rfl, rfl, rfl, rfl, rfl, rfl, trivial⟩), s.mono fun _ => Sat.dropN 2⟩
                  · refine TB.of rfl ?_
                    refine TO.s rfl rfl rfl (StepS.ldB rfl (Ent.at 11 rfl) kscalB_39_true rfl) ?_
                    refine TA.back (.inr (fun _ s => Sat.by [13, 13, 13, 13, 13, 13, 13, 13, 13, 13, 11] 11 3 (by kernel_rfl) s)) ?_
                    refine TA.asL (L' := (OwnS 3 1 vq111_8_1 (([rq111_7_1] : List Int).map cI) :: Bx b107 48 [(cv (gr hs50 x73.toNat) 0), I x105.2.1, (cv (gr hs50 x73.toNat) 1), (cv (gr hs50 x73.toNat) 2)] :: OwnS 3 1 v60 (y62.map cI) :: OwnS 3 1 v63 (y65.map cI) :: SS 36 52 2 cTii v66 hs67 (y69) :: OwnS 3 1 v70 (y72.map cI) :: OwnS 28 1 v43 (y45.map cI) :: OwnS 79 2 v46 (y48.map cTii) :: Bx b22 27 [v43, v60, v63, v66, v70] :: SN 48 4 nT48 v11 hs50 (y49) :: OwnS 67 4 v15 (y51.map cTiiiiu32) :: Bx bq10_5_1 43 [.pointer (some ⟨bq10_1_7, 0, none⟩), v11] :: Bx bq10_1_7 64 [v15, v46] :: Bx b6 27 [.slice none 0 0, .slice none 0 0, .slice none 0 0, .slice none 0 0, .slice none 0 0] :: L)) (listed' := #[true, true, true, true, true, true, true, true, true, false, true, true, true, true, true, true, true, false, false, false, false, false, false, false]) (by kernel_rfl) (by kernel_rfl) ?_
                    refine TA.all1 (i := 9) (by kernel_rfl) ?_
                    refine TB.of rfl ?_
                    refine TO.app (k := 2) (f := cI) kelemB_24_3_1_8_true (by decide) rfl rfl rfl (OwnS.rd (Ent.at 0 rfl)) hkq111_9_2 (fun x c hc => by simp [Value.oneCell'] at hc ⊢; first | (obtain rfl := hc; rfl) | (rcases hc with rfl <;> rfl)) rfl rfl fun vq111_9_3 => ?_
                    refine TA.back (.inr (fun _ s => Sat.by [13, 13, 13, 13, 13, 13, 13, 13, 13, 13, 11] 11 3 (by kernel_rfl) s)) ?_
                    refine TA.asL (L' := (OwnS 3 1 vq111_8_1 (([rq111_7_1] : List Int).map cI) :: Bx b107 48 [(cv (gr hs50 x73.toNat) 0), I x105.2.1, (cv (gr hs50 x73.toNat) 1), (cv (gr hs50 x73.toNat) 2)] :: OwnS 3 1 vq111_9_3 (yq111_9_1.map cI) :: OwnS 3 1 v63 (y65.map cI) :: SS 36 52 2 cTii v66 hs67 (y69) :: OwnS 3 1 v70 (y72.map cI) :: OwnS 28 1 v43 (y45.map cI) :: OwnS 79 2 v46 (y48.map cTii) :: Bx b22 27 [v43, v60, v63, v66, v70] :: SN 48 4 nT48 v11 hs50 (y49) :: OwnS 67 4 v15 (y51.map cTiiiiu32) :: Bx bq10_5_1 43 [.pointer (some ⟨bq10_1_7, 0, none⟩), v11] :: Bx bq10_1_7 64 [v15, v46] :: Bx b6 27 [.slice none 0 0, .slice none 0 0, .slice none 0 0, .slice none 0 0, .slice none 0 0] :: L)) (listed' := #[true, true, true, true, true, true, true, true, true, true, true, true, true, true, true, true, true, false, false, false, false, false, false, false]) (by kernel_rfl) (by kernel_rfl) ?_
                    refine TA.takeW 20 rfl rfl rfl rfl (StepS.fld rfl kfieldB_27_1_1_true) (by kernel_rfl) (by kernel_rfl) (by kernel_rfl) rfl (.inr (fun _ s => Sat.by [13, 13, 13, 13, 13, 13, 13, 13, 13, 13, 11] 11 3 (by kernel_rfl) s)) ?_
                    refine TA.all1 (i := 17) (by kernel_rfl) ?_
                    refine TB.of rfl ?_
                    refine TO.q rfl rfl rfl (StepQ.call kcallB_13_true rfl rfl (fun _ st => C13 (Ent.at 12 rfl) (OwnS.rd (Ent.at 10 rfl)) (OwnS.rd (Ent.at 7 rfl)) hcq111_17_2 st)) ?_
                    refine TA.back (.inr (fun _ s => Sat.by [13, 13, 13, 13, 13, 13, 13, 13, 13, 13, 11] 11 3 (by kernel_rfl) s)) ?_
                    refine TA.asL (L' := (OwnS 3 1 vq111_8_1 (([rq111_7_1] : List Int).map cI) :: Bx b107 48 [(cv (gr hs50 x73.toNat) 0), I x105.2.1, (cv (gr hs50 x73.toNat) 1), (cv (gr hs50 x73.toNat) 2)] :: OwnS 3 1 vq111_9_3 (yq111_9_1.map cI) :: OwnS 3 1 v63 (y65.map cI) :: SS 36 52 2 cTii v66 hs67 (y69) :: OwnS 3 1 v70 (y72.map cI) :: OwnS 28 1 v43 (y45.map cI) :: OwnS 79 2 v46 (y48.map cTii) :: Bx b22 27 [v43, v60, v63, v66, v70] :: SN 48 4 nT48 v11 hs50 (y49) :: OwnS 67 4 v15 (y51.map cTiiiiu32) :: Bx bq10_5_1 43 [.pointer (some ⟨bq10_1_7, 0, none⟩), v11] :: Bx bq10_1_7 64 [v15, v46] :: Bx b6 27 [.slice none 0 0, .slice none 0 0, .slice none 0 0, .slice none 0 0, .slice none 0 0] :: L)) (listed' := #[true, true, true, true, true, true, true, true, true, true, true, true, true, true, true, true, true, true, false, false, true, false, false, false]) (by kernel_rfl) (by kernel_rfl) ?_
                    refine TA.all1 (i := 18) (by kernel_rfl) ?_
                    refine TB.of rfl ?_
                    refine TO.litS (f := cI) ([rq111_17_1] : List Int) kelemB_24_3_1_8_true kinfo_3_bind_zero_some_I_0 rfl rfl (fun _ => rfl) rfl rfl (by kernel_rfl) rfl fun vq111_18_1 => ?_
                    refine TA.back (.inr (fun _ s => Sat.by [14, 14, 14, 14, 14, 14, 14, 14, 14, 14, 12] 11 4 (by kernel_rfl) s)) ?_
                    refine TA.asL (L' := (OwnS 3 1 vq111_18_1 (([rq111_17_1] : List Int).map cI) :: OwnS 3 1 vq111_8_1 (([rq111_7_1] : List Int).map cI) :: Bx b107 48 [(cv (gr hs50 x73.toNat) 0), I x105.2.1, (cv (gr hs50 x73.toNat) 1), (cv (gr hs50 x73.toNat) 2)] :: OwnS 3 1 vq111_9_3 (yq111_9_1.map cI) :: OwnS 3 1 v63 (y65.map cI) :: SS 36 52 2 cTii v66 hs67 (y69) :: OwnS 3 1 v70 (y72.map cI) :: OwnS 28 1 v43 (y45.map cI) :: OwnS 79 2 v46 (y48.map cTii) :: Bx b22 27 [v43, v60, v63, v66, v70] :: SN 48 4 nT48 v11 hs50 (y49) :: OwnS 67 4 v15 (y51.map cTiiiiu32) :: Bx bq10_5_1 43 [.pointer (some ⟨bq10_1_7, 0, none⟩), v11] :: Bx bq10_1_7 64 [v15, v46] :: Bx b6 27 [.slice none 0 0, .slice none 0 0, .slice none 0 0, .slice none 0 0, .slice none 0 0] :: L)) (listed' := #[true, true, true, true, true, true, true, true, true, true, true, true, true, true, true, true, true, true, true, false, true, false, false, false]) (by kernel_rfl) (by kernel_rfl) ?_
                    refine TA.all1 (i := 19) (by kernel_rfl) ?_
                    refine TB.of rfl ?_
                    refine TO.app (k := 4) (f := cI) kelemB_24_3_1_8_true (by decide) rfl rfl rfl (OwnS.rd (Ent.at 0 rfl)) hkq111_19_2 (fun x c hc => by simp [Value.oneCell'] at hc ⊢; first | (obtain rfl := hc; rfl) | (rcases hc with rfl <;> rfl)) rfl rfl fun vq111_19_3 => ?_
                    refine TA.back (.inr (fun _ s => Sat.by [14, 14, 14, 14, 14, 14, 14, 14, 14, 14, 12] 11 4 (by kernel_rfl) s)) ?_
                    refine TA.asL (L' := (OwnS 3 1 vq111_18_1 (([rq111_17_1] : List Int).map cI) :: OwnS 3 1 vq111_8_1 (([rq111_7_1] : List Int).map cI) :: Bx b107 48 [(cv (gr hs50 x73.toNat) 0), I x105.2.1, (cv (gr hs50 x73.toNat) 1), (cv (gr hs50 x73.toNat) 2)] :: OwnS 3 1 vq111_9_3 (yq111_9_1.map cI) :: OwnS 3 1 vq111_19_3 (yq111_19_1.map cI) :: SS 36 52 2 cTii v66 hs67 (y69) :: OwnS 3 1 v70 (y72.map cI) :: OwnS 28 1 v43 (y45.map cI) :: OwnS 79 2 v46 (y48.map cTii) :: Bx b22 27 [v43, v60, v63, v66, v70] :: SN 48 4 nT48 v11 hs50 (y49) :: OwnS 67 4 v15 (y51.map cTiiiiu32) :: Bx bq10_5_1 43 [.pointer (some ⟨bq10_1_7, 0, none⟩), v11] :: Bx bq10_1_7 64 [v15, v46] :: Bx b6 27 [.slice none 0 0, .slice none 0 0, .slice none 0 0, .slice none 0 0, .slice none 0 0] :: L)) (listed' := #[true, true, true, true, true, true, true, true, true, true, true, true, true, true, true, true, true, true, true, true, true, false, false, false]) (by kernel_rfl) (by kernel_rfl) ?_
                    refine TA.all1 (i := 21) (by kernel_rfl) ?_
                    refine TB.of rfl ?_
                    refine TO.pure (fun _ s => Rd.one (OwnS.rd (Ent.at 3 rfl)) s) fun ocq111_21_1 => ?_
                    refine TO.stB (us := [vq111_9_3]) 9 [v43, vq111_9_3, v63, v66, v70] rfl rfl rfl ksizeB_24_1_true ocq111_21_1.2 rfl rfl (by intro u hu; simp only [List.mem_cons, List.not_mem_nil, or_false] at hu; rcases hu with rfl <;> first | exact ocq111_21_1.1 | rfl) rfl ?_
                    refine TA.back (.inl (by kernel_rfl)) ?_
                    refine TA.asL (L' := (OwnS 3 1 vq111_18_1 (([rq111_17_1] : List Int).map cI) :: OwnS 3 1 vq111_8_1 (([rq111_7_1] : List Int).map cI) :: Bx b107 48 [(cv (gr hs50 x73.toNat) 0), I x105.2.1, (cv (gr hs50 x73.toNat) 1), (cv (gr hs50 x73.toNat) 2)] :: OwnS 3 1 vq111_9_3 (yq111_9_1.map cI) :: OwnS 3 1 vq111_19_3 (yq111_19_1.map cI) :: SS 36 52 2 cTii v66 hs67 (y69) :: OwnS 3 1 v70 (y72.map cI) :: OwnS 28 1 v43 (y45.map cI) :: OwnS 79 2 v46 (y48.map cTii) :: Bx b22 27 [v43, vq111_9_3, v63, v66, v70] :: SN 48 4 nT48 v11 hs50 (y49) :: OwnS 67 4 v15 (y51.map cTiiiiu32) :: Bx bq10_5_1 43 [.pointer (some ⟨bq10_1_7, 0, none⟩), v11] :: Bx bq10_1_7 64 [v15, v46] :: Bx b6 27 [.slice none 0 0, .slice none 0 0, .slice none 0 0, .slice none 0 0, .slice none 0 0] :: L)) (listed' := #[true, true, true, true, true, true, true, true, true, true, true, true, true, true, true, true, true, true, true, true, true, true, false, false]) (by kernel_rfl) (by kernel_rfl) ?_
                    refine TA.takeW 22 rfl rfl rfl rfl (StepS.fld rfl kfieldB_27_2_2_true) (by kernel_rfl) (by kernel_rfl) (by kernel_rfl) rfl (.inl (by kernel_rfl)) ?_
                    refine TA.all1 (i := 23) (by kernel_rfl) ?_
                    refine TB.of rfl ?_
                    refine TO.pure (fun _ s => Rd.one (OwnS.rd (Ent.at 4 rfl)) s) fun ocq111_23_1 => ?_
                    refine TO.stB (us := [vq111_19_3]) 9 [v43, vq111_9_3, vq111_19_3, v66, v70] rfl rfl rfl ksizeB_24_1_true ocq111_23_1.2 rfl rfl (by intro u hu; simp only [List.mem_cons, List.not_mem_nil, or_false] at hu; rcases hu with rfl <;> first | exact ocq111_23_1.1 | rfl) rfl ?_
                    refine TA.back (.inl (by kernel_rfl)) ?_
                    refine TA.asL (L' := (OwnS 3 1 vq111_18_1 (([rq111_17_1] : List Int).map cI) :: OwnS 3 1 vq111_8_1 (([rq111_7_1] : List Int).map cI) :: Bx b107 48 [(cv (gr hs50 x73.toNat) 0), I x105.2.1, (cv (gr hs50 x73.toNat) 1), (cv (gr hs50 x73.toNat) 2)] :: OwnS 3 1 vq111_9_3 (yq111_9_1.map cI) :: OwnS 3 1 vq111_19_3 (yq111_19_1.map cI) :: SS 36 52 2 cTii v66 hs67 (y69) :: OwnS 3 1 v70 (y72.map cI) :: OwnS 28 1 v43 (y45.map cI) :: OwnS 79 2 v46 (y48.map cTii) :: Bx b22 27 [v43, vq111_9_3, vq111_19_3, v66, v70] :: SN 48 4 nT48 v11 hs50 (y49) :: OwnS 67 4 v15 (y51.map cTiiiiu32) :: Bx bq10_5_1 43 [.pointer (some ⟨bq10_1_7, 0, none⟩), v11] :: Bx bq10_1_7 64 [v15, v46] :: Bx b6 27 [.slice none 0 0, .slice none 0 0, .slice none 0 0, .slice none 0 0, .slice none 0 0] :: L)) (listed' := #[true, true, true, true, true, true, true, true, true, true, true, true, true, true, true, true, true, true, true, true, true, true, true, true]) (by kernel_rfl) (by kernel_rfl) ?_
                    cases hj116
                    refine TA.nil (by kernel_rfl) fun a w e s => ?_
                    exact ⟨vq111_9_3, vq111_19_3, e.sub (lk_of_allIn ⟨rfl, rfl, rfl, rfl, rfl, rfl, rfl, trivial⟩), s.mono fun _ => Sat.dropN 2⟩
                · refine TB.of rfl ?_
                  refine TO.s rfl rfl rfl (StepS.ldB rfl (Ent.at 10 rfl) kscalB_39_true rfl) ?_
                  refine TA.back (.inr (fun _ s => Sat.by [12, 12, 12, 12, 12, 12, 12, 12, 12, 12, 10] 11 2 (by kernel_rfl) s)) ?_
                  refine TA.asL (L' := (Bx b107 48 [(cv (gr hs50 x73.toNat) 0), I x105.2.1, (cv (gr hs50 x73.toNat) 1), (cv (gr hs50 x73.toNat) 2)] :: OwnS 3 1 v60 (y62.map cI) :: OwnS 3 1 v63 (y65.map cI) :: SS 36 52 2 cTii v66 hs67 (y69) :: OwnS 3 1 v70 (y72.map cI) :: OwnS 28 1 v43 (y45.map cI) :: OwnS 79 2 v46 (y48.map cTii) :: Bx b22 27 [v43, v60, v63, v66, v70] :: SN 48 4 nT48 v11 hs50 (y49) :: OwnS 67 4 v15 (y51.map cTiiiiu32) :: Bx bq10_5_1 43 [.pointer (some ⟨bq10_1_7, 0, none⟩), v11] :: Bx bq10_1_7 64 [v15, v46] :: Bx b6 27 [.slice none 0 0, .slice none 0 0, .slice none 0 0, .slice none 0 0, .slice none 0 0] :: L)) (listed' := #[true, true, true, true, true, true, true, true, false, false, true, true, true, true, true, true, true, false, false, false, false, false, false, false]) (by kernel_rfl) (by kernel_rfl) ?_
                  refine TA.all1 (i := 8) (by kernel_rfl) ?_
                  refine TB.of rfl ?_
                  refine TO.litS (f := cI) ([rq111_7_1] : List Int) kelemB_24_3_1_8_true kinfo_3_bind_zero_some_I_0 rfl rfl (fun _ => rfl) rfl rfl (by kernel_rfl) rfl fun vq111_8_1 => ?_
                  refine TA.back (.inr (fun _ s => Sat.by [13, 13, 13, 13, 13, 13, 13, 13, 13, 13, 11] 11 3 (by kernel_rfl) s)) ?_
                  refine TA.asL (L' := (OwnS 3 1 vq111_8_1 (([rq111_7_1] : List Int).map cI) :: Bx b107 48 [(cv (gr hs50 x73.toNat) 0), I x105.2.1, (cv (gr hs50 x73.toNat) 1), (cv (gr hs50 x73.toNat) 2)] :: OwnS 3 1 v60 (y62.map cI) :: OwnS 3 1 v63 (y65.map cI) :: SS 36 52 2 cTii v66 hs67 (y69) :: OwnS 3 1 v70 (y72.map cI) :: OwnS 28 1 v43 (y45.map cI) :: OwnS 79 2 v46 (y48.map cTii) :: Bx b22 27 [v43, v60, v63, v66, v70] :: SN 48 4 nT48 v11 hs50 (y49) :: OwnS 67 4 v15 (y51.map cTiiiiu32) :: Bx bq10_5_1 43 [.pointer (some ⟨bq10_1_7, 0, none⟩), v11] :: Bx bq10_1_7 64 [v15, v46] :: Bx b6 27 [.slice none 0 0, .slice none 0 0, .slice none 0 0, .slice none 0 0, .slice none 0 0] :: L)) (listed' := #[true, true, true, true, true, true, true, true, true, false, true, true, true, true, true, true, true, false, false, false, false, false, false, false]) (by kernel_rfl) (by kernel_rfl) ?_
                  refine TA.all1 (i := 9) (by kernel_rfl) ?_
                  refine TB.of rfl ?_
                  refine TO.app (k := 2) (f := cI) kelemB_24_3_1_8_true (by decide) rfl rfl rfl (OwnS.rd (Ent.at 0 rfl)) hkq111_9_2 (fun x c hc => by simp [Value.oneCell'] at hc ⊢; first | (obtain rfl := hc; rfl) | (rcases hc with rfl <;> rfl)) rfl rfl fun vq111_9_3 => ?_
                  refine TA.back (.inr (fun _ s => Sat.by [13, 13, 13, 13, 13, 13, 13, 13, 13, 13, 11] 11 3 (by kernel_rfl) s)) ?_
                  refine TA.asL (L' := (OwnS 3 1 vq111_8_1 (([rq111_7_1] : List Int).map cI) :: Bx b107 48 [(cv (gr hs50 x73.toNat) 0), I x105.2.1, (cv (gr hs50 x73.toNat) 1), (cv (gr hs50 x73.toNat) 2)] :: OwnS 3 1 vq111_9_3 (yq111_9_1.map cI) :: OwnS 3 1 v63 (y65.map cI) :: SS 36 52 2 cTii v66 hs67 (y69) :: OwnS 3 1 v70 (y72.map cI) :: OwnS 28 1 v43 (y45.map cI) :: OwnS 79 2 v46 (y48.map cTii) :: Bx b22 27 [v43, v60, v63, v66, v70] :: SN 48 4 nT48 v11 hs50 (y49) :: OwnS 67 4 v15 (y51.map cTiiiiu32) :: Bx bq10_5_1 43 [.pointer (some ⟨bq10_1_7, 0, none⟩), v11] :: Bx bq10_1_7 64 [v15, v46] :: Bx b6 27 [.slice none 0 0, .slice none 0 0, .slice none 0 0, .slice none 0 0, .slice none 0 0] :: L)) (listed' := #[true, true, true, true, true, true, true, true, true, true, true, true, true, true, true, true, true, false, false, false, false, false, false, false]) (by kernel_rfl) (by kernel_rfl) ?_
                  refine TA.takeW 20 rfl rfl rfl rfl (StepS.fld rfl kfieldB_27_1_1_true) (by kernel_rfl) (by kernel_rfl) (by kernel_rfl) rfl (.inr (fun _ s => Sat.by [13, 13, 13, 13, 13, 13, 13, 13, 13, 13, 11] 11 3 (by kernel_rfl) s)) ?_
                  refine TA.all1 (i := 17) (by kernel_rfl) ?_
                  refine TB.of rfl ?_
                  refine TO.q rfl rfl rfl (StepQ.call kcallB_13_true rfl rfl (fun _ st => C13 (Ent.at 12 rfl) (OwnS.rd (Ent.at 10 rfl)) (OwnS.rd (Ent.at 7 rfl)) hcq111_17_2 st)) ?_
                  refine TA.back (.inr (fun _ s => Sat.by [13, 13, 13, 13, 13, 13, 13, 13, 13, 13, 11] 11 3 (by kernel_rfl) s)) ?_
                  refine TA.asL (L' := (OwnS 3 1 vq111_8_1 (([rq111_7_1] : List Int).map cI) :: Bx b107 48 [(cv (gr hs50 x73.toNat) 0), I x105.2.1, (cv (gr hs50 x73.toNat) 1), (cv (gr hs50 x73.toNat) 2)] :: OwnS 3 1 vq111_9_3 (yq111_9_1.map cI) :: OwnS 3 1 v63 (y65.map cI) :: SS 36 52 2 cTii v66 hs67 (y69) :: OwnS 3 1 v70 (y72.map cI) :: OwnS 28 1 v43 (y45.map cI) :: OwnS 79 2 v46 (y48.map cTii) :: Bx b22 27 [v43, v60, v63, v66, v70] :: SN 48 4 nT48 v11 hs50 (y49) :: OwnS 67 4 v15 (y51.map cTiiiiu32) :: Bx bq10_5_1 43 [.pointer (some ⟨bq10_1_7, 0, none⟩), v11] :: Bx bq10_1_7 64 [v15, v46] :: Bx b6 27 [.slice none 0 0, .slice none 0 0, .slice none 0 0, .slice none 0 0, .slice none 0 0] :: L)) (listed' := #[true, true, true, true, true, true, true, true, true, true, true, true, true, true, true, true, true, true, false, false, true, false, false, false]) (by kernel_rfl) (by kernel_rfl) ?_
                  refine TA.all1 (i := 18) (by kernel_rfl) ?_
                  refine TB.of rfl ?_
                  refine TO.litS (f := cI) ([rq111_17_1] : List Int) kelemB_24_3_1_8_true kinfo_3_bind_zero_some_I_0 rfl rfl (fun _ => rfl) rfl rfl (by kernel_rfl) rfl fun vq111_18_1 => ?_
                  refine TA.back (.inr (fun _ s => Sat.by [14, 14, 14, 14, 14, 14, 14, 14, 14, 14, 12] 11 4 (by kernel_rfl) s)) ?_
                  refine TA.asL (L' := (OwnS 3 1 vq111_18_1 (([rq111_17_1] : List Int).map cI) :: OwnS 3 1 vq111_8_1 (([rq111_7_1] : List Int).map cI) :: Bx b107 48 [(cv (gr hs50 x73.toNat) 0), I x105.2.1, (cv (gr hs50 x73.toNat) 1), (cv (gr hs50 x73.toNat) 2)] :: OwnS 3 1 vq111_9_3 (yq111_9_1.map cI) :: OwnS 3 1 v63 (y65.map cI) :: SS 36 52 2 cTii v66 hs67 (y69) :: OwnS 3 1 v70 (y72.map cI) :: OwnS 28 1 v43 (y45.map cI) :: OwnS 79 2 v46 (y48.map cTii) :: Bx b22 27 [v43, v60, v63, v66, v70] :: SN 48 4 nT48 v11 hs50 (y49) :: OwnS 67 4 v15 (y51.map cTiiiiu32) :: Bx bq10_5_1 43 [.pointer (some ⟨bq10_1_7, 0, none⟩), v11] :: Bx bq10_1_7 64 [v15, v46] :: Bx b6 27 [.slice none 0 0, .slice none 0 0, .slice none 0 0, .slice none 0 0, .slice none 0 0] :: L)) (listed' := #[true, true, true, true, true, true, true, true, true, true, true, true, true, true, true, true, true, true, true, false, true, false, false, false]) (by kernel_rfl) (by kernel_rfl) ?_
                  refine TA.all1 (i := 19) (by kernel_rfl) ?_
                  refine TB.of rfl ?_
                  refine TO.app (k := 4) (f := cI) kelemB_24_3_1_8_true (by decide) rfl rfl rfl (OwnS.rd (Ent.at 0 rfl)) hkq111_19_2 (fun x c hc => by simp [Value.oneCell'] at hc ⊢; first | (obtain rfl := hc; rfl) | (rcases hc with rfl <;> rfl)) rfl rfl fun vq111_19_3 => ?_
                  refine TA.back (.inr (fun _ s => Sat.by [14, 14, 14, 14, 14, 14, 14, 14, 14, 14, 12] 11 4 (by kernel_rfl) s)) ?_
                  refine TA.asL (L' := (OwnS 3 1 vq111_18_1 (([rq111_17_1] : List Int).map cI) :: OwnS 3 1 vq111_8_1 (([rq111_7_1] : List Int).map cI) :: Bx b107 48 [(cv (gr hs50 x73.toNat) 0), I x105.2.1, (cv (gr hs50 x73.toNat) 1), (cv (gr hs50 x73.toNat) 2)] :: OwnS 3 1 vq111_9_3 (yq111_9_1.map cI) :: OwnS 3 1 vq111_19_3 (yq111_19_1.map cI) :: SS 36 52 2 cTii v66 hs67 (y69) :: OwnS 3 1 v70 (y72.map cI) :: OwnS 28 1 v43 (y45.map cI) :: OwnS 79 2 v46 (y48.map cTii) :: Bx b22 27 [v43, v60, v63, v66, v70] :: SN 48 4 nT48 v11 hs50 (y49) :: OwnS 67 4 v15 (y51.map cTiiiiu32) :: Bx bq10_5_1 43 [.pointer (some ⟨bq10_1_7, 0, none⟩), v11] :: Bx bq10_1_7 64 [v15, v46] :: Bx b6 27 [.slice none 0 0, .slice none 0 0, .slice none 0 0, .slice none 0 0, .slice none 0 0] :: L)) (listed' := #[true, true, true, true, true, true, true, true, true, true, true, true, true, true, true, true, true, true, true, true, true, false, false, false]) (by kernel_rfl) (by kernel_rfl) ?_
                  refine TA.all1 (i := 21) (by kernel_rfl) ?_
                  refine TB.of rfl ?_
                  refine TO.pure (fun _ s => Rd.one (OwnS.rd (Ent.at 3 rfl)) s) fun ocq111_21_1 => ?_
                  refine TO.stB (us := [vq111_9_3]) 9 [v43, vq111_9_3, v63, v66, v70] rfl rfl rfl ksizeB_24_1_true ocq111_21_1.2 rfl rfl (by intro u hu; simp only [List.mem_cons, List.not_mem_nil, or_false] at hu; rcases hu with rfl <;> first | exact ocq111_21_1.1 | rfl) rfl ?_
                  refine TA.back (.inl (by kernel_rfl)) ?_
                  refine TA.asL (L' := (OwnS 3 1 vq111_18_1 (([rq111_17_1] : List Int).map cI) :: OwnS 3 1 vq111_8_1 (([rq111_7_1] : List Int).map cI) :: Bx b107 48 [(cv (gr hs50 x73.toNat) 0), I x105.2.1, (cv (gr hs50 x73.toNat) 1), (cv (gr hs50 x73.toNat) 2)] :: OwnS 3 1 vq111_9_3 (yq111_9_1.map cI) :: OwnS 3 1 vq111_19_3 (yq111_19_1.map cI) :: SS 36 52 2 cTii v66 hs67 (y69) :: OwnS 3 1 v70 (y72.map cI) :: OwnS 28 1 v43 (y45.map cI) :: OwnS 79 2 v46 (y48.map cTii) :: Bx b22 27 [v43, vq111_9_3, v63, v66, v70] :: SN 48 4 nT48 v11 hs50 (y49) :: OwnS 67 4 v15 (y51.map cTiiiiu32) :: Bx bq10_5_1 43 [.pointer (some ⟨bq10_1_7, 0, none⟩), v11] :: Bx bq10_1_7 64 [v15, v46] :: Bx b6 27 [.slice none 0 0, .slice none 0 0, .slice none 0 0, .slice none 0 0, .slice none 0 0] :: L)) (listed' := #[true, true, true, true, true, true, true, true, true, true, true, true, true, true, true, true, true, true, true, true, true, true, false, false]) (by kernel_rfl) (by kernel_rfl) ?_
                  refine TA.takeW 22 rfl rfl rfl rfl (StepS.fld rfl kfieldB_27_2_2_true) (by kernel_rfl) (by kernel_rfl) (by kernel_rfl) rfl (.inl (by kernel_rfl)) ?_
                  refine TA.all1 (i := 23) (by kernel_rfl) ?_
                  refine TB.of rfl ?_
                  refine TO.pure (fun _ s => Rd.one (OwnS.rd (Ent.at 4 rfl)) s) fun ocq111_23_1 => ?_
                  refine TO.stB (us := [vq111_19_3]) 9 [v43, vq111_9_3, vq111_19_3, v66, v70] rfl rfl rfl ksizeB_24_1_true ocq111_23_1.2 rfl rfl (by intro u hu; simp only [List.mem_cons, List.not_mem_nil, or_false] at hu; rcases hu with rfl <;> first | exact ocq111_23_1.1 | rfl) rfl ?_
                  refine TA.back (.inl (by kernel_rfl)) ?_
                  refine TA.asL (L' := (OwnS 3 1 vq111_18_1 (([rq111_17_1] : List Int).map cI) :: OwnS 3 1 vq111_8_1 (([rq111_7_1] : List Int).map cI) :: Bx b107 48 [(cv (gr hs50 x73.toNat) 0), I x105.2.1, (cv (gr hs50 x73.toNat) 1), (cv (gr hs50 x73.toNat) 2)] :: OwnS 3 1 vq111_9_3 (yq111_9_1.map cI) :: OwnS 3 1 vq111_19_3 (yq111_19_1.map cI) :: SS 36 52 2 cTii v66 hs67 (y69) :: OwnS 3 1 v70 (y72.map cI) :: OwnS 28 1 v43 (y45.map cI) :: OwnS 79 2 v46 (y48.map cTii) :: Bx b22 27 [v43, vq111_9_3, vq111_19_3, v66, v70] :: SN 48 4 nT48 v11 hs50 (y49) :: OwnS 67 4 v15 (y51.map cTiiiiu32) :: Bx bq10_5_1 43 [.pointer (some ⟨bq10_1_7, 0, none⟩), v11] :: Bx bq10_1_7 64 [v15, v46] :: Bx b6 27 [.slice none 0 0, .slice none 0 0, .slice none 0 0, .slice none 0 0, .slice none 0 0] :: L)) (listed' := #[true, true, true, true, true, true, true, true, true, true, true, true, true, true, true, true, true, true, true, true, true, true, true, true]) (by kernel_rfl) (by kernel_rfl) ?_
                  cases hj116
                  refine TA.nil (by kernel_rfl) fun a w e s => ?_
                  exact ⟨vq111_9_3, vq111_19_3, e.sub (lk_of_allIn ⟨rfl, rfl, rfl, rfl, rfl, rfl, rfl, trivial⟩), s.mono fun _ => Sat.dropN 2⟩
              · refine TB.of rfl ?_
                refine TO.s rfl rfl rfl (StepS.ldB rfl (Ent.at 10 rfl) kscalB_39_true rfl) ?_
                refine TA.back (.inr (fun _ s => Sat.by [12, 12, 12, 12, 12, 12, 12, 12, 12, 12, 10] 11 2 (by kernel_rfl) s)) ?_
                refine TA.asL (L' := (Bx b107 48 [(cv (gr hs50 x73.toNat) 0), I x105.2.1, (cv (gr hs50 x73.toNat) 1), (cv (gr hs50 x73.toNat) 2)] :: OwnS 3 1 v60 (y62.map cI) :: OwnS 3 1 v63 (y65.map cI) :: SS 36 52 2 cTii v66 hs67 (y69) :: OwnS 3 1 v70 (y72.map cI) :: OwnS 28 1 v43 (y45.map cI) :: OwnS 79 2 v46 (y48.map cTii) :: Bx b22 27 [v43, v60, v63, v66, v70] :: SN 48 4 nT48 v11 hs50 (y49) :: OwnS 67 4 v15 (y51.map cTiiiiu32) :: Bx bq10_5_1 43 [.pointer (some ⟨bq10_1_7, 0, none⟩), v11] :: Bx bq10_1_7 64 [v15, v46] :: Bx b6 27 [.slice none 0 0, .slice none 0 0, .slice none 0 0, .slice none 0 0, .slice none 0 0] :: L)) (listed' := #[true, true, true, true, true, true, true, false, false, false, true, true, true, true, true, true, true, false, false, false, false, false, false, false]) (by kernel_rfl) (by kernel_rfl) ?_
                refine TA.all1 (i := 7) (by kernel_rfl) ?_
                refine TB.of rfl ?_
                refine TO.q rfl rfl rfl (StepQ.call kcallB_12_true rfl rfl (fun _ st => C12 (Ent.at 11 rfl) (OwnS.rd (Ent.at 9 rfl)) (OwnS.rd (Ent.at 6 rfl)) hcq111_7_2 st)) ?_
                refine TA.back (.inr (fun _ s => Sat.by [12, 12, 12, 12, 12, 12, 12, 12, 12, 12, 10] 11 2 (by kernel_rfl) s)) ?_
                refine TA.asL (L' := (Bx b107 48 [(cv (gr hs50 x73.toNat) 0), I x105.2.1, (cv (gr hs50 x73.toNat) 1), (cv (gr hs50 x73.toNat) 2)] :: OwnS 3 1 v60 (y62.map cI) :: OwnS 3 1 v63 (y65.map cI) :: SS 36 52 2 cTii v66 hs67 (y69) :: OwnS 3 1 v70 (y72.map cI) :: OwnS 28 1 v43 (y45.map cI) :: OwnS 79 2 v46 (y48.map cTii) :: Bx b22 27 [v43, v60, v63, v66, v70] :: SN 48 4 nT48 v11 hs50 (y49) :: OwnS 67 4 v15 (y51.map cTiiiiu32) :: Bx bq10_5_1 43 [.pointer (some ⟨bq10_1_7, 0, none⟩), v11] :: Bx bq10_1_7 64 [v15, v46] :: Bx b6 27 [.slice none 0 0, .slice none 0 0, .slice none 0 0, .slice none 0 0, .slice none 0 0] :: L)) (listed' := #[true, true, true, true, true, true, true, true, false, false, true, true, true, true, true, true, true, false, false, false, false, false, false, false]) (by kernel_rfl) (by kernel_rfl) ?_
                refine TA.all1 (i := 8) (by kernel_rfl) ?_
                refine TB.of rfl ?_
                refine TO.litS (f := cI) ([rq111_7_1] : List Int) kelemB_24_3_1_8_true kinfo_3_bind_zero_some_I_0 rfl rfl (fun _ => rfl) rfl rfl (by kernel_rfl) rfl fun vq111_8_1 => ?_
                refine TA.back (.inr (fun _ s => Sat.by [13, 13, 13, 13, 13, 13, 13, 13, 13, 13, 11] 11 3 (by kernel_rfl) s)) ?_
                refine TA.asL (L' := (OwnS 3 1 vq111_8_1 (([rq111_7_1] : List Int).map cI) :: Bx b107 48 [(cv (gr hs50 x73.toNat) 0), I x105.2.1, (cv (gr hs50 x73.toNat) 1), (cv (gr hs50 x73.toNat) 2)] :: OwnS 3 1 v60 (y62.map cI) :: OwnS 3 1 v63 (y65.map cI) :: SS 36 52 2 cTii v66 hs67 (y69) :: OwnS 3 1 v70 (y72.map cI) :: OwnS 28 1 v43 (y45.map cI) :: OwnS 79 2 v46 (y48.map cTii) :: Bx b22 27 [v43, v60, v63, v66, v70] :: SN 48 4 nT48 v11 hs50 (y49) :: OwnS 67 4 v15 (y51.map cTiiiiu32) :: Bx bq10_5_1 43 [.pointer (some ⟨bq10_1_7, 0, none⟩), v11] :: Bx bq10_1_7 64 [v15, v46] :: Bx b6 27 [.slice none 0 0, .slice none 0 0, .slice none 0 0, .slice none 0 0, .slice none 0 0] :: L)) (listed' := #[true, true, true, true, true, true, true, true, true, false, true, true, true, true, true, true, true, false, false, false, false, false, false, false]) (by kernel_rfl) (by kernel_rfl) ?_
                refine TA.all1 (i := 9) (by kernel_rfl) ?_
                refine TB.of rfl ?_
                refine TO.app (k := 2) (f := cI) kelemB_24_3_1_8_true (by decide) rfl rfl rfl (OwnS.rd (Ent.at 0 rfl)) hkq111_9_2 (fun x c hc => by simp [Value.oneCell'] at hc ⊢; first | (obtain rfl := hc; rfl) | (rcases hc with rfl <;> rfl)) rfl rfl fun vq111_9_3 => ?_
                refine TA.back (.inr (fun _ s => Sat.by [13, 13, 13, 13, 13, 13, 13, 13, 13, 13, 11] 11 3 (by kernel_rfl) s)) ?_
                refine TA.asL (L' := (OwnS 3 1 vq111_8_1 (([rq111_7_1] : List Int).map cI) :: Bx b107 48 [(cv (gr hs50 x73.toNat) 0), I x105.2.1, (cv (gr hs50 x73.toNat) 1), (cv (gr hs50 x73.toNat) 2)] :: OwnS 3 1 vq111_9_3 (yq111_9_1.map cI) :: OwnS 3 1 v63 (y65.map cI) :: SS 36 52 2 cTii v66 hs67 (y69) :: OwnS 3 1 v70 (y72.map cI) :: OwnS 28 1 v43 (y45.map cI) :: OwnS 79 2 v46 (y48.map cTii) :: Bx b22 27 [v43, v60, v63, v66, v70] :: SN 48 4 nT48 v11 hs50 (y49) :: OwnS 67 4 v15 (y51.map cTiiiiu32) :: Bx bq10_5_1 43 [.pointer (some ⟨bq10_1_7, 0, none⟩), v11] :: Bx bq10_1_7 64 [v15, v46] :: Bx b6 27 [.slice none 0 0, .slice none 0 0, .slice none 0 0, .slice none 0 0, .slice none 0 0] :: L)) (listed' := #[true, true, true, true, true, true, true, true, true, true, true, true, true, true, true, true, true, false, false, false, false, false, false, false]) (by kernel_rfl) (by kernel_rfl) ?_
                refine TA.takeW 20 rfl rfl rfl rfl (StepS.fld rfl kfieldB_27_1_1_true) (by kernel_rfl) (by kernel_rfl) (by kernel_rfl) rfl (.inr (fun _ s => Sat.by [13, 13, 13, 13, 13, 13, 13, 13, 13, 13, 11] 11 3 (by kernel_rfl) s)) ?_
                refine TA.all1 (i := 17) (by kernel_rfl) ?_
                refine TB.of rfl ?_
                refine TO.q rfl rfl rfl (StepQ.call kcallB_13_true rfl rfl (fun _ st => C13 (Ent.at 12 rfl) (OwnS.rd (Ent.at 10 rfl)) (OwnS.rd (Ent.at 7 rfl)) hcq111_17_2 st)) ?_
                refine TA.back (.inr (fun _ s => Sat.by [13, 13, 13, 13, 13, 13, 13, 13, 13, 13, 11] 11 3 (by kernel_rfl) s)) ?_
                refine TA.asL (L' := (OwnS 3 1 vq111_8_1 (([rq111_7_1] : List Int).map cI) :: Bx b107 48 [(cv (gr hs50 x73.toNat) 0), I x105.2.1, (cv (gr hs50 x73.toNat) 1), (cv (gr hs50 x73.toNat) 2)] :: OwnS 3 1 vq111_9_3 (yq111_9_1.map cI) :: OwnS 3 1 v63 (y65.map cI) :: SS 36 52 2 cTii v66 hs67 (y69) :: OwnS 3 1 v70 (y72.map cI) :: OwnS 28 1 v43 (y45.map cI) :: OwnS 79 2 v46 (y48.map cTii) :: Bx b22 27 [v43, v60, v63, v66, v70] :: SN 48 4 nT48 v11 hs50 (y49) :: OwnS 67 4 v15 (y51.map cTiiiiu32) :: Bx bq10_5_1 43 [.pointer (some ⟨bq10_1_7, 0, none⟩), v11] :: Bx bq10_1_7 64 [v15, v46] :: Bx b6 27 [.slice none 0 0, .slice none 0 0, .slice none 0 0, .slice none 0 0, .slice none 0 0] :: L)) (listed' := #[true, true, true, true, true, true, true, true, true, true, true, true, true, true, true, true, true, true, false, false, true, false, false, false]) (by kernel_rfl) (by kernel_rfl) ?_
                refine TA.all1 (i := 18) (by kernel_rfl) ?_
                refine TB.of rfl ?_
                refine TO.litS (f := cI) ([rq111_17_1] : List Int) kelemB_24_3_1_8_true kinfo_3_bind_zero_some_I_0 rfl rfl (fun _ => rfl) rfl rfl (by kernel_rfl) rfl fun vq111_18_1 => ?_
                refine TA.back (.inr (fun _ s => Sat.by [14, 14, 14, 14, 14, 14, 14, 14, 14, 14, 12] 11 4 (by kernel_rfl) s)) ?_
                refine TA.asL (L' := (OwnS 3 1 vq111_18_1 (([rq111_17_1] : List Int).map cI) :: OwnS 3 1 vq111_8_1 (([rq111_7_1] : List Int).map cI) :: Bx b107 48 [(cv (gr hs50 x73.toNat) 0), I x105.2.1, (cv (gr hs50 x73.toNat) 1), (cv (gr hs50 x73.toNat) 2)] :: OwnS 3 1 vq111_9_3 (yq111_9_1.map cI) :: OwnS 3 1 v63 (y65.map cI) :: SS 36 52 2 cTii v66 hs67 (y69) :: OwnS 3 1 v70 (y72.map cI) :: OwnS 28 1 v43 (y45.map cI) :: OwnS 79 2 v46 (y48.map cTii) :: Bx b22 27 [v43, v60, v63, v66, v70] :: SN 48 4 nT48 v11 hs50 (y49) :: OwnS 67 4 v15 (y51.map cTiiiiu32) :: Bx bq10_5_1 43 [.pointer (some ⟨bq10_1_7, 0, none⟩), v11] :: Bx bq10_1_7 64 [v15, v46] :: Bx b6 27 [.slice none 0 0, .slice none 0 0, .slice none 0 0, .slice none 0 0, .slice none 0 0] :: L)) (listed' := #[true, true, true, true, true, true, true, true, true, true, true, true, true, true, true, true, true, true, true, false, true, false, false, false]) (by kernel_rfl) (by kernel_rfl) ?_
                refine TA.all1 (i := 19) (by kernel_rfl) ?_
                refine TB.of rfl ?_
                refine TO.app (k := 4) (f := cI) kelemB_24_3_1_8_true (by decide) rfl rfl rfl (OwnS.rd (Ent.at 0 rfl)) hkq111_19_2 (fun x c hc => by simp [Value.oneCell'] at hc ⊢; first | (obtain rfl := hc; rfl) | (rcases hc with rfl <;> rfl)) rfl rfl fun vq111_19_3 => ?_
                refine TA.back (.inr (fun _ s => Sat.by [14, 14, 14, 14, 14, 14, 14, 14, 14, 14, 12] 11 4 (by kernel_rfl) s)) ?_
                refine TA.asL (L' := (OwnS 3 1 vq111_18_1 (([rq111_17_1] : List Int).map cI) :: OwnS 3 1 vq111_8_1 (([rq111_7_1] : List Int).map cI) :: Bx b107 48 [(cv (gr hs50 x73.toNat) 0), I x105.2.1, (cv (gr hs50 x73.toNat) 1), (cv (gr hs50 x73.toNat) 2)] :: OwnS 3 1 vq111_9_3 (yq111_9_1.map cI) :: OwnS 3 1 vq111_19_3 (yq111_19_1.map cI) :: SS 36 52 2 cTii v66 hs67 (y69) :: OwnS 3 1 v70 (y72.map cI) :: OwnS 28 1 v43 (y45.map cI) :: OwnS 79 2 v46 (y48.map cTii) :: Bx b22 27 [v43, v60, v63, v66, v70] :: SN 48 4 nT48 v11 hs50 (y49) :: OwnS 67 4 v15 (y51.map cTiiiiu32) :: Bx bq10_5_1 43 [.pointer (some ⟨bq10_1_7, 0, none⟩), v11] :: Bx bq10_1_7 64 [v15, v46] :: Bx b6 27 [.slice none 0 0, .slice none 0 0, .slice none 0 0, .slice none 0 0, .slice none 0 0] :: L)) (listed' := #[true, true, true, true, true, true, true, true, true, true, true, true, true, true, true, true, true, true, true, true, true, false, false, false]) (by kernel_rfl) (by kernel_rfl) ?_
                refine TA.all1 (i := 21) (by kernel_rfl) ?_
                refine TB.of rfl ?_
                refine TO.pure (fun _ s => Rd.one (OwnS.rd (Ent.at 3 rfl)) s) fun ocq111_21_1 => ?_
                refine TO.stB (us := [vq111_9_3]) 9 [v43, vq111_9_3, v63, v66, v70] rfl rfl rfl ksizeB_24_1_true ocq111_21_1.2 rfl rfl (by intro u hu; simp only [List.mem_cons, List.not_mem_nil, or_false] at hu; rcases hu with rfl <;> first | exact ocq111_21_1.1 | rfl) rfl ?_
                refine TA.back (.inl (by kernel_rfl)) ?_
                refine TA.asL (L' := (OwnS 3 1 vq111_18_1 (([rq111_17_1] : List Int).map cI) :: OwnS 3 1 vq111_8_1 (([rq111_7_1] : List Int).map cI) :: Bx b107 48 [(cv (gr hs50 x73.toNat) 0), I x105.2.1, (cv (gr hs50 x73.toNat) 1), (cv (gr hs50 x73.toNat) 2)] :: OwnS 3 1 vq111_9_3 (yq111_9_1.map cI) :: OwnS 3 1 vq111_19_3 (yq111_19_1.map cI) :: SS 36 52 2 cTii v66 hs67 (y69) :: OwnS 3 1 v70 (y72.map cI) :: OwnS 28 1 v43 (y45.map cI) :: OwnS 79 2 v46 (y48.map cTii) :: Bx b22 27 [v43, vq111_9_3, v63, v66, v70] :: SN 48 4 nT48 v11 hs50 (y49) :: OwnS 67 4 v15 (y51.map cTiiiiu32) :: Bx bq10_5_1 43 [.pointer (some ⟨bq10_1_7, 0, none⟩), v11] :: Bx bq10_1_7 64 [v15, v46] :: Bx b6 27 [.slice none 0 0, .slice none 0 0, .slice none 0 0, .slice none 0 0, .slice none 0 0] :: L)) (listed' := #[true, true, true, true, true, true, true, true, true, true, true, true, true, true, true, true, true, true, true, true, true, true, false, false]) (by kernel_rfl) (by kernel_rfl) ?_
                refine TA.takeW 22 rfl rfl rfl rfl (StepS.fld rfl kfieldB_27_2_2_true) (by kernel_rfl) (by kernel_rfl) (by kernel_rfl) rfl (.inl (by kernel_rfl)) ?_
                refine TA.all1 (i := 23) (by kernel_rfl) ?_
                refine TB.of rfl ?_
                refine TO.pure (fun _ s => Rd.one (OwnS.rd (Ent.at 4 rfl)) s) fun ocq111_23_1 => ?_
                refine TO.stB (us := [vq111_19_3]) 9 [v43, vq111_9_3, vq111_19_3, v66, v70] rfl rfl rfl ksizeB_24_1_true ocq111_23_1.2 rfl rfl (by intro u hu; simp only [List.mem_cons, List.not_mem_nil, or_false] at hu; rcases hu with rfl <;> first | exact ocq111_23_1.1 | rfl) rfl ?_
                refine TA.back (.inl (by kernel_rfl)) ?_
                refine TA.asL (L' := (OwnS 3 1 vq111_18_1 (([rq111_17_1] : List Int).map cI) :: OwnS 3 1 vq111_8_1 (([rq111_7_1] : List Int).map cI) :: Bx b107 48 [(cv (gr hs50 x73.toNat) 0), I x105.2.1, (cv (gr hs50 x73.toNat) 1), (cv (gr hs50 x73.toNat) 2)] :: OwnS 3 1 vq111_9_3 (yq111_9_1.map cI) :: OwnS 3 1 vq111_19_3 (yq111_19_1.map cI) :: SS 36 52 2 cTii v66 hs67 (y69) :: OwnS 3 1 v70 (y72.map cI) :: OwnS 28 1 v43 (y45.map cI) :: OwnS 79 2 v46 (y48.map cTii) :: Bx b22 27 [v43, vq111_9_3, vq111_19_3, v66, v70] :: SN 48 4 nT48 v11 hs50 (y49) :: OwnS 67 4 v15 (y51.map cTiiiiu32) :: Bx bq10_5_1 43 [.pointer (some ⟨bq10_1_7, 0, none⟩), v11] :: Bx bq10_1_7 64 [v15, v46] :: Bx b6 27 [.slice none 0 0, .slice none 0 0, .slice none 0 0, .slice none 0 0, .slice none 0 0] :: L)) (listed' := #[true, true, true, true, true, true, true, true, true, true, true, true, true, true, true, true, true, true, true, true, true, true, true, true]) (by kernel_rfl) (by kernel_rfl) ?_
                cases hj116
                refine TA.nil (by kernel_rfl) fun a w e s => ?_
                exact ⟨vq111_9_3, vq111_19_3, e.sub (lk_of_allIn ⟨rfl, rfl, rfl, rfl, rfl, rfl, rfl, trivial⟩), s.mono fun _ => Sat.dropN 2⟩
            · intro a w ⟨v113, v115, he, hs⟩
              refine TC.use ?_ he hs
              obtain ⟨⟨y118, y121⟩, hj123, hb103⟩ := bind_some hb103
              first | refine TC.cutM (fun a w => ∃ v119 : Value, ∃ hs120 : List Value, ∃ v122 : Value, Mid 94 B [(4, .pointer (some ⟨b6, 0, none⟩)), (6, .pointer (some ⟨bq10_5_1, 0, none⟩)), (7, .pointer (some ⟨b22, 0, none⟩)), (48, v11), (49, I (y49.length : Int)), (50, I x73)] (Bx b107 48 [(cv (gr hs50 x73.toNat) 0), I x105.2.1, (cv (gr hs50 x73.toNat) 1), (cv (gr hs50 x73.toNat) 2)] :: OwnS 3 1 v113 (y112.map cI) :: OwnS 3 1 v115 (y114.map cI) :: SS 36 52 2 cTii v119 hs120 (y118) :: OwnS 3 1 v122 (y121.map cI) :: OwnS 28 1 v43 (y45.map cI) :: OwnS 79 2 v46 (y48.map cTii) :: Bx b22 27 [v43, v113, v115, v119, v122] :: SN 48 4 nT48 v11 hs50 (y49) :: OwnS 67 4 v15 (y51.map cTiiiiu32) :: Bx bq10_5_1 43 [.pointer (some ⟨bq10_1_7, 0, none⟩), v11] :: Bx bq10_1_7 64 [v15, v46] :: Bx b6 27 [.slice none 0 0, .slice none 0 0, .slice none 0 0, .slice none 0 0, .slice none 0 0] :: L) a w) ?_ ?_ | refine TC.cutX (fun a w => ∃ v119 : Value, ∃ hs120 : List Value, ∃ v122 : Value, Mid 94 B [(4, .pointer (some ⟨b6, 0, none⟩)), (6, .pointer (some ⟨bq10_5_1, 0, none⟩)), (7, .pointer (some ⟨b22, 0, none⟩)), (48, v11), (49, I (y49.length : Int)), (50, I x73)] (Bx b107 48 [(cv (gr hs50 x73.toNat) 0), I x105.2.1, (cv (gr hs50 x73.toNat) 1), (cv (gr hs50 x73.toNat) 2)] :: OwnS 3 1 v113 (y112.map cI) :: OwnS 3 1 v115 (y114.map cI) :: SS 36 52 2 cTii v119 hs120 (y118) :: OwnS 3 1 v122 (y121.map cI) :: OwnS 28 1 v43 (y45.map cI) :: OwnS 79 2 v46 (y48.map cTii) :: Bx b22 27 [v43, v113, v115, v119, v122] :: SN 48 4 nT48 v11 hs50 (y49) :: OwnS 67 4 v15 (y51.map cTiiiiu32) :: Bx bq10_5_1 43 [.pointer (some ⟨bq10_1_7, 0, none⟩), v11] :: Bx bq10_1_7 64 [v15, v46] :: Bx b6 27 [.slice none 0 0, .slice none 0 0, .slice none 0 0, .slice none 0 0, .slice none 0 0] :: L) a w) ?_ ?_
              · obtain ⟨rq117_4_1, hcq117_4_2, hj123⟩ := bind_some hj123
                obtain ⟨yq117_6_1, hkq117_6_2, hj123⟩ := bind_some hj123
                obtain ⟨yq117_12_1, hkq117_12_2, hj123⟩ := bind_some hj123
                refine TC.region_any (Bx b107 48 [(cv (gr hs50 x73.toNat) 0), I x105.2.1, (cv (gr hs50 x73.toNat) 1), (cv (gr hs50 x73.toNat) 2)] :: OwnS 3 1 v113 (y112.map cI) :: OwnS 3 1 v115 (y114.map cI) :: OwnS 28 1 v43 (y45.map cI) :: OwnS 79 2 v46 (y48.map cTii) :: Bx b22 27 [v43, v113, v115, v66, v70] :: SN 48 4 nT48 v11 hs50 (y49) :: OwnS 67 4 v15 (y51.map cTiiiiu32) :: Bx bq10_5_1 43 [.pointer (some ⟨bq10_1_7, 0, none⟩), v11] :: Bx bq10_1_7 64 [v15, v46] :: Bx b6 27 [.slice none 0 0, .slice none 0 0, .slice none 0 0, .slice none 0 0, .slice none 0 0] :: L) 14 17 kfollows_mixedOrders_true rfl ?_
                refine TA.takeW 0 rfl rfl rfl rfl (StepS.fld rfl kfieldB_27_3_3_true) (by kernel_rfl) (by kernel_rfl) (by kernel_rfl) rfl (.inr (fun _ s => Sat.by [12, 12, 12, 12, 12, 12, 12, 12, 10, 10, 10] 11 2 (by kernel_rfl) s)) ?_
                refine TA.take 1 rfl rfl rfl rfl (StepS.ldB rfl (Ent.at 5 rfl) kscalB_25_true rfl) (by kernel_rfl) (by kernel_rfl) (by kernel_rfl) (by kernel_rfl) (by kernel_rfl) (fun _ s => Sat.by [12, 12, 12, 12, 12, 12, 12, 12, 10, 10, 10] 11 2 (by kernel_rfl) s) ?_
                refine TA.takeW 2 rfl rfl rfl rfl (StepS.fld rfl kfieldB_48_0_0_true) (by kernel_rfl) (by kernel_rfl) (by kernel_rfl) rfl (.inr (fun _ s => Sat.by [12, 12, 12, 12, 12, 12, 12, 12, 10, 10, 10] 11 2 (by kernel_rfl) s)) ?_
                refine TA.take 3 rfl rfl rfl rfl (StepS.ldB rfl (Ent.at 0 rfl) kscalB_36_true rfl) (by kernel_rfl) (by kernel_rfl) (by kernel_rfl) (by kernel_rfl) (by kernel_rfl) (fun _ s => Sat.by [12, 12, 12, 12, 12, 12, 12, 12, 10, 10, 10] 11 2 (by kernel_rfl) s) ?_
                refine TA.takeW 7 rfl rfl rfl rfl (StepS.fld rfl kfieldB_27_4_4_true) (by kernel_rfl) (by kernel_rfl) (by kernel_rfl) rfl (.inr (fun _ s => Sat.by [12, 12, 12, 12, 12, 12, 12, 12, 10, 10, 10] 11 2 (by kernel_rfl) s)) ?_
                refine TA.take 8 rfl rfl rfl rfl (StepS.ldB rfl (Ent.at 5 rfl) kscalB_24_true rfl) (by kernel_rfl) (by kernel_rfl) (by kernel_rfl) (by kernel_rfl) (by kernel_rfl) (fun _ s => Sat.by [12, 12, 12, 12, 12, 12, 12, 12, 10, 10, 10] 11 2 (by kernel_rfl) s) ?_
                refine TA.takeW 9 rfl rfl rfl rfl (StepS.fld rfl kfieldB_48_1_1_true) (by kernel_rfl) (by kernel_rfl) (by kernel_rfl) rfl (.inr (fun _ s => Sat.by [12, 12, 12, 12, 12, 12, 12, 12, 10, 10, 10] 11 2 (by kernel_rfl) s)) ?_
                refine TA.lem (γ := Value × (List Value) × Value × Value) 0 #[true, true, true, true, true, true, true, true, true, true, true, true, true, true, true, true, true] (fun (vq117_6_3, hsq117_6_4, vq117_11_1, vq117_12_3) => [(4, .pointer (some ⟨b6, 0, none⟩)), (6, .pointer (some ⟨bq10_5_1, 0, none⟩)), (7, .pointer (some ⟨b22, 0, none⟩)), (48, v11), (49, I (y49.length : Int)), (50, I x73)]) (fun (vq117_6_3, hsq117_6_4, vq117_11_1, vq117_12_3) => (SS 36 52 2 cTii vq117_6_3 hsq117_6_4 (yq117_6_1) :: OwnS 3 1 vq117_11_1 (([x105.2.1] : List Int).map cI) :: Bx b107 48 [(cv (gr hs50 x73.toNat) 0), I x105.2.1, (cv (gr hs50 x73.toNat) 1), (cv (gr hs50 x73.toNat) 2)] :: OwnS 3 1 v113 (y112.map cI) :: OwnS 3 1 v115 (y114.map cI) :: OwnS 3 1 vq117_12_3 (yq117_12_1.map cI) :: OwnS 28 1 v43 (y45.map cI) :: OwnS 79 2 v46 (y48.map cTii) :: Bx b22 27 [v43, v113, v115, vq117_6_3, vq117_12_3] :: SN 48 4 nT48 v11 hs50 (y49) :: OwnS 67 4 v15 (y51.map cTiiiiu32) :: Bx bq10_5_1 43 [.pointer (some ⟨bq10_1_7, 0, none⟩), v11] :: Bx bq10_1_7 64 [v15, v46] :: Bx b6 27 [.slice none 0 0, .slice none 0 0, .slice none 0 0, .slice none 0 0, .slice none 0 0] :: L)) ?_ fun hSq117_0 => ?_
                · rintro ⟨vq117_6_3, hsq117_6_4, vq117_11_1, vq117_12_3⟩
                  cases hj123
                  refine TA.nil (by kernel_rfl) fun a w e s => ?_
                  exact ⟨vq117_6_3, hsq117_6_4, vq117_12_3, e.sub (lk_of_allIn ⟨rfl, rfl, rfl, rfl, rfl, rfl, trivial⟩), s.mono fun _ s => (by exact Sat.by [13, 13, 13, 13, 13, 13, 13, 13, 13, 9, 13, 13, 13] 13 1 (by kernel_rfl) s)⟩
                refine TA.lem (γ := Value × (List Value) × Value × Value) 1 #[true, true, true, true, true, true, true, true, true, true, true, true, true, true, true, true, false] (fun (vq117_6_3, hsq117_6_4, vq117_11_1, vq117_12_3) => [(4, .pointer (some ⟨b6, 0, none⟩)), (6, .pointer (some ⟨bq10_5_1, 0, none⟩)), (7, .pointer (some ⟨b22, 0, none⟩)), (48, v11), (49, I (y49.length : Int)), (50, I x73), (89, vq117_12_3), (91, .pointer (some ⟨b22, 0 + 4, none⟩))]) (fun (vq117_6_3, hsq117_6_4, vq117_11_1, vq117_12_3) => (SS 36 52 2 cTii vq117_6_3 hsq117_6_4 (yq117_6_1) :: OwnS 3 1 vq117_11_1 (([x105.2.1] : List Int).map cI) :: Bx b107 48 [(cv (gr hs50 x73.toNat) 0), I x105.2.1, (cv (gr hs50 x73.toNat) 1), (cv (gr hs50 x73.toNat) 2)] :: OwnS 3 1 v113 (y112.map cI) :: OwnS 3 1 v115 (y114.map cI) :: OwnS 3 1 vq117_12_3 (yq117_12_1.map cI) :: OwnS 28 1 v43 (y45.map cI) :: OwnS 79 2 v46 (y48.map cTii) :: Bx b22 27 [v43, v113, v115, vq117_6_3, v70] :: SN 48 4 nT48 v11 hs50 (y49) :: OwnS 67 4 v15 (y51.map cTiiiiu32) :: Bx bq10_5_1 43 [.pointer (some ⟨bq10_1_7, 0, none⟩), v11] :: Bx bq10_1_7 64 [v15, v46] :: Bx b6 27 [.slice none 0 0, .slice none 0 0, .slice none 0 0, .slice none 0 0, .slice none 0 0] :: L)) ?_ fun hSq117_1 => ?_
                · rintro ⟨vq117_6_3, hsq117_6_4, vq117_11_1, vq117_12_3⟩
                  refine TA.all1 (i := 16) (by kernel_rfl) ?_
                  · refine TB.of rfl ?_
                    refine TO.pure (fun _ s => Rd.one (OwnS.rd (Ent.at 5 rfl)) s) fun ocq117_16_1 => ?_
                    refine TO.stB (us := [vq117_12_3]) 8 [v43, v113, v115, vq117_6_3, vq117_12_3] rfl rfl rfl ksizeB_24_1_true ocq117_16_1.2 rfl rfl (by intro u hu; simp only [List.mem_cons, List.not_mem_nil, or_false] at hu; rcases hu with rfl <;> first | exact ocq117_16_1.1 | rfl) rfl ?_
                    refine TA.back (.inl (by kernel_rfl)) ?_
                    refine TA.asL (L' := (SS 36 52 2 cTii vq117_6_3 hsq117_6_4 (yq117_6_1) :: OwnS 3 1 vq117_11_1 (([x105.2.1] : List Int).map cI) :: Bx b107 48 [(cv (gr hs50 x73.toNat) 0), I x105.2.1, (cv (gr hs50 x73.toNat) 1), (cv (gr hs50 x73.toNat) 2)] :: OwnS 3 1 v113 (y112.map cI) :: OwnS 3 1 v115 (y114.map cI) :: OwnS 3 1 vq117_12_3 (yq117_12_1.map cI) :: OwnS 28 1 v43 (y45.map cI) :: OwnS 79 2 v46 (y48.map cTii) :: Bx b22 27 [v43, v113, v115, vq117_6_3, vq117_12_3] :: SN 48 4 nT48 v11 hs50 (y49) :: OwnS 67 4 v15 (y51.map cTiiiiu32) :: Bx bq10_5_1 43 [.pointer (some ⟨bq10_1_7, 0, none⟩), v11] :: Bx bq10_1_7 64 [v15, v46] :: Bx b6 27 [.slice none 0 0, .slice none 0 0, .slice none 0 0, .slice none 0 0, .slice none 0 0] :: L)) (listed' := #[true, true, true, true, true, true, true, true, true, true, true, true, true, true, true, true, true]) (by kernel_rfl) (by kernel_rfl) ?_
                    exact TA.jump hSq117_0 (vq117_6_3, hsq117_6_4, vq117_11_1, vq117_12_3) rfl (by kernel_rfl) ⟨rfl, rfl, rfl, rfl, rfl, rfl, trivial⟩ (fun _ s => Sat.by [13, 13, 13, 13, 13, 13, 13, 13, 13, 13, 13, 13, 13, 13] 14 0 (by kernel_rfl) s)
                refine TA.lem (γ := Value × (List Value) × Value × Value) 3 #[true, true, true, true, true, true, true, true, true, true, true, true, true, true, false, false, false] (fun (vq117_6_3, hsq117_6_4, vq117_11_1, vq117_12_3) => [(4, .pointer (some ⟨b6, 0, none⟩)), (6, .pointer (some ⟨bq10_5_1, 0, none⟩)), (7, .pointer (some ⟨b22, 0, none⟩)), (48, v11), (49, I (y49.length : Int)), (50, I x73), (83, vq117_6_3), (89, vq117_12_3), (90, .pointer (some ⟨b22, 0 + 3, none⟩))]) (fun (vq117_6_3, hsq117_6_4, vq117_11_1, vq117_12_3) => (SS 36 52 2 cTii vq117_6_3 hsq117_6_4 (yq117_6_1) :: OwnS 3 1 vq117_11_1 (([x105.2.1] : List Int).map cI) :: Bx b107 48 [(cv (gr hs50 x73.toNat) 0), I x105.2.1, (cv (gr hs50 x73.toNat) 1), (cv (gr hs50 x73.toNat) 2)] :: OwnS 3 1 v113 (y112.map cI) :: OwnS 3 1 v115 (y114.map cI) :: OwnS 3 1 vq117_12_3 (yq117_12_1.map cI) :: OwnS 28 1 v43 (y45.map cI) :: OwnS 79 2 v46 (y48.map cTii) :: Bx b22 27 [v43, v113, v115, v66, v70] :: SN 48 4 nT48 v11 hs50 (y49) :: OwnS 67 4 v15 (y51.map cTiiiiu32) :: Bx bq10_5_1 43 [.pointer (some ⟨bq10_1_7, 0, none⟩), v11] :: Bx bq10_1_7 64 [v15, v46] :: Bx b6 27 [.slice none 0 0, .slice none 0 0, .slice none 0 0, .slice none 0 0, .slice none 0 0] :: L)) ?_ fun hSq117_2 => ?_
                · rintro ⟨vq117_6_3, hsq117_6_4, vq117_11_1, vq117_12_3⟩
                  refine TA.all1 (i := 14) (by kernel_rfl) ?_
                  · refine TB.of rfl ?_
                    refine TO.pure (fun _ s => Rd.one (RR.top (SS.rr (Ent.at 0 rfl))) s) fun ocq117_14_1 => ?_
                    refine TO.stB (us := [vq117_6_3]) 8 [v43, v113, v115, vq117_6_3, v70] rfl rfl rfl ksizeB_25_1_true ocq117_14_1.2 rfl rfl (by intro u hu; simp only [List.mem_cons, List.not_mem_nil, or_false] at hu; rcases hu with rfl <;> first | exact ocq117_14_1.1 | rfl) rfl ?_
                    refine TA.back (.inl (by kernel_rfl)) ?_
                    refine TA.asL (L' := (SS 36 52 2 cTii vq117_6_3 hsq117_6_4 (yq117_6_1) :: OwnS 3 1 vq117_11_1 (([x105.2.1] : List Int).map cI) :: Bx b107 48 [(cv (gr hs50 x73.toNat) 0), I x105.2.1, (cv (gr hs50 x73.toNat) 1), (cv (gr hs50 x73.toNat) 2)] :: OwnS 3 1 v113 (y112.map cI) :: OwnS 3 1 v115 (y114.map cI) :: OwnS 3 1 vq117_12_3 (yq117_12_1.map cI) :: OwnS 28 1 v43 (y45.map cI) :: OwnS 79 2 v46 (y48.map cTii) :: Bx b22 27 [v43, v113, v115, vq117_6_3, v70] :: SN 48 4 nT48 v11 hs50 (y49) :: OwnS 67 4 v15 (y51.map cTiiiiu32) :: Bx bq10_5_1 43 [.pointer (some ⟨bq10_1_7, 0, none⟩), v11] :: Bx bq10_1_7 64 [v15, v46] :: Bx b6 27 [.slice none 0 0, .slice none 0 0, .slice none 0 0, .slice none 0 0, .slice none 0 0] :: L)) (listed' := #[true, true, true, true, true, true, true, true, true, true, true, true, true, true, true, false, false]) (by kernel_rfl) (by kernel_rfl) ?_
                    refine TA.takeW 15 rfl rfl rfl rfl (StepS.fld rfl kfieldB_27_4_4_true) (by kernel_rfl) (by kernel_rfl) (by kernel_rfl) rfl (.inl (by kernel_rfl)) ?_
                    exact TA.jump hSq117_1 (vq117_6_3, hsq117_6_4, vq117_11_1, vq117_12_3) rfl (by kernel_rfl) ⟨rfl, rfl, rfl, rfl, rfl, rfl, rfl, rfl, trivial⟩ (fun _ s => Sat.by [13, 13, 13, 13, 13, 13, 13, 13, 13, 13, 13, 13, 13, 13] 14 0 (by kernel_rfl) s)
                refine TA.lem (γ := Value × (List Value) × Value) 4 #[true, true, true, true, true, true, true, true, true, true, true, true, false, true, false, false, false] (fun (vq117_6_3, hsq117_6_4, vq117_11_1) => [(4, .pointer (some ⟨b6, 0, none⟩)), (6, .pointer (some ⟨bq10_5_1, 0, none⟩)), (7, .pointer (some ⟨b22, 0, none⟩)), (48, v11), (49, I (y49.length : Int)), (50, I x73), (83, vq117_6_3), (85, v70), (88, vq117_11_1), (90, .pointer (some ⟨b22, 0 + 3, none⟩))]) (fun (vq117_6_3, hsq117_6_4, vq117_11_1) => (SS 36 52 2 cTii vq117_6_3 hsq117_6_4 (yq117_6_1) :: OwnS 3 1 vq117_11_1 (([x105.2.1] : List Int).map cI) :: Bx b107 48 [(cv (gr hs50 x73.toNat) 0), I x105.2.1, (cv (gr hs50 x73.toNat) 1), (cv (gr hs50 x73.toNat) 2)] :: OwnS 3 1 v113 (y112.map cI) :: OwnS 3 1 v115 (y114.map cI) :: OwnS 3 1 v70 (y72.map cI) :: OwnS 28 1 v43 (y45.map cI) :: OwnS 79 2 v46 (y48.map cTii) :: Bx b22 27 [v43, v113, v115, v66, v70] :: SN 48 4 nT48 v11 hs50 (y49) :: OwnS 67 4 v15 (y51.map cTiiiiu32) :: Bx bq10_5_1 43 [.pointer (some ⟨bq10_1_7, 0, none⟩), v11] :: Bx bq10_1_7 64 [v15, v46] :: Bx b6 27 [.slice none 0 0, .slice none 0 0, .slice none 0 0, .slice none 0 0, .slice none 0 0] :: L)) ?_ fun hSq117_3 => ?_
                · rintro ⟨vq117_6_3, hsq117_6_4, vq117_11_1⟩
                  refine TA.all1 (i := 12) (by kernel_rfl) ?_
                  · refine TB.of rfl ?_
                    refine TO.app (k := 5) (f := cI) kelemB_24_3_1_8_true (by decide) rfl rfl rfl (OwnS.rd (Ent.at 1 rfl)) hkq117_12_2 (fun x c hc => by simp [Value.oneCell'] at hc ⊢; first | (obtain rfl := hc; rfl) | (rcases hc with rfl <;> rfl)) rfl rfl fun vq117_12_3 => ?_
                    refine TA.back (.inr (fun _ s => Sat.by [13, 13, 13, 13, 13, 13, 13, 13, 12, 12, 12] 11 3 (by kernel_rfl) s)) ?_
                    refine TA.asL (L' := (SS 36 52 2 cTii vq117_6_3 hsq117_6_4 (yq117_6_1) :: OwnS 3 1 vq117_11_1 (([x105.2.1] : List Int).map cI) :: Bx b107 48 [(cv (gr hs50 x73.toNat) 0), I x105.2.1, (cv (gr hs50 x73.toNat) 1), (cv (gr hs50 x73.toNat) 2)] :: OwnS 3 1 v113 (y112.map cI) :: OwnS 3 1 v115 (y114.map cI) :: OwnS 3 1 vq117_12_3 (yq117_12_1.map cI) :: OwnS 28 1 v43 (y45.map cI) :: OwnS 79 2 v46 (y48.map cTii) :: Bx b22 27 [v43, v113, v115, v66, v70] :: SN 48 4 nT48 v11 hs50 (y49) :: OwnS 67 4 v15 (y51.map cTiiiiu32) :: Bx bq10_5_1 43 [.pointer (some ⟨bq10_1_7, 0, none⟩), v11] :: Bx bq10_1_7 64 [v15, v46] :: Bx b6 27 [.slice none 0 0, .slice none 0 0, .slice none 0 0, .slice none 0 0, .slice none 0 0] :: L)) (listed' := #[true, true, true, true, true, true, true, true, true, true, true, true, true, true, false, false, false]) (by kernel_rfl) (by kernel_rfl) ?_
                    exact TA.jump hSq117_2 (vq117_6_3, hsq117_6_4, vq117_11_1, vq117_12_3) rfl (by kernel_rfl) ⟨rfl, rfl, rfl, rfl, rfl, rfl, rfl, rfl, rfl, trivial⟩ (fun _ s => Sat.by [13, 13, 13, 13, 13, 13, 13, 13, 13, 13, 13, 13, 13, 13] 14 0 (by kernel_rfl) s)
                refine TA.lem (γ := Value × (List Value)) 5 #[true, true, true, true, true, true, true, true, true, true, true, false, false, true, false, false, false] (fun (vq117_6_3, hsq117_6_4) => [(4, .pointer (some ⟨b6, 0, none⟩)), (6, .pointer (some ⟨bq10_5_1, 0, none⟩)), (7, .pointer (some ⟨b22, 0, none⟩)), (48, v11), (49, I (y49.length : Int)), (50, I x73), (83, vq117_6_3), (85, v70), (87, I x105.2.1), (90, .pointer (some ⟨b22, 0 + 3, none⟩))]) (fun (vq117_6_3, hsq117_6_4) => (SS 36 52 2 cTii vq117_6_3 hsq117_6_4 (yq117_6_1) :: Bx b107 48 [(cv (gr hs50 x73.toNat) 0), I x105.2.1, (cv (gr hs50 x73.toNat) 1), (cv (gr hs50 x73.toNat) 2)] :: OwnS 3 1 v113 (y112.map cI) :: OwnS 3 1 v115 (y114.map cI) :: OwnS 3 1 v70 (y72.map cI) :: OwnS 28 1 v43 (y45.map cI) :: OwnS 79 2 v46 (y48.map cTii) :: Bx b22 27 [v43, v113, v115, v66, v70] :: SN 48 4 nT48 v11 hs50 (y49) :: OwnS 67 4 v15 (y51.map cTiiiiu32) :: Bx bq10_5_1 43 [.pointer (some ⟨bq10_1_7, 0, none⟩), v11] :: Bx bq10_1_7 64 [v15, v46] :: Bx b6 27 [.slice none 0 0, .slice none 0 0, .slice none 0 0, .slice none 0 0, .slice none 0 0] :: L)) ?_ fun hSq117_4 => ?_
                · rintro ⟨vq117_6_3, hsq117_6_4⟩
                  refine TA.all1 (i := 11) (by kernel_rfl) ?_
                  · refine TB.of rfl ?_
                    refine TO.litS (f := cI) ([x105.2.1] : List Int) kelemB_24_3_1_8_true kinfo_3_bind_zero_some_I_0 rfl rfl (fun _ => rfl) rfl rfl (by kernel_rfl) rfl fun vq117_11_1 => ?_
                    refine TA.back (.inr (fun _ s => Sat.by [13, 13, 13, 13, 13, 13, 13, 13, 12, 12, 12] 11 3 (by kernel_rfl) s)) ?_
                    refine TA.asL (L' := (OwnS 3 1 vq117_11_1 (([x105.2.1] : List Int).map cI) :: SS 36 52 2 cTii vq117_6_3 hsq117_6_4 (yq117_6_1) :: Bx b107 48 [(cv (gr hs50 x73.toNat) 0), I x105.2.1, (cv (gr hs50 x73.toNat) 1), (cv (gr hs50 x73.toNat) 2)] :: OwnS 3 1 v113 (y112.map cI) :: OwnS 3 1 v115 (y114.map cI) :: OwnS 3 1 v70 (y72.map cI) :: OwnS 28 1 v43 (y45.map cI) :: OwnS 79 2 v46 (y48.map cTii) :: Bx b22 27 [v43, v113, v115, v66, v70] :: SN 48 4 nT48 v11 hs50 (y49) :: OwnS 67 4 v15 (y51.map cTiiiiu32) :: Bx bq10_5_1 43 [.pointer (some ⟨bq10_1_7, 0, none⟩), v11] :: Bx bq10_1_7 64 [v15, v46] :: Bx b6 27 [.slice none 0 0, .slice none 0 0, .slice none 0 0, .slice none 0 0, .slice none 0 0] :: L)) (listed' := #[true, true, true, true, true, true, true, true, true, true, true, true, false, true, false, false, false]) (by kernel_rfl) (by kernel_rfl) ?_
                    exact TA.jump hSq117_3 (vq117_6_3, hsq117_6_4, vq117_11_1) rfl (by kernel_rfl) ⟨rfl, rfl, rfl, rfl, rfl, rfl, rfl, rfl, rfl, rfl, trivial⟩ (fun _ s => Sat.by [13, 13, 13, 13, 13, 13, 13, 13, 13, 13, 13, 13, 12, 13] 14 0 (by kernel_rfl) s)
                refine TA.lem (γ := Value × Value × Value) 6 #[true, true, true, true, true, true, false, true, true, true, true, true, false, false, false, false, false] (fun (vq117_5_1, vq117_4_3, vq117_11_1) => [(4, .pointer (some ⟨b6, 0, none⟩)), (6, .pointer (some ⟨bq10_5_1, 0, none⟩)), (7, .pointer (some ⟨b22, 0, none⟩)), (48, v11), (49, I (y49.length : Int)), (50, I x73), (78, v66), (82, vq117_5_1), (85, v70), (88, vq117_11_1)]) (fun (vq117_5_1, vq117_4_3, vq117_11_1) => (OwnS 36 1 vq117_5_1 ([()].map (fun (_ : Unit) => [vq117_4_3])) :: OwnS 52 2 vq117_4_3 (rq117_4_1.map cTii) :: OwnS 3 1 vq117_11_1 (([x105.2.1] : List Int).map cI) :: Bx b107 48 [(cv (gr hs50 x73.toNat) 0), I x105.2.1, (cv (gr hs50 x73.toNat) 1), (cv (gr hs50 x73.toNat) 2)] :: OwnS 3 1 v113 (y112.map cI) :: OwnS 3 1 v115 (y114.map cI) :: SS 36 52 2 cTii v66 hs67 (y69) :: OwnS 3 1 v70 (y72.map cI) :: OwnS 28 1 v43 (y45.map cI) :: OwnS 79 2 v46 (y48.map cTii) :: Bx b22 27 [v43, v113, v115, v66, v70] :: SN 48 4 nT48 v11 hs50 (y49) :: OwnS 67 4 v15 (y51.map cTiiiiu32) :: Bx bq10_5_1 43 [.pointer (some ⟨bq10_1_7, 0, none⟩), v11] :: Bx bq10_1_7 64 [v15, v46] :: Bx b6 27 [.slice none 0 0, .slice none 0 0, .slice none 0 0, .slice none 0 0, .slice none 0 0] :: L)) ?_ fun hSq117_5 => ?_
                · rintro ⟨vq117_5_1, vq117_4_3, vq117_11_1⟩
                  refine TA.all1 (i := 6) (by kernel_rfl) ?_
                  · refine TB.of rfl ?_
                    refine TO.ghost (fun _ s => Sat.front 6 rfl s) ?_
                    refine TO.ghost (fun _ s => Sat.front 2 rfl s) ?_
                    refine TO.appSS (row := rq117_4_1) rfl kelemB_25_36_1_24_true rfl rfl (OwnS.rd (Ent.at 0 rfl)) hkq117_6_2 rfl rfl fun vq117_6_3 hsq117_6_4 => ?_
                    refine TO.ghost (fun _ s => Sat.erase 1 s) ?_
                    refine TA.back (.inr (fun _ s => Sat.by [13, 13, 13, 13, 13, 13, 13, 13, 12, 12, 12] 11 3 (by kernel_rfl) s)) ?_
                    refine TA.asL (L' := (SS 36 52 2 cTii vq117_6_3 hsq117_6_4 (yq117_6_1) :: OwnS 3 1 vq117_11_1 (([x105.2.1] : List Int).map cI) :: Bx b107 48 [(cv (gr hs50 x73.toNat) 0), I x105.2.1, (cv (gr hs50 x73.toNat) 1), (cv (gr hs50 x73.toNat) 2)] :: OwnS 3 1 v113 (y112.map cI) :: OwnS 3 1 v115 (y114.map cI) :: OwnS 3 1 v70 (y72.map cI) :: OwnS 28 1 v43 (y45.map cI) :: OwnS 79 2 v46 (y48.map cTii) :: Bx b22 27 [v43, v113, v115, v66, v70] :: SN 48 4 nT48 v11 hs50 (y49) :: OwnS 67 4 v15 (y51.map cTiiiiu32) :: Bx bq10_5_1 43 [.pointer (some ⟨bq10_1_7, 0, none⟩), v11] :: Bx bq10_1_7 64 [v15, v46] :: Bx b6 27 [.slice none 0 0, .slice none 0 0, .slice none 0 0, .slice none 0 0, .slice none 0 0] :: L)) (listed' := #[true, true, true, true, true, true, true, true, true, true, true, true, false, false, false, false, false]) (by kernel_rfl) (by kernel_rfl) ?_
                    refine TA.takeW 13 rfl rfl rfl rfl (StepS.fld rfl kfieldB_27_3_3_true) (by kernel_rfl) (by kernel_rfl) (by kernel_rfl) rfl (.inr (fun _ s => Sat.by [13, 13, 13, 13, 13, 13, 13, 13, 12, 12, 12] 11 3 (by kernel_rfl) s)) ?_
                    exact TA.jump hSq117_3 (vq117_6_3, hsq117_6_4, vq117_11_1) rfl (by kernel_rfl) ⟨rfl, rfl, rfl, rfl, rfl, rfl, rfl, rfl, rfl, rfl, trivial⟩ (fun _ s => Sat.by [13, 13, 13, 13, 13, 13, 13, 13, 13, 13, 13, 13, 13, 13] 14 0 (by kernel_rfl) s)
                refine TA.lem (γ := Value × (List Value)) 6 #[true, true, true, true, true, true, true, true, true, true, false, false, false, true, false, false, false] (fun (vq117_6_3, hsq117_6_4) => [(4, .pointer (some ⟨b6, 0, none⟩)), (6, .pointer (some ⟨bq10_5_1, 0, none⟩)), (7, .pointer (some ⟨b22, 0, none⟩)), (48, v11), (49, I (y49.length : Int)), (50, I x73), (83, vq117_6_3), (85, v70), (86, .pointer (some ⟨b107, 0 + 1, none⟩)), (90, .pointer (some ⟨b22, 0 + 3, none⟩))]) (fun (vq117_6_3, hsq117_6_4) => (SS 36 52 2 cTii vq117_6_3 hsq117_6_4 (yq117_6_1) :: Bx b107 48 [(cv (gr hs50 x73.toNat) 0), I x105.2.1, (cv (gr hs50 x73.toNat) 1), (cv (gr hs50 x73.toNat) 2)] :: OwnS 3 1 v113 (y112.map cI) :: OwnS 3 1 v115 (y114.map cI) :: OwnS 3 1 v70 (y72.map cI) :: OwnS 28 1 v43 (y45.map cI) :: OwnS 79 2 v46 (y48.map cTii) :: Bx b22 27 [v43, v113, v115, v66, v70] :: SN 48 4 nT48 v11 hs50 (y49) :: OwnS 67 4 v15 (y51.map cTiiiiu32) :: Bx bq10_5_1 43 [.pointer (some ⟨bq10_1_7, 0, none⟩), v11] :: Bx bq10_1_7 64 [v15, v46] :: Bx b6 27 [.slice none 0 0, .slice none 0 0, .slice none 0 0, .slice none 0 0, .slice none 0 0] :: L)) ?_ fun hSq117_6 => ?_
                · rintro ⟨vq117_6_3, hsq117_6_4⟩
                  refine TA.all1 (i := 10) (by kernel_rfl) ?_
                  · refine TB.of rfl ?_
                    refine TO.s rfl rfl rfl (StepS.ldB rfl (Ent.at 1 rfl) kscalB_3_true rfl) ?_
                    refine TA.back (.inr (fun _ s => Sat.by [12, 12, 12, 12, 12, 12, 12, 12, 11, 11, 11] 11 2 (by kernel_rfl) s)) ?_
                    refine TA.asL (L' := (SS 36 52 2 cTii vq117_6_3 hsq117_6_4 (yq117_6_1) :: Bx b107 48 [(cv (gr hs50 x73.toNat) 0), I x105.2.1, (cv (gr hs50 x73.toNat) 1), (cv (gr hs50 x73.toNat) 2)] :: OwnS 3 1 v113 (y112.map cI) :: OwnS 3 1 v115 (y114.map cI) :: OwnS 3 1 v70 (y72.map cI) :: OwnS 28 1 v43 (y45.map cI) :: OwnS 79 2 v46 (y48.map cTii) :: Bx b22 27 [v43, v113, v115, v66, v70] :: SN 48 4 nT48 v11 hs50 (y49) :: OwnS 67 4 v15 (y51.map cTiiiiu32) :: Bx bq10_5_1 43 [.pointer (some ⟨bq10_1_7, 0, none⟩), v11] :: Bx bq10_1_7 64 [v15, v46] :: Bx b6 27 [.slice none 0 0, .slice none 0 0, .slice none 0 0, .slice none 0 0, .slice none 0 0] :: L)) (listed' := #[true, true, true, true, true, true, true, true, true, true, true, false, false, true, false, false, false]) (by kernel_rfl) (by kernel_rfl) ?_
                    exact TA.jump hSq117_4 (vq117_6_3, hsq117_6_4) rfl (by kernel_rfl) ⟨rfl, rfl, rfl, rfl, rfl, rfl, rfl, rfl, rfl, rfl, trivial⟩ (fun _ s => Sat.by [12, 12, 12, 12, 12, 12, 12, 12, 12, 12, 12, 12, 12] 13 0 (by kernel_rfl) s)
                refine TA.lem (γ := Value × Value) 7 #[true, true, true, true, true, false, false, true, true, true, true, true, false, false, false, false, false] (fun (vq117_4_3, vq117_11_1) => [(4, .pointer (some ⟨b6, 0, none⟩)), (6, .pointer (some ⟨bq10_5_1, 0, none⟩)), (7, .pointer (some ⟨b22, 0, none⟩)), (48, v11), (49, I (y49.length : Int)), (50, I x73), (78, v66), (81, vq117_4_3), (85, v70), (88, vq117_11_1)]) (fun (vq117_4_3, vq117_11_1) => (OwnS 52 2 vq117_4_3 (rq117_4_1.map cTii) :: OwnS 3 1 vq117_11_1 (([x105.2.1] : List Int).map cI) :: Bx b107 48 [(cv (gr hs50 x73.toNat) 0), I x105.2.1, (cv (gr hs50 x73.toNat) 1), (cv (gr hs50 x73.toNat) 2)] :: OwnS 3 1 v113 (y112.map cI) :: OwnS 3 1 v115 (y114.map cI) :: SS 36 52 2 cTii v66 hs67 (y69) :: OwnS 3 1 v70 (y72.map cI) :: OwnS 28 1 v43 (y45.map cI) :: OwnS 79 2 v46 (y48.map cTii) :: Bx b22 27 [v43, v113, v115, v66, v70] :: SN 48 4 nT48 v11 hs50 (y49) :: OwnS 67 4 v15 (y51.map cTiiiiu32) :: Bx bq10_5_1 43 [.pointer (some ⟨bq10_1_7, 0, none⟩), v11] :: Bx bq10_1_7 64 [v15, v46] :: Bx b6 27 [.slice none 0 0, .slice none 0 0, .slice none 0 0, .slice none 0 0, .slice none 0 0] :: L)) ?_ fun hSq117_7 => ?_
                · rintro ⟨vq117_4_3, vq117_11_1⟩
                  refine TA.all1 (i := 5) (by kernel_rfl) ?_
                  · refine TB.of rfl ?_
                    refine TO.lit1H rfl (OwnS.rd (Ent.at 0 rfl)) kelemB_25_36_1_24_true rfl fun vq117_5_1 => ?_
                    refine TA.back (.inr (fun _ s => Sat.by [15, 15, 15, 15, 15, 15, 15, 15, 13, 13, 13] 11 5 (by kernel_rfl) s)) ?_
                    refine TA.asL (L' := (OwnS 36 1 vq117_5_1 ([()].map (fun (_ : Unit) => [vq117_4_3])) :: OwnS 52 2 vq117_4_3 (rq117_4_1.map cTii) :: OwnS 3 1 vq117_11_1 (([x105.2.1] : List Int).map cI) :: Bx b107 48 [(cv (gr hs50 x73.toNat) 0), I x105.2.1, (cv (gr hs50 x73.toNat) 1), (cv (gr hs50 x73.toNat) 2)] :: OwnS 3 1 v113 (y112.map cI) :: OwnS 3 1 v115 (y114.map cI) :: SS 36 52 2 cTii v66 hs67 (y69) :: OwnS 3 1 v70 (y72.map cI) :: OwnS 28 1 v43 (y45.map cI) :: OwnS 79 2 v46 (y48.map cTii) :: Bx b22 27 [v43, v113, v115, v66, v70] :: SN 48 4 nT48 v11 hs50 (y49) :: OwnS 67 4 v15 (y51.map cTiiiiu32) :: Bx bq10_5_1 43 [.pointer (some ⟨bq10_1_7, 0, none⟩), v11] :: Bx bq10_1_7 64 [v15, v46] :: Bx b6 27 [.slice none 0 0, .slice none 0 0, .slice none 0 0, .slice none 0 0, .slice none 0 0] :: L)) (listed' := #[true, true, true, true, true, true, false, true, true, true, true, true, false, false, false, false, false]) (by kernel_rfl) (by kernel_rfl) ?_
                    exact TA.jump hSq117_5 (vq117_5_1, vq117_4_3, vq117_11_1) rfl (by kernel_rfl) ⟨rfl, rfl, rfl, rfl, rfl, rfl, rfl, rfl, rfl, rfl, trivial⟩ (fun _ s => Sat.by [15, 15, 15, 15, 15, 15, 15, 15, 15, 15, 15, 15, 15, 15, 15, 15] 16 0 (by kernel_rfl) s)
                refine TA.lem (γ := Value × Value) 7 #[true, true, true, true, true, true, false, true, true, true, true, false, false, false, false, false, false] (fun (vq117_5_1, vq117_4_3) => [(4, .pointer (some ⟨b6, 0, none⟩)), (6, .pointer (some ⟨bq10_5_1, 0, none⟩)), (7, .pointer (some ⟨b22, 0, none⟩)), (48, v11), (49, I (y49.length : Int)), (50, I x73), (78, v66), (82, vq117_5_1), (85, v70), (87, I x105.2.1)]) (fun (vq117_5_1, vq117_4_3) => (OwnS 36 1 vq117_5_1 ([()].map (fun (_ : Unit) => [vq117_4_3])) :: OwnS 52 2 vq117_4_3 (rq117_4_1.map cTii) :: Bx b107 48 [(cv (gr hs50 x73.toNat) 0), I x105.2.1, (cv (gr hs50 x73.toNat) 1), (cv (gr hs50 x73.toNat) 2)] :: OwnS 3 1 v113 (y112.map cI) :: OwnS 3 1 v115 (y114.map cI) :: SS 36 52 2 cTii v66 hs67 (y69) :: OwnS 3 1 v70 (y72.map cI) :: OwnS 28 1 v43 (y45.map cI) :: OwnS 79 2 v46 (y48.map cTii) :: Bx b22 27 [v43, v113, v115, v66, v70] :: SN 48 4 nT48 v11 hs50 (y49) :: OwnS 67 4 v15 (y51.map cTiiiiu32) :: Bx bq10_5_1 43 [.pointer (some ⟨bq10_1_7, 0, none⟩), v11] :: Bx bq10_1_7 64 [v15, v46] :: Bx b6 27 [.slice none 0 0, .slice none 0 0, .slice none 0 0, .slice none 0 0, .slice none 0 0] :: L)) ?_ fun hSq117_8 => ?_
                · rintro ⟨vq117_5_1, vq117_4_3⟩
                  refine TA.all2 (i := 6) (j := 11) (by kernel_rfl) ?_ ?_
                  · refine TB.of rfl ?_
                    refine TO.ghost (fun _ s => Sat.front 5 rfl s) ?_
                    refine TO.ghost (fun _ s => Sat.front 2 rfl s) ?_
                    refine TO.appSS (row := rq117_4_1) rfl kelemB_25_36_1_24_true rfl rfl (OwnS.rd (Ent.at 0 rfl)) hkq117_6_2 rfl rfl fun vq117_6_3 hsq117_6_4 => ?_
                    refine TO.ghost (fun _ s => Sat.erase 1 s) ?_
                    refine TA.back (.inr (fun _ s => Sat.by [12, 12, 12, 12, 12, 12, 12, 12, 11, 11, 11] 11 2 (by kernel_rfl) s)) ?_
                    refine TA.asL (L' := (SS 36 52 2 cTii vq117_6_3 hsq117_6_4 (yq117_6_1) :: Bx b107 48 [(cv (gr hs50 x73.toNat) 0), I x105.2.1, (cv (gr hs50 x73.toNat) 1), (cv (gr hs50 x73.toNat) 2)] :: OwnS 3 1 v113 (y112.map cI) :: OwnS 3 1 v115 (y114.map cI) :: OwnS 3 1 v70 (y72.map cI) :: OwnS 28 1 v43 (y45.map cI) :: OwnS 79 2 v46 (y48.map cTii) :: Bx b22 27 [v43, v113, v115, v66, v70] :: SN 48 4 nT48 v11 hs50 (y49) :: OwnS 67 4 v15 (y51.map cTiiiiu32) :: Bx bq10_5_1 43 [.pointer (some ⟨bq10_1_7, 0, none⟩), v11] :: Bx bq10_1_7 64 [v15, v46] :: Bx b6 27 [.slice none 0 0, .slice none 0 0, .slice none 0 0, .slice none 0 0, .slice none 0 0] :: L)) (listed' := #[true, true, true, true, true, true, true, true, true, true, true, false, false, false, false, false, false]) (by kernel_rfl) (by kernel_rfl) ?_
                    refine TA.takeW 13 rfl rfl rfl rfl (StepS.fld rfl kfieldB_27_3_3_true) (by kernel_rfl) (by kernel_rfl) (by kernel_rfl) rfl (.inr (fun _ s => Sat.by [12, 12, 12, 12, 12, 12, 12, 12, 11, 11, 11] 11 2 (by kernel_rfl) s)) ?_
                    exact TA.jump hSq117_4 (vq117_6_3, hsq117_6_4) rfl (by kernel_rfl) ⟨rfl, rfl, rfl, rfl, rfl, rfl, rfl, rfl, rfl, rfl, trivial⟩ (fun _ s => Sat.by [12, 12, 12, 12, 12, 12, 12, 12, 12, 12, 12, 12, 12] 13 0 (by kernel_rfl) s)
                  · refine TB.of rfl ?_
                    refine TO.litS (f := cI) ([x105.2.1] : List Int) kelemB_24_3_1_8_true kinfo_3_bind_zero_some_I_0 rfl rfl (fun _ => rfl) rfl rfl (by kernel_rfl) rfl fun vq117_11_1 => ?_
                    refine TA.back (.inr (fun _ s => Sat.by [15, 15, 15, 15, 15, 15, 15, 15, 13, 13, 13] 11 5 (by kernel_rfl) s)) ?_
                    refine TA.asL (L' := (OwnS 3 1 vq117_11_1 (([x105.2.1] : List Int).map cI) :: OwnS 36 1 vq117_5_1 ([()].map (fun (_ : Unit) => [vq117_4_3])) :: OwnS 52 2 vq117_4_3 (rq117_4_1.map cTii) :: Bx b107 48 [(cv (gr hs50 x73.toNat) 0), I x105.2.1, (cv (gr hs50 x73.toNat) 1), (cv (gr hs50 x73.toNat) 2)] :: OwnS 3 1 v113 (y112.map cI) :: OwnS 3 1 v115 (y114.map cI) :: SS 36 52 2 cTii v66 hs67 (y69) :: OwnS 3 1 v70 (y72.map cI) :: OwnS 28 1 v43 (y45.map cI) :: OwnS 79 2 v46 (y48.map cTii) :: Bx b22 27 [v43, v113, v115, v66, v70] :: SN 48 4 nT48 v11 hs50 (y49) :: OwnS 67 4 v15 (y51.map cTiiiiu32) :: Bx bq10_5_1 43 [.pointer (some ⟨bq10_1_7, 0, none⟩), v11] :: Bx bq10_1_7 64 [v15, v46] :: Bx b6 27 [.slice none 0 0, .slice none 0 0, .slice none 0 0, .slice none 0 0, .slice none 0 0] :: L)) (listed' := #[true, true, true, true, true, true, false, true, true, true, true, true, false, false, false, false, false]) (by kernel_rfl) (by kernel_rfl) ?_
                    exact TA.jump hSq117_5 (vq117_5_1, vq117_4_3, vq117_11_1) rfl (by kernel_rfl) ⟨rfl, rfl, rfl, rfl, rfl, rfl, rfl, rfl, rfl, rfl, trivial⟩ (fun _ s => Sat.by [15, 15, 15, 15, 15, 15, 15, 15, 15, 15, 15, 15, 15, 13, 15, 15] 16 0 (by kernel_rfl) s)
                refine TA.lem (γ := Value) 8 #[true, true, true, true, true, false, false, true, true, true, true, false, false, false, false, false, false] (fun vq117_4_3 => [(4, .pointer (some ⟨b6, 0, none⟩)), (6, .pointer (some ⟨bq10_5_1, 0, none⟩)), (7, .pointer (some ⟨b22, 0, none⟩)), (48, v11), (49, I (y49.length : Int)), (50, I x73), (78, v66), (81, vq117_4_3), (85, v70), (87, I x105.2.1)]) (fun vq117_4_3 => (OwnS 52 2 vq117_4_3 (rq117_4_1.map cTii) :: Bx b107 48 [(cv (gr hs50 x73.toNat) 0), I x105.2.1, (cv (gr hs50 x73.toNat) 1), (cv (gr hs50 x73.toNat) 2)] :: OwnS 3 1 v113 (y112.map cI) :: OwnS 3 1 v115 (y114.map cI) :: SS 36 52 2 cTii v66 hs67 (y69) :: OwnS 3 1 v70 (y72.map cI) :: OwnS 28 1 v43 (y45.map cI) :: OwnS 79 2 v46 (y48.map cTii) :: Bx b22 27 [v43, v113, v115, v66, v70] :: SN 48 4 nT48 v11 hs50 (y49) :: OwnS 67 4 v15 (y51.map cTiiiiu32) :: Bx bq10_5_1 43 [.pointer (some ⟨bq10_1_7, 0, none⟩), v11] :: Bx bq10_1_7 64 [v15, v46] :: Bx b6 27 [.slice none 0 0, .slice none 0 0, .slice none 0 0, .slice none 0 0, .slice none 0 0] :: L)) ?_ fun hSq117_9 => ?_
                · intro vq117_4_3
                  refine TA.all2 (i := 5) (j := 11) (by kernel_rfl) ?_ ?_
                  · refine TB.of rfl ?_
                    refine TO.lit1H rfl (OwnS.rd (Ent.at 0 rfl)) kelemB_25_36_1_24_true rfl fun vq117_5_1 => ?_
                    refine TA.back (.inr (fun _ s => Sat.by [14, 14, 14, 14, 14, 14, 14, 14, 12, 12, 12] 11 4 (by kernel_rfl) s)) ?_
                    refine TA.asL (L' := (OwnS 36 1 vq117_5_1 ([()].map (fun (_ : Unit) => [vq117_4_3])) :: OwnS 52 2 vq117_4_3 (rq117_4_1.map cTii) :: Bx b107 48 [(cv (gr hs50 x73.toNat) 0), I x105.2.1, (cv (gr hs50 x73.toNat) 1), (cv (gr hs50 x73.toNat) 2)] :: OwnS 3 1 v113 (y112.map cI) :: OwnS 3 1 v115 (y114.map cI) :: SS 36 52 2 cTii v66 hs67 (y69) :: OwnS 3 1 v70 (y72.map cI) :: OwnS 28 1 v43 (y45.map cI) :: OwnS 79 2 v46 (y48.map cTii) :: Bx b22 27 [v43, v113, v115, v66, v70] :: SN 48 4 nT48 v11 hs50 (y49) :: OwnS 67 4 v15 (y51.map cTiiiiu32) :: Bx bq10_5_1 43 [.pointer (some ⟨bq10_1_7, 0, none⟩), v11] :: Bx bq10_1_7 64 [v15, v46] :: Bx b6 27 [.slice none 0 0, .slice none 0 0, .slice none 0 0, .slice none 0 0, .slice none 0 0] :: L)) (listed' := #[true, true, true, true, true, true, false, true, true, true, true, false, false, false, false, false, false]) (by kernel_rfl) (by kernel_rfl) ?_
                    exact TA.jump hSq117_8 (vq117_5_1, vq117_4_3) rfl (by kernel_rfl) ⟨rfl, rfl, rfl, rfl, rfl, rfl, rfl, rfl, rfl, rfl, trivial⟩ (fun _ s => Sat.by [14, 14, 14, 14, 14, 14, 14, 14, 14, 14, 14, 14, 14, 14, 14] 15 0 (by kernel_rfl) s)
                  · refine TB.of rfl ?_
                    refine TO.litS (f := cI) ([x105.2.1] : List Int) kelemB_24_3_1_8_true kinfo_3_bind_zero_some_I_0 rfl rfl (fun _ => rfl) rfl rfl (by kernel_rfl) rfl fun vq117_11_1 => ?_
                    refine TA.back (.inr (fun _ s => Sat.by [14, 14, 14, 14, 14, 14, 14, 14, 12, 12, 12] 11 4 (by kernel_rfl) s)) ?_
                    refine TA.asL (L' := (OwnS 3 1 vq117_11_1 (([x105.2.1] : List Int).map cI) :: OwnS 52 2 vq117_4_3 (rq117_4_1.map cTii) :: Bx b107 48 [(cv (gr hs50 x73.toNat) 0), I x105.2.1, (cv (gr hs50 x73.toNat) 1), (cv (gr hs50 x73.toNat) 2)] :: OwnS 3 1 v113 (y112.map cI) :: OwnS 3 1 v115 (y114.map cI) :: SS 36 52 2 cTii v66 hs67 (y69) :: OwnS 3 1 v70 (y72.map cI) :: OwnS 28 1 v43 (y45.map cI) :: OwnS 79 2 v46 (y48.map cTii) :: Bx b22 27 [v43, v113, v115, v66, v70] :: SN 48 4 nT48 v11 hs50 (y49) :: OwnS 67 4 v15 (y51.map cTiiiiu32) :: Bx bq10_5_1 43 [.pointer (some ⟨bq10_1_7, 0, none⟩), v11] :: Bx bq10_1_7 64 [v15, v46] :: Bx b6 27 [.slice none 0 0, .slice none 0 0, .slice none 0 0, .slice none 0 0, .slice none 0 0] :: L)) (listed' := #[true, true, true, true, true, false, false, true, true, true, true, true, false, false, false, false, false]) (by kernel_rfl) (by kernel_rfl) ?_
                    exact TA.jump hSq117_7 (vq117_4_3, vq117_11_1) rfl (by kernel_rfl) ⟨rfl, rfl, rfl, rfl, rfl, rfl, rfl, rfl, rfl, rfl, trivial⟩ (fun _ s => Sat.by [14, 14, 14, 14, 14, 14, 14, 14, 14, 14, 14, 14, 14, 13, 14] 15 0 (by kernel_rfl) s)
                refine TA.lem (γ := Value) 8 #[true, true, true, true, false, false, false, true, true, true, true, true, false, false, false, false, false] (fun vq117_11_1 => [(4, .pointer (some ⟨b6, 0, none⟩)), (6, .pointer (some ⟨bq10_5_1, 0, none⟩)), (7, .pointer (some ⟨b22, 0, none⟩)), (48, v11), (49, I (y49.length : Int)), (50, I x73), (78, v66), (80, (cv (gr hs50 x73.toNat) 0)), (85, v70), (88, vq117_11_1)]) (fun vq117_11_1 => (OwnS 3 1 vq117_11_1 (([x105.2.1] : List Int).map cI) :: Bx b107 48 [(cv (gr hs50 x73.toNat) 0), I x105.2.1, (cv (gr hs50 x73.toNat) 1), (cv (gr hs50 x73.toNat) 2)] :: OwnS 3 1 v113 (y112.map cI) :: OwnS 3 1 v115 (y114.map cI) :: SS 36 52 2 cTii v66 hs67 (y69) :: OwnS 3 1 v70 (y72.map cI) :: OwnS 28 1 v43 (y45.map cI) :: OwnS 79 2 v46 (y48.map cTii) :: Bx b22 27 [v43, v113, v115, v66, v70] :: SN 48 4 nT48 v11 hs50 (y49) :: OwnS 67 4 v15 (y51.map cTiiiiu32) :: Bx bq10_5_1 43 [.pointer (some ⟨bq10_1_7, 0, none⟩), v11] :: Bx bq10_1_7 64 [v15, v46] :: Bx b6 27 [.slice none 0 0, .slice none 0 0, .slice none 0 0, .slice none 0 0, .slice none 0 0] :: L)) ?_ fun hSq117_10 => ?_
                · intro vq117_11_1
                  refine TA.all1 (i := 4) (by kernel_rfl) ?_
                  · refine TB.of rfl ?_
                    refine TO.callO kcallB_14_true rfl rfl rfl (fun _ st => C14 (OwnS.rd (SN.piece (Ent.at 9 rfl) hx106 0 rfl)) hcq117_4_2 st) ?_
                    rintro vq117_4_3 _ ⟨_, rfl, rfl⟩
                    refine TA.back (.inr (fun _ s => Sat.by [14, 14, 14, 14, 14, 14, 14, 14, 12, 12, 12] 11 4 (by kernel_rfl) s)) ?_
                    refine TA.asL (L' := (OwnS 52 2 vq117_4_3 (rq117_4_1.map cTii) :: OwnS 3 1 vq117_11_1 (([x105.2.1] : List Int).map cI) :: Bx b107 48 [(cv (gr hs50 x73.toNat) 0), I x105.2.1, (cv (gr hs50 x73.toNat) 1), (cv (gr hs50 x73.toNat) 2)] :: OwnS 3 1 v113 (y112.map cI) :: OwnS 3 1 v115 (y114.map cI) :: SS 36 52 2 cTii v66 hs67 (y69) :: OwnS 3 1 v70 (y72.map cI) :: OwnS 28 1 v43 (y45.map cI) :: OwnS 79 2 v46 (y48.map cTii) :: Bx b22 27 [v43, v113, v115, v66, v70] :: SN 48 4 nT48 v11 hs50 (y49) :: OwnS 67 4 v15 (y51.map cTiiiiu32) :: Bx bq10_5_1 43 [.pointer (some ⟨bq10_1_7, 0, none⟩), v11] :: Bx bq10_1_7 64 [v15, v46] :: Bx b6 27 [.slice none 0 0, .slice none 0 0, .slice none 0 0, .slice none 0 0, .slice none 0 0] :: L)) (listed' := #[true, true, true, true, true, false, false, true, true, true, true, true, false, false, false, false, false]) (by kernel_rfl) (by kernel_rfl) ?_
                    exact TA.jump hSq117_7 (vq117_4_3, vq117_11_1) rfl (by kernel_rfl) ⟨rfl, rfl, rfl, rfl, rfl, rfl, rfl, rfl, rfl, rfl, trivial⟩ (fun _ s => Sat.by [14, 14, 14, 14, 14, 14, 14, 14, 14, 14, 14, 14, 14, 14, 14] 15 0 (by kernel_rfl) s)
                refine TA.lem (γ := Value × Value) 8 #[true, true, true, true, true, true, false, true, true, true, false, false, false, false, false, false, false] (fun (vq117_5_1, vq117_4_3) => [(4, .pointer (some ⟨b6, 0, none⟩)), (6, .pointer (some ⟨bq10_5_1, 0, none⟩)), (7, .pointer (some ⟨b22, 0, none⟩)), (48, v11), (49, I (y49.length : Int)), (50, I x73), (78, v66), (82, vq117_5_1), (85, v70), (86, .pointer (some ⟨b107, 0 + 1, none⟩))]) (fun (vq117_5_1, vq117_4_3) => (OwnS 36 1 vq117_5_1 ([()].map (fun (_ : Unit) => [vq117_4_3])) :: OwnS 52 2 vq117_4_3 (rq117_4_1.map cTii) :: Bx b107 48 [(cv (gr hs50 x73.toNat) 0), I x105.2.1, (cv (gr hs50 x73.toNat) 1), (cv (gr hs50 x73.toNat) 2)] :: OwnS 3 1 v113 (y112.map cI) :: OwnS 3 1 v115 (y114.map cI) :: SS 36 52 2 cTii v66 hs67 (y69) :: OwnS 3 1 v70 (y72.map cI) :: OwnS 28 1 v43 (y45.map cI) :: OwnS 79 2 v46 (y48.map cTii) :: Bx b22 27 [v43, v113, v115, v66, v70] :: SN 48 4 nT48 v11 hs50 (y49) :: OwnS 67 4 v15 (y51.map cTiiiiu32) :: Bx bq10_5_1 43 [.pointer (some ⟨bq10_1_7, 0, none⟩), v11] :: Bx bq10_1_7 64 [v15, v46] :: Bx b6 27 [.slice none 0 0, .slice none 0 0, .slice none 0 0, .slice none 0 0, .slice none 0 0] :: L)) ?_ fun hSq117_11 => ?_
                · rintro ⟨vq117_5_1, vq117_4_3⟩
                  refine TA.all2 (i := 6) (j := 10) (by kernel_rfl) ?_ ?_
                  · refine TB.of rfl ?_
                    refine TO.ghost (fun _ s => Sat.front 5 rfl s) ?_
                    refine TO.ghost (fun _ s => Sat.front 2 rfl s) ?_
                    refine TO.appSS (row := rq117_4_1) rfl kelemB_25_36_1_24_true rfl rfl (OwnS.rd (Ent.at 0 rfl)) hkq117_6_2 rfl rfl fun vq117_6_3 hsq117_6_4 => ?_
                    refine TO.ghost (fun _ s => Sat.erase 1 s) ?_
                    refine TA.back (.inr (fun _ s => Sat.by [12, 12, 12, 12, 12, 12, 12, 12, 11, 11, 11] 11 2 (by kernel_rfl) s)) ?_
                    refine TA.asL (L' := (SS 36 52 2 cTii vq117_6_3 hsq117_6_4 (yq117_6_1) :: Bx b107 48 [(cv (gr hs50 x73.toNat) 0), I x105.2.1, (cv (gr hs50 x73.toNat) 1), (cv (gr hs50 x73.toNat) 2)] :: OwnS 3 1 v113 (y112.map cI) :: OwnS 3 1 v115 (y114.map cI) :: OwnS 3 1 v70 (y72.map cI) :: OwnS 28 1 v43 (y45.map cI) :: OwnS 79 2 v46 (y48.map cTii) :: Bx b22 27 [v43, v113, v115, v66, v70] :: SN 48 4 nT48 v11 hs50 (y49) :: OwnS 67 4 v15 (y51.map cTiiiiu32) :: Bx bq10_5_1 43 [.pointer (some ⟨bq10_1_7, 0, none⟩), v11] :: Bx bq10_1_7 64 [v15, v46] :: Bx b6 27 [.slice none 0 0, .slice none 0 0, .slice none 0 0, .slice none 0 0, .slice none 0 0] :: L)) (listed' := #[true, true, true, true, true, true, true, true, true, true, false, false, false, false, false, false, false]) (by kernel_rfl) (by kernel_rfl) ?_
                    refine TA.takeW 13 rfl rfl rfl rfl (StepS.fld rfl kfieldB_27_3_3_true) (by kernel_rfl) (by kernel_rfl) (by kernel_rfl) rfl (.inr (fun _ s => Sat.by [12, 12, 12, 12, 12, 12, 12, 12, 11, 11, 11] 11 2 (by kernel_rfl) s)) ?_
                    exact TA.jump hSq117_6 (vq117_6_3, hsq117_6_4) rfl (by kernel_rfl) ⟨rfl, rfl, rfl, rfl, rfl, rfl, rfl, rfl, rfl, rfl, trivial⟩ (fun _ s => Sat.by [12, 12, 12, 12, 12, 12, 12, 12, 12, 12, 12, 12, 12] 13 0 (by kernel_rfl) s)
                  · refine TB.of rfl ?_
                    refine TO.s rfl rfl rfl (StepS.ldB rfl (Ent.at 2 rfl) kscalB_3_true rfl) ?_
                    refine TA.back (.inr (fun _ s => Sat.by [14, 14, 14, 14, 14, 14, 14, 14, 12, 12, 12] 11 4 (by kernel_rfl) s)) ?_
                    refine TA.asL (L' := (OwnS 36 1 vq117_5_1 ([()].map (fun (_ : Unit) => [vq117_4_3])) :: OwnS 52 2 vq117_4_3 (rq117_4_1.map cTii) :: Bx b107 48 [(cv (gr hs50 x73.toNat) 0), I x105.2.1, (cv (gr hs50 x73.toNat) 1), (cv (gr hs50 x73.toNat) 2)] :: OwnS 3 1 v113 (y112.map cI) :: OwnS 3 1 v115 (y114.map cI) :: SS 36 52 2 cTii v66 hs67 (y69) :: OwnS 3 1 v70 (y72.map cI) :: OwnS 28 1 v43 (y45.map cI) :: OwnS 79 2 v46 (y48.map cTii) :: Bx b22 27 [v43, v113, v115, v66, v70] :: SN 48 4 nT48 v11 hs50 (y49) :: OwnS 67 4 v15 (y51.map cTiiiiu32) :: Bx bq10_5_1 43 [.pointer (some ⟨bq10_1_7, 0, none⟩), v11] :: Bx bq10_1_7 64 [v15, v46] :: Bx b6 27 [.slice none 0 0, .slice none 0 0, .slice none 0 0, .slice none 0 0, .slice none 0 0] :: L)) (listed' := #[true, true, true, true, true, true, false, true, true, true, true, false, false, false, false, false, false]) (by kernel_rfl) (by kernel_rfl) ?_
                    exact TA.jump hSq117_8 (vq117_5_1, vq117_4_3) rfl (by kernel_rfl) ⟨rfl, rfl, rfl, rfl, rfl, rfl, rfl, rfl, rfl, rfl, trivial⟩ (fun _ s => Sat.by [14, 14, 14, 14, 14, 14, 14, 14, 14, 14, 14, 14, 14, 14, 14] 15 0 (by kernel_rfl) s)
                refine TA.lem (γ := Value) 9 #[true, true, true, true, true, false, false, true, true, true, false, false, false, false, false, false, false] (fun vq117_4_3 => [(4, .pointer (some ⟨b6, 0, none⟩)), (6, .pointer (some ⟨bq10_5_1, 0, none⟩)), (7, .pointer (some ⟨b22, 0, none⟩)), (48, v11), (49, I (y49.length : Int)), (50, I x73), (78, v66), (81, vq117_4_3), (85, v70), (86, .pointer (some ⟨b107, 0 + 1, none⟩))]) (fun vq117_4_3 => (OwnS 52 2 vq117_4_3 (rq117_4_1.map cTii) :: Bx b107 48 [(cv (gr hs50 x73.toNat) 0), I x105.2.1, (cv (gr hs50 x73.toNat) 1), (cv (gr hs50 x73.toNat) 2)] :: OwnS 3 1 v113 (y112.map cI) :: OwnS 3 1 v115 (y114.map cI) :: SS 36 52 2 cTii v66 hs67 (y69) :: OwnS 3 1 v70 (y72.map cI) :: OwnS 28 1 v43 (y45.map cI) :: OwnS 79 2 v46 (y48.map cTii) :: Bx b22 27 [v43, v113, v115, v66, v70] :: SN 48 4 nT48 v11 hs50 (y49) :: OwnS 67 4 v15 (y51.map cTiiiiu32) :: Bx bq10_5_1 43 [.pointer (some ⟨bq10_1_7, 0, none⟩), v11] :: Bx bq10_1_7 64 [v15, v46] :: Bx b6 27 [.slice none 0 0, .slice none 0 0, .slice none 0 0, .slice none 0 0, .slice none 0 0] :: L)) ?_ fun hSq117_12 => ?_
                · intro vq117_4_3
                  refine TA.all2 (i := 5) (j := 10) (by kernel_rfl) ?_ ?_
                  · refine TB.of rfl ?_
                    refine TO.lit1H rfl (OwnS.rd (Ent.at 0 rfl)) kelemB_25_36_1_24_true rfl fun vq117_5_1 => ?_
                    refine TA.back (.inr (fun _ s => Sat.by [14, 14, 14, 14, 14, 14, 14, 14, 12, 12, 12] 11 4 (by kernel_rfl) s)) ?_
                    refine TA.asL (L' := (OwnS 36 1 vq117_5_1 ([()].map (fun (_ : Unit) => [vq117_4_3])) :: OwnS 52 2 vq117_4_3 (rq117_4_1.map cTii) :: Bx b107 48 [(cv (gr hs50 x73.toNat) 0), I x105.2.1, (cv (gr hs50 x73.toNat) 1), (cv (gr hs50 x73.toNat) 2)] :: OwnS 3 1 v113 (y112.map cI) :: OwnS 3 1 v115 (y114.map cI) :: SS 36 52 2 cTii v66 hs67 (y69) :: OwnS 3 1 v70 (y72.map cI) :: OwnS 28 1 v43 (y45.map cI) :: OwnS 79 2 v46 (y48.map cTii) :: Bx b22 27 [v43, v113, v115, v66, v70] :: SN 48 4 nT48 v11 hs50 (y49) :: OwnS 67 4 v15 (y51.map cTiiiiu32) :: Bx bq10_5_1 43 [.pointer (some ⟨bq10_1_7, 0, none⟩), v11] :: Bx bq10_1_7 64 [v15, v46] :: Bx b6 27 [.slice none 0 0, .slice none 0 0, .slice none 0 0, .slice none 0 0, .slice none 0 0] :: L)) (listed' := #[true, true, true, true, true, true, false, true, true, true, false, false, false, false, false, false, false]) (by kernel_rfl) (by kernel_rfl) ?_
                    exact TA.jump hSq117_11 (vq117_5_1, vq117_4_3) rfl (by kernel_rfl) ⟨rfl, rfl, rfl, rfl, rfl, rfl, rfl, rfl, rfl, rfl, trivial⟩ (fun _ s => Sat.by [14, 14, 14, 14, 14, 14, 14, 14, 14, 14, 14, 14, 14, 14, 14] 15 0 (by kernel_rfl) s)
                  · refine TB.of rfl ?_
                    refine TO.s rfl rfl rfl (StepS.ldB rfl (Ent.at 1 rfl) kscalB_3_true rfl) ?_
                    refine TA.back (.inr (fun _ s => Sat.by [13, 13, 13, 13, 13, 13, 13, 13, 11, 11, 11] 11 3 (by kernel_rfl) s)) ?_
                    refine TA.asL (L' := (OwnS 52 2 vq117_4_3 (rq117_4_1.map cTii) :: Bx b107 48 [(cv (gr hs50 x73.toNat) 0), I x105.2.1, (cv (gr hs50 x73.toNat) 1), (cv (gr hs50 x73.toNat) 2)] :: OwnS 3 1 v113 (y112.map cI) :: OwnS 3 1 v115 (y114.map cI) :: SS 36 52 2 cTii v66 hs67 (y69) :: OwnS 3 1 v70 (y72.map cI) :: OwnS 28 1 v43 (y45.map cI) :: OwnS 79 2 v46 (y48.map cTii) :: Bx b22 27 [v43, v113, v115, v66, v70] :: SN 48 4 nT48 v11 hs50 (y49) :: OwnS 67 4 v15 (y51.map cTiiiiu32) :: Bx bq10_5_1 43 [.pointer (some ⟨bq10_1_7, 0, none⟩), v11] :: Bx bq10_1_7 64 [v15, v46] :: Bx b6 27 [.slice none 0 0, .slice none 0 0, .slice none 0 0, .slice none 0 0, .slice none 0 0] :: L)) (listed' := #[true, true, true, true, true, false, false, true, true, true, true, false, false, false, false, false, false]) (by kernel_rfl) (by kernel_rfl) ?_
                    exact TA.jump hSq117_9 vq117_4_3 rfl (by kernel_rfl) ⟨rfl, rfl, rfl, rfl, rfl, rfl, rfl, rfl, rfl, rfl, trivial⟩ (fun _ s => Sat.by [13, 13, 13, 13, 13, 13, 13, 13, 13, 13, 13, 13, 13, 13] 14 0 (by kernel_rfl) s)
                refine TA.lem (γ := Unit) 9 #[true, true, true, true, false, false, false, true, true, true, true, false, false, false, false, false, false] (fun _ => [(4, .pointer (some ⟨b6, 0, none⟩)), (6, .pointer (some ⟨bq10_5_1, 0, none⟩)), (7, .pointer (some ⟨b22, 0, none⟩)), (48, v11), (49, I (y49.length : Int)), (50, I x73), (78, v66), (80, (cv (gr hs50 x73.toNat) 0)), (85, v70), (87, I x105.2.1)]) (fun _ => (Bx b107 48 [(cv (gr hs50 x73.toNat) 0), I x105.2.1, (cv (gr hs50 x73.toNat) 1), (cv (gr hs50 x73.toNat) 2)] :: OwnS 3 1 v113 (y112.map cI) :: OwnS 3 1 v115 (y114.map cI) :: SS 36 52 2 cTii v66 hs67 (y69) :: OwnS 3 1 v70 (y72.map cI) :: OwnS 28 1 v43 (y45.map cI) :: OwnS 79 2 v46 (y48.map cTii) :: Bx b22 27 [v43, v113, v115, v66, v70] :: SN 48 4 nT48 v11 hs50 (y49) :: OwnS 67 4 v15 (y51.map cTiiiiu32) :: Bx bq10_5_1 43 [.pointer (some ⟨bq10_1_7, 0, none⟩), v11] :: Bx bq10_1_7 64 [v15, v46] :: Bx b6 27 [.slice none 0 0, .slice none 0 0, .slice none 0 0, .slice none 0 0, .slice none 0 0] :: L)) ?_ fun hSq117_13 => ?_
                · intro _
                  refine TA.all2 (i := 4) (j := 11) (by kernel_rfl) ?_ ?_
                  · refine TB.of rfl ?_
                    refine TO.callO kcallB_14_true rfl rfl rfl (fun _ st => C14 (OwnS.rd (SN.piece (Ent.at 8 rfl) hx106 0 rfl)) hcq117_4_2 st) ?_
                    rintro vq117_4_3 _ ⟨_, rfl, rfl⟩
                    refine TA.back (.inr (fun _ s => Sat.by [13, 13, 13, 13, 13, 13, 13, 13, 11, 11, 11] 11 3 (by kernel_rfl) s)) ?_
                    refine TA.asL (L' := (OwnS 52 2 vq117_4_3 (rq117_4_1.map cTii) :: Bx b107 48 [(cv (gr hs50 x73.toNat) 0), I x105.2.1, (cv (gr hs50 x73.toNat) 1), (cv (gr hs50 x73.toNat) 2)] :: OwnS 3 1 v113 (y112.map cI) :: OwnS 3 1 v115 (y114.map cI) :: SS 36 52 2 cTii v66 hs67 (y69) :: OwnS 3 1 v70 (y72.map cI) :: OwnS 28 1 v43 (y45.map cI) :: OwnS 79 2 v46 (y48.map cTii) :: Bx b22 27 [v43, v113, v115, v66, v70] :: SN 48 4 nT48 v11 hs50 (y49) :: OwnS 67 4 v15 (y51.map cTiiiiu32) :: Bx bq10_5_1 43 [.pointer (some ⟨bq10_1_7, 0, none⟩), v11] :: Bx bq10_1_7 64 [v15, v46] :: Bx b6 27 [.slice none 0 0, .slice none 0 0, .slice none 0 0, .slice none 0 0, .slice none 0 0] :: L)) (listed' := #[true, true, true, true, true, false, false, true, true, true, true, false, false, false, false, false, false]) (by kernel_rfl) (by kernel_rfl) ?_
                    exact TA.jump hSq117_9 vq117_4_3 rfl (by kernel_rfl) ⟨rfl, rfl, rfl, rfl, rfl, rfl, rfl, rfl, rfl, rfl, trivial⟩ (fun _ s => Sat.by [13, 13, 13, 13, 13, 13, 13, 13, 13, 13, 13, 13, 13, 13] 14 0 (by kernel_rfl) s)
                  · refine TB.of rfl ?_
                    refine TO.litS (f := cI) ([x105.2.1] : List Int) kelemB_24_3_1_8_true kinfo_3_bind_zero_some_I_0 rfl rfl (fun _ => rfl) rfl rfl (by kernel_rfl) rfl fun vq117_11_1 => ?_
                    refine TA.back (.inr (fun _ s => Sat.by [13, 13, 13, 13, 13, 13, 13, 13, 11, 11, 11] 11 3 (by kernel_rfl) s)) ?_
                    refine TA.asL (L' := (OwnS 3 1 vq117_11_1 (([x105.2.1] : List Int).map cI) :: Bx b107 48 [(cv (gr hs50 x73.toNat) 0), I x105.2.1, (cv (gr hs50 x73.toNat) 1), (cv (gr hs50 x73.toNat) 2)] :: OwnS 3 1 v113 (y112.map cI) :: OwnS 3 1 v115 (y114.map cI) :: SS 36 52 2 cTii v66 hs67 (y69) :: OwnS 3 1 v70 (y72.map cI) :: OwnS 28 1 v43 (y45.map cI) :: OwnS 79 2 v46 (y48.map cTii) :: Bx b22 27 [v43, v113, v115, v66, v70] :: SN 48 4 nT48 v11 hs50 (y49) :: OwnS 67 4 v15 (y51.map cTiiiiu32) :: Bx bq10_5_1 43 [.pointer (some ⟨bq10_1_7, 0, none⟩), v11] :: Bx bq10_1_7 64 [v15, v46] :: Bx b6 27 [.slice none 0 0, .slice none 0 0, .slice none 0 0, .slice none 0 0, .slice none 0 0] :: L)) (listed' := #[true, true, true, true, false, false, false, true, true, true, true, true, false, false, false, false, false]) (by kernel_rfl) (by kernel_rfl) ?_
                    exact TA.jump hSq117_10 vq117_11_1 rfl (by kernel_rfl) ⟨rfl, rfl, rfl, rfl, rfl, rfl, rfl, rfl, rfl, rfl, trivial⟩ (fun _ s => Sat.by [13, 13, 13, 13, 13, 13, 13, 13, 13, 13, 13, 13, 13, 13] 14 0 (by kernel_rfl) s)
                refine TA.all2 (i := 4) (j := 10) (by kernel_rfl) ?_ ?_
                · refine TB.of rfl ?_
                  refine TO.callO kcallB_14_true rfl rfl rfl (fun _ st => C14 (OwnS.rd (SN.piece (Ent.at 8 rfl) hx106 0 rfl)) hcq117_4_2 st) ?_
                  rintro vq117_4_3 _ ⟨_, rfl, rfl⟩
                  refine TA.back (.inr (fun _ s => Sat.by [13, 13, 13, 13, 13, 13, 13, 13, 11, 11, 11] 11 3 (by kernel_rfl) s)) ?_
                  refine TA.asL (L' := (OwnS 52 2 vq117_4_3 (rq117_4_1.map cTii) :: Bx b107 48 [(cv (gr hs50 x73.toNat) 0), I x105.2.1, (cv (gr hs50 x73.toNat) 1), (cv (gr hs50 x73.toNat) 2)] :: OwnS 3 1 v113 (y112.map cI) :: OwnS 3 1 v115 (y114.map cI) :: SS 36 52 2 cTii v66 hs67 (y69) :: OwnS 3 1 v70 (y72.map cI) :: OwnS 28 1 v43 (y45.map cI) :: OwnS 79 2 v46 (y48.map cTii) :: Bx b22 27 [v43, v113, v115, v66, v70] :: SN 48 4 nT48 v11 hs50 (y49) :: OwnS 67 4 v15 (y51.map cTiiiiu32) :: Bx bq10_5_1 43 [.pointer (some ⟨bq10_1_7, 0, none⟩), v11] :: Bx bq10_1_7 64 [v15, v46] :: Bx b6 27 [.slice none 0 0, .slice none 0 0, .slice none 0 0, .slice none 0 0, .slice none 0 0] :: L)) (listed' := #[true, true, true, true, true, false, false, true, true, true, false, false, false, false, false, false, false]) (by kernel_rfl) (by kernel_rfl) ?_
                  exact TA.jump hSq117_12 vq117_4_3 rfl (by kernel_rfl) ⟨rfl, rfl, rfl, rfl, rfl, rfl, rfl, rfl, rfl, rfl, trivial⟩ (fun _ s => Sat.by [13, 13, 13, 13, 13, 13, 13, 13, 13, 13, 13, 13, 13, 13] 14 0 (by kernel_rfl) s)
                · refine TB.of rfl ?_
                  refine TO.s rfl rfl rfl (StepS.ldB rfl (Ent.at 0 rfl) kscalB_3_true rfl) ?_
                  refine TA.back (.inr (fun _ s => Sat.by [12, 12, 12, 12, 12, 12, 12, 12, 10, 10, 10] 11 2 (by kernel_rfl) s)) ?_
                  refine TA.asL (L' := (Bx b107 48 [(cv (gr hs50 x73.toNat) 0), I x105.2.1, (cv (gr hs50 x73.toNat) 1), (cv (gr hs50 x73.toNat) 2)] :: OwnS 3 1 v113 (y112.map cI) :: OwnS 3 1 v115 (y114.map cI) :: SS 36 52 2 cTii v66 hs67 (y69) :: OwnS 3 1 v70 (y72.map cI) :: OwnS 28 1 v43 (y45.map cI) :: OwnS 79 2 v46 (y48.map cTii) :: Bx b22 27 [v43, v113, v115, v66, v70] :: SN 48 4 nT48 v11 hs50 (y49) :: OwnS 67 4 v15 (y51.map cTiiiiu32) :: Bx bq10_5_1 43 [.pointer (some ⟨bq10_1_7, 0, none⟩), v11] :: Bx bq10_1_7 64 [v15, v46] :: Bx b6 27 [.slice none 0 0, .slice none 0 0, .slice none 0 0, .slice none 0 0, .slice none 0 0] :: L)) (listed' := #[true, true, true, true, false, false, false, true, true, true, true, false, false, false, false, false, false]) (by kernel_rfl) (by kernel_rfl) ?_
                  exact TA.jump hSq117_13 () rfl (by kernel_rfl) ⟨rfl, rfl, rfl, rfl, rfl, rfl, rfl, rfl, rfl, rfl, trivial⟩ (fun _ s => Sat.by [12, 12, 12, 12, 12, 12, 12, 12, 12, 12, 12, 12, 12] 13 0 (by kernel_rfl) s)
              · intro a w ⟨v119, hs120, v122, he, hs⟩
                refine TC.use ?_ he hs
                refine TC.region ?_
                refine TO.s rfl rfl rfl (StepS.ari rfl rfl rfl) ?_
                refine TO.s rfl rfl rfl (StepS.move rfl) ?_
                cases hb103
                refine TO.nil fun a w e s => ?_
                exact ⟨v113, v115, v119, hs120, v122, e.sub (lk_of_allIn ⟨rfl, rfl, rfl, rfl, rfl, rfl, trivial⟩), s.mono fun _ => Sat.dropN 1⟩
          · replace hb103 := cond_f hc104 hb103
            cases hb103
            refine TC.exit rfl fun a w e s => ?_
            exact ⟨v60, v63, v66, hs67, v70, e.sub (lk_of_allIn ⟨rfl, rfl, trivial⟩), s⟩
        · exact fun a w e s => ⟨.slice none 0 0, .slice none 0 0, .slice none 0 0, [], .slice none 0 0, e.sub (lk_of_allIn ⟨rfl, rfl, rfl, rfl, rfl, rfl, trivial⟩), s.mono fun _ s => (by replace s := Sat.nilS (e := 3) (sz := 1) (f := cI) s; replace s := Sat.nilSS (e := 36) (ee := 52) (sz := 2) (f := cTii) s; replace s := Sat.nilS (e := 3) (sz := 1) (f := cI) s; replace s := Sat.nilS (e := 3) (sz := 1) (f := cI) s; exact Sat.by [11, 11, 11, 11, 11, 11, 11, 11, 11, 11, 11, 11] 12 0 (by kernel_rfl) s)⟩
        · rintro ⟨y90, y93, y97, y100⟩ rfl a w ⟨v88, v91, v94, hs95, v98, he, hs⟩
          dsimp only [Ctl.on] at hm
          refine TC.use ?_ he hs
          refine TC.k ?_
          refine TC.region ?_
          refine TO.s rfl rfl rfl (StepS.ldBA rfl (Ent.at 6 rfl) kaggB_27_5_true rfl rfl) ?_
          refine TO.pure (fun _ s => Rd.one (OwnS.rd (Ent.at 4 rfl)) s) fun oc124 => ?_
          refine TO.pure (fun _ s => Rd.one (OwnS.rd (Ent.at 0 rfl)) s) fun oc125 => ?_
          refine TO.pure (fun _ s => Rd.one (OwnS.rd (Ent.at 1 rfl)) s) fun oc126 => ?_
          refine TO.pure (fun _ s => Rd.one (RR.top (SS.rr (Ent.at 2 rfl))) s) fun oc127 => ?_
          refine TO.pure (fun _ s => Rd.one (OwnS.rd (Ent.at 3 rfl)) s) fun oc128 => ?_
          refine TO.stB (us := [v43, v88, v91, v94, v98]) 11 [v43, v88, v91, v94, v98] rfl rfl rfl ksizeB_27_5_true rfl rfl rfl (by intro u hu; simp only [List.mem_cons, List.not_mem_nil, or_false] at hu; rcases hu with rfl | rfl | rfl | rfl | rfl <;> first | exact oc124.1 | exact oc125.1 | exact oc126.1 | exact oc127.1 | exact oc128.1 | rfl) rfl ?_
          refine TO.s rfl rfl rfl (StepS.assign rfl) ?_
          refine TO.code ?_
          cases hm
          refine TC.ret fun a w e s => ?_
          refine FRet.cell2 (P := Try.prog) (fn := Try.f4) e s rfl rfl rfl (Ent.at 11 rfl) kaggB_27_5_true rfl ?_
          refine ⟨_, _, rfl, ⟨(v43), (v88), (v91), (v94), (hs95), (v98), rfl, rfl⟩, ?_⟩
          refine s.mono fun _ s => ?_
          exact Sat.by [3, 3, 3, 3, 4] 5 7 (by kernel_rfl) s
        · rintro r rfl
          exact fun a w h => h.elim
      · rintro r rfl
        exact fun a w h => h.elim
end Go.Proofs.Ytacggcanjanmkaa
