/-
  The walks: each Go function returns what its model says. Written by a program (gen.py).
-/
import Derived.Test.YtmfidlalejdikaaProg
import Derived.KernelRfl
import Derived.Test.YtmfidlalejdikaaAM
namespace Go.Proofs.Ytmfidlalejdikaa
open Go Go.Bk
set_option linter.unusedVariables false
set_option linter.unnecessarySimpa false
theorem ksliceB_22_58_3_true : sliceB Try.prog 22 58 3 = true := by kernel_rfl
theorem kaggB_58_3_true : aggB Try.prog 58 3 = true := by kernel_rfl
theorem kinfo_58_bind_zero_some_agg_I_0_I_0_I_0 : (Try.prog.info? 58).bind (·.zero) = some (.agg #[I 0, I 0, I 0]) := by kernel_rfl
theorem ksizeB_58_3_true : sizeB Try.prog 58 3 = true := by kernel_rfl
theorem kfieldB_58_0_0_true : fieldB Try.prog 58 0 0 = true := by kernel_rfl
theorem kscalB_3_true : scalB Try.prog 3 = true := by kernel_rfl
theorem kfieldB_58_1_1_true : fieldB Try.prog 58 1 1 = true := by kernel_rfl
theorem kfieldB_58_2_2_true : fieldB Try.prog 58 2 2 = true := by kernel_rfl
theorem kmapB_59_3_3_true : mapB Try.prog 59 3 3 = true := by kernel_rfl
theorem kcallB_15_true : callB Try.prog 15 = true := by kernel_rfl
theorem kcallB_16_true : callB Try.prog 16 = true := by kernel_rfl
theorem kelemB_61_60_1_4_true : elemB Try.prog 61 60 1 4 = true := by kernel_rfl
theorem kinfo_60_bind_zero_some_U_0 : (Try.prog.info? 60).bind (·.zero) = some (U 0) := by kernel_rfl
theorem kunderlying_3_some_int_i64 : Try.prog.underlying 3 = some (.int .i64) := by kernel_rfl
theorem ksliceB_61_60_1_true : sliceB Try.prog 61 60 1 = true := by kernel_rfl
theorem kscalB_60_true : scalB Try.prog 60 = true := by kernel_rfl
theorem ksizeB_60_1_true : sizeB Try.prog 60 1 = true := by kernel_rfl
theorem kfollows_mixedOrders_true : Try.prog.follows .mixedOrders = true := by kernel_rfl
theorem kmapGB_78_3_60_true : mapGB Try.prog 78 3 60 = true := by kernel_rfl
theorem kcallB_40_true : callB Try.prog 40 = true := by kernel_rfl
theorem kelemB_29_28_1_24_true : elemB Try.prog 29 28 1 24 = true := by kernel_rfl
theorem kinfo_28_bind_zero_some_slice_none_0_0 : (Try.prog.info? 28).bind (·.zero) = some (.slice none 0 0) := by kernel_rfl
theorem kelemB_28_4_1_1_true : elemB Try.prog 28 4 1 1 = true := by kernel_rfl
theorem kinfo_4_bind_zero_some_bool_false : (Try.prog.info? 4).bind (·.zero) = some (.bool false) := by kernel_rfl
theorem ksliceB_29_28_1_true : sliceB Try.prog 29 28 1 = true := by kernel_rfl
theorem ksizeB_28_1_true : sizeB Try.prog 28 1 = true := by kernel_rfl
theorem kscalB_28_true : scalB Try.prog 28 = true := by kernel_rfl
theorem ksliceB_28_4_1_true : sliceB Try.prog 28 4 1 = true := by kernel_rfl
theorem ksizeB_4_1_true : sizeB Try.prog 4 1 = true := by kernel_rfl
theorem kscalB_4_true : scalB Try.prog 4 = true := by kernel_rfl
theorem kcallB_17_true : callB Try.prog 17 = true := by kernel_rfl
theorem kcallB_18_true : callB Try.prog 18 = true := by kernel_rfl
theorem kunderlying_4_some_bool : Try.prog.underlying 4 = some .bool := by kernel_rfl
theorem kintB_60_u32_true : intB Try.prog 60 .u32 = true := by kernel_rfl
theorem kintB_3_i64_true : intB Try.prog 3 .i64 = true := by kernel_rfl
theorem kcallB_19_true : callB Try.prog 19 = true := by kernel_rfl
theorem ksliceB_34_3_1_true : sliceB Try.prog 34 3 1 = true := by kernel_rfl
theorem kcallB_41_true : callB Try.prog 41 = true := by kernel_rfl
theorem kcallB_20_true : callB Try.prog 20 = true := by kernel_rfl
theorem kcallB_21_true : callB Try.prog 21 = true := by kernel_rfl
theorem kcallB_22_true : callB Try.prog 22 = true := by kernel_rfl
theorem kelemB_34_3_1_8_true : elemB Try.prog 34 3 1 8 = true := by kernel_rfl
theorem kinfo_3_bind_zero_some_I_0 : (Try.prog.info? 3).bind (·.zero) = some (I 0) := by kernel_rfl
theorem ksizeB_3_1_true : sizeB Try.prog 3 1 = true := by kernel_rfl
theorem kcallB_54_true : callB Try.prog 54 = true := by kernel_rfl
theorem kcallB_55_true : callB Try.prog 55 = true := by kernel_rfl
theorem kcallB_45_true : callB Try.prog 45 = true := by kernel_rfl
theorem kcallB_46_true : callB Try.prog 46 = true := by kernel_rfl
theorem kcallB_35_true : callB Try.prog 35 = true := by kernel_rfl
theorem kcallB_33_true : callB Try.prog 33 = true := by kernel_rfl
theorem kcallB_34_true : callB Try.prog 34 = true := by kernel_rfl
theorem kcallB_36_true : callB Try.prog 36 = true := by kernel_rfl
theorem kcallB_42_true : callB Try.prog 42 = true := by kernel_rfl
theorem kcallB_23_true : callB Try.prog 23 = true := by kernel_rfl
theorem kcallB_25_true : callB Try.prog 25 = true := by kernel_rfl
theorem kcallB_24_true : callB Try.prog 24 = true := by kernel_rfl

set_option maxRecDepth 100000 in
theorem C15 {B : World} {L : List HP} {a0 : Int} {a1 : List (Int × Int × Int)} {h1 : Value} {r0 : Int} (e1 : Ent L (Rd 3 h1 (a1.map cTiii))) (hm : F15 a0 a1 = some r0) {w : World} (st : St B L w) : Calls Try.prog 15 #[I a0, h1] w (fun e w' => (e = .returned (I r0) ∧ St B (L) w')) := by
  refine calls_of (N := 73) (L := L) (args := [I a0, h1]) Try.func15 rfl rfl rfl ?_ st
  dsimp only [F15] at hm
  refine TC.k ?_
  refine TC.region ?_
  refine TO.s rfl rfl rfl (StepS.assign rfl) ?_
  refine TO.code ?_
  refine TC.k ?_
  refine TC.k ?_
  refine TC.region ?_
  refine TO.s rfl rfl rfl (StepS.move rfl) ?_
  refine TO.s rfl rfl rfl (StepS.cmp rfl rfl rfl) ?_
  refine TO.s rfl rfl rfl (StepS.move rfl) ?_
  refine TO.mid1 3 13 (.bool ((decide (a0 < 1)) || (decide (a0 > 6)))) ?_ ?_
  · refine bcase ((decide (a0 < 1))) (fun hb1 => ?_) (fun hb1 => ?_)
    · refine TO.skip rfl rfl rfl (skipT hb1) rfl rfl ?_
      refine TO.skip rfl rfl rfl (skipT hb1) rfl rfl ?_
      refine TO.s rfl rfl rfl (StepS.pickT rfl hb1 rfl) ?_
      exact TO.up1 3 0 rfl rfl (by rw [hb1]; rfl) rfl
    · refine TO.sw rfl rfl rfl hb1 rfl rfl (StepS.move rfl) ?_
      refine TO.sw rfl rfl rfl hb1 rfl rfl (StepS.cmp rfl rfl rfl) ?_
      refine TO.s rfl rfl rfl (StepS.pickF rfl hb1 rfl) ?_
      exact TO.up1 3 0 rfl rfl (by rw [hb1]; rfl) rfl
  refine TO.s rfl rfl rfl (StepS.move rfl) ?_
  refine TO.mid1 4 18 (.bool (((decide (a0 < 1)) || (decide (a0 > 6))) || (decide ((a1.length : Int) > 30)))) ?_ ?_
  · refine bcase (((decide (a0 < 1)) || (decide (a0 > 6)))) (fun hb2 => ?_) (fun hb2 => ?_)
    · refine TO.skip rfl rfl rfl (skipT hb2) rfl rfl ?_
      refine TO.skip rfl rfl rfl (skipT hb2) rfl rfl ?_
      refine TO.skip rfl rfl rfl (skipT hb2) rfl rfl ?_
      refine TO.s rfl rfl rfl (StepS.pickT rfl hb2 rfl) ?_
      exact TO.up1 4 0 rfl rfl (by rw [hb2]; rfl) rfl
    · refine TO.sw rfl rfl rfl hb2 rfl rfl (StepS.move rfl) ?_
      refine TO.sw rfl rfl rfl hb2 rfl rfl (StepS.lenm rfl e1 ksliceB_22_58_3_true rfl) ?_
      refine TO.sw rfl rfl rfl hb2 rfl rfl (StepS.cmp rfl rfl rfl) ?_
      refine TO.s rfl rfl rfl (StepS.pickF rfl hb2 rfl) ?_
      exact TO.up1 4 0 rfl rfl (by rw [hb2]; rfl) rfl
  refine TO.code ?_
  refine TC.cond rfl (fun hc3 => ?_) (fun hc3 => ?_)
  · replace hm := cond_t hc3 hm
    refine TC.k ?_
    refine TC.region ?_
    refine TO.s rfl rfl rfl (StepS.assign rfl) ?_
    refine TO.code ?_
    cases hm
    refine TC.ret fun a w e s => ?_
    refine FRet.mk1 (P := Try.prog) (fn := Try.f15) (t := 4) e rfl rfl ?_
    exact ⟨rfl, s.mono fun _ => Sat.dropN 0⟩
  · replace hm := cond_f hc3 hm
    refine TC.skipk ?_
    refine TC.k ?_
    refine TC.region ?_
    refine TO.mkM rfl fun r4 => ?_
    refine TO.s rfl rfl rfl (StepS.assign rfl) ?_
    refine TO.code ?_
    refine TC.k ?_
    refine TC.k ?_
    refine TC.region ?_
    refine TO.s rfl rfl rfl (StepS.move rfl) ?_
    refine TO.s rfl rfl rfl (StepS.lenm rfl e1.tl ksliceB_22_58_3_true rfl) ?_
    refine TO.s rfl rfl rfl (StepS.move rfl) ?_
    refine TO.code ?_
    obtain ⟨o11, hw12, hm⟩ := bind_some hm
    refine TC.loop hw12 (fun (y6, x7) => fun a w => Mid 73 B [(0, I a0), (5, .map (some r4)), (20, h1), (21, I (a1.length : Int)), (22, I x7)] (Mp r4 (y6) :: L) a w) (fun y10 => fun a w => Mid 73 B [] (Mp r4 (y10) :: L) a w) (fun r0 => FRet Try.prog Try.f15 (fun e w' => (e = .returned (I r0) ∧ St B (L) w'))) ?_ ?_ ?_ ?_
    · rintro ⟨y6, x7⟩ o11r hb13 a w ⟨he, hs⟩
      dsimp only [F15_L0] at hb13
      refine TC.use ?_ he hs
      refine TC.k ?_
      refine TC.region ?_
      refine TO.s rfl rfl rfl (StepS.cmp rfl rfl rfl) ?_
      refine TO.code ?_
      refine TC.k ?_
      refine TC.cond rfl (fun hc14 => ?_) (fun hc14 => ?_)
      · replace hb13 := cond_t hc14 hb13
        refine TC.skipk ?_
        refine TC.k ?_
        refine TC.block ?_
        refine TC.k ?_
        refine TC.region ?_
        obtain ⟨x15, hx16, hb13⟩ := bind_some hb13
        refine TO.s rfl rfl rfl (StepS.idx rfl rfl e1.tl ksliceB_22_58_3_true (idx_spec hx16).1 (idxm_lt hx16)) ?_
        refine TO.s rfl rfl rfl (StepS.ldE rfl e1.tl kaggB_58_3_true rfl (idxm hx16)) ?_
        refine TO.alloc kinfo_58_bind_zero_some_agg_I_0_I_0_I_0 rfl rfl fun b17 => ?_
        refine TO.stB (us := [I x15.1, I x15.2.1, I x15.2.2]) 0 [I x15.1, I x15.2.1, I x15.2.2] rfl rfl rfl ksizeB_58_3_true rfl rfl rfl (by simp [Value.oneCell']) rfl ?_
        refine TO.code ?_
        refine TC.k ?_
        refine TC.block ?_
        refine TC.k ?_
        refine TC.region ?_
        refine TO.s rfl rfl rfl (StepS.fld rfl kfieldB_58_0_0_true) ?_
        refine TO.s rfl rfl rfl (StepS.ldB rfl (Ent.at 0 rfl) kscalB_3_true rfl) ?_
        refine TO.s rfl rfl rfl (StepS.cmp rfl rfl rfl) ?_
        refine TO.s rfl rfl rfl (StepS.move rfl) ?_
        refine TO.mid1 5 35 (.bool ((decide (x15.1 < 0)) || (decide (x15.1 ≥ a0)))) ?_ ?_
        · refine bcase ((decide (x15.1 < 0))) (fun hb18 => ?_) (fun hb18 => ?_)
          · refine TO.skip rfl rfl rfl (skipT hb18) rfl rfl ?_
            refine TO.skip rfl rfl rfl (skipT hb18) rfl rfl ?_
            refine TO.skip rfl rfl rfl (skipT hb18) rfl rfl ?_
            refine TO.skip rfl rfl rfl (skipT hb18) rfl rfl ?_
            refine TO.s rfl rfl rfl (StepS.pickT rfl hb18 rfl) ?_
            exact TO.up1 5 0 rfl rfl (by rw [hb18]; rfl) rfl
          · refine TO.sw rfl rfl rfl hb18 rfl rfl (StepS.fld rfl kfieldB_58_0_0_true) ?_
            refine TO.sw rfl rfl rfl hb18 rfl rfl (StepS.ldB rfl (Ent.at 0 rfl) kscalB_3_true rfl) ?_
            refine TO.sw rfl rfl rfl hb18 rfl rfl (StepS.move rfl) ?_
            refine TO.sw rfl rfl rfl hb18 rfl rfl (StepS.cmp rfl rfl rfl) ?_
            refine TO.s rfl rfl rfl (StepS.pickF rfl hb18 rfl) ?_
            exact TO.up1 5 0 rfl rfl (by rw [hb18]; rfl) rfl
        refine TO.s rfl rfl rfl (StepS.assign rfl) ?_
        refine TO.code ?_
        refine TC.cond rfl (fun hc19 => ?_) (fun hc19 => ?_)
        · replace hb13 := cond_t hc19 hb13
          refine TC.k ?_
          refine TC.region ?_
          refine TO.s rfl rfl rfl (StepS.assign rfl) ?_
          refine TO.code ?_
          cases hb13
          refine TC.ret fun a w e s => ?_
          refine FRet.mk1 (P := Try.prog) (fn := Try.f15) (t := 4) e rfl rfl ?_
          exact ⟨rfl, s.mono fun _ => Sat.dropN 2⟩
        · replace hb13 := cond_f hc19 hb13
          refine TC.k ?_
          refine TC.region ?_
          refine TO.s rfl rfl rfl (StepS.fld rfl kfieldB_58_1_1_true) ?_
          refine TO.s rfl rfl rfl (StepS.ldB rfl (Ent.at 0 rfl) kscalB_3_true rfl) ?_
          refine TO.s rfl rfl rfl (StepS.cmp rfl rfl rfl) ?_
          refine TO.s rfl rfl rfl (StepS.move rfl) ?_
          refine TO.mid1 4 44 (.bool ((decide (x15.2.1 < 1)) || (decide (x15.2.1 > 3)))) ?_ ?_
          · refine bcase ((decide (x15.2.1 < 1))) (fun hb20 => ?_) (fun hb20 => ?_)
            · refine TO.skip rfl rfl rfl (skipT hb20) rfl rfl ?_
              refine TO.skip rfl rfl rfl (skipT hb20) rfl rfl ?_
              refine TO.skip rfl rfl rfl (skipT hb20) rfl rfl ?_
              refine TO.s rfl rfl rfl (StepS.pickT rfl hb20 rfl) ?_
              exact TO.up1 4 0 rfl rfl (by rw [hb20]; rfl) rfl
            · refine TO.sw rfl rfl rfl hb20 rfl rfl (StepS.fld rfl kfieldB_58_1_1_true) ?_
              refine TO.sw rfl rfl rfl hb20 rfl rfl (StepS.ldB rfl (Ent.at 0 rfl) kscalB_3_true rfl) ?_
              refine TO.sw rfl rfl rfl hb20 rfl rfl (StepS.cmp rfl rfl rfl) ?_
              refine TO.s rfl rfl rfl (StepS.pickF rfl hb20 rfl) ?_
              exact TO.up1 4 0 rfl rfl (by rw [hb20]; rfl) rfl
          refine TO.s rfl rfl rfl (StepS.assign rfl) ?_
          refine TO.code ?_
          refine TC.cond rfl (fun hc21 => ?_) (fun hc21 => ?_)
          · replace hb13 := cond_t hc21 hb13
            refine TC.k ?_
            refine TC.region ?_
            refine TO.s rfl rfl rfl (StepS.assign rfl) ?_
            refine TO.code ?_
            cases hb13
            refine TC.ret fun a w e s => ?_
            refine FRet.mk1 (P := Try.prog) (fn := Try.f15) (t := 4) e rfl rfl ?_
            exact ⟨rfl, s.mono fun _ => Sat.dropN 2⟩
          · replace hb13 := cond_f hc21 hb13
            refine TC.k ?_
            refine TC.region ?_
            refine TO.s rfl rfl rfl (StepS.fld rfl kfieldB_58_1_1_true) ?_
            refine TO.s rfl rfl rfl (StepS.ldB rfl (Ent.at 0 rfl) kscalB_3_true rfl) ?_
            refine TO.s rfl rfl rfl (StepS.cmp rfl rfl rfl) ?_
            refine TO.s rfl rfl rfl (StepS.assign rfl) ?_
            refine TO.code ?_
            refine TC.cond rfl (fun hc22 => ?_) (fun hc22 => ?_)
            · replace hb13 := cond_t hc22 hb13
              refine TC.exitk rfl ?_
              refine TC.region ?_
              refine TO.s rfl rfl rfl (StepS.ari rfl rfl rfl) ?_
              refine TO.s rfl rfl rfl (StepS.move rfl) ?_
              cases hb13
              refine TO.nil fun a w e s => ?_
              exact ⟨e.sub (lk_of_allIn ⟨rfl, rfl, rfl, rfl, rfl, trivial⟩), s.mono fun _ => Sat.dropN 1⟩
            · replace hb13 := cond_f hc22 hb13
              refine TC.k ?_
              refine TC.region ?_
              refine TO.s rfl rfl rfl (StepS.fld rfl kfieldB_58_2_2_true) ?_
              refine TO.s rfl rfl rfl (StepS.ldB rfl (Ent.at 0 rfl) kscalB_3_true rfl) ?_
              refine TO.s rfl rfl rfl (StepS.cmp rfl rfl rfl) ?_
              refine TO.s rfl rfl rfl (StepS.move rfl) ?_
              refine TO.mid1 4 57 (.bool ((decide (x15.2.2 < 0)) || (decide (x15.2.2 > 20)))) ?_ ?_
              · refine bcase ((decide (x15.2.2 < 0))) (fun hb23 => ?_) (fun hb23 => ?_)
                · refine TO.skip rfl rfl rfl (skipT hb23) rfl rfl ?_
                  refine TO.skip rfl rfl rfl (skipT hb23) rfl rfl ?_
                  refine TO.skip rfl rfl rfl (skipT hb23) rfl rfl ?_
                  refine TO.s rfl rfl rfl (StepS.pickT rfl hb23 rfl) ?_
                  exact TO.up1 4 0 rfl rfl (by rw [hb23]; rfl) rfl
                · refine TO.sw rfl rfl rfl hb23 rfl rfl (StepS.fld rfl kfieldB_58_2_2_true) ?_
                  refine TO.sw rfl rfl rfl hb23 rfl rfl (StepS.ldB rfl (Ent.at 0 rfl) kscalB_3_true rfl) ?_
                  refine TO.sw rfl rfl rfl hb23 rfl rfl (StepS.cmp rfl rfl rfl) ?_
                  refine TO.s rfl rfl rfl (StepS.pickF rfl hb23 rfl) ?_
                  exact TO.up1 4 0 rfl rfl (by rw [hb23]; rfl) rfl
              refine TO.s rfl rfl rfl (StepS.assign rfl) ?_
              refine TO.code ?_
              refine TC.cond rfl (fun hc24 => ?_) (fun hc24 => ?_)
              · replace hb13 := cond_t hc24 hb13
                refine TC.k ?_
                refine TC.region ?_
                refine TO.s rfl rfl rfl (StepS.assign rfl) ?_
                refine TO.code ?_
                cases hb13
                refine TC.ret fun a w e s => ?_
                refine FRet.mk1 (P := Try.prog) (fn := Try.f15) (t := 4) e rfl rfl ?_
                exact ⟨rfl, s.mono fun _ => Sat.dropN 2⟩
              · replace hb13 := cond_f hc24 hb13
                refine TC.k ?_
                refine TC.region ?_
                refine TO.s rfl rfl rfl (StepS.move rfl) ?_
                refine TO.s rfl rfl rfl (StepS.fld rfl kfieldB_58_2_2_true) ?_
                refine TO.s rfl rfl rfl (StepS.ldB rfl (Ent.at 0 rfl) kscalB_3_true rfl) ?_
                refine TO.s rfl rfl rfl (StepS.look kmapB_59_3_3_true rfl (Ent.at 1 rfl) rfl) ?_
                refine TO.s rfl rfl rfl (StepS.fld rfl kfieldB_58_1_1_true) ?_
                refine TO.s rfl rfl rfl (StepS.ldB rfl (Ent.at 0 rfl) kscalB_3_true rfl) ?_
                refine TO.s rfl rfl rfl (StepS.ari rfl rfl rfl) ?_
                refine TO.s rfl rfl rfl (StepS.cmp rfl rfl rfl) ?_
                refine TO.s rfl rfl rfl (StepS.assign rfl) ?_
                refine TO.code ?_
                refine TC.cond rfl (fun hc25 => ?_) (fun hc25 => ?_)
                · replace hb13 := cond_t hc25 hb13
                  refine TC.k ?_
                  refine TC.region ?_
                  refine TO.s rfl rfl rfl (StepS.assign rfl) ?_
                  refine TO.code ?_
                  cases hb13
                  refine TC.ret fun a w e s => ?_
                  refine FRet.mk1 (P := Try.prog) (fn := Try.f15) (t := 4) e rfl rfl ?_
                  exact ⟨rfl, s.mono fun _ => Sat.dropN 2⟩
                · replace hb13 := cond_f hc25 hb13
                  refine TC.skipk ?_
                  refine TC.region ?_
                  refine TO.s rfl rfl rfl (StepS.move rfl) ?_
                  refine TO.s rfl rfl rfl (StepS.fld rfl kfieldB_58_2_2_true) ?_
                  refine TO.s rfl rfl rfl (StepS.ldB rfl (Ent.at 0 rfl) kscalB_3_true rfl) ?_
                  refine TO.s rfl rfl rfl (StepS.look kmapB_59_3_3_true rfl (Ent.at 1 rfl) rfl) ?_
                  refine TO.s rfl rfl rfl (StepS.ari rfl rfl rfl) ?_
                  refine TO.mset 1 kmapB_59_3_3_true rfl rfl rfl rfl ?_
                  refine TO.code ?_
                  refine TC.region ?_
                  refine TO.s rfl rfl rfl (StepS.ari rfl rfl rfl) ?_
                  refine TO.s rfl rfl rfl (StepS.move rfl) ?_
                  cases hb13
                  refine TO.nil fun a w e s => ?_
                  exact ⟨e.sub (lk_of_allIn ⟨rfl, rfl, rfl, rfl, rfl, trivial⟩), s.mono fun _ => Sat.dropN 1⟩
      · replace hb13 := cond_f hc14 hb13
        cases hb13
        refine TC.exit rfl fun a w e s => ?_
        exact ⟨e.sub (lk_of_allIn trivial), s⟩
    · exact fun a w e s => ⟨e.sub (lk_of_allIn ⟨rfl, rfl, rfl, rfl, rfl, trivial⟩), s⟩
    · rintro y10 rfl a w ⟨he, hs⟩
      dsimp only [Ctl.on] at hm
      refine TC.use ?_ he hs
      refine TC.k ?_
      refine TC.region ?_
      refine TO.s rfl rfl rfl (StepS.assign rfl) ?_
      refine TO.code ?_
      cases hm
      refine TC.ret fun a w e s => ?_
      refine FRet.mk1 (P := Try.prog) (fn := Try.f15) (t := 4) e rfl rfl ?_
      exact ⟨rfl, s.mono fun _ => Sat.dropN 1⟩
    · rintro r rfl
      cases hm
      exact fun a w h => h

set_option maxRecDepth 100000 in
theorem C16 {B : World} {L : List HP} {a0 : Int} {a1 : List (Int × Int × Int)} {h1 : Value} {r0 : Int} (e1 : Ent L (Rd 3 h1 (a1.map cTiii))) (hm : F16 a0 a1 = some r0) {w : World} (st : St B L w) : Calls Try.prog 16 #[I a0, h1] w (fun e w' => (e = .returned (I r0) ∧ St B (L) w')) := by
  refine calls_of (N := 111) (L := L) (args := [I a0, h1]) Try.func16 rfl rfl rfl ?_ st
  dsimp only [F16] at hm
  refine TC.k ?_
  refine TC.region ?_
  refine TO.s rfl rfl rfl (StepS.assign rfl) ?_
  refine TO.code ?_
  refine TC.k ?_
  refine TC.k ?_
  refine TC.region ?_
  refine TO.s rfl rfl rfl (StepS.move rfl) ?_
  refine TO.s rfl rfl rfl (StepS.cmp rfl rfl rfl) ?_
  refine TO.s rfl rfl rfl (StepS.move rfl) ?_
  refine TO.mid1 3 16 (.bool ((decide (a0 < 1)) || (decide (a0 > 6)))) ?_ ?_
  · refine bcase ((decide (a0 < 1))) (fun hb1 => ?_) (fun hb1 => ?_)
    · refine TO.skip rfl rfl rfl (skipT hb1) rfl rfl ?_
      refine TO.skip rfl rfl rfl (skipT hb1) rfl rfl ?_
      refine TO.s rfl rfl rfl (StepS.pickT rfl hb1 rfl) ?_
      exact TO.up1 3 0 rfl rfl (by rw [hb1]; rfl) rfl
    · refine TO.sw rfl rfl rfl hb1 rfl rfl (StepS.move rfl) ?_
      refine TO.sw rfl rfl rfl hb1 rfl rfl (StepS.cmp rfl rfl rfl) ?_
      refine TO.s rfl rfl rfl (StepS.pickF rfl hb1 rfl) ?_
      exact TO.up1 3 0 rfl rfl (by rw [hb1]; rfl) rfl
  refine TO.s rfl rfl rfl (StepS.move rfl) ?_
  refine TO.mid1 4 21 (.bool (((decide (a0 < 1)) || (decide (a0 > 6))) || (decide ((a1.length : Int) > 30)))) ?_ ?_
  · refine bcase (((decide (a0 < 1)) || (decide (a0 > 6)))) (fun hb2 => ?_) (fun hb2 => ?_)
    · refine TO.skip rfl rfl rfl (skipT hb2) rfl rfl ?_
      refine TO.skip rfl rfl rfl (skipT hb2) rfl rfl ?_
      refine TO.skip rfl rfl rfl (skipT hb2) rfl rfl ?_
      refine TO.s rfl rfl rfl (StepS.pickT rfl hb2 rfl) ?_
      exact TO.up1 4 0 rfl rfl (by rw [hb2]; rfl) rfl
    · refine TO.sw rfl rfl rfl hb2 rfl rfl (StepS.move rfl) ?_
      refine TO.sw rfl rfl rfl hb2 rfl rfl (StepS.lenm rfl e1 ksliceB_22_58_3_true rfl) ?_
      refine TO.sw rfl rfl rfl hb2 rfl rfl (StepS.cmp rfl rfl rfl) ?_
      refine TO.s rfl rfl rfl (StepS.pickF rfl hb2 rfl) ?_
      exact TO.up1 4 0 rfl rfl (by rw [hb2]; rfl) rfl
  refine TO.code ?_
  refine TC.cond rfl (fun hc3 => ?_) (fun hc3 => ?_)
  · replace hm := cond_t hc3 hm
    refine TC.k ?_
    refine TC.region ?_
    refine TO.s rfl rfl rfl (StepS.assign rfl) ?_
    refine TO.code ?_
    cases hm
    refine TC.ret fun a w e s => ?_
    refine FRet.mk1 (P := Try.prog) (fn := Try.f16) (t := 4) e rfl rfl ?_
    exact ⟨rfl, s.mono fun _ => Sat.dropN 0⟩
  · replace hm := cond_f hc3 hm
    refine TC.skipk ?_
    refine TC.k ?_
    refine TC.k ?_
    refine TC.region ?_
    refine TO.s rfl rfl rfl (StepS.move rfl) ?_
    refine TO.s rfl rfl rfl (StepS.lenm rfl e1 ksliceB_22_58_3_true rfl) ?_
    refine TO.s rfl rfl rfl (StepS.move rfl) ?_
    refine TO.code ?_
    obtain ⟨o6, hw7, hm⟩ := bind_some hm
    refine TC.loop hw7 (fun x4 => fun a w => Mid 111 B [(0, I a0), (1, h1), (22, h1), (23, I (a1.length : Int)), (24, I x4)] (L) a w) (fun _ => fun a w => Mid 111 B [] (L) a w) (fun r0 => FRet Try.prog Try.f16 (fun e w' => (e = .returned (I r0) ∧ St B (L) w'))) ?_ ?_ ?_ ?_
    · rintro x4 o6r hb8 a w ⟨he, hs⟩
      dsimp only [F16_L0] at hb8
      refine TC.use ?_ he hs
      refine TC.k ?_
      refine TC.region ?_
      refine TO.s rfl rfl rfl (StepS.cmp rfl rfl rfl) ?_
      refine TO.code ?_
      refine TC.k ?_
      refine TC.cond rfl (fun hc9 => ?_) (fun hc9 => ?_)
      · replace hb8 := cond_t hc9 hb8
        refine TC.skipk ?_
        refine TC.k ?_
        refine TC.block ?_
        refine TC.k ?_
        refine TC.region ?_
        refine TO.s rfl rfl rfl (StepS.move rfl) ?_
        obtain ⟨x10, hx11, hb8⟩ := bind_some hb8
        refine TO.s rfl rfl rfl (StepS.idx rfl rfl e1 ksliceB_22_58_3_true (idx_spec hx11).1 (idxm_lt hx11)) ?_
        refine TO.s rfl rfl rfl (StepS.ldE rfl e1 kaggB_58_3_true rfl (idxm hx11)) ?_
        refine TO.alloc kinfo_58_bind_zero_some_agg_I_0_I_0_I_0 rfl rfl fun b12 => ?_
        refine TO.s rfl rfl rfl (StepS.assign rfl) ?_
        refine TO.stB (us := [I x10.1, I x10.2.1, I x10.2.2]) 0 [I x10.1, I x10.2.1, I x10.2.2] rfl rfl rfl ksizeB_58_3_true rfl rfl rfl (by simp [Value.oneCell']) rfl ?_
        refine TO.code ?_
        refine TC.k ?_
        refine TC.k ?_
        refine TC.region ?_
        refine TO.s rfl rfl rfl (StepS.fld rfl kfieldB_58_0_0_true) ?_
        refine TO.s rfl rfl rfl (StepS.ldB rfl (Ent.at 0 rfl) kscalB_3_true rfl) ?_
        refine TO.s rfl rfl rfl (StepS.cmp rfl rfl rfl) ?_
        refine TO.s rfl rfl rfl (StepS.move rfl) ?_
        refine TO.mid1 5 37 (.bool ((decide (x10.1 < 0)) || (decide (x10.1 ≥ a0)))) ?_ ?_
        · refine bcase ((decide (x10.1 < 0))) (fun hb13 => ?_) (fun hb13 => ?_)
          · refine TO.skip rfl rfl rfl (skipT hb13) rfl rfl ?_
            refine TO.skip rfl rfl rfl (skipT hb13) rfl rfl ?_
            refine TO.skip rfl rfl rfl (skipT hb13) rfl rfl ?_
            refine TO.skip rfl rfl rfl (skipT hb13) rfl rfl ?_
            refine TO.s rfl rfl rfl (StepS.pickT rfl hb13 rfl) ?_
            exact TO.up1 5 0 rfl rfl (by rw [hb13]; rfl) rfl
          · refine TO.sw rfl rfl rfl hb13 rfl rfl (StepS.fld rfl kfieldB_58_0_0_true) ?_
            refine TO.sw rfl rfl rfl hb13 rfl rfl (StepS.ldB rfl (Ent.at 0 rfl) kscalB_3_true rfl) ?_
            refine TO.sw rfl rfl rfl hb13 rfl rfl (StepS.move rfl) ?_
            refine TO.sw rfl rfl rfl hb13 rfl rfl (StepS.cmp rfl rfl rfl) ?_
            refine TO.s rfl rfl rfl (StepS.pickF rfl hb13 rfl) ?_
            exact TO.up1 5 0 rfl rfl (by rw [hb13]; rfl) rfl
        refine TO.code ?_
        refine TC.cond rfl (fun hc14 => ?_) (fun hc14 => ?_)
        · replace hb8 := cond_t hc14 hb8
          refine TC.k ?_
          refine TC.region ?_
          refine TO.s rfl rfl rfl (StepS.assign rfl) ?_
          refine TO.code ?_
          cases hb8
          refine TC.ret fun a w e s => ?_
          refine FRet.mk1 (P := Try.prog) (fn := Try.f16) (t := 4) e rfl rfl ?_
          exact ⟨rfl, s.mono fun _ => Sat.dropN 1⟩
        · replace hb8 := cond_f hc14 hb8
          refine TC.skipk ?_
          refine TC.k ?_
          refine TC.k ?_
          refine TC.region ?_
          refine TO.s rfl rfl rfl (StepS.fld rfl kfieldB_58_1_1_true) ?_
          refine TO.s rfl rfl rfl (StepS.ldB rfl (Ent.at 0 rfl) kscalB_3_true rfl) ?_
          refine TO.s rfl rfl rfl (StepS.cmp rfl rfl rfl) ?_
          refine TO.s rfl rfl rfl (StepS.move rfl) ?_
          refine TO.mid1 4 45 (.bool ((decide (x10.2.1 < 1)) || (decide (x10.2.1 > 3)))) ?_ ?_
          · refine bcase ((decide (x10.2.1 < 1))) (fun hb15 => ?_) (fun hb15 => ?_)
            · refine TO.skip rfl rfl rfl (skipT hb15) rfl rfl ?_
              refine TO.skip rfl rfl rfl (skipT hb15) rfl rfl ?_
              refine TO.skip rfl rfl rfl (skipT hb15) rfl rfl ?_
              refine TO.s rfl rfl rfl (StepS.pickT rfl hb15 rfl) ?_
              exact TO.up1 4 0 rfl rfl (by rw [hb15]; rfl) rfl
            · refine TO.sw rfl rfl rfl hb15 rfl rfl (StepS.fld rfl kfieldB_58_1_1_true) ?_
              refine TO.sw rfl rfl rfl hb15 rfl rfl (StepS.ldB rfl (Ent.at 0 rfl) kscalB_3_true rfl) ?_
              refine TO.sw rfl rfl rfl hb15 rfl rfl (StepS.cmp rfl rfl rfl) ?_
              refine TO.s rfl rfl rfl (StepS.pickF rfl hb15 rfl) ?_
              exact TO.up1 4 0 rfl rfl (by rw [hb15]; rfl) rfl
          refine TO.code ?_
          refine TC.cond rfl (fun hc16 => ?_) (fun hc16 => ?_)
          · replace hb8 := cond_t hc16 hb8
            refine TC.k ?_
            refine TC.region ?_
            refine TO.s rfl rfl rfl (StepS.assign rfl) ?_
            refine TO.code ?_
            cases hb8
            refine TC.ret fun a w e s => ?_
            refine FRet.mk1 (P := Try.prog) (fn := Try.f16) (t := 4) e rfl rfl ?_
            exact ⟨rfl, s.mono fun _ => Sat.dropN 1⟩
          · replace hb8 := cond_f hc16 hb8
            refine TC.skipk ?_
            refine TC.k ?_
            refine TC.k ?_
            refine TC.region ?_
            refine TO.s rfl rfl rfl (StepS.fld rfl kfieldB_58_1_1_true) ?_
            refine TO.s rfl rfl rfl (StepS.ldB rfl (Ent.at 0 rfl) kscalB_3_true rfl) ?_
            refine TO.s rfl rfl rfl (StepS.cmp rfl rfl rfl) ?_
            refine TO.code ?_
            refine TC.cond rfl (fun hc17 => ?_) (fun hc17 => ?_)
            · replace hb8 := cond_t hc17 hb8
              refine TC.exitk rfl ?_
              refine TC.region ?_
              refine TO.s rfl rfl rfl (StepS.ari rfl rfl rfl) ?_
              refine TO.s rfl rfl rfl (StepS.move rfl) ?_
              cases hb8
              refine TO.nil fun a w e s => ?_
              exact ⟨e.sub (lk_of_allIn ⟨rfl, rfl, rfl, rfl, rfl, trivial⟩), s.mono fun _ => Sat.dropN 1⟩
            · replace hb8 := cond_f hc17 hb8
              refine TC.skipk ?_
              refine TC.k ?_
              refine TC.k ?_
              refine TC.region ?_
              refine TO.s rfl rfl rfl (StepS.fld rfl kfieldB_58_2_2_true) ?_
              refine TO.s rfl rfl rfl (StepS.ldB rfl (Ent.at 0 rfl) kscalB_3_true rfl) ?_
              refine TO.s rfl rfl rfl (StepS.cmp rfl rfl rfl) ?_
              refine TO.s rfl rfl rfl (StepS.move rfl) ?_
              refine TO.mid1 4 56 (.bool ((decide (x10.2.2 < 0)) || (decide (x10.2.2 > 20)))) ?_ ?_
              · refine bcase ((decide (x10.2.2 < 0))) (fun hb18 => ?_) (fun hb18 => ?_)
                · refine TO.skip rfl rfl rfl (skipT hb18) rfl rfl ?_
                  refine TO.skip rfl rfl rfl (skipT hb18) rfl rfl ?_
                  refine TO.skip rfl rfl rfl (skipT hb18) rfl rfl ?_
                  refine TO.s rfl rfl rfl (StepS.pickT rfl hb18 rfl) ?_
                  exact TO.up1 4 0 rfl rfl (by rw [hb18]; rfl) rfl
                · refine TO.sw rfl rfl rfl hb18 rfl rfl (StepS.fld rfl kfieldB_58_2_2_true) ?_
                  refine TO.sw rfl rfl rfl hb18 rfl rfl (StepS.ldB rfl (Ent.at 0 rfl) kscalB_3_true rfl) ?_
                  refine TO.sw rfl rfl rfl hb18 rfl rfl (StepS.cmp rfl rfl rfl) ?_
                  refine TO.s rfl rfl rfl (StepS.pickF rfl hb18 rfl) ?_
                  exact TO.up1 4 0 rfl rfl (by rw [hb18]; rfl) rfl
              refine TO.code ?_
              refine TC.cond rfl (fun hc19 => ?_) (fun hc19 => ?_)
              · replace hb8 := cond_t hc19 hb8
                refine TC.k ?_
                refine TC.region ?_
                refine TO.s rfl rfl rfl (StepS.assign rfl) ?_
                refine TO.code ?_
                cases hb8
                refine TC.ret fun a w e s => ?_
                refine FRet.mk1 (P := Try.prog) (fn := Try.f16) (t := 4) e rfl rfl ?_
                exact ⟨rfl, s.mono fun _ => Sat.dropN 1⟩
              · replace hb8 := cond_f hc19 hb8
                refine TC.skipk ?_
                refine TC.k ?_
                refine TC.region ?_
                refine TO.s rfl rfl rfl (StepS.assign rfl) ?_
                refine TO.code ?_
                refine TC.k ?_
                refine TC.region ?_
                refine TO.s rfl rfl rfl (StepS.assign rfl) ?_
                refine TO.code ?_
                refine TC.k ?_
                refine TC.k ?_
                refine TC.region ?_
                refine TO.s rfl rfl rfl (StepS.move rfl) ?_
                refine TO.s rfl rfl rfl (StepS.move rfl) ?_
                obtain ⟨y20, hs21, hb8⟩ := bind_some hb8
                obtain ⟨hs21a, hs21b, hs21c, _⟩ := slI_spec hs21
                refine TO.s rfl rfl rfl (StepS.slc rfl e1.tl ksliceB_22_58_3_true rfl rfl hs21a hs21b (by simpa using hs21c)) ?_
                refine TO.s rfl rfl rfl (StepS.lenm rfl (Ent.sub e1.tl hs21) ksliceB_22_58_3_true rfl) ?_
                refine TO.s rfl rfl rfl (StepS.move rfl) ?_
                refine TO.code ?_
                obtain ⟨o31, hw32, hb8⟩ := bind_some hb8
                refine TC.loop hw32 (fun (x23, x24, x25) => fun a w => Mid 111 B [(0, I a0), (1, h1), (6, .pointer (some ⟨b12, 0, none⟩)), (7, I x23), (8, I x24), (22, h1), (23, I (a1.length : Int)), (24, I x4), (59, (subv h1 0 x4 3)), (60, I (y20.length : Int)), (61, I x25)] (Bx b12 58 [I x10.1, I x10.2.1, I x10.2.2] :: L) a w) (fun (x29, x30) => fun a w => Mid 111 B [(0, I a0), (1, h1), (6, .pointer (some ⟨b12, 0, none⟩)), (7, I x29), (8, I x30), (22, h1), (23, I (a1.length : Int)), (24, I x4)] (Bx b12 58 [I x10.1, I x10.2.1, I x10.2.2] :: L) a w) (fun (_ : Unit) _ _ => False) ?_ ?_ ?_ ?_
                · rintro ⟨x23, x24, x25⟩ o31r hb33 a w ⟨he, hs⟩
                  dsimp only [F16_L1] at hb33
                  refine TC.use ?_ he hs
                  refine TC.k ?_
                  refine TC.region ?_
                  refine TO.s rfl rfl rfl (StepS.cmp rfl rfl rfl) ?_
                  refine TO.code ?_
                  refine TC.k ?_
                  refine TC.cond rfl (fun hc34 => ?_) (fun hc34 => ?_)
                  · replace hb33 := cond_t hc34 hb33
                    refine TC.skipk ?_
                    refine TC.k ?_
                    obtain ⟨⟨x35, x36⟩, hj37, hb33⟩ := bind_some hb33
                    first | refine TC.cutM (fun a w => Mid 111 B [(0, I a0), (1, h1), (6, .pointer (some ⟨b12, 0, none⟩)), (7, I x35), (8, I x36), (22, h1), (23, I (a1.length : Int)), (24, I x4), (59, (subv h1 0 x4 3)), (60, I (y20.length : Int)), (61, I x25)] (Bx b12 58 [I x10.1, I x10.2.1, I x10.2.2] :: L) a w) ?_ ?_ | refine TC.cutX (fun a w => Mid 111 B [(0, I a0), (1, h1), (6, .pointer (some ⟨b12, 0, none⟩)), (7, I x35), (8, I x36), (22, h1), (23, I (a1.length : Int)), (24, I x4), (59, (subv h1 0 x4 3)), (60, I (y20.length : Int)), (61, I x25)] (Bx b12 58 [I x10.1, I x10.2.1, I x10.2.2] :: L) a w) ?_ ?_
                    · refine TC.block ?_
                      refine TC.k ?_
                      refine TC.region ?_
                      obtain ⟨x38, hx39, hj37⟩ := bind_some hj37
                      refine TO.s rfl rfl rfl (StepS.idx rfl rfl (Ent.sub e1.tl hs21) ksliceB_22_58_3_true (idx_spec hx39).1 (idxm_lt hx39)) ?_
                      refine TO.s rfl rfl rfl (StepS.ldE rfl (Ent.sub e1.tl hs21) kaggB_58_3_true rfl (idxm hx39)) ?_
                      refine TO.alloc kinfo_58_bind_zero_some_agg_I_0_I_0_I_0 rfl rfl fun b40 => ?_
                      refine TO.stB (us := [I x38.1, I x38.2.1, I x38.2.2]) 0 [I x38.1, I x38.2.1, I x38.2.2] rfl rfl rfl ksizeB_58_3_true rfl rfl rfl (by simp [Value.oneCell']) rfl ?_
                      refine TO.code ?_
                      refine TC.k ?_
                      refine TC.k ?_
                      refine TC.region ?_
                      refine TO.s rfl rfl rfl (StepS.fld rfl kfieldB_58_1_1_true) ?_
                      refine TO.s rfl rfl rfl (StepS.ldB rfl (Ent.at 0 rfl) kscalB_3_true rfl) ?_
                      refine TO.s rfl rfl rfl (StepS.cmp rfl rfl rfl) ?_
                      refine TO.s rfl rfl rfl (StepS.move rfl) ?_
                      refine TO.mid1 6 74 (.bool ((x38.2.1 == 2) && (x38.2.2 == x10.2.2))) ?_ ?_
                      · refine bcase ((x38.2.1 == 2)) (fun hb41 => ?_) (fun hb41 => ?_)
                        · refine TO.sw rfl rfl rfl hb41 rfl rfl (StepS.fld rfl kfieldB_58_2_2_true) ?_
                          refine TO.sw rfl rfl rfl hb41 rfl rfl (StepS.ldB rfl (Ent.at 0 rfl) kscalB_3_true rfl) ?_
                          refine TO.sw rfl rfl rfl hb41 rfl rfl (StepS.fld rfl kfieldB_58_2_2_true) ?_
                          refine TO.sw rfl rfl rfl hb41 rfl rfl (StepS.ldB rfl (Ent.at 1 rfl) kscalB_3_true rfl) ?_
                          refine TO.sw rfl rfl rfl hb41 rfl rfl (StepS.cmp rfl rfl rfl) ?_
                          refine TO.s rfl rfl rfl (StepS.pickT rfl hb41 rfl) ?_
                          exact TO.up1 6 0 rfl rfl (by rw [hb41]; rfl) rfl
                        · refine TO.skip rfl rfl rfl (skipF hb41) rfl rfl ?_
                          refine TO.skip rfl rfl rfl (skipF hb41) rfl rfl ?_
                          refine TO.skip rfl rfl rfl (skipF hb41) rfl rfl ?_
                          refine TO.skip rfl rfl rfl (skipF hb41) rfl rfl ?_
                          refine TO.skip rfl rfl rfl (skipF hb41) rfl rfl ?_
                          refine TO.s rfl rfl rfl (StepS.pickF rfl hb41 rfl) ?_
                          exact TO.up1 6 0 rfl rfl (by rw [hb41]; rfl) rfl
                      refine TO.code ?_
                      obtain ⟨x42, hj43, hj37⟩ := bind_some hj37
                      first | refine TC.cutM (fun a w => Mid 111 B [(0, I a0), (1, h1), (6, .pointer (some ⟨b12, 0, none⟩)), (7, I x42), (8, I x24), (10, .pointer (some ⟨b40, 0, none⟩)), (22, h1), (23, I (a1.length : Int)), (24, I x4), (59, (subv h1 0 x4 3)), (60, I (y20.length : Int)), (61, I x25)] (Bx b40 58 [I x38.1, I x38.2.1, I x38.2.2] :: Bx b12 58 [I x10.1, I x10.2.1, I x10.2.2] :: L) a w) ?_ ?_ | refine TC.cutX (fun a w => Mid 111 B [(0, I a0), (1, h1), (6, .pointer (some ⟨b12, 0, none⟩)), (7, I x42), (8, I x24), (10, .pointer (some ⟨b40, 0, none⟩)), (22, h1), (23, I (a1.length : Int)), (24, I x4), (59, (subv h1 0 x4 3)), (60, I (y20.length : Int)), (61, I x25)] (Bx b40 58 [I x38.1, I x38.2.1, I x38.2.2] :: Bx b12 58 [I x10.1, I x10.2.1, I x10.2.2] :: L) a w) ?_ ?_
                      · refine TC.cond rfl (fun hc44 => ?_) (fun hc44 => ?_)
                        · replace hj43 := cond_t hc44 hj43
                          refine TC.region ?_
                          refine TO.s rfl rfl rfl (StepS.move rfl) ?_
                          refine TO.s rfl rfl rfl (StepS.ari rfl rfl rfl) ?_
                          refine TO.s rfl rfl rfl (StepS.assign rfl) ?_
                          cases hj43
                          refine TO.nil fun a w e s => ?_
                          exact ⟨e.sub (lk_of_allIn ⟨rfl, rfl, rfl, rfl, rfl, rfl, rfl, rfl, rfl, rfl, rfl, rfl, trivial⟩), s⟩
                        · replace hj43 := cond_f hc44 hj43
                          cases hj43
                          refine TC.skip fun a w e s => ?_
                          exact ⟨e.sub (lk_of_allIn ⟨rfl, rfl, rfl, rfl, rfl, rfl, rfl, rfl, rfl, rfl, rfl, rfl, trivial⟩), s⟩
                      · intro a w ⟨he, hs⟩
                        refine TC.use ?_ he hs
                        refine TC.k ?_
                        refine TC.region ?_
                        refine TO.s rfl rfl rfl (StepS.fld rfl kfieldB_58_1_1_true) ?_
                        refine TO.s rfl rfl rfl (StepS.ldB rfl (Ent.at 0 rfl) kscalB_3_true rfl) ?_
                        refine TO.s rfl rfl rfl (StepS.cmp rfl rfl rfl) ?_
                        refine TO.s rfl rfl rfl (StepS.move rfl) ?_
                        refine TO.mid1 6 86 (.bool ((x38.2.1 == 3) && (x38.2.2 == x10.2.2))) ?_ ?_
                        · refine bcase ((x38.2.1 == 3)) (fun hb45 => ?_) (fun hb45 => ?_)
                          · refine TO.sw rfl rfl rfl hb45 rfl rfl (StepS.fld rfl kfieldB_58_2_2_true) ?_
                            refine TO.sw rfl rfl rfl hb45 rfl rfl (StepS.ldB rfl (Ent.at 0 rfl) kscalB_3_true rfl) ?_
                            refine TO.sw rfl rfl rfl hb45 rfl rfl (StepS.fld rfl kfieldB_58_2_2_true) ?_
                            refine TO.sw rfl rfl rfl hb45 rfl rfl (StepS.ldB rfl (Ent.at 1 rfl) kscalB_3_true rfl) ?_
                            refine TO.sw rfl rfl rfl hb45 rfl rfl (StepS.cmp rfl rfl rfl) ?_
                            refine TO.s rfl rfl rfl (StepS.pickT rfl hb45 rfl) ?_
                            exact TO.up1 6 0 rfl rfl (by rw [hb45]; rfl) rfl
                          · refine TO.skip rfl rfl rfl (skipF hb45) rfl rfl ?_
                            refine TO.skip rfl rfl rfl (skipF hb45) rfl rfl ?_
                            refine TO.skip rfl rfl rfl (skipF hb45) rfl rfl ?_
                            refine TO.skip rfl rfl rfl (skipF hb45) rfl rfl ?_
                            refine TO.skip rfl rfl rfl (skipF hb45) rfl rfl ?_
                            refine TO.s rfl rfl rfl (StepS.pickF rfl hb45 rfl) ?_
                            exact TO.up1 6 0 rfl rfl (by rw [hb45]; rfl) rfl
                        refine TO.code ?_
                        refine TC.cond rfl (fun hc46 => ?_) (fun hc46 => ?_)
                        · replace hj37 := cond_t hc46 hj37
                          refine TC.region ?_
                          refine TO.s rfl rfl rfl (StepS.move rfl) ?_
                          refine TO.s rfl rfl rfl (StepS.ari rfl rfl rfl) ?_
                          refine TO.s rfl rfl rfl (StepS.assign rfl) ?_
                          cases hj37
                          refine TO.nil fun a w e s => ?_
                          exact ⟨e.sub (lk_of_allIn ⟨rfl, rfl, rfl, rfl, rfl, rfl, rfl, rfl, rfl, rfl, rfl, trivial⟩), s.mono fun _ => Sat.dropN 1⟩
                        · replace hj37 := cond_f hc46 hj37
                          cases hj37
                          refine TC.skip fun a w e s => ?_
                          exact ⟨e.sub (lk_of_allIn ⟨rfl, rfl, rfl, rfl, rfl, rfl, rfl, rfl, rfl, rfl, rfl, trivial⟩), s.mono fun _ => Sat.dropN 1⟩
                    · intro a w ⟨he, hs⟩
                      refine TC.use ?_ he hs
                      refine TC.region ?_
                      refine TO.s rfl rfl rfl (StepS.ari rfl rfl rfl) ?_
                      refine TO.s rfl rfl rfl (StepS.move rfl) ?_
                      cases hb33
                      refine TO.nil fun a w e s => ?_
                      exact ⟨e.sub (lk_of_allIn ⟨rfl, rfl, rfl, rfl, rfl, rfl, rfl, rfl, rfl, rfl, rfl, trivial⟩), s⟩
                  · replace hb33 := cond_f hc34 hb33
                    cases hb33
                    refine TC.exit rfl fun a w e s => ?_
                    exact ⟨e.sub (lk_of_allIn ⟨rfl, rfl, rfl, rfl, rfl, rfl, rfl, rfl, trivial⟩), s⟩
                · exact fun a w e s => ⟨e.sub (lk_of_allIn ⟨rfl, rfl, rfl, rfl, rfl, rfl, rfl, rfl, rfl, rfl, rfl, trivial⟩), s⟩
                · rintro ⟨x29, x30⟩ rfl a w ⟨he, hs⟩
                  dsimp only [Ctl.on] at hb8
                  refine TC.use ?_ he hs
                  refine TC.k ?_
                  refine TC.region ?_
                  refine TO.s rfl rfl rfl (StepS.fld rfl kfieldB_58_1_1_true) ?_
                  refine TO.s rfl rfl rfl (StepS.ldB rfl (Ent.at 0 rfl) kscalB_3_true rfl) ?_
                  refine TO.s rfl rfl rfl (StepS.cmp rfl rfl rfl) ?_
                  refine TO.s rfl rfl rfl (StepS.move rfl) ?_
                  refine TO.mid1 3 96 (.bool ((x10.2.1 == 2) && (decide (x29 > 0)))) ?_ ?_
                  · refine bcase ((x10.2.1 == 2)) (fun hb47 => ?_) (fun hb47 => ?_)
                    · refine TO.sw rfl rfl rfl hb47 rfl rfl (StepS.move rfl) ?_
                      refine TO.sw rfl rfl rfl hb47 rfl rfl (StepS.cmp rfl rfl rfl) ?_
                      refine TO.s rfl rfl rfl (StepS.pickT rfl hb47 rfl) ?_
                      exact TO.up1 3 0 rfl rfl (by rw [hb47]; rfl) rfl
                    · refine TO.skip rfl rfl rfl (skipF hb47) rfl rfl ?_
                      refine TO.skip rfl rfl rfl (skipF hb47) rfl rfl ?_
                      refine TO.s rfl rfl rfl (StepS.pickF rfl hb47 rfl) ?_
                      exact TO.up1 3 0 rfl rfl (by rw [hb47]; rfl) rfl
                  refine TO.s rfl rfl rfl (StepS.move rfl) ?_
                  refine TO.mid1 12 109 (.bool (((x10.2.1 == 2) && (decide (x29 > 0))) || ((x10.2.1 == 3) && ((x29 == 0) || (decide (x30 > 0)))))) ?_ ?_
                  · refine bcase (((x10.2.1 == 2) && (decide (x29 > 0)))) (fun hb48 => ?_) (fun hb48 => ?_)
                    · refine TO.skip rfl rfl rfl (skipT hb48) rfl rfl ?_
                      refine TO.skip rfl rfl rfl (skipT hb48) rfl rfl ?_
                      refine TO.skip rfl rfl rfl (skipT hb48) rfl rfl ?_
                      refine TO.skip rfl rfl rfl (skipT hb48) rfl rfl ?_
                      refine TO.skip rfl rfl rfl skipU rfl rfl ?_
                      refine TO.skip rfl rfl rfl skipU rfl rfl ?_
                      refine TO.skip rfl rfl rfl skipU rfl rfl ?_
                      refine TO.skip rfl rfl rfl skipU rfl rfl ?_
                      refine TO.skip rfl rfl rfl skipU rfl rfl ?_
                      refine TO.skip rfl rfl rfl skipU rfl rfl ?_
                      refine TO.skip rfl rfl rfl (skipT hb48) rfl rfl ?_
                      refine TO.s rfl rfl rfl (StepS.pickT rfl hb48 rfl) ?_
                      exact TO.up1 12 0 rfl rfl (by rw [hb48]; rfl) rfl
                    · refine TO.sw rfl rfl rfl hb48 rfl rfl (StepS.fld rfl kfieldB_58_1_1_true) ?_
                      refine TO.sw rfl rfl rfl hb48 rfl rfl (StepS.ldB rfl (Ent.at 0 rfl) kscalB_3_true rfl) ?_
                      refine TO.sw rfl rfl rfl hb48 rfl rfl (StepS.cmp rfl rfl rfl) ?_
                      refine TO.sw rfl rfl rfl hb48 rfl rfl (StepS.move rfl) ?_
                      refine TO.mid1 7 108 (.bool ((x10.2.1 == 3) && ((x29 == 0) || (decide (x30 > 0))))) ?_ ?_
                      · refine bcase ((x10.2.1 == 3)) (fun hb49 => ?_) (fun hb49 => ?_)
                        · refine TO.sw rfl rfl rfl hb49 rfl rfl (StepS.move rfl) ?_
                          refine TO.sw rfl rfl rfl hb49 rfl rfl (StepS.cmp rfl rfl rfl) ?_
                          refine TO.sw rfl rfl rfl hb49 rfl rfl (StepS.move rfl) ?_
                          refine TO.mid1 3 107 (.bool ((x29 == 0) || (decide (x30 > 0)))) ?_ ?_
                          · refine bcase ((x29 == 0)) (fun hb50 => ?_) (fun hb50 => ?_)
                            · refine TO.skip rfl rfl rfl (skipT hb50) rfl rfl ?_
                              refine TO.skip rfl rfl rfl (skipT hb50) rfl rfl ?_
                              refine TO.sw rfl rfl rfl hb49 rfl rfl (StepS.pickT rfl hb50 rfl) ?_
                              exact TO.up1 3 0 rfl rfl (by rw [hb50]; rfl) rfl
                            · refine TO.sw rfl rfl rfl hb50 rfl rfl (StepS.move rfl) ?_
                              refine TO.sw rfl rfl rfl hb50 rfl rfl (StepS.cmp rfl rfl rfl) ?_
                              refine TO.sw rfl rfl rfl hb49 rfl rfl (StepS.pickF rfl hb50 rfl) ?_
                              exact TO.up1 3 0 rfl rfl (by rw [hb50]; rfl) rfl
                          refine TO.sw rfl rfl rfl hb48 rfl rfl (StepS.pickT rfl hb49 rfl) ?_
                          exact TO.up1 5 0 rfl rfl (by rw [hb49]; rfl) rfl
                        · refine TO.skip rfl rfl rfl (skipF hb49) rfl rfl ?_
                          refine TO.skip rfl rfl rfl (skipF hb49) rfl rfl ?_
                          refine TO.skip rfl rfl rfl (skipF hb49) rfl rfl ?_
                          refine TO.skip rfl rfl rfl skipU rfl rfl ?_
                          refine TO.skip rfl rfl rfl skipU rfl rfl ?_
                          refine TO.skip rfl rfl rfl (skipF hb49) rfl rfl ?_
                          refine TO.sw rfl rfl rfl hb48 rfl rfl (StepS.pickF rfl hb49 rfl) ?_
                          exact TO.up1 7 0 rfl rfl (by rw [hb49]; rfl) rfl
                      refine TO.s rfl rfl rfl (StepS.pickF rfl hb48 rfl) ?_
                      exact TO.up1 6 0 rfl rfl (by rw [hb48]; rfl) rfl
                  refine TO.code ?_
                  refine TC.cond rfl (fun hc51 => ?_) (fun hc51 => ?_)
                  · replace hb8 := cond_t hc51 hb8
                    refine TC.k ?_
                    refine TC.region ?_
                    refine TO.s rfl rfl rfl (StepS.assign rfl) ?_
                    refine TO.code ?_
                    cases hb8
                    refine TC.ret fun a w e s => ?_
                    refine FRet.mk1 (P := Try.prog) (fn := Try.f16) (t := 4) e rfl rfl ?_
                    exact ⟨rfl, s.mono fun _ => Sat.dropN 1⟩
                  · replace hb8 := cond_f hc51 hb8
                    refine TC.skipk ?_
                    refine TC.region ?_
                    refine TO.s rfl rfl rfl (StepS.ari rfl rfl rfl) ?_
                    refine TO.s rfl rfl rfl (StepS.move rfl) ?_
                    cases hb8
                    refine TO.nil fun a w e s => ?_
                    exact ⟨e.sub (lk_of_allIn ⟨rfl, rfl, rfl, rfl, rfl, trivial⟩), s.mono fun _ => Sat.dropN 1⟩
                · rintro r rfl
                  exact fun a w h => h.elim
      · replace hb8 := cond_f hc9 hb8
        cases hb8
        refine TC.exit rfl fun a w e s => ?_
        exact ⟨e.sub (lk_of_allIn trivial), s⟩
    · exact fun a w e s => ⟨e.sub (lk_of_allIn ⟨rfl, rfl, rfl, rfl, rfl, trivial⟩), s⟩
    · rintro _ rfl a w ⟨he, hs⟩
      dsimp only [Ctl.on] at hm
      refine TC.use ?_ he hs
      refine TC.k ?_
      refine TC.region ?_
      refine TO.s rfl rfl rfl (StepS.assign rfl) ?_
      refine TO.code ?_
      cases hm
      refine TC.ret fun a w e s => ?_
      refine FRet.mk1 (P := Try.prog) (fn := Try.f16) (t := 4) e rfl rfl ?_
      exact ⟨rfl, s.mono fun _ => Sat.dropN 0⟩
    · rintro r rfl
      cases hm
      exact fun a w h => h

set_option maxRecDepth 100000 in
theorem C3 {B : World} {L : List HP} {a0 : Int} {a1 : List (Int × Int × Int)} {h1 : Value} {r0 : Bool} (e1 : Ent L (Rd 3 h1 (a1.map cTiii))) (hm : F3 a0 a1 = some r0) {w : World} (st : St B L w) : Calls Try.prog 3 #[I a0, h1] w (fun e w' => (e = .returned (.bool r0) ∧ St B (L) w')) := by
  refine calls_of (N := 12) (L := L) (args := [I a0, h1]) Try.func3 rfl rfl rfl ?_ st
  dsimp only [F3] at hm
  refine TC.k ?_
  refine TC.region ?_
  refine TO.s rfl rfl rfl (StepS.assign rfl) ?_
  refine TO.code ?_
  refine TC.k ?_
  refine TC.region ?_
  refine TO.s rfl rfl rfl (StepS.move rfl) ?_
  refine TO.s rfl rfl rfl (StepS.move rfl) ?_
  obtain ⟨r1, hc2, hm⟩ := bind_some hm
  refine TO.q rfl rfl rfl (StepQ.call kcallB_15_true rfl rfl (fun _ st => C15 e1 hc2 st)) ?_
  refine TO.s rfl rfl rfl (StepS.move rfl) ?_
  refine TO.s rfl rfl rfl (StepS.move rfl) ?_
  obtain ⟨r3, hc4, hm⟩ := bind_some hm
  refine TO.q rfl rfl rfl (StepQ.call kcallB_16_true rfl rfl (fun _ st => C16 e1 hc4 st)) ?_
  refine TO.s rfl rfl rfl (StepS.cmp rfl rfl rfl) ?_
  refine TO.s rfl rfl rfl (StepS.assign rfl) ?_
  refine TO.code ?_
  cases hm
  refine TC.ret fun a w e s => ?_
  refine FRet.mk1 (P := Try.prog) (fn := Try.f3) (t := 4) e rfl rfl ?_
  exact ⟨rfl, s.mono fun _ => Sat.dropN 0⟩

set_option maxRecDepth 100000 in
theorem C40 {B : World} {L : List HP} {a0 : Int} {a1 : List (Int × Int × Int)} {h1 : Value} {r0 : List (BitVec 32)} (e1 : Ent L (Rd 3 h1 (a1.map cTiii))) (hm : F40 a0 a1 = some r0) {w : World} (st : St B L w) : Calls Try.prog 40 #[I a0, h1] w (fun e w' => ∃ v M, e = .returned v ∧ (∃ (qv1 : Value), v = qv1 ∧ M = (OwnS 60 1 qv1 (r0.map cU) :: L)) ∧ St B M w') := by
  refine calls_of (N := 68) (L := L) (args := [I a0, h1]) Try.func40 rfl rfl rfl ?_ st
  dsimp only [F40] at hm
  refine TC.k ?_
  refine TC.region ?_
  refine TO.s rfl rfl rfl (StepS.assign rfl) ?_
  refine TO.code ?_
  refine TC.k ?_
  refine TC.region ?_
  refine TO.s rfl rfl rfl (StepS.move rfl) ?_
  obtain ⟨y2, hk3, hm⟩ := bind_some hm
  refine TO.mkS (f := cU) (za := 0) kelemB_61_60_1_4_true kinfo_60_bind_zero_some_U_0 rfl (by decide) rfl rfl hk3 rfl fun v4 => ?_
  refine TO.s rfl rfl rfl (StepS.assign rfl) ?_
  refine TO.code ?_
  refine TC.k ?_
  refine TC.region ?_
  refine TO.mkMG (kf := (fun k : Int => I k)) (vf := (fun x : BitVec 32 => U x)) rfl fun r6 => ?_
  refine TO.s rfl rfl rfl (StepS.assign rfl) ?_
  refine TO.code ?_
  refine TC.k ?_
  refine TC.region ?_
  refine TO.s rfl rfl rfl (StepS.move rfl) ?_
  refine TO.s rfl rfl rfl (StepS.lenm rfl e1.tl.tl ksliceB_22_58_3_true rfl) ?_
  obtain ⟨y8, hk9, hm⟩ := bind_some hm
  refine TO.mkS (f := cU) (za := 0) kelemB_61_60_1_4_true kinfo_60_bind_zero_some_U_0 rfl (by decide) rfl rfl hk9 rfl fun v10 => ?_
  refine TO.s rfl rfl rfl (StepS.assign rfl) ?_
  refine TO.code ?_
  refine TC.k ?_
  refine TC.k ?_
  refine TC.region ?_
  refine TO.s rfl rfl rfl (StepS.move rfl) ?_
  refine TO.s rfl rfl rfl (StepS.lenm rfl e1.tl.tl.tl ksliceB_22_58_3_true rfl) ?_
  refine TO.s rfl rfl rfl (StepS.move rfl) ?_
  refine TO.code ?_
  obtain ⟨o23, hw24, hm⟩ := bind_some hm
  refine TC.loop hw24 (fun (y12, y13, y14, x15) => fun a w => Mid 68 B [(5, v4), (6, .map (some r6)), (7, v10), (16, h1), (17, I (a1.length : Int)), (18, I x15)] (OwnS 60 1 v10 (y12.map cU) :: MpG (fun k : Int => I k) (fun x : BitVec 32 => U x) r6 (y13) :: OwnS 60 1 v4 (y14.map cU) :: L) a w) (fun (y20, y21, y22) => fun a w => Mid 68 B [(7, v10)] (OwnS 60 1 v10 (y20.map cU) :: MpG (fun k : Int => I k) (fun x : BitVec 32 => U x) r6 (y21) :: OwnS 60 1 v4 (y22.map cU) :: L) a w) (fun (_ : Unit) _ _ => False) ?_ ?_ ?_ ?_
  · rintro ⟨y12, y13, y14, x15⟩ o23r hb25 a w ⟨he, hs⟩
    dsimp only [F40_L0] at hb25
    refine TC.use ?_ he hs
    refine TC.k ?_
    refine TC.region ?_
    refine TO.s rfl rfl rfl (StepS.cmp rfl rfl rfl) ?_
    refine TO.code ?_
    refine TC.k ?_
    refine TC.cond rfl (fun hc26 => ?_) (fun hc26 => ?_)
    · replace hb25 := cond_t hc26 hb25
      refine TC.skipk ?_
      refine TC.k ?_
      obtain ⟨⟨y27, y28, y29⟩, hj30, hb25⟩ := bind_some hb25
      first | refine TC.cutM (fun a w => Mid 68 B [(5, v4), (6, .map (some r6)), (7, v10), (16, h1), (17, I (a1.length : Int)), (18, I x15)] (OwnS 60 1 v10 (y27.map cU) :: MpG (fun k : Int => I k) (fun x : BitVec 32 => U x) r6 (y28) :: OwnS 60 1 v4 (y29.map cU) :: L) a w) ?_ ?_ | refine TC.cutX (fun a w => Mid 68 B [(5, v4), (6, .map (some r6)), (7, v10), (16, h1), (17, I (a1.length : Int)), (18, I x15)] (OwnS 60 1 v10 (y27.map cU) :: MpG (fun k : Int => I k) (fun x : BitVec 32 => U x) r6 (y28) :: OwnS 60 1 v4 (y29.map cU) :: L) a w) ?_ ?_
      · refine TC.block ?_
        refine TC.k ?_
        refine TC.region ?_
        refine TO.s rfl rfl rfl (StepS.move rfl) ?_
        obtain ⟨x31, hx32, hj30⟩ := bind_some hj30
        refine TO.s rfl rfl rfl (StepS.idx rfl rfl e1.tl.tl.tl ksliceB_22_58_3_true (idx_spec hx32).1 (idxm_lt hx32)) ?_
        refine TO.s rfl rfl rfl (StepS.ldE rfl e1.tl.tl.tl kaggB_58_3_true rfl (idxm hx32)) ?_
        refine TO.alloc kinfo_58_bind_zero_some_agg_I_0_I_0_I_0 rfl rfl fun b33 => ?_
        refine TO.s rfl rfl rfl (StepS.assign rfl) ?_
        refine TO.stB (us := [I x31.1, I x31.2.1, I x31.2.2]) 0 [I x31.1, I x31.2.1, I x31.2.2] rfl rfl rfl ksizeB_58_3_true rfl rfl rfl (by simp [Value.oneCell']) rfl ?_
        refine TO.code ?_
        refine TC.k ?_
        refine TC.region ?_
        refine TO.s rfl rfl rfl (StepS.move rfl) ?_
        refine TO.s rfl rfl rfl (StepS.move rfl) ?_
        refine TO.s rfl rfl rfl (StepS.move rfl) ?_
        refine TO.s rfl rfl rfl (StepS.fld rfl kfieldB_58_0_0_true) ?_
        refine TO.s rfl rfl rfl (StepS.ldB rfl (Ent.at 0 rfl) kscalB_3_true rfl) ?_
        obtain ⟨x34, hx35, hj30⟩ := bind_some hj30
        refine TO.s rfl rfl rfl (StepS.idx rfl rfl (OwnS.rd (Ent.at 3 rfl)) ksliceB_61_60_1_true (idx_spec hx35).1 (idxm_lt hx35)) ?_
        refine TO.s rfl rfl rfl (StepS.ld0 rfl (OwnS.rd (Ent.at 3 rfl)) kscalB_60_true rfl (idxm hx35) rfl) ?_
        obtain ⟨x36, hx37, hj30⟩ := bind_some hj30
        refine TO.s rfl rfl rfl (StepS.idx rfl rfl (OwnS.rd (Ent.at 1 rfl)) ksliceB_61_60_1_true (idx_spec hx37).1 (idxm_lt hx37)) ?_
        refine TO.stO (i := x15.toNat) (off := 0) (us := [U x34]) 1 x34 rfl rfl rfl ksizeB_60_1_true rfl rfl rfl (idx_spec hx37).2 rfl (by simp [Value.oneCell']) rfl ?_
        refine TO.code ?_
        refine TC.k ?_
        refine TC.k ?_
        refine TC.region ?_
        refine TO.s rfl rfl rfl (StepS.fld rfl kfieldB_58_1_1_true) ?_
        refine TO.s rfl rfl rfl (StepS.ldB rfl (Ent.at 0 rfl) kscalB_3_true rfl) ?_
        refine TO.s rfl rfl rfl (StepS.cmp rfl rfl rfl) ?_
        refine TO.code ?_
        obtain ⟨y38, hj39, hj30⟩ := bind_some hj30
        first | refine TC.cutM (fun a w => Mid 68 B [(5, v4), (6, .map (some r6)), (7, v10), (8, I x15), (9, .pointer (some ⟨b33, 0, none⟩)), (16, h1), (17, I (a1.length : Int)), (18, I x15)] (Bx b33 58 [I x31.1, I x31.2.1, I x31.2.2] :: OwnS 60 1 v10 (y38.map cU) :: MpG (fun k : Int => I k) (fun x : BitVec 32 => U x) r6 (y13) :: OwnS 60 1 v4 (y14.map cU) :: L) a w) ?_ ?_ | refine TC.cutX (fun a w => Mid 68 B [(5, v4), (6, .map (some r6)), (7, v10), (8, I x15), (9, .pointer (some ⟨b33, 0, none⟩)), (16, h1), (17, I (a1.length : Int)), (18, I x15)] (Bx b33 58 [I x31.1, I x31.2.1, I x31.2.2] :: OwnS 60 1 v10 (y38.map cU) :: MpG (fun k : Int => I k) (fun x : BitVec 32 => U x) r6 (y13) :: OwnS 60 1 v4 (y14.map cU) :: L) a w) ?_ ?_
        · refine TC.cond rfl (fun hc40 => ?_) (fun hc40 => ?_)
          · replace hj39 := cond_t hc40 hj39
            refine TC.region_tail 10 kfollows_mixedOrders_true (by kernel_rfl) ?_
            refine TS.s rfl rfl rfl (StepS.move rfl) ?_
            refine TS.s rfl rfl rfl (StepS.move rfl) ?_
            obtain ⟨x41, hx42, hj39⟩ := bind_some hj39
            refine TS.s rfl rfl rfl (StepS.idx rfl rfl (OwnS.rd (Ent.at 1 rfl)) ksliceB_61_60_1_true (idx_spec hx42).1 (idxm_lt hx42)) ?_
            refine TS.s rfl rfl rfl (StepS.ld0 rfl (OwnS.rd (Ent.at 1 rfl)) kscalB_60_true rfl (idxm hx42) rfl) ?_
            refine TS.s rfl rfl rfl (StepS.move rfl) ?_
            refine TS.s rfl rfl rfl (StepS.fld rfl kfieldB_58_2_2_true) ?_
            refine TS.s rfl rfl rfl (StepS.ldB rfl (Ent.at 0 rfl) kscalB_3_true rfl) ?_
            refine TS.s rfl rfl rfl (StepS.lookG (k := x31.2.2) (z := 0) kmapGB_78_3_60_true (KeyOk.int kunderlying_3_some_int_i64) kinfo_60_bind_zero_some_U_0 rfl (Ent.at 2 rfl) rfl rfl) ?_
            refine TS.s rfl rfl rfl (StepS.bitU rfl rfl rfl) ?_
            obtain ⟨x43, hx44, hj39⟩ := bind_some hj39
            refine TS.s rfl rfl rfl (StepS.idx rfl rfl (OwnS.rd (Ent.at 1 rfl)) ksliceB_61_60_1_true (idx_spec hx44).1 (idxm_lt hx44)) ?_
            refine TS.nil ?_
            refine TO.at ?_
            refine TO.stO (i := x15.toNat) (off := 0) (us := [U (x41 ||| (mgetG 0 y13 x31.2.2))]) 1 (x41 ||| (mgetG 0 y13 x31.2.2)) rfl rfl rfl ksizeB_60_1_true rfl rfl rfl (idx_spec hx44).2 rfl (by simp [Value.oneCell']) rfl ?_
            cases hj39
            refine TO.nil fun a w e s => ?_
            exact ⟨e.sub (lk_of_allIn ⟨rfl, rfl, rfl, rfl, rfl, rfl, rfl, rfl, trivial⟩), s⟩
          · replace hj39 := cond_f hc40 hj39
            cases hj39
            refine TC.skip fun a w e s => ?_
            exact ⟨e.sub (lk_of_allIn ⟨rfl, rfl, rfl, rfl, rfl, rfl, rfl, rfl, trivial⟩), s⟩
        · intro a w ⟨he, hs⟩
          refine TC.use ?_ he hs
          refine TC.k ?_
          refine TC.region_tail 11 kfollows_mixedOrders_true (by kernel_rfl) ?_
          refine TS.s rfl rfl rfl (StepS.move rfl) ?_
          refine TS.s rfl rfl rfl (StepS.fld rfl kfieldB_58_0_0_true) ?_
          refine TS.s rfl rfl rfl (StepS.ldB rfl (Ent.at 0 rfl) kscalB_3_true rfl) ?_
          refine TS.s rfl rfl rfl (StepS.move rfl) ?_
          refine TS.s rfl rfl rfl (StepS.move rfl) ?_
          obtain ⟨x45, hx46, hj30⟩ := bind_some hj30
          refine TS.s rfl rfl rfl (StepS.idx rfl rfl (OwnS.rd (Ent.at 1 rfl)) ksliceB_61_60_1_true (idx_spec hx46).1 (idxm_lt hx46)) ?_
          refine TS.s rfl rfl rfl (StepS.ld0 rfl (OwnS.rd (Ent.at 1 rfl)) kscalB_60_true rfl (idxm hx46) rfl) ?_
          refine TS.s rfl rfl rfl (StepS.move rfl) ?_
          obtain ⟨k47, hk48, hj30⟩ := bind_some hj30
          refine TS.s rfl rfl rfl (StepS.shlk (m := 1#32) rfl rfl hk48) ?_
          refine TS.s rfl rfl rfl (StepS.bitU rfl rfl rfl) ?_
          obtain ⟨x49, hx50, hj30⟩ := bind_some hj30
          refine TS.s rfl rfl rfl (StepS.idx rfl rfl (OwnS.rd (Ent.at 3 rfl)) ksliceB_61_60_1_true (idx_spec hx50).1 (idxm_lt hx50)) ?_
          refine TS.nil ?_
          refine TO.at ?_
          refine TO.stO (i := x31.1.toNat) (off := 0) (us := [U (x45 ||| ((1#32) <<< k47))]) 3 (x45 ||| ((1#32) <<< k47)) rfl rfl rfl ksizeB_60_1_true rfl rfl rfl (idx_spec hx50).2 rfl (by simp [Value.oneCell']) rfl ?_
          refine TO.code ?_
          refine TC.k ?_
          refine TC.region ?_
          refine TO.s rfl rfl rfl (StepS.fld rfl kfieldB_58_1_1_true) ?_
          refine TO.s rfl rfl rfl (StepS.ldB rfl (Ent.at 0 rfl) kscalB_3_true rfl) ?_
          refine TO.s rfl rfl rfl (StepS.cmp rfl rfl rfl) ?_
          refine TO.code ?_
          refine TC.cond rfl (fun hc51 => ?_) (fun hc51 => ?_)
          · replace hj30 := cond_t hc51 hj30
            refine TC.region_tail 8 kfollows_mixedOrders_true (by kernel_rfl) ?_
            refine TS.s rfl rfl rfl (StepS.move rfl) ?_
            refine TS.s rfl rfl rfl (StepS.fld rfl kfieldB_58_2_2_true) ?_
            refine TS.s rfl rfl rfl (StepS.ldB rfl (Ent.at 0 rfl) kscalB_3_true rfl) ?_
            refine TS.s rfl rfl rfl (StepS.move rfl) ?_
            refine TS.s rfl rfl rfl (StepS.fld rfl kfieldB_58_0_0_true) ?_
            refine TS.s rfl rfl rfl (StepS.ldB rfl (Ent.at 0 rfl) kscalB_3_true rfl) ?_
            obtain ⟨x52, hx53, hj30⟩ := bind_some hj30
            refine TS.s rfl rfl rfl (StepS.idx rfl rfl (OwnS.rd (Ent.at 3 rfl)) ksliceB_61_60_1_true (idx_spec hx53).1 (idxm_lt hx53)) ?_
            refine TS.s rfl rfl rfl (StepS.ld0 rfl (OwnS.rd (Ent.at 3 rfl)) kscalB_60_true rfl (idxm hx53) rfl) ?_
            refine TS.nil ?_
            refine TO.at ?_
            refine TO.msetG (k := x31.2.2) (v := x52) 2 kmapGB_78_3_60_true (KeyOk.int kunderlying_3_some_int_i64) rfl rfl rfl rfl ?_
            cases hj30
            refine TO.nil fun a w e s => ?_
            exact ⟨e.sub (lk_of_allIn ⟨rfl, rfl, rfl, rfl, rfl, rfl, trivial⟩), s.mono fun _ => Sat.dropN 1⟩
          · replace hj30 := cond_f hc51 hj30
            cases hj30
            refine TC.skip fun a w e s => ?_
            exact ⟨e.sub (lk_of_allIn ⟨rfl, rfl, rfl, rfl, rfl, rfl, trivial⟩), s.mono fun _ => Sat.dropN 1⟩
      · intro a w ⟨he, hs⟩
        refine TC.use ?_ he hs
        refine TC.region ?_
        refine TO.s rfl rfl rfl (StepS.ari rfl rfl rfl) ?_
        refine TO.s rfl rfl rfl (StepS.move rfl) ?_
        cases hb25
        refine TO.nil fun a w e s => ?_
        exact ⟨e.sub (lk_of_allIn ⟨rfl, rfl, rfl, rfl, rfl, rfl, trivial⟩), s⟩
    · replace hb25 := cond_f hc26 hb25
      cases hb25
      refine TC.exit rfl fun a w e s => ?_
      exact ⟨e.sub (lk_of_allIn ⟨rfl, trivial⟩), s⟩
  · exact fun a w e s => ⟨e.sub (lk_of_allIn ⟨rfl, rfl, rfl, rfl, rfl, rfl, trivial⟩), s⟩
  · rintro ⟨y20, y21, y22⟩ rfl a w ⟨he, hs⟩
    dsimp only [Ctl.on] at hm
    refine TC.use ?_ he hs
    refine TC.k ?_
    refine TC.region ?_
    refine TO.s rfl rfl rfl (StepS.move rfl) ?_
    refine TO.s rfl rfl rfl (StepS.assign rfl) ?_
    refine TO.code ?_
    cases hm
    refine TC.ret fun a w e s => ?_
    refine FRet.mk1 (P := Try.prog) (fn := Try.f40) (t := 4) e rfl rfl ?_
    refine ⟨_, _, rfl, ⟨(v10), rfl, rfl⟩, ?_⟩
    refine s.mono fun _ s => ?_
    replace s := Sat.front 0 rfl s
    replace s := Sat.erase 1 s
    replace s := Sat.erase 1 s
    exact s
  · rintro r rfl
    exact fun a w h => h.elim

set_option maxRecDepth 100000 in
theorem C17 {B : World} {L : List HP} {a0 : Int} {a1 : List (Int × Int × Int)} {a2 : Int} {a3 : Int} {h1 : Value} {r0 : Bool} {r1 : Int} (e1 : Ent L (Rd 3 h1 (a1.map cTiii))) (hm : F17 a0 a1 a2 a3 = some (r0, r1)) {w : World} (st : St B L w) : Calls Try.prog 17 #[I a0, h1, I a2, I a3] w (fun e w' => (e = .returned (.tuple #[.bool r0, I r1]) ∧ St B (L) w')) := by
  refine calls_of (N := 39) (L := L) (args := [I a0, h1, I a2, I a3]) Try.func17 rfl rfl rfl ?_ st
  dsimp only [F17] at hm
  refine TC.k ?_
  refine TC.region ?_
  refine TO.s rfl rfl rfl (StepS.assign rfl) ?_
  refine TO.s rfl rfl rfl (StepS.assign rfl) ?_
  refine TO.code ?_
  refine TC.k ?_
  refine TC.k ?_
  refine TC.region ?_
  refine TO.s rfl rfl rfl (StepS.move rfl) ?_
  refine TO.s rfl rfl rfl (StepS.move rfl) ?_
  obtain ⟨r1, hc2, hm⟩ := bind_some hm
  refine TO.q rfl rfl rfl (StepQ.call kcallB_15_true rfl rfl (fun _ st => C15 e1 hc2 st)) ?_
  refine TO.s rfl rfl rfl (StepS.assign rfl) ?_
  refine TO.code ?_
  refine TC.k ?_
  refine TC.region ?_
  refine TO.s rfl rfl rfl (StepS.move rfl) ?_
  refine TO.s rfl rfl rfl (StepS.cmp rfl rfl rfl) ?_
  refine TO.code ?_
  refine TC.cond rfl (fun hc3 => ?_) (fun hc3 => ?_)
  · replace hm := cond_t hc3 hm
    refine TC.k ?_
    refine TC.region ?_
    refine TO.s rfl rfl rfl (StepS.move rfl) ?_
    refine TO.s rfl rfl rfl (StepS.assign rfl) ?_
    refine TO.s rfl rfl rfl (StepS.assign rfl) ?_
    refine TO.code ?_
    cases hm
    refine TC.ret fun a w e s => ?_
    refine FRet.mk2 (P := Try.prog) (fn := Try.f17) (t := 8) (u := 9) e rfl rfl rfl ?_
    exact ⟨rfl, s.mono fun _ => Sat.dropN 0⟩
  · replace hm := cond_f hc3 hm
    refine TC.skipk ?_
    refine TC.k ?_
    refine TC.k ?_
    refine TC.region ?_
    refine TO.s rfl rfl rfl (StepS.move rfl) ?_
    refine TO.s rfl rfl rfl (StepS.move rfl) ?_
    refine TO.s rfl rfl rfl (StepS.min2 rfl rfl) ?_
    refine TO.s rfl rfl rfl (StepS.cmp rfl rfl rfl) ?_
    refine TO.s rfl rfl rfl (StepS.move rfl) ?_
    refine TO.mid1 7 28 (.bool ((decide ((mn a2 a3) < 0)) || (decide ((mx a2 a3) ≥ (a1.length : Int))))) ?_ ?_
    · refine bcase ((decide ((mn a2 a3) < 0))) (fun hb4 => ?_) (fun hb4 => ?_)
      · refine TO.skip rfl rfl rfl (skipT hb4) rfl rfl ?_
        refine TO.skip rfl rfl rfl (skipT hb4) rfl rfl ?_
        refine TO.skip rfl rfl rfl (skipT hb4) rfl rfl ?_
        refine TO.skip rfl rfl rfl (skipT hb4) rfl rfl ?_
        refine TO.skip rfl rfl rfl (skipT hb4) rfl rfl ?_
        refine TO.skip rfl rfl rfl (skipT hb4) rfl rfl ?_
        refine TO.s rfl rfl rfl (StepS.pickT rfl hb4 rfl) ?_
        exact TO.up1 7 0 rfl rfl (by rw [hb4]; rfl) rfl
      · refine TO.sw rfl rfl rfl hb4 rfl rfl (StepS.move rfl) ?_
        refine TO.sw rfl rfl rfl hb4 rfl rfl (StepS.move rfl) ?_
        refine TO.sw rfl rfl rfl hb4 rfl rfl (StepS.max2 rfl rfl) ?_
        refine TO.sw rfl rfl rfl hb4 rfl rfl (StepS.move rfl) ?_
        refine TO.sw rfl rfl rfl hb4 rfl rfl (StepS.lenm rfl e1 ksliceB_22_58_3_true rfl) ?_
        refine TO.sw rfl rfl rfl hb4 rfl rfl (StepS.cmp rfl rfl rfl) ?_
        refine TO.s rfl rfl rfl (StepS.pickF rfl hb4 rfl) ?_
        exact TO.up1 7 0 rfl rfl (by rw [hb4]; rfl) rfl
    refine TO.code ?_
    refine TC.cond rfl (fun hc5 => ?_) (fun hc5 => ?_)
    · replace hm := cond_t hc5 hm
      refine TC.k ?_
      refine TC.region ?_
      refine TO.s rfl rfl rfl (StepS.assign rfl) ?_
      refine TO.s rfl rfl rfl (StepS.assign rfl) ?_
      refine TO.code ?_
      cases hm
      refine TC.ret fun a w e s => ?_
      refine FRet.mk2 (P := Try.prog) (fn := Try.f17) (t := 8) (u := 9) e rfl rfl rfl ?_
      exact ⟨rfl, s.mono fun _ => Sat.dropN 0⟩
    · replace hm := cond_f hc5 hm
      refine TC.skipk ?_
      refine TC.k ?_
      refine TC.region ?_
      refine TO.s rfl rfl rfl (StepS.move rfl) ?_
      refine TO.s rfl rfl rfl (StepS.move rfl) ?_
      obtain ⟨r6, hc7, hm⟩ := bind_some hm
      refine TO.callO kcallB_40_true rfl rfl rfl (fun _ st => C40 e1 hc7 st) ?_
      rintro v8 _ ⟨_, rfl, rfl⟩
      refine TO.s rfl rfl rfl (StepS.move rfl) ?_
      obtain ⟨x10, hx11, hm⟩ := bind_some hm
      refine TO.s rfl rfl rfl (StepS.idx rfl rfl (OwnS.rd (Ent.at 0 rfl)) ksliceB_61_60_1_true (idx_spec hx11).1 (idxm_lt hx11)) ?_
      refine TO.s rfl rfl rfl (StepS.ld0 rfl (OwnS.rd (Ent.at 0 rfl)) kscalB_60_true rfl (idxm hx11) rfl) ?_
      refine TO.s rfl rfl rfl (StepS.move rfl) ?_
      obtain ⟨k12, hk13, hm⟩ := bind_some hm
      refine TO.s rfl rfl rfl (StepS.shrk rfl rfl hk13) ?_
      refine TO.s rfl rfl rfl (StepS.bitU (n := 1#32) rfl rfl rfl) ?_
      refine TO.s rfl rfl rfl (StepS.cmpU (n := 1#32) rfl rfl rfl) ?_
      refine TO.s rfl rfl rfl (StepS.assign rfl) ?_
      refine TO.s rfl rfl rfl (StepS.assign rfl) ?_
      refine TO.code ?_
      cases hm
      refine TC.ret fun a w e s => ?_
      refine FRet.mk2 (P := Try.prog) (fn := Try.f17) (t := 8) (u := 9) e rfl rfl rfl ?_
      exact ⟨rfl, s.mono fun _ => Sat.dropN 1⟩

set_option maxRecDepth 100000 in
theorem C18 {B : World} {L : List HP} {a0 : List (Int × Int × Int)} {h0 : Value} {r0 : List (List Bool)} (e0 : Ent L (Rd 3 h0 (a0.map cTiii))) (hm : F18 a0 = some r0) {w : World} (st : St B L w) : Calls Try.prog 18 #[h0] w (fun e w' => ∃ v M, e = .returned v ∧ (∃ (qv1 : Value) (qhs2 : List Value), v = qv1 ∧ M = (SS 28 4 1 cB qv1 qhs2 (r0) :: L)) ∧ St B M w') := by
  refine calls_of (N := 128) (L := L) (args := [h0]) Try.func18 rfl rfl rfl ?_ st
  dsimp only [F18] at hm
  refine TC.k ?_
  refine TC.region ?_
  refine TO.s rfl rfl rfl (StepS.assign rfl) ?_
  refine TO.code ?_
  refine TC.k ?_
  refine TC.region ?_
  refine TO.s rfl rfl rfl (StepS.move rfl) ?_
  refine TO.s rfl rfl rfl (StepS.lenm rfl e0 ksliceB_22_58_3_true rfl) ?_
  obtain ⟨y2, hk3, hm⟩ := bind_some hm
  refine TO.mkSSg (ee := 4) (sz := 1) (f := cB) kelemB_29_28_1_24_true kinfo_28_bind_zero_some_slice_none_0_0 rfl rfl hk3 rfl fun v4 hs5 => ?_
  refine TO.s rfl rfl rfl (StepS.assign rfl) ?_
  refine TO.code ?_
  refine TC.k ?_
  refine TC.k ?_
  refine TC.region ?_
  refine TO.s rfl rfl rfl (StepS.assign rfl) ?_
  refine TO.code ?_
  obtain ⟨o15, hw16, hm⟩ := bind_some hm
  refine TC.loop hw16 (fun (y7, x9) => fun a w => ∃ hs8 : List Value, Mid 128 B [(0, h0), (3, v4), (4, I x9)] (SS 28 4 1 cB v4 hs8 (y7) :: L) a w) (fun y13 => fun a w => ∃ hs14 : List Value, Mid 128 B [(0, h0), (3, v4)] (SS 28 4 1 cB v4 hs14 (y13) :: L) a w) (fun (_ : Unit) _ _ => False) ?_ ?_ ?_ ?_
  · rintro ⟨y7, x9⟩ o15r hb17 a w ⟨hs8, he, hs⟩
    dsimp only [F18_L0] at hb17
    refine TC.use ?_ he hs
    refine TC.k ?_
    refine TC.k ?_
    refine TC.region ?_
    refine TO.s rfl rfl rfl (StepS.move rfl) ?_
    refine TO.s rfl rfl rfl (StepS.move rfl) ?_
    refine TO.s rfl rfl rfl (StepS.lenm rfl e0.tl ksliceB_22_58_3_true rfl) ?_
    refine TO.s rfl rfl rfl (StepS.cmp rfl rfl rfl) ?_
    refine TO.code ?_
    refine TC.cond rfl (fun hc18 => ?_) (fun hc18 => ?_)
    · replace hb17 := cond_t hc18 hb17
      refine TC.skipk ?_
      refine TC.k ?_
      refine TC.block ?_
      refine TC.k ?_
      refine TC.region ?_
      refine TO.s rfl rfl rfl (StepS.move rfl) ?_
      refine TO.s rfl rfl rfl (StepS.move rfl) ?_
      refine TO.s rfl rfl rfl (StepS.move rfl) ?_
      refine TO.s rfl rfl rfl (StepS.lenm rfl e0.tl ksliceB_22_58_3_true rfl) ?_
      obtain ⟨y19, hk20, hb17⟩ := bind_some hb17
      refine TO.mkS (f := cB) (za := false) kelemB_28_4_1_1_true kinfo_4_bind_zero_some_bool_false rfl (by decide) rfl rfl hk20 rfl fun v21 => ?_
      obtain ⟨x23, hx24, hb17⟩ := bind_some hb17
      refine TO.s rfl rfl rfl (StepS.idxRR rfl rfl (SS.rr (Ent.at 1 rfl)) ksliceB_29_28_1_true hx24) ?_
      refine TO.ghost (fun _ s => Sat.front 1 rfl s) ?_
      refine TO.stRow (xs := y19) rfl rfl hx24 ksizeB_28_1_true ?_
      refine TO.code ?_
      refine TC.k ?_
      refine TC.region ?_
      refine TO.s rfl rfl rfl (StepS.move rfl) ?_
      refine TO.s rfl rfl rfl (StepS.ari rfl rfl rfl) ?_
      refine TO.s rfl rfl rfl (StepS.assign rfl) ?_
      refine TO.code ?_
      obtain ⟨o30, hw31, hb17⟩ := bind_some hb17
      refine TC.loop hw31 (fun (y25, x26) => fun a w => Mid 128 B [(0, h0), (3, v4), (4, I x9), (5, I x26)] (SS 28 4 1 cB v4 (hs8.set x9.toNat v21) (y25) :: L) a w) (fun y29 => fun a w => Mid 128 B [(0, h0), (3, v4), (4, I x9)] (SS 28 4 1 cB v4 (hs8.set x9.toNat v21) (y29) :: L) a w) (fun (_ : Unit) _ _ => False) ?_ ?_ ?_ ?_
      · rintro ⟨y25, x26⟩ o30r hb32 a w ⟨he, hs⟩
        dsimp only [F18_L1] at hb32
        refine TC.use ?_ he hs
        refine TC.k ?_
        refine TC.k ?_
        refine TC.region ?_
        refine TO.s rfl rfl rfl (StepS.move rfl) ?_
        refine TO.s rfl rfl rfl (StepS.move rfl) ?_
        refine TO.s rfl rfl rfl (StepS.lenm rfl e0.tl ksliceB_22_58_3_true rfl) ?_
        refine TO.s rfl rfl rfl (StepS.cmp rfl rfl rfl) ?_
        refine TO.code ?_
        refine TC.cond rfl (fun hc33 => ?_) (fun hc33 => ?_)
        · replace hb32 := cond_t hc33 hb32
          refine TC.skipk ?_
          refine TC.k ?_
          refine TC.block ?_
          refine TC.region_tail 46 kfollows_mixedOrders_true (by kernel_rfl) ?_
          refine TS.s rfl rfl rfl (StepS.move rfl) ?_
          refine TS.s rfl rfl rfl (StepS.move rfl) ?_
          obtain ⟨x34, hx35, hb32⟩ := bind_some hb32
          refine TS.s rfl rfl rfl (StepS.idxRR rfl rfl (SS.rr (Ent.at 0 rfl)) ksliceB_29_28_1_true hx35) ?_
          refine TS.s rfl rfl rfl (StepS.ldRR rfl (SS.rr (Ent.at 0 rfl)) kscalB_28_true hx35) ?_
          refine TS.s rfl rfl rfl (StepS.move rfl) ?_
          refine TS.s rfl rfl rfl (StepS.move rfl) ?_
          refine TS.s rfl rfl rfl (StepS.move rfl) ?_
          obtain ⟨x37, hx38, hb32⟩ := bind_some hb32
          refine TS.s rfl rfl rfl (StepS.idx rfl rfl e0.tl ksliceB_22_58_3_true (idx_spec hx38).1 (idxm_lt hx38)) ?_
          refine TS.s rfl rfl rfl (StepS.ptrf rfl kfieldB_58_0_0_true) ?_
          refine TS.s rfl rfl rfl (StepS.ld1 rfl e0.tl kscalB_3_true rfl (idxm hx38) rfl) ?_
          refine TS.s rfl rfl rfl (StepS.move rfl) ?_
          refine TS.s rfl rfl rfl (StepS.move rfl) ?_
          obtain ⟨x39, hx40, hb32⟩ := bind_some hb32
          refine TS.s rfl rfl rfl (StepS.idx rfl rfl e0.tl ksliceB_22_58_3_true (idx_spec hx40).1 (idxm_lt hx40)) ?_
          refine TS.s rfl rfl rfl (StepS.ptrf rfl kfieldB_58_0_0_true) ?_
          refine TS.s rfl rfl rfl (StepS.ld1 rfl e0.tl kscalB_3_true rfl (idxm hx40) rfl) ?_
          refine TS.s rfl rfl rfl (StepS.cmp rfl rfl rfl) ?_
          refine TS.s rfl rfl rfl (StepS.move rfl) ?_
          obtain ⟨b42, hj43, hb32⟩ := bind_some hb32
          refine TS.mid1 28 76 (.bool b42) ?_ ?_
          · refine bcase ((x37.1 == x39.1)) (fun hb41 => ?_) (fun hb41 => ?_)
            · replace hj43 := cond_t hb41 hj43
              cases hj43
              refine TS.skip rfl rfl rfl (skipT hb41) rfl rfl ?_
              refine TS.skip rfl rfl rfl (skipT hb41) rfl rfl ?_
              refine TS.skip rfl rfl rfl (skipT hb41) rfl rfl ?_
              refine TS.skip rfl rfl rfl (skipT hb41) rfl rfl ?_
              refine TS.skip rfl rfl rfl (skipT hb41) rfl rfl ?_
              refine TS.skip rfl rfl rfl (skipT hb41) rfl rfl ?_
              refine TS.skip rfl rfl rfl (skipT hb41) rfl rfl ?_
              refine TS.skip rfl rfl rfl skipU rfl rfl ?_
              refine TS.skip rfl rfl rfl skipU rfl rfl ?_
              refine TS.skip rfl rfl rfl skipU rfl rfl ?_
              refine TS.skip rfl rfl rfl skipU rfl rfl ?_
              refine TS.skip rfl rfl rfl skipU rfl rfl ?_
              refine TS.skip rfl rfl rfl skipU rfl rfl ?_
              refine TS.skip rfl rfl rfl (skipT hb41) rfl rfl ?_
              refine TS.skip rfl rfl rfl (skipT hb41) rfl rfl ?_
              refine TS.skip rfl rfl rfl skipU rfl rfl ?_
              refine TS.skip rfl rfl rfl skipU rfl rfl ?_
              refine TS.skip rfl rfl rfl skipU rfl rfl ?_
              refine TS.skip rfl rfl rfl skipU rfl rfl ?_
              refine TS.skip rfl rfl rfl skipU rfl rfl ?_
              refine TS.skip rfl rfl rfl skipU rfl rfl ?_
              refine TS.skip rfl rfl rfl skipU rfl rfl ?_
              refine TS.skip rfl rfl rfl skipU rfl rfl ?_
              refine TS.skip rfl rfl rfl skipU rfl rfl ?_
              refine TS.skip rfl rfl rfl skipU rfl rfl ?_
              refine TS.skip rfl rfl rfl skipU rfl rfl ?_
              refine TS.skip rfl rfl rfl (skipT hb41) rfl rfl ?_
              refine TS.s rfl rfl rfl (StepS.pickT rfl hb41 rfl) ?_
              exact TS.up1 28 0 rfl rfl rfl rfl
            · replace hj43 := cond_f hb41 hj43
              refine TS.sw rfl rfl rfl hb41 rfl rfl (StepS.move rfl) ?_
              refine TS.sw rfl rfl rfl hb41 rfl rfl (StepS.move rfl) ?_
              obtain ⟨x44, hx45, hj43⟩ := bind_some hj43
              refine TS.sw rfl rfl rfl hb41 rfl rfl (StepS.idx rfl rfl e0.tl ksliceB_22_58_3_true (idx_spec hx45).1 (idxm_lt hx45)) ?_
              refine TS.sw rfl rfl rfl hb41 rfl rfl (StepS.ptrf rfl kfieldB_58_1_1_true) ?_
              refine TS.sw rfl rfl rfl hb41 rfl rfl (StepS.ld1 rfl e0.tl kscalB_3_true rfl (idxm hx45) rfl) ?_
              refine TS.sw rfl rfl rfl hb41 rfl rfl (StepS.cmp rfl rfl rfl) ?_
              refine TS.sw rfl rfl rfl hb41 rfl rfl (StepS.move rfl) ?_
              obtain ⟨b47, hj48, hj43⟩ := bind_some hj43
              refine TS.mid1 7 62 (.bool b47) ?_ ?_
              · refine bcase ((x44.2.1 == 2)) (fun hb46 => ?_) (fun hb46 => ?_)
                · replace hj48 := cond_t hb46 hj48
                  refine TS.sw rfl rfl rfl hb46 rfl rfl (StepS.move rfl) ?_
                  refine TS.sw rfl rfl rfl hb46 rfl rfl (StepS.move rfl) ?_
                  obtain ⟨x49, hx50, hj48⟩ := bind_some hj48
                  refine TS.sw rfl rfl rfl hb46 rfl rfl (StepS.idx rfl rfl e0.tl ksliceB_22_58_3_true (idx_spec hx50).1 (idxm_lt hx50)) ?_
                  refine TS.sw rfl rfl rfl hb46 rfl rfl (StepS.ptrf rfl kfieldB_58_1_1_true) ?_
                  refine TS.sw rfl rfl rfl hb46 rfl rfl (StepS.ld1 rfl e0.tl kscalB_3_true rfl (idxm hx50) rfl) ?_
                  refine TS.sw rfl rfl rfl hb46 rfl rfl (StepS.cmp rfl rfl rfl) ?_
                  cases hj48
                  refine TS.sw rfl rfl rfl hb41 rfl rfl (StepS.pickT rfl hb46 rfl) ?_
                  exact TS.up1 7 0 rfl rfl rfl rfl
                · replace hj48 := cond_f hb46 hj48
                  cases hj48
                  refine TS.skip rfl rfl rfl (skipF hb46) rfl rfl ?_
                  refine TS.skip rfl rfl rfl (skipF hb46) rfl rfl ?_
                  refine TS.skip rfl rfl rfl (skipF hb46) rfl rfl ?_
                  refine TS.skip rfl rfl rfl (skipF hb46) rfl rfl ?_
                  refine TS.skip rfl rfl rfl (skipF hb46) rfl rfl ?_
                  refine TS.skip rfl rfl rfl (skipF hb46) rfl rfl ?_
                  refine TS.sw rfl rfl rfl hb41 rfl rfl (StepS.pickF rfl hb46 rfl) ?_
                  exact TS.up1 7 0 rfl rfl rfl rfl
              refine TS.sw rfl rfl rfl hb41 rfl rfl (StepS.move rfl) ?_
              obtain ⟨b52, hj53, hj43⟩ := bind_some hj43
              refine TS.mid1 12 75 (.bool b52) ?_ ?_
              · refine bcase (b47) (fun hb51 => ?_) (fun hb51 => ?_)
                · replace hj53 := cond_t hb51 hj53
                  refine TS.sw rfl rfl rfl hb51 rfl rfl (StepS.move rfl) ?_
                  refine TS.sw rfl rfl rfl hb51 rfl rfl (StepS.move rfl) ?_
                  obtain ⟨x54, hx55, hj53⟩ := bind_some hj53
                  refine TS.sw rfl rfl rfl hb51 rfl rfl (StepS.idx rfl rfl e0.tl ksliceB_22_58_3_true (idx_spec hx55).1 (idxm_lt hx55)) ?_
                  refine TS.sw rfl rfl rfl hb51 rfl rfl (StepS.ptrf rfl kfieldB_58_2_2_true) ?_
                  refine TS.sw rfl rfl rfl hb51 rfl rfl (StepS.ld1 rfl e0.tl kscalB_3_true rfl (idxm hx55) rfl) ?_
                  refine TS.sw rfl rfl rfl hb51 rfl rfl (StepS.move rfl) ?_
                  refine TS.sw rfl rfl rfl hb51 rfl rfl (StepS.move rfl) ?_
                  obtain ⟨x56, hx57, hj53⟩ := bind_some hj53
                  refine TS.sw rfl rfl rfl hb51 rfl rfl (StepS.idx rfl rfl e0.tl ksliceB_22_58_3_true (idx_spec hx57).1 (idxm_lt hx57)) ?_
                  refine TS.sw rfl rfl rfl hb51 rfl rfl (StepS.ptrf rfl kfieldB_58_2_2_true) ?_
                  refine TS.sw rfl rfl rfl hb51 rfl rfl (StepS.ld1 rfl e0.tl kscalB_3_true rfl (idxm hx57) rfl) ?_
                  refine TS.sw rfl rfl rfl hb51 rfl rfl (StepS.cmp rfl rfl rfl) ?_
                  cases hj53
                  refine TS.sw rfl rfl rfl hb41 rfl rfl (StepS.pickT rfl hb51 rfl) ?_
                  exact TS.up1 12 0 rfl rfl rfl rfl
                · replace hj53 := cond_f hb51 hj53
                  cases hj53
                  refine TS.skip rfl rfl rfl (skipF hb51) rfl rfl ?_
                  refine TS.skip rfl rfl rfl (skipF hb51) rfl rfl ?_
                  refine TS.skip rfl rfl rfl (skipF hb51) rfl rfl ?_
                  refine TS.skip rfl rfl rfl (skipF hb51) rfl rfl ?_
                  refine TS.skip rfl rfl rfl (skipF hb51) rfl rfl ?_
                  refine TS.skip rfl rfl rfl (skipF hb51) rfl rfl ?_
                  refine TS.skip rfl rfl rfl (skipF hb51) rfl rfl ?_
                  refine TS.skip rfl rfl rfl (skipF hb51) rfl rfl ?_
                  refine TS.skip rfl rfl rfl (skipF hb51) rfl rfl ?_
                  refine TS.skip rfl rfl rfl (skipF hb51) rfl rfl ?_
                  refine TS.skip rfl rfl rfl (skipF hb51) rfl rfl ?_
                  refine TS.sw rfl rfl rfl hb41 rfl rfl (StepS.pickF rfl hb51 rfl) ?_
                  exact TS.up1 12 0 rfl rfl rfl rfl
              cases hj43
              refine TS.s rfl rfl rfl (StepS.pickF rfl hb41 rfl) ?_
              exact TS.up1 11 0 rfl rfl rfl rfl
          obtain ⟨x58, hx59, hb32⟩ := bind_some hb32
          refine TS.s rfl rfl rfl (StepS.idx rfl rfl (RR.row (SS.rr (Ent.at 0 rfl)) hx35) ksliceB_28_4_1_true (idx_spec hx59).1 (idxm_lt hx59)) ?_
          refine TS.nil ?_
          refine TO.at ?_
          refine TO.stEl (i := x9) (j := x26.toNat) (off := 0) (us := [.bool b42]) b42 rfl rfl hx35 ksizeB_4_1_true rfl rfl rfl (idx_spec hx59).2 rfl (by simp [Value.oneCell']) rfl ?_
          refine TO.code ?_
          refine TC.region ?_
          refine TO.s rfl rfl rfl (StepS.move rfl) ?_
          refine TO.s rfl rfl rfl (StepS.ari rfl rfl rfl) ?_
          refine TO.s rfl rfl rfl (StepS.assign rfl) ?_
          cases hb32
          refine TO.nil fun a w e s => ?_
          exact ⟨e.sub (lk_of_allIn ⟨rfl, rfl, rfl, rfl, trivial⟩), s⟩
        · replace hb32 := cond_f hc33 hb32
          cases hb32
          refine TC.exit rfl fun a w e s => ?_
          exact ⟨e.sub (lk_of_allIn ⟨rfl, rfl, rfl, trivial⟩), s⟩
      · exact fun a w e s => ⟨e.sub (lk_of_allIn ⟨rfl, rfl, rfl, rfl, trivial⟩), s⟩
      · rintro y29 rfl a w ⟨he, hs⟩
        dsimp only [Ctl.on] at hb17
        refine TC.use ?_ he hs
        refine TC.region ?_
        refine TO.s rfl rfl rfl (StepS.move rfl) ?_
        refine TO.s rfl rfl rfl (StepS.ari rfl rfl rfl) ?_
        refine TO.s rfl rfl rfl (StepS.assign rfl) ?_
        cases hb17
        refine TO.nil fun a w e s => ?_
        exact ⟨(hs8.set x9.toNat v21), e.sub (lk_of_allIn ⟨rfl, rfl, rfl, trivial⟩), s⟩
      · rintro r rfl
        exact fun a w h => h.elim
    · replace hb17 := cond_f hc18 hb17
      cases hb17
      refine TC.exit rfl fun a w e s => ?_
      exact ⟨hs8, e.sub (lk_of_allIn ⟨rfl, rfl, trivial⟩), s⟩
  · exact fun a w e s => ⟨hs5, e.sub (lk_of_allIn ⟨rfl, rfl, rfl, trivial⟩), s⟩
  · rintro y13 rfl a w ⟨hs14, he, hs⟩
    dsimp only [Ctl.on] at hm
    refine TC.use ?_ he hs
    refine TC.k ?_
    refine TC.k ?_
    refine TC.region ?_
    refine TO.s rfl rfl rfl (StepS.assign rfl) ?_
    refine TO.code ?_
    obtain ⟨o65, hw66, hm⟩ := bind_some hm
    refine TC.loop hw66 (fun (y60, x61) => fun a w => Mid 128 B [(0, h0), (3, v4), (6, I x61)] (SS 28 4 1 cB v4 hs14 (y60) :: L) a w) (fun y64 => fun a w => Mid 128 B [(3, v4)] (SS 28 4 1 cB v4 hs14 (y64) :: L) a w) (fun (_ : Unit) _ _ => False) ?_ ?_ ?_ ?_
    · rintro ⟨y60, x61⟩ o65r hb67 a w ⟨he, hs⟩
      dsimp only [F18_L2] at hb67
      refine TC.use ?_ he hs
      refine TC.k ?_
      refine TC.k ?_
      refine TC.region ?_
      refine TO.s rfl rfl rfl (StepS.move rfl) ?_
      refine TO.s rfl rfl rfl (StepS.move rfl) ?_
      refine TO.s rfl rfl rfl (StepS.lenm rfl e0.tl ksliceB_22_58_3_true rfl) ?_
      refine TO.s rfl rfl rfl (StepS.cmp rfl rfl rfl) ?_
      refine TO.code ?_
      refine TC.cond rfl (fun hc68 => ?_) (fun hc68 => ?_)
      · replace hb67 := cond_t hc68 hb67
        refine TC.skipk ?_
        refine TC.k ?_
        refine TC.block ?_
        refine TC.k ?_
        refine TC.region ?_
        refine TO.s rfl rfl rfl (StepS.assign rfl) ?_
        refine TO.code ?_
        obtain ⟨o74, hw75, hb67⟩ := bind_some hb67
        refine TC.loop hw75 (fun (y69, x70) => fun a w => Mid 128 B [(0, h0), (3, v4), (6, I x61), (7, I x70)] (SS 28 4 1 cB v4 hs14 (y69) :: L) a w) (fun y73 => fun a w => Mid 128 B [(0, h0), (3, v4), (6, I x61)] (SS 28 4 1 cB v4 hs14 (y73) :: L) a w) (fun (_ : Unit) _ _ => False) ?_ ?_ ?_ ?_
        · rintro ⟨y69, x70⟩ o74r hb76 a w ⟨he, hs⟩
          dsimp only [F18_L3] at hb76
          refine TC.use ?_ he hs
          refine TC.k ?_
          refine TC.k ?_
          refine TC.region ?_
          refine TO.s rfl rfl rfl (StepS.move rfl) ?_
          refine TO.s rfl rfl rfl (StepS.move rfl) ?_
          refine TO.s rfl rfl rfl (StepS.lenm rfl e0.tl ksliceB_22_58_3_true rfl) ?_
          refine TO.s rfl rfl rfl (StepS.cmp rfl rfl rfl) ?_
          refine TO.code ?_
          refine TC.cond rfl (fun hc77 => ?_) (fun hc77 => ?_)
          · replace hb76 := cond_t hc77 hb76
            refine TC.skipk ?_
            refine TC.k ?_
            refine TC.block ?_
            refine TC.k ?_
            refine TC.region ?_
            refine TO.s rfl rfl rfl (StepS.assign rfl) ?_
            refine TO.code ?_
            obtain ⟨o83, hw84, hb76⟩ := bind_some hb76
            refine TC.loop hw84 (fun (y78, x79) => fun a w => Mid 128 B [(0, h0), (3, v4), (6, I x61), (7, I x70), (8, I x79)] (SS 28 4 1 cB v4 hs14 (y78) :: L) a w) (fun y82 => fun a w => Mid 128 B [(0, h0), (3, v4), (6, I x61), (7, I x70)] (SS 28 4 1 cB v4 hs14 (y82) :: L) a w) (fun (_ : Unit) _ _ => False) ?_ ?_ ?_ ?_
            · rintro ⟨y78, x79⟩ o83r hb85 a w ⟨he, hs⟩
              dsimp only [F18_L4] at hb85
              refine TC.use ?_ he hs
              refine TC.k ?_
              refine TC.k ?_
              refine TC.region ?_
              refine TO.s rfl rfl rfl (StepS.move rfl) ?_
              refine TO.s rfl rfl rfl (StepS.move rfl) ?_
              refine TO.s rfl rfl rfl (StepS.lenm rfl e0.tl ksliceB_22_58_3_true rfl) ?_
              refine TO.s rfl rfl rfl (StepS.cmp rfl rfl rfl) ?_
              refine TO.code ?_
              refine TC.cond rfl (fun hc86 => ?_) (fun hc86 => ?_)
              · replace hb85 := cond_t hc86 hb85
                refine TC.skipk ?_
                refine TC.k ?_
                refine TC.block ?_
                refine TC.region_tail 31 kfollows_mixedOrders_true (by kernel_rfl) ?_
                refine TS.s rfl rfl rfl (StepS.move rfl) ?_
                refine TS.s rfl rfl rfl (StepS.move rfl) ?_
                obtain ⟨x87, hx88, hb85⟩ := bind_some hb85
                refine TS.s rfl rfl rfl (StepS.idxRR rfl rfl (SS.rr (Ent.at 0 rfl)) ksliceB_29_28_1_true hx88) ?_
                refine TS.s rfl rfl rfl (StepS.ldRR rfl (SS.rr (Ent.at 0 rfl)) kscalB_28_true hx88) ?_
                refine TS.s rfl rfl rfl (StepS.move rfl) ?_
                refine TS.s rfl rfl rfl (StepS.move rfl) ?_
                refine TS.s rfl rfl rfl (StepS.move rfl) ?_
                obtain ⟨x90, hx91, hb85⟩ := bind_some hb85
                refine TS.s rfl rfl rfl (StepS.idxRR rfl rfl (SS.rr (Ent.at 0 rfl)) ksliceB_29_28_1_true hx91) ?_
                refine TS.s rfl rfl rfl (StepS.ldRR rfl (SS.rr (Ent.at 0 rfl)) kscalB_28_true hx91) ?_
                refine TS.s rfl rfl rfl (StepS.move rfl) ?_
                obtain ⟨x93, hx94, hb85⟩ := bind_some hb85
                refine TS.s rfl rfl rfl (StepS.idx rfl rfl (RR.row (SS.rr (Ent.at 0 rfl)) hx91) ksliceB_28_4_1_true (idx_spec hx94).1 (idxm_lt hx94)) ?_
                refine TS.s rfl rfl rfl (StepS.ld0 rfl (RR.row (SS.rr (Ent.at 0 rfl)) hx91) kscalB_4_true rfl (idxm hx94) rfl) ?_
                refine TS.s rfl rfl rfl (StepS.move rfl) ?_
                obtain ⟨b96, hj97, hb85⟩ := bind_some hb85
                refine TS.mid1 17 125 (.bool b96) ?_ ?_
                · refine bcase (x93) (fun hb95 => ?_) (fun hb95 => ?_)
                  · replace hj97 := cond_t hb95 hj97
                    cases hj97
                    refine TS.skip rfl rfl rfl (skipT hb95) rfl rfl ?_
                    refine TS.skip rfl rfl rfl (skipT hb95) rfl rfl ?_
                    refine TS.skip rfl rfl rfl (skipT hb95) rfl rfl ?_
                    refine TS.skip rfl rfl rfl (skipT hb95) rfl rfl ?_
                    refine TS.skip rfl rfl rfl (skipT hb95) rfl rfl ?_
                    refine TS.skip rfl rfl rfl (skipT hb95) rfl rfl ?_
                    refine TS.skip rfl rfl rfl (skipT hb95) rfl rfl ?_
                    refine TS.skip rfl rfl rfl (skipT hb95) rfl rfl ?_
                    refine TS.skip rfl rfl rfl skipU rfl rfl ?_
                    refine TS.skip rfl rfl rfl skipU rfl rfl ?_
                    refine TS.skip rfl rfl rfl skipU rfl rfl ?_
                    refine TS.skip rfl rfl rfl skipU rfl rfl ?_
                    refine TS.skip rfl rfl rfl skipU rfl rfl ?_
                    refine TS.skip rfl rfl rfl skipU rfl rfl ?_
                    refine TS.skip rfl rfl rfl skipU rfl rfl ?_
                    refine TS.skip rfl rfl rfl (skipT hb95) rfl rfl ?_
                    refine TS.s rfl rfl rfl (StepS.pickT rfl hb95 rfl) ?_
                    exact TS.up1 17 0 rfl rfl rfl rfl
                  · replace hj97 := cond_f hb95 hj97
                    refine TS.sw rfl rfl rfl hb95 rfl rfl (StepS.move rfl) ?_
                    refine TS.sw rfl rfl rfl hb95 rfl rfl (StepS.move rfl) ?_
                    obtain ⟨x98, hx99, hj97⟩ := bind_some hj97
                    refine TS.sw rfl rfl rfl hb95 rfl rfl (StepS.idxRR rfl rfl (SS.rr (Ent.at 0 rfl)) ksliceB_29_28_1_true hx99) ?_
                    refine TS.sw rfl rfl rfl hb95 rfl rfl (StepS.ldRR rfl (SS.rr (Ent.at 0 rfl)) kscalB_28_true hx99) ?_
                    refine TS.sw rfl rfl rfl hb95 rfl rfl (StepS.move rfl) ?_
                    obtain ⟨x101, hx102, hj97⟩ := bind_some hj97
                    refine TS.sw rfl rfl rfl hb95 rfl rfl (StepS.idx rfl rfl (RR.row (SS.rr (Ent.at 0 rfl)) hx99) ksliceB_28_4_1_true (idx_spec hx102).1 (idxm_lt hx102)) ?_
                    refine TS.sw rfl rfl rfl hb95 rfl rfl (StepS.ld0 rfl (RR.row (SS.rr (Ent.at 0 rfl)) hx99) kscalB_4_true rfl (idxm hx102) rfl) ?_
                    refine TS.sw rfl rfl rfl hb95 rfl rfl (StepS.move rfl) ?_
                    obtain ⟨b104, hj105, hj97⟩ := bind_some hj97
                    refine TS.mid1 8 124 (.bool b104) ?_ ?_
                    · refine bcase (x101) (fun hb103 => ?_) (fun hb103 => ?_)
                      · replace hj105 := cond_t hb103 hj105
                        refine TS.sw rfl rfl rfl hb103 rfl rfl (StepS.move rfl) ?_
                        refine TS.sw rfl rfl rfl hb103 rfl rfl (StepS.move rfl) ?_
                        obtain ⟨x106, hx107, hj105⟩ := bind_some hj105
                        refine TS.sw rfl rfl rfl hb103 rfl rfl (StepS.idxRR rfl rfl (SS.rr (Ent.at 0 rfl)) ksliceB_29_28_1_true hx107) ?_
                        refine TS.sw rfl rfl rfl hb103 rfl rfl (StepS.ldRR rfl (SS.rr (Ent.at 0 rfl)) kscalB_28_true hx107) ?_
                        refine TS.sw rfl rfl rfl hb103 rfl rfl (StepS.move rfl) ?_
                        obtain ⟨x109, hx110, hj105⟩ := bind_some hj105
                        refine TS.sw rfl rfl rfl hb103 rfl rfl (StepS.idx rfl rfl (RR.row (SS.rr (Ent.at 0 rfl)) hx107) ksliceB_28_4_1_true (idx_spec hx110).1 (idxm_lt hx110)) ?_
                        refine TS.sw rfl rfl rfl hb103 rfl rfl (StepS.ld0 rfl (RR.row (SS.rr (Ent.at 0 rfl)) hx107) kscalB_4_true rfl (idxm hx110) rfl) ?_
                        cases hj105
                        refine TS.sw rfl rfl rfl hb95 rfl rfl (StepS.pickT rfl hb103 rfl) ?_
                        exact TS.up1 8 0 rfl rfl rfl rfl
                      · replace hj105 := cond_f hb103 hj105
                        cases hj105
                        refine TS.skip rfl rfl rfl (skipF hb103) rfl rfl ?_
                        refine TS.skip rfl rfl rfl (skipF hb103) rfl rfl ?_
                        refine TS.skip rfl rfl rfl (skipF hb103) rfl rfl ?_
                        refine TS.skip rfl rfl rfl (skipF hb103) rfl rfl ?_
                        refine TS.skip rfl rfl rfl (skipF hb103) rfl rfl ?_
                        refine TS.skip rfl rfl rfl (skipF hb103) rfl rfl ?_
                        refine TS.skip rfl rfl rfl (skipF hb103) rfl rfl ?_
                        refine TS.sw rfl rfl rfl hb95 rfl rfl (StepS.pickF rfl hb103 rfl) ?_
                        exact TS.up1 8 0 rfl rfl rfl rfl
                    cases hj97
                    refine TS.s rfl rfl rfl (StepS.pickF rfl hb95 rfl) ?_
                    exact TS.up1 10 0 rfl rfl rfl rfl
                obtain ⟨x111, hx112, hb85⟩ := bind_some hb85
                refine TS.s rfl rfl rfl (StepS.idx rfl rfl (RR.row (SS.rr (Ent.at 0 rfl)) hx88) ksliceB_28_4_1_true (idx_spec hx112).1 (idxm_lt hx112)) ?_
                refine TS.nil ?_
                refine TO.at ?_
                refine TO.stEl (i := x70) (j := x79.toNat) (off := 0) (us := [.bool b96]) b96 rfl rfl hx88 ksizeB_4_1_true rfl rfl rfl (idx_spec hx112).2 rfl (by simp [Value.oneCell']) rfl ?_
                refine TO.code ?_
                refine TC.region ?_
                refine TO.s rfl rfl rfl (StepS.move rfl) ?_
                refine TO.s rfl rfl rfl (StepS.ari rfl rfl rfl) ?_
                refine TO.s rfl rfl rfl (StepS.assign rfl) ?_
                cases hb85
                refine TO.nil fun a w e s => ?_
                exact ⟨e.sub (lk_of_allIn ⟨rfl, rfl, rfl, rfl, rfl, trivial⟩), s⟩
              · replace hb85 := cond_f hc86 hb85
                cases hb85
                refine TC.exit rfl fun a w e s => ?_
                exact ⟨e.sub (lk_of_allIn ⟨rfl, rfl, rfl, rfl, trivial⟩), s⟩
            · exact fun a w e s => ⟨e.sub (lk_of_allIn ⟨rfl, rfl, rfl, rfl, rfl, trivial⟩), s⟩
            · rintro y82 rfl a w ⟨he, hs⟩
              dsimp only [Ctl.on] at hb76
              refine TC.use ?_ he hs
              refine TC.region ?_
              refine TO.s rfl rfl rfl (StepS.move rfl) ?_
              refine TO.s rfl rfl rfl (StepS.ari rfl rfl rfl) ?_
              refine TO.s rfl rfl rfl (StepS.assign rfl) ?_
              cases hb76
              refine TO.nil fun a w e s => ?_
              exact ⟨e.sub (lk_of_allIn ⟨rfl, rfl, rfl, rfl, trivial⟩), s⟩
            · rintro r rfl
              exact fun a w h => h.elim
          · replace hb76 := cond_f hc77 hb76
            cases hb76
            refine TC.exit rfl fun a w e s => ?_
            exact ⟨e.sub (lk_of_allIn ⟨rfl, rfl, rfl, trivial⟩), s⟩
        · exact fun a w e s => ⟨e.sub (lk_of_allIn ⟨rfl, rfl, rfl, rfl, trivial⟩), s⟩
        · rintro y73 rfl a w ⟨he, hs⟩
          dsimp only [Ctl.on] at hb67
          refine TC.use ?_ he hs
          refine TC.region ?_
          refine TO.s rfl rfl rfl (StepS.move rfl) ?_
          refine TO.s rfl rfl rfl (StepS.ari rfl rfl rfl) ?_
          refine TO.s rfl rfl rfl (StepS.assign rfl) ?_
          cases hb67
          refine TO.nil fun a w e s => ?_
          exact ⟨e.sub (lk_of_allIn ⟨rfl, rfl, rfl, trivial⟩), s⟩
        · rintro r rfl
          exact fun a w h => h.elim
      · replace hb67 := cond_f hc68 hb67
        cases hb67
        refine TC.exit rfl fun a w e s => ?_
        exact ⟨e.sub (lk_of_allIn ⟨rfl, trivial⟩), s⟩
    · exact fun a w e s => ⟨e.sub (lk_of_allIn ⟨rfl, rfl, rfl, trivial⟩), s⟩
    · rintro y64 rfl a w ⟨he, hs⟩
      dsimp only [Ctl.on] at hm
      refine TC.use ?_ he hs
      refine TC.k ?_
      refine TC.region ?_
      refine TO.s rfl rfl rfl (StepS.move rfl) ?_
      refine TO.s rfl rfl rfl (StepS.assign rfl) ?_
      refine TO.code ?_
      cases hm
      refine TC.ret fun a w e s => ?_
      refine FRet.mk1 (P := Try.prog) (fn := Try.f18) (t := 2) e rfl rfl ?_
      refine ⟨_, _, rfl, ⟨(v4), (hs14), rfl, rfl⟩, ?_⟩
      refine s.mono fun _ s => ?_
      replace s := Sat.front 0 rfl s
      exact s
    · rintro r rfl
      exact fun a w h => h.elim
  · rintro r rfl
    exact fun a w h => h.elim

set_option maxRecDepth 100000 in
theorem C4 {B : World} {L : List HP} {a0 : Int} {a1 : List (Int × Int × Int)} {a2 : Int} {a3 : Int} {h1 : Value} {r0 : Bool} (e1 : Ent L (Rd 3 h1 (a1.map cTiii))) (hm : F4 a0 a1 a2 a3 = some r0) {w : World} (st : St B L w) : Calls Try.prog 4 #[I a0, h1, I a2, I a3] w (fun e w' => (e = .returned (.bool r0) ∧ St B (L) w')) := by
  refine calls_of (N := 68) (L := L) (args := [I a0, h1, I a2, I a3]) Try.func4 rfl rfl rfl ?_ st
  dsimp only [F4] at hm
  refine TC.k ?_
  refine TC.region ?_
  refine TO.s rfl rfl rfl (StepS.assign rfl) ?_
  refine TO.code ?_
  refine TC.k ?_
  refine TC.region ?_
  refine TO.s rfl rfl rfl (StepS.move rfl) ?_
  refine TO.s rfl rfl rfl (StepS.move rfl) ?_
  refine TO.s rfl rfl rfl (StepS.move rfl) ?_
  refine TO.s rfl rfl rfl (StepS.move rfl) ?_
  obtain ⟨⟨r1, r2⟩, hc3, hm⟩ := bind_some hm
  refine TO.q rfl rfl rfl (StepQ.call kcallB_17_true rfl rfl (fun _ st => C17 e1 hc3 st)) ?_
  refine TO.s rfl rfl rfl (StepS.move rfl) ?_
  refine TO.s rfl rfl rfl (StepS.extract rfl rfl) ?_
  refine TO.s rfl rfl rfl (StepS.extract rfl rfl) ?_
  refine TO.s rfl rfl rfl (StepS.assign rfl) ?_
  refine TO.s rfl rfl rfl (StepS.assign rfl) ?_
  refine TO.code ?_
  refine TC.k ?_
  refine TC.region ?_
  refine TO.s rfl rfl rfl (StepS.move rfl) ?_
  refine TO.s rfl rfl rfl (StepS.move rfl) ?_
  obtain ⟨r4, hc5, hm⟩ := bind_some hm
  refine TO.q rfl rfl rfl (StepQ.call kcallB_16_true rfl rfl (fun _ st => C16 e1 hc5 st)) ?_
  refine TO.s rfl rfl rfl (StepS.assign rfl) ?_
  refine TO.code ?_
  refine TC.k ?_
  refine TC.k ?_
  refine TC.region ?_
  refine TO.s rfl rfl rfl (StepS.move rfl) ?_
  refine TO.s rfl rfl rfl (StepS.cmp rfl rfl rfl) ?_
  refine TO.s rfl rfl rfl (StepS.move rfl) ?_
  refine TO.mid1 19 44 (.bool ((r4 == 0) && ((((decide (a2 < 0)) || (decide (a2 ≥ (a1.length : Int)))) || (decide (a3 < 0))) || (decide (a3 ≥ (a1.length : Int)))))) ?_ ?_
  · refine bcase ((r4 == 0)) (fun hb6 => ?_) (fun hb6 => ?_)
    · refine TO.sw rfl rfl rfl hb6 rfl rfl (StepS.move rfl) ?_
      refine TO.sw rfl rfl rfl hb6 rfl rfl (StepS.cmp rfl rfl rfl) ?_
      refine TO.sw rfl rfl rfl hb6 rfl rfl (StepS.move rfl) ?_
      refine TO.mid1 5 33 (.bool ((decide (a2 < 0)) || (decide (a2 ≥ (a1.length : Int))))) ?_ ?_
      · refine bcase ((decide (a2 < 0))) (fun hb7 => ?_) (fun hb7 => ?_)
        · refine TO.skip rfl rfl rfl (skipT hb7) rfl rfl ?_
          refine TO.skip rfl rfl rfl (skipT hb7) rfl rfl ?_
          refine TO.skip rfl rfl rfl (skipT hb7) rfl rfl ?_
          refine TO.skip rfl rfl rfl (skipT hb7) rfl rfl ?_
          refine TO.sw rfl rfl rfl hb6 rfl rfl (StepS.pickT rfl hb7 rfl) ?_
          exact TO.up1 5 0 rfl rfl (by rw [hb7]; rfl) rfl
        · refine TO.sw rfl rfl rfl hb7 rfl rfl (StepS.move rfl) ?_
          refine TO.sw rfl rfl rfl hb7 rfl rfl (StepS.move rfl) ?_
          refine TO.sw rfl rfl rfl hb7 rfl rfl (StepS.lenm rfl e1 ksliceB_22_58_3_true rfl) ?_
          refine TO.sw rfl rfl rfl hb7 rfl rfl (StepS.cmp rfl rfl rfl) ?_
          refine TO.sw rfl rfl rfl hb6 rfl rfl (StepS.pickF rfl hb7 rfl) ?_
          exact TO.up1 5 0 rfl rfl (by rw [hb7]; rfl) rfl
      refine TO.sw rfl rfl rfl hb6 rfl rfl (StepS.move rfl) ?_
      refine TO.mid1 3 37 (.bool (((decide (a2 < 0)) || (decide (a2 ≥ (a1.length : Int)))) || (decide (a3 < 0)))) ?_ ?_
      · refine bcase (((decide (a2 < 0)) || (decide (a2 ≥ (a1.length : Int))))) (fun hb8 => ?_) (fun hb8 => ?_)
        · refine TO.skip rfl rfl rfl (skipT hb8) rfl rfl ?_
          refine TO.skip rfl rfl rfl (skipT hb8) rfl rfl ?_
          refine TO.sw rfl rfl rfl hb6 rfl rfl (StepS.pickT rfl hb8 rfl) ?_
          exact TO.up1 3 0 rfl rfl (by rw [hb8]; rfl) rfl
        · refine TO.sw rfl rfl rfl hb8 rfl rfl (StepS.move rfl) ?_
          refine TO.sw rfl rfl rfl hb8 rfl rfl (StepS.cmp rfl rfl rfl) ?_
          refine TO.sw rfl rfl rfl hb6 rfl rfl (StepS.pickF rfl hb8 rfl) ?_
          exact TO.up1 3 0 rfl rfl (by rw [hb8]; rfl) rfl
      refine TO.sw rfl rfl rfl hb6 rfl rfl (StepS.move rfl) ?_
      refine TO.mid1 5 43 (.bool ((((decide (a2 < 0)) || (decide (a2 ≥ (a1.length : Int)))) || (decide (a3 < 0))) || (decide (a3 ≥ (a1.length : Int))))) ?_ ?_
      · refine bcase ((((decide (a2 < 0)) || (decide (a2 ≥ (a1.length : Int)))) || (decide (a3 < 0)))) (fun hb9 => ?_) (fun hb9 => ?_)
        · refine TO.skip rfl rfl rfl (skipT hb9) rfl rfl ?_
          refine TO.skip rfl rfl rfl (skipT hb9) rfl rfl ?_
          refine TO.skip rfl rfl rfl (skipT hb9) rfl rfl ?_
          refine TO.skip rfl rfl rfl (skipT hb9) rfl rfl ?_
          refine TO.sw rfl rfl rfl hb6 rfl rfl (StepS.pickT rfl hb9 rfl) ?_
          exact TO.up1 5 0 rfl rfl (by rw [hb9]; rfl) rfl
        · refine TO.sw rfl rfl rfl hb9 rfl rfl (StepS.move rfl) ?_
          refine TO.sw rfl rfl rfl hb9 rfl rfl (StepS.move rfl) ?_
          refine TO.sw rfl rfl rfl hb9 rfl rfl (StepS.lenm rfl e1 ksliceB_22_58_3_true rfl) ?_
          refine TO.sw rfl rfl rfl hb9 rfl rfl (StepS.cmp rfl rfl rfl) ?_
          refine TO.sw rfl rfl rfl hb6 rfl rfl (StepS.pickF rfl hb9 rfl) ?_
          exact TO.up1 5 0 rfl rfl (by rw [hb9]; rfl) rfl
      refine TO.s rfl rfl rfl (StepS.pickT rfl hb6 rfl) ?_
      exact TO.up1 9 0 rfl rfl (by rw [hb6]; rfl) rfl
    · refine TO.skip rfl rfl rfl (skipF hb6) rfl rfl ?_
      refine TO.skip rfl rfl rfl (skipF hb6) rfl rfl ?_
      refine TO.skip rfl rfl rfl (skipF hb6) rfl rfl ?_
      refine TO.skip rfl rfl rfl skipU rfl rfl ?_
      refine TO.skip rfl rfl rfl skipU rfl rfl ?_
      refine TO.skip rfl rfl rfl skipU rfl rfl ?_
      refine TO.skip rfl rfl rfl skipU rfl rfl ?_
      refine TO.skip rfl rfl rfl (skipF hb6) rfl rfl ?_
      refine TO.skip rfl rfl rfl (skipF hb6) rfl rfl ?_
      refine TO.skip rfl rfl rfl skipU rfl rfl ?_
      refine TO.skip rfl rfl rfl skipU rfl rfl ?_
      refine TO.skip rfl rfl rfl (skipF hb6) rfl rfl ?_
      refine TO.skip rfl rfl rfl (skipF hb6) rfl rfl ?_
      refine TO.skip rfl rfl rfl skipU rfl rfl ?_
      refine TO.skip rfl rfl rfl skipU rfl rfl ?_
      refine TO.skip rfl rfl rfl skipU rfl rfl ?_
      refine TO.skip rfl rfl rfl skipU rfl rfl ?_
      refine TO.skip rfl rfl rfl (skipF hb6) rfl rfl ?_
      refine TO.s rfl rfl rfl (StepS.pickF rfl hb6 rfl) ?_
      exact TO.up1 19 0 rfl rfl (by rw [hb6]; rfl) rfl
  refine TO.code ?_
  obtain ⟨x10, hj11, hm⟩ := bind_some hm
  first | refine TC.cutM (fun a w => Mid 68 B [(1, h1), (2, I a2), (3, I a3), (9, .bool r1), (10, I r2), (11, I x10)] (L) a w) ?_ ?_ | refine TC.cutX (fun a w => Mid 68 B [(1, h1), (2, I a2), (3, I a3), (9, .bool r1), (10, I r2), (11, I x10)] (L) a w) ?_ ?_
  · refine TC.cond rfl (fun hc12 => ?_) (fun hc12 => ?_)
    · replace hj11 := cond_t hc12 hj11
      refine TC.region ?_
      refine TO.s rfl rfl rfl (StepS.assign rfl) ?_
      cases hj11
      refine TO.nil fun a w e s => ?_
      exact ⟨e.sub (lk_of_allIn ⟨rfl, rfl, rfl, rfl, rfl, rfl, trivial⟩), s⟩
    · replace hj11 := cond_f hc12 hj11
      cases hj11
      refine TC.skip fun a w e s => ?_
      exact ⟨e.sub (lk_of_allIn ⟨rfl, rfl, rfl, rfl, rfl, rfl, trivial⟩), s⟩
  · intro a w ⟨he, hs⟩
    refine TC.use ?_ he hs
    refine TC.k ?_
    refine TC.k ?_
    refine TC.region ?_
    refine TO.s rfl rfl rfl (StepS.move rfl) ?_
    refine TO.s rfl rfl rfl (StepS.cmp rfl rfl rfl) ?_
    refine TO.code ?_
    refine TC.cond rfl (fun hc13 => ?_) (fun hc13 => ?_)
    · replace hm := cond_t hc13 hm
      refine TC.k ?_
      refine TC.region ?_
      refine TO.s rfl rfl rfl (StepS.move rfl) ?_
      refine TO.s rfl rfl rfl (StepS.move rfl) ?_
      refine TO.s rfl rfl rfl (StepS.cmp rfl rfl rfl) ?_
      refine TO.s rfl rfl rfl (StepS.move rfl) ?_
      refine TO.mid1 3 53 (.bool ((r2 == x10) && (!r1))) ?_ ?_
      · refine bcase ((r2 == x10)) (fun hb14 => ?_) (fun hb14 => ?_)
        · refine TO.sw rfl rfl rfl hb14 rfl rfl (StepS.move rfl) ?_
          refine TO.sw rfl rfl rfl hb14 rfl rfl (StepS.not rfl) ?_
          refine TO.s rfl rfl rfl (StepS.pickT rfl hb14 rfl) ?_
          exact TO.up1 3 0 rfl rfl (by rw [hb14]; rfl) rfl
        · refine TO.skip rfl rfl rfl (skipF hb14) rfl rfl ?_
          refine TO.skip rfl rfl rfl (skipF hb14) rfl rfl ?_
          refine TO.s rfl rfl rfl (StepS.pickF rfl hb14 rfl) ?_
          exact TO.up1 3 0 rfl rfl (by rw [hb14]; rfl) rfl
      refine TO.s rfl rfl rfl (StepS.assign rfl) ?_
      refine TO.code ?_
      cases hm
      refine TC.ret fun a w e s => ?_
      refine FRet.mk1 (P := Try.prog) (fn := Try.f4) (t := 8) e rfl rfl ?_
      exact ⟨rfl, s.mono fun _ => Sat.dropN 0⟩
    · replace hm := cond_f hc13 hm
      refine TC.skipk ?_
      refine TC.k ?_
      refine TC.region ?_
      refine TO.s rfl rfl rfl (StepS.move rfl) ?_
      refine TO.s rfl rfl rfl (StepS.cmp rfl rfl rfl) ?_
      refine TO.s rfl rfl rfl (StepS.move rfl) ?_
      obtain ⟨b16, hj17, hm⟩ := bind_some hm
      refine TO.mid1 11 67 (.bool b16) ?_ ?_
      · refine bcase ((r2 == 0)) (fun hb15 => ?_) (fun hb15 => ?_)
        · replace hj17 := cond_t hb15 hj17
          refine TO.sw rfl rfl rfl hb15 rfl rfl (StepS.move rfl) ?_
          refine TO.sw rfl rfl rfl hb15 rfl rfl (StepS.move rfl) ?_
          obtain ⟨r18, hc19, hj17⟩ := bind_some hj17
          refine TO.callOw rfl rfl hb15 kcallB_18_true rfl rfl rfl (fun _ st => C18 e1 hc19 st) ?_
          rintro v20 _ ⟨_, hs21, rfl, rfl⟩
          refine TO.sw rfl rfl rfl hb15 rfl rfl (StepS.move rfl) ?_
          obtain ⟨x23, hx24, hj17⟩ := bind_some hj17
          refine TO.sw rfl rfl rfl hb15 rfl rfl (StepS.idxRR rfl rfl (SS.rr (Ent.at 0 rfl)) ksliceB_29_28_1_true hx24) ?_
          refine TO.sw rfl rfl rfl hb15 rfl rfl (StepS.ldRR rfl (SS.rr (Ent.at 0 rfl)) kscalB_28_true hx24) ?_
          refine TO.sw rfl rfl rfl hb15 rfl rfl (StepS.move rfl) ?_
          obtain ⟨x26, hx27, hj17⟩ := bind_some hj17
          refine TO.sw rfl rfl rfl hb15 rfl rfl (StepS.idx rfl rfl (RR.row (SS.rr (Ent.at 0 rfl)) hx24) ksliceB_28_4_1_true (idx_spec hx27).1 (idxm_lt hx27)) ?_
          refine TO.sw rfl rfl rfl hb15 rfl rfl (StepS.ld0 rfl (RR.row (SS.rr (Ent.at 0 rfl)) hx24) kscalB_4_true rfl (idxm hx27) rfl) ?_
          refine TO.sw rfl rfl rfl hb15 rfl rfl (StepS.eqB kunderlying_4_some_bool rfl rfl) ?_
          cases hj17
          refine TO.s rfl rfl rfl (StepS.pickT rfl hb15 rfl) ?_
          exact TO.up1 11 1 rfl rfl rfl rfl
        · replace hj17 := cond_f hb15 hj17
          cases hj17
          refine TO.skip rfl rfl rfl (skipF hb15) rfl rfl ?_
          refine TO.skip rfl rfl rfl (skipF hb15) rfl rfl ?_
          refine TO.skip rfl rfl rfl (skipF hb15) rfl rfl ?_
          refine TO.skip rfl rfl rfl (skipF hb15) rfl rfl ?_
          refine TO.skip rfl rfl rfl (skipF hb15) rfl rfl ?_
          refine TO.skip rfl rfl rfl (skipF hb15) rfl rfl ?_
          refine TO.skip rfl rfl rfl (skipF hb15) rfl rfl ?_
          refine TO.skip rfl rfl rfl (skipF hb15) rfl rfl ?_
          refine TO.skip rfl rfl rfl (skipF hb15) rfl rfl ?_
          refine TO.skip rfl rfl rfl (skipF hb15) rfl rfl ?_
          refine TO.s rfl rfl rfl (StepS.pickF rfl hb15 rfl) ?_
          exact TO.up1 11 0 rfl rfl rfl rfl
      refine TO.s rfl rfl rfl (StepS.assign rfl) ?_
      refine TO.code ?_
      cases hm
      refine TC.ret fun a w e s => ?_
      refine FRet.mk1 (P := Try.prog) (fn := Try.f4) (t := 8) e rfl rfl ?_
      exact ⟨rfl, s.mono fun _ => Sat.dropN 0⟩

set_option maxRecDepth 100000 in
theorem C19 {B : World} {L : List HP} {a0 : Int} {a1 : List (Int × Int × Int)} {h1 : Value} {r0 : Int} {r1 : Int} (e1 : Ent L (Rd 3 h1 (a1.map cTiii))) (hm : F19 a0 a1 = some (r0, r1)) {w : World} (st : St B L w) : Calls Try.prog 19 #[I a0, h1] w (fun e w' => (e = .returned (.tuple #[I r0, I r1]) ∧ St B (L) w')) := by
  refine calls_of (N := 41) (L := L) (args := [I a0, h1]) Try.func19 rfl rfl rfl ?_ st
  dsimp only [F19] at hm
  refine TC.k ?_
  refine TC.region ?_
  refine TO.s rfl rfl rfl (StepS.assign rfl) ?_
  refine TO.s rfl rfl rfl (StepS.assign rfl) ?_
  refine TO.code ?_
  refine TC.k ?_
  refine TC.k ?_
  refine TC.region ?_
  refine TO.s rfl rfl rfl (StepS.move rfl) ?_
  refine TO.s rfl rfl rfl (StepS.move rfl) ?_
  obtain ⟨r1, hc2, hm⟩ := bind_some hm
  refine TO.q rfl rfl rfl (StepQ.call kcallB_15_true rfl rfl (fun _ st => C15 e1 hc2 st)) ?_
  refine TO.s rfl rfl rfl (StepS.assign rfl) ?_
  refine TO.code ?_
  refine TC.k ?_
  refine TC.region ?_
  refine TO.s rfl rfl rfl (StepS.move rfl) ?_
  refine TO.s rfl rfl rfl (StepS.cmp rfl rfl rfl) ?_
  refine TO.code ?_
  refine TC.cond rfl (fun hc3 => ?_) (fun hc3 => ?_)
  · replace hm := cond_t hc3 hm
    refine TC.k ?_
    refine TC.region ?_
    refine TO.s rfl rfl rfl (StepS.move rfl) ?_
    refine TO.s rfl rfl rfl (StepS.assign rfl) ?_
    refine TO.s rfl rfl rfl (StepS.assign rfl) ?_
    refine TO.code ?_
    cases hm
    refine TC.ret fun a w e s => ?_
    refine FRet.mk2 (P := Try.prog) (fn := Try.f19) (t := 4) (u := 5) e rfl rfl rfl ?_
    exact ⟨rfl, s.mono fun _ => Sat.dropN 0⟩
  · replace hm := cond_f hc3 hm
    refine TC.skipk ?_
    refine TC.k ?_
    refine TC.region ?_
    refine TO.s rfl rfl rfl (StepS.assign rfl) ?_
    refine TO.code ?_
    refine TC.k ?_
    refine TC.k ?_
    refine TC.region ?_
    refine TO.s rfl rfl rfl (StepS.move rfl) ?_
    refine TO.s rfl rfl rfl (StepS.move rfl) ?_
    obtain ⟨r4, hc5, hm⟩ := bind_some hm
    refine TO.callO kcallB_40_true rfl rfl rfl (fun _ st => C40 e1 hc5 st) ?_
    rintro v6 _ ⟨_, rfl, rfl⟩
    refine TO.s rfl rfl rfl (StepS.lenm rfl (OwnS.rd (Ent.at 0 rfl)) ksliceB_61_60_1_true rfl) ?_
    refine TO.s rfl rfl rfl (StepS.move rfl) ?_
    refine TO.code ?_
    obtain ⟨o13, hw14, hm⟩ := bind_some hm
    refine TC.loop hw14 (fun (x8, x9) => fun a w => Mid 41 B [(7, I x8), (19, v6), (20, I (r4.length : Int)), (21, I x9)] (OwnS 60 1 v6 (r4.map cU) :: L) a w) (fun x12 => fun a w => Mid 41 B [(7, I x12)] (OwnS 60 1 v6 (r4.map cU) :: L) a w) (fun (_ : Unit) _ _ => False) ?_ ?_ ?_ ?_
    · rintro ⟨x8, x9⟩ o13r hb15 a w ⟨he, hs⟩
      dsimp only [F19_L0] at hb15
      refine TC.use ?_ he hs
      refine TC.k ?_
      refine TC.region ?_
      refine TO.s rfl rfl rfl (StepS.cmp rfl rfl rfl) ?_
      refine TO.code ?_
      refine TC.k ?_
      refine TC.cond rfl (fun hc16 => ?_) (fun hc16 => ?_)
      · replace hb15 := cond_t hc16 hb15
        refine TC.skipk ?_
        refine TC.k ?_
        refine TC.block ?_
        refine TC.k ?_
        refine TC.region ?_
        refine TO.s rfl rfl rfl (StepS.move rfl) ?_
        obtain ⟨x17, hx18, hb15⟩ := bind_some hb15
        refine TO.s rfl rfl rfl (StepS.idx rfl rfl (OwnS.rd (Ent.at 0 rfl)) ksliceB_61_60_1_true (idx_spec hx18).1 (idxm_lt hx18)) ?_
        refine TO.s rfl rfl rfl (StepS.ld0 rfl (OwnS.rd (Ent.at 0 rfl)) kscalB_60_true rfl (idxm hx18) rfl) ?_
        refine TO.s rfl rfl rfl (StepS.assign rfl) ?_
        refine TO.s rfl rfl rfl (StepS.assign rfl) ?_
        refine TO.code ?_
        refine TC.k ?_
        refine TC.region ?_
        refine TO.s rfl rfl rfl (StepS.move rfl) ?_
        refine TO.s rfl rfl rfl (StepS.move rfl) ?_
        refine TO.code ?_
        obtain ⟨o24, hw25, hb15⟩ := bind_some hb15
        refine TC.loop hw25 (fun (x19, x20) => fun a w => Mid 41 B [(7, I x19), (9, U x17), (19, v6), (20, I (r4.length : Int)), (21, I x9), (26, I x9), (27, I x20)] (OwnS 60 1 v6 (r4.map cU) :: L) a w) (fun x23 => fun a w => Mid 41 B [(7, I x23), (19, v6), (20, I (r4.length : Int)), (21, I x9)] (OwnS 60 1 v6 (r4.map cU) :: L) a w) (fun (_ : Unit) _ _ => False) ?_ ?_ ?_ ?_
        · rintro ⟨x19, x20⟩ o24r hb26 a w ⟨he, hs⟩
          dsimp only [F19_L1] at hb26
          refine TC.use ?_ he hs
          refine TC.k ?_
          refine TC.region ?_
          refine TO.s rfl rfl rfl (StepS.cmp rfl rfl rfl) ?_
          refine TO.code ?_
          refine TC.k ?_
          refine TC.cond rfl (fun hc27 => ?_) (fun hc27 => ?_)
          · replace hb26 := cond_t hc27 hb26
            refine TC.skipk ?_
            refine TC.k ?_
            refine TC.block ?_
            refine TC.k ?_
            refine TC.region ?_
            refine TO.s rfl rfl rfl (StepS.move rfl) ?_
            refine TO.s rfl rfl rfl (StepS.assign rfl) ?_
            refine TO.code ?_
            refine TC.region ?_
            refine TO.s rfl rfl rfl (StepS.move rfl) ?_
            refine TO.s rfl rfl rfl (StepS.move rfl) ?_
            refine TO.s rfl rfl rfl (StepS.move rfl) ?_
            obtain ⟨k28, hk29, hb26⟩ := bind_some hb26
            refine TO.s rfl rfl rfl (StepS.shrk rfl rfl hk29) ?_
            refine TO.s rfl rfl rfl (StepS.bitU (n := 1#32) rfl rfl rfl) ?_
            refine TO.s rfl rfl rfl (StepS.bitU (m := 1#32) rfl rfl rfl) ?_
            refine TO.s rfl rfl rfl (StepS.cvUI kintB_60_u32_true kintB_3_i64_true rfl) ?_
            refine TO.s rfl rfl rfl (StepS.ari rfl rfl rfl) ?_
            refine TO.s rfl rfl rfl (StepS.assign rfl) ?_
            refine TO.code ?_
            refine TC.region ?_
            refine TO.s rfl rfl rfl (StepS.ari rfl rfl rfl) ?_
            refine TO.s rfl rfl rfl (StepS.move rfl) ?_
            cases hb26
            refine TO.nil fun a w e s => ?_
            exact ⟨e.sub (lk_of_allIn ⟨rfl, rfl, rfl, rfl, rfl, rfl, rfl, trivial⟩), s⟩
          · replace hb26 := cond_f hc27 hb26
            cases hb26
            refine TC.exit rfl fun a w e s => ?_
            exact ⟨e.sub (lk_of_allIn ⟨rfl, rfl, rfl, rfl, trivial⟩), s⟩
        · exact fun a w e s => ⟨e.sub (lk_of_allIn ⟨rfl, rfl, rfl, rfl, rfl, rfl, rfl, trivial⟩), s⟩
        · rintro x23 rfl a w ⟨he, hs⟩
          dsimp only [Ctl.on] at hb15
          refine TC.use ?_ he hs
          refine TC.region ?_
          refine TO.s rfl rfl rfl (StepS.ari rfl rfl rfl) ?_
          refine TO.s rfl rfl rfl (StepS.move rfl) ?_
          cases hb15
          refine TO.nil fun a w e s => ?_
          exact ⟨e.sub (lk_of_allIn ⟨rfl, rfl, rfl, rfl, trivial⟩), s⟩
        · rintro r rfl
          exact fun a w h => h.elim
      · replace hb15 := cond_f hc16 hb15
        cases hb15
        refine TC.exit rfl fun a w e s => ?_
        exact ⟨e.sub (lk_of_allIn ⟨rfl, trivial⟩), s⟩
    · exact fun a w e s => ⟨e.sub (lk_of_allIn ⟨rfl, rfl, rfl, rfl, trivial⟩), s⟩
    · rintro x12 rfl a w ⟨he, hs⟩
      dsimp only [Ctl.on] at hm
      refine TC.use ?_ he hs
      refine TC.k ?_
      refine TC.region ?_
      refine TO.s rfl rfl rfl (StepS.move rfl) ?_
      refine TO.s rfl rfl rfl (StepS.assign rfl) ?_
      refine TO.s rfl rfl rfl (StepS.assign rfl) ?_
      refine TO.code ?_
      cases hm
      refine TC.ret fun a w e s => ?_
      refine FRet.mk2 (P := Try.prog) (fn := Try.f19) (t := 4) (u := 5) e rfl rfl rfl ?_
      exact ⟨rfl, s.mono fun _ => Sat.dropN 1⟩
    · rintro r rfl
      exact fun a w h => h.elim

set_option maxRecDepth 100000 in
theorem C5 {B : World} {L : List HP} {a0 : Int} {a1 : List (Int × Int × Int)} {h1 : Value} {r0 : Bool} (e1 : Ent L (Rd 3 h1 (a1.map cTiii))) (hm : F5 a0 a1 = some r0) {w : World} (st : St B L w) : Calls Try.prog 5 #[I a0, h1] w (fun e w' => (e = .returned (.bool r0) ∧ St B (L) w')) := by
  refine calls_of (N := 70) (L := L) (args := [I a0, h1]) Try.func5 rfl rfl rfl ?_ st
  dsimp only [F5] at hm
  refine TC.k ?_
  refine TC.region ?_
  refine TO.s rfl rfl rfl (StepS.assign rfl) ?_
  refine TO.code ?_
  refine TC.k ?_
  refine TC.region ?_
  refine TO.s rfl rfl rfl (StepS.move rfl) ?_
  refine TO.s rfl rfl rfl (StepS.move rfl) ?_
  obtain ⟨⟨r1, r2⟩, hc3, hm⟩ := bind_some hm
  refine TO.q rfl rfl rfl (StepQ.call kcallB_19_true rfl rfl (fun _ st => C19 e1 hc3 st)) ?_
  refine TO.s rfl rfl rfl (StepS.move rfl) ?_
  refine TO.s rfl rfl rfl (StepS.extract rfl rfl) ?_
  refine TO.s rfl rfl rfl (StepS.extract rfl rfl) ?_
  refine TO.s rfl rfl rfl (StepS.assign rfl) ?_
  refine TO.s rfl rfl rfl (StepS.assign rfl) ?_
  refine TO.code ?_
  refine TC.k ?_
  refine TC.region ?_
  refine TO.s rfl rfl rfl (StepS.move rfl) ?_
  refine TO.s rfl rfl rfl (StepS.move rfl) ?_
  obtain ⟨r4, hc5, hm⟩ := bind_some hm
  refine TO.q rfl rfl rfl (StepQ.call kcallB_16_true rfl rfl (fun _ st => C16 e1 hc5 st)) ?_
  refine TO.s rfl rfl rfl (StepS.assign rfl) ?_
  refine TO.code ?_
  refine TC.k ?_
  refine TC.k ?_
  refine TC.region ?_
  refine TO.s rfl rfl rfl (StepS.move rfl) ?_
  refine TO.s rfl rfl rfl (StepS.cmp rfl rfl rfl) ?_
  refine TO.code ?_
  refine TC.cond rfl (fun hc6 => ?_) (fun hc6 => ?_)
  · replace hm := cond_t hc6 hm
    refine TC.k ?_
    refine TC.region ?_
    refine TO.s rfl rfl rfl (StepS.move rfl) ?_
    refine TO.s rfl rfl rfl (StepS.move rfl) ?_
    refine TO.s rfl rfl rfl (StepS.cmp rfl rfl rfl) ?_
    refine TO.s rfl rfl rfl (StepS.move rfl) ?_
    refine TO.mid1 3 29 (.bool ((r2 == r4) && (r1 == 0))) ?_ ?_
    · refine bcase ((r2 == r4)) (fun hb7 => ?_) (fun hb7 => ?_)
      · refine TO.sw rfl rfl rfl hb7 rfl rfl (StepS.move rfl) ?_
        refine TO.sw rfl rfl rfl hb7 rfl rfl (StepS.cmp rfl rfl rfl) ?_
        refine TO.s rfl rfl rfl (StepS.pickT rfl hb7 rfl) ?_
        exact TO.up1 3 0 rfl rfl (by rw [hb7]; rfl) rfl
      · refine TO.skip rfl rfl rfl (skipF hb7) rfl rfl ?_
        refine TO.skip rfl rfl rfl (skipF hb7) rfl rfl ?_
        refine TO.s rfl rfl rfl (StepS.pickF rfl hb7 rfl) ?_
        exact TO.up1 3 0 rfl rfl (by rw [hb7]; rfl) rfl
    refine TO.s rfl rfl rfl (StepS.assign rfl) ?_
    refine TO.code ?_
    cases hm
    refine TC.ret fun a w e s => ?_
    refine FRet.mk1 (P := Try.prog) (fn := Try.f5) (t := 4) e rfl rfl ?_
    exact ⟨rfl, s.mono fun _ => Sat.dropN 0⟩
  · replace hm := cond_f hc6 hm
    refine TC.skipk ?_
    refine TC.k ?_
    refine TC.region ?_
    refine TO.s rfl rfl rfl (StepS.assign rfl) ?_
    refine TO.code ?_
    refine TC.k ?_
    refine TC.region ?_
    refine TO.s rfl rfl rfl (StepS.move rfl) ?_
    obtain ⟨r8, hc9, hm⟩ := bind_some hm
    refine TO.callO kcallB_18_true rfl rfl rfl (fun _ st => C18 e1 hc9 st) ?_
    rintro v10 _ ⟨_, hs11, rfl, rfl⟩
    refine TO.s rfl rfl rfl (StepS.assign rfl) ?_
    refine TO.code ?_
    refine TC.k ?_
    refine TC.k ?_
    refine TC.region ?_
    refine TO.s rfl rfl rfl (StepS.assign rfl) ?_
    refine TO.code ?_
    obtain ⟨o18, hw19, hm⟩ := bind_some hm
    refine TC.loop hw19 (fun (x13, x14) => fun a w => Mid 70 B [(1, h1), (5, I r1), (6, I r2), (8, I x13), (9, v10), (10, I x14)] (SS 28 4 1 cB v10 hs11 (r8) :: L) a w) (fun x17 => fun a w => Mid 70 B [(5, I r1), (6, I r2), (8, I x17)] (SS 28 4 1 cB v10 hs11 (r8) :: L) a w) (fun (_ : Unit) _ _ => False) ?_ ?_ ?_ ?_
    · rintro ⟨x13, x14⟩ o18r hb20 a w ⟨he, hs⟩
      dsimp only [F5_L0] at hb20
      refine TC.use ?_ he hs
      refine TC.k ?_
      refine TC.k ?_
      refine TC.region ?_
      refine TO.s rfl rfl rfl (StepS.move rfl) ?_
      refine TO.s rfl rfl rfl (StepS.move rfl) ?_
      refine TO.s rfl rfl rfl (StepS.lenm rfl e1.tl ksliceB_22_58_3_true rfl) ?_
      refine TO.s rfl rfl rfl (StepS.cmp rfl rfl rfl) ?_
      refine TO.code ?_
      refine TC.cond rfl (fun hc21 => ?_) (fun hc21 => ?_)
      · replace hb20 := cond_t hc21 hb20
        refine TC.skipk ?_
        refine TC.k ?_
        refine TC.block ?_
        refine TC.k ?_
        refine TC.region ?_
        refine TO.s rfl rfl rfl (StepS.assign rfl) ?_
        refine TO.code ?_
        obtain ⟨o27, hw28, hb20⟩ := bind_some hb20
        refine TC.loop hw28 (fun (x22, x23) => fun a w => Mid 70 B [(1, h1), (5, I r1), (6, I r2), (8, I x22), (9, v10), (10, I x14), (11, I x23)] (SS 28 4 1 cB v10 hs11 (r8) :: L) a w) (fun x26 => fun a w => Mid 70 B [(1, h1), (5, I r1), (6, I r2), (8, I x26), (9, v10), (10, I x14)] (SS 28 4 1 cB v10 hs11 (r8) :: L) a w) (fun (_ : Unit) _ _ => False) ?_ ?_ ?_ ?_
        · rintro ⟨x22, x23⟩ o27r hb29 a w ⟨he, hs⟩
          dsimp only [F5_L1] at hb29
          refine TC.use ?_ he hs
          refine TC.k ?_
          refine TC.k ?_
          refine TC.region ?_
          refine TO.s rfl rfl rfl (StepS.move rfl) ?_
          refine TO.s rfl rfl rfl (StepS.move rfl) ?_
          refine TO.s rfl rfl rfl (StepS.cmp rfl rfl rfl) ?_
          refine TO.code ?_
          refine TC.cond rfl (fun hc30 => ?_) (fun hc30 => ?_)
          · replace hb29 := cond_t hc30 hb29
            refine TC.skipk ?_
            refine TC.k ?_
            obtain ⟨x31, hj32, hb29⟩ := bind_some hb29
            first | refine TC.cutM (fun a w => Mid 70 B [(1, h1), (5, I r1), (6, I r2), (8, I x31), (9, v10), (10, I x14), (11, I x23)] (SS 28 4 1 cB v10 hs11 (r8) :: L) a w) ?_ ?_ | refine TC.cutX (fun a w => Mid 70 B [(1, h1), (5, I r1), (6, I r2), (8, I x31), (9, v10), (10, I x14), (11, I x23)] (SS 28 4 1 cB v10 hs11 (r8) :: L) a w) ?_ ?_
            · refine TC.block ?_
              refine TC.k ?_
              refine TC.region ?_
              refine TO.s rfl rfl rfl (StepS.move rfl) ?_
              refine TO.s rfl rfl rfl (StepS.move rfl) ?_
              obtain ⟨x33, hx34, hj32⟩ := bind_some hj32
              refine TO.s rfl rfl rfl (StepS.idxRR rfl rfl (SS.rr (Ent.at 0 rfl)) ksliceB_29_28_1_true hx34) ?_
              refine TO.s rfl rfl rfl (StepS.ldRR rfl (SS.rr (Ent.at 0 rfl)) kscalB_28_true hx34) ?_
              refine TO.s rfl rfl rfl (StepS.move rfl) ?_
              obtain ⟨x36, hx37, hj32⟩ := bind_some hj32
              refine TO.s rfl rfl rfl (StepS.idx rfl rfl (RR.row (SS.rr (Ent.at 0 rfl)) hx34) ksliceB_28_4_1_true (idx_spec hx37).1 (idxm_lt hx37)) ?_
              refine TO.s rfl rfl rfl (StepS.ld0 rfl (RR.row (SS.rr (Ent.at 0 rfl)) hx34) kscalB_4_true rfl (idxm hx37) rfl) ?_
              refine TO.s rfl rfl rfl (StepS.not rfl) ?_
              refine TO.s rfl rfl rfl (StepS.move rfl) ?_
              obtain ⟨b39, hj40, hj32⟩ := bind_some hj32
              refine TO.mid1 9 60 (.bool b39) ?_ ?_
              · refine bcase ((!x36)) (fun hb38 => ?_) (fun hb38 => ?_)
                · replace hj40 := cond_t hb38 hj40
                  refine TO.sw rfl rfl rfl hb38 rfl rfl (StepS.move rfl) ?_
                  refine TO.sw rfl rfl rfl hb38 rfl rfl (StepS.move rfl) ?_
                  obtain ⟨x41, hx42, hj40⟩ := bind_some hj40
                  refine TO.sw rfl rfl rfl hb38 rfl rfl (StepS.idxRR rfl rfl (SS.rr (Ent.at 0 rfl)) ksliceB_29_28_1_true hx42) ?_
                  refine TO.sw rfl rfl rfl hb38 rfl rfl (StepS.ldRR rfl (SS.rr (Ent.at 0 rfl)) kscalB_28_true hx42) ?_
                  refine TO.sw rfl rfl rfl hb38 rfl rfl (StepS.move rfl) ?_
                  obtain ⟨x44, hx45, hj40⟩ := bind_some hj40
                  refine TO.sw rfl rfl rfl hb38 rfl rfl (StepS.idx rfl rfl (RR.row (SS.rr (Ent.at 0 rfl)) hx42) ksliceB_28_4_1_true (idx_spec hx45).1 (idxm_lt hx45)) ?_
                  refine TO.sw rfl rfl rfl hb38 rfl rfl (StepS.ld0 rfl (RR.row (SS.rr (Ent.at 0 rfl)) hx42) kscalB_4_true rfl (idxm hx45) rfl) ?_
                  refine TO.sw rfl rfl rfl hb38 rfl rfl (StepS.not rfl) ?_
                  cases hj40
                  refine TO.s rfl rfl rfl (StepS.pickT rfl hb38 rfl) ?_
                  exact TO.up1 9 0 rfl rfl rfl rfl
                · replace hj40 := cond_f hb38 hj40
                  cases hj40
                  refine TO.skip rfl rfl rfl (skipF hb38) rfl rfl ?_
                  refine TO.skip rfl rfl rfl (skipF hb38) rfl rfl ?_
                  refine TO.skip rfl rfl rfl (skipF hb38) rfl rfl ?_
                  refine TO.skip rfl rfl rfl (skipF hb38) rfl rfl ?_
                  refine TO.skip rfl rfl rfl (skipF hb38) rfl rfl ?_
                  refine TO.skip rfl rfl rfl (skipF hb38) rfl rfl ?_
                  refine TO.skip rfl rfl rfl (skipF hb38) rfl rfl ?_
                  refine TO.skip rfl rfl rfl (skipF hb38) rfl rfl ?_
                  refine TO.s rfl rfl rfl (StepS.pickF rfl hb38 rfl) ?_
                  exact TO.up1 9 0 rfl rfl rfl rfl
              refine TO.code ?_
              refine TC.cond rfl (fun hc46 => ?_) (fun hc46 => ?_)
              · replace hj32 := cond_t hc46 hj32
                refine TC.region ?_
                refine TO.s rfl rfl rfl (StepS.move rfl) ?_
                refine TO.s rfl rfl rfl (StepS.ari rfl rfl rfl) ?_
                refine TO.s rfl rfl rfl (StepS.assign rfl) ?_
                cases hj32
                refine TO.nil fun a w e s => ?_
                exact ⟨e.sub (lk_of_allIn ⟨rfl, rfl, rfl, rfl, rfl, rfl, rfl, trivial⟩), s⟩
              · replace hj32 := cond_f hc46 hj32
                cases hj32
                refine TC.skip fun a w e s => ?_
                exact ⟨e.sub (lk_of_allIn ⟨rfl, rfl, rfl, rfl, rfl, rfl, rfl, trivial⟩), s⟩
            · intro a w ⟨he, hs⟩
              refine TC.use ?_ he hs
              refine TC.region ?_
              refine TO.s rfl rfl rfl (StepS.move rfl) ?_
              refine TO.s rfl rfl rfl (StepS.ari rfl rfl rfl) ?_
              refine TO.s rfl rfl rfl (StepS.assign rfl) ?_
              cases hb29
              refine TO.nil fun a w e s => ?_
              exact ⟨e.sub (lk_of_allIn ⟨rfl, rfl, rfl, rfl, rfl, rfl, rfl, trivial⟩), s⟩
          · replace hb29 := cond_f hc30 hb29
            cases hb29
            refine TC.exit rfl fun a w e s => ?_
            exact ⟨e.sub (lk_of_allIn ⟨rfl, rfl, rfl, rfl, rfl, rfl, trivial⟩), s⟩
        · exact fun a w e s => ⟨e.sub (lk_of_allIn ⟨rfl, rfl, rfl, rfl, rfl, rfl, rfl, trivial⟩), s⟩
        · rintro x26 rfl a w ⟨he, hs⟩
          dsimp only [Ctl.on] at hb20
          refine TC.use ?_ he hs
          refine TC.region ?_
          refine TO.s rfl rfl rfl (StepS.move rfl) ?_
          refine TO.s rfl rfl rfl (StepS.ari rfl rfl rfl) ?_
          refine TO.s rfl rfl rfl (StepS.assign rfl) ?_
          cases hb20
          refine TO.nil fun a w e s => ?_
          exact ⟨e.sub (lk_of_allIn ⟨rfl, rfl, rfl, rfl, rfl, rfl, trivial⟩), s⟩
        · rintro r rfl
          exact fun a w h => h.elim
      · replace hb20 := cond_f hc21 hb20
        cases hb20
        refine TC.exit rfl fun a w e s => ?_
        exact ⟨e.sub (lk_of_allIn ⟨rfl, rfl, rfl, trivial⟩), s⟩
    · exact fun a w e s => ⟨e.sub (lk_of_allIn ⟨rfl, rfl, rfl, rfl, rfl, rfl, trivial⟩), s⟩
    · rintro x17 rfl a w ⟨he, hs⟩
      dsimp only [Ctl.on] at hm
      refine TC.use ?_ he hs
      refine TC.k ?_
      refine TC.region ?_
      refine TO.s rfl rfl rfl (StepS.move rfl) ?_
      refine TO.s rfl rfl rfl (StepS.cmp rfl rfl rfl) ?_
      refine TO.s rfl rfl rfl (StepS.move rfl) ?_
      refine TO.mid1 4 69 (.bool ((r2 == 0) && (r1 == x17))) ?_ ?_
      · refine bcase ((r2 == 0)) (fun hb47 => ?_) (fun hb47 => ?_)
        · refine TO.sw rfl rfl rfl hb47 rfl rfl (StepS.move rfl) ?_
          refine TO.sw rfl rfl rfl hb47 rfl rfl (StepS.move rfl) ?_
          refine TO.sw rfl rfl rfl hb47 rfl rfl (StepS.cmp rfl rfl rfl) ?_
          refine TO.s rfl rfl rfl (StepS.pickT rfl hb47 rfl) ?_
          exact TO.up1 4 0 rfl rfl (by rw [hb47]; rfl) rfl
        · refine TO.skip rfl rfl rfl (skipF hb47) rfl rfl ?_
          refine TO.skip rfl rfl rfl (skipF hb47) rfl rfl ?_
          refine TO.skip rfl rfl rfl (skipF hb47) rfl rfl ?_
          refine TO.s rfl rfl rfl (StepS.pickF rfl hb47 rfl) ?_
          exact TO.up1 4 0 rfl rfl (by rw [hb47]; rfl) rfl
      refine TO.s rfl rfl rfl (StepS.assign rfl) ?_
      refine TO.code ?_
      cases hm
      refine TC.ret fun a w e s => ?_
      refine FRet.mk1 (P := Try.prog) (fn := Try.f5) (t := 4) e rfl rfl ?_
      exact ⟨rfl, s.mono fun _ => Sat.dropN 1⟩
    · rintro r rfl
      exact fun a w h => h.elim

set_option maxRecDepth 100000 in
theorem C20 {B : World} {L : List HP} {a0 : Int} {a1 : List (Int × Int × Int)} {a2 : List Int} {h1 : Value} {h2 : Value} {r0 : Bool} {r1 : Int} (e1 : Ent L (Rd 3 h1 (a1.map cTiii))) (e2 : Ent L (Rd 1 h2 (a2.map cI))) (hm : F20 a0 a1 a2 = some (r0, r1)) {w : World} (st : St B L w) : Calls Try.prog 20 #[I a0, h1, h2] w (fun e w' => (e = .returned (.tuple #[.bool r0, I r1]) ∧ St B (L) w')) := by
  refine calls_of (N := 65) (L := L) (args := [I a0, h1, h2]) Try.func20 rfl rfl rfl ?_ st
  dsimp only [F20] at hm
  refine TC.k ?_
  refine TC.region ?_
  refine TO.s rfl rfl rfl (StepS.assign rfl) ?_
  refine TO.s rfl rfl rfl (StepS.assign rfl) ?_
  refine TO.code ?_
  refine TC.k ?_
  refine TC.k ?_
  refine TC.region ?_
  refine TO.s rfl rfl rfl (StepS.move rfl) ?_
  refine TO.s rfl rfl rfl (StepS.move rfl) ?_
  obtain ⟨r1, hc2, hm⟩ := bind_some hm
  refine TO.q rfl rfl rfl (StepQ.call kcallB_15_true rfl rfl (fun _ st => C15 e1 hc2 st)) ?_
  refine TO.s rfl rfl rfl (StepS.assign rfl) ?_
  refine TO.code ?_
  refine TC.k ?_
  refine TC.region ?_
  refine TO.s rfl rfl rfl (StepS.move rfl) ?_
  refine TO.s rfl rfl rfl (StepS.cmp rfl rfl rfl) ?_
  refine TO.code ?_
  refine TC.cond rfl (fun hc3 => ?_) (fun hc3 => ?_)
  · replace hm := cond_t hc3 hm
    refine TC.k ?_
    refine TC.region ?_
    refine TO.s rfl rfl rfl (StepS.move rfl) ?_
    refine TO.s rfl rfl rfl (StepS.assign rfl) ?_
    refine TO.s rfl rfl rfl (StepS.assign rfl) ?_
    refine TO.code ?_
    cases hm
    refine TC.ret fun a w e s => ?_
    refine FRet.mk2 (P := Try.prog) (fn := Try.f20) (t := 6) (u := 7) e rfl rfl rfl ?_
    exact ⟨rfl, s.mono fun _ => Sat.dropN 0⟩
  · replace hm := cond_f hc3 hm
    refine TC.skipk ?_
    refine TC.k ?_
    refine TC.k ?_
    refine TC.region ?_
    refine TO.s rfl rfl rfl (StepS.move rfl) ?_
    refine TO.s rfl rfl rfl (StepS.lenm rfl e2 ksliceB_34_3_1_true rfl) ?_
    refine TO.s rfl rfl rfl (StepS.move rfl) ?_
    refine TO.s rfl rfl rfl (StepS.lenm rfl e1 ksliceB_22_58_3_true rfl) ?_
    refine TO.s rfl rfl rfl (StepS.cmp rfl rfl rfl) ?_
    refine TO.code ?_
    refine TC.cond rfl (fun hc4 => ?_) (fun hc4 => ?_)
    · replace hm := cond_t hc4 hm
      refine TC.k ?_
      refine TC.region ?_
      refine TO.s rfl rfl rfl (StepS.assign rfl) ?_
      refine TO.s rfl rfl rfl (StepS.assign rfl) ?_
      refine TO.code ?_
      cases hm
      refine TC.ret fun a w e s => ?_
      refine FRet.mk2 (P := Try.prog) (fn := Try.f20) (t := 6) (u := 7) e rfl rfl rfl ?_
      exact ⟨rfl, s.mono fun _ => Sat.dropN 0⟩
    · replace hm := cond_f hc4 hm
      refine TC.skipk ?_
      refine TC.k ?_
      refine TC.region ?_
      refine TO.s rfl rfl rfl (StepS.move rfl) ?_
      refine TO.s rfl rfl rfl (StepS.move rfl) ?_
      obtain ⟨r5, hc6, hm⟩ := bind_some hm
      refine TO.callO kcallB_40_true rfl rfl rfl (fun _ st => C40 e1 hc6 st) ?_
      rintro v7 _ ⟨_, rfl, rfl⟩
      refine TO.s rfl rfl rfl (StepS.assign rfl) ?_
      refine TO.code ?_
      refine TC.k ?_
      refine TC.region ?_
      refine TO.s rfl rfl rfl (StepS.assign rfl) ?_
      refine TO.code ?_
      refine TC.k ?_
      refine TC.region ?_
      refine TO.s rfl rfl rfl (StepS.assign rfl) ?_
      refine TO.code ?_
      refine TC.k ?_
      refine TC.k ?_
      refine TC.region ?_
      refine TO.s rfl rfl rfl (StepS.move rfl) ?_
      refine TO.s rfl rfl rfl (StepS.lenm rfl e2.tl ksliceB_34_3_1_true rfl) ?_
      refine TO.s rfl rfl rfl (StepS.move rfl) ?_
      refine TO.code ?_
      obtain ⟨o16, hw17, hm⟩ := bind_some hm
      refine TC.loop hw17 (fun (x9, b10, x11) => fun a w => Mid 65 B [(1, h1), (9, v7), (10, U x9), (11, .bool b10), (28, h2), (29, I (a2.length : Int)), (30, I x11)] (OwnS 60 1 v7 (r5.map cU) :: L) a w) (fun b15 => fun a w => Mid 65 B [(11, .bool b15)] (OwnS 60 1 v7 (r5.map cU) :: L) a w) (fun (r0, r1) => FRet Try.prog Try.f20 (fun e w' => (e = .returned (.tuple #[.bool r0, I r1]) ∧ St B (L) w'))) ?_ ?_ ?_ ?_
      · rintro ⟨x9, b10, x11⟩ o16r hb18 a w ⟨he, hs⟩
        dsimp only [F20_L0] at hb18
        refine TC.use ?_ he hs
        refine TC.k ?_
        refine TC.region ?_
        refine TO.s rfl rfl rfl (StepS.cmp rfl rfl rfl) ?_
        refine TO.code ?_
        refine TC.k ?_
        refine TC.cond rfl (fun hc19 => ?_) (fun hc19 => ?_)
        · replace hb18 := cond_t hc19 hb18
          refine TC.skipk ?_
          refine TC.k ?_
          refine TC.block ?_
          refine TC.k ?_
          refine TC.region ?_
          obtain ⟨x20, hx21, hb18⟩ := bind_some hb18
          refine TO.s rfl rfl rfl (StepS.idx rfl rfl e2.tl ksliceB_34_3_1_true (idx_spec hx21).1 (idxm_lt hx21)) ?_
          refine TO.s rfl rfl rfl (StepS.ld0 rfl e2.tl kscalB_3_true rfl (idxm hx21) rfl) ?_
          refine TO.s rfl rfl rfl (StepS.assign rfl) ?_
          refine TO.code ?_
          refine TC.k ?_
          refine TC.k ?_
          refine TC.region ?_
          refine TO.s rfl rfl rfl (StepS.move rfl) ?_
          refine TO.s rfl rfl rfl (StepS.cmp rfl rfl rfl) ?_
          refine TO.s rfl rfl rfl (StepS.move rfl) ?_
          refine TO.mid1 5 41 (.bool ((decide (x20 < 0)) || (decide (x20 ≥ (a1.length : Int))))) ?_ ?_
          · refine bcase ((decide (x20 < 0))) (fun hb22 => ?_) (fun hb22 => ?_)
            · refine TO.skip rfl rfl rfl (skipT hb22) rfl rfl ?_
              refine TO.skip rfl rfl rfl (skipT hb22) rfl rfl ?_
              refine TO.skip rfl rfl rfl (skipT hb22) rfl rfl ?_
              refine TO.skip rfl rfl rfl (skipT hb22) rfl rfl ?_
              refine TO.s rfl rfl rfl (StepS.pickT rfl hb22 rfl) ?_
              exact TO.up1 5 0 rfl rfl (by rw [hb22]; rfl) rfl
            · refine TO.sw rfl rfl rfl hb22 rfl rfl (StepS.move rfl) ?_
              refine TO.sw rfl rfl rfl hb22 rfl rfl (StepS.move rfl) ?_
              refine TO.sw rfl rfl rfl hb22 rfl rfl (StepS.lenm rfl e1.tl ksliceB_22_58_3_true rfl) ?_
              refine TO.sw rfl rfl rfl hb22 rfl rfl (StepS.cmp rfl rfl rfl) ?_
              refine TO.s rfl rfl rfl (StepS.pickF rfl hb22 rfl) ?_
              exact TO.up1 5 0 rfl rfl (by rw [hb22]; rfl) rfl
          refine TO.s rfl rfl rfl (StepS.move rfl) ?_
          obtain ⟨b24, hj25, hb18⟩ := bind_some hb18
          refine TO.mid1 6 48 (.bool b24) ?_ ?_
          · refine bcase (((decide (x20 < 0)) || (decide (x20 ≥ (a1.length : Int))))) (fun hb23 => ?_) (fun hb23 => ?_)
            · replace hj25 := cond_t hb23 hj25
              cases hj25
              refine TO.skip rfl rfl rfl (skipT hb23) rfl rfl ?_
              refine TO.skip rfl rfl rfl (skipT hb23) rfl rfl ?_
              refine TO.skip rfl rfl rfl (skipT hb23) rfl rfl ?_
              refine TO.skip rfl rfl rfl (skipT hb23) rfl rfl ?_
              refine TO.skip rfl rfl rfl (skipT hb23) rfl rfl ?_
              refine TO.s rfl rfl rfl (StepS.pickT rfl hb23 rfl) ?_
              exact TO.up1 6 0 rfl rfl rfl rfl
            · replace hj25 := cond_f hb23 hj25
              refine TO.sw rfl rfl rfl hb23 rfl rfl (StepS.move rfl) ?_
              refine TO.sw rfl rfl rfl hb23 rfl rfl (StepS.move rfl) ?_
              obtain ⟨k26, hk27, hj25⟩ := bind_some hj25
              refine TO.sw rfl rfl rfl hb23 rfl rfl (StepS.shrk rfl rfl hk27) ?_
              refine TO.sw rfl rfl rfl hb23 rfl rfl (StepS.bitU (n := 1#32) rfl rfl rfl) ?_
              refine TO.sw rfl rfl rfl hb23 rfl rfl (StepS.cmpU (n := 1#32) rfl rfl rfl) ?_
              cases hj25
              refine TO.s rfl rfl rfl (StepS.pickF rfl hb23 rfl) ?_
              exact TO.up1 6 0 rfl rfl rfl rfl
          refine TO.code ?_
          refine TC.cond rfl (fun hc28 => ?_) (fun hc28 => ?_)
          · replace hb18 := cond_t hc28 hb18
            refine TC.k ?_
            refine TC.region ?_
            refine TO.s rfl rfl rfl (StepS.assign rfl) ?_
            refine TO.s rfl rfl rfl (StepS.assign rfl) ?_
            refine TO.code ?_
            cases hb18
            refine TC.ret fun a w e s => ?_
            refine FRet.mk2 (P := Try.prog) (fn := Try.f20) (t := 6) (u := 7) e rfl rfl rfl ?_
            exact ⟨rfl, s.mono fun _ => Sat.dropN 1⟩
          · replace hb18 := cond_f hc28 hb18
            refine TC.skipk ?_
            refine TC.k ?_
            refine TC.region ?_
            refine TO.s rfl rfl rfl (StepS.move rfl) ?_
            refine TO.s rfl rfl rfl (StepS.move rfl) ?_
            obtain ⟨b30, hj31, hb18⟩ := bind_some hb18
            refine TO.mid1 8 58 (.bool b30) ?_ ?_
            · refine bcase (b10) (fun hb29 => ?_) (fun hb29 => ?_)
              · replace hj31 := cond_t hb29 hj31
                refine TO.sw rfl rfl rfl hb29 rfl rfl (StepS.move rfl) ?_
                refine TO.sw rfl rfl rfl hb29 rfl rfl (StepS.move rfl) ?_
                obtain ⟨x32, hx33, hj31⟩ := bind_some hj31
                refine TO.sw rfl rfl rfl hb29 rfl rfl (StepS.idx rfl rfl (OwnS.rd (Ent.at 0 rfl)) ksliceB_61_60_1_true (idx_spec hx33).1 (idxm_lt hx33)) ?_
                refine TO.sw rfl rfl rfl hb29 rfl rfl (StepS.ld0 rfl (OwnS.rd (Ent.at 0 rfl)) kscalB_60_true rfl (idxm hx33) rfl) ?_
                refine TO.sw rfl rfl rfl hb29 rfl rfl (StepS.move rfl) ?_
                refine TO.sw rfl rfl rfl hb29 rfl rfl (StepS.bitU rfl rfl rfl) ?_
                refine TO.sw rfl rfl rfl hb29 rfl rfl (StepS.cmpU (n := 0#32) rfl rfl rfl) ?_
                cases hj31
                refine TO.s rfl rfl rfl (StepS.pickT rfl hb29 rfl) ?_
                exact TO.up1 8 0 rfl rfl rfl rfl
              · replace hj31 := cond_f hb29 hj31
                cases hj31
                refine TO.skip rfl rfl rfl (skipF hb29) rfl rfl ?_
                refine TO.skip rfl rfl rfl (skipF hb29) rfl rfl ?_
                refine TO.skip rfl rfl rfl (skipF hb29) rfl rfl ?_
                refine TO.skip rfl rfl rfl (skipF hb29) rfl rfl ?_
                refine TO.skip rfl rfl rfl (skipF hb29) rfl rfl ?_
                refine TO.skip rfl rfl rfl (skipF hb29) rfl rfl ?_
                refine TO.skip rfl rfl rfl (skipF hb29) rfl rfl ?_
                refine TO.s rfl rfl rfl (StepS.pickF rfl hb29 rfl) ?_
                exact TO.up1 8 0 rfl rfl rfl rfl
            refine TO.s rfl rfl rfl (StepS.assign rfl) ?_
            refine TO.code ?_
            refine TC.region ?_
            refine TO.s rfl rfl rfl (StepS.move rfl) ?_
            refine TO.s rfl rfl rfl (StepS.move rfl) ?_
            obtain ⟨k34, hk35, hb18⟩ := bind_some hb18
            refine TO.s rfl rfl rfl (StepS.shlk (m := 1#32) rfl rfl hk35) ?_
            refine TO.s rfl rfl rfl (StepS.bitU rfl rfl rfl) ?_
            refine TO.s rfl rfl rfl (StepS.assign rfl) ?_
            refine TO.code ?_
            refine TC.region ?_
            refine TO.s rfl rfl rfl (StepS.ari rfl rfl rfl) ?_
            refine TO.s rfl rfl rfl (StepS.move rfl) ?_
            cases hb18
            refine TO.nil fun a w e s => ?_
            exact ⟨e.sub (lk_of_allIn ⟨rfl, rfl, rfl, rfl, rfl, rfl, rfl, trivial⟩), s⟩
        · replace hb18 := cond_f hc19 hb18
          cases hb18
          refine TC.exit rfl fun a w e s => ?_
          exact ⟨e.sub (lk_of_allIn ⟨rfl, trivial⟩), s⟩
      · exact fun a w e s => ⟨e.sub (lk_of_allIn ⟨rfl, rfl, rfl, rfl, rfl, rfl, rfl, trivial⟩), s⟩
      · rintro b15 rfl a w ⟨he, hs⟩
        dsimp only [Ctl.on] at hm
        refine TC.use ?_ he hs
        refine TC.k ?_
        refine TC.region ?_
        refine TO.s rfl rfl rfl (StepS.move rfl) ?_
        refine TO.s rfl rfl rfl (StepS.assign rfl) ?_
        refine TO.s rfl rfl rfl (StepS.assign rfl) ?_
        refine TO.code ?_
        cases hm
        refine TC.ret fun a w e s => ?_
        refine FRet.mk2 (P := Try.prog) (fn := Try.f20) (t := 6) (u := 7) e rfl rfl rfl ?_
        exact ⟨rfl, s.mono fun _ => Sat.dropN 1⟩
      · rintro r rfl
        cases hm
        exact fun a w h => h

set_option maxRecDepth 100000 in
theorem C41 {B : World} {L : List HP} {a0 : List Int} {a1 : Int} {h0 : Value} {r0 : Bool} (e0 : Ent L (Rd 1 h0 (a0.map cI))) (hm : F41 a0 a1 = some r0) {w : World} (st : St B L w) : Calls Try.prog 41 #[h0, I a1] w (fun e w' => (e = .returned (.bool r0) ∧ St B (L) w')) := by
  refine calls_of (N := 17) (L := L) (args := [h0, I a1]) Try.func41 rfl rfl rfl ?_ st
  dsimp only [F41] at hm
  refine TC.k ?_
  refine TC.region ?_
  refine TO.s rfl rfl rfl (StepS.assign rfl) ?_
  refine TO.code ?_
  refine TC.k ?_
  refine TC.k ?_
  refine TC.region ?_
  refine TO.s rfl rfl rfl (StepS.move rfl) ?_
  refine TO.s rfl rfl rfl (StepS.lenm rfl e0 ksliceB_34_3_1_true rfl) ?_
  refine TO.s rfl rfl rfl (StepS.move rfl) ?_
  refine TO.code ?_
  obtain ⟨o3, hw4, hm⟩ := bind_some hm
  refine TC.loop hw4 (fun x1 => fun a w => Mid 17 B [(1, I a1), (7, h0), (8, I (a0.length : Int)), (9, I x1)] (L) a w) (fun _ => fun a w => Mid 17 B [] (L) a w) (fun r0 => FRet Try.prog Try.f41 (fun e w' => (e = .returned (.bool r0) ∧ St B (L) w'))) ?_ ?_ ?_ ?_
  · rintro x1 o3r hb5 a w ⟨he, hs⟩
    dsimp only [F41_L0] at hb5
    refine TC.use ?_ he hs
    refine TC.k ?_
    refine TC.region ?_
    refine TO.s rfl rfl rfl (StepS.cmp rfl rfl rfl) ?_
    refine TO.code ?_
    refine TC.k ?_
    refine TC.cond rfl (fun hc6 => ?_) (fun hc6 => ?_)
    · replace hb5 := cond_t hc6 hb5
      refine TC.skipk ?_
      refine TC.k ?_
      refine TC.block ?_
      refine TC.k ?_
      refine TC.region ?_
      obtain ⟨x7, hx8, hb5⟩ := bind_some hb5
      refine TO.s rfl rfl rfl (StepS.idx rfl rfl e0 ksliceB_34_3_1_true (idx_spec hx8).1 (idxm_lt hx8)) ?_
      refine TO.s rfl rfl rfl (StepS.ld0 rfl e0 kscalB_3_true rfl (idxm hx8) rfl) ?_
      refine TO.s rfl rfl rfl (StepS.assign rfl) ?_
      refine TO.code ?_
      refine TC.k ?_
      refine TC.region ?_
      refine TO.s rfl rfl rfl (StepS.move rfl) ?_
      refine TO.s rfl rfl rfl (StepS.move rfl) ?_
      refine TO.s rfl rfl rfl (StepS.cmp rfl rfl rfl) ?_
      refine TO.code ?_
      refine TC.cond rfl (fun hc9 => ?_) (fun hc9 => ?_)
      · replace hb5 := cond_t hc9 hb5
        refine TC.k ?_
        refine TC.region ?_
        refine TO.s rfl rfl rfl (StepS.assign rfl) ?_
        refine TO.code ?_
        cases hb5
        refine TC.ret fun a w e s => ?_
        refine FRet.mk1 (P := Try.prog) (fn := Try.f41) (t := 4) e rfl rfl ?_
        exact ⟨rfl, s.mono fun _ => Sat.dropN 0⟩
      · replace hb5 := cond_f hc9 hb5
        refine TC.skipk ?_
        refine TC.region ?_
        refine TO.s rfl rfl rfl (StepS.ari rfl rfl rfl) ?_
        refine TO.s rfl rfl rfl (StepS.move rfl) ?_
        cases hb5
        refine TO.nil fun a w e s => ?_
        exact ⟨e.sub (lk_of_allIn ⟨rfl, rfl, rfl, rfl, trivial⟩), s⟩
    · replace hb5 := cond_f hc6 hb5
      cases hb5
      refine TC.exit rfl fun a w e s => ?_
      exact ⟨e.sub (lk_of_allIn trivial), s⟩
  · exact fun a w e s => ⟨e.sub (lk_of_allIn ⟨rfl, rfl, rfl, rfl, trivial⟩), s⟩
  · rintro _ rfl a w ⟨he, hs⟩
    dsimp only [Ctl.on] at hm
    refine TC.use ?_ he hs
    refine TC.k ?_
    refine TC.region ?_
    refine TO.s rfl rfl rfl (StepS.assign rfl) ?_
    refine TO.code ?_
    cases hm
    refine TC.ret fun a w e s => ?_
    refine FRet.mk1 (P := Try.prog) (fn := Try.f41) (t := 4) e rfl rfl ?_
    exact ⟨rfl, s.mono fun _ => Sat.dropN 0⟩
  · rintro r rfl
    cases hm
    exact fun a w h => h

set_option maxRecDepth 100000 in
theorem C21 {B : World} {L : List HP} {a0 : Int} {a1 : List Int} {h1 : Value} {r0 : Bool} (e1 : Ent L (Rd 1 h1 (a1.map cI))) (hm : F21 a0 a1 = some r0) {w : World} (st : St B L w) : Calls Try.prog 21 #[I a0, h1] w (fun e w' => (e = .returned (.bool r0) ∧ St B (L) w')) := by
  refine calls_of (N := 19) (L := L) (args := [I a0, h1]) Try.func21 rfl rfl rfl ?_ st
  dsimp only [F21] at hm
  refine TC.k ?_
  refine TC.region ?_
  refine TO.s rfl rfl rfl (StepS.assign rfl) ?_
  refine TO.code ?_
  refine TC.k ?_
  refine TC.k ?_
  refine TC.region ?_
  refine TO.s rfl rfl rfl (StepS.move rfl) ?_
  refine TO.s rfl rfl rfl (StepS.lenm rfl e1 ksliceB_34_3_1_true rfl) ?_
  refine TO.s rfl rfl rfl (StepS.move rfl) ?_
  refine TO.s rfl rfl rfl (StepS.cmp rfl rfl rfl) ?_
  refine TO.code ?_
  refine TC.cond rfl (fun hc1 => ?_) (fun hc1 => ?_)
  · replace hm := cond_t hc1 hm
    refine TC.k ?_
    refine TC.region ?_
    refine TO.s rfl rfl rfl (StepS.assign rfl) ?_
    refine TO.code ?_
    cases hm
    refine TC.ret fun a w e s => ?_
    refine FRet.mk1 (P := Try.prog) (fn := Try.f21) (t := 4) e rfl rfl ?_
    exact ⟨rfl, s.mono fun _ => Sat.dropN 0⟩
  · replace hm := cond_f hc1 hm
    refine TC.skipk ?_
    refine TC.k ?_
    refine TC.k ?_
    refine TC.region ?_
    refine TO.s rfl rfl rfl (StepS.assign rfl) ?_
    refine TO.code ?_
    obtain ⟨o4, hw5, hm⟩ := bind_some hm
    refine TC.loop hw5 (fun x2 => fun a w => Mid 19 B [(0, I a0), (1, h1), (5, I x2)] (L) a w) (fun _ => fun a w => Mid 19 B [] (L) a w) (fun r0 => FRet Try.prog Try.f21 (fun e w' => (e = .returned (.bool r0) ∧ St B (L) w'))) ?_ ?_ ?_ ?_
    · rintro x2 o4r hb6 a w ⟨he, hs⟩
      dsimp only [F21_L0] at hb6
      refine TC.use ?_ he hs
      refine TC.k ?_
      refine TC.k ?_
      refine TC.region ?_
      refine TO.s rfl rfl rfl (StepS.move rfl) ?_
      refine TO.s rfl rfl rfl (StepS.move rfl) ?_
      refine TO.s rfl rfl rfl (StepS.cmp rfl rfl rfl) ?_
      refine TO.code ?_
      refine TC.cond rfl (fun hc7 => ?_) (fun hc7 => ?_)
      · replace hb6 := cond_t hc7 hb6
        refine TC.skipk ?_
        refine TC.k ?_
        refine TC.block ?_
        refine TC.k ?_
        refine TC.region ?_
        refine TO.s rfl rfl rfl (StepS.move rfl) ?_
        refine TO.s rfl rfl rfl (StepS.move rfl) ?_
        obtain ⟨r8, hc9, hb6⟩ := bind_some hb6
        refine TO.q rfl rfl rfl (StepQ.call kcallB_41_true rfl rfl (fun _ st => C41 e1 hc9 st)) ?_
        refine TO.s rfl rfl rfl (StepS.not rfl) ?_
        refine TO.code ?_
        refine TC.cond rfl (fun hc10 => ?_) (fun hc10 => ?_)
        · replace hb6 := cond_t hc10 hb6
          refine TC.k ?_
          refine TC.region ?_
          refine TO.s rfl rfl rfl (StepS.assign rfl) ?_
          refine TO.code ?_
          cases hb6
          refine TC.ret fun a w e s => ?_
          refine FRet.mk1 (P := Try.prog) (fn := Try.f21) (t := 4) e rfl rfl ?_
          exact ⟨rfl, s.mono fun _ => Sat.dropN 0⟩
        · replace hb6 := cond_f hc10 hb6
          refine TC.skipk ?_
          refine TC.region ?_
          refine TO.s rfl rfl rfl (StepS.move rfl) ?_
          refine TO.s rfl rfl rfl (StepS.ari rfl rfl rfl) ?_
          refine TO.s rfl rfl rfl (StepS.assign rfl) ?_
          cases hb6
          refine TO.nil fun a w e s => ?_
          exact ⟨e.sub (lk_of_allIn ⟨rfl, rfl, rfl, trivial⟩), s⟩
      · replace hb6 := cond_f hc7 hb6
        cases hb6
        refine TC.exit rfl fun a w e s => ?_
        exact ⟨e.sub (lk_of_allIn trivial), s⟩
    · exact fun a w e s => ⟨e.sub (lk_of_allIn ⟨rfl, rfl, rfl, trivial⟩), s⟩
    · rintro _ rfl a w ⟨he, hs⟩
      dsimp only [Ctl.on] at hm
      refine TC.use ?_ he hs
      refine TC.k ?_
      refine TC.region ?_
      refine TO.s rfl rfl rfl (StepS.assign rfl) ?_
      refine TO.code ?_
      cases hm
      refine TC.ret fun a w e s => ?_
      refine FRet.mk1 (P := Try.prog) (fn := Try.f21) (t := 4) e rfl rfl ?_
      exact ⟨rfl, s.mono fun _ => Sat.dropN 0⟩
    · rintro r rfl
      cases hm
      exact fun a w h => h

set_option maxRecDepth 100000 in
theorem C22 {B : World} {L : List HP} {a0 : List (Int × Int × Int)} {a1 : List Int} {h0 : Value} {h1 : Value} {r0 : Bool} (e0 : Ent L (Rd 3 h0 (a0.map cTiii))) (e1 : Ent L (Rd 1 h1 (a1.map cI))) (hm : F22 a0 a1 = some r0) {w : World} (st : St B L w) : Calls Try.prog 22 #[h0, h1] w (fun e w' => (e = .returned (.bool r0) ∧ St B (L) w')) := by
  refine calls_of (N := 37) (L := L) (args := [h0, h1]) Try.func22 rfl rfl rfl ?_ st
  dsimp only [F22] at hm
  refine TC.k ?_
  refine TC.region ?_
  refine TO.s rfl rfl rfl (StepS.assign rfl) ?_
  refine TO.code ?_
  refine TC.k ?_
  refine TC.region ?_
  refine TO.s rfl rfl rfl (StepS.move rfl) ?_
  obtain ⟨r1, hc2, hm⟩ := bind_some hm
  refine TO.callO kcallB_18_true rfl rfl rfl (fun _ st => C18 e0 hc2 st) ?_
  rintro v3 _ ⟨_, hs4, rfl, rfl⟩
  refine TO.s rfl rfl rfl (StepS.assign rfl) ?_
  refine TO.code ?_
  refine TC.k ?_
  refine TC.k ?_
  refine TC.region ?_
  refine TO.s rfl rfl rfl (StepS.assign rfl) ?_
  refine TO.code ?_
  obtain ⟨o8, hw9, hm⟩ := bind_some hm
  refine TC.loop hw9 (fun x6 => fun a w => Mid 37 B [(1, h1), (5, v3), (6, I x6)] (SS 28 4 1 cB v3 hs4 (r1) :: L) a w) (fun _ => fun a w => Mid 37 B [] (SS 28 4 1 cB v3 hs4 (r1) :: L) a w) (fun r0 => FRet Try.prog Try.f22 (fun e w' => (e = .returned (.bool r0) ∧ St B (L) w'))) ?_ ?_ ?_ ?_
  · rintro x6 o8r hb10 a w ⟨he, hs⟩
    dsimp only [F22_L0] at hb10
    refine TC.use ?_ he hs
    refine TC.k ?_
    refine TC.k ?_
    refine TC.region ?_
    refine TO.s rfl rfl rfl (StepS.move rfl) ?_
    refine TO.s rfl rfl rfl (StepS.move rfl) ?_
    refine TO.s rfl rfl rfl (StepS.lenm rfl e1.tl ksliceB_34_3_1_true rfl) ?_
    refine TO.s rfl rfl rfl (StepS.cmp rfl rfl rfl) ?_
    refine TO.code ?_
    refine TC.cond rfl (fun hc11 => ?_) (fun hc11 => ?_)
    · replace hb10 := cond_t hc11 hb10
      refine TC.skipk ?_
      refine TC.k ?_
      refine TC.block ?_
      refine TC.k ?_
      refine TC.region ?_
      refine TO.s rfl rfl rfl (StepS.move rfl) ?_
      refine TO.s rfl rfl rfl (StepS.ari rfl rfl rfl) ?_
      refine TO.s rfl rfl rfl (StepS.assign rfl) ?_
      refine TO.code ?_
      obtain ⟨o14, hw15, hb10⟩ := bind_some hb10
      refine TC.loop hw15 (fun x12 => fun a w => Mid 37 B [(1, h1), (5, v3), (6, I x6), (7, I x12)] (SS 28 4 1 cB v3 hs4 (r1) :: L) a w) (fun _ => fun a w => Mid 37 B [(1, h1), (5, v3), (6, I x6)] (SS 28 4 1 cB v3 hs4 (r1) :: L) a w) (fun r0 => FRet Try.prog Try.f22 (fun e w' => (e = .returned (.bool r0) ∧ St B (L) w'))) ?_ ?_ ?_ ?_
      · rintro x12 o14r hb16 a w ⟨he, hs⟩
        dsimp only [F22_L1] at hb16
        refine TC.use ?_ he hs
        refine TC.k ?_
        refine TC.k ?_
        refine TC.region ?_
        refine TO.s rfl rfl rfl (StepS.move rfl) ?_
        refine TO.s rfl rfl rfl (StepS.move rfl) ?_
        refine TO.s rfl rfl rfl (StepS.lenm rfl e1.tl ksliceB_34_3_1_true rfl) ?_
        refine TO.s rfl rfl rfl (StepS.cmp rfl rfl rfl) ?_
        refine TO.code ?_
        refine TC.cond rfl (fun hc17 => ?_) (fun hc17 => ?_)
        · replace hb16 := cond_t hc17 hb16
          refine TC.skipk ?_
          refine TC.k ?_
          refine TC.block ?_
          refine TC.k ?_
          refine TC.region_still kfollows_mixedOrders_true (by kernel_rfl) ?_
          refine TS.s rfl rfl rfl (StepS.move rfl) ?_
          refine TS.s rfl rfl rfl (StepS.move rfl) ?_
          refine TS.s rfl rfl rfl (StepS.move rfl) ?_
          obtain ⟨x18, hx19, hb16⟩ := bind_some hb16
          refine TS.s rfl rfl rfl (StepS.idx rfl rfl e1.tl ksliceB_34_3_1_true (idx_spec hx19).1 (idxm_lt hx19)) ?_
          refine TS.s rfl rfl rfl (StepS.ld0 rfl e1.tl kscalB_3_true rfl (idxm hx19) rfl) ?_
          obtain ⟨x20, hx21, hb16⟩ := bind_some hb16
          refine TS.s rfl rfl rfl (StepS.idxRR rfl rfl (SS.rr (Ent.at 0 rfl)) ksliceB_29_28_1_true hx21) ?_
          refine TS.s rfl rfl rfl (StepS.ldRR rfl (SS.rr (Ent.at 0 rfl)) kscalB_28_true hx21) ?_
          refine TS.s rfl rfl rfl (StepS.move rfl) ?_
          refine TS.s rfl rfl rfl (StepS.move rfl) ?_
          obtain ⟨x23, hx24, hb16⟩ := bind_some hb16
          refine TS.s rfl rfl rfl (StepS.idx rfl rfl e1.tl ksliceB_34_3_1_true (idx_spec hx24).1 (idxm_lt hx24)) ?_
          refine TS.s rfl rfl rfl (StepS.ld0 rfl e1.tl kscalB_3_true rfl (idxm hx24) rfl) ?_
          obtain ⟨x25, hx26, hb16⟩ := bind_some hb16
          refine TS.s rfl rfl rfl (StepS.idx rfl rfl (RR.row (SS.rr (Ent.at 0 rfl)) hx21) ksliceB_28_4_1_true (idx_spec hx26).1 (idxm_lt hx26)) ?_
          refine TS.s rfl rfl rfl (StepS.ld0 rfl (RR.row (SS.rr (Ent.at 0 rfl)) hx21) kscalB_4_true rfl (idxm hx26) rfl) ?_
          refine TS.code ?_
          refine TC.cond rfl (fun hc27 => ?_) (fun hc27 => ?_)
          · replace hb16 := cond_t hc27 hb16
            refine TC.k ?_
            refine TC.region ?_
            refine TO.s rfl rfl rfl (StepS.assign rfl) ?_
            refine TO.code ?_
            cases hb16
            refine TC.ret fun a w e s => ?_
            refine FRet.mk1 (P := Try.prog) (fn := Try.f22) (t := 4) e rfl rfl ?_
            exact ⟨rfl, s.mono fun _ => Sat.dropN 1⟩
          · replace hb16 := cond_f hc27 hb16
            refine TC.skipk ?_
            refine TC.region ?_
            refine TO.s rfl rfl rfl (StepS.move rfl) ?_
            refine TO.s rfl rfl rfl (StepS.ari rfl rfl rfl) ?_
            refine TO.s rfl rfl rfl (StepS.assign rfl) ?_
            cases hb16
            refine TO.nil fun a w e s => ?_
            exact ⟨e.sub (lk_of_allIn ⟨rfl, rfl, rfl, rfl, trivial⟩), s⟩
        · replace hb16 := cond_f hc17 hb16
          cases hb16
          refine TC.exit rfl fun a w e s => ?_
          exact ⟨e.sub (lk_of_allIn ⟨rfl, rfl, rfl, trivial⟩), s⟩
      · exact fun a w e s => ⟨e.sub (lk_of_allIn ⟨rfl, rfl, rfl, rfl, trivial⟩), s⟩
      · rintro _ rfl a w ⟨he, hs⟩
        dsimp only [Ctl.on] at hb10
        refine TC.use ?_ he hs
        refine TC.region ?_
        refine TO.s rfl rfl rfl (StepS.move rfl) ?_
        refine TO.s rfl rfl rfl (StepS.ari rfl rfl rfl) ?_
        refine TO.s rfl rfl rfl (StepS.assign rfl) ?_
        cases hb10
        refine TO.nil fun a w e s => ?_
        exact ⟨e.sub (lk_of_allIn ⟨rfl, rfl, rfl, trivial⟩), s⟩
      · rintro r rfl
        cases hb10
        exact fun a w h => h
    · replace hb10 := cond_f hc11 hb10
      cases hb10
      refine TC.exit rfl fun a w e s => ?_
      exact ⟨e.sub (lk_of_allIn trivial), s⟩
  · exact fun a w e s => ⟨e.sub (lk_of_allIn ⟨rfl, rfl, rfl, trivial⟩), s⟩
  · rintro _ rfl a w ⟨he, hs⟩
    dsimp only [Ctl.on] at hm
    refine TC.use ?_ he hs
    refine TC.k ?_
    refine TC.region ?_
    refine TO.s rfl rfl rfl (StepS.assign rfl) ?_
    refine TO.code ?_
    cases hm
    refine TC.ret fun a w e s => ?_
    refine FRet.mk1 (P := Try.prog) (fn := Try.f22) (t := 4) e rfl rfl ?_
    exact ⟨rfl, s.mono fun _ => Sat.dropN 1⟩
  · rintro r rfl
    cases hm
    exact fun a w h => h

set_option maxRecDepth 100000 in
theorem C6 {B : World} {L : List HP} {a0 : Int} {a1 : List (Int × Int × Int)} {a2 : List Int} {h1 : Value} {h2 : Value} {r0 : Bool} (e1 : Ent L (Rd 3 h1 (a1.map cTiii))) (e2 : Ent L (Rd 1 h2 (a2.map cI))) (hm : F6 a0 a1 a2 = some r0) {w : World} (st : St B L w) : Calls Try.prog 6 #[I a0, h1, h2] w (fun e w' => (e = .returned (.bool r0) ∧ St B (L) w')) := by
  refine calls_of (N := 47) (L := L) (args := [I a0, h1, h2]) Try.func6 rfl rfl rfl ?_ st
  dsimp only [F6] at hm
  refine TC.k ?_
  refine TC.region ?_
  refine TO.s rfl rfl rfl (StepS.assign rfl) ?_
  refine TO.code ?_
  refine TC.k ?_
  refine TC.region ?_
  refine TO.s rfl rfl rfl (StepS.move rfl) ?_
  refine TO.s rfl rfl rfl (StepS.move rfl) ?_
  refine TO.s rfl rfl rfl (StepS.move rfl) ?_
  obtain ⟨⟨r1, r2⟩, hc3, hm⟩ := bind_some hm
  refine TO.q rfl rfl rfl (StepQ.call kcallB_20_true rfl rfl (fun _ st => C20 e1 e2 hc3 st)) ?_
  refine TO.s rfl rfl rfl (StepS.move rfl) ?_
  refine TO.s rfl rfl rfl (StepS.extract rfl rfl) ?_
  refine TO.s rfl rfl rfl (StepS.extract rfl rfl) ?_
  refine TO.s rfl rfl rfl (StepS.assign rfl) ?_
  refine TO.s rfl rfl rfl (StepS.assign rfl) ?_
  refine TO.code ?_
  refine TC.k ?_
  refine TC.region ?_
  refine TO.s rfl rfl rfl (StepS.move rfl) ?_
  refine TO.s rfl rfl rfl (StepS.move rfl) ?_
  obtain ⟨r4, hc5, hm⟩ := bind_some hm
  refine TO.q rfl rfl rfl (StepQ.call kcallB_16_true rfl rfl (fun _ st => C16 e1 hc5 st)) ?_
  refine TO.s rfl rfl rfl (StepS.assign rfl) ?_
  refine TO.code ?_
  refine TC.k ?_
  refine TC.k ?_
  refine TC.region ?_
  refine TO.s rfl rfl rfl (StepS.move rfl) ?_
  refine TO.s rfl rfl rfl (StepS.cmp rfl rfl rfl) ?_
  refine TO.s rfl rfl rfl (StepS.move rfl) ?_
  obtain ⟨b7, hj8, hm⟩ := bind_some hm
  refine TO.mid1 6 28 (.bool b7) ?_ ?_
  · refine bcase ((r4 == 0)) (fun hb6 => ?_) (fun hb6 => ?_)
    · replace hj8 := cond_t hb6 hj8
      refine TO.sw rfl rfl rfl hb6 rfl rfl (StepS.move rfl) ?_
      refine TO.sw rfl rfl rfl hb6 rfl rfl (StepS.lenm rfl e1 ksliceB_22_58_3_true rfl) ?_
      refine TO.sw rfl rfl rfl hb6 rfl rfl (StepS.move rfl) ?_
      obtain ⟨r9, hc10, hj8⟩ := bind_some hj8
      refine TO.qw rfl rfl rfl hb6 rfl rfl (StepQ.call kcallB_21_true rfl rfl (fun _ st => C21 e2 hc10 st)) ?_
      refine TO.sw rfl rfl rfl hb6 rfl rfl (StepS.not rfl) ?_
      cases hj8
      refine TO.s rfl rfl rfl (StepS.pickT rfl hb6 rfl) ?_
      exact TO.up1 6 0 rfl rfl rfl rfl
    · replace hj8 := cond_f hb6 hj8
      cases hj8
      refine TO.skip rfl rfl rfl (skipF hb6) rfl rfl ?_
      refine TO.skip rfl rfl rfl (skipF hb6) rfl rfl ?_
      refine TO.skip rfl rfl rfl (skipF hb6) rfl rfl ?_
      refine TO.skip rfl rfl rfl (skipF hb6) rfl rfl ?_
      refine TO.skip rfl rfl rfl (skipF hb6) rfl rfl ?_
      refine TO.s rfl rfl rfl (StepS.pickF rfl hb6 rfl) ?_
      exact TO.up1 6 0 rfl rfl rfl rfl
  refine TO.code ?_
  obtain ⟨x11, hj12, hm⟩ := bind_some hm
  first | refine TC.cutM (fun a w => Mid 47 B [(1, h1), (2, h2), (7, .bool r1), (8, I r2), (9, I x11)] (L) a w) ?_ ?_ | refine TC.cutX (fun a w => Mid 47 B [(1, h1), (2, h2), (7, .bool r1), (8, I r2), (9, I x11)] (L) a w) ?_ ?_
  · refine TC.cond rfl (fun hc13 => ?_) (fun hc13 => ?_)
    · replace hj12 := cond_t hc13 hj12
      refine TC.region ?_
      refine TO.s rfl rfl rfl (StepS.assign rfl) ?_
      cases hj12
      refine TO.nil fun a w e s => ?_
      exact ⟨e.sub (lk_of_allIn ⟨rfl, rfl, rfl, rfl, rfl, trivial⟩), s⟩
    · replace hj12 := cond_f hc13 hj12
      cases hj12
      refine TC.skip fun a w e s => ?_
      exact ⟨e.sub (lk_of_allIn ⟨rfl, rfl, rfl, rfl, rfl, trivial⟩), s⟩
  · intro a w ⟨he, hs⟩
    refine TC.use ?_ he hs
    refine TC.k ?_
    refine TC.k ?_
    refine TC.region ?_
    refine TO.s rfl rfl rfl (StepS.move rfl) ?_
    refine TO.s rfl rfl rfl (StepS.cmp rfl rfl rfl) ?_
    refine TO.code ?_
    refine TC.cond rfl (fun hc14 => ?_) (fun hc14 => ?_)
    · replace hm := cond_t hc14 hm
      refine TC.k ?_
      refine TC.region ?_
      refine TO.s rfl rfl rfl (StepS.move rfl) ?_
      refine TO.s rfl rfl rfl (StepS.move rfl) ?_
      refine TO.s rfl rfl rfl (StepS.cmp rfl rfl rfl) ?_
      refine TO.s rfl rfl rfl (StepS.move rfl) ?_
      refine TO.mid1 3 37 (.bool ((r2 == x11) && (!r1))) ?_ ?_
      · refine bcase ((r2 == x11)) (fun hb15 => ?_) (fun hb15 => ?_)
        · refine TO.sw rfl rfl rfl hb15 rfl rfl (StepS.move rfl) ?_
          refine TO.sw rfl rfl rfl hb15 rfl rfl (StepS.not rfl) ?_
          refine TO.s rfl rfl rfl (StepS.pickT rfl hb15 rfl) ?_
          exact TO.up1 3 0 rfl rfl (by rw [hb15]; rfl) rfl
        · refine TO.skip rfl rfl rfl (skipF hb15) rfl rfl ?_
          refine TO.skip rfl rfl rfl (skipF hb15) rfl rfl ?_
          refine TO.s rfl rfl rfl (StepS.pickF rfl hb15 rfl) ?_
          exact TO.up1 3 0 rfl rfl (by rw [hb15]; rfl) rfl
      refine TO.s rfl rfl rfl (StepS.assign rfl) ?_
      refine TO.code ?_
      cases hm
      refine TC.ret fun a w e s => ?_
      refine FRet.mk1 (P := Try.prog) (fn := Try.f6) (t := 6) e rfl rfl ?_
      exact ⟨rfl, s.mono fun _ => Sat.dropN 0⟩
    · replace hm := cond_f hc14 hm
      refine TC.skipk ?_
      refine TC.k ?_
      refine TC.region ?_
      refine TO.s rfl rfl rfl (StepS.move rfl) ?_
      refine TO.s rfl rfl rfl (StepS.cmp rfl rfl rfl) ?_
      refine TO.s rfl rfl rfl (StepS.move rfl) ?_
      obtain ⟨b17, hj18, hm⟩ := bind_some hm
      refine TO.mid1 6 46 (.bool b17) ?_ ?_
      · refine bcase ((r2 == 0)) (fun hb16 => ?_) (fun hb16 => ?_)
        · replace hj18 := cond_t hb16 hj18
          refine TO.sw rfl rfl rfl hb16 rfl rfl (StepS.move rfl) ?_
          refine TO.sw rfl rfl rfl hb16 rfl rfl (StepS.move rfl) ?_
          refine TO.sw rfl rfl rfl hb16 rfl rfl (StepS.move rfl) ?_
          obtain ⟨r19, hc20, hj18⟩ := bind_some hj18
          refine TO.qw rfl rfl rfl hb16 rfl rfl (StepQ.call kcallB_22_true rfl rfl (fun _ st => C22 e1 e2 hc20 st)) ?_
          refine TO.sw rfl rfl rfl hb16 rfl rfl (StepS.eqB kunderlying_4_some_bool rfl rfl) ?_
          cases hj18
          refine TO.s rfl rfl rfl (StepS.pickT rfl hb16 rfl) ?_
          exact TO.up1 6 0 rfl rfl rfl rfl
        · replace hj18 := cond_f hb16 hj18
          cases hj18
          refine TO.skip rfl rfl rfl (skipF hb16) rfl rfl ?_
          refine TO.skip rfl rfl rfl (skipF hb16) rfl rfl ?_
          refine TO.skip rfl rfl rfl (skipF hb16) rfl rfl ?_
          refine TO.skip rfl rfl rfl (skipF hb16) rfl rfl ?_
          refine TO.skip rfl rfl rfl (skipF hb16) rfl rfl ?_
          refine TO.s rfl rfl rfl (StepS.pickF rfl hb16 rfl) ?_
          exact TO.up1 6 0 rfl rfl rfl rfl
      refine TO.s rfl rfl rfl (StepS.assign rfl) ?_
      refine TO.code ?_
      cases hm
      refine TC.ret fun a w e s => ?_
      refine FRet.mk1 (P := Try.prog) (fn := Try.f6) (t := 6) e rfl rfl ?_
      exact ⟨rfl, s.mono fun _ => Sat.dropN 0⟩

set_option maxRecDepth 100000 in
theorem C54 {B : World} {L : List HP} {a0 : List Int} {h0 : Value} {r0 : Int} (e0 : Ent L (Rd 1 h0 (a0.map cI))) (hm : F54 a0 = some r0) {w : World} (st : St B L w) : Calls Try.prog 54 #[h0] w (fun e w' => (e = .returned (I r0) ∧ St B (L) w')) := by
  refine calls_of (N := 25) (L := L) (args := [h0]) Try.func54 rfl rfl rfl ?_ st
  dsimp only [F54] at hm
  refine TC.k ?_
  refine TC.region ?_
  refine TO.s rfl rfl rfl (StepS.assign rfl) ?_
  refine TO.code ?_
  refine TC.k ?_
  refine TC.k ?_
  refine TC.region ?_
  refine TO.s rfl rfl rfl (StepS.move rfl) ?_
  refine TO.s rfl rfl rfl (StepS.lenm rfl e0 ksliceB_34_3_1_true rfl) ?_
  refine TO.s rfl rfl rfl (StepS.cmp rfl rfl rfl) ?_
  refine TO.code ?_
  refine TC.cond rfl (fun hc1 => ?_) (fun hc1 => ?_)
  · replace hm := cond_t hc1 hm
    refine TC.region ?_
    cases hm
  · replace hm := cond_f hc1 hm
    refine TC.skipk ?_
    refine TC.k ?_
    refine TC.region ?_
    refine TO.s rfl rfl rfl (StepS.move rfl) ?_
    obtain ⟨x2, hx3, hm⟩ := bind_some hm
    refine TO.s rfl rfl rfl (StepS.idx rfl rfl e0 ksliceB_34_3_1_true (idx_spec hx3).1 (idxm_lt hx3)) ?_
    refine TO.s rfl rfl rfl (StepS.ld0 rfl e0 kscalB_3_true rfl (idxm hx3) rfl) ?_
    refine TO.s rfl rfl rfl (StepS.assign rfl) ?_
    refine TO.code ?_
    refine TC.k ?_
    refine TC.k ?_
    refine TC.region ?_
    refine TO.s rfl rfl rfl (StepS.assign rfl) ?_
    refine TO.code ?_
    obtain ⟨o9, hw10, hm⟩ := bind_some hm
    refine TC.loop hw10 (fun (x4, x5) => fun a w => Mid 25 B [(0, h0), (3, I x4), (4, I x5)] (L) a w) (fun x8 => fun a w => Mid 25 B [(3, I x8)] (L) a w) (fun (_ : Unit) _ _ => False) ?_ ?_ ?_ ?_
    · rintro ⟨x4, x5⟩ o9r hb11 a w ⟨he, hs⟩
      dsimp only [F54_L0] at hb11
      refine TC.use ?_ he hs
      refine TC.k ?_
      refine TC.k ?_
      refine TC.region ?_
      refine TO.s rfl rfl rfl (StepS.move rfl) ?_
      refine TO.s rfl rfl rfl (StepS.move rfl) ?_
      refine TO.s rfl rfl rfl (StepS.lenm rfl e0 ksliceB_34_3_1_true rfl) ?_
      refine TO.s rfl rfl rfl (StepS.cmp rfl rfl rfl) ?_
      refine TO.code ?_
      refine TC.cond rfl (fun hc12 => ?_) (fun hc12 => ?_)
      · replace hb11 := cond_t hc12 hb11
        refine TC.skipk ?_
        refine TC.k ?_
        refine TC.block ?_
        refine TC.region ?_
        refine TO.s rfl rfl rfl (StepS.move rfl) ?_
        refine TO.s rfl rfl rfl (StepS.move rfl) ?_
        refine TO.s rfl rfl rfl (StepS.move rfl) ?_
        obtain ⟨x13, hx14, hb11⟩ := bind_some hb11
        refine TO.s rfl rfl rfl (StepS.idx rfl rfl e0 ksliceB_34_3_1_true (idx_spec hx14).1 (idxm_lt hx14)) ?_
        refine TO.s rfl rfl rfl (StepS.ld0 rfl e0 kscalB_3_true rfl (idxm hx14) rfl) ?_
        refine TO.s rfl rfl rfl (StepS.min2 rfl rfl) ?_
        refine TO.s rfl rfl rfl (StepS.assign rfl) ?_
        refine TO.code ?_
        refine TC.region ?_
        refine TO.s rfl rfl rfl (StepS.move rfl) ?_
        refine TO.s rfl rfl rfl (StepS.ari rfl rfl rfl) ?_
        refine TO.s rfl rfl rfl (StepS.assign rfl) ?_
        cases hb11
        refine TO.nil fun a w e s => ?_
        exact ⟨e.sub (lk_of_allIn ⟨rfl, rfl, rfl, trivial⟩), s⟩
      · replace hb11 := cond_f hc12 hb11
        cases hb11
        refine TC.exit rfl fun a w e s => ?_
        exact ⟨e.sub (lk_of_allIn ⟨rfl, trivial⟩), s⟩
    · exact fun a w e s => ⟨e.sub (lk_of_allIn ⟨rfl, rfl, rfl, trivial⟩), s⟩
    · rintro x8 rfl a w ⟨he, hs⟩
      dsimp only [Ctl.on] at hm
      refine TC.use ?_ he hs
      refine TC.k ?_
      refine TC.region ?_
      refine TO.s rfl rfl rfl (StepS.move rfl) ?_
      refine TO.s rfl rfl rfl (StepS.assign rfl) ?_
      refine TO.code ?_
      cases hm
      refine TC.ret fun a w e s => ?_
      refine FRet.mk1 (P := Try.prog) (fn := Try.f54) (t := 2) e rfl rfl ?_
      exact ⟨rfl, s.mono fun _ => Sat.dropN 0⟩
    · rintro r rfl
      exact fun a w h => h.elim

set_option maxRecDepth 100000 in
theorem C55 {B : World} {L : List HP} {a0 : List Int} {a1 : List Int} {h0 : Value} {h1 : Value} {r0 : Bool} (e0 : Ent L (Rd 1 h0 (a0.map cI))) (e1 : Ent L (Rd 1 h1 (a1.map cI))) (hm : F55 a0 a1 = some r0) {w : World} (st : St B L w) : Calls Try.prog 55 #[h0, h1] w (fun e w' => (e = .returned (.bool r0) ∧ St B (L) w')) := by
  refine calls_of (N := 26) (L := L) (args := [h0, h1]) Try.func55 rfl rfl rfl ?_ st
  dsimp only [F55] at hm
  refine TC.k ?_
  refine TC.region ?_
  refine TO.s rfl rfl rfl (StepS.assign rfl) ?_
  refine TO.code ?_
  refine TC.k ?_
  refine TC.k ?_
  refine TC.region ?_
  refine TO.s rfl rfl rfl (StepS.move rfl) ?_
  refine TO.s rfl rfl rfl (StepS.lenm rfl e0 ksliceB_34_3_1_true rfl) ?_
  refine TO.s rfl rfl rfl (StepS.move rfl) ?_
  refine TO.s rfl rfl rfl (StepS.lenm rfl e1 ksliceB_34_3_1_true rfl) ?_
  refine TO.s rfl rfl rfl (StepS.cmp rfl rfl rfl) ?_
  refine TO.code ?_
  refine TC.cond rfl (fun hc1 => ?_) (fun hc1 => ?_)
  · replace hm := cond_t hc1 hm
    refine TC.k ?_
    refine TC.region ?_
    refine TO.s rfl rfl rfl (StepS.assign rfl) ?_
    refine TO.code ?_
    cases hm
    refine TC.ret fun a w e s => ?_
    refine FRet.mk1 (P := Try.prog) (fn := Try.f55) (t := 4) e rfl rfl ?_
    exact ⟨rfl, s.mono fun _ => Sat.dropN 0⟩
  · replace hm := cond_f hc1 hm
    refine TC.skipk ?_
    refine TC.k ?_
    refine TC.k ?_
    refine TC.region ?_
    refine TO.s rfl rfl rfl (StepS.move rfl) ?_
    refine TO.s rfl rfl rfl (StepS.lenm rfl e0 ksliceB_34_3_1_true rfl) ?_
    refine TO.s rfl rfl rfl (StepS.move rfl) ?_
    refine TO.code ?_
    obtain ⟨o4, hw5, hm⟩ := bind_some hm
    refine TC.loop hw5 (fun x2 => fun a w => Mid 26 B [(0, h0), (1, h1), (12, I (a0.length : Int)), (13, I x2)] (L) a w) (fun _ => fun a w => Mid 26 B [] (L) a w) (fun r0 => FRet Try.prog Try.f55 (fun e w' => (e = .returned (.bool r0) ∧ St B (L) w'))) ?_ ?_ ?_ ?_
    · rintro x2 o4r hb6 a w ⟨he, hs⟩
      dsimp only [F55_L0] at hb6
      refine TC.use ?_ he hs
      refine TC.k ?_
      refine TC.region ?_
      refine TO.s rfl rfl rfl (StepS.cmp rfl rfl rfl) ?_
      refine TO.code ?_
      refine TC.k ?_
      refine TC.cond rfl (fun hc7 => ?_) (fun hc7 => ?_)
      · replace hb6 := cond_t hc7 hb6
        refine TC.skipk ?_
        refine TC.k ?_
        refine TC.block ?_
        refine TC.k ?_
        refine TC.region ?_
        refine TO.s rfl rfl rfl (StepS.move rfl) ?_
        refine TO.s rfl rfl rfl (StepS.assign rfl) ?_
        refine TO.code ?_
        refine TC.k ?_
        refine TC.region_still kfollows_mixedOrders_true (by kernel_rfl) ?_
        refine TS.s rfl rfl rfl (StepS.move rfl) ?_
        refine TS.s rfl rfl rfl (StepS.move rfl) ?_
        obtain ⟨x8, hx9, hb6⟩ := bind_some hb6
        refine TS.s rfl rfl rfl (StepS.idx rfl rfl e0 ksliceB_34_3_1_true (idx_spec hx9).1 (idxm_lt hx9)) ?_
        refine TS.s rfl rfl rfl (StepS.ld0 rfl e0 kscalB_3_true rfl (idxm hx9) rfl) ?_
        refine TS.s rfl rfl rfl (StepS.move rfl) ?_
        refine TS.s rfl rfl rfl (StepS.move rfl) ?_
        obtain ⟨x10, hx11, hb6⟩ := bind_some hb6
        refine TS.s rfl rfl rfl (StepS.idx rfl rfl e1 ksliceB_34_3_1_true (idx_spec hx11).1 (idxm_lt hx11)) ?_
        refine TS.s rfl rfl rfl (StepS.ld0 rfl e1 kscalB_3_true rfl (idxm hx11) rfl) ?_
        refine TS.s rfl rfl rfl (StepS.cmp rfl rfl rfl) ?_
        refine TS.code ?_
        refine TC.cond rfl (fun hc12 => ?_) (fun hc12 => ?_)
        · replace hb6 := cond_t hc12 hb6
          refine TC.k ?_
          refine TC.region ?_
          refine TO.s rfl rfl rfl (StepS.assign rfl) ?_
          refine TO.code ?_
          cases hb6
          refine TC.ret fun a w e s => ?_
          refine FRet.mk1 (P := Try.prog) (fn := Try.f55) (t := 4) e rfl rfl ?_
          exact ⟨rfl, s.mono fun _ => Sat.dropN 0⟩
        · replace hb6 := cond_f hc12 hb6
          refine TC.skipk ?_
          refine TC.region ?_
          refine TO.s rfl rfl rfl (StepS.ari rfl rfl rfl) ?_
          refine TO.s rfl rfl rfl (StepS.move rfl) ?_
          cases hb6
          refine TO.nil fun a w e s => ?_
          exact ⟨e.sub (lk_of_allIn ⟨rfl, rfl, rfl, rfl, trivial⟩), s⟩
      · replace hb6 := cond_f hc7 hb6
        cases hb6
        refine TC.exit rfl fun a w e s => ?_
        exact ⟨e.sub (lk_of_allIn trivial), s⟩
    · exact fun a w e s => ⟨e.sub (lk_of_allIn ⟨rfl, rfl, rfl, rfl, trivial⟩), s⟩
    · rintro _ rfl a w ⟨he, hs⟩
      dsimp only [Ctl.on] at hm
      refine TC.use ?_ he hs
      refine TC.k ?_
      refine TC.region ?_
      refine TO.s rfl rfl rfl (StepS.assign rfl) ?_
      refine TO.code ?_
      cases hm
      refine TC.ret fun a w e s => ?_
      refine FRet.mk1 (P := Try.prog) (fn := Try.f55) (t := 4) e rfl rfl ?_
      exact ⟨rfl, s.mono fun _ => Sat.dropN 0⟩
    · rintro r rfl
      cases hm
      exact fun a w h => h

set_option maxRecDepth 100000 in
theorem C45 {B : World} {L : List HP} {a0 : Int} {a1 : List (Int × Int × Int)} {a2 : List Int} {h1 : Value} {h2 : Value} {r0 : BitVec 32} {r1 : Int} (e1 : Ent L (Rd 3 h1 (a1.map cTiii))) (e2 : Ent L (Rd 1 h2 (a2.map cI))) (hm : F45 a0 a1 a2 = some (r0, r1)) {w : World} (st : St B L w) : Calls Try.prog 45 #[I a0, h1, h2] w (fun e w' => (e = .returned (.tuple #[U r0, I r1]) ∧ St B (L) w')) := by
  refine calls_of (N := 58) (L := L) (args := [I a0, h1, h2]) Try.func45 rfl rfl rfl ?_ st
  dsimp only [F45] at hm
  refine TC.k ?_
  refine TC.region ?_
  refine TO.s rfl rfl rfl (StepS.assign rfl) ?_
  refine TO.s rfl rfl rfl (StepS.assign rfl) ?_
  refine TO.code ?_
  refine TC.k ?_
  refine TC.k ?_
  refine TC.region ?_
  refine TO.s rfl rfl rfl (StepS.move rfl) ?_
  refine TO.s rfl rfl rfl (StepS.lenm rfl e2 ksliceB_34_3_1_true rfl) ?_
  refine TO.s rfl rfl rfl (StepS.move rfl) ?_
  refine TO.s rfl rfl rfl (StepS.cmp rfl rfl rfl) ?_
  refine TO.code ?_
  refine TC.cond rfl (fun hc1 => ?_) (fun hc1 => ?_)
  · replace hm := cond_t hc1 hm
    refine TC.k ?_
    refine TC.region ?_
    refine TO.s rfl rfl rfl (StepS.assign rfl) ?_
    refine TO.s rfl rfl rfl (StepS.assign rfl) ?_
    refine TO.code ?_
    cases hm
    refine TC.ret fun a w e s => ?_
    refine FRet.mk2 (P := Try.prog) (fn := Try.f45) (t := 6) (u := 7) e rfl rfl rfl ?_
    exact ⟨rfl, s.mono fun _ => Sat.dropN 0⟩
  · replace hm := cond_f hc1 hm
    refine TC.skipk ?_
    refine TC.k ?_
    refine TC.region ?_
    refine TO.s rfl rfl rfl (StepS.assign rfl) ?_
    refine TO.code ?_
    refine TC.k ?_
    refine TC.region ?_
    refine TO.s rfl rfl rfl (StepS.move rfl) ?_
    obtain ⟨y2, hk3, hm⟩ := bind_some hm
    refine TO.mkS (f := cI) (za := 0) kelemB_34_3_1_8_true kinfo_3_bind_zero_some_I_0 rfl (by decide) rfl rfl hk3 rfl fun v4 => ?_
    refine TO.s rfl rfl rfl (StepS.assign rfl) ?_
    refine TO.code ?_
    refine TC.k ?_
    refine TC.k ?_
    refine TC.region ?_
    refine TO.s rfl rfl rfl (StepS.move rfl) ?_
    refine TO.s rfl rfl rfl (StepS.lenm rfl e1.tl ksliceB_22_58_3_true rfl) ?_
    refine TO.s rfl rfl rfl (StepS.move rfl) ?_
    refine TO.code ?_
    obtain ⟨o14, hw15, hm⟩ := bind_some hm
    refine TC.loop hw15 (fun (y6, x7, x8) => fun a w => Mid 58 B [(2, h2), (8, U x7), (9, v4), (18, h1), (19, I (a1.length : Int)), (20, I x8)] (OwnS 3 1 v4 (y6.map cI) :: L) a w) (fun (y12, x13) => fun a w => Mid 58 B [(2, h2), (8, U x13), (9, v4)] (OwnS 3 1 v4 (y12.map cI) :: L) a w) (fun (_ : Unit) _ _ => False) ?_ ?_ ?_ ?_
    · rintro ⟨y6, x7, x8⟩ o14r hb16 a w ⟨he, hs⟩
      dsimp only [F45_L0] at hb16
      refine TC.use ?_ he hs
      refine TC.k ?_
      refine TC.region ?_
      refine TO.s rfl rfl rfl (StepS.cmp rfl rfl rfl) ?_
      refine TO.code ?_
      refine TC.k ?_
      refine TC.cond rfl (fun hc17 => ?_) (fun hc17 => ?_)
      · replace hb16 := cond_t hc17 hb16
        refine TC.skipk ?_
        refine TC.k ?_
        obtain ⟨⟨y18, x19⟩, hj20, hb16⟩ := bind_some hb16
        first | refine TC.cutM (fun a w => Mid 58 B [(2, h2), (8, U x19), (9, v4), (18, h1), (19, I (a1.length : Int)), (20, I x8)] (OwnS 3 1 v4 (y18.map cI) :: L) a w) ?_ ?_ | refine TC.cutX (fun a w => Mid 58 B [(2, h2), (8, U x19), (9, v4), (18, h1), (19, I (a1.length : Int)), (20, I x8)] (OwnS 3 1 v4 (y18.map cI) :: L) a w) ?_ ?_
        · refine TC.block ?_
          refine TC.k ?_
          refine TC.region ?_
          refine TO.s rfl rfl rfl (StepS.move rfl) ?_
          obtain ⟨x21, hx22, hj20⟩ := bind_some hj20
          refine TO.s rfl rfl rfl (StepS.idx rfl rfl e1.tl ksliceB_22_58_3_true (idx_spec hx22).1 (idxm_lt hx22)) ?_
          refine TO.s rfl rfl rfl (StepS.ldE rfl e1.tl kaggB_58_3_true rfl (idxm hx22)) ?_
          refine TO.alloc kinfo_58_bind_zero_some_agg_I_0_I_0_I_0 rfl rfl fun b23 => ?_
          refine TO.s rfl rfl rfl (StepS.assign rfl) ?_
          refine TO.stB (us := [I x21.1, I x21.2.1, I x21.2.2]) 0 [I x21.1, I x21.2.1, I x21.2.2] rfl rfl rfl ksizeB_58_3_true rfl rfl rfl (by simp [Value.oneCell']) rfl ?_
          refine TO.code ?_
          refine TC.k ?_
          refine TC.region_still kfollows_mixedOrders_true (by kernel_rfl) ?_
          refine TS.s rfl rfl rfl (StepS.move rfl) ?_
          refine TS.s rfl rfl rfl (StepS.fld rfl kfieldB_58_0_0_true) ?_
          refine TS.s rfl rfl rfl (StepS.ldB rfl (Ent.at 0 rfl) kscalB_3_true rfl) ?_
          obtain ⟨x24, hx25, hj20⟩ := bind_some hj20
          refine TS.s rfl rfl rfl (StepS.idx rfl rfl (OwnS.rd (Ent.at 1 rfl)) ksliceB_34_3_1_true (idx_spec hx25).1 (idxm_lt hx25)) ?_
          refine TS.s rfl rfl rfl (StepS.ld0 rfl (OwnS.rd (Ent.at 1 rfl)) kscalB_3_true rfl (idxm hx25) rfl) ?_
          refine TS.s rfl rfl rfl (StepS.move rfl) ?_
          refine TS.s rfl rfl rfl (StepS.fld rfl kfieldB_58_0_0_true) ?_
          refine TS.s rfl rfl rfl (StepS.ldB rfl (Ent.at 0 rfl) kscalB_3_true rfl) ?_
          obtain ⟨x26, hx27, hj20⟩ := bind_some hj20
          refine TS.s rfl rfl rfl (StepS.idx rfl rfl e2.tl.tl ksliceB_34_3_1_true (idx_spec hx27).1 (idxm_lt hx27)) ?_
          refine TS.s rfl rfl rfl (StepS.ld0 rfl e2.tl.tl kscalB_3_true rfl (idxm hx27) rfl) ?_
          refine TS.s rfl rfl rfl (StepS.cmp rfl rfl rfl) ?_
          refine TS.code ?_
          refine TC.cond rfl (fun hc28 => ?_) (fun hc28 => ?_)
          · replace hj20 := cond_t hc28 hj20
            refine TC.k ?_
            refine TC.region ?_
            refine TO.s rfl rfl rfl (StepS.move rfl) ?_
            refine TO.s rfl rfl rfl (StepS.move rfl) ?_
            obtain ⟨k29, hk30, hj20⟩ := bind_some hj20
            refine TO.s rfl rfl rfl (StepS.shlk (m := 1#32) rfl rfl hk30) ?_
            refine TO.s rfl rfl rfl (StepS.bitU rfl rfl rfl) ?_
            refine TO.s rfl rfl rfl (StepS.assign rfl) ?_
            refine TO.code ?_
            refine TC.region ?_
            refine TO.s rfl rfl rfl (StepS.move rfl) ?_
            refine TO.s rfl rfl rfl (StepS.fld rfl kfieldB_58_0_0_true) ?_
            refine TO.s rfl rfl rfl (StepS.ldB rfl (Ent.at 0 rfl) kscalB_3_true rfl) ?_
            obtain ⟨x31, hx32, hj20⟩ := bind_some hj20
            refine TO.s rfl rfl rfl (StepS.idx rfl rfl (OwnS.rd (Ent.at 1 rfl)) ksliceB_34_3_1_true (idx_spec hx32).1 (idxm_lt hx32)) ?_
            refine TO.s rfl rfl rfl (StepS.ld0 rfl (OwnS.rd (Ent.at 1 rfl)) kscalB_3_true rfl (idxm hx32) rfl) ?_
            refine TO.s rfl rfl rfl (StepS.ari rfl rfl rfl) ?_
            obtain ⟨x33, hx34, hj20⟩ := bind_some hj20
            refine TO.s rfl rfl rfl (StepS.idx rfl rfl (OwnS.rd (Ent.at 1 rfl)) ksliceB_34_3_1_true (idx_spec hx34).1 (idxm_lt hx34)) ?_
            refine TO.stO (i := x21.1.toNat) (off := 0) (us := [I (w64 (x31 + 1))]) 1 (w64 (x31 + 1)) rfl rfl rfl ksizeB_3_1_true rfl rfl rfl (idx_spec hx34).2 rfl (by simp [Value.oneCell']) rfl ?_
            cases hj20
            refine TO.nil fun a w e s => ?_
            exact ⟨e.sub (lk_of_allIn ⟨rfl, rfl, rfl, rfl, rfl, rfl, trivial⟩), s.mono fun _ => Sat.dropN 1⟩
          · replace hj20 := cond_f hc28 hj20
            cases hj20
            refine TC.skip fun a w e s => ?_
            exact ⟨e.sub (lk_of_allIn ⟨rfl, rfl, rfl, rfl, rfl, rfl, trivial⟩), s.mono fun _ => Sat.dropN 1⟩
        · intro a w ⟨he, hs⟩
          refine TC.use ?_ he hs
          refine TC.region ?_
          refine TO.s rfl rfl rfl (StepS.ari rfl rfl rfl) ?_
          refine TO.s rfl rfl rfl (StepS.move rfl) ?_
          cases hb16
          refine TO.nil fun a w e s => ?_
          exact ⟨e.sub (lk_of_allIn ⟨rfl, rfl, rfl, rfl, rfl, rfl, trivial⟩), s⟩
      · replace hb16 := cond_f hc17 hb16
        cases hb16
        refine TC.exit rfl fun a w e s => ?_
        exact ⟨e.sub (lk_of_allIn ⟨rfl, rfl, rfl, trivial⟩), s⟩
    · exact fun a w e s => ⟨e.sub (lk_of_allIn ⟨rfl, rfl, rfl, rfl, rfl, rfl, trivial⟩), s⟩
    · rintro ⟨y12, x13⟩ rfl a w ⟨he, hs⟩
      dsimp only [Ctl.on] at hm
      refine TC.use ?_ he hs
      refine TC.k ?_
      refine TC.k ?_
      refine TC.region ?_
      refine TO.s rfl rfl rfl (StepS.move rfl) ?_
      obtain ⟨r35, hc36, hm⟩ := bind_some hm
      refine TO.q rfl rfl rfl (StepQ.call kcallB_54_true rfl rfl (fun _ st => C54 e2.tl hc36 st)) ?_
      refine TO.s rfl rfl rfl (StepS.cmp rfl rfl rfl) ?_
      refine TO.s rfl rfl rfl (StepS.move rfl) ?_
      obtain ⟨b38, hj39, hm⟩ := bind_some hm
      refine TO.mid1 5 56 (.bool b38) ?_ ?_
      · refine bcase ((decide (r35 < 0))) (fun hb37 => ?_) (fun hb37 => ?_)
        · replace hj39 := cond_t hb37 hj39
          cases hj39
          refine TO.skip rfl rfl rfl (skipT hb37) rfl rfl ?_
          refine TO.skip rfl rfl rfl (skipT hb37) rfl rfl ?_
          refine TO.skip rfl rfl rfl (skipT hb37) rfl rfl ?_
          refine TO.skip rfl rfl rfl (skipT hb37) rfl rfl ?_
          refine TO.s rfl rfl rfl (StepS.pickT rfl hb37 rfl) ?_
          exact TO.up1 5 0 rfl rfl rfl rfl
        · replace hj39 := cond_f hb37 hj39
          refine TO.sw rfl rfl rfl hb37 rfl rfl (StepS.move rfl) ?_
          refine TO.sw rfl rfl rfl hb37 rfl rfl (StepS.move rfl) ?_
          obtain ⟨r40, hc41, hj39⟩ := bind_some hj39
          refine TO.qw rfl rfl rfl hb37 rfl rfl (StepQ.call kcallB_55_true rfl rfl (fun _ st => C55 (OwnS.rd (Ent.at 0 rfl)) e2.tl hc41 st)) ?_
          refine TO.sw rfl rfl rfl hb37 rfl rfl (StepS.not rfl) ?_
          cases hj39
          refine TO.s rfl rfl rfl (StepS.pickF rfl hb37 rfl) ?_
          exact TO.up1 5 0 rfl rfl rfl rfl
      refine TO.code ?_
      refine TC.cond rfl (fun hc42 => ?_) (fun hc42 => ?_)
      · replace hm := cond_t hc42 hm
        refine TC.k ?_
        refine TC.region ?_
        refine TO.s rfl rfl rfl (StepS.assign rfl) ?_
        refine TO.s rfl rfl rfl (StepS.assign rfl) ?_
        refine TO.code ?_
        cases hm
        refine TC.ret fun a w e s => ?_
        refine FRet.mk2 (P := Try.prog) (fn := Try.f45) (t := 6) (u := 7) e rfl rfl rfl ?_
        exact ⟨rfl, s.mono fun _ => Sat.dropN 1⟩
      · replace hm := cond_f hc42 hm
        refine TC.skipk ?_
        refine TC.k ?_
        refine TC.region ?_
        refine TO.s rfl rfl rfl (StepS.move rfl) ?_
        refine TO.s rfl rfl rfl (StepS.assign rfl) ?_
        refine TO.s rfl rfl rfl (StepS.assign rfl) ?_
        refine TO.code ?_
        cases hm
        refine TC.ret fun a w e s => ?_
        refine FRet.mk2 (P := Try.prog) (fn := Try.f45) (t := 6) (u := 7) e rfl rfl rfl ?_
        exact ⟨rfl, s.mono fun _ => Sat.dropN 1⟩
    · rintro r rfl
      exact fun a w h => h.elim

set_option maxRecDepth 100000 in
theorem C46 {B : World} {L : List HP} {a0 : List (BitVec 32)} {a1 : BitVec 32} {h0 : Value} {r0 : Bool} (e0 : Ent L (Rd 1 h0 (a0.map cU))) (hm : F46 a0 a1 = some r0) {w : World} (st : St B L w) : Calls Try.prog 46 #[h0, U a1] w (fun e w' => (e = .returned (.bool r0) ∧ St B (L) w')) := by
  refine calls_of (N := 26) (L := L) (args := [h0, U a1]) Try.func46 rfl rfl rfl ?_ st
  dsimp only [F46] at hm
  refine TC.k ?_
  refine TC.region ?_
  refine TO.s rfl rfl rfl (StepS.assign rfl) ?_
  refine TO.code ?_
  refine TC.k ?_
  refine TC.k ?_
  refine TC.region ?_
  refine TO.s rfl rfl rfl (StepS.move rfl) ?_
  refine TO.s rfl rfl rfl (StepS.lenm rfl e0 ksliceB_61_60_1_true rfl) ?_
  refine TO.s rfl rfl rfl (StepS.move rfl) ?_
  refine TO.code ?_
  obtain ⟨o3, hw4, hm⟩ := bind_some hm
  refine TC.loop hw4 (fun x1 => fun a w => Mid 26 B [(1, U a1), (7, h0), (8, I (a0.length : Int)), (9, I x1)] (L) a w) (fun _ => fun a w => Mid 26 B [] (L) a w) (fun r0 => FRet Try.prog Try.f46 (fun e w' => (e = .returned (.bool r0) ∧ St B (L) w'))) ?_ ?_ ?_ ?_
  · rintro x1 o3r hb5 a w ⟨he, hs⟩
    dsimp only [F46_L0] at hb5
    refine TC.use ?_ he hs
    refine TC.k ?_
    refine TC.region ?_
    refine TO.s rfl rfl rfl (StepS.cmp rfl rfl rfl) ?_
    refine TO.code ?_
    refine TC.k ?_
    refine TC.cond rfl (fun hc6 => ?_) (fun hc6 => ?_)
    · replace hb5 := cond_t hc6 hb5
      refine TC.skipk ?_
      refine TC.k ?_
      refine TC.block ?_
      refine TC.k ?_
      refine TC.region ?_
      refine TO.s rfl rfl rfl (StepS.move rfl) ?_
      obtain ⟨x7, hx8, hb5⟩ := bind_some hb5
      refine TO.s rfl rfl rfl (StepS.idx rfl rfl e0 ksliceB_61_60_1_true (idx_spec hx8).1 (idxm_lt hx8)) ?_
      refine TO.s rfl rfl rfl (StepS.ld0 rfl e0 kscalB_60_true rfl (idxm hx8) rfl) ?_
      refine TO.s rfl rfl rfl (StepS.assign rfl) ?_
      refine TO.s rfl rfl rfl (StepS.assign rfl) ?_
      refine TO.code ?_
      refine TC.k ?_
      refine TC.region ?_
      refine TO.s rfl rfl rfl (StepS.move rfl) ?_
      refine TO.s rfl rfl rfl (StepS.move rfl) ?_
      obtain ⟨k9, hk10, hb5⟩ := bind_some hb5
      refine TO.s rfl rfl rfl (StepS.shrk rfl rfl hk10) ?_
      refine TO.s rfl rfl rfl (StepS.bitU (n := 1#32) rfl rfl rfl) ?_
      refine TO.s rfl rfl rfl (StepS.cmpU (n := 1#32) rfl rfl rfl) ?_
      refine TO.s rfl rfl rfl (StepS.move rfl) ?_
      refine TO.mid1 5 24 (.bool ((((a1 >>> k9) &&& (1#32)) == (1#32)) && ((x7 &&& ~~~a1) != (0#32)))) ?_ ?_
      · refine bcase ((((a1 >>> k9) &&& (1#32)) == (1#32))) (fun hb11 => ?_) (fun hb11 => ?_)
        · refine TO.sw rfl rfl rfl hb11 rfl rfl (StepS.move rfl) ?_
          refine TO.sw rfl rfl rfl hb11 rfl rfl (StepS.move rfl) ?_
          refine TO.sw rfl rfl rfl hb11 rfl rfl (StepS.bitU rfl rfl rfl) ?_
          refine TO.sw rfl rfl rfl hb11 rfl rfl (StepS.cmpU (n := 0#32) rfl rfl rfl) ?_
          refine TO.s rfl rfl rfl (StepS.pickT rfl hb11 rfl) ?_
          exact TO.up1 5 0 rfl rfl (by rw [hb11]; rfl) rfl
        · refine TO.skip rfl rfl rfl (skipF hb11) rfl rfl ?_
          refine TO.skip rfl rfl rfl (skipF hb11) rfl rfl ?_
          refine TO.skip rfl rfl rfl (skipF hb11) rfl rfl ?_
          refine TO.skip rfl rfl rfl (skipF hb11) rfl rfl ?_
          refine TO.s rfl rfl rfl (StepS.pickF rfl hb11 rfl) ?_
          exact TO.up1 5 0 rfl rfl (by rw [hb11]; rfl) rfl
      refine TO.code ?_
      refine TC.cond rfl (fun hc12 => ?_) (fun hc12 => ?_)
      · replace hb5 := cond_t hc12 hb5
        refine TC.k ?_
        refine TC.region ?_
        refine TO.s rfl rfl rfl (StepS.assign rfl) ?_
        refine TO.code ?_
        cases hb5
        refine TC.ret fun a w e s => ?_
        refine FRet.mk1 (P := Try.prog) (fn := Try.f46) (t := 4) e rfl rfl ?_
        exact ⟨rfl, s.mono fun _ => Sat.dropN 0⟩
      · replace hb5 := cond_f hc12 hb5
        refine TC.skipk ?_
        refine TC.region ?_
        refine TO.s rfl rfl rfl (StepS.ari rfl rfl rfl) ?_
        refine TO.s rfl rfl rfl (StepS.move rfl) ?_
        cases hb5
        refine TO.nil fun a w e s => ?_
        exact ⟨e.sub (lk_of_allIn ⟨rfl, rfl, rfl, rfl, trivial⟩), s⟩
    · replace hb5 := cond_f hc6 hb5
      cases hb5
      refine TC.exit rfl fun a w e s => ?_
      exact ⟨e.sub (lk_of_allIn trivial), s⟩
  · exact fun a w e s => ⟨e.sub (lk_of_allIn ⟨rfl, rfl, rfl, rfl, trivial⟩), s⟩
  · rintro _ rfl a w ⟨he, hs⟩
    dsimp only [Ctl.on] at hm
    refine TC.use ?_ he hs
    refine TC.k ?_
    refine TC.region ?_
    refine TO.s rfl rfl rfl (StepS.assign rfl) ?_
    refine TO.code ?_
    cases hm
    refine TC.ret fun a w e s => ?_
    refine FRet.mk1 (P := Try.prog) (fn := Try.f46) (t := 4) e rfl rfl ?_
    exact ⟨rfl, s.mono fun _ => Sat.dropN 0⟩
  · rintro r rfl
    cases hm
    exact fun a w h => h

set_option maxRecDepth 100000 in
theorem C33 {B : World} {L : List HP} {a0 : Int} {a1 : List (Int × Int × Int)} {a2 : List Int} {h1 : Value} {h2 : Value} {r0 : Bool} {r1 : Int} (e1 : Ent L (Rd 3 h1 (a1.map cTiii))) (e2 : Ent L (Rd 1 h2 (a2.map cI))) (hm : F33 a0 a1 a2 = some (r0, r1)) {w : World} (st : St B L w) : Calls Try.prog 33 #[I a0, h1, h2] w (fun e w' => (e = .returned (.tuple #[.bool r0, I r1]) ∧ St B (L) w')) := by
  refine calls_of (N := 32) (L := L) (args := [I a0, h1, h2]) Try.func33 rfl rfl rfl ?_ st
  dsimp only [F33] at hm
  refine TC.k ?_
  refine TC.region ?_
  refine TO.s rfl rfl rfl (StepS.assign rfl) ?_
  refine TO.s rfl rfl rfl (StepS.assign rfl) ?_
  refine TO.code ?_
  refine TC.k ?_
  refine TC.k ?_
  refine TC.region ?_
  refine TO.s rfl rfl rfl (StepS.move rfl) ?_
  refine TO.s rfl rfl rfl (StepS.move rfl) ?_
  obtain ⟨r1, hc2, hm⟩ := bind_some hm
  refine TO.q rfl rfl rfl (StepQ.call kcallB_15_true rfl rfl (fun _ st => C15 e1 hc2 st)) ?_
  refine TO.s rfl rfl rfl (StepS.assign rfl) ?_
  refine TO.code ?_
  refine TC.k ?_
  refine TC.region ?_
  refine TO.s rfl rfl rfl (StepS.move rfl) ?_
  refine TO.s rfl rfl rfl (StepS.cmp rfl rfl rfl) ?_
  refine TO.code ?_
  refine TC.cond rfl (fun hc3 => ?_) (fun hc3 => ?_)
  · replace hm := cond_t hc3 hm
    refine TC.k ?_
    refine TC.region ?_
    refine TO.s rfl rfl rfl (StepS.move rfl) ?_
    refine TO.s rfl rfl rfl (StepS.assign rfl) ?_
    refine TO.s rfl rfl rfl (StepS.assign rfl) ?_
    refine TO.code ?_
    cases hm
    refine TC.ret fun a w e s => ?_
    refine FRet.mk2 (P := Try.prog) (fn := Try.f33) (t := 6) (u := 7) e rfl rfl rfl ?_
    exact ⟨rfl, s.mono fun _ => Sat.dropN 0⟩
  · replace hm := cond_f hc3 hm
    refine TC.skipk ?_
    refine TC.k ?_
    refine TC.region ?_
    refine TO.s rfl rfl rfl (StepS.move rfl) ?_
    refine TO.s rfl rfl rfl (StepS.move rfl) ?_
    refine TO.s rfl rfl rfl (StepS.move rfl) ?_
    obtain ⟨⟨r4, r5⟩, hc6, hm⟩ := bind_some hm
    refine TO.q rfl rfl rfl (StepQ.call kcallB_45_true rfl rfl (fun _ st => C45 e1 e2 hc6 st)) ?_
    refine TO.s rfl rfl rfl (StepS.move rfl) ?_
    refine TO.s rfl rfl rfl (StepS.extract rfl rfl) ?_
    refine TO.s rfl rfl rfl (StepS.extract rfl rfl) ?_
    refine TO.s rfl rfl rfl (StepS.assign rfl) ?_
    refine TO.s rfl rfl rfl (StepS.assign rfl) ?_
    refine TO.code ?_
    refine TC.k ?_
    refine TC.k ?_
    refine TC.region ?_
    refine TO.s rfl rfl rfl (StepS.move rfl) ?_
    refine TO.s rfl rfl rfl (StepS.cmp rfl rfl rfl) ?_
    refine TO.code ?_
    refine TC.cond rfl (fun hc7 => ?_) (fun hc7 => ?_)
    · replace hm := cond_t hc7 hm
      refine TC.k ?_
      refine TC.region ?_
      refine TO.s rfl rfl rfl (StepS.move rfl) ?_
      refine TO.s rfl rfl rfl (StepS.assign rfl) ?_
      refine TO.s rfl rfl rfl (StepS.assign rfl) ?_
      refine TO.code ?_
      cases hm
      refine TC.ret fun a w e s => ?_
      refine FRet.mk2 (P := Try.prog) (fn := Try.f33) (t := 6) (u := 7) e rfl rfl rfl ?_
      exact ⟨rfl, s.mono fun _ => Sat.dropN 0⟩
    · replace hm := cond_f hc7 hm
      refine TC.skipk ?_
      refine TC.k ?_
      refine TC.region ?_
      refine TO.s rfl rfl rfl (StepS.move rfl) ?_
      refine TO.s rfl rfl rfl (StepS.move rfl) ?_
      obtain ⟨r8, hc9, hm⟩ := bind_some hm
      refine TO.callO kcallB_40_true rfl rfl rfl (fun _ st => C40 e1 hc9 st) ?_
      rintro v10 _ ⟨_, rfl, rfl⟩
      refine TO.s rfl rfl rfl (StepS.move rfl) ?_
      obtain ⟨r12, hc13, hm⟩ := bind_some hm
      refine TO.q rfl rfl rfl (StepQ.call kcallB_46_true rfl rfl (fun _ st => C46 (OwnS.rd (Ent.at 0 rfl)) hc13 st)) ?_
      refine TO.s rfl rfl rfl (StepS.assign rfl) ?_
      refine TO.s rfl rfl rfl (StepS.assign rfl) ?_
      refine TO.code ?_
      cases hm
      refine TC.ret fun a w e s => ?_
      refine FRet.mk2 (P := Try.prog) (fn := Try.f33) (t := 6) (u := 7) e rfl rfl rfl ?_
      exact ⟨rfl, s.mono fun _ => Sat.dropN 1⟩

set_option maxRecDepth 100000 in
theorem C35 {B : World} {L : List HP} {a0 : Int} {a1 : List (Int × Int × Int)} {a2 : List Int} {h1 : Value} {h2 : Value} {r0 : List Bool} {r1 : Bool} (e1 : Ent L (Rd 3 h1 (a1.map cTiii))) (e2 : Ent L (Rd 1 h2 (a2.map cI))) (hm : F35 a0 a1 a2 = some (r0, r1)) {w : World} (st : St B L w) : Calls Try.prog 35 #[I a0, h1, h2] w (fun e w' => ∃ v M, e = .returned v ∧ (∃ (qv1 : Value), v = .tuple #[qv1, .bool r1] ∧ M = (OwnS 4 1 qv1 (r0.map cB) :: L)) ∧ St B M w') := by
  refine calls_of (N := 58) (L := L) (args := [I a0, h1, h2]) Try.func35 rfl rfl rfl ?_ st
  dsimp only [F35] at hm
  refine TC.k ?_
  refine TC.region ?_
  refine TO.s rfl rfl rfl (StepS.assign rfl) ?_
  refine TO.s rfl rfl rfl (StepS.assign rfl) ?_
  refine TO.code ?_
  refine TC.k ?_
  refine TC.region ?_
  refine TO.s rfl rfl rfl (StepS.move rfl) ?_
  refine TO.s rfl rfl rfl (StepS.lenm rfl e1 ksliceB_22_58_3_true rfl) ?_
  obtain ⟨y2, hk3, hm⟩ := bind_some hm
  refine TO.mkS (f := cB) (za := false) kelemB_28_4_1_1_true kinfo_4_bind_zero_some_bool_false rfl (by decide) rfl rfl hk3 rfl fun v4 => ?_
  refine TO.s rfl rfl rfl (StepS.assign rfl) ?_
  refine TO.code ?_
  refine TC.k ?_
  refine TC.k ?_
  refine TC.region ?_
  refine TO.s rfl rfl rfl (StepS.assign rfl) ?_
  refine TO.code ?_
  obtain ⟨o11, hw12, hm⟩ := bind_some hm
  refine TC.loop hw12 (fun (y6, x7) => fun a w => Mid 58 B [(0, I a0), (1, h1), (2, h2), (8, v4), (9, I x7)] (OwnS 4 1 v4 (y6.map cB) :: L) a w) (fun y10 => fun a w => Mid 58 B [(8, v4)] (OwnS 4 1 v4 (y10.map cB) :: L) a w) (fun (r0, r1) => FRet Try.prog Try.f35 (fun e w' => ∃ v M, e = .returned v ∧ (∃ (qv1 : Value), v = .tuple #[qv1, .bool r1] ∧ M = (OwnS 4 1 qv1 (r0.map cB) :: L)) ∧ St B M w')) ?_ ?_ ?_ ?_
  · rintro ⟨y6, x7⟩ o11r hb13 a w ⟨he, hs⟩
    dsimp only [F35_L0] at hb13
    refine TC.use ?_ he hs
    refine TC.k ?_
    refine TC.k ?_
    refine TC.region ?_
    refine TO.s rfl rfl rfl (StepS.move rfl) ?_
    refine TO.s rfl rfl rfl (StepS.move rfl) ?_
    refine TO.s rfl rfl rfl (StepS.cmp rfl rfl rfl) ?_
    refine TO.code ?_
    refine TC.cond rfl (fun hc14 => ?_) (fun hc14 => ?_)
    · replace hb13 := cond_t hc14 hb13
      refine TC.skipk ?_
      refine TC.k ?_
      refine TC.block ?_
      refine TC.k ?_
      refine TC.region ?_
      refine TO.s rfl rfl rfl (StepS.assign rfl) ?_
      refine TO.code ?_
      refine TC.k ?_
      refine TC.k ?_
      refine TC.region ?_
      refine TO.s rfl rfl rfl (StepS.move rfl) ?_
      refine TO.s rfl rfl rfl (StepS.lenm rfl e1.tl ksliceB_22_58_3_true rfl) ?_
      refine TO.s rfl rfl rfl (StepS.move rfl) ?_
      refine TO.code ?_
      obtain ⟨o23, hw24, hb13⟩ := bind_some hb13
      refine TC.loop hw24 (fun (y15, x16, x17) => fun a w => Mid 58 B [(0, I a0), (1, h1), (2, h2), (8, v4), (9, I x7), (10, I x16), (21, h1), (22, I (a1.length : Int)), (23, I x17)] (OwnS 4 1 v4 (y15.map cB) :: L) a w) (fun (y21, x22) => fun a w => Mid 58 B [(0, I a0), (1, h1), (2, h2), (8, v4), (9, I x7), (10, I x22)] (OwnS 4 1 v4 (y21.map cB) :: L) a w) (fun (_ : Unit) _ _ => False) ?_ ?_ ?_ ?_
      · rintro ⟨y15, x16, x17⟩ o23r hb25 a w ⟨he, hs⟩
        dsimp only [F35_L1] at hb25
        refine TC.use ?_ he hs
        refine TC.k ?_
        refine TC.region ?_
        refine TO.s rfl rfl rfl (StepS.cmp rfl rfl rfl) ?_
        refine TO.code ?_
        refine TC.k ?_
        refine TC.cond rfl (fun hc26 => ?_) (fun hc26 => ?_)
        · replace hb25 := cond_t hc26 hb25
          refine TC.skipk ?_
          refine TC.k ?_
          obtain ⟨⟨y27, x28⟩, hj29, hb25⟩ := bind_some hb25
          first | refine TC.cutM (fun a w => Mid 58 B [(0, I a0), (1, h1), (2, h2), (8, v4), (9, I x7), (10, I x28), (21, h1), (22, I (a1.length : Int)), (23, I x17)] (OwnS 4 1 v4 (y27.map cB) :: L) a w) ?_ ?_ | refine TC.cutX (fun a w => Mid 58 B [(0, I a0), (1, h1), (2, h2), (8, v4), (9, I x7), (10, I x28), (21, h1), (22, I (a1.length : Int)), (23, I x17)] (OwnS 4 1 v4 (y27.map cB) :: L) a w) ?_ ?_
          · refine TC.block ?_
            refine TC.k ?_
            refine TC.region ?_
            refine TO.s rfl rfl rfl (StepS.move rfl) ?_
            obtain ⟨x30, hx31, hj29⟩ := bind_some hj29
            refine TO.s rfl rfl rfl (StepS.idx rfl rfl e1.tl ksliceB_22_58_3_true (idx_spec hx31).1 (idxm_lt hx31)) ?_
            refine TO.s rfl rfl rfl (StepS.ldE rfl e1.tl kaggB_58_3_true rfl (idxm hx31)) ?_
            refine TO.alloc kinfo_58_bind_zero_some_agg_I_0_I_0_I_0 rfl rfl fun b32 => ?_
            refine TO.s rfl rfl rfl (StepS.assign rfl) ?_
            refine TO.stB (us := [I x30.1, I x30.2.1, I x30.2.2]) 0 [I x30.1, I x30.2.1, I x30.2.2] rfl rfl rfl ksizeB_58_3_true rfl rfl rfl (by simp [Value.oneCell']) rfl ?_
            refine TO.code ?_
            refine TC.k ?_
            refine TC.region ?_
            refine TO.s rfl rfl rfl (StepS.fld rfl kfieldB_58_0_0_true) ?_
            refine TO.s rfl rfl rfl (StepS.ldB rfl (Ent.at 0 rfl) kscalB_3_true rfl) ?_
            refine TO.s rfl rfl rfl (StepS.move rfl) ?_
            refine TO.s rfl rfl rfl (StepS.cmp rfl rfl rfl) ?_
            refine TO.code ?_
            refine TC.cond rfl (fun hc33 => ?_) (fun hc33 => ?_)
            · replace hj29 := cond_t hc33 hj29
              refine TC.k ?_
              refine TC.region ?_
              refine TO.s rfl rfl rfl (StepS.move rfl) ?_
              refine TO.s rfl rfl rfl (StepS.move rfl) ?_
              refine TO.s rfl rfl rfl (StepS.move rfl) ?_
              refine TO.s rfl rfl rfl (StepS.move rfl) ?_
              refine TO.s rfl rfl rfl (StepS.move rfl) ?_
              obtain ⟨x34, hx35, hj29⟩ := bind_some hj29
              refine TO.s rfl rfl rfl (StepS.idx rfl rfl e2.tl.tl ksliceB_34_3_1_true (idx_spec hx35).1 (idxm_lt hx35)) ?_
              refine TO.s rfl rfl rfl (StepS.ld0 rfl e2.tl.tl kscalB_3_true rfl (idxm hx35) rfl) ?_
              refine TO.s rfl rfl rfl (StepS.cmp rfl rfl rfl) ?_
              obtain ⟨x36, hx37, hj29⟩ := bind_some hj29
              refine TO.s rfl rfl rfl (StepS.idx rfl rfl (OwnS.rd (Ent.at 1 rfl)) ksliceB_28_4_1_true (idx_spec hx37).1 (idxm_lt hx37)) ?_
              refine TO.stO (i := x17.toNat) (off := 0) (us := [.bool (decide (x16 < x34))]) 1 (decide (x16 < x34)) rfl rfl rfl ksizeB_4_1_true rfl rfl rfl (idx_spec hx37).2 rfl (by simp [Value.oneCell']) rfl ?_
              refine TO.code ?_
              refine TC.region ?_
              refine TO.s rfl rfl rfl (StepS.move rfl) ?_
              refine TO.s rfl rfl rfl (StepS.ari rfl rfl rfl) ?_
              refine TO.s rfl rfl rfl (StepS.assign rfl) ?_
              cases hj29
              refine TO.nil fun a w e s => ?_
              exact ⟨e.sub (lk_of_allIn ⟨rfl, rfl, rfl, rfl, rfl, rfl, rfl, rfl, rfl, trivial⟩), s.mono fun _ => Sat.dropN 1⟩
            · replace hj29 := cond_f hc33 hj29
              cases hj29
              refine TC.skip fun a w e s => ?_
              exact ⟨e.sub (lk_of_allIn ⟨rfl, rfl, rfl, rfl, rfl, rfl, rfl, rfl, rfl, trivial⟩), s.mono fun _ => Sat.dropN 1⟩
          · intro a w ⟨he, hs⟩
            refine TC.use ?_ he hs
            refine TC.region ?_
            refine TO.s rfl rfl rfl (StepS.ari rfl rfl rfl) ?_
            refine TO.s rfl rfl rfl (StepS.move rfl) ?_
            cases hb25
            refine TO.nil fun a w e s => ?_
            exact ⟨e.sub (lk_of_allIn ⟨rfl, rfl, rfl, rfl, rfl, rfl, rfl, rfl, rfl, trivial⟩), s⟩
        · replace hb25 := cond_f hc26 hb25
          cases hb25
          refine TC.exit rfl fun a w e s => ?_
          exact ⟨e.sub (lk_of_allIn ⟨rfl, rfl, rfl, rfl, rfl, rfl, trivial⟩), s⟩
      · exact fun a w e s => ⟨e.sub (lk_of_allIn ⟨rfl, rfl, rfl, rfl, rfl, rfl, rfl, rfl, rfl, trivial⟩), s⟩
      · rintro ⟨y21, x22⟩ rfl a w ⟨he, hs⟩
        dsimp only [Ctl.on] at hb13
        refine TC.use ?_ he hs
        refine TC.k ?_
        refine TC.region ?_
        refine TO.s rfl rfl rfl (StepS.move rfl) ?_
        refine TO.s rfl rfl rfl (StepS.move rfl) ?_
        obtain ⟨x38, hx39, hb13⟩ := bind_some hb13
        refine TO.s rfl rfl rfl (StepS.idx rfl rfl e2.tl ksliceB_34_3_1_true (idx_spec hx39).1 (idxm_lt hx39)) ?_
        refine TO.s rfl rfl rfl (StepS.ld0 rfl e2.tl kscalB_3_true rfl (idxm hx39) rfl) ?_
        refine TO.s rfl rfl rfl (StepS.cmp rfl rfl rfl) ?_
        refine TO.s rfl rfl rfl (StepS.move rfl) ?_
        obtain ⟨b41, hj42, hb13⟩ := bind_some hb13
        refine TO.mid1 7 56 (.bool b41) ?_ ?_
        · refine bcase ((decide (x38 < 0))) (fun hb40 => ?_) (fun hb40 => ?_)
          · replace hj42 := cond_t hb40 hj42
            cases hj42
            refine TO.skip rfl rfl rfl (skipT hb40) rfl rfl ?_
            refine TO.skip rfl rfl rfl (skipT hb40) rfl rfl ?_
            refine TO.skip rfl rfl rfl (skipT hb40) rfl rfl ?_
            refine TO.skip rfl rfl rfl (skipT hb40) rfl rfl ?_
            refine TO.skip rfl rfl rfl (skipT hb40) rfl rfl ?_
            refine TO.skip rfl rfl rfl (skipT hb40) rfl rfl ?_
            refine TO.s rfl rfl rfl (StepS.pickT rfl hb40 rfl) ?_
            exact TO.up1 7 0 rfl rfl rfl rfl
          · replace hj42 := cond_f hb40 hj42
            refine TO.sw rfl rfl rfl hb40 rfl rfl (StepS.move rfl) ?_
            refine TO.sw rfl rfl rfl hb40 rfl rfl (StepS.move rfl) ?_
            obtain ⟨x43, hx44, hj42⟩ := bind_some hj42
            refine TO.sw rfl rfl rfl hb40 rfl rfl (StepS.idx rfl rfl e2.tl ksliceB_34_3_1_true (idx_spec hx44).1 (idxm_lt hx44)) ?_
            refine TO.sw rfl rfl rfl hb40 rfl rfl (StepS.ld0 rfl e2.tl kscalB_3_true rfl (idxm hx44) rfl) ?_
            refine TO.sw rfl rfl rfl hb40 rfl rfl (StepS.move rfl) ?_
            refine TO.sw rfl rfl rfl hb40 rfl rfl (StepS.cmp rfl rfl rfl) ?_
            cases hj42
            refine TO.s rfl rfl rfl (StepS.pickF rfl hb40 rfl) ?_
            exact TO.up1 7 0 rfl rfl rfl rfl
        refine TO.code ?_
        refine TC.cond rfl (fun hc45 => ?_) (fun hc45 => ?_)
        · replace hb13 := cond_t hc45 hb13
          refine TC.k ?_
          refine TC.region ?_
          refine TO.s rfl rfl rfl (StepS.assign rfl) ?_
          refine TO.s rfl rfl rfl (StepS.assign rfl) ?_
          refine TO.code ?_
          cases hb13
          refine TC.ret fun a w e s => ?_
          refine FRet.mk2 (P := Try.prog) (fn := Try.f35) (t := 6) (u := 7) e rfl rfl rfl ?_
          refine ⟨_, _, rfl, ⟨(.slice none 0 0), rfl, rfl⟩, ?_⟩
          refine s.mono fun _ s => ?_
          replace s := Sat.nilS (e := 4) (sz := 1) (f := cB) s
          replace s := Sat.erase 1 s
          exact s
        · replace hb13 := cond_f hc45 hb13
          refine TC.skipk ?_
          refine TC.region ?_
          refine TO.s rfl rfl rfl (StepS.move rfl) ?_
          refine TO.s rfl rfl rfl (StepS.ari rfl rfl rfl) ?_
          refine TO.s rfl rfl rfl (StepS.assign rfl) ?_
          cases hb13
          refine TO.nil fun a w e s => ?_
          exact ⟨e.sub (lk_of_allIn ⟨rfl, rfl, rfl, rfl, rfl, trivial⟩), s⟩
      · rintro r rfl
        exact fun a w h => h.elim
    · replace hb13 := cond_f hc14 hb13
      cases hb13
      refine TC.exit rfl fun a w e s => ?_
      exact ⟨e.sub (lk_of_allIn ⟨rfl, trivial⟩), s⟩
  · exact fun a w e s => ⟨e.sub (lk_of_allIn ⟨rfl, rfl, rfl, rfl, rfl, trivial⟩), s⟩
  · rintro y10 rfl a w ⟨he, hs⟩
    dsimp only [Ctl.on] at hm
    refine TC.use ?_ he hs
    refine TC.k ?_
    refine TC.region ?_
    refine TO.s rfl rfl rfl (StepS.move rfl) ?_
    refine TO.s rfl rfl rfl (StepS.assign rfl) ?_
    refine TO.s rfl rfl rfl (StepS.assign rfl) ?_
    refine TO.code ?_
    cases hm
    refine TC.ret fun a w e s => ?_
    refine FRet.mk2 (P := Try.prog) (fn := Try.f35) (t := 6) (u := 7) e rfl rfl rfl ?_
    refine ⟨_, _, rfl, ⟨(v4), rfl, rfl⟩, ?_⟩
    refine s.mono fun _ s => ?_
    replace s := Sat.front 0 rfl s
    exact s
  · rintro r rfl
    cases hm
    exact fun a w h => h

set_option maxRecDepth 100000 in
theorem C34 {B : World} {L : List HP} {a0 : Int} {a1 : List (Int × Int × Int)} {a2 : List Int} {h1 : Value} {h2 : Value} {r0 : Int} (e1 : Ent L (Rd 3 h1 (a1.map cTiii))) (e2 : Ent L (Rd 1 h2 (a2.map cI))) (hm : F34 a0 a1 a2 = some r0) {w : World} (st : St B L w) : Calls Try.prog 34 #[I a0, h1, h2] w (fun e w' => (e = .returned (I r0) ∧ St B (L) w')) := by
  refine calls_of (N := 33) (L := L) (args := [I a0, h1, h2]) Try.func34 rfl rfl rfl ?_ st
  dsimp only [F34] at hm
  refine TC.k ?_
  refine TC.region ?_
  refine TO.s rfl rfl rfl (StepS.assign rfl) ?_
  refine TO.code ?_
  refine TC.k ?_
  refine TC.region ?_
  refine TO.s rfl rfl rfl (StepS.move rfl) ?_
  refine TO.s rfl rfl rfl (StepS.move rfl) ?_
  obtain ⟨r1, hc2, hm⟩ := bind_some hm
  refine TO.q rfl rfl rfl (StepQ.call kcallB_16_true rfl rfl (fun _ st => C16 e1 hc2 st)) ?_
  refine TO.s rfl rfl rfl (StepS.assign rfl) ?_
  refine TO.code ?_
  refine TC.k ?_
  refine TC.k ?_
  refine TC.region ?_
  refine TO.s rfl rfl rfl (StepS.move rfl) ?_
  refine TO.s rfl rfl rfl (StepS.cmp rfl rfl rfl) ?_
  refine TO.s rfl rfl rfl (StepS.move rfl) ?_
  refine TO.mid1 5 20 (.bool ((r1 == 0) && ((a2.length : Int) != a0))) ?_ ?_
  · refine bcase ((r1 == 0)) (fun hb3 => ?_) (fun hb3 => ?_)
    · refine TO.sw rfl rfl rfl hb3 rfl rfl (StepS.move rfl) ?_
      refine TO.sw rfl rfl rfl hb3 rfl rfl (StepS.lenm rfl e2 ksliceB_34_3_1_true rfl) ?_
      refine TO.sw rfl rfl rfl hb3 rfl rfl (StepS.move rfl) ?_
      refine TO.sw rfl rfl rfl hb3 rfl rfl (StepS.cmp rfl rfl rfl) ?_
      refine TO.s rfl rfl rfl (StepS.pickT rfl hb3 rfl) ?_
      exact TO.up1 5 0 rfl rfl (by rw [hb3]; rfl) rfl
    · refine TO.skip rfl rfl rfl (skipF hb3) rfl rfl ?_
      refine TO.skip rfl rfl rfl (skipF hb3) rfl rfl ?_
      refine TO.skip rfl rfl rfl (skipF hb3) rfl rfl ?_
      refine TO.skip rfl rfl rfl (skipF hb3) rfl rfl ?_
      refine TO.s rfl rfl rfl (StepS.pickF rfl hb3 rfl) ?_
      exact TO.up1 5 0 rfl rfl (by rw [hb3]; rfl) rfl
  refine TO.code ?_
  obtain ⟨x4, hj5, hm⟩ := bind_some hm
  first | refine TC.cutM (fun a w => Mid 33 B [(0, I a0), (1, h1), (2, h2), (7, I x4)] (L) a w) ?_ ?_ | refine TC.cutX (fun a w => Mid 33 B [(0, I a0), (1, h1), (2, h2), (7, I x4)] (L) a w) ?_ ?_
  · refine TC.cond rfl (fun hc6 => ?_) (fun hc6 => ?_)
    · replace hj5 := cond_t hc6 hj5
      refine TC.region ?_
      refine TO.s rfl rfl rfl (StepS.assign rfl) ?_
      cases hj5
      refine TO.nil fun a w e s => ?_
      exact ⟨e.sub (lk_of_allIn ⟨rfl, rfl, rfl, rfl, trivial⟩), s⟩
    · replace hj5 := cond_f hc6 hj5
      cases hj5
      refine TC.skip fun a w e s => ?_
      exact ⟨e.sub (lk_of_allIn ⟨rfl, rfl, rfl, rfl, trivial⟩), s⟩
  · intro a w ⟨he, hs⟩
    refine TC.use ?_ he hs
    refine TC.k ?_
    refine TC.k ?_
    refine TC.region ?_
    refine TO.s rfl rfl rfl (StepS.move rfl) ?_
    refine TO.s rfl rfl rfl (StepS.cmp rfl rfl rfl) ?_
    refine TO.code ?_
    obtain ⟨x7, hj8, hm⟩ := bind_some hm
    first | refine TC.cutM (fun a w => Mid 33 B [(7, I x7)] (L) a w) ?_ ?_ | refine TC.cutX (fun a w => Mid 33 B [(7, I x7)] (L) a w) ?_ ?_
    · refine TC.cond rfl (fun hc9 => ?_) (fun hc9 => ?_)
      · replace hj8 := cond_t hc9 hj8
        refine TC.k ?_
        refine TC.region ?_
        refine TO.s rfl rfl rfl (StepS.move rfl) ?_
        refine TO.s rfl rfl rfl (StepS.move rfl) ?_
        refine TO.s rfl rfl rfl (StepS.move rfl) ?_
        obtain ⟨⟨r10, r11⟩, hc12, hj8⟩ := bind_some hj8
        refine TO.callO kcallB_35_true rfl rfl rfl (fun _ st => C35 e1 e2 hc12 st) ?_
        rintro _ _ ⟨v13, rfl, rfl⟩
        refine TO.s rfl rfl rfl (StepS.move rfl) ?_
        refine TO.s rfl rfl rfl (StepS.extract rfl rfl) ?_
        refine TO.s rfl rfl rfl (StepS.extract rfl rfl) ?_
        refine TO.s rfl rfl rfl (StepS.assign rfl) ?_
        refine TO.s rfl rfl rfl (StepS.assign rfl) ?_
        refine TO.code ?_
        refine TC.k ?_
        refine TC.region ?_
        refine TO.s rfl rfl rfl (StepS.move rfl) ?_
        refine TO.s rfl rfl rfl (StepS.not rfl) ?_
        refine TO.code ?_
        refine TC.cond rfl (fun hc15 => ?_) (fun hc15 => ?_)
        · replace hj8 := cond_t hc15 hj8
          refine TC.region ?_
          refine TO.s rfl rfl rfl (StepS.assign rfl) ?_
          cases hj8
          refine TO.nil fun a w e s => ?_
          exact ⟨e.sub (lk_of_allIn ⟨rfl, trivial⟩), s.mono fun _ => Sat.dropN 1⟩
        · replace hj8 := cond_f hc15 hj8
          cases hj8
          refine TC.skip fun a w e s => ?_
          exact ⟨e.sub (lk_of_allIn ⟨rfl, trivial⟩), s.mono fun _ => Sat.dropN 1⟩
      · replace hj8 := cond_f hc9 hj8
        cases hj8
        refine TC.skip fun a w e s => ?_
        exact ⟨e.sub (lk_of_allIn ⟨rfl, trivial⟩), s⟩
    · intro a w ⟨he, hs⟩
      refine TC.use ?_ he hs
      refine TC.k ?_
      refine TC.region ?_
      refine TO.s rfl rfl rfl (StepS.move rfl) ?_
      refine TO.s rfl rfl rfl (StepS.assign rfl) ?_
      refine TO.code ?_
      cases hm
      refine TC.ret fun a w e s => ?_
      refine FRet.mk1 (P := Try.prog) (fn := Try.f34) (t := 6) e rfl rfl ?_
      exact ⟨rfl, s.mono fun _ => Sat.dropN 0⟩

set_option maxRecDepth 100000 in
theorem C36 {B : World} {L : List HP} {a0 : List (Int × Int × Int)} {a1 : List Bool} {h0 : Value} {h1 : Value} {r0 : Bool} (e0 : Ent L (Rd 3 h0 (a0.map cTiii))) (e1 : Ent L (Rd 1 h1 (a1.map cB))) (hm : F36 a0 a1 = some r0) {w : World} (st : St B L w) : Calls Try.prog 36 #[h0, h1] w (fun e w' => (e = .returned (.bool r0) ∧ St B (L) w')) := by
  refine calls_of (N := 42) (L := L) (args := [h0, h1]) Try.func36 rfl rfl rfl ?_ st
  dsimp only [F36] at hm
  refine TC.k ?_
  refine TC.region ?_
  refine TO.s rfl rfl rfl (StepS.assign rfl) ?_
  refine TO.code ?_
  refine TC.k ?_
  refine TC.region ?_
  refine TO.s rfl rfl rfl (StepS.move rfl) ?_
  obtain ⟨r1, hc2, hm⟩ := bind_some hm
  refine TO.callO kcallB_18_true rfl rfl rfl (fun _ st => C18 e0 hc2 st) ?_
  rintro v3 _ ⟨_, hs4, rfl, rfl⟩
  refine TO.s rfl rfl rfl (StepS.assign rfl) ?_
  refine TO.code ?_
  refine TC.k ?_
  refine TC.k ?_
  refine TC.region ?_
  refine TO.s rfl rfl rfl (StepS.assign rfl) ?_
  refine TO.code ?_
  obtain ⟨o8, hw9, hm⟩ := bind_some hm
  refine TC.loop hw9 (fun x6 => fun a w => Mid 42 B [(0, h0), (1, h1), (5, v3), (6, I x6)] (SS 28 4 1 cB v3 hs4 (r1) :: L) a w) (fun _ => fun a w => Mid 42 B [] (SS 28 4 1 cB v3 hs4 (r1) :: L) a w) (fun r0 => FRet Try.prog Try.f36 (fun e w' => (e = .returned (.bool r0) ∧ St B (L) w'))) ?_ ?_ ?_ ?_
  · rintro x6 o8r hb10 a w ⟨he, hs⟩
    dsimp only [F36_L0] at hb10
    refine TC.use ?_ he hs
    refine TC.k ?_
    refine TC.k ?_
    refine TC.region ?_
    refine TO.s rfl rfl rfl (StepS.move rfl) ?_
    refine TO.s rfl rfl rfl (StepS.move rfl) ?_
    refine TO.s rfl rfl rfl (StepS.lenm rfl e0.tl ksliceB_22_58_3_true rfl) ?_
    refine TO.s rfl rfl rfl (StepS.cmp rfl rfl rfl) ?_
    refine TO.code ?_
    refine TC.cond rfl (fun hc11 => ?_) (fun hc11 => ?_)
    · replace hb10 := cond_t hc11 hb10
      refine TC.skipk ?_
      refine TC.k ?_
      refine TC.block ?_
      refine TC.k ?_
      refine TC.region ?_
      refine TO.s rfl rfl rfl (StepS.assign rfl) ?_
      refine TO.code ?_
      obtain ⟨o14, hw15, hb10⟩ := bind_some hb10
      refine TC.loop hw15 (fun x12 => fun a w => Mid 42 B [(0, h0), (1, h1), (5, v3), (6, I x6), (7, I x12)] (SS 28 4 1 cB v3 hs4 (r1) :: L) a w) (fun _ => fun a w => Mid 42 B [(0, h0), (1, h1), (5, v3), (6, I x6)] (SS 28 4 1 cB v3 hs4 (r1) :: L) a w) (fun r0 => FRet Try.prog Try.f36 (fun e w' => (e = .returned (.bool r0) ∧ St B (L) w'))) ?_ ?_ ?_ ?_
      · rintro x12 o14r hb16 a w ⟨he, hs⟩
        dsimp only [F36_L1] at hb16
        refine TC.use ?_ he hs
        refine TC.k ?_
        refine TC.k ?_
        refine TC.region ?_
        refine TO.s rfl rfl rfl (StepS.move rfl) ?_
        refine TO.s rfl rfl rfl (StepS.move rfl) ?_
        refine TO.s rfl rfl rfl (StepS.lenm rfl e0.tl ksliceB_22_58_3_true rfl) ?_
        refine TO.s rfl rfl rfl (StepS.cmp rfl rfl rfl) ?_
        refine TO.code ?_
        refine TC.cond rfl (fun hc17 => ?_) (fun hc17 => ?_)
        · replace hb16 := cond_t hc17 hb16
          refine TC.skipk ?_
          refine TC.k ?_
          refine TC.block ?_
          refine TC.k ?_
          refine TC.region ?_
          refine TO.s rfl rfl rfl (StepS.move rfl) ?_
          refine TO.s rfl rfl rfl (StepS.move rfl) ?_
          obtain ⟨x18, hx19, hb16⟩ := bind_some hb16
          refine TO.s rfl rfl rfl (StepS.idx rfl rfl e1.tl ksliceB_28_4_1_true (idx_spec hx19).1 (idxm_lt hx19)) ?_
          refine TO.s rfl rfl rfl (StepS.ld0 rfl e1.tl kscalB_4_true rfl (idxm hx19) rfl) ?_
          refine TO.s rfl rfl rfl (StepS.move rfl) ?_
          obtain ⟨b21, hj22, hb16⟩ := bind_some hb16
          refine TO.mid1 8 34 (.bool b21) ?_ ?_
          · refine bcase (x18) (fun hb20 => ?_) (fun hb20 => ?_)
            · replace hj22 := cond_t hb20 hj22
              refine TO.sw rfl rfl rfl hb20 rfl rfl (StepS.move rfl) ?_
              refine TO.sw rfl rfl rfl hb20 rfl rfl (StepS.move rfl) ?_
              obtain ⟨x23, hx24, hj22⟩ := bind_some hj22
              refine TO.sw rfl rfl rfl hb20 rfl rfl (StepS.idxRR rfl rfl (SS.rr (Ent.at 0 rfl)) ksliceB_29_28_1_true hx24) ?_
              refine TO.sw rfl rfl rfl hb20 rfl rfl (StepS.ldRR rfl (SS.rr (Ent.at 0 rfl)) kscalB_28_true hx24) ?_
              refine TO.sw rfl rfl rfl hb20 rfl rfl (StepS.move rfl) ?_
              obtain ⟨x26, hx27, hj22⟩ := bind_some hj22
              refine TO.sw rfl rfl rfl hb20 rfl rfl (StepS.idx rfl rfl (RR.row (SS.rr (Ent.at 0 rfl)) hx24) ksliceB_28_4_1_true (idx_spec hx27).1 (idxm_lt hx27)) ?_
              refine TO.sw rfl rfl rfl hb20 rfl rfl (StepS.ld0 rfl (RR.row (SS.rr (Ent.at 0 rfl)) hx24) kscalB_4_true rfl (idxm hx27) rfl) ?_
              cases hj22
              refine TO.s rfl rfl rfl (StepS.pickT rfl hb20 rfl) ?_
              exact TO.up1 8 0 rfl rfl rfl rfl
            · replace hj22 := cond_f hb20 hj22
              cases hj22
              refine TO.skip rfl rfl rfl (skipF hb20) rfl rfl ?_
              refine TO.skip rfl rfl rfl (skipF hb20) rfl rfl ?_
              refine TO.skip rfl rfl rfl (skipF hb20) rfl rfl ?_
              refine TO.skip rfl rfl rfl (skipF hb20) rfl rfl ?_
              refine TO.skip rfl rfl rfl (skipF hb20) rfl rfl ?_
              refine TO.skip rfl rfl rfl (skipF hb20) rfl rfl ?_
              refine TO.skip rfl rfl rfl (skipF hb20) rfl rfl ?_
              refine TO.s rfl rfl rfl (StepS.pickF rfl hb20 rfl) ?_
              exact TO.up1 8 0 rfl rfl rfl rfl
          refine TO.s rfl rfl rfl (StepS.move rfl) ?_
          obtain ⟨b29, hj30, hb16⟩ := bind_some hb16
          refine TO.mid1 6 41 (.bool b29) ?_ ?_
          · refine bcase (b21) (fun hb28 => ?_) (fun hb28 => ?_)
            · replace hj30 := cond_t hb28 hj30
              refine TO.sw rfl rfl rfl hb28 rfl rfl (StepS.move rfl) ?_
              refine TO.sw rfl rfl rfl hb28 rfl rfl (StepS.move rfl) ?_
              obtain ⟨x31, hx32, hj30⟩ := bind_some hj30
              refine TO.sw rfl rfl rfl hb28 rfl rfl (StepS.idx rfl rfl e1.tl ksliceB_28_4_1_true (idx_spec hx32).1 (idxm_lt hx32)) ?_
              refine TO.sw rfl rfl rfl hb28 rfl rfl (StepS.ld0 rfl e1.tl kscalB_4_true rfl (idxm hx32) rfl) ?_
              refine TO.sw rfl rfl rfl hb28 rfl rfl (StepS.not rfl) ?_
              cases hj30
              refine TO.s rfl rfl rfl (StepS.pickT rfl hb28 rfl) ?_
              exact TO.up1 6 0 rfl rfl rfl rfl
            · replace hj30 := cond_f hb28 hj30
              cases hj30
              refine TO.skip rfl rfl rfl (skipF hb28) rfl rfl ?_
              refine TO.skip rfl rfl rfl (skipF hb28) rfl rfl ?_
              refine TO.skip rfl rfl rfl (skipF hb28) rfl rfl ?_
              refine TO.skip rfl rfl rfl (skipF hb28) rfl rfl ?_
              refine TO.skip rfl rfl rfl (skipF hb28) rfl rfl ?_
              refine TO.s rfl rfl rfl (StepS.pickF rfl hb28 rfl) ?_
              exact TO.up1 6 0 rfl rfl rfl rfl
          refine TO.code ?_
          refine TC.cond rfl (fun hc33 => ?_) (fun hc33 => ?_)
          · replace hb16 := cond_t hc33 hb16
            refine TC.k ?_
            refine TC.region ?_
            refine TO.s rfl rfl rfl (StepS.assign rfl) ?_
            refine TO.code ?_
            cases hb16
            refine TC.ret fun a w e s => ?_
            refine FRet.mk1 (P := Try.prog) (fn := Try.f36) (t := 4) e rfl rfl ?_
            exact ⟨rfl, s.mono fun _ => Sat.dropN 1⟩
          · replace hb16 := cond_f hc33 hb16
            refine TC.skipk ?_
            refine TC.region ?_
            refine TO.s rfl rfl rfl (StepS.move rfl) ?_
            refine TO.s rfl rfl rfl (StepS.ari rfl rfl rfl) ?_
            refine TO.s rfl rfl rfl (StepS.assign rfl) ?_
            cases hb16
            refine TO.nil fun a w e s => ?_
            exact ⟨e.sub (lk_of_allIn ⟨rfl, rfl, rfl, rfl, rfl, trivial⟩), s⟩
        · replace hb16 := cond_f hc17 hb16
          cases hb16
          refine TC.exit rfl fun a w e s => ?_
          exact ⟨e.sub (lk_of_allIn ⟨rfl, rfl, rfl, rfl, trivial⟩), s⟩
      · exact fun a w e s => ⟨e.sub (lk_of_allIn ⟨rfl, rfl, rfl, rfl, rfl, trivial⟩), s⟩
      · rintro _ rfl a w ⟨he, hs⟩
        dsimp only [Ctl.on] at hb10
        refine TC.use ?_ he hs
        refine TC.region ?_
        refine TO.s rfl rfl rfl (StepS.move rfl) ?_
        refine TO.s rfl rfl rfl (StepS.ari rfl rfl rfl) ?_
        refine TO.s rfl rfl rfl (StepS.assign rfl) ?_
        cases hb10
        refine TO.nil fun a w e s => ?_
        exact ⟨e.sub (lk_of_allIn ⟨rfl, rfl, rfl, rfl, trivial⟩), s⟩
      · rintro r rfl
        cases hb10
        exact fun a w h => h
    · replace hb10 := cond_f hc11 hb10
      cases hb10
      refine TC.exit rfl fun a w e s => ?_
      exact ⟨e.sub (lk_of_allIn trivial), s⟩
  · exact fun a w e s => ⟨e.sub (lk_of_allIn ⟨rfl, rfl, rfl, rfl, trivial⟩), s⟩
  · rintro _ rfl a w ⟨he, hs⟩
    dsimp only [Ctl.on] at hm
    refine TC.use ?_ he hs
    refine TC.k ?_
    refine TC.region ?_
    refine TO.s rfl rfl rfl (StepS.assign rfl) ?_
    refine TO.code ?_
    cases hm
    refine TC.ret fun a w e s => ?_
    refine FRet.mk1 (P := Try.prog) (fn := Try.f36) (t := 4) e rfl rfl ?_
    exact ⟨rfl, s.mono fun _ => Sat.dropN 1⟩
  · rintro r rfl
    cases hm
    exact fun a w h => h

set_option maxRecDepth 100000 in
theorem C12 {B : World} {L : List HP} {a0 : Int} {a1 : List (Int × Int × Int)} {a2 : List Int} {h1 : Value} {h2 : Value} {r0 : Bool} (e1 : Ent L (Rd 3 h1 (a1.map cTiii))) (e2 : Ent L (Rd 1 h2 (a2.map cI))) (hm : F12 a0 a1 a2 = some r0) {w : World} (st : St B L w) : Calls Try.prog 12 #[I a0, h1, h2] w (fun e w' => (e = .returned (.bool r0) ∧ St B (L) w')) := by
  refine calls_of (N := 48) (L := L) (args := [I a0, h1, h2]) Try.func12 rfl rfl rfl ?_ st
  dsimp only [F12] at hm
  refine TC.k ?_
  refine TC.region ?_
  refine TO.s rfl rfl rfl (StepS.assign rfl) ?_
  refine TO.code ?_
  refine TC.k ?_
  refine TC.region ?_
  refine TO.s rfl rfl rfl (StepS.move rfl) ?_
  refine TO.s rfl rfl rfl (StepS.move rfl) ?_
  refine TO.s rfl rfl rfl (StepS.move rfl) ?_
  obtain ⟨⟨r1, r2⟩, hc3, hm⟩ := bind_some hm
  refine TO.q rfl rfl rfl (StepQ.call kcallB_33_true rfl rfl (fun _ st => C33 e1 e2 hc3 st)) ?_
  refine TO.s rfl rfl rfl (StepS.move rfl) ?_
  refine TO.s rfl rfl rfl (StepS.extract rfl rfl) ?_
  refine TO.s rfl rfl rfl (StepS.extract rfl rfl) ?_
  refine TO.s rfl rfl rfl (StepS.assign rfl) ?_
  refine TO.s rfl rfl rfl (StepS.assign rfl) ?_
  refine TO.code ?_
  refine TC.k ?_
  refine TC.region ?_
  refine TO.s rfl rfl rfl (StepS.move rfl) ?_
  refine TO.s rfl rfl rfl (StepS.move rfl) ?_
  refine TO.s rfl rfl rfl (StepS.move rfl) ?_
  obtain ⟨r4, hc5, hm⟩ := bind_some hm
  refine TO.q rfl rfl rfl (StepQ.call kcallB_34_true rfl rfl (fun _ st => C34 e1 e2 hc5 st)) ?_
  refine TO.s rfl rfl rfl (StepS.assign rfl) ?_
  refine TO.code ?_
  refine TC.k ?_
  refine TC.k ?_
  refine TC.region ?_
  refine TO.s rfl rfl rfl (StepS.move rfl) ?_
  refine TO.s rfl rfl rfl (StepS.cmp rfl rfl rfl) ?_
  refine TO.code ?_
  refine TC.cond rfl (fun hc6 => ?_) (fun hc6 => ?_)
  · replace hm := cond_t hc6 hm
    refine TC.k ?_
    refine TC.region ?_
    refine TO.s rfl rfl rfl (StepS.move rfl) ?_
    refine TO.s rfl rfl rfl (StepS.move rfl) ?_
    refine TO.s rfl rfl rfl (StepS.cmp rfl rfl rfl) ?_
    refine TO.s rfl rfl rfl (StepS.move rfl) ?_
    refine TO.mid1 3 31 (.bool ((r2 == r4) && (!r1))) ?_ ?_
    · refine bcase ((r2 == r4)) (fun hb7 => ?_) (fun hb7 => ?_)
      · refine TO.sw rfl rfl rfl hb7 rfl rfl (StepS.move rfl) ?_
        refine TO.sw rfl rfl rfl hb7 rfl rfl (StepS.not rfl) ?_
        refine TO.s rfl rfl rfl (StepS.pickT rfl hb7 rfl) ?_
        exact TO.up1 3 0 rfl rfl (by rw [hb7]; rfl) rfl
      · refine TO.skip rfl rfl rfl (skipF hb7) rfl rfl ?_
        refine TO.skip rfl rfl rfl (skipF hb7) rfl rfl ?_
        refine TO.s rfl rfl rfl (StepS.pickF rfl hb7 rfl) ?_
        exact TO.up1 3 0 rfl rfl (by rw [hb7]; rfl) rfl
    refine TO.s rfl rfl rfl (StepS.assign rfl) ?_
    refine TO.code ?_
    cases hm
    refine TC.ret fun a w e s => ?_
    refine FRet.mk1 (P := Try.prog) (fn := Try.f12) (t := 6) e rfl rfl ?_
    exact ⟨rfl, s.mono fun _ => Sat.dropN 0⟩
  · replace hm := cond_f hc6 hm
    refine TC.skipk ?_
    refine TC.k ?_
    refine TC.region ?_
    refine TO.s rfl rfl rfl (StepS.move rfl) ?_
    refine TO.s rfl rfl rfl (StepS.move rfl) ?_
    refine TO.s rfl rfl rfl (StepS.move rfl) ?_
    obtain ⟨⟨r8, r9⟩, hc10, hm⟩ := bind_some hm
    refine TO.callO kcallB_35_true rfl rfl rfl (fun _ st => C35 e1 e2 hc10 st) ?_
    rintro _ _ ⟨v11, rfl, rfl⟩
    refine TO.s rfl rfl rfl (StepS.move rfl) ?_
    refine TO.s rfl rfl rfl (StepS.extract rfl rfl) ?_
    refine TO.s rfl rfl rfl (StepS.extract rfl rfl) ?_
    refine TO.s rfl rfl rfl (StepS.assign rfl) ?_
    refine TO.s rfl rfl rfl (StepS.assign rfl) ?_
    refine TO.code ?_
    refine TC.k ?_
    refine TC.region ?_
    refine TO.s rfl rfl rfl (StepS.move rfl) ?_
    refine TO.s rfl rfl rfl (StepS.cmp rfl rfl rfl) ?_
    refine TO.s rfl rfl rfl (StepS.move rfl) ?_
    obtain ⟨b14, hj15, hm⟩ := bind_some hm
    refine TO.mid1 6 47 (.bool b14) ?_ ?_
    · refine bcase ((r2 == 0)) (fun hb13 => ?_) (fun hb13 => ?_)
      · replace hj15 := cond_t hb13 hj15
        refine TO.sw rfl rfl rfl hb13 rfl rfl (StepS.move rfl) ?_
        refine TO.sw rfl rfl rfl hb13 rfl rfl (StepS.move rfl) ?_
        refine TO.sw rfl rfl rfl hb13 rfl rfl (StepS.move rfl) ?_
        obtain ⟨r16, hc17, hj15⟩ := bind_some hj15
        refine TO.qw rfl rfl rfl hb13 rfl rfl (StepQ.call kcallB_36_true rfl rfl (fun _ st => C36 e1.tl (OwnS.rd (Ent.at 0 rfl)) hc17 st)) ?_
        refine TO.sw rfl rfl rfl hb13 rfl rfl (StepS.eqB kunderlying_4_some_bool rfl rfl) ?_
        cases hj15
        refine TO.s rfl rfl rfl (StepS.pickT rfl hb13 rfl) ?_
        exact TO.up1 6 0 rfl rfl rfl rfl
      · replace hj15 := cond_f hb13 hj15
        cases hj15
        refine TO.skip rfl rfl rfl (skipF hb13) rfl rfl ?_
        refine TO.skip rfl rfl rfl (skipF hb13) rfl rfl ?_
        refine TO.skip rfl rfl rfl (skipF hb13) rfl rfl ?_
        refine TO.skip rfl rfl rfl (skipF hb13) rfl rfl ?_
        refine TO.skip rfl rfl rfl (skipF hb13) rfl rfl ?_
        refine TO.s rfl rfl rfl (StepS.pickF rfl hb13 rfl) ?_
        exact TO.up1 6 0 rfl rfl rfl rfl
    refine TO.s rfl rfl rfl (StepS.assign rfl) ?_
    refine TO.code ?_
    cases hm
    refine TC.ret fun a w e s => ?_
    refine FRet.mk1 (P := Try.prog) (fn := Try.f12) (t := 6) e rfl rfl ?_
    exact ⟨rfl, s.mono fun _ => Sat.dropN 1⟩

set_option maxRecDepth 100000 in
theorem C42 {B : World} {L : List HP} {a0 : Int} {a1 : List (Int × Int × Int)} {h1 : Value} {r0 : List Int} (e1 : Ent L (Rd 3 h1 (a1.map cTiii))) (hm : F42 a0 a1 = some r0) {w : World} (st : St B L w) : Calls Try.prog 42 #[I a0, h1] w (fun e w' => ∃ v M, e = .returned v ∧ (∃ (qv1 : Value), v = qv1 ∧ M = (OwnS 3 1 qv1 (r0.map cI) :: L)) ∧ St B M w') := by
  refine calls_of (N := 58) (L := L) (args := [I a0, h1]) Try.func42 rfl rfl rfl ?_ st
  dsimp only [F42] at hm
  refine TC.k ?_
  refine TC.region ?_
  refine TO.s rfl rfl rfl (StepS.assign rfl) ?_
  refine TO.code ?_
  refine TC.k ?_
  refine TC.region ?_
  refine TO.s rfl rfl rfl (StepS.move rfl) ?_
  obtain ⟨y2, hk3, hm⟩ := bind_some hm
  refine TO.mkS (f := cI) (za := 0) kelemB_34_3_1_8_true kinfo_3_bind_zero_some_I_0 rfl (by decide) rfl rfl hk3 rfl fun v4 => ?_
  refine TO.s rfl rfl rfl (StepS.assign rfl) ?_
  refine TO.code ?_
  refine TC.k ?_
  refine TC.region ?_
  refine TO.mkM rfl fun r6 => ?_
  refine TO.s rfl rfl rfl (StepS.assign rfl) ?_
  refine TO.code ?_
  refine TC.k ?_
  refine TC.region ?_
  refine TO.s rfl rfl rfl (StepS.move rfl) ?_
  refine TO.s rfl rfl rfl (StepS.lenm rfl e1.tl.tl ksliceB_22_58_3_true rfl) ?_
  obtain ⟨y8, hk9, hm⟩ := bind_some hm
  refine TO.mkS (f := cI) (za := 0) kelemB_34_3_1_8_true kinfo_3_bind_zero_some_I_0 rfl (by decide) rfl rfl hk9 rfl fun v10 => ?_
  refine TO.s rfl rfl rfl (StepS.assign rfl) ?_
  refine TO.code ?_
  refine TC.k ?_
  refine TC.k ?_
  refine TC.region ?_
  refine TO.s rfl rfl rfl (StepS.move rfl) ?_
  refine TO.s rfl rfl rfl (StepS.lenm rfl e1.tl.tl.tl ksliceB_22_58_3_true rfl) ?_
  refine TO.s rfl rfl rfl (StepS.move rfl) ?_
  refine TO.code ?_
  obtain ⟨o23, hw24, hm⟩ := bind_some hm
  refine TC.loop hw24 (fun (y12, y13, y14, x15) => fun a w => Mid 58 B [(5, v4), (6, .map (some r6)), (7, v10), (17, h1), (18, I (a1.length : Int)), (19, I x15)] (OwnS 3 1 v10 (y12.map cI) :: Mp r6 (y13) :: OwnS 3 1 v4 (y14.map cI) :: L) a w) (fun (y20, y21, y22) => fun a w => Mid 58 B [(7, v10)] (OwnS 3 1 v10 (y20.map cI) :: Mp r6 (y21) :: OwnS 3 1 v4 (y22.map cI) :: L) a w) (fun (_ : Unit) _ _ => False) ?_ ?_ ?_ ?_
  · rintro ⟨y12, y13, y14, x15⟩ o23r hb25 a w ⟨he, hs⟩
    dsimp only [F42_L0] at hb25
    refine TC.use ?_ he hs
    refine TC.k ?_
    refine TC.region ?_
    refine TO.s rfl rfl rfl (StepS.cmp rfl rfl rfl) ?_
    refine TO.code ?_
    refine TC.k ?_
    refine TC.cond rfl (fun hc26 => ?_) (fun hc26 => ?_)
    · replace hb25 := cond_t hc26 hb25
      refine TC.skipk ?_
      refine TC.k ?_
      obtain ⟨⟨y27, y28, y29⟩, hj30, hb25⟩ := bind_some hb25
      first | refine TC.cutM (fun a w => Mid 58 B [(5, v4), (6, .map (some r6)), (7, v10), (17, h1), (18, I (a1.length : Int)), (19, I x15)] (OwnS 3 1 v10 (y27.map cI) :: Mp r6 (y28) :: OwnS 3 1 v4 (y29.map cI) :: L) a w) ?_ ?_ | refine TC.cutX (fun a w => Mid 58 B [(5, v4), (6, .map (some r6)), (7, v10), (17, h1), (18, I (a1.length : Int)), (19, I x15)] (OwnS 3 1 v10 (y27.map cI) :: Mp r6 (y28) :: OwnS 3 1 v4 (y29.map cI) :: L) a w) ?_ ?_
      · refine TC.block ?_
        refine TC.k ?_
        refine TC.region ?_
        refine TO.s rfl rfl rfl (StepS.move rfl) ?_
        obtain ⟨x31, hx32, hj30⟩ := bind_some hj30
        refine TO.s rfl rfl rfl (StepS.idx rfl rfl e1.tl.tl.tl ksliceB_22_58_3_true (idx_spec hx32).1 (idxm_lt hx32)) ?_
        refine TO.s rfl rfl rfl (StepS.ldE rfl e1.tl.tl.tl kaggB_58_3_true rfl (idxm hx32)) ?_
        refine TO.alloc kinfo_58_bind_zero_some_agg_I_0_I_0_I_0 rfl rfl fun b33 => ?_
        refine TO.s rfl rfl rfl (StepS.assign rfl) ?_
        refine TO.stB (us := [I x31.1, I x31.2.1, I x31.2.2]) 0 [I x31.1, I x31.2.1, I x31.2.2] rfl rfl rfl ksizeB_58_3_true rfl rfl rfl (by simp [Value.oneCell']) rfl ?_
        refine TO.code ?_
        refine TC.k ?_
        refine TC.region ?_
        refine TO.s rfl rfl rfl (StepS.move rfl) ?_
        refine TO.s rfl rfl rfl (StepS.fld rfl kfieldB_58_0_0_true) ?_
        refine TO.s rfl rfl rfl (StepS.ldB rfl (Ent.at 0 rfl) kscalB_3_true rfl) ?_
        obtain ⟨x34, hx35, hj30⟩ := bind_some hj30
        refine TO.s rfl rfl rfl (StepS.idx rfl rfl (OwnS.rd (Ent.at 3 rfl)) ksliceB_34_3_1_true (idx_spec hx35).1 (idxm_lt hx35)) ?_
        refine TO.s rfl rfl rfl (StepS.ld0 rfl (OwnS.rd (Ent.at 3 rfl)) kscalB_3_true rfl (idxm hx35) rfl) ?_
        refine TO.s rfl rfl rfl (StepS.assign rfl) ?_
        refine TO.code ?_
        refine TC.k ?_
        refine TC.k ?_
        refine TC.region ?_
        refine TO.s rfl rfl rfl (StepS.fld rfl kfieldB_58_1_1_true) ?_
        refine TO.s rfl rfl rfl (StepS.ldB rfl (Ent.at 0 rfl) kscalB_3_true rfl) ?_
        refine TO.s rfl rfl rfl (StepS.cmp rfl rfl rfl) ?_
        refine TO.code ?_
        obtain ⟨x36, hj37, hj30⟩ := bind_some hj30
        first | refine TC.cutM (fun a w => Mid 58 B [(5, v4), (6, .map (some r6)), (7, v10), (8, I x15), (9, .pointer (some ⟨b33, 0, none⟩)), (10, I x36), (17, h1), (18, I (a1.length : Int)), (19, I x15)] (Bx b33 58 [I x31.1, I x31.2.1, I x31.2.2] :: OwnS 3 1 v10 (y12.map cI) :: Mp r6 (y13) :: OwnS 3 1 v4 (y14.map cI) :: L) a w) ?_ ?_ | refine TC.cutX (fun a w => Mid 58 B [(5, v4), (6, .map (some r6)), (7, v10), (8, I x15), (9, .pointer (some ⟨b33, 0, none⟩)), (10, I x36), (17, h1), (18, I (a1.length : Int)), (19, I x15)] (Bx b33 58 [I x31.1, I x31.2.1, I x31.2.2] :: OwnS 3 1 v10 (y12.map cI) :: Mp r6 (y13) :: OwnS 3 1 v4 (y14.map cI) :: L) a w) ?_ ?_
        · refine TC.cond rfl (fun hc38 => ?_) (fun hc38 => ?_)
          · replace hj37 := cond_t hc38 hj37
            refine TC.region ?_
            refine TO.s rfl rfl rfl (StepS.move rfl) ?_
            refine TO.s rfl rfl rfl (StepS.move rfl) ?_
            refine TO.s rfl rfl rfl (StepS.fld rfl kfieldB_58_2_2_true) ?_
            refine TO.s rfl rfl rfl (StepS.ldB rfl (Ent.at 0 rfl) kscalB_3_true rfl) ?_
            refine TO.s rfl rfl rfl (StepS.look kmapB_59_3_3_true rfl (Ent.at 2 rfl) rfl) ?_
            refine TO.s rfl rfl rfl (StepS.max2 rfl rfl) ?_
            refine TO.s rfl rfl rfl (StepS.assign rfl) ?_
            cases hj37
            refine TO.nil fun a w e s => ?_
            exact ⟨e.sub (lk_of_allIn ⟨rfl, rfl, rfl, rfl, rfl, rfl, rfl, rfl, rfl, trivial⟩), s⟩
          · replace hj37 := cond_f hc38 hj37
            cases hj37
            refine TC.skip fun a w e s => ?_
            exact ⟨e.sub (lk_of_allIn ⟨rfl, rfl, rfl, rfl, rfl, rfl, rfl, rfl, rfl, trivial⟩), s⟩
        · intro a w ⟨he, hs⟩
          refine TC.use ?_ he hs
          refine TC.k ?_
          refine TC.region ?_
          refine TO.s rfl rfl rfl (StepS.move rfl) ?_
          refine TO.s rfl rfl rfl (StepS.ari rfl rfl rfl) ?_
          refine TO.s rfl rfl rfl (StepS.assign rfl) ?_
          refine TO.code ?_
          refine TC.k ?_
          obtain ⟨⟨y40, y41⟩, hj42, hj30⟩ := bind_some hj30
          first | refine TC.cutM (fun a w => Mid 58 B [(5, v4), (6, .map (some r6)), (7, v10), (9, .pointer (some ⟨b33, 0, none⟩)), (10, I (w64 (x36 + 1))), (17, h1), (18, I (a1.length : Int)), (19, I x15)] (Bx b33 58 [I x31.1, I x31.2.1, I x31.2.2] :: OwnS 3 1 v10 (y40.map cI) :: Mp r6 (y13) :: OwnS 3 1 v4 (y41.map cI) :: L) a w) ?_ ?_ | refine TC.cutX (fun a w => Mid 58 B [(5, v4), (6, .map (some r6)), (7, v10), (9, .pointer (some ⟨b33, 0, none⟩)), (10, I (w64 (x36 + 1))), (17, h1), (18, I (a1.length : Int)), (19, I x15)] (Bx b33 58 [I x31.1, I x31.2.1, I x31.2.2] :: OwnS 3 1 v10 (y40.map cI) :: Mp r6 (y13) :: OwnS 3 1 v4 (y41.map cI) :: L) a w) ?_ ?_
          · obtain ⟨xq39_7_1, hxq39_7_2, hj42⟩ := bind_some hj42
            obtain ⟨xq39_9_1, hxq39_9_2, hj42⟩ := bind_some hj42
            refine TC.region_any (Bx b33 58 [I x31.1, I x31.2.1, I x31.2.2] :: OwnS 3 1 v10 (y12.map cI) :: Mp r6 (y13) :: OwnS 3 1 v4 (y14.map cI) :: L) 8 11 kfollows_mixedOrders_true rfl ?_
            refine TA.takeW 0 rfl rfl rfl rfl (StepS.move rfl) (by kernel_rfl) (by kernel_rfl) (by kernel_rfl) rfl (.inr (fun _ s => s)) ?_
            refine TA.takeW 1 rfl rfl rfl rfl (StepS.move rfl) (by kernel_rfl) (by kernel_rfl) (by kernel_rfl) rfl (.inr (fun _ s => s)) ?_
            refine TA.takeW 2 rfl rfl rfl rfl (StepS.move rfl) (by kernel_rfl) (by kernel_rfl) (by kernel_rfl) rfl (.inr (fun _ s => s)) ?_
            refine TA.takeW 3 rfl rfl rfl rfl (StepS.fld rfl kfieldB_58_0_0_true) (by kernel_rfl) (by kernel_rfl) (by kernel_rfl) rfl (.inr (fun _ s => s)) ?_
            refine TA.takeW 5 rfl rfl rfl rfl (StepS.move rfl) (by kernel_rfl) (by kernel_rfl) (by kernel_rfl) rfl (.inr (fun _ s => s)) ?_
            refine TA.takeW 6 rfl rfl rfl rfl (StepS.move rfl) (by kernel_rfl) (by kernel_rfl) (by kernel_rfl) rfl (.inr (fun _ s => s)) ?_
            refine TA.take 7 rfl rfl rfl rfl (StepS.idx rfl rfl (OwnS.rd (Ent.at 1 rfl)) ksliceB_34_3_1_true (idx_spec hxq39_7_2).1 (idxm_lt hxq39_7_2)) (by kernel_rfl) (by kernel_rfl) (by kernel_rfl) (by kernel_rfl) (by kernel_rfl) (fun _ s => s) ?_
            refine TA.all2 (i := 4) (j := 8) (by kernel_rfl) ?_ ?_
            · refine TB.of rfl ?_
              refine TO.s rfl rfl rfl (StepS.ldB rfl (Ent.at 0 rfl) kscalB_3_true rfl) ?_
              refine TA.back (.inr (fun _ s => s)) ?_
              refine TA.asL (L' := (Bx b33 58 [I x31.1, I x31.2.1, I x31.2.2] :: OwnS 3 1 v10 (y12.map cI) :: Mp r6 (y13) :: OwnS 3 1 v4 (y14.map cI) :: L)) (listed' := #[true, true, true, true, true, true, true, true, false, false, false]) (by kernel_rfl) (by kernel_rfl) ?_
              refine TA.all1 (i := 8) (by kernel_rfl) ?_
              refine TB.of rfl ?_
              refine TO.stO (i := x15.toNat) (off := 0) (us := [I (w64 (x36 + 1))]) 1 (w64 (x36 + 1)) rfl rfl rfl ksizeB_3_1_true rfl rfl rfl (idx_spec hxq39_7_2).2 rfl (by simp [Value.oneCell']) rfl ?_
              refine TA.back (.inl (by kernel_rfl)) ?_
              refine TA.asL (L' := (Bx b33 58 [I x31.1, I x31.2.1, I x31.2.2] :: OwnS 3 1 v10 ((y12.set x15.toNat (w64 (x36 + 1))).map cI) :: Mp r6 (y13) :: OwnS 3 1 v4 (y14.map cI) :: L)) (listed' := #[true, true, true, true, true, true, true, true, true, false, false]) (by kernel_rfl) (by kernel_rfl) ?_
              refine TA.all1 (i := 9) (by kernel_rfl) ?_
              refine TB.of rfl ?_
              refine TO.s rfl rfl rfl (StepS.idx rfl rfl (OwnS.rd (Ent.at 3 rfl)) ksliceB_34_3_1_true (idx_spec hxq39_9_2).1 (idxm_lt hxq39_9_2)) ?_
              refine TA.back (.inl (by kernel_rfl)) ?_
              refine TA.asL (L' := (Bx b33 58 [I x31.1, I x31.2.1, I x31.2.2] :: OwnS 3 1 v10 ((y12.set x15.toNat (w64 (x36 + 1))).map cI) :: Mp r6 (y13) :: OwnS 3 1 v4 (y14.map cI) :: L)) (listed' := #[true, true, true, true, true, true, true, true, true, true, false]) (by kernel_rfl) (by kernel_rfl) ?_
              refine TA.all1 (i := 10) (by kernel_rfl) ?_
              refine TB.of rfl ?_
              refine TO.stO (i := x31.1.toNat) (off := 0) (us := [I (w64 (x36 + 1))]) 3 (w64 (x36 + 1)) rfl rfl rfl ksizeB_3_1_true rfl rfl rfl (idx_spec hxq39_9_2).2 rfl (by simp [Value.oneCell']) rfl ?_
              refine TA.back (.inl (by kernel_rfl)) ?_
              refine TA.asL (L' := (Bx b33 58 [I x31.1, I x31.2.1, I x31.2.2] :: OwnS 3 1 v10 ((y12.set x15.toNat (w64 (x36 + 1))).map cI) :: Mp r6 (y13) :: OwnS 3 1 v4 ((y14.set x31.1.toNat (w64 (x36 + 1))).map cI) :: L)) (listed' := #[true, true, true, true, true, true, true, true, true, true, true]) (by kernel_rfl) (by kernel_rfl) ?_
              cases hj42
              refine TA.nil (by kernel_rfl) fun a w e s => ?_
              exact ⟨e.sub (lk_of_allIn ⟨rfl, rfl, rfl, rfl, rfl, rfl, rfl, rfl, trivial⟩), s⟩
            · refine TB.of rfl ?_
              refine TO.stO (i := x15.toNat) (off := 0) (us := [I (w64 (x36 + 1))]) 1 (w64 (x36 + 1)) rfl rfl rfl ksizeB_3_1_true rfl rfl rfl (idx_spec hxq39_7_2).2 rfl (by simp [Value.oneCell']) rfl ?_
              refine TA.back (.inl (by kernel_rfl)) ?_
              refine TA.asL (L' := (Bx b33 58 [I x31.1, I x31.2.1, I x31.2.2] :: OwnS 3 1 v10 ((y12.set x15.toNat (w64 (x36 + 1))).map cI) :: Mp r6 (y13) :: OwnS 3 1 v4 (y14.map cI) :: L)) (listed' := #[true, true, true, true, false, true, true, true, true, false, false]) (by kernel_rfl) (by kernel_rfl) ?_
              refine TA.all1 (i := 4) (by kernel_rfl) ?_
              refine TB.of rfl ?_
              refine TO.s rfl rfl rfl (StepS.ldB rfl (Ent.at 0 rfl) kscalB_3_true rfl) ?_
              refine TA.back (.inl (by kernel_rfl)) ?_
              refine TA.asL (L' := (Bx b33 58 [I x31.1, I x31.2.1, I x31.2.2] :: OwnS 3 1 v10 ((y12.set x15.toNat (w64 (x36 + 1))).map cI) :: Mp r6 (y13) :: OwnS 3 1 v4 (y14.map cI) :: L)) (listed' := #[true, true, true, true, true, true, true, true, true, false, false]) (by kernel_rfl) (by kernel_rfl) ?_
              refine TA.all1 (i := 9) (by kernel_rfl) ?_
              refine TB.of rfl ?_
              refine TO.s rfl rfl rfl (StepS.idx rfl rfl (OwnS.rd (Ent.at 3 rfl)) ksliceB_34_3_1_true (idx_spec hxq39_9_2).1 (idxm_lt hxq39_9_2)) ?_
              refine TA.back (.inl (by kernel_rfl)) ?_
              refine TA.asL (L' := (Bx b33 58 [I x31.1, I x31.2.1, I x31.2.2] :: OwnS 3 1 v10 ((y12.set x15.toNat (w64 (x36 + 1))).map cI) :: Mp r6 (y13) :: OwnS 3 1 v4 (y14.map cI) :: L)) (listed' := #[true, true, true, true, true, true, true, true, true, true, false]) (by kernel_rfl) (by kernel_rfl) ?_
              refine TA.all1 (i := 10) (by kernel_rfl) ?_
              refine TB.of rfl ?_
              refine TO.stO (i := x31.1.toNat) (off := 0) (us := [I (w64 (x36 + 1))]) 3 (w64 (x36 + 1)) rfl rfl rfl ksizeB_3_1_true rfl rfl rfl (idx_spec hxq39_9_2).2 rfl (by simp [Value.oneCell']) rfl ?_
              refine TA.back (.inl (by kernel_rfl)) ?_
              refine TA.asL (L' := (Bx b33 58 [I x31.1, I x31.2.1, I x31.2.2] :: OwnS 3 1 v10 ((y12.set x15.toNat (w64 (x36 + 1))).map cI) :: Mp r6 (y13) :: OwnS 3 1 v4 ((y14.set x31.1.toNat (w64 (x36 + 1))).map cI) :: L)) (listed' := #[true, true, true, true, true, true, true, true, true, true, true]) (by kernel_rfl) (by kernel_rfl) ?_
              cases hj42
              refine TA.nil (by kernel_rfl) fun a w e s => ?_
              exact ⟨e.sub (lk_of_allIn ⟨rfl, rfl, rfl, rfl, rfl, rfl, rfl, rfl, trivial⟩), s⟩
          · intro a w ⟨he, hs⟩
            refine TC.use ?_ he hs
            refine TC.k ?_
            refine TC.region ?_
            refine TO.s rfl rfl rfl (StepS.fld rfl kfieldB_58_1_1_true) ?_
            refine TO.s rfl rfl rfl (StepS.ldB rfl (Ent.at 0 rfl) kscalB_3_true rfl) ?_
            refine TO.s rfl rfl rfl (StepS.cmp rfl rfl rfl) ?_
            refine TO.code ?_
            refine TC.cond rfl (fun hc43 => ?_) (fun hc43 => ?_)
            · replace hj30 := cond_t hc43 hj30
              refine TC.region ?_
              refine TO.s rfl rfl rfl (StepS.move rfl) ?_
              refine TO.s rfl rfl rfl (StepS.fld rfl kfieldB_58_2_2_true) ?_
              refine TO.s rfl rfl rfl (StepS.ldB rfl (Ent.at 0 rfl) kscalB_3_true rfl) ?_
              refine TO.s rfl rfl rfl (StepS.move rfl) ?_
              refine TO.mset 2 kmapB_59_3_3_true rfl rfl rfl rfl ?_
              cases hj30
              refine TO.nil fun a w e s => ?_
              exact ⟨e.sub (lk_of_allIn ⟨rfl, rfl, rfl, rfl, rfl, rfl, trivial⟩), s.mono fun _ => Sat.dropN 1⟩
            · replace hj30 := cond_f hc43 hj30
              cases hj30
              refine TC.skip fun a w e s => ?_
              exact ⟨e.sub (lk_of_allIn ⟨rfl, rfl, rfl, rfl, rfl, rfl, trivial⟩), s.mono fun _ => Sat.dropN 1⟩
      · intro a w ⟨he, hs⟩
        refine TC.use ?_ he hs
        refine TC.region ?_
        refine TO.s rfl rfl rfl (StepS.ari rfl rfl rfl) ?_
        refine TO.s rfl rfl rfl (StepS.move rfl) ?_
        cases hb25
        refine TO.nil fun a w e s => ?_
        exact ⟨e.sub (lk_of_allIn ⟨rfl, rfl, rfl, rfl, rfl, rfl, trivial⟩), s⟩
    · replace hb25 := cond_f hc26 hb25
      cases hb25
      refine TC.exit rfl fun a w e s => ?_
      exact ⟨e.sub (lk_of_allIn ⟨rfl, trivial⟩), s⟩
  · exact fun a w e s => ⟨e.sub (lk_of_allIn ⟨rfl, rfl, rfl, rfl, rfl, rfl, trivial⟩), s⟩
  · rintro ⟨y20, y21, y22⟩ rfl a w ⟨he, hs⟩
    dsimp only [Ctl.on] at hm
    refine TC.use ?_ he hs
    refine TC.k ?_
    refine TC.region ?_
    refine TO.s rfl rfl rfl (StepS.move rfl) ?_
    refine TO.s rfl rfl rfl (StepS.assign rfl) ?_
    refine TO.code ?_
    cases hm
    refine TC.ret fun a w e s => ?_
    refine FRet.mk1 (P := Try.prog) (fn := Try.f42) (t := 4) e rfl rfl ?_
    refine ⟨_, _, rfl, ⟨(v10), rfl, rfl⟩, ?_⟩
    refine s.mono fun _ s => ?_
    replace s := Sat.front 0 rfl s
    replace s := Sat.erase 1 s
    replace s := Sat.erase 1 s
    exact s
  · rintro r rfl
    exact fun a w h => h.elim

set_option maxRecDepth 100000 in
theorem C23 {B : World} {L : List HP} {a0 : Int} {a1 : List (Int × Int × Int)} {h1 : Value} {r0 : List Int} {r1 : Int} (e1 : Ent L (Rd 3 h1 (a1.map cTiii))) (hm : F23 a0 a1 = some (r0, r1)) {w : World} (st : St B L w) : Calls Try.prog 23 #[I a0, h1] w (fun e w' => ∃ v M, e = .returned v ∧ (∃ (qv1 : Value), v = .tuple #[qv1, I r1] ∧ M = (OwnS 3 1 qv1 (r0.map cI) :: L)) ∧ St B M w') := by
  refine calls_of (N := 16) (L := L) (args := [I a0, h1]) Try.func23 rfl rfl rfl ?_ st
  dsimp only [F23] at hm
  refine TC.k ?_
  refine TC.region ?_
  refine TO.s rfl rfl rfl (StepS.assign rfl) ?_
  refine TO.s rfl rfl rfl (StepS.assign rfl) ?_
  refine TO.code ?_
  refine TC.k ?_
  refine TC.k ?_
  refine TC.region ?_
  refine TO.s rfl rfl rfl (StepS.move rfl) ?_
  refine TO.s rfl rfl rfl (StepS.move rfl) ?_
  obtain ⟨r2, hc3, hm⟩ := bind_some hm
  refine TO.q rfl rfl rfl (StepQ.call kcallB_15_true rfl rfl (fun _ st => C15 e1 hc3 st)) ?_
  refine TO.s rfl rfl rfl (StepS.assign rfl) ?_
  refine TO.code ?_
  refine TC.k ?_
  refine TC.region ?_
  refine TO.s rfl rfl rfl (StepS.move rfl) ?_
  refine TO.s rfl rfl rfl (StepS.cmp rfl rfl rfl) ?_
  refine TO.code ?_
  refine TC.cond rfl (fun hc4 => ?_) (fun hc4 => ?_)
  · replace hm := cond_t hc4 hm
    refine TC.k ?_
    refine TC.region ?_
    refine TO.s rfl rfl rfl (StepS.move rfl) ?_
    refine TO.s rfl rfl rfl (StepS.assign rfl) ?_
    refine TO.s rfl rfl rfl (StepS.assign rfl) ?_
    refine TO.code ?_
    cases hm
    refine TC.ret fun a w e s => ?_
    refine FRet.mk2 (P := Try.prog) (fn := Try.f23) (t := 4) (u := 5) e rfl rfl rfl ?_
    refine ⟨_, _, rfl, ⟨(.slice none 0 0), rfl, rfl⟩, ?_⟩
    refine s.mono fun _ s => ?_
    replace s := Sat.nilS (e := 3) (sz := 1) (f := cI) s
    exact s
  · replace hm := cond_f hc4 hm
    refine TC.skipk ?_
    refine TC.k ?_
    refine TC.region ?_
    refine TO.s rfl rfl rfl (StepS.move rfl) ?_
    refine TO.s rfl rfl rfl (StepS.move rfl) ?_
    obtain ⟨r5, hc6, hm⟩ := bind_some hm
    refine TO.callO kcallB_42_true rfl rfl rfl (fun _ st => C42 e1 hc6 st) ?_
    rintro v7 _ ⟨_, rfl, rfl⟩
    refine TO.s rfl rfl rfl (StepS.assign rfl) ?_
    refine TO.s rfl rfl rfl (StepS.assign rfl) ?_
    refine TO.code ?_
    cases hm
    refine TC.ret fun a w e s => ?_
    refine FRet.mk2 (P := Try.prog) (fn := Try.f23) (t := 4) (u := 5) e rfl rfl rfl ?_
    refine ⟨_, _, rfl, ⟨(v7), rfl, rfl⟩, ?_⟩
    refine s.mono fun _ s => ?_
    replace s := Sat.front 0 rfl s
    exact s

set_option maxRecDepth 100000 in
theorem C25 {B : World} {L : List HP} {a0 : List (Int × Int × Int)} {h0 : Value} {r0 : List Int} (e0 : Ent L (Rd 3 h0 (a0.map cTiii))) (hm : F25 a0 = some r0) {w : World} (st : St B L w) : Calls Try.prog 25 #[h0] w (fun e w' => ∃ v M, e = .returned v ∧ (∃ (qv1 : Value), v = qv1 ∧ M = (OwnS 3 1 qv1 (r0.map cI) :: L)) ∧ St B M w') := by
  refine calls_of (N := 57) (L := L) (args := [h0]) Try.func25 rfl rfl rfl ?_ st
  dsimp only [F25] at hm
  refine TC.k ?_
  refine TC.region ?_
  refine TO.s rfl rfl rfl (StepS.assign rfl) ?_
  refine TO.code ?_
  refine TC.k ?_
  refine TC.region ?_
  refine TO.s rfl rfl rfl (StepS.move rfl) ?_
  obtain ⟨r2, hc3, hm⟩ := bind_some hm
  refine TO.callO kcallB_18_true rfl rfl rfl (fun _ st => C18 e0 hc3 st) ?_
  rintro v4 _ ⟨_, hs5, rfl, rfl⟩
  refine TO.s rfl rfl rfl (StepS.assign rfl) ?_
  refine TO.code ?_
  refine TC.k ?_
  refine TC.region ?_
  refine TO.s rfl rfl rfl (StepS.move rfl) ?_
  refine TO.s rfl rfl rfl (StepS.lenm rfl e0.tl ksliceB_22_58_3_true rfl) ?_
  obtain ⟨y7, hk8, hm⟩ := bind_some hm
  refine TO.mkS (f := cI) (za := 0) kelemB_34_3_1_8_true kinfo_3_bind_zero_some_I_0 rfl (by decide) rfl rfl hk8 rfl fun v9 => ?_
  refine TO.s rfl rfl rfl (StepS.assign rfl) ?_
  refine TO.code ?_
  refine TC.k ?_
  refine TC.k ?_
  refine TC.region ?_
  refine TO.s rfl rfl rfl (StepS.assign rfl) ?_
  refine TO.code ?_
  obtain ⟨o16, hw17, hm⟩ := bind_some hm
  refine TC.loop hw17 (fun (y11, x12) => fun a w => Mid 57 B [(0, h0), (3, v4), (4, v9), (5, I x12)] (OwnS 3 1 v9 (y11.map cI) :: SS 28 4 1 cB v4 hs5 (r2) :: L) a w) (fun y15 => fun a w => Mid 57 B [(4, v9)] (OwnS 3 1 v9 (y15.map cI) :: SS 28 4 1 cB v4 hs5 (r2) :: L) a w) (fun (_ : Unit) _ _ => False) ?_ ?_ ?_ ?_
  · rintro ⟨y11, x12⟩ o16r hb18 a w ⟨he, hs⟩
    dsimp only [F25_L0] at hb18
    refine TC.use ?_ he hs
    refine TC.k ?_
    refine TC.k ?_
    refine TC.region ?_
    refine TO.s rfl rfl rfl (StepS.move rfl) ?_
    refine TO.s rfl rfl rfl (StepS.move rfl) ?_
    refine TO.s rfl rfl rfl (StepS.lenm rfl e0.tl.tl ksliceB_22_58_3_true rfl) ?_
    refine TO.s rfl rfl rfl (StepS.cmp rfl rfl rfl) ?_
    refine TO.code ?_
    refine TC.cond rfl (fun hc19 => ?_) (fun hc19 => ?_)
    · replace hb18 := cond_t hc19 hb18
      refine TC.skipk ?_
      refine TC.k ?_
      refine TC.block ?_
      refine TC.k ?_
      refine TC.k ?_
      refine TC.region ?_
      refine TO.s rfl rfl rfl (StepS.assign rfl) ?_
      refine TO.code ?_
      obtain ⟨o25, hw26, hb18⟩ := bind_some hb18
      refine TC.loop hw26 (fun (y20, x21) => fun a w => Mid 57 B [(0, h0), (3, v4), (4, v9), (5, I x12), (6, I x21)] (OwnS 3 1 v9 (y20.map cI) :: SS 28 4 1 cB v4 hs5 (r2) :: L) a w) (fun y24 => fun a w => Mid 57 B [(0, h0), (3, v4), (4, v9), (5, I x12)] (OwnS 3 1 v9 (y24.map cI) :: SS 28 4 1 cB v4 hs5 (r2) :: L) a w) (fun (_ : Unit) _ _ => False) ?_ ?_ ?_ ?_
      · rintro ⟨y20, x21⟩ o25r hb27 a w ⟨he, hs⟩
        dsimp only [F25_L1] at hb27
        refine TC.use ?_ he hs
        refine TC.k ?_
        refine TC.k ?_
        refine TC.region ?_
        refine TO.s rfl rfl rfl (StepS.move rfl) ?_
        refine TO.s rfl rfl rfl (StepS.move rfl) ?_
        refine TO.s rfl rfl rfl (StepS.cmp rfl rfl rfl) ?_
        refine TO.code ?_
        refine TC.cond rfl (fun hc28 => ?_) (fun hc28 => ?_)
        · replace hb27 := cond_t hc28 hb27
          refine TC.skipk ?_
          refine TC.k ?_
          obtain ⟨y29, hj30, hb27⟩ := bind_some hb27
          first | refine TC.cutM (fun a w => Mid 57 B [(0, h0), (3, v4), (4, v9), (5, I x12), (6, I x21)] (OwnS 3 1 v9 (y29.map cI) :: SS 28 4 1 cB v4 hs5 (r2) :: L) a w) ?_ ?_ | refine TC.cutX (fun a w => Mid 57 B [(0, h0), (3, v4), (4, v9), (5, I x12), (6, I x21)] (OwnS 3 1 v9 (y29.map cI) :: SS 28 4 1 cB v4 hs5 (r2) :: L) a w) ?_ ?_
          · refine TC.block ?_
            refine TC.k ?_
            refine TC.region_still kfollows_mixedOrders_true (by kernel_rfl) ?_
            refine TS.s rfl rfl rfl (StepS.move rfl) ?_
            refine TS.s rfl rfl rfl (StepS.move rfl) ?_
            obtain ⟨x31, hx32, hj30⟩ := bind_some hj30
            refine TS.s rfl rfl rfl (StepS.idxRR rfl rfl (SS.rr (Ent.at 1 rfl)) ksliceB_29_28_1_true hx32) ?_
            refine TS.s rfl rfl rfl (StepS.ldRR rfl (SS.rr (Ent.at 1 rfl)) kscalB_28_true hx32) ?_
            refine TS.s rfl rfl rfl (StepS.move rfl) ?_
            obtain ⟨x34, hx35, hj30⟩ := bind_some hj30
            refine TS.s rfl rfl rfl (StepS.idx rfl rfl (RR.row (SS.rr (Ent.at 1 rfl)) hx32) ksliceB_28_4_1_true (idx_spec hx35).1 (idxm_lt hx35)) ?_
            refine TS.s rfl rfl rfl (StepS.ld0 rfl (RR.row (SS.rr (Ent.at 1 rfl)) hx32) kscalB_4_true rfl (idxm hx35) rfl) ?_
            refine TS.s rfl rfl rfl (StepS.move rfl) ?_
            obtain ⟨b37, hj38, hj30⟩ := bind_some hj30
            refine TS.mid1 10 40 (.bool b37) ?_ ?_
            · refine bcase (x34) (fun hb36 => ?_) (fun hb36 => ?_)
              · replace hj38 := cond_t hb36 hj38
                refine TS.sw rfl rfl rfl hb36 rfl rfl (StepS.move rfl) ?_
                refine TS.sw rfl rfl rfl hb36 rfl rfl (StepS.move rfl) ?_
                obtain ⟨x39, hx40, hj38⟩ := bind_some hj38
                refine TS.sw rfl rfl rfl hb36 rfl rfl (StepS.idx rfl rfl (OwnS.rd (Ent.at 0 rfl)) ksliceB_34_3_1_true (idx_spec hx40).1 (idxm_lt hx40)) ?_
                refine TS.sw rfl rfl rfl hb36 rfl rfl (StepS.ld0 rfl (OwnS.rd (Ent.at 0 rfl)) kscalB_3_true rfl (idxm hx40) rfl) ?_
                refine TS.sw rfl rfl rfl hb36 rfl rfl (StepS.move rfl) ?_
                refine TS.sw rfl rfl rfl hb36 rfl rfl (StepS.move rfl) ?_
                obtain ⟨x41, hx42, hj38⟩ := bind_some hj38
                refine TS.sw rfl rfl rfl hb36 rfl rfl (StepS.idx rfl rfl (OwnS.rd (Ent.at 0 rfl)) ksliceB_34_3_1_true (idx_spec hx42).1 (idxm_lt hx42)) ?_
                refine TS.sw rfl rfl rfl hb36 rfl rfl (StepS.ld0 rfl (OwnS.rd (Ent.at 0 rfl)) kscalB_3_true rfl (idxm hx42) rfl) ?_
                refine TS.sw rfl rfl rfl hb36 rfl rfl (StepS.cmp rfl rfl rfl) ?_
                cases hj38
                refine TS.s rfl rfl rfl (StepS.pickT rfl hb36 rfl) ?_
                exact TS.up1 10 0 rfl rfl rfl rfl
              · replace hj38 := cond_f hb36 hj38
                cases hj38
                refine TS.skip rfl rfl rfl (skipF hb36) rfl rfl ?_
                refine TS.skip rfl rfl rfl (skipF hb36) rfl rfl ?_
                refine TS.skip rfl rfl rfl (skipF hb36) rfl rfl ?_
                refine TS.skip rfl rfl rfl (skipF hb36) rfl rfl ?_
                refine TS.skip rfl rfl rfl (skipF hb36) rfl rfl ?_
                refine TS.skip rfl rfl rfl (skipF hb36) rfl rfl ?_
                refine TS.skip rfl rfl rfl (skipF hb36) rfl rfl ?_
                refine TS.skip rfl rfl rfl (skipF hb36) rfl rfl ?_
                refine TS.skip rfl rfl rfl (skipF hb36) rfl rfl ?_
                refine TS.s rfl rfl rfl (StepS.pickF rfl hb36 rfl) ?_
                exact TS.up1 10 0 rfl rfl rfl rfl
            refine TS.code ?_
            refine TC.cond rfl (fun hc43 => ?_) (fun hc43 => ?_)
            · replace hj30 := cond_t hc43 hj30
              refine TC.region ?_
              refine TO.s rfl rfl rfl (StepS.move rfl) ?_
              refine TO.s rfl rfl rfl (StepS.move rfl) ?_
              refine TO.s rfl rfl rfl (StepS.move rfl) ?_
              refine TO.s rfl rfl rfl (StepS.move rfl) ?_
              obtain ⟨x44, hx45, hj30⟩ := bind_some hj30
              refine TO.s rfl rfl rfl (StepS.idx rfl rfl (OwnS.rd (Ent.at 0 rfl)) ksliceB_34_3_1_true (idx_spec hx45).1 (idxm_lt hx45)) ?_
              refine TO.s rfl rfl rfl (StepS.ld0 rfl (OwnS.rd (Ent.at 0 rfl)) kscalB_3_true rfl (idxm hx45) rfl) ?_
              obtain ⟨x46, hx47, hj30⟩ := bind_some hj30
              refine TO.s rfl rfl rfl (StepS.idx rfl rfl (OwnS.rd (Ent.at 0 rfl)) ksliceB_34_3_1_true (idx_spec hx47).1 (idxm_lt hx47)) ?_
              refine TO.stO (i := x12.toNat) (off := 0) (us := [I x44]) 0 x44 rfl rfl rfl ksizeB_3_1_true rfl rfl rfl (idx_spec hx47).2 rfl (by simp [Value.oneCell']) rfl ?_
              cases hj30
              refine TO.nil fun a w e s => ?_
              exact ⟨e.sub (lk_of_allIn ⟨rfl, rfl, rfl, rfl, rfl, trivial⟩), s⟩
            · replace hj30 := cond_f hc43 hj30
              cases hj30
              refine TC.skip fun a w e s => ?_
              exact ⟨e.sub (lk_of_allIn ⟨rfl, rfl, rfl, rfl, rfl, trivial⟩), s⟩
          · intro a w ⟨he, hs⟩
            refine TC.use ?_ he hs
            refine TC.region ?_
            refine TO.s rfl rfl rfl (StepS.move rfl) ?_
            refine TO.s rfl rfl rfl (StepS.ari rfl rfl rfl) ?_
            refine TO.s rfl rfl rfl (StepS.assign rfl) ?_
            cases hb27
            refine TO.nil fun a w e s => ?_
            exact ⟨e.sub (lk_of_allIn ⟨rfl, rfl, rfl, rfl, rfl, trivial⟩), s⟩
        · replace hb27 := cond_f hc28 hb27
          cases hb27
          refine TC.exit rfl fun a w e s => ?_
          exact ⟨e.sub (lk_of_allIn ⟨rfl, rfl, rfl, rfl, trivial⟩), s⟩
      · exact fun a w e s => ⟨e.sub (lk_of_allIn ⟨rfl, rfl, rfl, rfl, rfl, trivial⟩), s⟩
      · rintro y24 rfl a w ⟨he, hs⟩
        dsimp only [Ctl.on] at hb18
        refine TC.use ?_ he hs
        refine TC.region ?_
        refine TO.s rfl rfl rfl (StepS.move rfl) ?_
        refine TO.s rfl rfl rfl (StepS.move rfl) ?_
        refine TO.s rfl rfl rfl (StepS.move rfl) ?_
        refine TO.s rfl rfl rfl (StepS.move rfl) ?_
        obtain ⟨x48, hx49, hb18⟩ := bind_some hb18
        refine TO.s rfl rfl rfl (StepS.idx rfl rfl (OwnS.rd (Ent.at 0 rfl)) ksliceB_34_3_1_true (idx_spec hx49).1 (idxm_lt hx49)) ?_
        refine TO.s rfl rfl rfl (StepS.ld0 rfl (OwnS.rd (Ent.at 0 rfl)) kscalB_3_true rfl (idxm hx49) rfl) ?_
        refine TO.s rfl rfl rfl (StepS.ari rfl rfl rfl) ?_
        obtain ⟨x50, hx51, hb18⟩ := bind_some hb18
        refine TO.s rfl rfl rfl (StepS.idx rfl rfl (OwnS.rd (Ent.at 0 rfl)) ksliceB_34_3_1_true (idx_spec hx51).1 (idxm_lt hx51)) ?_
        refine TO.stO (i := x12.toNat) (off := 0) (us := [I (w64 (x48 + 1))]) 0 (w64 (x48 + 1)) rfl rfl rfl ksizeB_3_1_true rfl rfl rfl (idx_spec hx51).2 rfl (by simp [Value.oneCell']) rfl ?_
        refine TO.code ?_
        refine TC.region ?_
        refine TO.s rfl rfl rfl (StepS.move rfl) ?_
        refine TO.s rfl rfl rfl (StepS.ari rfl rfl rfl) ?_
        refine TO.s rfl rfl rfl (StepS.assign rfl) ?_
        cases hb18
        refine TO.nil fun a w e s => ?_
        exact ⟨e.sub (lk_of_allIn ⟨rfl, rfl, rfl, rfl, trivial⟩), s⟩
      · rintro r rfl
        exact fun a w h => h.elim
    · replace hb18 := cond_f hc19 hb18
      cases hb18
      refine TC.exit rfl fun a w e s => ?_
      exact ⟨e.sub (lk_of_allIn ⟨rfl, trivial⟩), s⟩
  · exact fun a w e s => ⟨e.sub (lk_of_allIn ⟨rfl, rfl, rfl, rfl, trivial⟩), s⟩
  · rintro y15 rfl a w ⟨he, hs⟩
    dsimp only [Ctl.on] at hm
    refine TC.use ?_ he hs
    refine TC.k ?_
    refine TC.region ?_
    refine TO.s rfl rfl rfl (StepS.move rfl) ?_
    refine TO.s rfl rfl rfl (StepS.assign rfl) ?_
    refine TO.code ?_
    cases hm
    refine TC.ret fun a w e s => ?_
    refine FRet.mk1 (P := Try.prog) (fn := Try.f25) (t := 2) e rfl rfl ?_
    refine ⟨_, _, rfl, ⟨(v9), rfl, rfl⟩, ?_⟩
    refine s.mono fun _ s => ?_
    replace s := Sat.front 0 rfl s
    replace s := Sat.erase 1 s
    exact s
  · rintro r rfl
    exact fun a w h => h.elim

set_option maxRecDepth 100000 in
theorem C24 {B : World} {L : List HP} {a0 : List Int} {a1 : List Int} {h0 : Value} {h1 : Value} {r0 : Bool} (e0 : Ent L (Rd 1 h0 (a0.map cI))) (e1 : Ent L (Rd 1 h1 (a1.map cI))) (hm : F24 a0 a1 = some r0) {w : World} (st : St B L w) : Calls Try.prog 24 #[h0, h1] w (fun e w' => (e = .returned (.bool r0) ∧ St B (L) w')) := by
  refine calls_of (N := 26) (L := L) (args := [h0, h1]) Try.func24 rfl rfl rfl ?_ st
  dsimp only [F24] at hm
  refine TC.k ?_
  refine TC.region ?_
  refine TO.s rfl rfl rfl (StepS.assign rfl) ?_
  refine TO.code ?_
  refine TC.k ?_
  refine TC.k ?_
  refine TC.region ?_
  refine TO.s rfl rfl rfl (StepS.move rfl) ?_
  refine TO.s rfl rfl rfl (StepS.lenm rfl e0 ksliceB_34_3_1_true rfl) ?_
  refine TO.s rfl rfl rfl (StepS.move rfl) ?_
  refine TO.s rfl rfl rfl (StepS.lenm rfl e1 ksliceB_34_3_1_true rfl) ?_
  refine TO.s rfl rfl rfl (StepS.cmp rfl rfl rfl) ?_
  refine TO.code ?_
  refine TC.cond rfl (fun hc1 => ?_) (fun hc1 => ?_)
  · replace hm := cond_t hc1 hm
    refine TC.k ?_
    refine TC.region ?_
    refine TO.s rfl rfl rfl (StepS.assign rfl) ?_
    refine TO.code ?_
    cases hm
    refine TC.ret fun a w e s => ?_
    refine FRet.mk1 (P := Try.prog) (fn := Try.f24) (t := 4) e rfl rfl ?_
    exact ⟨rfl, s.mono fun _ => Sat.dropN 0⟩
  · replace hm := cond_f hc1 hm
    refine TC.skipk ?_
    refine TC.k ?_
    refine TC.k ?_
    refine TC.region ?_
    refine TO.s rfl rfl rfl (StepS.assign rfl) ?_
    refine TO.code ?_
    obtain ⟨o4, hw5, hm⟩ := bind_some hm
    refine TC.loop hw5 (fun x2 => fun a w => Mid 26 B [(0, h0), (1, h1), (5, I x2)] (L) a w) (fun _ => fun a w => Mid 26 B [] (L) a w) (fun r0 => FRet Try.prog Try.f24 (fun e w' => (e = .returned (.bool r0) ∧ St B (L) w'))) ?_ ?_ ?_ ?_
    · rintro x2 o4r hb6 a w ⟨he, hs⟩
      dsimp only [F24_L0] at hb6
      refine TC.use ?_ he hs
      refine TC.k ?_
      refine TC.k ?_
      refine TC.region ?_
      refine TO.s rfl rfl rfl (StepS.move rfl) ?_
      refine TO.s rfl rfl rfl (StepS.move rfl) ?_
      refine TO.s rfl rfl rfl (StepS.lenm rfl e0 ksliceB_34_3_1_true rfl) ?_
      refine TO.s rfl rfl rfl (StepS.cmp rfl rfl rfl) ?_
      refine TO.code ?_
      refine TC.cond rfl (fun hc7 => ?_) (fun hc7 => ?_)
      · replace hb6 := cond_t hc7 hb6
        refine TC.skipk ?_
        refine TC.k ?_
        refine TC.block ?_
        refine TC.k ?_
        refine TC.region_still kfollows_mixedOrders_true (by kernel_rfl) ?_
        refine TS.s rfl rfl rfl (StepS.move rfl) ?_
        refine TS.s rfl rfl rfl (StepS.move rfl) ?_
        obtain ⟨x8, hx9, hb6⟩ := bind_some hb6
        refine TS.s rfl rfl rfl (StepS.idx rfl rfl e0 ksliceB_34_3_1_true (idx_spec hx9).1 (idxm_lt hx9)) ?_
        refine TS.s rfl rfl rfl (StepS.ld0 rfl e0 kscalB_3_true rfl (idxm hx9) rfl) ?_
        refine TS.s rfl rfl rfl (StepS.move rfl) ?_
        refine TS.s rfl rfl rfl (StepS.move rfl) ?_
        obtain ⟨x10, hx11, hb6⟩ := bind_some hb6
        refine TS.s rfl rfl rfl (StepS.idx rfl rfl e1 ksliceB_34_3_1_true (idx_spec hx11).1 (idxm_lt hx11)) ?_
        refine TS.s rfl rfl rfl (StepS.ld0 rfl e1 kscalB_3_true rfl (idxm hx11) rfl) ?_
        refine TS.s rfl rfl rfl (StepS.cmp rfl rfl rfl) ?_
        refine TS.code ?_
        refine TC.cond rfl (fun hc12 => ?_) (fun hc12 => ?_)
        · replace hb6 := cond_t hc12 hb6
          refine TC.k ?_
          refine TC.region ?_
          refine TO.s rfl rfl rfl (StepS.assign rfl) ?_
          refine TO.code ?_
          cases hb6
          refine TC.ret fun a w e s => ?_
          refine FRet.mk1 (P := Try.prog) (fn := Try.f24) (t := 4) e rfl rfl ?_
          exact ⟨rfl, s.mono fun _ => Sat.dropN 0⟩
        · replace hb6 := cond_f hc12 hb6
          refine TC.skipk ?_
          refine TC.region ?_
          refine TO.s rfl rfl rfl (StepS.move rfl) ?_
          refine TO.s rfl rfl rfl (StepS.ari rfl rfl rfl) ?_
          refine TO.s rfl rfl rfl (StepS.assign rfl) ?_
          cases hb6
          refine TO.nil fun a w e s => ?_
          exact ⟨e.sub (lk_of_allIn ⟨rfl, rfl, rfl, trivial⟩), s⟩
      · replace hb6 := cond_f hc7 hb6
        cases hb6
        refine TC.exit rfl fun a w e s => ?_
        exact ⟨e.sub (lk_of_allIn trivial), s⟩
    · exact fun a w e s => ⟨e.sub (lk_of_allIn ⟨rfl, rfl, rfl, trivial⟩), s⟩
    · rintro _ rfl a w ⟨he, hs⟩
      dsimp only [Ctl.on] at hm
      refine TC.use ?_ he hs
      refine TC.k ?_
      refine TC.region ?_
      refine TO.s rfl rfl rfl (StepS.assign rfl) ?_
      refine TO.code ?_
      cases hm
      refine TC.ret fun a w e s => ?_
      refine FRet.mk1 (P := Try.prog) (fn := Try.f24) (t := 4) e rfl rfl ?_
      exact ⟨rfl, s.mono fun _ => Sat.dropN 0⟩
    · rintro r rfl
      cases hm
      exact fun a w h => h

set_option maxRecDepth 100000 in
theorem C7 {B : World} {L : List HP} {a0 : Int} {a1 : List (Int × Int × Int)} {h1 : Value} {r0 : Bool} (e1 : Ent L (Rd 3 h1 (a1.map cTiii))) (hm : F7 a0 a1 = some r0) {w : World} (st : St B L w) : Calls Try.prog 7 #[I a0, h1] w (fun e w' => (e = .returned (.bool r0) ∧ St B (L) w')) := by
  refine calls_of (N := 35) (L := L) (args := [I a0, h1]) Try.func7 rfl rfl rfl ?_ st
  dsimp only [F7] at hm
  refine TC.k ?_
  refine TC.region ?_
  refine TO.s rfl rfl rfl (StepS.assign rfl) ?_
  refine TO.code ?_
  refine TC.k ?_
  refine TC.region ?_
  refine TO.s rfl rfl rfl (StepS.move rfl) ?_
  refine TO.s rfl rfl rfl (StepS.move rfl) ?_
  obtain ⟨⟨r1, r2⟩, hc3, hm⟩ := bind_some hm
  refine TO.callO kcallB_23_true rfl rfl rfl (fun _ st => C23 e1 hc3 st) ?_
  rintro _ _ ⟨v4, rfl, rfl⟩
  refine TO.s rfl rfl rfl (StepS.move rfl) ?_
  refine TO.s rfl rfl rfl (StepS.extract rfl rfl) ?_
  refine TO.s rfl rfl rfl (StepS.extract rfl rfl) ?_
  refine TO.s rfl rfl rfl (StepS.assign rfl) ?_
  refine TO.s rfl rfl rfl (StepS.assign rfl) ?_
  refine TO.code ?_
  refine TC.k ?_
  refine TC.region ?_
  refine TO.s rfl rfl rfl (StepS.move rfl) ?_
  refine TO.s rfl rfl rfl (StepS.move rfl) ?_
  obtain ⟨r6, hc7, hm⟩ := bind_some hm
  refine TO.q rfl rfl rfl (StepQ.call kcallB_16_true rfl rfl (fun _ st => C16 e1.tl hc7 st)) ?_
  refine TO.s rfl rfl rfl (StepS.assign rfl) ?_
  refine TO.code ?_
  refine TC.k ?_
  refine TC.k ?_
  refine TC.region ?_
  refine TO.s rfl rfl rfl (StepS.move rfl) ?_
  refine TO.s rfl rfl rfl (StepS.cmp rfl rfl rfl) ?_
  refine TO.code ?_
  refine TC.cond rfl (fun hc8 => ?_) (fun hc8 => ?_)
  · replace hm := cond_t hc8 hm
    refine TC.k ?_
    refine TC.region ?_
    refine TO.s rfl rfl rfl (StepS.move rfl) ?_
    refine TO.s rfl rfl rfl (StepS.move rfl) ?_
    refine TO.s rfl rfl rfl (StepS.cmp rfl rfl rfl) ?_
    refine TO.s rfl rfl rfl (StepS.move rfl) ?_
    refine TO.mid1 4 26 (.bool ((r2 == r6) && ((r1.length : Int) == 0))) ?_ ?_
    · refine bcase ((r2 == r6)) (fun hb9 => ?_) (fun hb9 => ?_)
      · refine TO.sw rfl rfl rfl hb9 rfl rfl (StepS.move rfl) ?_
        refine TO.sw rfl rfl rfl hb9 rfl rfl (StepS.lenm rfl (OwnS.rd (Ent.at 0 rfl)) ksliceB_34_3_1_true rfl) ?_
        refine TO.sw rfl rfl rfl hb9 rfl rfl (StepS.cmp rfl rfl rfl) ?_
        refine TO.s rfl rfl rfl (StepS.pickT rfl hb9 rfl) ?_
        exact TO.up1 4 0 rfl rfl (by rw [hb9]; rfl) rfl
      · refine TO.skip rfl rfl rfl (skipF hb9) rfl rfl ?_
        refine TO.skip rfl rfl rfl (skipF hb9) rfl rfl ?_
        refine TO.skip rfl rfl rfl (skipF hb9) rfl rfl ?_
        refine TO.s rfl rfl rfl (StepS.pickF rfl hb9 rfl) ?_
        exact TO.up1 4 0 rfl rfl (by rw [hb9]; rfl) rfl
    refine TO.s rfl rfl rfl (StepS.assign rfl) ?_
    refine TO.code ?_
    cases hm
    refine TC.ret fun a w e s => ?_
    refine FRet.mk1 (P := Try.prog) (fn := Try.f7) (t := 4) e rfl rfl ?_
    exact ⟨rfl, s.mono fun _ => Sat.dropN 1⟩
  · replace hm := cond_f hc8 hm
    refine TC.skipk ?_
    refine TC.k ?_
    refine TC.region ?_
    refine TO.s rfl rfl rfl (StepS.move rfl) ?_
    refine TO.s rfl rfl rfl (StepS.cmp rfl rfl rfl) ?_
    refine TO.s rfl rfl rfl (StepS.move rfl) ?_
    obtain ⟨b11, hj12, hm⟩ := bind_some hm
    refine TO.mid1 5 34 (.bool b11) ?_ ?_
    · refine bcase ((r2 == 0)) (fun hb10 => ?_) (fun hb10 => ?_)
      · replace hj12 := cond_t hb10 hj12
        refine TO.sw rfl rfl rfl hb10 rfl rfl (StepS.move rfl) ?_
        refine TO.sw rfl rfl rfl hb10 rfl rfl (StepS.move rfl) ?_
        obtain ⟨r13, hc14, hj12⟩ := bind_some hj12
        refine TO.callOw rfl rfl hb10 kcallB_25_true rfl rfl rfl (fun _ st => C25 e1.tl hc14 st) ?_
        rintro v15 _ ⟨_, rfl, rfl⟩
        obtain ⟨r17, hc18, hj12⟩ := bind_some hj12
        refine TO.qw rfl rfl rfl hb10 rfl rfl (StepQ.call kcallB_24_true rfl rfl (fun _ st => C24 (OwnS.rd (Ent.at 1 rfl)) (OwnS.rd (Ent.at 0 rfl)) hc18 st)) ?_
        cases hj12
        refine TO.s rfl rfl rfl (StepS.pickT rfl hb10 rfl) ?_
        exact TO.up1 5 1 rfl rfl rfl rfl
      · replace hj12 := cond_f hb10 hj12
        cases hj12
        refine TO.skip rfl rfl rfl (skipF hb10) rfl rfl ?_
        refine TO.skip rfl rfl rfl (skipF hb10) rfl rfl ?_
        refine TO.skip rfl rfl rfl (skipF hb10) rfl rfl ?_
        refine TO.skip rfl rfl rfl (skipF hb10) rfl rfl ?_
        refine TO.s rfl rfl rfl (StepS.pickF rfl hb10 rfl) ?_
        exact TO.up1 5 0 rfl rfl rfl rfl
    refine TO.s rfl rfl rfl (StepS.assign rfl) ?_
    refine TO.code ?_
    cases hm
    refine TC.ret fun a w e s => ?_
    refine FRet.mk1 (P := Try.prog) (fn := Try.f7) (t := 4) e rfl rfl ?_
    exact ⟨rfl, s.mono fun _ => Sat.dropN 1⟩
end Go.Proofs.Ytmfidlalejdikaa
