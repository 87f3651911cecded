/-
  The walks: each Go function returns what its model says. Written by a program (gen.py).
-/
import Derived.Test.YtpeijfboikfcjaaProg
import Derived.KernelRfl
import Derived.Test.YtpeijfboikfcjaaSL
import Derived.Test.YtpeijfboikfcjaaAM
namespace Go.Proofs.Ytpeijfboikfcjaa
open Go Go.Bk
set_option linter.unusedVariables false
set_option linter.unnecessarySimpa false
theorem ksliceB_22_42_2_true : sliceB Try.prog 22 42 2 = true := by kernel_rfl
theorem kfollows_mixedOrders_true : Try.prog.follows .mixedOrders = true := by kernel_rfl
theorem kaggB_42_2_true : aggB Try.prog 42 2 = true := by kernel_rfl
theorem kunderlying_42_some_array_2_3 : Try.prog.underlying 42 = some (.array 2 3) := by kernel_rfl
theorem kunderlying_3_some_int_i64 : Try.prog.underlying 3 = some (.int .i64) := by kernel_rfl
theorem ksizeB_3_1_true : sizeB Try.prog 3 1 = true := by kernel_rfl
theorem kscalB_3_true : scalB Try.prog 3 = true := by kernel_rfl
theorem keqGuardType_depth_42_false : Try.prog.eqGuardType Try.prog.depth 42 = false := by kernel_rfl
theorem kcallB_23_true : callB Try.prog 23 = true := by kernel_rfl
theorem ksliceB_23_3_1_true : sliceB Try.prog 23 3 1 = true := by kernel_rfl
theorem kinfo_42_bind_zero_some_agg_I_0_I_0 : (Try.prog.info? 42).bind (·.zero) = some (.agg #[I 0, I 0]) := by kernel_rfl
theorem ksizeB_42_2_true : sizeB Try.prog 42 2 = true := by kernel_rfl
theorem karrB_42_2_3_1_true : arrB Try.prog 42 2 3 1 = true := by kernel_rfl
theorem kcallB_19_true : callB Try.prog 19 = true := by kernel_rfl
theorem kintB_58_u32_true : intB Try.prog 58 .u32 = true := by kernel_rfl
theorem kintB_61_u64_true : intB Try.prog 61 .u64 = true := by kernel_rfl
theorem kintB_52_u64_true : intB Try.prog 52 .u64 = true := by kernel_rfl
theorem kcallB_24_true : callB Try.prog 24 = true := by kernel_rfl
theorem kcallB_25_true : callB Try.prog 25 = true := by kernel_rfl
theorem kintB_3_i64_true : intB Try.prog 3 .i64 = true := by kernel_rfl
theorem kcallB_20_true : callB Try.prog 20 = true := by kernel_rfl
theorem kelemB_23_3_1_8_true : elemB Try.prog 23 3 1 8 = true := by kernel_rfl
theorem kinfo_3_bind_zero_some_I_0 : (Try.prog.info? 3).bind (·.zero) = some (I 0) := by kernel_rfl
theorem kfieldB_41_1_1_true : fieldB Try.prog 41 1 1 = true := by kernel_rfl
theorem kscalB_22_true : scalB Try.prog 22 = true := by kernel_rfl
theorem kelemB_22_42_2_16_true : elemB Try.prog 22 42 2 16 = true := by kernel_rfl
theorem ksizeB_22_1_true : sizeB Try.prog 22 1 = true := by kernel_rfl
theorem kfieldB_41_4_4_true : fieldB Try.prog 41 4 4 = true := by kernel_rfl
theorem kfieldB_41_3_3_true : fieldB Try.prog 41 3 3 = true := by kernel_rfl
theorem kscalB_23_true : scalB Try.prog 23 = true := by kernel_rfl
theorem kfieldB_41_0_0_true : fieldB Try.prog 41 0 0 = true := by kernel_rfl
theorem kscalB_38_true : scalB Try.prog 38 = true := by kernel_rfl
theorem ksliceB_38_23_1_true : sliceB Try.prog 38 23 1 = true := by kernel_rfl
theorem kcallB_13_true : callB Try.prog 13 = true := by kernel_rfl
theorem kfieldB_41_2_2_true : fieldB Try.prog 41 2 2 = true := by kernel_rfl
theorem kinfo_26_bind_zero_some_agg_slice_none_0_0_slice_none_0_0_bool_false_I_0 : (Try.prog.info? 26).bind (·.zero) = some (.agg #[.slice none 0 0, .slice none 0 0, .bool false, I 0]) := by kernel_rfl
theorem kcallB_10_true : callB Try.prog 10 = true := by kernel_rfl
theorem ksizeB_26_4_true : sizeB Try.prog 26 4 = true := by kernel_rfl
theorem kaggB_26_4_true : aggB Try.prog 26 4 = true := by kernel_rfl
theorem kelemB_38_23_1_24_true : elemB Try.prog 38 23 1 24 = true := by kernel_rfl
theorem kinfo_23_bind_zero_some_slice_none_0_0 : (Try.prog.info? 23).bind (·.zero) = some (.slice none 0 0) := by kernel_rfl
theorem kcallB_11_true : callB Try.prog 11 = true := by kernel_rfl
theorem ksizeB_23_1_true : sizeB Try.prog 23 1 = true := by kernel_rfl
theorem kcallB_12_true : callB Try.prog 12 = true := by kernel_rfl
theorem kelemB_24_27_1_8_true : elemB Try.prog 24 27 1 8 = true := by kernel_rfl
theorem kinfo_27_bind_zero_some_I_0 : (Try.prog.info? 27).bind (·.zero) = some (I 0) := by kernel_rfl
theorem kcallB_14_true : callB Try.prog 14 = true := by kernel_rfl
theorem kcallB_15_true : callB Try.prog 15 = true := by kernel_rfl
theorem ksliceB_24_27_1_true : sliceB Try.prog 24 27 1 = true := by kernel_rfl
theorem kscalB_27_true : scalB Try.prog 27 = true := by kernel_rfl

set_option maxRecDepth 100000 in
theorem C23 {B : World} {L : List HP} {a0 : List (Int × Int)} {a1 : Int × Int} {h0 : Value} {r0 : Int} (e0 : Ent L (Rd 2 h0 (a0.map cTii))) (hm : F23 a0 a1 = some r0) {w : World} (st : St B L w) : Calls Try.prog 23 #[h0, .agg (cTii a1).toArray] w (fun e w' => (e = .returned (I r0) ∧ St B (L) w')) := by
  refine calls_of (N := 19) (L := L) (args := [h0, .agg (cTii a1).toArray]) Try.func23 rfl rfl rfl ?_ st
  dsimp only [F23] at hm
  refine TC.k ?_
  refine TC.region ?_
  refine TO.box (cs := [I a1.1, I a1.2]) rfl rfl rfl fun b1 => ?_
  refine TO.s rfl rfl rfl (StepS.assign rfl) ?_
  refine TO.code ?_
  refine TC.k ?_
  refine TC.k ?_
  refine TC.region ?_
  refine TO.s rfl rfl rfl (StepS.move rfl) ?_
  refine TO.s rfl rfl rfl (StepS.lenm rfl e0.tl ksliceB_22_42_2_true rfl) ?_
  refine TO.s rfl rfl rfl (StepS.move rfl) ?_
  refine TO.code ?_
  obtain ⟨o4, hw5, hm⟩ := bind_some hm
  refine TC.loop hw5 (fun x2 => fun a w => Mid 19 B [(0, h0), (3, .pointer (some ⟨b1, 0, none⟩)), (7, I (a0.length : Int)), (8, I x2)] (Bx b1 42 [I a1.1, I a1.2] :: L) a w) (fun _ => fun a w => Mid 19 B [] (Bx b1 42 [I a1.1, I a1.2] :: L) a w) (fun r0 => FRet Try.prog Try.f23 (fun e w' => (e = .returned (I r0) ∧ St B (L) w'))) ?_ ?_ ?_ ?_
  · rintro x2 o4r hb6 a w ⟨he, hs⟩
    dsimp only [F23_L0] at hb6
    refine TC.use ?_ he hs
    refine TC.k ?_
    refine TC.region ?_
    refine TO.s rfl rfl rfl (StepS.cmp rfl rfl rfl) ?_
    refine TO.code ?_
    refine TC.k ?_
    refine TC.cond rfl (fun hc7 => ?_) (fun hc7 => ?_)
    · replace hb6 := cond_t hc7 hb6
      refine TC.skipk ?_
      refine TC.k ?_
      refine TC.block ?_
      refine TC.k ?_
      refine TC.region ?_
      refine TO.s rfl rfl rfl (StepS.move rfl) ?_
      refine TO.s rfl rfl rfl (StepS.assign rfl) ?_
      refine TO.code ?_
      refine TC.k ?_
      refine TC.region_still kfollows_mixedOrders_true (by kernel_rfl) ?_
      refine TS.s rfl rfl rfl (StepS.ldBA rfl (Ent.at 0 rfl) kaggB_42_2_true rfl rfl) ?_
      refine TS.s rfl rfl rfl (StepS.move rfl) ?_
      refine TS.s rfl rfl rfl (StepS.move rfl) ?_
      obtain ⟨x8, hx9, hb6⟩ := bind_some hb6
      refine TS.s rfl rfl rfl (StepS.idx rfl rfl e0.tl ksliceB_22_42_2_true (idx_spec hx9).1 (idxm_lt hx9)) ?_
      refine TS.s rfl rfl rfl (StepS.ldE rfl e0.tl kaggB_42_2_true rfl (idxm hx9)) ?_
      refine TS.s rfl rfl rfl (StepS.eq2 kunderlying_42_some_array_2_3 kunderlying_3_some_int_i64 ksizeB_3_1_true kscalB_3_true keqGuardType_depth_42_false rfl rfl) ?_
      refine TS.code ?_
      refine TC.cond rfl (fun hc10 => ?_) (fun hc10 => ?_)
      · replace hb6 := cond_t hc10 hb6
        refine TC.k ?_
        refine TC.region ?_
        refine TO.s rfl rfl rfl (StepS.move rfl) ?_
        refine TO.s rfl rfl rfl (StepS.assign rfl) ?_
        refine TO.code ?_
        cases hb6
        refine TC.ret fun a w e s => ?_
        refine FRet.mk1 (P := Try.prog) (fn := Try.f23) (t := 4) e rfl rfl ?_
        exact ⟨rfl, s.mono fun _ => Sat.dropN 1⟩
      · replace hb6 := cond_f hc10 hb6
        refine TC.skipk ?_
        refine TC.region ?_
        refine TO.s rfl rfl rfl (StepS.ari rfl rfl rfl) ?_
        refine TO.s rfl rfl rfl (StepS.move rfl) ?_
        cases hb6
        refine TO.nil fun a w e s => ?_
        exact ⟨e.sub (lk_of_allIn ⟨rfl, rfl, rfl, rfl, trivial⟩), s⟩
    · replace hb6 := cond_f hc7 hb6
      cases hb6
      refine TC.exit rfl fun a w e s => ?_
      exact ⟨e.sub (lk_of_allIn trivial), s⟩
  · exact fun a w e s => ⟨e.sub (lk_of_allIn ⟨rfl, rfl, rfl, rfl, trivial⟩), s⟩
  · rintro _ rfl a w ⟨he, hs⟩
    dsimp only [Ctl.on] at hm
    refine TC.use ?_ he hs
    refine TC.k ?_
    refine TC.region ?_
    refine TO.s rfl rfl rfl (StepS.assign rfl) ?_
    refine TO.code ?_
    cases hm
    refine TC.ret fun a w e s => ?_
    refine FRet.mk1 (P := Try.prog) (fn := Try.f23) (t := 4) e rfl rfl ?_
    exact ⟨rfl, s.mono fun _ => Sat.dropN 1⟩
  · rintro r rfl
    cases hm
    exact fun a w h => h

set_option maxRecDepth 100000 in
theorem C19 {B : World} {L : List HP} {a0 : List (Int × Int)} {a1 : Int × Int} {h0 : Value} {r0 : Bool} (e0 : Ent L (Rd 2 h0 (a0.map cTii))) (hm : F19 a0 a1 = some r0) {w : World} (st : St B L w) : Calls Try.prog 19 #[h0, .agg (cTii a1).toArray] w (fun e w' => (e = .returned (.bool r0) ∧ St B (L) w')) := by
  refine calls_of (N := 9) (L := L) (args := [h0, .agg (cTii a1).toArray]) Try.func19 rfl rfl rfl ?_ st
  dsimp only [F19] at hm
  refine TC.k ?_
  refine TC.region ?_
  refine TO.box (cs := [I a1.1, I a1.2]) rfl rfl rfl fun b1 => ?_
  refine TO.s rfl rfl rfl (StepS.assign rfl) ?_
  refine TO.code ?_
  refine TC.k ?_
  refine TC.region ?_
  refine TO.s rfl rfl rfl (StepS.move rfl) ?_
  refine TO.s rfl rfl rfl (StepS.ldBA rfl (Ent.at 0 rfl) kaggB_42_2_true rfl rfl) ?_
  obtain ⟨r2, hc3, hm⟩ := bind_some hm
  refine TO.q rfl rfl rfl (StepQ.call kcallB_23_true rfl rfl (fun _ st => C23 e0.tl hc3 st)) ?_
  refine TO.s rfl rfl rfl (StepS.cmp rfl rfl rfl) ?_
  refine TO.s rfl rfl rfl (StepS.assign rfl) ?_
  refine TO.code ?_
  cases hm
  refine TC.ret fun a w e s => ?_
  refine FRet.mk1 (P := Try.prog) (fn := Try.f19) (t := 4) e rfl rfl ?_
  exact ⟨rfl, s.mono fun _ => Sat.dropN 1⟩

set_option maxRecDepth 100000 in
theorem C10 {B : World} {L : List HP} {a0 : Int} {a1 : List (Int × Int)} {a2 : Int} {a3 : List Int} {h1 : Value} {h3 : Value} {r0 : Int} (e1 : Ent L (Rd 2 h1 (a1.map cTii))) (e3 : Ent L (Rd 1 h3 (a3.map cI))) (hm : F10 a0 a1 a2 a3 = some r0) {w : World} (st : St B L w) : Calls Try.prog 10 #[I a0, h1, I a2, h3] w (fun e w' => (e = .returned (I r0) ∧ St B (L) w')) := by
  refine calls_of (N := 89) (L := L) (args := [I a0, h1, I a2, h3]) Try.func10 rfl rfl rfl ?_ st
  dsimp only [F10] at hm
  refine TC.k ?_
  refine TC.region ?_
  refine TO.s rfl rfl rfl (StepS.assign rfl) ?_
  refine TO.code ?_
  refine TC.k ?_
  refine TC.k ?_
  refine TC.region ?_
  refine TO.s rfl rfl rfl (StepS.move rfl) ?_
  refine TO.s rfl rfl rfl (StepS.cmp rfl rfl rfl) ?_
  refine TO.s rfl rfl rfl (StepS.move rfl) ?_
  refine TO.mid1 3 18 (.bool ((decide (a0 < 1)) || (decide (a0 > 6)))) ?_ ?_
  · refine bcase ((decide (a0 < 1))) (fun hb1 => ?_) (fun hb1 => ?_)
    · refine TO.skip rfl rfl rfl (skipT hb1) rfl rfl ?_
      refine TO.skip rfl rfl rfl (skipT hb1) rfl rfl ?_
      refine TO.s rfl rfl rfl (StepS.pickT rfl hb1 rfl) ?_
      exact TO.up1 3 0 rfl rfl (by rw [hb1]; rfl) rfl
    · refine TO.sw rfl rfl rfl hb1 rfl rfl (StepS.move rfl) ?_
      refine TO.sw rfl rfl rfl hb1 rfl rfl (StepS.cmp rfl rfl rfl) ?_
      refine TO.s rfl rfl rfl (StepS.pickF rfl hb1 rfl) ?_
      exact TO.up1 3 0 rfl rfl (by rw [hb1]; rfl) rfl
  refine TO.s rfl rfl rfl (StepS.move rfl) ?_
  refine TO.mid1 4 23 (.bool (((decide (a0 < 1)) || (decide (a0 > 6))) || (decide ((a1.length : Int) > 15)))) ?_ ?_
  · refine bcase (((decide (a0 < 1)) || (decide (a0 > 6)))) (fun hb2 => ?_) (fun hb2 => ?_)
    · refine TO.skip rfl rfl rfl (skipT hb2) rfl rfl ?_
      refine TO.skip rfl rfl rfl (skipT hb2) rfl rfl ?_
      refine TO.skip rfl rfl rfl (skipT hb2) rfl rfl ?_
      refine TO.s rfl rfl rfl (StepS.pickT rfl hb2 rfl) ?_
      exact TO.up1 4 0 rfl rfl (by rw [hb2]; rfl) rfl
    · refine TO.sw rfl rfl rfl hb2 rfl rfl (StepS.move rfl) ?_
      refine TO.sw rfl rfl rfl hb2 rfl rfl (StepS.lenm rfl e1 ksliceB_22_42_2_true rfl) ?_
      refine TO.sw rfl rfl rfl hb2 rfl rfl (StepS.cmp rfl rfl rfl) ?_
      refine TO.s rfl rfl rfl (StepS.pickF rfl hb2 rfl) ?_
      exact TO.up1 4 0 rfl rfl (by rw [hb2]; rfl) rfl
  refine TO.s rfl rfl rfl (StepS.move rfl) ?_
  refine TO.mid1 4 28 (.bool ((((decide (a0 < 1)) || (decide (a0 > 6))) || (decide ((a1.length : Int) > 15))) || (decide ((a3.length : Int) > 60)))) ?_ ?_
  · refine bcase ((((decide (a0 < 1)) || (decide (a0 > 6))) || (decide ((a1.length : Int) > 15)))) (fun hb3 => ?_) (fun hb3 => ?_)
    · refine TO.skip rfl rfl rfl (skipT hb3) rfl rfl ?_
      refine TO.skip rfl rfl rfl (skipT hb3) rfl rfl ?_
      refine TO.skip rfl rfl rfl (skipT hb3) rfl rfl ?_
      refine TO.s rfl rfl rfl (StepS.pickT rfl hb3 rfl) ?_
      exact TO.up1 4 0 rfl rfl (by rw [hb3]; rfl) rfl
    · refine TO.sw rfl rfl rfl hb3 rfl rfl (StepS.move rfl) ?_
      refine TO.sw rfl rfl rfl hb3 rfl rfl (StepS.lenm rfl e3 ksliceB_23_3_1_true rfl) ?_
      refine TO.sw rfl rfl rfl hb3 rfl rfl (StepS.cmp rfl rfl rfl) ?_
      refine TO.s rfl rfl rfl (StepS.pickF rfl hb3 rfl) ?_
      exact TO.up1 4 0 rfl rfl (by rw [hb3]; rfl) rfl
  refine TO.code ?_
  refine TC.cond rfl (fun hc4 => ?_) (fun hc4 => ?_)
  · replace hm := cond_t hc4 hm
    refine TC.k ?_
    refine TC.region ?_
    refine TO.s rfl rfl rfl (StepS.assign rfl) ?_
    refine TO.code ?_
    cases hm
    refine TC.ret fun a w e s => ?_
    refine FRet.mk1 (P := Try.prog) (fn := Try.f10) (t := 8) e rfl rfl ?_
    exact ⟨rfl, s.mono fun _ => Sat.dropN 0⟩
  · replace hm := cond_f hc4 hm
    refine TC.skipk ?_
    refine TC.k ?_
    refine TC.k ?_
    refine TC.region ?_
    refine TO.s rfl rfl rfl (StepS.move rfl) ?_
    refine TO.s rfl rfl rfl (StepS.lenm rfl e1 ksliceB_22_42_2_true rfl) ?_
    refine TO.s rfl rfl rfl (StepS.move rfl) ?_
    refine TO.code ?_
    obtain ⟨o7, hw8, hm⟩ := bind_some hm
    refine TC.loop hw8 (fun x5 => fun a w => Mid 89 B [(0, I a0), (1, h1), (2, I a2), (29, h1), (30, I (a1.length : Int)), (31, I x5)] (L) a w) (fun _ => fun a w => Mid 89 B [(0, I a0), (1, h1), (2, I a2)] (L) a w) (fun r0 => FRet Try.prog Try.f10 (fun e w' => (e = .returned (I r0) ∧ St B (L) w'))) ?_ ?_ ?_ ?_
    · rintro x5 o7r hb9 a w ⟨he, hs⟩
      dsimp only [F10_L0] at hb9
      refine TC.use ?_ he hs
      refine TC.k ?_
      refine TC.region ?_
      refine TO.s rfl rfl rfl (StepS.cmp rfl rfl rfl) ?_
      refine TO.code ?_
      refine TC.k ?_
      refine TC.cond rfl (fun hc10 => ?_) (fun hc10 => ?_)
      · replace hb9 := cond_t hc10 hb9
        refine TC.skipk ?_
        refine TC.k ?_
        refine TC.block ?_
        refine TC.k ?_
        refine TC.region ?_
        obtain ⟨x11, hx12, hb9⟩ := bind_some hb9
        refine TO.s rfl rfl rfl (StepS.idx rfl rfl e1 ksliceB_22_42_2_true (idx_spec hx12).1 (idxm_lt hx12)) ?_
        refine TO.s rfl rfl rfl (StepS.ldE rfl e1 kaggB_42_2_true rfl (idxm hx12)) ?_
        refine TO.alloc kinfo_42_bind_zero_some_agg_I_0_I_0 rfl rfl fun b13 => ?_
        refine TO.stB (us := [I x11.1, I x11.2]) 0 [I x11.1, I x11.2] rfl rfl rfl ksizeB_42_2_true rfl rfl rfl (by simp [Value.oneCell']) rfl ?_
        refine TO.code ?_
        refine TC.k ?_
        refine TC.region ?_
        refine TO.s rfl rfl rfl (StepS.aidx (j := 0) rfl rfl karrB_42_2_3_1_true ⟨by decide, by decide⟩ rfl) ?_
        refine TO.s rfl rfl rfl (StepS.ldB rfl (Ent.at 0 rfl) kscalB_3_true rfl) ?_
        refine TO.s rfl rfl rfl (StepS.aidx (j := 1) rfl rfl karrB_42_2_3_1_true ⟨by decide, by decide⟩ rfl) ?_
        refine TO.s rfl rfl rfl (StepS.ldB rfl (Ent.at 0 rfl) kscalB_3_true rfl) ?_
        refine TO.s rfl rfl rfl (StepS.min2 rfl rfl) ?_
        refine TO.s rfl rfl rfl (StepS.cmp rfl rfl rfl) ?_
        refine TO.s rfl rfl rfl (StepS.move rfl) ?_
        refine TO.mid1 8 49 (.bool ((decide ((mn x11.1 x11.2) < 0)) || (decide ((mx x11.1 x11.2) ≥ a0)))) ?_ ?_
        · refine bcase ((decide ((mn x11.1 x11.2) < 0))) (fun hb14 => ?_) (fun hb14 => ?_)
          · refine TO.skip rfl rfl rfl (skipT hb14) rfl rfl ?_
            refine TO.skip rfl rfl rfl (skipT hb14) rfl rfl ?_
            refine TO.skip rfl rfl rfl (skipT hb14) rfl rfl ?_
            refine TO.skip rfl rfl rfl (skipT hb14) rfl rfl ?_
            refine TO.skip rfl rfl rfl (skipT hb14) rfl rfl ?_
            refine TO.skip rfl rfl rfl (skipT hb14) rfl rfl ?_
            refine TO.skip rfl rfl rfl (skipT hb14) rfl rfl ?_
            refine TO.s rfl rfl rfl (StepS.pickT rfl hb14 rfl) ?_
            exact TO.up1 8 0 rfl rfl (by rw [hb14]; rfl) rfl
          · refine TO.sw rfl rfl rfl hb14 rfl rfl (StepS.aidx (j := 0) rfl rfl karrB_42_2_3_1_true ⟨by decide, by decide⟩ rfl) ?_
            refine TO.sw rfl rfl rfl hb14 rfl rfl (StepS.ldB rfl (Ent.at 0 rfl) kscalB_3_true rfl) ?_
            refine TO.sw rfl rfl rfl hb14 rfl rfl (StepS.aidx (j := 1) rfl rfl karrB_42_2_3_1_true ⟨by decide, by decide⟩ rfl) ?_
            refine TO.sw rfl rfl rfl hb14 rfl rfl (StepS.ldB rfl (Ent.at 0 rfl) kscalB_3_true rfl) ?_
            refine TO.sw rfl rfl rfl hb14 rfl rfl (StepS.max2 rfl rfl) ?_
            refine TO.sw rfl rfl rfl hb14 rfl rfl (StepS.move rfl) ?_
            refine TO.sw rfl rfl rfl hb14 rfl rfl (StepS.cmp rfl rfl rfl) ?_
            refine TO.s rfl rfl rfl (StepS.pickF rfl hb14 rfl) ?_
            exact TO.up1 8 0 rfl rfl (by rw [hb14]; rfl) rfl
        refine TO.s rfl rfl rfl (StepS.move rfl) ?_
        refine TO.mid1 6 56 (.bool (((decide ((mn x11.1 x11.2) < 0)) || (decide ((mx x11.1 x11.2) ≥ a0))) || (x11.1 == x11.2))) ?_ ?_
        · refine bcase (((decide ((mn x11.1 x11.2) < 0)) || (decide ((mx x11.1 x11.2) ≥ a0)))) (fun hb15 => ?_) (fun hb15 => ?_)
          · refine TO.skip rfl rfl rfl (skipT hb15) rfl rfl ?_
            refine TO.skip rfl rfl rfl (skipT hb15) rfl rfl ?_
            refine TO.skip rfl rfl rfl (skipT hb15) rfl rfl ?_
            refine TO.skip rfl rfl rfl (skipT hb15) rfl rfl ?_
            refine TO.skip rfl rfl rfl (skipT hb15) rfl rfl ?_
            refine TO.s rfl rfl rfl (StepS.pickT rfl hb15 rfl) ?_
            exact TO.up1 6 0 rfl rfl (by rw [hb15]; rfl) rfl
          · refine TO.sw rfl rfl rfl hb15 rfl rfl (StepS.aidx (j := 0) rfl rfl karrB_42_2_3_1_true ⟨by decide, by decide⟩ rfl) ?_
            refine TO.sw rfl rfl rfl hb15 rfl rfl (StepS.ldB rfl (Ent.at 0 rfl) kscalB_3_true rfl) ?_
            refine TO.sw rfl rfl rfl hb15 rfl rfl (StepS.aidx (j := 1) rfl rfl karrB_42_2_3_1_true ⟨by decide, by decide⟩ rfl) ?_
            refine TO.sw rfl rfl rfl hb15 rfl rfl (StepS.ldB rfl (Ent.at 0 rfl) kscalB_3_true rfl) ?_
            refine TO.sw rfl rfl rfl hb15 rfl rfl (StepS.cmp rfl rfl rfl) ?_
            refine TO.s rfl rfl rfl (StepS.pickF rfl hb15 rfl) ?_
            exact TO.up1 6 0 rfl rfl (by rw [hb15]; rfl) rfl
        refine TO.code ?_
        refine TC.cond rfl (fun hc16 => ?_) (fun hc16 => ?_)
        · replace hb9 := cond_t hc16 hb9
          refine TC.k ?_
          refine TC.region ?_
          refine TO.s rfl rfl rfl (StepS.assign rfl) ?_
          refine TO.code ?_
          cases hb9
          refine TC.ret fun a w e s => ?_
          refine FRet.mk1 (P := Try.prog) (fn := Try.f10) (t := 8) e rfl rfl ?_
          exact ⟨rfl, s.mono fun _ => Sat.dropN 1⟩
        · replace hb9 := cond_f hc16 hb9
          refine TC.skipk ?_
          refine TC.region ?_
          refine TO.s rfl rfl rfl (StepS.ari rfl rfl rfl) ?_
          refine TO.s rfl rfl rfl (StepS.move rfl) ?_
          cases hb9
          refine TO.nil fun a w e s => ?_
          exact ⟨e.sub (lk_of_allIn ⟨rfl, rfl, rfl, rfl, rfl, rfl, trivial⟩), s.mono fun _ => Sat.dropN 1⟩
      · replace hb9 := cond_f hc10 hb9
        cases hb9
        refine TC.exit rfl fun a w e s => ?_
        exact ⟨e.sub (lk_of_allIn ⟨rfl, rfl, rfl, trivial⟩), s⟩
    · exact fun a w e s => ⟨e.sub (lk_of_allIn ⟨rfl, rfl, rfl, rfl, rfl, rfl, trivial⟩), s⟩
    · rintro _ rfl a w ⟨he, hs⟩
      dsimp only [Ctl.on] at hm
      refine TC.use ?_ he hs
      refine TC.k ?_
      refine TC.k ?_
      refine TC.region ?_
      refine TO.s rfl rfl rfl (StepS.move rfl) ?_
      refine TO.s rfl rfl rfl (StepS.cmp rfl rfl rfl) ?_
      refine TO.s rfl rfl rfl (StepS.move rfl) ?_
      refine TO.mid1 4 64 (.bool ((decide (a2 < 0)) || (decide (a2 ≥ a0)))) ?_ ?_
      · refine bcase ((decide (a2 < 0))) (fun hb17 => ?_) (fun hb17 => ?_)
        · refine TO.skip rfl rfl rfl (skipT hb17) rfl rfl ?_
          refine TO.skip rfl rfl rfl (skipT hb17) rfl rfl ?_
          refine TO.skip rfl rfl rfl (skipT hb17) rfl rfl ?_
          refine TO.s rfl rfl rfl (StepS.pickT rfl hb17 rfl) ?_
          exact TO.up1 4 0 rfl rfl (by rw [hb17]; rfl) rfl
        · refine TO.sw rfl rfl rfl hb17 rfl rfl (StepS.move rfl) ?_
          refine TO.sw rfl rfl rfl hb17 rfl rfl (StepS.move rfl) ?_
          refine TO.sw rfl rfl rfl hb17 rfl rfl (StepS.cmp rfl rfl rfl) ?_
          refine TO.s rfl rfl rfl (StepS.pickF rfl hb17 rfl) ?_
          exact TO.up1 4 0 rfl rfl (by rw [hb17]; rfl) rfl
      refine TO.code ?_
      refine TC.cond rfl (fun hc18 => ?_) (fun hc18 => ?_)
      · replace hm := cond_t hc18 hm
        refine TC.k ?_
        refine TC.region ?_
        refine TO.s rfl rfl rfl (StepS.assign rfl) ?_
        refine TO.code ?_
        cases hm
        refine TC.ret fun a w e s => ?_
        refine FRet.mk1 (P := Try.prog) (fn := Try.f10) (t := 8) e rfl rfl ?_
        exact ⟨rfl, s.mono fun _ => Sat.dropN 0⟩
      · replace hm := cond_f hc18 hm
        refine TC.skipk ?_
        refine TC.k ?_
        refine TC.k ?_
        refine TC.region ?_
        refine TO.s rfl rfl rfl (StepS.move rfl) ?_
        refine TO.s rfl rfl rfl (StepS.lenm rfl e1 ksliceB_22_42_2_true rfl) ?_
        refine TO.s rfl rfl rfl (StepS.move rfl) ?_
        refine TO.code ?_
        obtain ⟨o21, hw22, hm⟩ := bind_some hm
        refine TC.loop hw22 (fun x19 => fun a w => Mid 89 B [(1, h1), (65, h1), (66, I (a1.length : Int)), (67, I x19)] (L) a w) (fun _ => fun a w => Mid 89 B [] (L) a w) (fun r0 => FRet Try.prog Try.f10 (fun e w' => (e = .returned (I r0) ∧ St B (L) w'))) ?_ ?_ ?_ ?_
        · rintro x19 o21r hb23 a w ⟨he, hs⟩
          dsimp only [F10_L1] at hb23
          refine TC.use ?_ he hs
          refine TC.k ?_
          refine TC.region ?_
          refine TO.s rfl rfl rfl (StepS.cmp rfl rfl rfl) ?_
          refine TO.code ?_
          refine TC.k ?_
          refine TC.cond rfl (fun hc24 => ?_) (fun hc24 => ?_)
          · replace hb23 := cond_t hc24 hb23
            refine TC.skipk ?_
            refine TC.k ?_
            refine TC.block ?_
            refine TC.k ?_
            refine TC.region ?_
            refine TO.s rfl rfl rfl (StepS.move rfl) ?_
            obtain ⟨x25, hx26, hb23⟩ := bind_some hb23
            refine TO.s rfl rfl rfl (StepS.idx rfl rfl e1 ksliceB_22_42_2_true (idx_spec hx26).1 (idxm_lt hx26)) ?_
            refine TO.s rfl rfl rfl (StepS.ldE rfl e1 kaggB_42_2_true rfl (idxm hx26)) ?_
            refine TO.alloc kinfo_42_bind_zero_some_agg_I_0_I_0 rfl rfl fun b27 => ?_
            refine TO.s rfl rfl rfl (StepS.assign rfl) ?_
            refine TO.stB (us := [I x25.1, I x25.2]) 0 [I x25.1, I x25.2] rfl rfl rfl ksizeB_42_2_true rfl rfl rfl (by simp [Value.oneCell']) rfl ?_
            refine TO.code ?_
            refine TC.k ?_
            refine TC.region_quiet kfollows_mixedOrders_true (by kernel_rfl) ?_
            refine TQ.s rfl rfl rfl (StepS.move rfl).q ?_
            refine TQ.s rfl rfl rfl (StepS.move rfl).q ?_
            obtain ⟨y28, hs29, hb23⟩ := bind_some hb23
            obtain ⟨hs29a, hs29b, hs29c, _⟩ := slI_spec hs29
            refine TQ.s rfl rfl rfl (StepS.slc rfl e1.tl ksliceB_22_42_2_true rfl rfl hs29a hs29b (by simpa using hs29c)).q ?_
            refine TQ.s rfl rfl rfl (StepS.ldBA rfl (Ent.at 0 rfl) kaggB_42_2_true rfl rfl).q ?_
            obtain ⟨r31, hc32, hb23⟩ := bind_some hb23
            refine TQ.s rfl rfl rfl (StepQ.call kcallB_19_true rfl rfl (fun _ st => C19 (Ent.sub e1.tl hs29) hc32 st)) ?_
            refine TQ.s rfl rfl rfl (StepS.move rfl).q ?_
            obtain ⟨b34, hj35, hb23⟩ := bind_some hb23
            refine TQ.mid1 10 87 (.bool b34) ?_ ?_
            · refine bcase (r31) (fun hb33 => ?_) (fun hb33 => ?_)
              · replace hj35 := cond_t hb33 hj35
                cases hj35
                refine TQ.skip rfl rfl rfl (skipT hb33) rfl rfl ?_
                refine TQ.skip rfl rfl rfl (skipT hb33) rfl rfl ?_
                refine TQ.skip rfl rfl rfl (skipT hb33) rfl rfl ?_
                refine TQ.skip rfl rfl rfl (skipT hb33) rfl rfl ?_
                refine TQ.skip rfl rfl rfl (skipT hb33) rfl rfl ?_
                refine TQ.skip rfl rfl rfl (skipT hb33) rfl rfl ?_
                refine TQ.skip rfl rfl rfl (skipT hb33) rfl rfl ?_
                refine TQ.skip rfl rfl rfl (skipT hb33) rfl rfl ?_
                refine TQ.skip rfl rfl rfl (skipT hb33) rfl rfl ?_
                refine TQ.s rfl rfl rfl (StepS.pickT rfl hb33 rfl).q ?_
                exact TQ.up1 10 0 rfl rfl rfl rfl
              · replace hj35 := cond_f hb33 hj35
                refine TQ.sw rfl rfl rfl hb33 rfl rfl (StepS.move rfl).q ?_
                refine TQ.sw rfl rfl rfl hb33 rfl rfl (StepS.move rfl).q ?_
                obtain ⟨y36, hs37, hj35⟩ := bind_some hj35
                obtain ⟨hs37a, hs37b, hs37c, _⟩ := slI_spec hs37
                refine TQ.sw rfl rfl rfl hb33 rfl rfl (StepS.slc rfl e1.tl ksliceB_22_42_2_true rfl rfl hs37a hs37b (by simpa using hs37c)).q ?_
                refine TQ.sw rfl rfl rfl hb33 rfl rfl (StepS.aidx (j := 1) rfl rfl karrB_42_2_3_1_true ⟨by decide, by decide⟩ rfl).q ?_
                refine TQ.sw rfl rfl rfl hb33 rfl rfl (StepS.ldB rfl (Ent.at 0 rfl) kscalB_3_true rfl).q ?_
                refine TQ.sw rfl rfl rfl hb33 rfl rfl (StepS.aidx (j := 0) rfl rfl karrB_42_2_3_1_true ⟨by decide, by decide⟩ rfl).q ?_
                refine TQ.sw rfl rfl rfl hb33 rfl rfl (StepS.ldB rfl (Ent.at 0 rfl) kscalB_3_true rfl).q ?_
                refine TQ.sw rfl rfl rfl hb33 rfl rfl (StepS.build (cs := [I x25.2, I x25.1]) rfl (by kernel_rfl)).q ?_
                obtain ⟨r39, hc40, hj35⟩ := bind_some hj35
                refine TQ.sw rfl rfl rfl hb33 rfl rfl (StepQ.call kcallB_19_true rfl rfl (fun _ st => C19 (Ent.sub e1.tl hs37) hc40 st)) ?_
                cases hj35
                refine TQ.s rfl rfl rfl (StepS.pickF rfl hb33 rfl).q ?_
                exact TQ.up1 10 0 rfl rfl rfl rfl
            refine TQ.code ?_
            refine TC.cond rfl (fun hc41 => ?_) (fun hc41 => ?_)
            · replace hb23 := cond_t hc41 hb23
              refine TC.k ?_
              refine TC.region ?_
              refine TO.s rfl rfl rfl (StepS.assign rfl) ?_
              refine TO.code ?_
              cases hb23
              refine TC.ret fun a w e s => ?_
              refine FRet.mk1 (P := Try.prog) (fn := Try.f10) (t := 8) e rfl rfl ?_
              exact ⟨rfl, s.mono fun _ => Sat.dropN 1⟩
            · replace hb23 := cond_f hc41 hb23
              refine TC.skipk ?_
              refine TC.region ?_
              refine TO.s rfl rfl rfl (StepS.ari rfl rfl rfl) ?_
              refine TO.s rfl rfl rfl (StepS.move rfl) ?_
              cases hb23
              refine TO.nil fun a w e s => ?_
              exact ⟨e.sub (lk_of_allIn ⟨rfl, rfl, rfl, rfl, trivial⟩), s.mono fun _ => Sat.dropN 1⟩
          · replace hb23 := cond_f hc24 hb23
            cases hb23
            refine TC.exit rfl fun a w e s => ?_
            exact ⟨e.sub (lk_of_allIn trivial), s⟩
        · exact fun a w e s => ⟨e.sub (lk_of_allIn ⟨rfl, rfl, rfl, rfl, trivial⟩), s⟩
        · rintro _ rfl a w ⟨he, hs⟩
          dsimp only [Ctl.on] at hm
          refine TC.use ?_ he hs
          refine TC.k ?_
          refine TC.region ?_
          refine TO.s rfl rfl rfl (StepS.assign rfl) ?_
          refine TO.code ?_
          cases hm
          refine TC.ret fun a w e s => ?_
          refine FRet.mk1 (P := Try.prog) (fn := Try.f10) (t := 8) e rfl rfl ?_
          exact ⟨rfl, s.mono fun _ => Sat.dropN 0⟩
        · rintro r rfl
          cases hm
          exact fun a w h => h
    · rintro r rfl
      cases hm
      exact fun a w h => h

set_option maxRecDepth 100000 in
theorem C24 {B : World} {L : List HP} {a0 : BitVec 32} {a1 : BitVec 32} {r0 : BitVec 32} {r1 : BitVec 32} (hm : F24 a0 a1 = some (r0, r1)) {w : World} (st : St B L w) : Calls Try.prog 24 #[U a0, U a1] w (fun e w' => (e = .returned (.tuple #[U r0, U r1]) ∧ St B (L) w')) := by
  refine calls_of (N := 17) (L := L) (args := [U a0, U a1]) Try.func24 rfl rfl rfl ?_ st
  dsimp only [F24] at hm
  refine TC.k ?_
  refine TC.region ?_
  refine TO.s rfl rfl rfl (StepS.assign rfl) ?_
  refine TO.s rfl rfl rfl (StepS.assign rfl) ?_
  refine TO.code ?_
  refine TC.k ?_
  refine TC.region ?_
  refine TO.s rfl rfl rfl (StepS.move rfl) ?_
  refine TO.s rfl rfl rfl (StepS.cvUV kintB_58_u32_true kintB_61_u64_true rfl) ?_
  refine TO.s rfl rfl rfl (StepS.move rfl) ?_
  refine TO.s rfl rfl rfl (StepS.cvUV kintB_58_u32_true kintB_61_u64_true rfl) ?_
  refine TO.s rfl rfl rfl (StepS.ariV rfl rfl rfl) ?_
  refine TO.s rfl rfl rfl (StepS.assign rfl) ?_
  refine TO.code ?_
  refine TC.k ?_
  refine TC.region ?_
  refine TO.s rfl rfl rfl (StepS.move rfl) ?_
  refine TO.s rfl rfl rfl (StepS.shrV rfl rfl (by decide)) ?_
  refine TO.s rfl rfl rfl (StepS.cvVU kintB_61_u64_true kintB_58_u32_true rfl) ?_
  refine TO.s rfl rfl rfl (StepS.move rfl) ?_
  refine TO.s rfl rfl rfl (StepS.cvVU kintB_61_u64_true kintB_58_u32_true rfl) ?_
  refine TO.s rfl rfl rfl (StepS.assign rfl) ?_
  refine TO.s rfl rfl rfl (StepS.assign rfl) ?_
  refine TO.code ?_
  cases hm
  refine TC.ret fun a w e s => ?_
  refine FRet.mk2 (P := Try.prog) (fn := Try.f24) (t := 4) (u := 5) e rfl rfl rfl ?_
  exact ⟨rfl, s.mono fun _ => Sat.dropN 0⟩

set_option maxRecDepth 100000 in
theorem C25 {B : World} {L : List HP} {a0 : Int} {a1 : Int} {r0 : Int} {r1 : Int} (hm : F25 a0 a1 = some (r0, r1)) {w : World} (st : St B L w) : Calls Try.prog 25 #[.int .u64 a0, .int .u64 a1] w (fun e w' => (e = .returned (.tuple #[.int .u64 r0, .int .u64 r1]) ∧ St B (L) w')) := by
  refine calls_of (N := 51) (L := L) (args := [.int .u64 a0, .int .u64 a1]) Try.func25 rfl rfl rfl ?_ st
  dsimp only [F25] at hm
  refine TC.k ?_
  refine TC.region ?_
  refine TO.s rfl rfl rfl (StepS.assign rfl) ?_
  refine TO.s rfl rfl rfl (StepS.assign rfl) ?_
  refine TO.code ?_
  refine TC.k ?_
  refine TC.region ?_
  refine TO.s rfl rfl rfl (StepS.move rfl) ?_
  refine TO.s rfl rfl rfl (StepS.andV rfl rfl) ?_
  refine TO.s rfl rfl rfl (StepS.assign rfl) ?_
  refine TO.code ?_
  refine TC.k ?_
  refine TC.region ?_
  refine TO.s rfl rfl rfl (StepS.move rfl) ?_
  refine TO.s rfl rfl rfl (StepS.shrV rfl rfl (by decide)) ?_
  refine TO.s rfl rfl rfl (StepS.assign rfl) ?_
  refine TO.code ?_
  refine TC.k ?_
  refine TC.region ?_
  refine TO.s rfl rfl rfl (StepS.move rfl) ?_
  refine TO.s rfl rfl rfl (StepS.andV rfl rfl) ?_
  refine TO.s rfl rfl rfl (StepS.assign rfl) ?_
  refine TO.code ?_
  refine TC.k ?_
  refine TC.region ?_
  refine TO.s rfl rfl rfl (StepS.move rfl) ?_
  refine TO.s rfl rfl rfl (StepS.shrV rfl rfl (by decide)) ?_
  refine TO.s rfl rfl rfl (StepS.assign rfl) ?_
  refine TO.code ?_
  refine TC.k ?_
  refine TC.region ?_
  refine TO.s rfl rfl rfl (StepS.move rfl) ?_
  refine TO.s rfl rfl rfl (StepS.move rfl) ?_
  refine TO.s rfl rfl rfl (StepS.ariV rfl rfl rfl) ?_
  refine TO.s rfl rfl rfl (StepS.assign rfl) ?_
  refine TO.code ?_
  refine TC.k ?_
  refine TC.region ?_
  refine TO.s rfl rfl rfl (StepS.move rfl) ?_
  refine TO.s rfl rfl rfl (StepS.move rfl) ?_
  refine TO.s rfl rfl rfl (StepS.ariV rfl rfl rfl) ?_
  refine TO.s rfl rfl rfl (StepS.move rfl) ?_
  refine TO.s rfl rfl rfl (StepS.shrV rfl rfl (by decide)) ?_
  refine TO.s rfl rfl rfl (StepS.ariV rfl rfl rfl) ?_
  refine TO.s rfl rfl rfl (StepS.assign rfl) ?_
  refine TO.code ?_
  refine TC.k ?_
  refine TC.region ?_
  refine TO.s rfl rfl rfl (StepS.move rfl) ?_
  refine TO.s rfl rfl rfl (StepS.andV rfl rfl) ?_
  refine TO.s rfl rfl rfl (StepS.assign rfl) ?_
  refine TO.code ?_
  refine TC.k ?_
  refine TC.region ?_
  refine TO.s rfl rfl rfl (StepS.move rfl) ?_
  refine TO.s rfl rfl rfl (StepS.shrV rfl rfl (by decide)) ?_
  refine TO.s rfl rfl rfl (StepS.assign rfl) ?_
  refine TO.code ?_
  refine TC.k ?_
  refine TC.region ?_
  refine TO.s rfl rfl rfl (StepS.move rfl) ?_
  refine TO.s rfl rfl rfl (StepS.move rfl) ?_
  refine TO.s rfl rfl rfl (StepS.move rfl) ?_
  refine TO.s rfl rfl rfl (StepS.ariV rfl rfl rfl) ?_
  refine TO.s rfl rfl rfl (StepS.ariV rfl rfl rfl) ?_
  refine TO.s rfl rfl rfl (StepS.assign rfl) ?_
  refine TO.code ?_
  refine TC.k ?_
  refine TC.region ?_
  refine TO.s rfl rfl rfl (StepS.move rfl) ?_
  refine TO.s rfl rfl rfl (StepS.move rfl) ?_
  refine TO.s rfl rfl rfl (StepS.ariV rfl rfl rfl) ?_
  refine TO.s rfl rfl rfl (StepS.move rfl) ?_
  refine TO.s rfl rfl rfl (StepS.ariV rfl rfl rfl) ?_
  refine TO.s rfl rfl rfl (StepS.move rfl) ?_
  refine TO.s rfl rfl rfl (StepS.shrV rfl rfl (by decide)) ?_
  refine TO.s rfl rfl rfl (StepS.ariV rfl rfl rfl) ?_
  refine TO.s rfl rfl rfl (StepS.assign rfl) ?_
  refine TO.code ?_
  refine TC.k ?_
  refine TC.region ?_
  refine TO.s rfl rfl rfl (StepS.move rfl) ?_
  refine TO.s rfl rfl rfl (StepS.move rfl) ?_
  refine TO.s rfl rfl rfl (StepS.ariV rfl rfl rfl) ?_
  refine TO.s rfl rfl rfl (StepS.assign rfl) ?_
  refine TO.code ?_
  cases hm
  refine TC.ret fun a w e s => ?_
  refine FRet.mk2 (P := Try.prog) (fn := Try.f25) (t := 4) (u := 5) e rfl rfl rfl ?_
  exact ⟨rfl, s.mono fun _ => Sat.dropN 0⟩

set_option maxRecDepth 100000 in
theorem C20 {B : World} {L : List HP} {a0 : Int} {a1 : Int} {r0 : Int} {r1 : Int} (hm : F20 a0 a1 = some (r0, r1)) {w : World} (st : St B L w) : Calls Try.prog 20 #[.int .u64 a0, .int .u64 a1] w (fun e w' => (e = .returned (.tuple #[.int .u64 r0, .int .u64 r1]) ∧ St B (L) w')) := by
  refine calls_of (N := 30) (L := L) (args := [.int .u64 a0, .int .u64 a1]) Try.func20 rfl rfl rfl ?_ st
  dsimp only [F20] at hm
  refine TC.k ?_
  refine TC.region ?_
  refine TO.s rfl rfl rfl (StepS.assign rfl) ?_
  refine TO.s rfl rfl rfl (StepS.assign rfl) ?_
  refine TO.code ?_
  refine TC.k ?_
  refine TC.cond rfl (fun hc1 => ?_) (fun hc1 => ?_)
  · replace hm := cond_t hc1 hm
    refine TC.k ?_
    refine TC.region ?_
    refine TO.s rfl rfl rfl (StepS.move rfl) ?_
    refine TO.s rfl rfl rfl (StepS.cvVU kintB_52_u64_true kintB_58_u32_true rfl) ?_
    refine TO.s rfl rfl rfl (StepS.move rfl) ?_
    refine TO.s rfl rfl rfl (StepS.cvVU kintB_52_u64_true kintB_58_u32_true rfl) ?_
    obtain ⟨⟨r2, r3⟩, hc4, hm⟩ := bind_some hm
    refine TO.q rfl rfl rfl (StepQ.call kcallB_24_true rfl rfl (fun _ st => C24  hc4 st)) ?_
    refine TO.s rfl rfl rfl (StepS.move rfl) ?_
    refine TO.s rfl rfl rfl (StepS.extract rfl rfl) ?_
    refine TO.s rfl rfl rfl (StepS.extract rfl rfl) ?_
    refine TO.s rfl rfl rfl (StepS.assign rfl) ?_
    refine TO.s rfl rfl rfl (StepS.assign rfl) ?_
    refine TO.code ?_
    refine TC.k ?_
    refine TC.region ?_
    refine TO.s rfl rfl rfl (StepS.move rfl) ?_
    refine TO.s rfl rfl rfl (StepS.cvUV kintB_58_u32_true kintB_52_u64_true rfl) ?_
    refine TO.s rfl rfl rfl (StepS.move rfl) ?_
    refine TO.s rfl rfl rfl (StepS.cvUV kintB_58_u32_true kintB_52_u64_true rfl) ?_
    refine TO.s rfl rfl rfl (StepS.assign rfl) ?_
    refine TO.s rfl rfl rfl (StepS.assign rfl) ?_
    refine TO.code ?_
    cases hm
    refine TC.ret fun a w e s => ?_
    refine FRet.mk2 (P := Try.prog) (fn := Try.f20) (t := 4) (u := 5) e rfl rfl rfl ?_
    exact ⟨rfl, s.mono fun _ => Sat.dropN 0⟩
  · replace hm := cond_f hc1 hm
    refine TC.skipk ?_
    refine TC.k ?_
    refine TC.region ?_
    refine TO.s rfl rfl rfl (StepS.move rfl) ?_
    refine TO.s rfl rfl rfl (StepS.move rfl) ?_
    obtain ⟨⟨r5, r6⟩, hc7, hm⟩ := bind_some hm
    refine TO.q rfl rfl rfl (StepQ.call kcallB_25_true rfl rfl (fun _ st => C25  hc7 st)) ?_
    refine TO.s rfl rfl rfl (StepS.move rfl) ?_
    refine TO.s rfl rfl rfl (StepS.extract rfl rfl) ?_
    refine TO.s rfl rfl rfl (StepS.extract rfl rfl) ?_
    refine TO.s rfl rfl rfl (StepS.assign rfl) ?_
    refine TO.s rfl rfl rfl (StepS.assign rfl) ?_
    refine TO.code ?_
    refine TC.k ?_
    refine TC.region ?_
    refine TO.s rfl rfl rfl (StepS.move rfl) ?_
    refine TO.s rfl rfl rfl (StepS.move rfl) ?_
    refine TO.s rfl rfl rfl (StepS.assign rfl) ?_
    refine TO.s rfl rfl rfl (StepS.assign rfl) ?_
    refine TO.code ?_
    cases hm
    refine TC.ret fun a w e s => ?_
    refine FRet.mk2 (P := Try.prog) (fn := Try.f20) (t := 4) (u := 5) e rfl rfl rfl ?_
    exact ⟨rfl, s.mono fun _ => Sat.dropN 0⟩

set_option maxRecDepth 100000 in
theorem C11 {B : World} {L : List HP} {a0 : List Int} {a1 : Int} {h0 : Value} {r0 : List Int} (e0 : Ent L (Rd 1 h0 (a0.map cI))) (hm : F11 a0 a1 = some r0) {w : World} (st : St B L w) : Calls Try.prog 11 #[h0, I a1] w (fun e w' => ∃ v M, e = .returned v ∧ (∃ (qv1 : Value), v = qv1 ∧ M = (OwnS 3 1 qv1 (r0.map cI) :: L)) ∧ St B M w') := by
  refine calls_of (N := 48) (L := L) (args := [h0, I a1]) Try.func11 rfl rfl rfl ?_ st
  dsimp only [F11] at hm
  refine TC.k ?_
  refine TC.region ?_
  refine TO.s rfl rfl rfl (StepS.assign rfl) ?_
  refine TO.code ?_
  refine TC.k ?_
  refine TC.k ?_
  refine TC.region ?_
  refine TO.s rfl rfl rfl (StepS.move rfl) ?_
  refine TO.s rfl rfl rfl (StepS.cmp rfl rfl rfl) ?_
  refine TO.code ?_
  refine TC.cond rfl (fun hc2 => ?_) (fun hc2 => ?_)
  · replace hm := cond_t hc2 hm
    refine TC.region ?_
    cases hm
  · replace hm := cond_f hc2 hm
    refine TC.skipk ?_
    refine TC.k ?_
    refine TC.region ?_
    refine TO.s rfl rfl rfl (StepS.move rfl) ?_
    refine TO.s rfl rfl rfl (StepS.lenm rfl e0 ksliceB_23_3_1_true rfl) ?_
    refine TO.s rfl rfl rfl (StepS.cvIV kintB_3_i64_true kintB_52_u64_true rfl) ?_
    refine TO.s rfl rfl rfl (StepS.move rfl) ?_
    refine TO.s rfl rfl rfl (StepS.cvIV kintB_3_i64_true kintB_52_u64_true rfl) ?_
    obtain ⟨⟨r3, r4⟩, hc5, hm⟩ := bind_some hm
    refine TO.q rfl rfl rfl (StepQ.call kcallB_20_true rfl rfl (fun _ st => C20  hc5 st)) ?_
    refine TO.s rfl rfl rfl (StepS.move rfl) ?_
    refine TO.s rfl rfl rfl (StepS.extract rfl rfl) ?_
    refine TO.s rfl rfl rfl (StepS.extract rfl rfl) ?_
    refine TO.s rfl rfl rfl (StepS.assign rfl) ?_
    refine TO.s rfl rfl rfl (StepS.assign rfl) ?_
    refine TO.code ?_
    refine TC.k ?_
    refine TC.k ?_
    refine TC.region ?_
    refine TO.s rfl rfl rfl (StepS.move rfl) ?_
    refine TO.s rfl rfl rfl (StepS.cmp rfl rfl rfl) ?_
    refine TO.s rfl rfl rfl (StepS.move rfl) ?_
    refine TO.mid1 3 26 (.bool ((decide (r3 > 0)) || (decide (r4 > 9223372036854775807)))) ?_ ?_
    · refine bcase ((decide (r3 > 0))) (fun hb6 => ?_) (fun hb6 => ?_)
      · refine TO.skip rfl rfl rfl (skipT hb6) rfl rfl ?_
        refine TO.skip rfl rfl rfl (skipT hb6) rfl rfl ?_
        refine TO.s rfl rfl rfl (StepS.pickT rfl hb6 rfl) ?_
        exact TO.up1 3 0 rfl rfl (by rw [hb6]; rfl) rfl
      · refine TO.sw rfl rfl rfl hb6 rfl rfl (StepS.move rfl) ?_
        refine TO.sw rfl rfl rfl hb6 rfl rfl (StepS.cmp rfl rfl rfl) ?_
        refine TO.s rfl rfl rfl (StepS.pickF rfl hb6 rfl) ?_
        exact TO.up1 3 0 rfl rfl (by rw [hb6]; rfl) rfl
    refine TO.code ?_
    refine TC.cond rfl (fun hc7 => ?_) (fun hc7 => ?_)
    · replace hm := cond_t hc7 hm
      refine TC.region ?_
      cases hm
    · replace hm := cond_f hc7 hm
      refine TC.skipk ?_
      refine TC.k ?_
      refine TC.region ?_
      refine TO.s rfl rfl rfl (StepS.move rfl) ?_
      refine TO.s rfl rfl rfl (StepS.cvVI kintB_52_u64_true kintB_3_i64_true rfl) ?_
      obtain ⟨y8, hk9, hm⟩ := bind_some hm
      refine TO.mkS (f := cI) (za := 0) kelemB_23_3_1_8_true kinfo_3_bind_zero_some_I_0 rfl (by decide) rfl rfl hk9 rfl fun v10 => ?_
      refine TO.s rfl rfl rfl (StepS.assign rfl) ?_
      refine TO.code ?_
      refine TC.k ?_
      refine TC.region ?_
      refine TO.s rfl rfl rfl (StepS.move rfl) ?_
      refine TO.s rfl rfl rfl (StepS.move rfl) ?_
      refine TO.copyO (f := cI) (l := y8) (m := a0) (o := 0) 0 ksliceB_23_3_1_true ⟨by decide, by omega⟩ rfl subv_self' rfl rfl e0.tl (fun x c hc => by simp [Value.oneCell'] at hc ⊢; first | (obtain rfl := hc; rfl)) rfl rfl ?_
      refine TO.s rfl rfl rfl (StepS.assign rfl) ?_
      refine TO.code ?_
      refine TC.k ?_
      obtain ⟨o17, hw18, hm⟩ := bind_some hm
      refine TC.loop hw18 (fun (y12, x13) => fun a w => Mid 48 B [(7, v10), (8, I x13)] (OwnS 3 1 v10 (y12.map cI) :: L) a w) (fun y16 => fun a w => Mid 48 B [(7, v10)] (OwnS 3 1 v10 (y16.map cI) :: L) a w) (fun (_ : Unit) _ _ => False) ?_ ?_ ?_ ?_
      · rintro ⟨y12, x13⟩ o17r hb19 a w ⟨he, hs⟩
        dsimp only [F11_L0] at hb19
        refine TC.use ?_ he hs
        refine TC.k ?_
        refine TC.k ?_
        refine TC.region ?_
        refine TO.s rfl rfl rfl (StepS.move rfl) ?_
        refine TO.s rfl rfl rfl (StepS.move rfl) ?_
        refine TO.s rfl rfl rfl (StepS.lenm rfl (OwnS.rd (Ent.at 0 rfl)) ksliceB_23_3_1_true rfl) ?_
        refine TO.s rfl rfl rfl (StepS.cmp rfl rfl rfl) ?_
        refine TO.code ?_
        refine TC.cond rfl (fun hc20 => ?_) (fun hc20 => ?_)
        · replace hb19 := cond_t hc20 hb19
          refine TC.skipk ?_
          refine TC.block ?_
          obtain ⟨⟨y22, x23⟩, hj24, hb19⟩ := bind_some hb19
          first | refine TC.cutM (fun a w => Mid 48 B [(7, v10), (8, I x23)] (OwnS 3 1 v10 (y22.map cI) :: L) a w) ?_ ?_ | refine TC.cutX (fun a w => Mid 48 B [(7, v10), (8, I x23)] (OwnS 3 1 v10 (y22.map cI) :: L) a w) ?_ ?_
          · obtain ⟨yq21_3_1, hsq21_3_2, hj24⟩ := bind_some hj24
            obtain ⟨yq21_6_1, hsq21_6_2, hj24⟩ := bind_some hj24
            refine TC.region_any (L) 10 10 kfollows_mixedOrders_true rfl ?_
            refine TA.takeW 0 rfl rfl rfl rfl (StepS.move rfl) (by kernel_rfl) (by kernel_rfl) (by kernel_rfl) rfl (.inr (fun _ s => Sat.by [] 0 1 (by kernel_rfl) s)) ?_
            refine TA.takeW 1 rfl rfl rfl rfl (StepS.move rfl) (by kernel_rfl) (by kernel_rfl) (by kernel_rfl) rfl (.inr (fun _ s => Sat.by [] 0 1 (by kernel_rfl) s)) ?_
            refine TA.takeW 2 rfl rfl rfl rfl (StepS.move rfl) (by kernel_rfl) (by kernel_rfl) (by kernel_rfl) rfl (.inr (fun _ s => Sat.by [] 0 1 (by kernel_rfl) s)) ?_
            refine TA.takeW 4 rfl rfl rfl rfl (StepS.move rfl) (by kernel_rfl) (by kernel_rfl) (by kernel_rfl) rfl (.inr (fun _ s => Sat.by [] 0 1 (by kernel_rfl) s)) ?_
            refine TA.takeW 5 rfl rfl rfl rfl (StepS.move rfl) (by kernel_rfl) (by kernel_rfl) (by kernel_rfl) rfl (.inr (fun _ s => Sat.by [] 0 1 (by kernel_rfl) s)) ?_
            refine TA.all2 (i := 3) (j := 6) (by kernel_rfl) ?_ ?_
            · refine TB.of rfl ?_
              obtain ⟨hsq21_3_2a, hsq21_3_2b, hsq21_3_2c, _⟩ := slI_spec hsq21_3_2
              refine TO.s rfl rfl rfl (StepS.slc rfl (OwnS.rd (Ent.at 0 rfl)) ksliceB_23_3_1_true rfl (by simp [bnd]) hsq21_3_2a hsq21_3_2b (by simpa using hsq21_3_2c)) ?_
              refine TA.back (.inr (fun _ s => Sat.by [] 0 1 (by kernel_rfl) s)) ?_
              refine TA.asL (L' := (OwnS 3 1 v10 (y12.map cI) :: L)) (listed' := #[true, true, true, true, true, true, false, false, false, false]) (by kernel_rfl) (by kernel_rfl) ?_
              refine TA.all1 (i := 6) (by kernel_rfl) ?_
              refine TB.of rfl ?_
              obtain ⟨hsq21_6_2a, hsq21_6_2b, hsq21_6_2c, _⟩ := slI_spec hsq21_6_2
              refine TO.s rfl rfl rfl (StepS.slc rfl (OwnS.rd (Ent.at 0 rfl)) ksliceB_23_3_1_true rfl rfl hsq21_6_2a hsq21_6_2b (by simpa using hsq21_6_2c)) ?_
              refine TA.back (.inr (fun _ s => Sat.by [] 0 1 (by kernel_rfl) s)) ?_
              refine TA.asL (L' := (OwnS 3 1 v10 (y12.map cI) :: L)) (listed' := #[true, true, true, true, true, true, true, false, false, false]) (by kernel_rfl) (by kernel_rfl) ?_
              refine TA.all1 (i := 7) (by kernel_rfl) ?_
              refine TB.of rfl ?_
              refine TO.copyO (f := cI) (l := y12) (m := yq21_6_1) (o := x13) 0 ksliceB_23_3_1_true ⟨hsq21_3_2a, hsq21_3_2b⟩ rfl (fun _ _ => rfl) rfl rfl (Ent.sub (OwnS.rd (Ent.at 0 rfl)) hsq21_6_2) (fun x c hc => by simp [Value.oneCell'] at hc ⊢; first | (obtain rfl := hc; rfl)) rfl rfl ?_
              refine TA.back (.inr (fun _ s => Sat.by [] 0 1 (by kernel_rfl) s)) ?_
              refine TA.asL (L' := (OwnS 3 1 v10 ((cpy y12 x13.toNat yq21_6_1).map cI) :: L)) (listed' := #[true, true, true, true, true, true, true, true, false, false]) (by kernel_rfl) (by kernel_rfl) ?_
              refine TA.takeW 8 rfl rfl rfl rfl (StepS.ari rfl rfl rfl) (by kernel_rfl) (by kernel_rfl) (by kernel_rfl) rfl (.inr (fun _ s => Sat.by [] 0 1 (by kernel_rfl) s)) ?_
              refine TA.takeW 9 rfl rfl rfl rfl (StepS.assign rfl) (by kernel_rfl) (by kernel_rfl) (by kernel_rfl) rfl (.inr (fun _ s => Sat.by [] 0 1 (by kernel_rfl) s)) ?_
              cases hj24
              refine TA.nil (by kernel_rfl) fun a w e s => ?_
              exact ⟨e.sub (lk_of_allIn ⟨rfl, rfl, trivial⟩), s⟩
            · refine TB.of rfl ?_
              obtain ⟨hsq21_6_2a, hsq21_6_2b, hsq21_6_2c, _⟩ := slI_spec hsq21_6_2
              refine TO.s rfl rfl rfl (StepS.slc rfl (OwnS.rd (Ent.at 0 rfl)) ksliceB_23_3_1_true rfl rfl hsq21_6_2a hsq21_6_2b (by simpa using hsq21_6_2c)) ?_
              refine TA.back (.inr (fun _ s => Sat.by [] 0 1 (by kernel_rfl) s)) ?_
              refine TA.asL (L' := (OwnS 3 1 v10 (y12.map cI) :: L)) (listed' := #[true, true, true, false, true, true, true, false, false, false]) (by kernel_rfl) (by kernel_rfl) ?_
              refine TA.all1 (i := 3) (by kernel_rfl) ?_
              refine TB.of rfl ?_
              obtain ⟨hsq21_3_2a, hsq21_3_2b, hsq21_3_2c, _⟩ := slI_spec hsq21_3_2
              refine TO.s rfl rfl rfl (StepS.slc rfl (OwnS.rd (Ent.at 0 rfl)) ksliceB_23_3_1_true rfl (by simp [bnd]) hsq21_3_2a hsq21_3_2b (by simpa using hsq21_3_2c)) ?_
              refine TA.back (.inr (fun _ s => Sat.by [] 0 1 (by kernel_rfl) s)) ?_
              refine TA.asL (L' := (OwnS 3 1 v10 (y12.map cI) :: L)) (listed' := #[true, true, true, true, true, true, true, false, false, false]) (by kernel_rfl) (by kernel_rfl) ?_
              refine TA.all1 (i := 7) (by kernel_rfl) ?_
              refine TB.of rfl ?_
              refine TO.copyO (f := cI) (l := y12) (m := yq21_6_1) (o := x13) 0 ksliceB_23_3_1_true ⟨hsq21_3_2a, hsq21_3_2b⟩ rfl (fun _ _ => rfl) rfl rfl (Ent.sub (OwnS.rd (Ent.at 0 rfl)) hsq21_6_2) (fun x c hc => by simp [Value.oneCell'] at hc ⊢; first | (obtain rfl := hc; rfl)) rfl rfl ?_
              refine TA.back (.inr (fun _ s => Sat.by [] 0 1 (by kernel_rfl) s)) ?_
              refine TA.asL (L' := (OwnS 3 1 v10 ((cpy y12 x13.toNat yq21_6_1).map cI) :: L)) (listed' := #[true, true, true, true, true, true, true, true, false, false]) (by kernel_rfl) (by kernel_rfl) ?_
              refine TA.takeW 8 rfl rfl rfl rfl (StepS.ari rfl rfl rfl) (by kernel_rfl) (by kernel_rfl) (by kernel_rfl) rfl (.inr (fun _ s => Sat.by [] 0 1 (by kernel_rfl) s)) ?_
              refine TA.takeW 9 rfl rfl rfl rfl (StepS.assign rfl) (by kernel_rfl) (by kernel_rfl) (by kernel_rfl) rfl (.inr (fun _ s => Sat.by [] 0 1 (by kernel_rfl) s)) ?_
              cases hj24
              refine TA.nil (by kernel_rfl) fun a w e s => ?_
              exact ⟨e.sub (lk_of_allIn ⟨rfl, rfl, trivial⟩), s⟩
          · intro a w ⟨he, hs⟩
            cases hb19
            have e := he; have s := hs
            exact ⟨e.sub (lk_of_allIn ⟨rfl, rfl, trivial⟩), s⟩
        · replace hb19 := cond_f hc20 hb19
          cases hb19
          refine TC.exit rfl fun a w e s => ?_
          exact ⟨e.sub (lk_of_allIn ⟨rfl, trivial⟩), s⟩
      · exact fun a w e s => ⟨e.sub (lk_of_allIn ⟨rfl, rfl, trivial⟩), s⟩
      · rintro y16 rfl a w ⟨he, hs⟩
        dsimp only [Ctl.on] at hm
        refine TC.use ?_ he hs
        refine TC.k ?_
        refine TC.region ?_
        refine TO.s rfl rfl rfl (StepS.move rfl) ?_
        refine TO.s rfl rfl rfl (StepS.assign rfl) ?_
        refine TO.code ?_
        cases hm
        refine TC.ret fun a w e s => ?_
        refine FRet.mk1 (P := Try.prog) (fn := Try.f11) (t := 4) e rfl rfl ?_
        refine ⟨_, _, rfl, ⟨(v10), rfl, rfl⟩, ?_⟩
        refine s.mono fun _ s => ?_
        replace s := Sat.front 0 rfl s
        exact s
      · rintro r rfl
        exact fun a w h => h.elim

set_option maxRecDepth 100000 in
theorem C13 {B : World} {L : List HP} {a0 : (List (Int × Int)) × Int} {a1 : Int} {a2 : Int} {b0_ : Nat} {u0_0 : Value} {u0_2 : Value} {u0_3 : Value} {h0_1 : Value} {s0 : (List (Int × Int)) × Int} (hm : F13 a0 a1 a2 = some s0) {w : World} (st : St B (Bx b0_ 41 [u0_0, h0_1, u0_2, u0_3, I a0.2] :: OwnS 42 2 h0_1 (a0.1.map cTii) :: L) w) : Calls Try.prog 13 #[.pointer (some ⟨b0_, 0, none⟩), I a1, I a2] w (fun e w' => ∃ v M, e = .returned v ∧ (∃ (qv1 : Value), v = .tuple #[] ∧ M = (Bx b0_ 41 [u0_0, qv1, u0_2, u0_3, I s0.2] :: OwnS 42 2 qv1 (s0.1.map cTii) :: L)) ∧ St B M w') := by
  refine calls_of (N := 25) (L := (Bx b0_ 41 [u0_0, h0_1, u0_2, u0_3, I a0.2] :: OwnS 42 2 h0_1 (a0.1.map cTii) :: L)) (args := [.pointer (some ⟨b0_, 0, none⟩), I a1, I a2]) Try.func13 rfl rfl rfl ?_ st
  dsimp only [F13] at hm
  refine TC.k ?_
  refine TC.region ?_
  refine TO.s rfl rfl rfl (StepS.move rfl) ?_
  refine TO.s rfl rfl rfl (StepS.move rfl) ?_
  refine TO.s rfl rfl rfl (StepS.nilc rfl) ?_
  refine TO.s rfl rfl rfl (StepS.fld rfl kfieldB_41_1_1_true) ?_
  refine TO.s rfl rfl rfl (StepS.ldB rfl (Ent.at 0 rfl) kscalB_22_true rfl) ?_
  refine TO.s rfl rfl rfl (StepS.move rfl) ?_
  refine TO.s rfl rfl rfl (StepS.move rfl) ?_
  refine TO.s rfl rfl rfl (StepS.build (cs := [I a1, I a2]) rfl (by kernel_rfl)) ?_
  refine TO.litS (f := cTii) ([(a1, a2)] : List (Int × Int)) kelemB_22_42_2_16_true kinfo_42_bind_zero_some_agg_I_0_I_0 rfl rfl (fun _ => rfl) rfl rfl (by kernel_rfl) rfl fun v3 => ?_
  obtain ⟨y5, hk6, hm⟩ := bind_some hm
  refine TO.app (k := 2) (f := cTii) kelemB_22_42_2_16_true (by decide) rfl rfl rfl (OwnS.rd (Ent.at 0 rfl)) hk6 (fun x c hc => by simp [Value.oneCell'] at hc ⊢; first | (obtain rfl := hc; rfl) | (rcases hc with rfl | rfl <;> rfl)) rfl rfl fun v7 => ?_
  refine TO.s rfl rfl rfl (StepS.nilc rfl) ?_
  refine TO.s rfl rfl rfl (StepS.fld rfl kfieldB_41_1_1_true) ?_
  refine TO.pure (fun _ s => Rd.one (OwnS.rd (Ent.at 2 rfl)) s) fun oc8 => ?_
  refine TO.stB (us := [v7]) 1 [u0_0, v7, u0_2, u0_3, I a0.2] rfl rfl rfl ksizeB_22_1_true oc8.2 rfl rfl (by intro u hu; simp only [List.mem_cons, List.not_mem_nil, or_false] at hu; rcases hu with rfl <;> first | exact oc8.1 | rfl) rfl ?_
  refine TO.code ?_
  refine TC.region ?_
  refine TO.s rfl rfl rfl (StepS.move rfl) ?_
  refine TO.s rfl rfl rfl (StepS.nilc rfl) ?_
  refine TO.s rfl rfl rfl (StepS.fld rfl kfieldB_41_4_4_true) ?_
  refine TO.s rfl rfl rfl (StepS.ldB rfl (Ent.at 1 rfl) kscalB_3_true rfl) ?_
  refine TO.s rfl rfl rfl (StepS.ari rfl rfl rfl) ?_
  refine TO.s rfl rfl rfl (StepS.nilc rfl) ?_
  refine TO.s rfl rfl rfl (StepS.fld rfl kfieldB_41_4_4_true) ?_
  refine TO.stB (us := [I (w64 (a0.2 + 1))]) 1 [u0_0, v7, u0_2, u0_3, I (w64 (a0.2 + 1))] rfl rfl rfl ksizeB_3_1_true rfl rfl rfl (by simp [Value.oneCell']) rfl ?_
  cases hm
  refine TO.nil fun a w e s => ?_
  refine FRet.mk0 (P := Try.prog) (fn := Try.f13) e rfl ?_
  refine ⟨_, _, rfl, ⟨(v7), rfl, rfl⟩, ?_⟩
  refine s.mono fun _ s => ?_
  replace s := Sat.front 2 rfl s
  replace s := Sat.front 2 rfl s
  replace s := Sat.erase 2 s
  exact s

set_option maxRecDepth 100000 in
theorem C14 {B : World} {L : List HP} {a0 : List (Int × Int)} {a1 : Int} {a2 : Int} {h0 : Value} {r0 : List (Int × Int)} (hm : F14 a0 a1 a2 = some r0) {w : World} (st : St B (OwnS 42 2 h0 (a0.map cTii) :: L) w) : Calls Try.prog 14 #[h0, I a1, I a2] w (fun e w' => ∃ v M, e = .returned v ∧ (∃ (qv1 : Value), v = qv1 ∧ M = (OwnS 42 2 qv1 (r0.map cTii) :: L)) ∧ St B M w') := by
  refine calls_of (N := 33) (L := (OwnS 42 2 h0 (a0.map cTii) :: L)) (args := [h0, I a1, I a2]) Try.func14 rfl rfl rfl ?_ st
  dsimp only [F14] at hm
  unfold delM at hm
  obtain ⟨ys, hs, hm⟩ := bind_some hm
  obtain ⟨hsa, hsb, hsc, _⟩ := slI_spec hs
  refine TC.k ?_
  refine TC.region ?_
  refine TO.s rfl rfl rfl (StepS.assign rfl) ?_
  refine TO.code ?_
  refine TC.k ?_
  refine TC.region ?_
  refine TO.s rfl rfl rfl (StepS.move rfl) ?_
  refine TO.s rfl rfl rfl (StepS.move rfl) ?_
  refine TO.s rfl rfl rfl (StepS.move rfl) ?_
  refine TO.s rfl rfl rfl (StepS.move rfl) ?_
  refine TO.s rfl rfl rfl (StepS.lenm rfl (OwnS.rd (Ent.at 0 rfl)) ksliceB_22_42_2_true rfl) ?_
  refine TO.s rfl rfl rfl (StepS.slc3 (f := cTii) rfl (OwnS.rd (Ent.at 0 rfl)) ksliceB_22_42_2_true rfl rfl rfl hs) ?_
  refine TO.code ?_
  refine TC.k ?_
  refine TC.k ?_
  refine TC.region ?_
  refine TO.s rfl rfl rfl (StepS.move rfl) ?_
  refine TO.s rfl rfl rfl (StepS.move rfl) ?_
  refine TO.s rfl rfl rfl (StepS.cmp rfl rfl rfl) ?_
  refine TO.code ?_
  refine TC.cond rfl (fun hc => ?_) (fun hc => ?_)
  · replace hm := cond_t hc hm
    cases hm
    refine TC.k ?_
    refine TC.region ?_
    refine TO.s rfl rfl rfl (StepS.move rfl) ?_
    refine TO.s rfl rfl rfl (StepS.assign rfl) ?_
    refine TO.code ?_
    refine TC.ret fun a w e s => ?_
    refine FRet.mk1 (P := Try.prog) (fn := Try.f14) (t := 6) e rfl rfl ?_
    exact ⟨_, _, rfl, ⟨_, rfl, rfl⟩, s⟩
  · replace hm := cond_f hc hm
    cases hm
    have hne : a1 ≠ a2 := by simpa using hc
    have hij : 0 ≤ a1 ∧ a1 < a2 ∧ a2 ≤ (a0.length : Int) := by omega
    have hmm : 0 ≤ a1 + ((a0.length : Int) - a2) ∧ a1 + ((a0.length : Int) - a2) ≤ ((a0.take a1.toNat ++ a0.drop a2.toNat ++ a0.drop (a1.toNat + (a0.length - a2.toNat))).length : Int) := by rw [del_len hij]; omega
    refine TC.skipk ?_
    refine TC.k ?_
    refine TC.region ?_
    refine TO.s rfl rfl rfl (StepS.move rfl) ?_
    refine TO.s rfl rfl rfl (StepS.lenm rfl (OwnS.rd (Ent.at 0 rfl)) ksliceB_22_42_2_true rfl) ?_
    refine TO.s rfl rfl rfl (StepS.assign rfl) ?_
    refine TO.code ?_
    refine TC.k ?_
    refine TC.region_tail 6 kfollows_mixedOrders_true (by kernel_rfl) ?_
    refine TS.s rfl rfl rfl (StepS.move rfl) ?_
    refine TS.s rfl rfl rfl (StepS.move rfl) ?_
    refine TS.s rfl rfl rfl (StepS.slc rfl (OwnS.rd (Ent.at 0 rfl)) ksliceB_22_42_2_true rfl rfl (by decide) hsa (by rw [List.length_map]; omega)) ?_
    refine TS.s rfl rfl rfl (StepS.move rfl) ?_
    refine TS.s rfl rfl rfl (StepS.move rfl) ?_
    refine TS.s rfl rfl rfl (StepS.slc rfl (OwnS.rd (Ent.at 0 rfl)) ksliceB_22_42_2_true rfl (by simp [bnd]) (by omega) hsc (by rw [List.length_map]; omega)) ?_
    refine TS.nil ?_
    refine TO.at ?_
    refine TO.appIn 0 kelemB_22_42_2_16_true hij rfl rfl rfl (fun x c hc => by simp [Value.oneCell'] at hc ⊢; first | (obtain rfl := hc; rfl) | (rcases hc with rfl | rfl <;> rfl)) rfl rfl ?_
    refine TO.s rfl rfl rfl (StepS.assign rfl) ?_
    refine TO.code ?_
    refine TC.k ?_
    refine TC.region ?_
    refine TO.s rfl rfl rfl (StepS.move rfl) ?_
    refine TO.s rfl rfl rfl (StepS.move rfl) ?_
    refine TO.s rfl rfl rfl (StepS.lenSub (m := a1 + ((a0.length : Int) - a2)) rfl (OwnS.rd (Ent.at 0 rfl)) ksliceB_22_42_2_true hmm rfl) ?_
    refine TO.s rfl rfl rfl (StepS.move rfl) ?_
    refine TO.s rfl rfl rfl (StepS.slcX (m := a1 + ((a0.length : Int) - a2)) rfl (OwnS.rd (Ent.at 0 rfl)) ksliceB_22_42_2_true rfl rfl (by rw [del_len hij]) hmm) ?_
    refine TO.clearO0 (f := cTii) 0 (0, 0) kelemB_22_42_2_16_true (by decide) kinfo_42_bind_zero_some_agg_I_0_I_0 rfl (fun c hc => by simp at hc; first | (obtain rfl := hc; rfl) | (rcases hc with rfl | rfl <;> rfl)) hmm rfl rfl rfl ?_
    refine TO.code ?_
    refine TC.k ?_
    refine TC.region ?_
    refine TO.s rfl rfl rfl (StepS.move rfl) ?_
    refine TO.s rfl rfl rfl (StepS.assign rfl) ?_
    refine TO.code ?_
    refine TC.ret fun a w e s => ?_
    refine FRet.mk1 (P := Try.prog) (fn := Try.f14) (t := 6) e rfl rfl ?_
    exact ⟨_, _, rfl, ⟨_, rfl, rfl⟩, s.mono fun _ s => (by replace s := Sat.cutO 0 rfl (del_fin hij _) s; exact s)⟩

set_option maxRecDepth 100000 in
theorem C15 {B : World} {L : List HP} {a0 : (List (List Int)) × (List (Int × Int)) × (List Int) × (List Int) × Int} {a1 : Int} {a2 : Int} {b0_ : Nat} {h0_1 : Value} {h0_2 : List Value} {h0_3 : Value} {h0_4 : Value} {h0_5 : Value} {s0 : (List (List Int)) × (List (Int × Int)) × (List Int) × (List Int) × Int} (hm : F15 a0 a1 a2 = some s0) {w : World} (st : St B (Bx b0_ 41 [h0_1, h0_3, h0_4, h0_5, I a0.2.2.2.2] :: SS 23 3 1 cI h0_1 h0_2 (a0.1) :: OwnS 42 2 h0_3 (a0.2.1.map cTii) :: OwnS 3 1 h0_4 (a0.2.2.1.map cI) :: OwnS 3 1 h0_5 (a0.2.2.2.1.map cI) :: L) w) : Calls Try.prog 15 #[.pointer (some ⟨b0_, 0, none⟩), I a1, I a2] w (fun e w' => ∃ v M, e = .returned v ∧ (∃ (qhs1 : List Value) (qv2 : Value), v = .tuple #[] ∧ M = (Bx b0_ 41 [h0_1, qv2, h0_4, h0_5, I s0.2.2.2.2] :: SS 23 3 1 cI h0_1 qhs1 (s0.1) :: OwnS 42 2 qv2 (s0.2.1.map cTii) :: OwnS 3 1 h0_4 (s0.2.2.1.map cI) :: OwnS 3 1 h0_5 (s0.2.2.2.1.map cI) :: L)) ∧ St B M w') := by
  refine calls_of (N := 80) (L := (Bx b0_ 41 [h0_1, h0_3, h0_4, h0_5, I a0.2.2.2.2] :: SS 23 3 1 cI h0_1 h0_2 (a0.1) :: OwnS 42 2 h0_3 (a0.2.1.map cTii) :: OwnS 3 1 h0_4 (a0.2.2.1.map cI) :: OwnS 3 1 h0_5 (a0.2.2.2.1.map cI) :: L)) (args := [.pointer (some ⟨b0_, 0, none⟩), I a1, I a2]) Try.func15 rfl rfl rfl ?_ st
  dsimp only [F15] at hm
  refine TC.k ?_
  refine TC.k ?_
  refine TC.region ?_
  refine TO.s rfl rfl rfl (StepS.move rfl) ?_
  refine TO.s rfl rfl rfl (StepS.nilc rfl) ?_
  refine TO.s rfl rfl rfl (StepS.fld rfl kfieldB_41_3_3_true) ?_
  refine TO.s rfl rfl rfl (StepS.ldB rfl (Ent.at 0 rfl) kscalB_23_true rfl) ?_
  refine TO.s rfl rfl rfl (StepS.move rfl) ?_
  obtain ⟨x9, hx10, hm⟩ := bind_some hm
  refine TO.s rfl rfl rfl (StepS.idx rfl rfl (OwnS.rd (Ent.at 4 rfl)) ksliceB_23_3_1_true (idx_spec hx10).1 (idxm_lt hx10)) ?_
  refine TO.s rfl rfl rfl (StepS.ld0 rfl (OwnS.rd (Ent.at 4 rfl)) kscalB_3_true rfl (idxm hx10) rfl) ?_
  refine TO.s rfl rfl rfl (StepS.cmp rfl rfl rfl) ?_
  refine TO.code ?_
  obtain ⟨⟨y13, y14, x15⟩, hj16, hm⟩ := bind_some hm
  first | refine TC.cutM (fun a w => ∃ v11 : Value, Mid 80 B [(0, .pointer (some ⟨b0_, 0, none⟩)), (2, I a2)] (OwnS 42 2 v11 (y13.map cTii) :: Bx b0_ 41 [h0_1, v11, h0_4, h0_5, I x15] :: SS 23 3 1 cI h0_1 h0_2 (a0.1) :: OwnS 3 1 h0_4 (a0.2.2.1.map cI) :: OwnS 3 1 h0_5 (y14.map cI) :: L) a w) ?_ ?_ | refine TC.cutX (fun a w => ∃ v11 : Value, Mid 80 B [(0, .pointer (some ⟨b0_, 0, none⟩)), (2, I a2)] (OwnS 42 2 v11 (y13.map cTii) :: Bx b0_ 41 [h0_1, v11, h0_4, h0_5, I x15] :: SS 23 3 1 cI h0_1 h0_2 (a0.1) :: OwnS 3 1 h0_4 (a0.2.2.1.map cI) :: OwnS 3 1 h0_5 (y14.map cI) :: L) a w) ?_ ?_
  · refine TC.cond rfl (fun hc17 => ?_) (fun hc17 => ?_)
    · replace hj16 := cond_t hc17 hj16
      refine TC.k ?_
      refine TC.region ?_
      refine TO.s rfl rfl rfl (StepS.move rfl) ?_
      refine TO.s rfl rfl rfl (StepS.nilc rfl) ?_
      refine TO.s rfl rfl rfl (StepS.fld rfl kfieldB_41_3_3_true) ?_
      refine TO.s rfl rfl rfl (StepS.ldB rfl (Ent.at 0 rfl) kscalB_23_true rfl) ?_
      refine TO.s rfl rfl rfl (StepS.move rfl) ?_
      refine TO.s rfl rfl rfl (StepS.move rfl) ?_
      obtain ⟨x18, hx19, hj16⟩ := bind_some hj16
      refine TO.s rfl rfl rfl (StepS.idx rfl rfl (OwnS.rd (Ent.at 4 rfl)) ksliceB_23_3_1_true (idx_spec hx19).1 (idxm_lt hx19)) ?_
      refine TO.stO (i := a2.toNat) (off := 0) (us := [I a1]) 4 a1 rfl rfl rfl ksizeB_3_1_true rfl rfl rfl (idx_spec hx19).2 rfl (by simp [Value.oneCell']) rfl ?_
      refine TO.code ?_
      refine TC.k ?_
      refine TC.region ?_
      refine TO.s rfl rfl rfl (StepS.move rfl) ?_
      refine TO.s rfl rfl rfl (StepS.nilc rfl) ?_
      refine TO.s rfl rfl rfl (StepS.fld rfl kfieldB_41_0_0_true) ?_
      refine TO.s rfl rfl rfl (StepS.ldB rfl (Ent.at 0 rfl) kscalB_38_true rfl) ?_
      refine TO.s rfl rfl rfl (StepS.move rfl) ?_
      obtain ⟨x20, hx21, hj16⟩ := bind_some hj16
      refine TO.s rfl rfl rfl (StepS.idxRR rfl rfl (SS.rr (Ent.at 1 rfl)) ksliceB_38_23_1_true hx21) ?_
      refine TO.s rfl rfl rfl (StepS.ldRR rfl (SS.rr (Ent.at 1 rfl)) kscalB_23_true hx21) ?_
      refine TO.s rfl rfl rfl (StepS.lenm rfl (RR.row (SS.rr (Ent.at 1 rfl)) hx21) ksliceB_23_3_1_true rfl) ?_
      refine TO.s rfl rfl rfl (StepS.move rfl) ?_
      refine TO.code ?_
      obtain ⟨o37, hw38, hj16⟩ := bind_some hj16
      refine TC.loop hw38 (fun (y25, x26, x27) => fun a w => ∃ v23 : Value, Mid 80 B [(0, .pointer (some ⟨b0_, 0, none⟩)), (1, I a1), (2, I a2), (29, (rowv h0_2 a2.toNat)), (30, I (x20.length : Int)), (31, I x27)] (OwnS 42 2 v23 (y25.map cTii) :: Bx b0_ 41 [h0_1, v23, h0_4, h0_5, I x26] :: SS 23 3 1 cI h0_1 h0_2 (a0.1) :: OwnS 3 1 h0_4 (a0.2.2.1.map cI) :: OwnS 3 1 h0_5 ((a0.2.2.2.1.set a2.toNat a1).map cI) :: L) a w) (fun (y35, x36) => fun a w => ∃ v33 : Value, Mid 80 B [(0, .pointer (some ⟨b0_, 0, none⟩)), (2, I a2)] (OwnS 42 2 v33 (y35.map cTii) :: Bx b0_ 41 [h0_1, v33, h0_4, h0_5, I x36] :: SS 23 3 1 cI h0_1 h0_2 (a0.1) :: OwnS 3 1 h0_4 (a0.2.2.1.map cI) :: OwnS 3 1 h0_5 ((a0.2.2.2.1.set a2.toNat a1).map cI) :: L) a w) (fun (_ : Unit) _ _ => False) ?_ ?_ ?_ ?_
      · rintro ⟨y25, x26, x27⟩ o37r hb39 a w ⟨v23, he, hs⟩
        dsimp only [F15_L0] at hb39
        refine TC.use ?_ he hs
        refine TC.k ?_
        refine TC.region ?_
        refine TO.s rfl rfl rfl (StepS.cmp rfl rfl rfl) ?_
        refine TO.code ?_
        refine TC.k ?_
        refine TC.cond rfl (fun hc40 => ?_) (fun hc40 => ?_)
        · replace hb39 := cond_t hc40 hb39
          refine TC.skipk ?_
          refine TC.k ?_
          obtain ⟨⟨y43, x44⟩, hj45, hb39⟩ := bind_some hb39
          first | refine TC.cutM (fun a w => ∃ v41 : Value, Mid 80 B [(0, .pointer (some ⟨b0_, 0, none⟩)), (1, I a1), (2, I a2), (29, (rowv h0_2 a2.toNat)), (30, I (x20.length : Int)), (31, I x27)] (OwnS 42 2 v41 (y43.map cTii) :: Bx b0_ 41 [h0_1, v41, h0_4, h0_5, I x44] :: SS 23 3 1 cI h0_1 h0_2 (a0.1) :: OwnS 3 1 h0_4 (a0.2.2.1.map cI) :: OwnS 3 1 h0_5 ((a0.2.2.2.1.set a2.toNat a1).map cI) :: L) a w) ?_ ?_ | refine TC.cutX (fun a w => ∃ v41 : Value, Mid 80 B [(0, .pointer (some ⟨b0_, 0, none⟩)), (1, I a1), (2, I a2), (29, (rowv h0_2 a2.toNat)), (30, I (x20.length : Int)), (31, I x27)] (OwnS 42 2 v41 (y43.map cTii) :: Bx b0_ 41 [h0_1, v41, h0_4, h0_5, I x44] :: SS 23 3 1 cI h0_1 h0_2 (a0.1) :: OwnS 3 1 h0_4 (a0.2.2.1.map cI) :: OwnS 3 1 h0_5 ((a0.2.2.2.1.set a2.toNat a1).map cI) :: L) a w) ?_ ?_
          · refine TC.block ?_
            refine TC.k ?_
            refine TC.region ?_
            obtain ⟨x46, hx47, hj45⟩ := bind_some hj45
            refine TO.s rfl rfl rfl (StepS.idx rfl rfl (RR.row (SS.rr (Ent.at 2 rfl)) hx21) ksliceB_23_3_1_true (idx_spec hx47).1 (idxm_lt hx47)) ?_
            refine TO.s rfl rfl rfl (StepS.ld0 rfl (RR.row (SS.rr (Ent.at 2 rfl)) hx21) kscalB_3_true rfl (idxm hx47) rfl) ?_
            refine TO.s rfl rfl rfl (StepS.assign rfl) ?_
            refine TO.code ?_
            refine TC.k ?_
            refine TC.region ?_
            refine TO.s rfl rfl rfl (StepS.move rfl) ?_
            refine TO.s rfl rfl rfl (StepS.move rfl) ?_
            refine TO.s rfl rfl rfl (StepS.cmp rfl rfl rfl) ?_
            refine TO.code ?_
            refine TC.cond rfl (fun hc48 => ?_) (fun hc48 => ?_)
            · replace hj45 := cond_t hc48 hj45
              refine TC.region ?_
              refine TO.s rfl rfl rfl (StepS.move rfl) ?_
              refine TO.s rfl rfl rfl (StepS.move rfl) ?_
              refine TO.s rfl rfl rfl (StepS.move rfl) ?_
              refine TO.ghost (fun _ s => Sat.front 1 rfl s) ?_
              obtain ⟨r49, hc50, hj45⟩ := bind_some hj45
              refine TO.callO kcallB_13_true rfl rfl rfl (fun _ st => C13 (a0 := (y25, x26))  hc50 st) ?_
              rintro _ _ ⟨v51, rfl, rfl⟩
              cases hj45
              refine TO.nil fun a w e s => ?_
              exact ⟨v51, e.sub (lk_of_allIn ⟨rfl, rfl, rfl, rfl, rfl, rfl, trivial⟩), s.mono fun _ s => (by exact Sat.by [4, 4, 4, 3, 4] 5 0 (by kernel_rfl) s)⟩
            · replace hj45 := cond_f hc48 hj45
              cases hj45
              refine TC.skip fun a w e s => ?_
              exact ⟨v23, e.sub (lk_of_allIn ⟨rfl, rfl, rfl, rfl, rfl, rfl, trivial⟩), s⟩
          · intro a w ⟨v41, he, hs⟩
            refine TC.use ?_ he hs
            refine TC.region ?_
            refine TO.s rfl rfl rfl (StepS.ari rfl rfl rfl) ?_
            refine TO.s rfl rfl rfl (StepS.move rfl) ?_
            cases hb39
            refine TO.nil fun a w e s => ?_
            exact ⟨v41, e.sub (lk_of_allIn ⟨rfl, rfl, rfl, rfl, rfl, rfl, trivial⟩), s⟩
        · replace hb39 := cond_f hc40 hb39
          cases hb39
          refine TC.exit rfl fun a w e s => ?_
          exact ⟨v23, e.sub (lk_of_allIn ⟨rfl, rfl, trivial⟩), s⟩
      · exact fun a w e s => ⟨h0_3, e.sub (lk_of_allIn ⟨rfl, rfl, rfl, rfl, rfl, rfl, trivial⟩), s.mono fun _ s => (by exact Sat.by [4, 4, 3, 3, 4] 5 0 (by kernel_rfl) s)⟩
      · rintro ⟨y35, x36⟩ rfl a w ⟨v33, he, hs⟩
        dsimp only [Ctl.on] at hj16
        cases hj16
        have e := he; have s := hs
        exact ⟨v33, e.sub (lk_of_allIn ⟨rfl, rfl, trivial⟩), s⟩
      · rintro r rfl
        exact fun a w h => h.elim
    · replace hj16 := cond_f hc17 hj16
      cases hj16
      refine TC.skip fun a w e s => ?_
      exact ⟨h0_3, e.sub (lk_of_allIn ⟨rfl, rfl, trivial⟩), s.mono fun _ s => (by exact Sat.by [4, 4, 3, 3, 4] 5 0 (by kernel_rfl) s)⟩
  · intro a w ⟨v11, he, hs⟩
    refine TC.use ?_ he hs
    refine TC.k ?_
    refine TC.region ?_
    refine TO.s rfl rfl rfl (StepS.move rfl) ?_
    refine TO.s rfl rfl rfl (StepS.nilc rfl) ?_
    refine TO.s rfl rfl rfl (StepS.fld rfl kfieldB_41_2_2_true) ?_
    refine TO.s rfl rfl rfl (StepS.ldB rfl (Ent.at 1 rfl) kscalB_23_true rfl) ?_
    refine TO.s rfl rfl rfl (StepS.move rfl) ?_
    obtain ⟨x53, hx54, hm⟩ := bind_some hm
    refine TO.s rfl rfl rfl (StepS.idx rfl rfl (OwnS.rd (Ent.at 3 rfl)) ksliceB_23_3_1_true (idx_spec hx54).1 (idxm_lt hx54)) ?_
    refine TO.s rfl rfl rfl (StepS.ld0 rfl (OwnS.rd (Ent.at 3 rfl)) kscalB_3_true rfl (idxm hx54) rfl) ?_
    refine TO.s rfl rfl rfl (StepS.ari rfl rfl rfl) ?_
    obtain ⟨x55, hx56, hm⟩ := bind_some hm
    refine TO.s rfl rfl rfl (StepS.idx rfl rfl (OwnS.rd (Ent.at 3 rfl)) ksliceB_23_3_1_true (idx_spec hx56).1 (idxm_lt hx56)) ?_
    refine TO.stO (i := a2.toNat) (off := 0) (us := [I (w64 (x53 - 1))]) 3 (w64 (x53 - 1)) rfl rfl rfl ksizeB_3_1_true rfl rfl rfl (idx_spec hx56).2 rfl (by simp [Value.oneCell']) rfl ?_
    refine TO.code ?_
    refine TC.k ?_
    refine TC.region ?_
    refine TO.s rfl rfl rfl (StepS.move rfl) ?_
    refine TO.s rfl rfl rfl (StepS.nilc rfl) ?_
    refine TO.s rfl rfl rfl (StepS.fld rfl kfieldB_41_2_2_true) ?_
    refine TO.s rfl rfl rfl (StepS.ldB rfl (Ent.at 1 rfl) kscalB_23_true rfl) ?_
    refine TO.s rfl rfl rfl (StepS.move rfl) ?_
    obtain ⟨x57, hx58, hm⟩ := bind_some hm
    refine TO.s rfl rfl rfl (StepS.idx rfl rfl (OwnS.rd (Ent.at 3 rfl)) ksliceB_23_3_1_true (idx_spec hx58).1 (idxm_lt hx58)) ?_
    refine TO.s rfl rfl rfl (StepS.ld0 rfl (OwnS.rd (Ent.at 3 rfl)) kscalB_3_true rfl (idxm hx58) rfl) ?_
    refine TO.s rfl rfl rfl (StepS.cmp rfl rfl rfl) ?_
    refine TO.s rfl rfl rfl (StepS.move rfl) ?_
    obtain ⟨b60, hj61, hm⟩ := bind_some hm
    refine TO.mid1 9 69 (.bool b60) ?_ ?_
    · refine bcase ((x57 == 0)) (fun hb59 => ?_) (fun hb59 => ?_)
      · replace hj61 := cond_t hb59 hj61
        refine TO.sw rfl rfl rfl hb59 rfl rfl (StepS.move rfl) ?_
        refine TO.sw rfl rfl rfl hb59 rfl rfl (StepS.nilc rfl) ?_
        refine TO.sw rfl rfl rfl hb59 rfl rfl (StepS.fld rfl kfieldB_41_3_3_true) ?_
        refine TO.sw rfl rfl rfl hb59 rfl rfl (StepS.ldB rfl (Ent.at 1 rfl) kscalB_23_true rfl) ?_
        refine TO.sw rfl rfl rfl hb59 rfl rfl (StepS.move rfl) ?_
        obtain ⟨x62, hx63, hj61⟩ := bind_some hj61
        refine TO.sw rfl rfl rfl hb59 rfl rfl (StepS.idx rfl rfl (OwnS.rd (Ent.at 4 rfl)) ksliceB_23_3_1_true (idx_spec hx63).1 (idxm_lt hx63)) ?_
        refine TO.sw rfl rfl rfl hb59 rfl rfl (StepS.ld0 rfl (OwnS.rd (Ent.at 4 rfl)) kscalB_3_true rfl (idxm hx63) rfl) ?_
        refine TO.sw rfl rfl rfl hb59 rfl rfl (StepS.cmp rfl rfl rfl) ?_
        cases hj61
        refine TO.s rfl rfl rfl (StepS.pickT rfl hb59 rfl) ?_
        exact TO.up1 9 0 rfl rfl rfl rfl
      · replace hj61 := cond_f hb59 hj61
        cases hj61
        refine TO.skip rfl rfl rfl (skipF hb59) rfl rfl ?_
        refine TO.skip rfl rfl rfl (skipF hb59) rfl rfl ?_
        refine TO.skip rfl rfl rfl (skipF hb59) rfl rfl ?_
        refine TO.skip rfl rfl rfl (skipF hb59) rfl rfl ?_
        refine TO.skip rfl rfl rfl (skipF hb59) rfl rfl ?_
        refine TO.skip rfl rfl rfl (skipF hb59) rfl rfl ?_
        refine TO.skip rfl rfl rfl (skipF hb59) rfl rfl ?_
        refine TO.skip rfl rfl rfl (skipF hb59) rfl rfl ?_
        refine TO.s rfl rfl rfl (StepS.pickF rfl hb59 rfl) ?_
        exact TO.up1 9 0 rfl rfl rfl rfl
    refine TO.code ?_
    refine TC.cond rfl (fun hc64 => ?_) (fun hc64 => ?_)
    · replace hm := cond_t hc64 hm
      refine TC.region ?_
      refine TO.s rfl rfl rfl (StepS.move rfl) ?_
      refine TO.s rfl rfl rfl (StepS.move rfl) ?_
      refine TO.s rfl rfl rfl (StepS.move rfl) ?_
      refine TO.s rfl rfl rfl (StepS.nilc rfl) ?_
      refine TO.s rfl rfl rfl (StepS.fld rfl kfieldB_41_3_3_true) ?_
      refine TO.s rfl rfl rfl (StepS.ldB rfl (Ent.at 1 rfl) kscalB_23_true rfl) ?_
      refine TO.s rfl rfl rfl (StepS.move rfl) ?_
      obtain ⟨x65, hx66, hm⟩ := bind_some hm
      refine TO.s rfl rfl rfl (StepS.idx rfl rfl (OwnS.rd (Ent.at 4 rfl)) ksliceB_23_3_1_true (idx_spec hx66).1 (idxm_lt hx66)) ?_
      refine TO.s rfl rfl rfl (StepS.ld0 rfl (OwnS.rd (Ent.at 4 rfl)) kscalB_3_true rfl (idxm hx66) rfl) ?_
      refine TO.ghost (fun _ s => Sat.front 1 rfl s) ?_
      obtain ⟨r67, hc68, hm⟩ := bind_some hm
      refine TO.callO kcallB_13_true rfl rfl rfl (fun _ st => C13 (a0 := (y13, x15))  hc68 st) ?_
      rintro _ _ ⟨v69, rfl, rfl⟩
      cases hm
      refine TO.nil fun a w e s => ?_
      refine FRet.mk0 (P := Try.prog) (fn := Try.f15) e rfl ?_
      refine ⟨_, _, rfl, ⟨(h0_2), (v69), rfl, rfl⟩, ?_⟩
      refine s.mono fun _ s => ?_
      exact Sat.by [4, 4, 3, 4, 4] 5 0 (by kernel_rfl) s
    · replace hm := cond_f hc64 hm
      cases hm
      refine TC.skip fun a w e s => ?_
      refine FRet.mk0 (P := Try.prog) (fn := Try.f15) e rfl ?_
      refine ⟨_, _, rfl, ⟨(h0_2), (v11), rfl, rfl⟩, ?_⟩
      refine s.mono fun _ s => ?_
      exact Sat.by [4, 4, 2, 4, 4] 5 0 (by kernel_rfl) s

set_option maxHeartbeats 1000000 in
set_option maxRecDepth 100000 in
theorem C4 {B : World} {L : List HP} {a0 : Int} {a1 : List (Int × Int)} {a2 : Int} {a3 : List Int} {h1 : Value} {h3 : Value} {r0 : (List Int) × (List Int) × Bool × Int} {r1 : Int} (e1 : Ent L (Rd 2 h1 (a1.map cTii))) (e3 : Ent L (Rd 1 h3 (a3.map cI))) (hm : F4 a0 a1 a2 a3 = some (r0, r1)) {w : World} (st : St B L w) : Calls Try.prog 4 #[I a0, h1, I a2, h3] w (fun e w' => ∃ v M, e = .returned v ∧ (∃ (qv1 : Value) (qv2 : Value), v = .tuple #[.agg #[qv1, qv2, .bool r0.2.2.1, I r0.2.2.2], I r1] ∧ M = (OwnS 27 1 qv1 (r0.1.map cI) :: OwnS 3 1 qv2 (r0.2.1.map cI) :: L)) ∧ St B M w') := by
  refine calls_of (N := 201) (L := L) (args := [I a0, h1, I a2, h3]) Try.func4 rfl rfl rfl ?_ st
  dsimp only [F4] at hm
  refine TC.k ?_
  refine TC.region ?_
  refine TO.alloc kinfo_26_bind_zero_some_agg_slice_none_0_0_slice_none_0_0_bool_false_I_0 rfl rfl fun b3 => ?_
  refine TO.s rfl rfl rfl (StepS.assign rfl) ?_
  refine TO.code ?_
  refine TC.k ?_
  refine TC.k ?_
  refine TC.region ?_
  refine TO.s rfl rfl rfl (StepS.move rfl) ?_
  refine TO.s rfl rfl rfl (StepS.move rfl) ?_
  refine TO.s rfl rfl rfl (StepS.move rfl) ?_
  refine TO.s rfl rfl rfl (StepS.move rfl) ?_
  obtain ⟨r4, hc5, hm⟩ := bind_some hm
  refine TO.q rfl rfl rfl (StepQ.call kcallB_10_true rfl rfl (fun _ st => C10 e1.tl e3.tl hc5 st)) ?_
  refine TO.s rfl rfl rfl (StepS.assign rfl) ?_
  refine TO.code ?_
  refine TC.k ?_
  refine TC.region ?_
  refine TO.s rfl rfl rfl (StepS.move rfl) ?_
  refine TO.s rfl rfl rfl (StepS.cmp rfl rfl rfl) ?_
  refine TO.code ?_
  refine TC.cond rfl (fun hc6 => ?_) (fun hc6 => ?_)
  · replace hm := cond_t hc6 hm
    refine TC.k ?_
    refine TC.region ?_
    refine TO.s rfl rfl rfl (StepS.build (cs := [.slice none 0 0, .slice none 0 0, .bool false, I 0]) rfl (by kernel_rfl)) ?_
    refine TO.s rfl rfl rfl (StepS.move rfl) ?_
    refine TO.stB (us := [.slice none 0 0, .slice none 0 0, .bool false, I 0]) 0 [.slice none 0 0, .slice none 0 0, .bool false, I 0] rfl rfl rfl ksizeB_26_4_true rfl rfl rfl (by simp [Value.oneCell']) rfl ?_
    refine TO.s rfl rfl rfl (StepS.assign rfl) ?_
    refine TO.code ?_
    cases hm
    refine TC.ret fun a w e s => ?_
    refine FRet.cell2 (P := Try.prog) (fn := Try.f4) e s rfl rfl rfl (Ent.at 0 rfl) kaggB_26_4_true rfl ?_
    refine ⟨_, _, rfl, ⟨(.slice none 0 0), (.slice none 0 0), rfl, rfl⟩, ?_⟩
    refine s.mono fun _ s => ?_
    replace s := Sat.nilS (e := 3) (sz := 1) (f := cI) s
    replace s := Sat.nilS (e := 27) (sz := 1) (f := cI) s
    replace s := Sat.erase 2 s
    exact s
  · replace hm := cond_f hc6 hm
    refine TC.skipk ?_
    refine TC.k ?_
    obtain ⟨⟨y11, y14, y17⟩, hj18, hm⟩ := bind_some hm
    first | refine TC.cutM (fun a w => ∃ v8 : Value, ∃ hs9 : List Value, ∃ v12 : Value, ∃ v15 : Value, ∃ bq7_8_1 : Nat, Mid 201 B [(1, h1), (2, I a2), (3, h3), (8, .pointer (some ⟨b3, 0, none⟩)), (11, .pointer (some ⟨bq7_8_1, 0, none⟩))] (SS 23 3 1 cI v8 hs9 (y11) :: OwnS 3 1 v12 (y14.map cI) :: OwnS 3 1 v15 (y17.map cI) :: Bx bq7_8_1 41 [v8, .slice none 0 0, v12, v15, I 0] :: Bx b3 26 [.slice none 0 0, .slice none 0 0, .bool false, I 0] :: L) a w) ?_ ?_ | refine TC.cutX (fun a w => ∃ v8 : Value, ∃ hs9 : List Value, ∃ v12 : Value, ∃ v15 : Value, ∃ bq7_8_1 : Nat, Mid 201 B [(1, h1), (2, I a2), (3, h3), (8, .pointer (some ⟨b3, 0, none⟩)), (11, .pointer (some ⟨bq7_8_1, 0, none⟩))] (SS 23 3 1 cI v8 hs9 (y11) :: OwnS 3 1 v12 (y14.map cI) :: OwnS 3 1 v15 (y17.map cI) :: Bx bq7_8_1 41 [v8, .slice none 0 0, v12, v15, I 0] :: Bx b3 26 [.slice none 0 0, .slice none 0 0, .bool false, I 0] :: L) a w) ?_ ?_
    · obtain ⟨yq7_1_1, hkq7_1_2, hj18⟩ := bind_some hj18
      obtain ⟨yq7_3_1, hkq7_3_2, hj18⟩ := bind_some hj18
      obtain ⟨rq7_6_1, hcq7_6_2, hj18⟩ := bind_some hj18
      refine TC.region_any (Bx b3 26 [.slice none 0 0, .slice none 0 0, .bool false, I 0] :: L) 10 10 kfollows_mixedOrders_true rfl ?_
      refine TA.takeW 0 rfl rfl rfl rfl (StepS.move rfl) (by kernel_rfl) (by kernel_rfl) (by kernel_rfl) rfl (.inr (fun _ s => s)) ?_
      refine TA.takeW 2 rfl rfl rfl rfl (StepS.move rfl) (by kernel_rfl) (by kernel_rfl) (by kernel_rfl) rfl (.inr (fun _ s => s)) ?_
      refine TA.takeW 5 rfl rfl rfl rfl (StepS.move rfl) (by kernel_rfl) (by kernel_rfl) (by kernel_rfl) rfl (.inr (fun _ s => s)) ?_
      refine TA.lem (γ := Nat × Value × (List Value) × Value × Value × Value) 0 #[true, true, true, true, true, true, true, true, true, true] (fun (bq7_8_1, vq7_1_3, hsq7_1_4, vq7_3_3, vq7_6_3, vq7_4_1) => [(1, h1), (2, I a2), (3, h3), (8, .pointer (some ⟨b3, 0, none⟩)), (11, .pointer (some ⟨bq7_8_1, 0, none⟩))]) (fun (bq7_8_1, vq7_1_3, hsq7_1_4, vq7_3_3, vq7_6_3, vq7_4_1) => (Bx bq7_8_1 41 [vq7_1_3, .slice none 0 0, vq7_3_3, vq7_6_3, I 0] :: SS 23 3 1 cI vq7_1_3 hsq7_1_4 (yq7_1_1) :: OwnS 3 1 vq7_3_3 (yq7_3_1.map cI) :: OwnS 3 1 vq7_6_3 (rq7_6_1.map cI) :: OwnS 3 1 vq7_4_1 (([(-1)] : List Int).map cI) :: Bx b3 26 [.slice none 0 0, .slice none 0 0, .bool false, I 0] :: L)) ?_ fun hSq7_0 => ?_
      · rintro ⟨bq7_8_1, vq7_1_3, hsq7_1_4, vq7_3_3, vq7_6_3, vq7_4_1⟩
        cases hj18
        refine TA.nil (by kernel_rfl) fun a w e s => ?_
        exact ⟨vq7_1_3, hsq7_1_4, vq7_3_3, vq7_6_3, bq7_8_1, e.sub (lk_of_allIn ⟨rfl, rfl, rfl, rfl, rfl, trivial⟩), s.mono fun _ s => (by exact Sat.by [5, 1, 4, 4, 4] 5 1 (by kernel_rfl) s)⟩
      refine TA.lem (γ := Value × (List Value) × Value × Value × Value) 2 #[true, true, true, true, true, true, true, true, false, false] (fun (vq7_1_3, hsq7_1_4, vq7_3_3, vq7_6_3, vq7_4_1) => [(1, h1), (2, I a2), (3, h3), (8, .pointer (some ⟨b3, 0, none⟩)), (38, .agg #[vq7_1_3, .slice none 0 0, vq7_3_3, vq7_6_3, I 0])]) (fun (vq7_1_3, hsq7_1_4, vq7_3_3, vq7_6_3, vq7_4_1) => (SS 23 3 1 cI vq7_1_3 hsq7_1_4 (yq7_1_1) :: OwnS 3 1 vq7_3_3 (yq7_3_1.map cI) :: OwnS 3 1 vq7_6_3 (rq7_6_1.map cI) :: OwnS 3 1 vq7_4_1 (([(-1)] : List Int).map cI) :: Bx b3 26 [.slice none 0 0, .slice none 0 0, .bool false, I 0] :: L)) ?_ fun hSq7_1 => ?_
      · rintro ⟨vq7_1_3, hsq7_1_4, vq7_3_3, vq7_6_3, vq7_4_1⟩
        refine TA.all1 (i := 8) (by kernel_rfl) ?_
        · refine TB.of rfl ?_
          refine TO.box (cs := [vq7_1_3, .slice none 0 0, vq7_3_3, vq7_6_3, I 0]) rfl rfl rfl fun bq7_8_1 => ?_
          refine TA.back (.inr (fun _ s => Sat.by [5] 1 5 (by kernel_rfl) s)) ?_
          refine TA.asL (L' := (Bx bq7_8_1 41 [vq7_1_3, .slice none 0 0, vq7_3_3, vq7_6_3, I 0] :: SS 23 3 1 cI vq7_1_3 hsq7_1_4 (yq7_1_1) :: OwnS 3 1 vq7_3_3 (yq7_3_1.map cI) :: OwnS 3 1 vq7_6_3 (rq7_6_1.map cI) :: OwnS 3 1 vq7_4_1 (([(-1)] : List Int).map cI) :: Bx b3 26 [.slice none 0 0, .slice none 0 0, .bool false, I 0] :: L)) (listed' := #[true, true, true, true, true, true, true, true, true, false]) (by kernel_rfl) (by kernel_rfl) ?_
          refine TA.takeW 9 rfl rfl rfl rfl (StepS.assign rfl) (by kernel_rfl) (by kernel_rfl) (by kernel_rfl) rfl (.inr (fun _ s => Sat.by [5] 1 5 (by kernel_rfl) s)) ?_
          exact TA.jump hSq7_0 (bq7_8_1, vq7_1_3, hsq7_1_4, vq7_3_3, vq7_6_3, vq7_4_1) rfl (by kernel_rfl) ⟨rfl, rfl, rfl, rfl, rfl, trivial⟩ (fun _ s => Sat.by [5, 5, 5, 5, 5, 5] 6 0 (by kernel_rfl) s)
      refine TA.lem (γ := Value × (List Value) × Value × Value × Value) 3 #[true, true, true, true, true, true, true, false, false, false] (fun (vq7_1_3, hsq7_1_4, vq7_3_3, vq7_6_3, vq7_4_1) => [(1, h1), (2, I a2), (3, h3), (8, .pointer (some ⟨b3, 0, none⟩)), (32, vq7_1_3), (34, vq7_3_3), (37, vq7_6_3)]) (fun (vq7_1_3, hsq7_1_4, vq7_3_3, vq7_6_3, vq7_4_1) => (SS 23 3 1 cI vq7_1_3 hsq7_1_4 (yq7_1_1) :: OwnS 3 1 vq7_3_3 (yq7_3_1.map cI) :: OwnS 3 1 vq7_6_3 (rq7_6_1.map cI) :: OwnS 3 1 vq7_4_1 (([(-1)] : List Int).map cI) :: Bx b3 26 [.slice none 0 0, .slice none 0 0, .bool false, I 0] :: L)) ?_ fun hSq7_2 => ?_
      · rintro ⟨vq7_1_3, hsq7_1_4, vq7_3_3, vq7_6_3, vq7_4_1⟩
        refine TA.all1 (i := 7) (by kernel_rfl) ?_
        · refine TB.of rfl ?_
          refine TO.pure (fun _ s => Rd.one (RR.top (SS.rr (Ent.at 0 rfl))) s) fun ocq7_7_1 => ?_
          refine TO.pure (fun _ s => Rd.one (OwnS.rd (Ent.at 1 rfl)) s) fun ocq7_7_2 => ?_
          refine TO.pure (fun _ s => Rd.one (OwnS.rd (Ent.at 2 rfl)) s) fun ocq7_7_3 => ?_
          refine TO.s rfl rfl rfl (StepS.buildS (us := [(0, .agg #[vq7_1_3]), (2, .agg #[vq7_3_3]), (3, .agg #[vq7_6_3])]) (cs := [vq7_1_3, .slice none 0 0, vq7_3_3, vq7_6_3, I 0]) rfl (by simp only [List.map_cons, List.map_nil, ocq7_7_1.2, ocq7_7_2.2, ocq7_7_3.2] <;> rfl) (by kernel_rfl)) ?_
          refine TA.back (.inr (fun _ s => Sat.by [4] 1 4 (by kernel_rfl) s)) ?_
          refine TA.asL (L' := (SS 23 3 1 cI vq7_1_3 hsq7_1_4 (yq7_1_1) :: OwnS 3 1 vq7_3_3 (yq7_3_1.map cI) :: OwnS 3 1 vq7_6_3 (rq7_6_1.map cI) :: OwnS 3 1 vq7_4_1 (([(-1)] : List Int).map cI) :: Bx b3 26 [.slice none 0 0, .slice none 0 0, .bool false, I 0] :: L)) (listed' := #[true, true, true, true, true, true, true, true, false, false]) (by kernel_rfl) (by kernel_rfl) ?_
          exact TA.jump hSq7_1 (vq7_1_3, hsq7_1_4, vq7_3_3, vq7_6_3, vq7_4_1) rfl (by kernel_rfl) ⟨rfl, rfl, rfl, rfl, rfl, trivial⟩ (fun _ s => Sat.by [4, 4, 4, 4, 4] 5 0 (by kernel_rfl) s)
      refine TA.lem (γ := Value × (List Value) × Value × Value) 4 #[true, true, true, false, true, true, true, false, false, false] (fun (vq7_1_3, hsq7_1_4, vq7_6_3, vq7_4_1) => [(1, h1), (2, I a2), (3, h3), (8, .pointer (some ⟨b3, 0, none⟩)), (32, vq7_1_3), (33, I a0), (37, vq7_6_3)]) (fun (vq7_1_3, hsq7_1_4, vq7_6_3, vq7_4_1) => (SS 23 3 1 cI vq7_1_3 hsq7_1_4 (yq7_1_1) :: OwnS 3 1 vq7_6_3 (rq7_6_1.map cI) :: OwnS 3 1 vq7_4_1 (([(-1)] : List Int).map cI) :: Bx b3 26 [.slice none 0 0, .slice none 0 0, .bool false, I 0] :: L)) ?_ fun hSq7_3 => ?_
      · rintro ⟨vq7_1_3, hsq7_1_4, vq7_6_3, vq7_4_1⟩
        refine TA.all1 (i := 3) (by kernel_rfl) ?_
        · refine TB.of rfl ?_
          refine TO.mkS (f := cI) (za := 0) kelemB_23_3_1_8_true kinfo_3_bind_zero_some_I_0 rfl (by decide) rfl rfl hkq7_3_2 rfl fun vq7_3_3 => ?_
          refine TA.back (.inr (fun _ s => Sat.by [4] 1 4 (by kernel_rfl) s)) ?_
          refine TA.asL (L' := (OwnS 3 1 vq7_3_3 (yq7_3_1.map cI) :: SS 23 3 1 cI vq7_1_3 hsq7_1_4 (yq7_1_1) :: OwnS 3 1 vq7_6_3 (rq7_6_1.map cI) :: OwnS 3 1 vq7_4_1 (([(-1)] : List Int).map cI) :: Bx b3 26 [.slice none 0 0, .slice none 0 0, .bool false, I 0] :: L)) (listed' := #[true, true, true, true, true, true, true, false, false, false]) (by kernel_rfl) (by kernel_rfl) ?_
          exact TA.jump hSq7_2 (vq7_1_3, hsq7_1_4, vq7_3_3, vq7_6_3, vq7_4_1) rfl (by kernel_rfl) ⟨rfl, rfl, rfl, rfl, rfl, rfl, rfl, trivial⟩ (fun _ s => Sat.by [4, 4, 4, 3, 4] 5 0 (by kernel_rfl) s)
      refine TA.lem (γ := Value × Value × Value) 4 #[true, false, true, true, true, true, true, false, false, false] (fun (vq7_3_3, vq7_6_3, vq7_4_1) => [(1, h1), (2, I a2), (3, h3), (8, .pointer (some ⟨b3, 0, none⟩)), (31, I a0), (34, vq7_3_3), (37, vq7_6_3)]) (fun (vq7_3_3, vq7_6_3, vq7_4_1) => (OwnS 3 1 vq7_3_3 (yq7_3_1.map cI) :: OwnS 3 1 vq7_6_3 (rq7_6_1.map cI) :: OwnS 3 1 vq7_4_1 (([(-1)] : List Int).map cI) :: Bx b3 26 [.slice none 0 0, .slice none 0 0, .bool false, I 0] :: L)) ?_ fun hSq7_4 => ?_
      · rintro ⟨vq7_3_3, vq7_6_3, vq7_4_1⟩
        refine TA.all1 (i := 1) (by kernel_rfl) ?_
        · refine TB.of rfl ?_
          refine TO.mkSSg (ee := 3) (sz := 1) (f := cI) kelemB_38_23_1_24_true kinfo_23_bind_zero_some_slice_none_0_0 rfl rfl hkq7_1_2 rfl fun vq7_1_3 hsq7_1_4 => ?_
          refine TA.back (.inr (fun _ s => Sat.by [4] 1 4 (by kernel_rfl) s)) ?_
          refine TA.asL (L' := (SS 23 3 1 cI vq7_1_3 hsq7_1_4 (yq7_1_1) :: OwnS 3 1 vq7_3_3 (yq7_3_1.map cI) :: OwnS 3 1 vq7_6_3 (rq7_6_1.map cI) :: OwnS 3 1 vq7_4_1 (([(-1)] : List Int).map cI) :: Bx b3 26 [.slice none 0 0, .slice none 0 0, .bool false, I 0] :: L)) (listed' := #[true, true, true, true, true, true, true, false, false, false]) (by kernel_rfl) (by kernel_rfl) ?_
          exact TA.jump hSq7_2 (vq7_1_3, hsq7_1_4, vq7_3_3, vq7_6_3, vq7_4_1) rfl (by kernel_rfl) ⟨rfl, rfl, rfl, rfl, rfl, rfl, rfl, trivial⟩ (fun _ s => Sat.by [4, 4, 4, 4, 4] 5 0 (by kernel_rfl) s)
      refine TA.lem (γ := Value × (List Value) × Value × Value) 4 #[true, true, true, true, true, true, false, false, false, false] (fun (vq7_1_3, hsq7_1_4, vq7_3_3, vq7_4_1) => [(1, h1), (2, I a2), (3, h3), (8, .pointer (some ⟨b3, 0, none⟩)), (32, vq7_1_3), (34, vq7_3_3), (35, vq7_4_1), (36, I a0)]) (fun (vq7_1_3, hsq7_1_4, vq7_3_3, vq7_4_1) => (SS 23 3 1 cI vq7_1_3 hsq7_1_4 (yq7_1_1) :: OwnS 3 1 vq7_3_3 (yq7_3_1.map cI) :: OwnS 3 1 vq7_4_1 (([(-1)] : List Int).map cI) :: Bx b3 26 [.slice none 0 0, .slice none 0 0, .bool false, I 0] :: L)) ?_ fun hSq7_5 => ?_
      · rintro ⟨vq7_1_3, hsq7_1_4, vq7_3_3, vq7_4_1⟩
        refine TA.all1 (i := 6) (by kernel_rfl) ?_
        · refine TB.of rfl ?_
          refine TO.callO kcallB_11_true rfl rfl rfl (fun _ st => C11 (OwnS.rd (Ent.at 2 rfl)) hcq7_6_2 st) ?_
          rintro vq7_6_3 _ ⟨_, rfl, rfl⟩
          refine TA.back (.inr (fun _ s => Sat.by [4] 1 4 (by kernel_rfl) s)) ?_
          refine TA.asL (L' := (OwnS 3 1 vq7_6_3 (rq7_6_1.map cI) :: SS 23 3 1 cI vq7_1_3 hsq7_1_4 (yq7_1_1) :: OwnS 3 1 vq7_3_3 (yq7_3_1.map cI) :: OwnS 3 1 vq7_4_1 (([(-1)] : List Int).map cI) :: Bx b3 26 [.slice none 0 0, .slice none 0 0, .bool false, I 0] :: L)) (listed' := #[true, true, true, true, true, true, true, false, false, false]) (by kernel_rfl) (by kernel_rfl) ?_
          exact TA.jump hSq7_2 (vq7_1_3, hsq7_1_4, vq7_3_3, vq7_6_3, vq7_4_1) rfl (by kernel_rfl) ⟨rfl, rfl, rfl, rfl, rfl, rfl, rfl, trivial⟩ (fun _ s => Sat.by [4, 4, 2, 4, 4] 5 0 (by kernel_rfl) s)
      refine TA.lem (γ := Value × (List Value) × Value) 5 #[true, true, true, false, true, true, false, false, false, false] (fun (vq7_1_3, hsq7_1_4, vq7_4_1) => [(1, h1), (2, I a2), (3, h3), (8, .pointer (some ⟨b3, 0, none⟩)), (32, vq7_1_3), (33, I a0), (35, vq7_4_1), (36, I a0)]) (fun (vq7_1_3, hsq7_1_4, vq7_4_1) => (SS 23 3 1 cI vq7_1_3 hsq7_1_4 (yq7_1_1) :: OwnS 3 1 vq7_4_1 (([(-1)] : List Int).map cI) :: Bx b3 26 [.slice none 0 0, .slice none 0 0, .bool false, I 0] :: L)) ?_ fun hSq7_6 => ?_
      · rintro ⟨vq7_1_3, hsq7_1_4, vq7_4_1⟩
        refine TA.all2 (i := 3) (j := 6) (by kernel_rfl) ?_ ?_
        · refine TB.of rfl ?_
          refine TO.mkS (f := cI) (za := 0) kelemB_23_3_1_8_true kinfo_3_bind_zero_some_I_0 rfl (by decide) rfl rfl hkq7_3_2 rfl fun vq7_3_3 => ?_
          refine TA.back (.inr (fun _ s => Sat.by [3] 1 3 (by kernel_rfl) s)) ?_
          refine TA.asL (L' := (OwnS 3 1 vq7_3_3 (yq7_3_1.map cI) :: SS 23 3 1 cI vq7_1_3 hsq7_1_4 (yq7_1_1) :: OwnS 3 1 vq7_4_1 (([(-1)] : List Int).map cI) :: Bx b3 26 [.slice none 0 0, .slice none 0 0, .bool false, I 0] :: L)) (listed' := #[true, true, true, true, true, true, false, false, false, false]) (by kernel_rfl) (by kernel_rfl) ?_
          exact TA.jump hSq7_5 (vq7_1_3, hsq7_1_4, vq7_3_3, vq7_4_1) rfl (by kernel_rfl) ⟨rfl, rfl, rfl, rfl, rfl, rfl, rfl, rfl, trivial⟩ (fun _ s => Sat.by [3, 3, 2, 3] 4 0 (by kernel_rfl) s)
        · refine TB.of rfl ?_
          refine TO.callO kcallB_11_true rfl rfl rfl (fun _ st => C11 (OwnS.rd (Ent.at 1 rfl)) hcq7_6_2 st) ?_
          rintro vq7_6_3 _ ⟨_, rfl, rfl⟩
          refine TA.back (.inr (fun _ s => Sat.by [3] 1 3 (by kernel_rfl) s)) ?_
          refine TA.asL (L' := (OwnS 3 1 vq7_6_3 (rq7_6_1.map cI) :: SS 23 3 1 cI vq7_1_3 hsq7_1_4 (yq7_1_1) :: OwnS 3 1 vq7_4_1 (([(-1)] : List Int).map cI) :: Bx b3 26 [.slice none 0 0, .slice none 0 0, .bool false, I 0] :: L)) (listed' := #[true, true, true, false, true, true, true, false, false, false]) (by kernel_rfl) (by kernel_rfl) ?_
          exact TA.jump hSq7_3 (vq7_1_3, hsq7_1_4, vq7_6_3, vq7_4_1) rfl (by kernel_rfl) ⟨rfl, rfl, rfl, rfl, rfl, rfl, rfl, trivial⟩ (fun _ s => Sat.by [3, 3, 2, 3] 4 0 (by kernel_rfl) s)
      refine TA.lem (γ := Value × Value) 5 #[true, false, true, true, true, true, false, false, false, false] (fun (vq7_3_3, vq7_4_1) => [(1, h1), (2, I a2), (3, h3), (8, .pointer (some ⟨b3, 0, none⟩)), (31, I a0), (34, vq7_3_3), (35, vq7_4_1), (36, I a0)]) (fun (vq7_3_3, vq7_4_1) => (OwnS 3 1 vq7_3_3 (yq7_3_1.map cI) :: OwnS 3 1 vq7_4_1 (([(-1)] : List Int).map cI) :: Bx b3 26 [.slice none 0 0, .slice none 0 0, .bool false, I 0] :: L)) ?_ fun hSq7_7 => ?_
      · rintro ⟨vq7_3_3, vq7_4_1⟩
        refine TA.all2 (i := 1) (j := 6) (by kernel_rfl) ?_ ?_
        · refine TB.of rfl ?_
          refine TO.mkSSg (ee := 3) (sz := 1) (f := cI) kelemB_38_23_1_24_true kinfo_23_bind_zero_some_slice_none_0_0 rfl rfl hkq7_1_2 rfl fun vq7_1_3 hsq7_1_4 => ?_
          refine TA.back (.inr (fun _ s => Sat.by [3] 1 3 (by kernel_rfl) s)) ?_
          refine TA.asL (L' := (SS 23 3 1 cI vq7_1_3 hsq7_1_4 (yq7_1_1) :: OwnS 3 1 vq7_3_3 (yq7_3_1.map cI) :: OwnS 3 1 vq7_4_1 (([(-1)] : List Int).map cI) :: Bx b3 26 [.slice none 0 0, .slice none 0 0, .bool false, I 0] :: L)) (listed' := #[true, true, true, true, true, true, false, false, false, false]) (by kernel_rfl) (by kernel_rfl) ?_
          exact TA.jump hSq7_5 (vq7_1_3, hsq7_1_4, vq7_3_3, vq7_4_1) rfl (by kernel_rfl) ⟨rfl, rfl, rfl, rfl, rfl, rfl, rfl, rfl, trivial⟩ (fun _ s => Sat.by [3, 3, 3, 3] 4 0 (by kernel_rfl) s)
        · refine TB.of rfl ?_
          refine TO.callO kcallB_11_true rfl rfl rfl (fun _ st => C11 (OwnS.rd (Ent.at 1 rfl)) hcq7_6_2 st) ?_
          rintro vq7_6_3 _ ⟨_, rfl, rfl⟩
          refine TA.back (.inr (fun _ s => Sat.by [3] 1 3 (by kernel_rfl) s)) ?_
          refine TA.asL (L' := (OwnS 3 1 vq7_6_3 (rq7_6_1.map cI) :: OwnS 3 1 vq7_3_3 (yq7_3_1.map cI) :: OwnS 3 1 vq7_4_1 (([(-1)] : List Int).map cI) :: Bx b3 26 [.slice none 0 0, .slice none 0 0, .bool false, I 0] :: L)) (listed' := #[true, false, true, true, true, true, true, false, false, false]) (by kernel_rfl) (by kernel_rfl) ?_
          exact TA.jump hSq7_4 (vq7_3_3, vq7_6_3, vq7_4_1) rfl (by kernel_rfl) ⟨rfl, rfl, rfl, rfl, rfl, rfl, rfl, trivial⟩ (fun _ s => Sat.by [3, 3, 2, 3] 4 0 (by kernel_rfl) s)
      refine TA.lem (γ := Value × Value) 5 #[true, false, true, false, true, true, true, false, false, false] (fun (vq7_6_3, vq7_4_1) => [(1, h1), (2, I a2), (3, h3), (8, .pointer (some ⟨b3, 0, none⟩)), (31, I a0), (33, I a0), (37, vq7_6_3)]) (fun (vq7_6_3, vq7_4_1) => (OwnS 3 1 vq7_6_3 (rq7_6_1.map cI) :: OwnS 3 1 vq7_4_1 (([(-1)] : List Int).map cI) :: Bx b3 26 [.slice none 0 0, .slice none 0 0, .bool false, I 0] :: L)) ?_ fun hSq7_8 => ?_
      · rintro ⟨vq7_6_3, vq7_4_1⟩
        refine TA.all2 (i := 1) (j := 3) (by kernel_rfl) ?_ ?_
        · refine TB.of rfl ?_
          refine TO.mkSSg (ee := 3) (sz := 1) (f := cI) kelemB_38_23_1_24_true kinfo_23_bind_zero_some_slice_none_0_0 rfl rfl hkq7_1_2 rfl fun vq7_1_3 hsq7_1_4 => ?_
          refine TA.back (.inr (fun _ s => Sat.by [3] 1 3 (by kernel_rfl) s)) ?_
          refine TA.asL (L' := (SS 23 3 1 cI vq7_1_3 hsq7_1_4 (yq7_1_1) :: OwnS 3 1 vq7_6_3 (rq7_6_1.map cI) :: OwnS 3 1 vq7_4_1 (([(-1)] : List Int).map cI) :: Bx b3 26 [.slice none 0 0, .slice none 0 0, .bool false, I 0] :: L)) (listed' := #[true, true, true, false, true, true, true, false, false, false]) (by kernel_rfl) (by kernel_rfl) ?_
          exact TA.jump hSq7_3 (vq7_1_3, hsq7_1_4, vq7_6_3, vq7_4_1) rfl (by kernel_rfl) ⟨rfl, rfl, rfl, rfl, rfl, rfl, rfl, trivial⟩ (fun _ s => Sat.by [3, 3, 3, 3] 4 0 (by kernel_rfl) s)
        · refine TB.of rfl ?_
          refine TO.mkS (f := cI) (za := 0) kelemB_23_3_1_8_true kinfo_3_bind_zero_some_I_0 rfl (by decide) rfl rfl hkq7_3_2 rfl fun vq7_3_3 => ?_
          refine TA.back (.inr (fun _ s => Sat.by [3] 1 3 (by kernel_rfl) s)) ?_
          refine TA.asL (L' := (OwnS 3 1 vq7_3_3 (yq7_3_1.map cI) :: OwnS 3 1 vq7_6_3 (rq7_6_1.map cI) :: OwnS 3 1 vq7_4_1 (([(-1)] : List Int).map cI) :: Bx b3 26 [.slice none 0 0, .slice none 0 0, .bool false, I 0] :: L)) (listed' := #[true, false, true, true, true, true, true, false, false, false]) (by kernel_rfl) (by kernel_rfl) ?_
          exact TA.jump hSq7_4 (vq7_3_3, vq7_6_3, vq7_4_1) rfl (by kernel_rfl) ⟨rfl, rfl, rfl, rfl, rfl, rfl, rfl, trivial⟩ (fun _ s => Sat.by [3, 3, 3, 3] 4 0 (by kernel_rfl) s)
      refine TA.lem (γ := Value × (List Value) × Value) 5 #[true, true, true, true, false, true, false, false, false, false] (fun (vq7_1_3, hsq7_1_4, vq7_3_3) => [(1, h1), (2, I a2), (3, h3), (8, .pointer (some ⟨b3, 0, none⟩)), (32, vq7_1_3), (34, vq7_3_3), (36, I a0)]) (fun (vq7_1_3, hsq7_1_4, vq7_3_3) => (SS 23 3 1 cI vq7_1_3 hsq7_1_4 (yq7_1_1) :: OwnS 3 1 vq7_3_3 (yq7_3_1.map cI) :: Bx b3 26 [.slice none 0 0, .slice none 0 0, .bool false, I 0] :: L)) ?_ fun hSq7_9 => ?_
      · rintro ⟨vq7_1_3, hsq7_1_4, vq7_3_3⟩
        refine TA.all1 (i := 4) (by kernel_rfl) ?_
        · refine TB.of rfl ?_
          refine TO.litS (f := cI) ([(-1)] : List Int) kelemB_23_3_1_8_true kinfo_3_bind_zero_some_I_0 rfl rfl (fun _ => rfl) rfl rfl (by kernel_rfl) rfl fun vq7_4_1 => ?_
          refine TA.back (.inr (fun _ s => Sat.by [3] 1 3 (by kernel_rfl) s)) ?_
          refine TA.asL (L' := (OwnS 3 1 vq7_4_1 (([(-1)] : List Int).map cI) :: SS 23 3 1 cI vq7_1_3 hsq7_1_4 (yq7_1_1) :: OwnS 3 1 vq7_3_3 (yq7_3_1.map cI) :: Bx b3 26 [.slice none 0 0, .slice none 0 0, .bool false, I 0] :: L)) (listed' := #[true, true, true, true, true, true, false, false, false, false]) (by kernel_rfl) (by kernel_rfl) ?_
          exact TA.jump hSq7_5 (vq7_1_3, hsq7_1_4, vq7_3_3, vq7_4_1) rfl (by kernel_rfl) ⟨rfl, rfl, rfl, rfl, rfl, rfl, rfl, rfl, trivial⟩ (fun _ s => Sat.by [3, 1, 3, 3] 4 0 (by kernel_rfl) s)
      refine TA.lem (γ := Value × (List Value)) 6 #[true, true, true, false, false, true, false, false, false, false] (fun (vq7_1_3, hsq7_1_4) => [(1, h1), (2, I a2), (3, h3), (8, .pointer (some ⟨b3, 0, none⟩)), (32, vq7_1_3), (33, I a0), (36, I a0)]) (fun (vq7_1_3, hsq7_1_4) => (SS 23 3 1 cI vq7_1_3 hsq7_1_4 (yq7_1_1) :: Bx b3 26 [.slice none 0 0, .slice none 0 0, .bool false, I 0] :: L)) ?_ fun hSq7_10 => ?_
      · rintro ⟨vq7_1_3, hsq7_1_4⟩
        refine TA.all2 (i := 3) (j := 4) (by kernel_rfl) ?_ ?_
        · refine TB.of rfl ?_
          refine TO.mkS (f := cI) (za := 0) kelemB_23_3_1_8_true kinfo_3_bind_zero_some_I_0 rfl (by decide) rfl rfl hkq7_3_2 rfl fun vq7_3_3 => ?_
          refine TA.back (.inr (fun _ s => Sat.by [2] 1 2 (by kernel_rfl) s)) ?_
          refine TA.asL (L' := (OwnS 3 1 vq7_3_3 (yq7_3_1.map cI) :: SS 23 3 1 cI vq7_1_3 hsq7_1_4 (yq7_1_1) :: Bx b3 26 [.slice none 0 0, .slice none 0 0, .bool false, I 0] :: L)) (listed' := #[true, true, true, true, false, true, false, false, false, false]) (by kernel_rfl) (by kernel_rfl) ?_
          exact TA.jump hSq7_9 (vq7_1_3, hsq7_1_4, vq7_3_3) rfl (by kernel_rfl) ⟨rfl, rfl, rfl, rfl, rfl, rfl, rfl, trivial⟩ (fun _ s => Sat.by [2, 1, 2] 3 0 (by kernel_rfl) s)
        · refine TB.of rfl ?_
          refine TO.litS (f := cI) ([(-1)] : List Int) kelemB_23_3_1_8_true kinfo_3_bind_zero_some_I_0 rfl rfl (fun _ => rfl) rfl rfl (by kernel_rfl) rfl fun vq7_4_1 => ?_
          refine TA.back (.inr (fun _ s => Sat.by [2] 1 2 (by kernel_rfl) s)) ?_
          refine TA.asL (L' := (OwnS 3 1 vq7_4_1 (([(-1)] : List Int).map cI) :: SS 23 3 1 cI vq7_1_3 hsq7_1_4 (yq7_1_1) :: Bx b3 26 [.slice none 0 0, .slice none 0 0, .bool false, I 0] :: L)) (listed' := #[true, true, true, false, true, true, false, false, false, false]) (by kernel_rfl) (by kernel_rfl) ?_
          exact TA.jump hSq7_6 (vq7_1_3, hsq7_1_4, vq7_4_1) rfl (by kernel_rfl) ⟨rfl, rfl, rfl, rfl, rfl, rfl, rfl, rfl, trivial⟩ (fun _ s => Sat.by [2, 1, 2] 3 0 (by kernel_rfl) s)
      refine TA.lem (γ := Value) 6 #[true, false, true, true, false, true, false, false, false, false] (fun vq7_3_3 => [(1, h1), (2, I a2), (3, h3), (8, .pointer (some ⟨b3, 0, none⟩)), (31, I a0), (34, vq7_3_3), (36, I a0)]) (fun vq7_3_3 => (OwnS 3 1 vq7_3_3 (yq7_3_1.map cI) :: Bx b3 26 [.slice none 0 0, .slice none 0 0, .bool false, I 0] :: L)) ?_ fun hSq7_11 => ?_
      · intro vq7_3_3
        refine TA.all2 (i := 1) (j := 4) (by kernel_rfl) ?_ ?_
        · refine TB.of rfl ?_
          refine TO.mkSSg (ee := 3) (sz := 1) (f := cI) kelemB_38_23_1_24_true kinfo_23_bind_zero_some_slice_none_0_0 rfl rfl hkq7_1_2 rfl fun vq7_1_3 hsq7_1_4 => ?_
          refine TA.back (.inr (fun _ s => Sat.by [2] 1 2 (by kernel_rfl) s)) ?_
          refine TA.asL (L' := (SS 23 3 1 cI vq7_1_3 hsq7_1_4 (yq7_1_1) :: OwnS 3 1 vq7_3_3 (yq7_3_1.map cI) :: Bx b3 26 [.slice none 0 0, .slice none 0 0, .bool false, I 0] :: L)) (listed' := #[true, true, true, true, false, true, false, false, false, false]) (by kernel_rfl) (by kernel_rfl) ?_
          exact TA.jump hSq7_9 (vq7_1_3, hsq7_1_4, vq7_3_3) rfl (by kernel_rfl) ⟨rfl, rfl, rfl, rfl, rfl, rfl, rfl, trivial⟩ (fun _ s => Sat.by [2, 2, 2] 3 0 (by kernel_rfl) s)
        · refine TB.of rfl ?_
          refine TO.litS (f := cI) ([(-1)] : List Int) kelemB_23_3_1_8_true kinfo_3_bind_zero_some_I_0 rfl rfl (fun _ => rfl) rfl rfl (by kernel_rfl) rfl fun vq7_4_1 => ?_
          refine TA.back (.inr (fun _ s => Sat.by [2] 1 2 (by kernel_rfl) s)) ?_
          refine TA.asL (L' := (OwnS 3 1 vq7_4_1 (([(-1)] : List Int).map cI) :: OwnS 3 1 vq7_3_3 (yq7_3_1.map cI) :: Bx b3 26 [.slice none 0 0, .slice none 0 0, .bool false, I 0] :: L)) (listed' := #[true, false, true, true, true, true, false, false, false, false]) (by kernel_rfl) (by kernel_rfl) ?_
          exact TA.jump hSq7_7 (vq7_3_3, vq7_4_1) rfl (by kernel_rfl) ⟨rfl, rfl, rfl, rfl, rfl, rfl, rfl, rfl, trivial⟩ (fun _ s => Sat.by [2, 1, 2] 3 0 (by kernel_rfl) s)
      refine TA.lem (γ := Value) 6 #[true, false, true, false, true, true, false, false, false, false] (fun vq7_4_1 => [(1, h1), (2, I a2), (3, h3), (8, .pointer (some ⟨b3, 0, none⟩)), (31, I a0), (33, I a0), (35, vq7_4_1), (36, I a0)]) (fun vq7_4_1 => (OwnS 3 1 vq7_4_1 (([(-1)] : List Int).map cI) :: Bx b3 26 [.slice none 0 0, .slice none 0 0, .bool false, I 0] :: L)) ?_ fun hSq7_12 => ?_
      · intro vq7_4_1
        refine TA.all3 (i := 1) (j := 3) (k := 6) (by kernel_rfl) ?_ ?_ ?_
        · refine TB.of rfl ?_
          refine TO.mkSSg (ee := 3) (sz := 1) (f := cI) kelemB_38_23_1_24_true kinfo_23_bind_zero_some_slice_none_0_0 rfl rfl hkq7_1_2 rfl fun vq7_1_3 hsq7_1_4 => ?_
          refine TA.back (.inr (fun _ s => Sat.by [2] 1 2 (by kernel_rfl) s)) ?_
          refine TA.asL (L' := (SS 23 3 1 cI vq7_1_3 hsq7_1_4 (yq7_1_1) :: OwnS 3 1 vq7_4_1 (([(-1)] : List Int).map cI) :: Bx b3 26 [.slice none 0 0, .slice none 0 0, .bool false, I 0] :: L)) (listed' := #[true, true, true, false, true, true, false, false, false, false]) (by kernel_rfl) (by kernel_rfl) ?_
          exact TA.jump hSq7_6 (vq7_1_3, hsq7_1_4, vq7_4_1) rfl (by kernel_rfl) ⟨rfl, rfl, rfl, rfl, rfl, rfl, rfl, rfl, trivial⟩ (fun _ s => Sat.by [2, 2, 2] 3 0 (by kernel_rfl) s)
        · refine TB.of rfl ?_
          refine TO.mkS (f := cI) (za := 0) kelemB_23_3_1_8_true kinfo_3_bind_zero_some_I_0 rfl (by decide) rfl rfl hkq7_3_2 rfl fun vq7_3_3 => ?_
          refine TA.back (.inr (fun _ s => Sat.by [2] 1 2 (by kernel_rfl) s)) ?_
          refine TA.asL (L' := (OwnS 3 1 vq7_3_3 (yq7_3_1.map cI) :: OwnS 3 1 vq7_4_1 (([(-1)] : List Int).map cI) :: Bx b3 26 [.slice none 0 0, .slice none 0 0, .bool false, I 0] :: L)) (listed' := #[true, false, true, true, true, true, false, false, false, false]) (by kernel_rfl) (by kernel_rfl) ?_
          exact TA.jump hSq7_7 (vq7_3_3, vq7_4_1) rfl (by kernel_rfl) ⟨rfl, rfl, rfl, rfl, rfl, rfl, rfl, rfl, trivial⟩ (fun _ s => Sat.by [2, 2, 2] 3 0 (by kernel_rfl) s)
        · refine TB.of rfl ?_
          refine TO.callO kcallB_11_true rfl rfl rfl (fun _ st => C11 (OwnS.rd (Ent.at 0 rfl)) hcq7_6_2 st) ?_
          rintro vq7_6_3 _ ⟨_, rfl, rfl⟩
          refine TA.back (.inr (fun _ s => Sat.by [2] 1 2 (by kernel_rfl) s)) ?_
          refine TA.asL (L' := (OwnS 3 1 vq7_6_3 (rq7_6_1.map cI) :: OwnS 3 1 vq7_4_1 (([(-1)] : List Int).map cI) :: Bx b3 26 [.slice none 0 0, .slice none 0 0, .bool false, I 0] :: L)) (listed' := #[true, false, true, false, true, true, true, false, false, false]) (by kernel_rfl) (by kernel_rfl) ?_
          exact TA.jump hSq7_8 (vq7_6_3, vq7_4_1) rfl (by kernel_rfl) ⟨rfl, rfl, rfl, rfl, rfl, rfl, rfl, trivial⟩ (fun _ s => Sat.by [2, 2, 2] 3 0 (by kernel_rfl) s)
      refine TA.all3 (i := 1) (j := 3) (k := 4) (by kernel_rfl) ?_ ?_ ?_
      · refine TB.of rfl ?_
        refine TO.mkSSg (ee := 3) (sz := 1) (f := cI) kelemB_38_23_1_24_true kinfo_23_bind_zero_some_slice_none_0_0 rfl rfl hkq7_1_2 rfl fun vq7_1_3 hsq7_1_4 => ?_
        refine TA.back (.inr (fun _ s => Sat.by [1] 1 1 (by kernel_rfl) s)) ?_
        refine TA.asL (L' := (SS 23 3 1 cI vq7_1_3 hsq7_1_4 (yq7_1_1) :: Bx b3 26 [.slice none 0 0, .slice none 0 0, .bool false, I 0] :: L)) (listed' := #[true, true, true, false, false, true, false, false, false, false]) (by kernel_rfl) (by kernel_rfl) ?_
        exact TA.jump hSq7_10 (vq7_1_3, hsq7_1_4) rfl (by kernel_rfl) ⟨rfl, rfl, rfl, rfl, rfl, rfl, rfl, trivial⟩ (fun _ s => Sat.by [1, 1] 2 0 (by kernel_rfl) s)
      · refine TB.of rfl ?_
        refine TO.mkS (f := cI) (za := 0) kelemB_23_3_1_8_true kinfo_3_bind_zero_some_I_0 rfl (by decide) rfl rfl hkq7_3_2 rfl fun vq7_3_3 => ?_
        refine TA.back (.inr (fun _ s => Sat.by [1] 1 1 (by kernel_rfl) s)) ?_
        refine TA.asL (L' := (OwnS 3 1 vq7_3_3 (yq7_3_1.map cI) :: Bx b3 26 [.slice none 0 0, .slice none 0 0, .bool false, I 0] :: L)) (listed' := #[true, false, true, true, false, true, false, false, false, false]) (by kernel_rfl) (by kernel_rfl) ?_
        exact TA.jump hSq7_11 vq7_3_3 rfl (by kernel_rfl) ⟨rfl, rfl, rfl, rfl, rfl, rfl, rfl, trivial⟩ (fun _ s => Sat.by [1, 1] 2 0 (by kernel_rfl) s)
      · refine TB.of rfl ?_
        refine TO.litS (f := cI) ([(-1)] : List Int) kelemB_23_3_1_8_true kinfo_3_bind_zero_some_I_0 rfl rfl (fun _ => rfl) rfl rfl (by kernel_rfl) rfl fun vq7_4_1 => ?_
        refine TA.back (.inr (fun _ s => Sat.by [1] 1 1 (by kernel_rfl) s)) ?_
        refine TA.asL (L' := (OwnS 3 1 vq7_4_1 (([(-1)] : List Int).map cI) :: Bx b3 26 [.slice none 0 0, .slice none 0 0, .bool false, I 0] :: L)) (listed' := #[true, false, true, false, true, true, false, false, false, false]) (by kernel_rfl) (by kernel_rfl) ?_
        exact TA.jump hSq7_12 vq7_4_1 rfl (by kernel_rfl) ⟨rfl, rfl, rfl, rfl, rfl, rfl, rfl, rfl, trivial⟩ (fun _ s => Sat.by [1, 1] 2 0 (by kernel_rfl) s)
    · intro a w ⟨v8, hs9, v12, v15, bq7_8_1, he, hs⟩
      refine TC.use ?_ he hs
      refine TC.k ?_
      refine TC.k ?_
      refine TC.region ?_
      refine TO.s rfl rfl rfl (StepS.move rfl) ?_
      refine TO.s rfl rfl rfl (StepS.lenm rfl e1.tl.tl.tl.tl.tl ksliceB_22_42_2_true rfl) ?_
      refine TO.s rfl rfl rfl (StepS.move rfl) ?_
      refine TO.code ?_
      obtain ⟨o27, hw28, hm⟩ := bind_some hm
      refine TC.loop hw28 (fun (y19, x21) => fun a w => ∃ hs20 : List Value, Mid 201 B [(2, I a2), (3, h3), (8, .pointer (some ⟨b3, 0, none⟩)), (11, .pointer (some ⟨bq7_8_1, 0, none⟩)), (40, h1), (41, I (a1.length : Int)), (42, I x21)] (SS 23 3 1 cI v8 hs20 (y19) :: OwnS 3 1 v12 (y14.map cI) :: OwnS 3 1 v15 (y17.map cI) :: Bx bq7_8_1 41 [v8, .slice none 0 0, v12, v15, I 0] :: Bx b3 26 [.slice none 0 0, .slice none 0 0, .bool false, I 0] :: L) a w) (fun y25 => fun a w => ∃ hs26 : List Value, Mid 201 B [(2, I a2), (3, h3), (8, .pointer (some ⟨b3, 0, none⟩)), (11, .pointer (some ⟨bq7_8_1, 0, none⟩))] (SS 23 3 1 cI v8 hs26 (y25) :: OwnS 3 1 v12 (y14.map cI) :: OwnS 3 1 v15 (y17.map cI) :: Bx bq7_8_1 41 [v8, .slice none 0 0, v12, v15, I 0] :: Bx b3 26 [.slice none 0 0, .slice none 0 0, .bool false, I 0] :: L) a w) (fun (_ : Unit) _ _ => False) ?_ ?_ ?_ ?_
      · rintro ⟨y19, x21⟩ o27r hb29 a w ⟨hs20, he, hs⟩
        dsimp only [F4_L0] at hb29
        refine TC.use ?_ he hs
        refine TC.k ?_
        refine TC.region ?_
        refine TO.s rfl rfl rfl (StepS.cmp rfl rfl rfl) ?_
        refine TO.code ?_
        refine TC.k ?_
        refine TC.cond rfl (fun hc30 => ?_) (fun hc30 => ?_)
        · replace hb29 := cond_t hc30 hb29
          refine TC.skipk ?_
          refine TC.k ?_
          refine TC.block ?_
          refine TC.k ?_
          refine TC.region ?_
          obtain ⟨x31, hx32, hb29⟩ := bind_some hb29
          refine TO.s rfl rfl rfl (StepS.idx rfl rfl e1.tl.tl.tl.tl.tl ksliceB_22_42_2_true (idx_spec hx32).1 (idxm_lt hx32)) ?_
          refine TO.s rfl rfl rfl (StepS.ldE rfl e1.tl.tl.tl.tl.tl kaggB_42_2_true rfl (idxm hx32)) ?_
          refine TO.alloc kinfo_42_bind_zero_some_agg_I_0_I_0 rfl rfl fun b33 => ?_
          refine TO.stB (us := [I x31.1, I x31.2]) 0 [I x31.1, I x31.2] rfl rfl rfl ksizeB_42_2_true rfl rfl rfl (by simp [Value.oneCell']) rfl ?_
          refine TO.code ?_
          refine TC.k ?_
          obtain ⟨y35, hj37, hb29⟩ := bind_some hb29
          first | refine TC.cutM (fun a w => ∃ hs36 : List Value, Mid 201 B [(2, I a2), (3, h3), (8, .pointer (some ⟨b3, 0, none⟩)), (11, .pointer (some ⟨bq7_8_1, 0, none⟩)), (13, .pointer (some ⟨b33, 0, none⟩)), (40, h1), (41, I (a1.length : Int)), (42, I x21)] (Bx b33 42 [I x31.1, I x31.2] :: SS 23 3 1 cI v8 hs36 (y35) :: OwnS 3 1 v12 (y14.map cI) :: OwnS 3 1 v15 (y17.map cI) :: Bx bq7_8_1 41 [v8, .slice none 0 0, v12, v15, I 0] :: Bx b3 26 [.slice none 0 0, .slice none 0 0, .bool false, I 0] :: L) a w) ?_ ?_ | refine TC.cutX (fun a w => ∃ hs36 : List Value, Mid 201 B [(2, I a2), (3, h3), (8, .pointer (some ⟨b3, 0, none⟩)), (11, .pointer (some ⟨bq7_8_1, 0, none⟩)), (13, .pointer (some ⟨b33, 0, none⟩)), (40, h1), (41, I (a1.length : Int)), (42, I x21)] (Bx b33 42 [I x31.1, I x31.2] :: SS 23 3 1 cI v8 hs36 (y35) :: OwnS 3 1 v12 (y14.map cI) :: OwnS 3 1 v15 (y17.map cI) :: Bx bq7_8_1 41 [v8, .slice none 0 0, v12, v15, I 0] :: Bx b3 26 [.slice none 0 0, .slice none 0 0, .bool false, I 0] :: L) a w) ?_ ?_
          · obtain ⟨xq34_12_1, hxq34_12_2, hj37⟩ := bind_some hj37
            obtain ⟨yq34_17_2, hkq34_17_3, hj37⟩ := bind_some hj37
            obtain ⟨xq34_18_1, hxq34_18_2, hj37⟩ := bind_some hj37
            refine TC.region_any (Bx b33 42 [I x31.1, I x31.2] :: OwnS 3 1 v12 (y14.map cI) :: OwnS 3 1 v15 (y17.map cI) :: Bx bq7_8_1 41 [v8, .slice none 0 0, v12, v15, I 0] :: Bx b3 26 [.slice none 0 0, .slice none 0 0, .bool false, I 0] :: L) 19 20 kfollows_mixedOrders_true rfl ?_
            refine TA.takeW 0 rfl rfl rfl rfl (StepS.move rfl) (by kernel_rfl) (by kernel_rfl) (by kernel_rfl) rfl (.inr (fun _ s => Sat.by [5, 5, 5, 5, 4] 5 1 (by kernel_rfl) s)) ?_
            refine TA.takeW 1 rfl rfl rfl rfl (StepS.nilc rfl) (by kernel_rfl) (by kernel_rfl) (by kernel_rfl) rfl (.inr (fun _ s => Sat.by [5, 5, 5, 5, 4] 5 1 (by kernel_rfl) s)) ?_
            refine TA.takeW 2 rfl rfl rfl rfl (StepS.fld rfl kfieldB_41_0_0_true) (by kernel_rfl) (by kernel_rfl) (by kernel_rfl) rfl (.inr (fun _ s => Sat.by [5, 5, 5, 5, 4] 5 1 (by kernel_rfl) s)) ?_
            refine TA.take 3 rfl rfl rfl rfl (StepS.ldB rfl (Ent.at 3 rfl) kscalB_38_true rfl) (by kernel_rfl) (by kernel_rfl) (by kernel_rfl) (by kernel_rfl) (by kernel_rfl) (fun _ s => Sat.by [5, 5, 5, 5, 4] 5 1 (by kernel_rfl) s) ?_
            refine TA.takeW 4 rfl rfl rfl rfl (StepS.aidx (j := 0) rfl rfl karrB_42_2_3_1_true ⟨by decide, by decide⟩ rfl) (by kernel_rfl) (by kernel_rfl) (by kernel_rfl) rfl (.inr (fun _ s => Sat.by [5, 5, 5, 5, 4] 5 1 (by kernel_rfl) s)) ?_
            refine TA.take 5 rfl rfl rfl rfl (StepS.ldB rfl (Ent.at 0 rfl) kscalB_3_true rfl) (by kernel_rfl) (by kernel_rfl) (by kernel_rfl) (by kernel_rfl) (by kernel_rfl) (fun _ s => Sat.by [5, 5, 5, 5, 4] 5 1 (by kernel_rfl) s) ?_
            refine TA.takeW 6 rfl rfl rfl rfl (StepS.move rfl) (by kernel_rfl) (by kernel_rfl) (by kernel_rfl) rfl (.inr (fun _ s => Sat.by [5, 5, 5, 5, 4] 5 1 (by kernel_rfl) s)) ?_
            refine TA.takeW 7 rfl rfl rfl rfl (StepS.nilc rfl) (by kernel_rfl) (by kernel_rfl) (by kernel_rfl) rfl (.inr (fun _ s => Sat.by [5, 5, 5, 5, 4] 5 1 (by kernel_rfl) s)) ?_
            refine TA.takeW 8 rfl rfl rfl rfl (StepS.fld rfl kfieldB_41_0_0_true) (by kernel_rfl) (by kernel_rfl) (by kernel_rfl) rfl (.inr (fun _ s => Sat.by [5, 5, 5, 5, 4] 5 1 (by kernel_rfl) s)) ?_
            refine TA.take 9 rfl rfl rfl rfl (StepS.ldB rfl (Ent.at 3 rfl) kscalB_38_true rfl) (by kernel_rfl) (by kernel_rfl) (by kernel_rfl) (by kernel_rfl) (by kernel_rfl) (fun _ s => Sat.by [5, 5, 5, 5, 4] 5 1 (by kernel_rfl) s) ?_
            refine TA.takeW 10 rfl rfl rfl rfl (StepS.aidx (j := 0) rfl rfl karrB_42_2_3_1_true ⟨by decide, by decide⟩ rfl) (by kernel_rfl) (by kernel_rfl) (by kernel_rfl) rfl (.inr (fun _ s => Sat.by [5, 5, 5, 5, 4] 5 1 (by kernel_rfl) s)) ?_
            refine TA.take 11 rfl rfl rfl rfl (StepS.ldB rfl (Ent.at 0 rfl) kscalB_3_true rfl) (by kernel_rfl) (by kernel_rfl) (by kernel_rfl) (by kernel_rfl) (by kernel_rfl) (fun _ s => Sat.by [5, 5, 5, 5, 4] 5 1 (by kernel_rfl) s) ?_
            refine TA.takeW 14 rfl rfl rfl rfl (StepS.aidx (j := 1) rfl rfl karrB_42_2_3_1_true ⟨by decide, by decide⟩ rfl) (by kernel_rfl) (by kernel_rfl) (by kernel_rfl) rfl (.inr (fun _ s => Sat.by [5, 5, 5, 5, 4] 5 1 (by kernel_rfl) s)) ?_
            refine TA.take 15 rfl rfl rfl rfl (StepS.ldB rfl (Ent.at 0 rfl) kscalB_3_true rfl) (by kernel_rfl) (by kernel_rfl) (by kernel_rfl) (by kernel_rfl) (by kernel_rfl) (fun _ s => Sat.by [5, 5, 5, 5, 4] 5 1 (by kernel_rfl) s) ?_
            refine TA.all2 (i := 12) (j := 16) (by kernel_rfl) ?_ ?_
            · refine TB.of rfl ?_
              refine TO.s rfl rfl rfl (StepS.idxRR rfl rfl (SS.rr (Ent.at 1 rfl)) ksliceB_38_23_1_true hxq34_12_2) ?_
              refine TA.back (.inr (fun _ s => Sat.by [5, 5, 5, 5, 4] 5 1 (by kernel_rfl) s)) ?_
              refine TA.asL (L' := (Bx b33 42 [I x31.1, I x31.2] :: SS 23 3 1 cI v8 hs20 (y19) :: OwnS 3 1 v12 (y14.map cI) :: OwnS 3 1 v15 (y17.map cI) :: Bx bq7_8_1 41 [v8, .slice none 0 0, v12, v15, I 0] :: Bx b3 26 [.slice none 0 0, .slice none 0 0, .bool false, I 0] :: L)) (listed' := #[true, true, true, true, true, true, true, true, true, true, true, true, true, false, true, true, false, false, false, false]) (by kernel_rfl) (by kernel_rfl) ?_
              refine TA.all2 (i := 13) (j := 16) (by kernel_rfl) ?_ ?_
              · refine TB.of rfl ?_
                refine TO.s rfl rfl rfl (StepS.ldRR rfl (SS.rr (Ent.at 1 rfl)) kscalB_23_true hxq34_12_2) ?_
                refine TA.back (.inr (fun _ s => Sat.by [5, 5, 5, 5, 4] 5 1 (by kernel_rfl) s)) ?_
                refine TA.asL (L' := (Bx b33 42 [I x31.1, I x31.2] :: SS 23 3 1 cI v8 hs20 (y19) :: OwnS 3 1 v12 (y14.map cI) :: OwnS 3 1 v15 (y17.map cI) :: Bx bq7_8_1 41 [v8, .slice none 0 0, v12, v15, I 0] :: Bx b3 26 [.slice none 0 0, .slice none 0 0, .bool false, I 0] :: L)) (listed' := #[true, true, true, true, true, true, true, true, true, true, true, true, true, true, true, true, false, false, false, false]) (by kernel_rfl) (by kernel_rfl) ?_
                refine TA.all1 (i := 16) (by kernel_rfl) ?_
                refine TB.of rfl ?_
                refine TO.litS (f := cI) ([x31.2] : List Int) kelemB_23_3_1_8_true kinfo_3_bind_zero_some_I_0 rfl rfl (fun _ => rfl) rfl rfl (by kernel_rfl) rfl fun vq34_16_1 => ?_
                refine TA.back (.inr (fun _ s => Sat.by [6, 6, 6, 6, 5] 5 2 (by kernel_rfl) s)) ?_
                refine TA.asL (L' := (OwnS 3 1 vq34_16_1 (([x31.2] : List Int).map cI) :: Bx b33 42 [I x31.1, I x31.2] :: SS 23 3 1 cI v8 hs20 (y19) :: OwnS 3 1 v12 (y14.map cI) :: OwnS 3 1 v15 (y17.map cI) :: Bx bq7_8_1 41 [v8, .slice none 0 0, v12, v15, I 0] :: Bx b3 26 [.slice none 0 0, .slice none 0 0, .bool false, I 0] :: L)) (listed' := #[true, true, true, true, true, true, true, true, true, true, true, true, true, true, true, true, true, false, false, false]) (by kernel_rfl) (by kernel_rfl) ?_
                refine TA.all1 (i := 17) (by kernel_rfl) ?_
                refine TB.of rfl ?_
                refine TO.ghost (fun _ s => Sat.front 2 rfl s) ?_
                refine TO.ghost (fun _ s => Sat.openRow hxq34_12_2 s) ?_
                refine TO.app (k := 0) (f := cI) kelemB_23_3_1_8_true (by decide) rfl rfl rfl (OwnS.rd (Ent.at 2 rfl)) hkq34_17_3 (fun x c hc => by simp [Value.oneCell'] at hc ⊢; first | (obtain rfl := hc; rfl) | (rcases hc with rfl <;> rfl)) rfl rfl fun vq34_17_4 => ?_
                refine TA.back (.inr (fun _ s => Sat.by [7, 7, 7, 7, 7] 5 3 (by kernel_rfl) s)) ?_
                refine TA.asL (L' := (OwnS 3 1 vq34_17_4 (yq34_17_2.map cI) :: SSh 23 3 1 cI v8 hs20 (y19) x31.1.toNat :: OwnS 3 1 vq34_16_1 (([x31.2] : List Int).map cI) :: Bx b33 42 [I x31.1, I x31.2] :: OwnS 3 1 v12 (y14.map cI) :: OwnS 3 1 v15 (y17.map cI) :: Bx bq7_8_1 41 [v8, .slice none 0 0, v12, v15, I 0] :: Bx b3 26 [.slice none 0 0, .slice none 0 0, .bool false, I 0] :: L)) (listed' := #[true, true, true, true, true, true, true, true, true, true, true, true, true, true, true, true, true, true, false, false]) (by kernel_rfl) (by kernel_rfl) ?_
                refine TA.all1 (i := 18) (by kernel_rfl) ?_
                refine TB.of rfl ?_
                refine TO.s rfl rfl rfl (StepS.idxRH rfl rfl (Ent.at 1 rfl) ksliceB_38_23_1_true hxq34_18_2) ?_
                refine TA.back (.inr (fun _ s => Sat.by [7, 7, 7, 7, 7] 5 3 (by kernel_rfl) s)) ?_
                refine TA.asL (L' := (OwnS 3 1 vq34_17_4 (yq34_17_2.map cI) :: SSh 23 3 1 cI v8 hs20 (y19) x31.1.toNat :: OwnS 3 1 vq34_16_1 (([x31.2] : List Int).map cI) :: Bx b33 42 [I x31.1, I x31.2] :: OwnS 3 1 v12 (y14.map cI) :: OwnS 3 1 v15 (y17.map cI) :: Bx bq7_8_1 41 [v8, .slice none 0 0, v12, v15, I 0] :: Bx b3 26 [.slice none 0 0, .slice none 0 0, .bool false, I 0] :: L)) (listed' := #[true, true, true, true, true, true, true, true, true, true, true, true, true, true, true, true, true, true, true, false]) (by kernel_rfl) (by kernel_rfl) ?_
                refine TA.all1 (i := 19) (by kernel_rfl) ?_
                refine TB.of rfl ?_
                refine TO.ghost (fun _ s => Sat.front 1 rfl s) ?_
                refine TO.stRowH (xs := yq34_17_2) rfl rfl hxq34_18_2 ksizeB_23_1_true ?_
                refine TA.back (.inl (by kernel_rfl)) ?_
                refine TA.asL (L' := (SS 23 3 1 cI v8 (hs20.set x31.1.toNat vq34_17_4) (y19.set x31.1.toNat yq34_17_2) :: OwnS 3 1 vq34_16_1 (([x31.2] : List Int).map cI) :: Bx b33 42 [I x31.1, I x31.2] :: OwnS 3 1 v12 (y14.map cI) :: OwnS 3 1 v15 (y17.map cI) :: Bx bq7_8_1 41 [v8, .slice none 0 0, v12, v15, I 0] :: Bx b3 26 [.slice none 0 0, .slice none 0 0, .bool false, I 0] :: L)) (listed' := #[true, true, true, true, true, true, true, true, true, true, true, true, true, true, true, true, true, true, true, true]) (by kernel_rfl) (by kernel_rfl) ?_
                cases hj37
                refine TA.nil (by kernel_rfl) fun a w e s => ?_
                exact ⟨(hs20.set x31.1.toNat vq34_17_4), e.sub (lk_of_allIn ⟨rfl, rfl, rfl, rfl, rfl, rfl, rfl, rfl, trivial⟩), s.mono fun _ s => (by exact Sat.by [6, 6, 6, 6, 4, 6] 6 1 (by kernel_rfl) s)⟩
              · refine TB.of rfl ?_
                refine TO.litS (f := cI) ([x31.2] : List Int) kelemB_23_3_1_8_true kinfo_3_bind_zero_some_I_0 rfl rfl (fun _ => rfl) rfl rfl (by kernel_rfl) rfl fun vq34_16_1 => ?_
                refine TA.back (.inr (fun _ s => Sat.by [6, 6, 6, 6, 5] 5 2 (by kernel_rfl) s)) ?_
                refine TA.asL (L' := (OwnS 3 1 vq34_16_1 (([x31.2] : List Int).map cI) :: Bx b33 42 [I x31.1, I x31.2] :: SS 23 3 1 cI v8 hs20 (y19) :: OwnS 3 1 v12 (y14.map cI) :: OwnS 3 1 v15 (y17.map cI) :: Bx bq7_8_1 41 [v8, .slice none 0 0, v12, v15, I 0] :: Bx b3 26 [.slice none 0 0, .slice none 0 0, .bool false, I 0] :: L)) (listed' := #[true, true, true, true, true, true, true, true, true, true, true, true, true, false, true, true, true, false, false, false]) (by kernel_rfl) (by kernel_rfl) ?_
                refine TA.all1 (i := 13) (by kernel_rfl) ?_
                refine TB.of rfl ?_
                refine TO.s rfl rfl rfl (StepS.ldRR rfl (SS.rr (Ent.at 2 rfl)) kscalB_23_true hxq34_12_2) ?_
                refine TA.back (.inr (fun _ s => Sat.by [6, 6, 6, 6, 5] 5 2 (by kernel_rfl) s)) ?_
                refine TA.asL (L' := (OwnS 3 1 vq34_16_1 (([x31.2] : List Int).map cI) :: Bx b33 42 [I x31.1, I x31.2] :: SS 23 3 1 cI v8 hs20 (y19) :: OwnS 3 1 v12 (y14.map cI) :: OwnS 3 1 v15 (y17.map cI) :: Bx bq7_8_1 41 [v8, .slice none 0 0, v12, v15, I 0] :: Bx b3 26 [.slice none 0 0, .slice none 0 0, .bool false, I 0] :: L)) (listed' := #[true, true, true, true, true, true, true, true, true, true, true, true, true, true, true, true, true, false, false, false]) (by kernel_rfl) (by kernel_rfl) ?_
                refine TA.all1 (i := 17) (by kernel_rfl) ?_
                refine TB.of rfl ?_
                refine TO.ghost (fun _ s => Sat.front 2 rfl s) ?_
                refine TO.ghost (fun _ s => Sat.openRow hxq34_12_2 s) ?_
                refine TO.app (k := 0) (f := cI) kelemB_23_3_1_8_true (by decide) rfl rfl rfl (OwnS.rd (Ent.at 2 rfl)) hkq34_17_3 (fun x c hc => by simp [Value.oneCell'] at hc ⊢; first | (obtain rfl := hc; rfl) | (rcases hc with rfl <;> rfl)) rfl rfl fun vq34_17_4 => ?_
                refine TA.back (.inr (fun _ s => Sat.by [7, 7, 7, 7, 7] 5 3 (by kernel_rfl) s)) ?_
                refine TA.asL (L' := (OwnS 3 1 vq34_17_4 (yq34_17_2.map cI) :: SSh 23 3 1 cI v8 hs20 (y19) x31.1.toNat :: OwnS 3 1 vq34_16_1 (([x31.2] : List Int).map cI) :: Bx b33 42 [I x31.1, I x31.2] :: OwnS 3 1 v12 (y14.map cI) :: OwnS 3 1 v15 (y17.map cI) :: Bx bq7_8_1 41 [v8, .slice none 0 0, v12, v15, I 0] :: Bx b3 26 [.slice none 0 0, .slice none 0 0, .bool false, I 0] :: L)) (listed' := #[true, true, true, true, true, true, true, true, true, true, true, true, true, true, true, true, true, true, false, false]) (by kernel_rfl) (by kernel_rfl) ?_
                refine TA.all1 (i := 18) (by kernel_rfl) ?_
                refine TB.of rfl ?_
                refine TO.s rfl rfl rfl (StepS.idxRH rfl rfl (Ent.at 1 rfl) ksliceB_38_23_1_true hxq34_18_2) ?_
                refine TA.back (.inr (fun _ s => Sat.by [7, 7, 7, 7, 7] 5 3 (by kernel_rfl) s)) ?_
                refine TA.asL (L' := (OwnS 3 1 vq34_17_4 (yq34_17_2.map cI) :: SSh 23 3 1 cI v8 hs20 (y19) x31.1.toNat :: OwnS 3 1 vq34_16_1 (([x31.2] : List Int).map cI) :: Bx b33 42 [I x31.1, I x31.2] :: OwnS 3 1 v12 (y14.map cI) :: OwnS 3 1 v15 (y17.map cI) :: Bx bq7_8_1 41 [v8, .slice none 0 0, v12, v15, I 0] :: Bx b3 26 [.slice none 0 0, .slice none 0 0, .bool false, I 0] :: L)) (listed' := #[true, true, true, true, true, true, true, true, true, true, true, true, true, true, true, true, true, true, true, false]) (by kernel_rfl) (by kernel_rfl) ?_
                refine TA.all1 (i := 19) (by kernel_rfl) ?_
                refine TB.of rfl ?_
                refine TO.ghost (fun _ s => Sat.front 1 rfl s) ?_
                refine TO.stRowH (xs := yq34_17_2) rfl rfl hxq34_18_2 ksizeB_23_1_true ?_
                refine TA.back (.inl (by kernel_rfl)) ?_
                refine TA.asL (L' := (SS 23 3 1 cI v8 (hs20.set x31.1.toNat vq34_17_4) (y19.set x31.1.toNat yq34_17_2) :: OwnS 3 1 vq34_16_1 (([x31.2] : List Int).map cI) :: Bx b33 42 [I x31.1, I x31.2] :: OwnS 3 1 v12 (y14.map cI) :: OwnS 3 1 v15 (y17.map cI) :: Bx bq7_8_1 41 [v8, .slice none 0 0, v12, v15, I 0] :: Bx b3 26 [.slice none 0 0, .slice none 0 0, .bool false, I 0] :: L)) (listed' := #[true, true, true, true, true, true, true, true, true, true, true, true, true, true, true, true, true, true, true, true]) (by kernel_rfl) (by kernel_rfl) ?_
                cases hj37
                refine TA.nil (by kernel_rfl) fun a w e s => ?_
                exact ⟨(hs20.set x31.1.toNat vq34_17_4), e.sub (lk_of_allIn ⟨rfl, rfl, rfl, rfl, rfl, rfl, rfl, rfl, trivial⟩), s.mono fun _ s => (by exact Sat.by [6, 6, 6, 6, 4, 6] 6 1 (by kernel_rfl) s)⟩
            · refine TB.of rfl ?_
              refine TO.litS (f := cI) ([x31.2] : List Int) kelemB_23_3_1_8_true kinfo_3_bind_zero_some_I_0 rfl rfl (fun _ => rfl) rfl rfl (by kernel_rfl) rfl fun vq34_16_1 => ?_
              refine TA.back (.inr (fun _ s => Sat.by [6, 6, 6, 6, 5] 5 2 (by kernel_rfl) s)) ?_
              refine TA.asL (L' := (OwnS 3 1 vq34_16_1 (([x31.2] : List Int).map cI) :: Bx b33 42 [I x31.1, I x31.2] :: SS 23 3 1 cI v8 hs20 (y19) :: OwnS 3 1 v12 (y14.map cI) :: OwnS 3 1 v15 (y17.map cI) :: Bx bq7_8_1 41 [v8, .slice none 0 0, v12, v15, I 0] :: Bx b3 26 [.slice none 0 0, .slice none 0 0, .bool false, I 0] :: L)) (listed' := #[true, true, true, true, true, true, true, true, true, true, true, true, false, false, true, true, true, false, false, false]) (by kernel_rfl) (by kernel_rfl) ?_
              refine TA.all1 (i := 12) (by kernel_rfl) ?_
              refine TB.of rfl ?_
              refine TO.s rfl rfl rfl (StepS.idxRR rfl rfl (SS.rr (Ent.at 2 rfl)) ksliceB_38_23_1_true hxq34_12_2) ?_
              refine TA.back (.inr (fun _ s => Sat.by [6, 6, 6, 6, 5] 5 2 (by kernel_rfl) s)) ?_
              refine TA.asL (L' := (OwnS 3 1 vq34_16_1 (([x31.2] : List Int).map cI) :: Bx b33 42 [I x31.1, I x31.2] :: SS 23 3 1 cI v8 hs20 (y19) :: OwnS 3 1 v12 (y14.map cI) :: OwnS 3 1 v15 (y17.map cI) :: Bx bq7_8_1 41 [v8, .slice none 0 0, v12, v15, I 0] :: Bx b3 26 [.slice none 0 0, .slice none 0 0, .bool false, I 0] :: L)) (listed' := #[true, true, true, true, true, true, true, true, true, true, true, true, true, false, true, true, true, false, false, false]) (by kernel_rfl) (by kernel_rfl) ?_
              refine TA.all1 (i := 13) (by kernel_rfl) ?_
              refine TB.of rfl ?_
              refine TO.s rfl rfl rfl (StepS.ldRR rfl (SS.rr (Ent.at 2 rfl)) kscalB_23_true hxq34_12_2) ?_
              refine TA.back (.inr (fun _ s => Sat.by [6, 6, 6, 6, 5] 5 2 (by kernel_rfl) s)) ?_
              refine TA.asL (L' := (OwnS 3 1 vq34_16_1 (([x31.2] : List Int).map cI) :: Bx b33 42 [I x31.1, I x31.2] :: SS 23 3 1 cI v8 hs20 (y19) :: OwnS 3 1 v12 (y14.map cI) :: OwnS 3 1 v15 (y17.map cI) :: Bx bq7_8_1 41 [v8, .slice none 0 0, v12, v15, I 0] :: Bx b3 26 [.slice none 0 0, .slice none 0 0, .bool false, I 0] :: L)) (listed' := #[true, true, true, true, true, true, true, true, true, true, true, true, true, true, true, true, true, false, false, false]) (by kernel_rfl) (by kernel_rfl) ?_
              refine TA.all1 (i := 17) (by kernel_rfl) ?_
              refine TB.of rfl ?_
              refine TO.ghost (fun _ s => Sat.front 2 rfl s) ?_
              refine TO.ghost (fun _ s => Sat.openRow hxq34_12_2 s) ?_
              refine TO.app (k := 0) (f := cI) kelemB_23_3_1_8_true (by decide) rfl rfl rfl (OwnS.rd (Ent.at 2 rfl)) hkq34_17_3 (fun x c hc => by simp [Value.oneCell'] at hc ⊢; first | (obtain rfl := hc; rfl) | (rcases hc with rfl <;> rfl)) rfl rfl fun vq34_17_4 => ?_
              refine TA.back (.inr (fun _ s => Sat.by [7, 7, 7, 7, 7] 5 3 (by kernel_rfl) s)) ?_
              refine TA.asL (L' := (OwnS 3 1 vq34_17_4 (yq34_17_2.map cI) :: SSh 23 3 1 cI v8 hs20 (y19) x31.1.toNat :: OwnS 3 1 vq34_16_1 (([x31.2] : List Int).map cI) :: Bx b33 42 [I x31.1, I x31.2] :: OwnS 3 1 v12 (y14.map cI) :: OwnS 3 1 v15 (y17.map cI) :: Bx bq7_8_1 41 [v8, .slice none 0 0, v12, v15, I 0] :: Bx b3 26 [.slice none 0 0, .slice none 0 0, .bool false, I 0] :: L)) (listed' := #[true, true, true, true, true, true, true, true, true, true, true, true, true, true, true, true, true, true, false, false]) (by kernel_rfl) (by kernel_rfl) ?_
              refine TA.all1 (i := 18) (by kernel_rfl) ?_
              refine TB.of rfl ?_
              refine TO.s rfl rfl rfl (StepS.idxRH rfl rfl (Ent.at 1 rfl) ksliceB_38_23_1_true hxq34_18_2) ?_
              refine TA.back (.inr (fun _ s => Sat.by [7, 7, 7, 7, 7] 5 3 (by kernel_rfl) s)) ?_
              refine TA.asL (L' := (OwnS 3 1 vq34_17_4 (yq34_17_2.map cI) :: SSh 23 3 1 cI v8 hs20 (y19) x31.1.toNat :: OwnS 3 1 vq34_16_1 (([x31.2] : List Int).map cI) :: Bx b33 42 [I x31.1, I x31.2] :: OwnS 3 1 v12 (y14.map cI) :: OwnS 3 1 v15 (y17.map cI) :: Bx bq7_8_1 41 [v8, .slice none 0 0, v12, v15, I 0] :: Bx b3 26 [.slice none 0 0, .slice none 0 0, .bool false, I 0] :: L)) (listed' := #[true, true, true, true, true, true, true, true, true, true, true, true, true, true, true, true, true, true, true, false]) (by kernel_rfl) (by kernel_rfl) ?_
              refine TA.all1 (i := 19) (by kernel_rfl) ?_
              refine TB.of rfl ?_
              refine TO.ghost (fun _ s => Sat.front 1 rfl s) ?_
              refine TO.stRowH (xs := yq34_17_2) rfl rfl hxq34_18_2 ksizeB_23_1_true ?_
              refine TA.back (.inl (by kernel_rfl)) ?_
              refine TA.asL (L' := (SS 23 3 1 cI v8 (hs20.set x31.1.toNat vq34_17_4) (y19.set x31.1.toNat yq34_17_2) :: OwnS 3 1 vq34_16_1 (([x31.2] : List Int).map cI) :: Bx b33 42 [I x31.1, I x31.2] :: OwnS 3 1 v12 (y14.map cI) :: OwnS 3 1 v15 (y17.map cI) :: Bx bq7_8_1 41 [v8, .slice none 0 0, v12, v15, I 0] :: Bx b3 26 [.slice none 0 0, .slice none 0 0, .bool false, I 0] :: L)) (listed' := #[true, true, true, true, true, true, true, true, true, true, true, true, true, true, true, true, true, true, true, true]) (by kernel_rfl) (by kernel_rfl) ?_
              cases hj37
              refine TA.nil (by kernel_rfl) fun a w e s => ?_
              exact ⟨(hs20.set x31.1.toNat vq34_17_4), e.sub (lk_of_allIn ⟨rfl, rfl, rfl, rfl, rfl, rfl, rfl, rfl, trivial⟩), s.mono fun _ s => (by exact Sat.by [6, 6, 6, 6, 4, 6] 6 1 (by kernel_rfl) s)⟩
          · intro a w ⟨hs36, he, hs⟩
            refine TC.use ?_ he hs
            obtain ⟨y39, hj41, hb29⟩ := bind_some hb29
            first | refine TC.cutM (fun a w => ∃ hs40 : List Value, Mid 201 B [(2, I a2), (3, h3), (8, .pointer (some ⟨b3, 0, none⟩)), (11, .pointer (some ⟨bq7_8_1, 0, none⟩)), (40, h1), (41, I (a1.length : Int)), (42, I x21)] (Bx b33 42 [I x31.1, I x31.2] :: SS 23 3 1 cI v8 hs40 (y39) :: OwnS 3 1 v12 (y14.map cI) :: OwnS 3 1 v15 (y17.map cI) :: Bx bq7_8_1 41 [v8, .slice none 0 0, v12, v15, I 0] :: Bx b3 26 [.slice none 0 0, .slice none 0 0, .bool false, I 0] :: L) a w) ?_ ?_ | refine TC.cutX (fun a w => ∃ hs40 : List Value, Mid 201 B [(2, I a2), (3, h3), (8, .pointer (some ⟨b3, 0, none⟩)), (11, .pointer (some ⟨bq7_8_1, 0, none⟩)), (40, h1), (41, I (a1.length : Int)), (42, I x21)] (Bx b33 42 [I x31.1, I x31.2] :: SS 23 3 1 cI v8 hs40 (y39) :: OwnS 3 1 v12 (y14.map cI) :: OwnS 3 1 v15 (y17.map cI) :: Bx bq7_8_1 41 [v8, .slice none 0 0, v12, v15, I 0] :: Bx b3 26 [.slice none 0 0, .slice none 0 0, .bool false, I 0] :: L) a w) ?_ ?_
            · obtain ⟨xq38_12_1, hxq38_12_2, hj41⟩ := bind_some hj41
              obtain ⟨yq38_17_2, hkq38_17_3, hj41⟩ := bind_some hj41
              obtain ⟨xq38_18_1, hxq38_18_2, hj41⟩ := bind_some hj41
              refine TC.region_any (Bx b33 42 [I x31.1, I x31.2] :: OwnS 3 1 v12 (y14.map cI) :: OwnS 3 1 v15 (y17.map cI) :: Bx bq7_8_1 41 [v8, .slice none 0 0, v12, v15, I 0] :: Bx b3 26 [.slice none 0 0, .slice none 0 0, .bool false, I 0] :: L) 19 20 kfollows_mixedOrders_true rfl ?_
              refine TA.takeW 0 rfl rfl rfl rfl (StepS.move rfl) (by kernel_rfl) (by kernel_rfl) (by kernel_rfl) rfl (.inr (fun _ s => Sat.by [5, 5, 5, 5, 4] 5 1 (by kernel_rfl) s)) ?_
              refine TA.takeW 1 rfl rfl rfl rfl (StepS.nilc rfl) (by kernel_rfl) (by kernel_rfl) (by kernel_rfl) rfl (.inr (fun _ s => Sat.by [5, 5, 5, 5, 4] 5 1 (by kernel_rfl) s)) ?_
              refine TA.takeW 2 rfl rfl rfl rfl (StepS.fld rfl kfieldB_41_0_0_true) (by kernel_rfl) (by kernel_rfl) (by kernel_rfl) rfl (.inr (fun _ s => Sat.by [5, 5, 5, 5, 4] 5 1 (by kernel_rfl) s)) ?_
              refine TA.take 3 rfl rfl rfl rfl (StepS.ldB rfl (Ent.at 3 rfl) kscalB_38_true rfl) (by kernel_rfl) (by kernel_rfl) (by kernel_rfl) (by kernel_rfl) (by kernel_rfl) (fun _ s => Sat.by [5, 5, 5, 5, 4] 5 1 (by kernel_rfl) s) ?_
              refine TA.takeW 4 rfl rfl rfl rfl (StepS.aidx (j := 1) rfl rfl karrB_42_2_3_1_true ⟨by decide, by decide⟩ rfl) (by kernel_rfl) (by kernel_rfl) (by kernel_rfl) rfl (.inr (fun _ s => Sat.by [5, 5, 5, 5, 4] 5 1 (by kernel_rfl) s)) ?_
              refine TA.take 5 rfl rfl rfl rfl (StepS.ldB rfl (Ent.at 0 rfl) kscalB_3_true rfl) (by kernel_rfl) (by kernel_rfl) (by kernel_rfl) (by kernel_rfl) (by kernel_rfl) (fun _ s => Sat.by [5, 5, 5, 5, 4] 5 1 (by kernel_rfl) s) ?_
              refine TA.takeW 6 rfl rfl rfl rfl (StepS.move rfl) (by kernel_rfl) (by kernel_rfl) (by kernel_rfl) rfl (.inr (fun _ s => Sat.by [5, 5, 5, 5, 4] 5 1 (by kernel_rfl) s)) ?_
              refine TA.takeW 7 rfl rfl rfl rfl (StepS.nilc rfl) (by kernel_rfl) (by kernel_rfl) (by kernel_rfl) rfl (.inr (fun _ s => Sat.by [5, 5, 5, 5, 4] 5 1 (by kernel_rfl) s)) ?_
              refine TA.takeW 8 rfl rfl rfl rfl (StepS.fld rfl kfieldB_41_0_0_true) (by kernel_rfl) (by kernel_rfl) (by kernel_rfl) rfl (.inr (fun _ s => Sat.by [5, 5, 5, 5, 4] 5 1 (by kernel_rfl) s)) ?_
              refine TA.take 9 rfl rfl rfl rfl (StepS.ldB rfl (Ent.at 3 rfl) kscalB_38_true rfl) (by kernel_rfl) (by kernel_rfl) (by kernel_rfl) (by kernel_rfl) (by kernel_rfl) (fun _ s => Sat.by [5, 5, 5, 5, 4] 5 1 (by kernel_rfl) s) ?_
              refine TA.takeW 10 rfl rfl rfl rfl (StepS.aidx (j := 1) rfl rfl karrB_42_2_3_1_true ⟨by decide, by decide⟩ rfl) (by kernel_rfl) (by kernel_rfl) (by kernel_rfl) rfl (.inr (fun _ s => Sat.by [5, 5, 5, 5, 4] 5 1 (by kernel_rfl) s)) ?_
              refine TA.take 11 rfl rfl rfl rfl (StepS.ldB rfl (Ent.at 0 rfl) kscalB_3_true rfl) (by kernel_rfl) (by kernel_rfl) (by kernel_rfl) (by kernel_rfl) (by kernel_rfl) (fun _ s => Sat.by [5, 5, 5, 5, 4] 5 1 (by kernel_rfl) s) ?_
              refine TA.takeW 14 rfl rfl rfl rfl (StepS.aidx (j := 0) rfl rfl karrB_42_2_3_1_true ⟨by decide, by decide⟩ rfl) (by kernel_rfl) (by kernel_rfl) (by kernel_rfl) rfl (.inr (fun _ s => Sat.by [5, 5, 5, 5, 4] 5 1 (by kernel_rfl) s)) ?_
              refine TA.take 15 rfl rfl rfl rfl (StepS.ldB rfl (Ent.at 0 rfl) kscalB_3_true rfl) (by kernel_rfl) (by kernel_rfl) (by kernel_rfl) (by kernel_rfl) (by kernel_rfl) (fun _ s => Sat.by [5, 5, 5, 5, 4] 5 1 (by kernel_rfl) s) ?_
              refine TA.all2 (i := 12) (j := 16) (by kernel_rfl) ?_ ?_
              · refine TB.of rfl ?_
                refine TO.s rfl rfl rfl (StepS.idxRR rfl rfl (SS.rr (Ent.at 1 rfl)) ksliceB_38_23_1_true hxq38_12_2) ?_
                refine TA.back (.inr (fun _ s => Sat.by [5, 5, 5, 5, 4] 5 1 (by kernel_rfl) s)) ?_
                refine TA.asL (L' := (Bx b33 42 [I x31.1, I x31.2] :: SS 23 3 1 cI v8 hs36 (y35) :: OwnS 3 1 v12 (y14.map cI) :: OwnS 3 1 v15 (y17.map cI) :: Bx bq7_8_1 41 [v8, .slice none 0 0, v12, v15, I 0] :: Bx b3 26 [.slice none 0 0, .slice none 0 0, .bool false, I 0] :: L)) (listed' := #[true, true, true, true, true, true, true, true, true, true, true, true, true, false, true, true, false, false, false, false]) (by kernel_rfl) (by kernel_rfl) ?_
                refine TA.all2 (i := 13) (j := 16) (by kernel_rfl) ?_ ?_
                · refine TB.of rfl ?_
                  refine TO.s rfl rfl rfl (StepS.ldRR rfl (SS.rr (Ent.at 1 rfl)) kscalB_23_true hxq38_12_2) ?_
                  refine TA.back (.inr (fun _ s => Sat.by [5, 5, 5, 5, 4] 5 1 (by kernel_rfl) s)) ?_
                  refine TA.asL (L' := (Bx b33 42 [I x31.1, I x31.2] :: SS 23 3 1 cI v8 hs36 (y35) :: OwnS 3 1 v12 (y14.map cI) :: OwnS 3 1 v15 (y17.map cI) :: Bx bq7_8_1 41 [v8, .slice none 0 0, v12, v15, I 0] :: Bx b3 26 [.slice none 0 0, .slice none 0 0, .bool false, I 0] :: L)) (listed' := #[true, true, true, true, true, true, true, true, true, true, true, true, true, true, true, true, false, false, false, false]) (by kernel_rfl) (by kernel_rfl) ?_
                  refine TA.all1 (i := 16) (by kernel_rfl) ?_
                  refine TB.of rfl ?_
                  refine TO.litS (f := cI) ([x31.1] : List Int) kelemB_23_3_1_8_true kinfo_3_bind_zero_some_I_0 rfl rfl (fun _ => rfl) rfl rfl (by kernel_rfl) rfl fun vq38_16_1 => ?_
                  refine TA.back (.inr (fun _ s => Sat.by [6, 6, 6, 6, 5] 5 2 (by kernel_rfl) s)) ?_
                  refine TA.asL (L' := (OwnS 3 1 vq38_16_1 (([x31.1] : List Int).map cI) :: Bx b33 42 [I x31.1, I x31.2] :: SS 23 3 1 cI v8 hs36 (y35) :: OwnS 3 1 v12 (y14.map cI) :: OwnS 3 1 v15 (y17.map cI) :: Bx bq7_8_1 41 [v8, .slice none 0 0, v12, v15, I 0] :: Bx b3 26 [.slice none 0 0, .slice none 0 0, .bool false, I 0] :: L)) (listed' := #[true, true, true, true, true, true, true, true, true, true, true, true, true, true, true, true, true, false, false, false]) (by kernel_rfl) (by kernel_rfl) ?_
                  refine TA.all1 (i := 17) (by kernel_rfl) ?_
                  refine TB.of rfl ?_
                  refine TO.ghost (fun _ s => Sat.front 2 rfl s) ?_
                  refine TO.ghost (fun _ s => Sat.openRow hxq38_12_2 s) ?_
                  refine TO.app (k := 0) (f := cI) kelemB_23_3_1_8_true (by decide) rfl rfl rfl (OwnS.rd (Ent.at 2 rfl)) hkq38_17_3 (fun x c hc => by simp [Value.oneCell'] at hc ⊢; first | (obtain rfl := hc; rfl) | (rcases hc with rfl <;> rfl)) rfl rfl fun vq38_17_4 => ?_
                  refine TA.back (.inr (fun _ s => Sat.by [7, 7, 7, 7, 7] 5 3 (by kernel_rfl) s)) ?_
                  refine TA.asL (L' := (OwnS 3 1 vq38_17_4 (yq38_17_2.map cI) :: SSh 23 3 1 cI v8 hs36 (y35) x31.2.toNat :: OwnS 3 1 vq38_16_1 (([x31.1] : List Int).map cI) :: Bx b33 42 [I x31.1, I x31.2] :: OwnS 3 1 v12 (y14.map cI) :: OwnS 3 1 v15 (y17.map cI) :: Bx bq7_8_1 41 [v8, .slice none 0 0, v12, v15, I 0] :: Bx b3 26 [.slice none 0 0, .slice none 0 0, .bool false, I 0] :: L)) (listed' := #[true, true, true, true, true, true, true, true, true, true, true, true, true, true, true, true, true, true, false, false]) (by kernel_rfl) (by kernel_rfl) ?_
                  refine TA.all1 (i := 18) (by kernel_rfl) ?_
                  refine TB.of rfl ?_
                  refine TO.s rfl rfl rfl (StepS.idxRH rfl rfl (Ent.at 1 rfl) ksliceB_38_23_1_true hxq38_18_2) ?_
                  refine TA.back (.inr (fun _ s => Sat.by [7, 7, 7, 7, 7] 5 3 (by kernel_rfl) s)) ?_
                  refine TA.asL (L' := (OwnS 3 1 vq38_17_4 (yq38_17_2.map cI) :: SSh 23 3 1 cI v8 hs36 (y35) x31.2.toNat :: OwnS 3 1 vq38_16_1 (([x31.1] : List Int).map cI) :: Bx b33 42 [I x31.1, I x31.2] :: OwnS 3 1 v12 (y14.map cI) :: OwnS 3 1 v15 (y17.map cI) :: Bx bq7_8_1 41 [v8, .slice none 0 0, v12, v15, I 0] :: Bx b3 26 [.slice none 0 0, .slice none 0 0, .bool false, I 0] :: L)) (listed' := #[true, true, true, true, true, true, true, true, true, true, true, true, true, true, true, true, true, true, true, false]) (by kernel_rfl) (by kernel_rfl) ?_
                  refine TA.all1 (i := 19) (by kernel_rfl) ?_
                  refine TB.of rfl ?_
                  refine TO.ghost (fun _ s => Sat.front 1 rfl s) ?_
                  refine TO.stRowH (xs := yq38_17_2) rfl rfl hxq38_18_2 ksizeB_23_1_true ?_
                  refine TA.back (.inl (by kernel_rfl)) ?_
                  refine TA.asL (L' := (SS 23 3 1 cI v8 (hs36.set x31.2.toNat vq38_17_4) (y35.set x31.2.toNat yq38_17_2) :: OwnS 3 1 vq38_16_1 (([x31.1] : List Int).map cI) :: Bx b33 42 [I x31.1, I x31.2] :: OwnS 3 1 v12 (y14.map cI) :: OwnS 3 1 v15 (y17.map cI) :: Bx bq7_8_1 41 [v8, .slice none 0 0, v12, v15, I 0] :: Bx b3 26 [.slice none 0 0, .slice none 0 0, .bool false, I 0] :: L)) (listed' := #[true, true, true, true, true, true, true, true, true, true, true, true, true, true, true, true, true, true, true, true]) (by kernel_rfl) (by kernel_rfl) ?_
                  cases hj41
                  refine TA.nil (by kernel_rfl) fun a w e s => ?_
                  exact ⟨(hs36.set x31.2.toNat vq38_17_4), e.sub (lk_of_allIn ⟨rfl, rfl, rfl, rfl, rfl, rfl, rfl, trivial⟩), s.mono fun _ s => (by exact Sat.by [6, 6, 6, 6, 4, 6] 6 1 (by kernel_rfl) s)⟩
                · refine TB.of rfl ?_
                  refine TO.litS (f := cI) ([x31.1] : List Int) kelemB_23_3_1_8_true kinfo_3_bind_zero_some_I_0 rfl rfl (fun _ => rfl) rfl rfl (by kernel_rfl) rfl fun vq38_16_1 => ?_
                  refine TA.back (.inr (fun _ s => Sat.by [6, 6, 6, 6, 5] 5 2 (by kernel_rfl) s)) ?_
                  refine TA.asL (L' := (OwnS 3 1 vq38_16_1 (([x31.1] : List Int).map cI) :: Bx b33 42 [I x31.1, I x31.2] :: SS 23 3 1 cI v8 hs36 (y35) :: OwnS 3 1 v12 (y14.map cI) :: OwnS 3 1 v15 (y17.map cI) :: Bx bq7_8_1 41 [v8, .slice none 0 0, v12, v15, I 0] :: Bx b3 26 [.slice none 0 0, .slice none 0 0, .bool false, I 0] :: L)) (listed' := #[true, true, true, true, true, true, true, true, true, true, true, true, true, false, true, true, true, false, false, false]) (by kernel_rfl) (by kernel_rfl) ?_
                  refine TA.all1 (i := 13) (by kernel_rfl) ?_
                  refine TB.of rfl ?_
                  refine TO.s rfl rfl rfl (StepS.ldRR rfl (SS.rr (Ent.at 2 rfl)) kscalB_23_true hxq38_12_2) ?_
                  refine TA.back (.inr (fun _ s => Sat.by [6, 6, 6, 6, 5] 5 2 (by kernel_rfl) s)) ?_
                  refine TA.asL (L' := (OwnS 3 1 vq38_16_1 (([x31.1] : List Int).map cI) :: Bx b33 42 [I x31.1, I x31.2] :: SS 23 3 1 cI v8 hs36 (y35) :: OwnS 3 1 v12 (y14.map cI) :: OwnS 3 1 v15 (y17.map cI) :: Bx bq7_8_1 41 [v8, .slice none 0 0, v12, v15, I 0] :: Bx b3 26 [.slice none 0 0, .slice none 0 0, .bool false, I 0] :: L)) (listed' := #[true, true, true, true, true, true, true, true, true, true, true, true, true, true, true, true, true, false, false, false]) (by kernel_rfl) (by kernel_rfl) ?_
                  refine TA.all1 (i := 17) (by kernel_rfl) ?_
                  refine TB.of rfl ?_
                  refine TO.ghost (fun _ s => Sat.front 2 rfl s) ?_
                  refine TO.ghost (fun _ s => Sat.openRow hxq38_12_2 s) ?_
                  refine TO.app (k := 0) (f := cI) kelemB_23_3_1_8_true (by decide) rfl rfl rfl (OwnS.rd (Ent.at 2 rfl)) hkq38_17_3 (fun x c hc => by simp [Value.oneCell'] at hc ⊢; first | (obtain rfl := hc; rfl) | (rcases hc with rfl <;> rfl)) rfl rfl fun vq38_17_4 => ?_
                  refine TA.back (.inr (fun _ s => Sat.by [7, 7, 7, 7, 7] 5 3 (by kernel_rfl) s)) ?_
                  refine TA.asL (L' := (OwnS 3 1 vq38_17_4 (yq38_17_2.map cI) :: SSh 23 3 1 cI v8 hs36 (y35) x31.2.toNat :: OwnS 3 1 vq38_16_1 (([x31.1] : List Int).map cI) :: Bx b33 42 [I x31.1, I x31.2] :: OwnS 3 1 v12 (y14.map cI) :: OwnS 3 1 v15 (y17.map cI) :: Bx bq7_8_1 41 [v8, .slice none 0 0, v12, v15, I 0] :: Bx b3 26 [.slice none 0 0, .slice none 0 0, .bool false, I 0] :: L)) (listed' := #[true, true, true, true, true, true, true, true, true, true, true, true, true, true, true, true, true, true, false, false]) (by kernel_rfl) (by kernel_rfl) ?_
                  refine TA.all1 (i := 18) (by kernel_rfl) ?_
                  refine TB.of rfl ?_
                  refine TO.s rfl rfl rfl (StepS.idxRH rfl rfl (Ent.at 1 rfl) ksliceB_38_23_1_true hxq38_18_2) ?_
                  refine TA.back (.inr (fun _ s => Sat.by [7, 7, 7, 7, 7] 5 3 (by kernel_rfl) s)) ?_
                  refine TA.asL (L' := (OwnS 3 1 vq38_17_4 (yq38_17_2.map cI) :: SSh 23 3 1 cI v8 hs36 (y35) x31.2.toNat :: OwnS 3 1 vq38_16_1 (([x31.1] : List Int).map cI) :: Bx b33 42 [I x31.1, I x31.2] :: OwnS 3 1 v12 (y14.map cI) :: OwnS 3 1 v15 (y17.map cI) :: Bx bq7_8_1 41 [v8, .slice none 0 0, v12, v15, I 0] :: Bx b3 26 [.slice none 0 0, .slice none 0 0, .bool false, I 0] :: L)) (listed' := #[true, true, true, true, true, true, true, true, true, true, true, true, true, true, true, true, true, true, true, false]) (by kernel_rfl) (by kernel_rfl) ?_
                  refine TA.all1 (i := 19) (by kernel_rfl) ?_
                  refine TB.of rfl ?_
                  refine TO.ghost (fun _ s => Sat.front 1 rfl s) ?_
                  refine TO.stRowH (xs := yq38_17_2) rfl rfl hxq38_18_2 ksizeB_23_1_true ?_
                  refine TA.back (.inl (by kernel_rfl)) ?_
                  refine TA.asL (L' := (SS 23 3 1 cI v8 (hs36.set x31.2.toNat vq38_17_4) (y35.set x31.2.toNat yq38_17_2) :: OwnS 3 1 vq38_16_1 (([x31.1] : List Int).map cI) :: Bx b33 42 [I x31.1, I x31.2] :: OwnS 3 1 v12 (y14.map cI) :: OwnS 3 1 v15 (y17.map cI) :: Bx bq7_8_1 41 [v8, .slice none 0 0, v12, v15, I 0] :: Bx b3 26 [.slice none 0 0, .slice none 0 0, .bool false, I 0] :: L)) (listed' := #[true, true, true, true, true, true, true, true, true, true, true, true, true, true, true, true, true, true, true, true]) (by kernel_rfl) (by kernel_rfl) ?_
                  cases hj41
                  refine TA.nil (by kernel_rfl) fun a w e s => ?_
                  exact ⟨(hs36.set x31.2.toNat vq38_17_4), e.sub (lk_of_allIn ⟨rfl, rfl, rfl, rfl, rfl, rfl, rfl, trivial⟩), s.mono fun _ s => (by exact Sat.by [6, 6, 6, 6, 4, 6] 6 1 (by kernel_rfl) s)⟩
              · refine TB.of rfl ?_
                refine TO.litS (f := cI) ([x31.1] : List Int) kelemB_23_3_1_8_true kinfo_3_bind_zero_some_I_0 rfl rfl (fun _ => rfl) rfl rfl (by kernel_rfl) rfl fun vq38_16_1 => ?_
                refine TA.back (.inr (fun _ s => Sat.by [6, 6, 6, 6, 5] 5 2 (by kernel_rfl) s)) ?_
                refine TA.asL (L' := (OwnS 3 1 vq38_16_1 (([x31.1] : List Int).map cI) :: Bx b33 42 [I x31.1, I x31.2] :: SS 23 3 1 cI v8 hs36 (y35) :: OwnS 3 1 v12 (y14.map cI) :: OwnS 3 1 v15 (y17.map cI) :: Bx bq7_8_1 41 [v8, .slice none 0 0, v12, v15, I 0] :: Bx b3 26 [.slice none 0 0, .slice none 0 0, .bool false, I 0] :: L)) (listed' := #[true, true, true, true, true, true, true, true, true, true, true, true, false, false, true, true, true, false, false, false]) (by kernel_rfl) (by kernel_rfl) ?_
                refine TA.all1 (i := 12) (by kernel_rfl) ?_
                refine TB.of rfl ?_
                refine TO.s rfl rfl rfl (StepS.idxRR rfl rfl (SS.rr (Ent.at 2 rfl)) ksliceB_38_23_1_true hxq38_12_2) ?_
                refine TA.back (.inr (fun _ s => Sat.by [6, 6, 6, 6, 5] 5 2 (by kernel_rfl) s)) ?_
                refine TA.asL (L' := (OwnS 3 1 vq38_16_1 (([x31.1] : List Int).map cI) :: Bx b33 42 [I x31.1, I x31.2] :: SS 23 3 1 cI v8 hs36 (y35) :: OwnS 3 1 v12 (y14.map cI) :: OwnS 3 1 v15 (y17.map cI) :: Bx bq7_8_1 41 [v8, .slice none 0 0, v12, v15, I 0] :: Bx b3 26 [.slice none 0 0, .slice none 0 0, .bool false, I 0] :: L)) (listed' := #[true, true, true, true, true, true, true, true, true, true, true, true, true, false, true, true, true, false, false, false]) (by kernel_rfl) (by kernel_rfl) ?_
                refine TA.all1 (i := 13) (by kernel_rfl) ?_
                refine TB.of rfl ?_
                refine TO.s rfl rfl rfl (StepS.ldRR rfl (SS.rr (Ent.at 2 rfl)) kscalB_23_true hxq38_12_2) ?_
                refine TA.back (.inr (fun _ s => Sat.by [6, 6, 6, 6, 5] 5 2 (by kernel_rfl) s)) ?_
                refine TA.asL (L' := (OwnS 3 1 vq38_16_1 (([x31.1] : List Int).map cI) :: Bx b33 42 [I x31.1, I x31.2] :: SS 23 3 1 cI v8 hs36 (y35) :: OwnS 3 1 v12 (y14.map cI) :: OwnS 3 1 v15 (y17.map cI) :: Bx bq7_8_1 41 [v8, .slice none 0 0, v12, v15, I 0] :: Bx b3 26 [.slice none 0 0, .slice none 0 0, .bool false, I 0] :: L)) (listed' := #[true, true, true, true, true, true, true, true, true, true, true, true, true, true, true, true, true, false, false, false]) (by kernel_rfl) (by kernel_rfl) ?_
                refine TA.all1 (i := 17) (by kernel_rfl) ?_
                refine TB.of rfl ?_
                refine TO.ghost (fun _ s => Sat.front 2 rfl s) ?_
                refine TO.ghost (fun _ s => Sat.openRow hxq38_12_2 s) ?_
                refine TO.app (k := 0) (f := cI) kelemB_23_3_1_8_true (by decide) rfl rfl rfl (OwnS.rd (Ent.at 2 rfl)) hkq38_17_3 (fun x c hc => by simp [Value.oneCell'] at hc ⊢; first | (obtain rfl := hc; rfl) | (rcases hc with rfl <;> rfl)) rfl rfl fun vq38_17_4 => ?_
                refine TA.back (.inr (fun _ s => Sat.by [7, 7, 7, 7, 7] 5 3 (by kernel_rfl) s)) ?_
                refine TA.asL (L' := (OwnS 3 1 vq38_17_4 (yq38_17_2.map cI) :: SSh 23 3 1 cI v8 hs36 (y35) x31.2.toNat :: OwnS 3 1 vq38_16_1 (([x31.1] : List Int).map cI) :: Bx b33 42 [I x31.1, I x31.2] :: OwnS 3 1 v12 (y14.map cI) :: OwnS 3 1 v15 (y17.map cI) :: Bx bq7_8_1 41 [v8, .slice none 0 0, v12, v15, I 0] :: Bx b3 26 [.slice none 0 0, .slice none 0 0, .bool false, I 0] :: L)) (listed' := #[true, true, true, true, true, true, true, true, true, true, true, true, true, true, true, true, true, true, false, false]) (by kernel_rfl) (by kernel_rfl) ?_
                refine TA.all1 (i := 18) (by kernel_rfl) ?_
                refine TB.of rfl ?_
                refine TO.s rfl rfl rfl (StepS.idxRH rfl rfl (Ent.at 1 rfl) ksliceB_38_23_1_true hxq38_18_2) ?_
                refine TA.back (.inr (fun _ s => Sat.by [7, 7, 7, 7, 7] 5 3 (by kernel_rfl) s)) ?_
                refine TA.asL (L' := (OwnS 3 1 vq38_17_4 (yq38_17_2.map cI) :: SSh 23 3 1 cI v8 hs36 (y35) x31.2.toNat :: OwnS 3 1 vq38_16_1 (([x31.1] : List Int).map cI) :: Bx b33 42 [I x31.1, I x31.2] :: OwnS 3 1 v12 (y14.map cI) :: OwnS 3 1 v15 (y17.map cI) :: Bx bq7_8_1 41 [v8, .slice none 0 0, v12, v15, I 0] :: Bx b3 26 [.slice none 0 0, .slice none 0 0, .bool false, I 0] :: L)) (listed' := #[true, true, true, true, true, true, true, true, true, true, true, true, true, true, true, true, true, true, true, false]) (by kernel_rfl) (by kernel_rfl) ?_
                refine TA.all1 (i := 19) (by kernel_rfl) ?_
                refine TB.of rfl ?_
                refine TO.ghost (fun _ s => Sat.front 1 rfl s) ?_
                refine TO.stRowH (xs := yq38_17_2) rfl rfl hxq38_18_2 ksizeB_23_1_true ?_
                refine TA.back (.inl (by kernel_rfl)) ?_
                refine TA.asL (L' := (SS 23 3 1 cI v8 (hs36.set x31.2.toNat vq38_17_4) (y35.set x31.2.toNat yq38_17_2) :: OwnS 3 1 vq38_16_1 (([x31.1] : List Int).map cI) :: Bx b33 42 [I x31.1, I x31.2] :: OwnS 3 1 v12 (y14.map cI) :: OwnS 3 1 v15 (y17.map cI) :: Bx bq7_8_1 41 [v8, .slice none 0 0, v12, v15, I 0] :: Bx b3 26 [.slice none 0 0, .slice none 0 0, .bool false, I 0] :: L)) (listed' := #[true, true, true, true, true, true, true, true, true, true, true, true, true, true, true, true, true, true, true, true]) (by kernel_rfl) (by kernel_rfl) ?_
                cases hj41
                refine TA.nil (by kernel_rfl) fun a w e s => ?_
                exact ⟨(hs36.set x31.2.toNat vq38_17_4), e.sub (lk_of_allIn ⟨rfl, rfl, rfl, rfl, rfl, rfl, rfl, trivial⟩), s.mono fun _ s => (by exact Sat.by [6, 6, 6, 6, 4, 6] 6 1 (by kernel_rfl) s)⟩
            · intro a w ⟨hs40, he, hs⟩
              refine TC.use ?_ he hs
              refine TC.region ?_
              refine TO.s rfl rfl rfl (StepS.ari rfl rfl rfl) ?_
              refine TO.s rfl rfl rfl (StepS.move rfl) ?_
              cases hb29
              refine TO.nil fun a w e s => ?_
              exact ⟨hs40, e.sub (lk_of_allIn ⟨rfl, rfl, rfl, rfl, rfl, rfl, rfl, trivial⟩), s.mono fun _ => Sat.dropN 1⟩
        · replace hb29 := cond_f hc30 hb29
          cases hb29
          refine TC.exit rfl fun a w e s => ?_
          exact ⟨hs20, e.sub (lk_of_allIn ⟨rfl, rfl, rfl, rfl, trivial⟩), s⟩
      · exact fun a w e s => ⟨hs9, e.sub (lk_of_allIn ⟨rfl, rfl, rfl, rfl, rfl, rfl, rfl, trivial⟩), s⟩
      · rintro y25 rfl a w ⟨hs26, he, hs⟩
        dsimp only [Ctl.on] at hm
        refine TC.use ?_ he hs
        refine TC.k ?_
        refine TC.k ?_
        refine TC.region ?_
        refine TO.s rfl rfl rfl (StepS.move rfl) ?_
        refine TO.s rfl rfl rfl (StepS.nilc rfl) ?_
        refine TO.s rfl rfl rfl (StepS.fld rfl kfieldB_41_0_0_true) ?_
        refine TO.s rfl rfl rfl (StepS.ldB rfl (Ent.at 3 rfl) kscalB_38_true rfl) ?_
        refine TO.s rfl rfl rfl (StepS.lenRR rfl (SS.rr (Ent.at 0 rfl)) ksliceB_38_23_1_true rfl) ?_
        refine TO.s rfl rfl rfl (StepS.move rfl) ?_
        refine TO.code ?_
        obtain ⟨o50, hw51, hm⟩ := bind_some hm
        refine TC.loop hw51 (fun (y42, y43, x44) => fun a w => Mid 201 B [(2, I a2), (3, h3), (8, .pointer (some ⟨b3, 0, none⟩)), (11, .pointer (some ⟨bq7_8_1, 0, none⟩)), (88, v8), (89, I (y25.length : Int)), (90, I x44)] (SS 23 3 1 cI v8 hs26 (y42) :: OwnS 3 1 v12 (y43.map cI) :: OwnS 3 1 v15 (y17.map cI) :: Bx bq7_8_1 41 [v8, .slice none 0 0, v12, v15, I 0] :: Bx b3 26 [.slice none 0 0, .slice none 0 0, .bool false, I 0] :: L) a w) (fun (y48, y49) => fun a w => Mid 201 B [(2, I a2), (3, h3), (8, .pointer (some ⟨b3, 0, none⟩)), (11, .pointer (some ⟨bq7_8_1, 0, none⟩))] (SS 23 3 1 cI v8 hs26 (y48) :: OwnS 3 1 v12 (y49.map cI) :: OwnS 3 1 v15 (y17.map cI) :: Bx bq7_8_1 41 [v8, .slice none 0 0, v12, v15, I 0] :: Bx b3 26 [.slice none 0 0, .slice none 0 0, .bool false, I 0] :: L) a w) (fun (_ : Unit) _ _ => False) ?_ ?_ ?_ ?_
        · rintro ⟨y42, y43, x44⟩ o50r hb52 a w ⟨he, hs⟩
          dsimp only [F4_L1] at hb52
          refine TC.use ?_ he hs
          refine TC.k ?_
          refine TC.region ?_
          refine TO.s rfl rfl rfl (StepS.cmp rfl rfl rfl) ?_
          refine TO.code ?_
          refine TC.k ?_
          refine TC.cond rfl (fun hc53 => ?_) (fun hc53 => ?_)
          · replace hb52 := cond_t hc53 hb52
            refine TC.skipk ?_
            refine TC.k ?_
            refine TC.block ?_
            refine TC.k ?_
            refine TC.region ?_
            refine TO.s rfl rfl rfl (StepS.move rfl) ?_
            obtain ⟨x54, hx55, hb52⟩ := bind_some hb52
            refine TO.s rfl rfl rfl (StepS.idxRR rfl rfl (SS.rr (Ent.at 0 rfl)) ksliceB_38_23_1_true hx55) ?_
            refine TO.s rfl rfl rfl (StepS.ldRR rfl (SS.rr (Ent.at 0 rfl)) kscalB_23_true hx55) ?_
            refine TO.s rfl rfl rfl (StepS.assign rfl) ?_
            refine TO.s rfl rfl rfl (StepS.assign rfl) ?_
            refine TO.code ?_
            refine TC.k ?_
            refine TC.region ?_
            refine TO.s rfl rfl rfl (StepS.move rfl) ?_
            refine TO.ghost (fun _ s => Sat.openRow hx55 s) ?_
            obtain ⟨y58, hs59, hb52⟩ := bind_some hb52
            refine TO.sortO 0 kcallB_12_true slay hs59 rfl rfl rfl rfl ?_
            refine TO.ghost (fun _ s => Sat.front 1 rfl s) ?_
            refine TO.ghost (L' := (SS 23 3 1 cI v8 hs26 (y42.set x44.toNat y58) :: OwnS 3 1 v12 (y43.map cI) :: OwnS 3 1 v15 (y17.map cI) :: Bx bq7_8_1 41 [v8, .slice none 0 0, v12, v15, I 0] :: Bx b3 26 [.slice none 0 0, .slice none 0 0, .bool false, I 0] :: L)) (fun _ s => Sat.closeRow hx55 s) ?_
            refine TO.code ?_
            refine TC.region ?_
            refine TO.s rfl rfl rfl (StepS.move rfl) ?_
            refine TO.s rfl rfl rfl (StepS.nilc rfl) ?_
            refine TO.s rfl rfl rfl (StepS.fld rfl kfieldB_41_2_2_true) ?_
            refine TO.s rfl rfl rfl (StepS.ldB rfl (Ent.at 3 rfl) kscalB_23_true rfl) ?_
            refine TO.s rfl rfl rfl (StepS.move rfl) ?_
            refine TO.s rfl rfl rfl (StepS.move rfl) ?_
            refine TO.s rfl rfl rfl (StepS.lenm rfl (RR.row (SS.rr (Ent.at 0 rfl)) (idx_seti hx55 y58)) ksliceB_23_3_1_true rfl) ?_
            obtain ⟨x60, hx61, hb52⟩ := bind_some hb52
            refine TO.s rfl rfl rfl (StepS.idx rfl rfl (OwnS.rd (Ent.at 1 rfl)) ksliceB_23_3_1_true (idx_spec hx61).1 (idxm_lt hx61)) ?_
            refine TO.stO (i := x44.toNat) (off := 0) (us := [I (y58.length : Int)]) 1 (y58.length : Int) rfl rfl rfl ksizeB_3_1_true rfl rfl rfl (idx_spec hx61).2 rfl (by simp [Value.oneCell']) rfl ?_
            refine TO.code ?_
            refine TC.region ?_
            refine TO.s rfl rfl rfl (StepS.ari rfl rfl rfl) ?_
            refine TO.s rfl rfl rfl (StepS.move rfl) ?_
            cases hb52
            refine TO.nil fun a w e s => ?_
            exact ⟨e.sub (lk_of_allIn ⟨rfl, rfl, rfl, rfl, rfl, rfl, rfl, trivial⟩), s⟩
          · replace hb52 := cond_f hc53 hb52
            cases hb52
            refine TC.exit rfl fun a w e s => ?_
            exact ⟨e.sub (lk_of_allIn ⟨rfl, rfl, rfl, rfl, trivial⟩), s⟩
        · exact fun a w e s => ⟨e.sub (lk_of_allIn ⟨rfl, rfl, rfl, rfl, rfl, rfl, rfl, trivial⟩), s⟩
        · rintro ⟨y48, y49⟩ rfl a w ⟨he, hs⟩
          dsimp only [Ctl.on] at hm
          refine TC.use ?_ he hs
          refine TC.k ?_
          refine TC.region ?_
          refine TO.s rfl rfl rfl (StepS.move rfl) ?_
          refine TO.s rfl rfl rfl (StepS.nilc rfl) ?_
          refine TO.s rfl rfl rfl (StepS.fld rfl kfieldB_41_3_3_true) ?_
          refine TO.s rfl rfl rfl (StepS.ldB rfl (Ent.at 3 rfl) kscalB_23_true rfl) ?_
          refine TO.s rfl rfl rfl (StepS.move rfl) ?_
          obtain ⟨x62, hx63, hm⟩ := bind_some hm
          refine TO.s rfl rfl rfl (StepS.idx rfl rfl (OwnS.rd (Ent.at 2 rfl)) ksliceB_23_3_1_true (idx_spec hx63).1 (idxm_lt hx63)) ?_
          refine TO.stO (i := a2.toNat) (off := 0) (us := [I (-2)]) 2 (-2) rfl rfl rfl ksizeB_3_1_true rfl rfl rfl (idx_spec hx63).2 rfl (by simp [Value.oneCell']) rfl ?_
          refine TO.code ?_
          refine TC.k ?_
          refine TC.k ?_
          refine TC.region ?_
          refine TO.s rfl rfl rfl (StepS.move rfl) ?_
          refine TO.s rfl rfl rfl (StepS.nilc rfl) ?_
          refine TO.s rfl rfl rfl (StepS.fld rfl kfieldB_41_0_0_true) ?_
          refine TO.s rfl rfl rfl (StepS.ldB rfl (Ent.at 3 rfl) kscalB_38_true rfl) ?_
          refine TO.s rfl rfl rfl (StepS.move rfl) ?_
          obtain ⟨x64, hx65, hm⟩ := bind_some hm
          refine TO.s rfl rfl rfl (StepS.idxRR rfl rfl (SS.rr (Ent.at 0 rfl)) ksliceB_38_23_1_true hx65) ?_
          refine TO.s rfl rfl rfl (StepS.ldRR rfl (SS.rr (Ent.at 0 rfl)) kscalB_23_true hx65) ?_
          refine TO.s rfl rfl rfl (StepS.lenm rfl (RR.row (SS.rr (Ent.at 0 rfl)) hx65) ksliceB_23_3_1_true rfl) ?_
          refine TO.s rfl rfl rfl (StepS.move rfl) ?_
          refine TO.code ?_
          obtain ⟨o81, hw82, hm⟩ := bind_some hm
          refine TC.loop hw82 (fun (y69, x70, x71) => fun a w => ∃ v67 : Value, Mid 201 B [(2, I a2), (3, h3), (8, .pointer (some ⟨b3, 0, none⟩)), (11, .pointer (some ⟨bq7_8_1, 0, none⟩)), (118, (rowv hs26 a2.toNat)), (119, I (x64.length : Int)), (120, I x71)] (OwnS 42 2 v67 (y69.map cTii) :: SS 23 3 1 cI v8 hs26 (y48) :: OwnS 3 1 v12 (y49.map cI) :: OwnS 3 1 v15 ((y17.set a2.toNat (-2)).map cI) :: Bx bq7_8_1 41 [v8, v67, v12, v15, I x70] :: Bx b3 26 [.slice none 0 0, .slice none 0 0, .bool false, I 0] :: L) a w) (fun (y79, x80) => fun a w => ∃ v77 : Value, Mid 201 B [(2, I a2), (3, h3), (8, .pointer (some ⟨b3, 0, none⟩)), (11, .pointer (some ⟨bq7_8_1, 0, none⟩))] (OwnS 42 2 v77 (y79.map cTii) :: SS 23 3 1 cI v8 hs26 (y48) :: OwnS 3 1 v12 (y49.map cI) :: OwnS 3 1 v15 ((y17.set a2.toNat (-2)).map cI) :: Bx bq7_8_1 41 [v8, v77, v12, v15, I x80] :: Bx b3 26 [.slice none 0 0, .slice none 0 0, .bool false, I 0] :: L) a w) (fun (_ : Unit) _ _ => False) ?_ ?_ ?_ ?_
          · rintro ⟨y69, x70, x71⟩ o81r hb83 a w ⟨v67, he, hs⟩
            dsimp only [F4_L2] at hb83
            refine TC.use ?_ he hs
            refine TC.k ?_
            refine TC.region ?_
            refine TO.s rfl rfl rfl (StepS.cmp rfl rfl rfl) ?_
            refine TO.code ?_
            refine TC.k ?_
            refine TC.cond rfl (fun hc84 => ?_) (fun hc84 => ?_)
            · replace hb83 := cond_t hc84 hb83
              refine TC.skipk ?_
              refine TC.k ?_
              refine TC.block ?_
              refine TC.k ?_
              refine TC.region ?_
              obtain ⟨x85, hx86, hb83⟩ := bind_some hb83
              refine TO.s rfl rfl rfl (StepS.idx rfl rfl (RR.row (SS.rr (Ent.at 1 rfl)) hx65) ksliceB_23_3_1_true (idx_spec hx86).1 (idxm_lt hx86)) ?_
              refine TO.s rfl rfl rfl (StepS.ld0 rfl (RR.row (SS.rr (Ent.at 1 rfl)) hx65) kscalB_3_true rfl (idxm hx86) rfl) ?_
              refine TO.s rfl rfl rfl (StepS.assign rfl) ?_
              refine TO.code ?_
              refine TC.region ?_
              refine TO.s rfl rfl rfl (StepS.move rfl) ?_
              refine TO.s rfl rfl rfl (StepS.move rfl) ?_
              refine TO.s rfl rfl rfl (StepS.move rfl) ?_
              refine TO.ghost (fun _ s => Sat.front 4 rfl s) ?_
              obtain ⟨r87, hc88, hb83⟩ := bind_some hb83
              refine TO.callO kcallB_13_true rfl rfl rfl (fun _ st => C13 (a0 := (y69, x70))  hc88 st) ?_
              rintro _ _ ⟨v89, rfl, rfl⟩
              refine TO.code ?_
              refine TC.region ?_
              refine TO.s rfl rfl rfl (StepS.ari rfl rfl rfl) ?_
              refine TO.s rfl rfl rfl (StepS.move rfl) ?_
              cases hb83
              refine TO.nil fun a w e s => ?_
              exact ⟨v89, e.sub (lk_of_allIn ⟨rfl, rfl, rfl, rfl, rfl, rfl, rfl, trivial⟩), s.mono fun _ s => (by exact Sat.by [5, 1, 5, 5, 5, 5] 6 0 (by kernel_rfl) s)⟩
            · replace hb83 := cond_f hc84 hb83
              cases hb83
              refine TC.exit rfl fun a w e s => ?_
              exact ⟨v67, e.sub (lk_of_allIn ⟨rfl, rfl, rfl, rfl, trivial⟩), s⟩
          · exact fun a w e s => ⟨.slice none 0 0, e.sub (lk_of_allIn ⟨rfl, rfl, rfl, rfl, rfl, rfl, rfl, trivial⟩), s.mono fun _ s => (by replace s := Sat.nilS (e := 42) (sz := 2) (f := cTii) s; exact Sat.by [5, 5, 5, 5, 5, 5] 6 0 (by kernel_rfl) s)⟩
          · rintro ⟨y79, x80⟩ rfl a w ⟨v77, he, hs⟩
            dsimp only [Ctl.on] at hm
            refine TC.use ?_ he hs
            refine TC.k ?_
            refine TC.region ?_
            refine TO.s rfl rfl rfl (StepS.assign rfl) ?_
            refine TO.code ?_
            refine TC.k ?_
            refine TC.k ?_
            refine TC.region ?_
            refine TO.s rfl rfl rfl (StepS.move rfl) ?_
            refine TO.s rfl rfl rfl (StepS.lenm rfl e3.tl.tl.tl.tl.tl.tl ksliceB_23_3_1_true rfl) ?_
            refine TO.s rfl rfl rfl (StepS.move rfl) ?_
            refine TO.code ?_
            obtain ⟨o126, hw127, hm⟩ := bind_some hm
            refine TC.loop hw127 (fun (y93, y96, y97, y99, y100, x101, x102) => fun a w => ∃ v91 : Value, ∃ v94 : Value, ∃ hs98 : List Value, Mid 201 B [(2, I a2), (8, .pointer (some ⟨b3, 0, none⟩)), (11, .pointer (some ⟨bq7_8_1, 0, none⟩)), (18, v91), (129, h3), (130, I (a3.length : Int)), (131, I x102)] (OwnS 27 1 v91 (y93.map cI) :: OwnS 42 2 v94 (y96.map cTii) :: SS 23 3 1 cI v8 hs98 (y97) :: OwnS 3 1 v12 (y99.map cI) :: OwnS 3 1 v15 (y100.map cI) :: Bx bq7_8_1 41 [v8, v94, v12, v15, I x101] :: Bx b3 26 [.slice none 0 0, .slice none 0 0, .bool false, I 0] :: L) a w) (fun (y117, y120, y121, y123, y124, x125) => fun a w => ∃ v115 : Value, ∃ v118 : Value, ∃ hs122 : List Value, Mid 201 B [(2, I a2), (8, .pointer (some ⟨b3, 0, none⟩)), (11, .pointer (some ⟨bq7_8_1, 0, none⟩)), (18, v115)] (OwnS 27 1 v115 (y117.map cI) :: OwnS 42 2 v118 (y120.map cTii) :: SS 23 3 1 cI v8 hs122 (y121) :: OwnS 3 1 v12 (y123.map cI) :: OwnS 3 1 v15 (y124.map cI) :: Bx bq7_8_1 41 [v8, v118, v12, v15, I x125] :: Bx b3 26 [.slice none 0 0, .slice none 0 0, .bool false, I 0] :: L) a w) (fun (_ : Unit) _ _ => False) ?_ ?_ ?_ ?_
            · rintro ⟨y93, y96, y97, y99, y100, x101, x102⟩ o126r hb128 a w ⟨v91, v94, hs98, he, hs⟩
              dsimp only [F4_L3] at hb128
              refine TC.use ?_ he hs
              refine TC.k ?_
              refine TC.region ?_
              refine TO.s rfl rfl rfl (StepS.cmp rfl rfl rfl) ?_
              refine TO.code ?_
              refine TC.k ?_
              refine TC.cond rfl (fun hc129 => ?_) (fun hc129 => ?_)
              · replace hb128 := cond_t hc129 hb128
                refine TC.skipk ?_
                refine TC.k ?_
                obtain ⟨⟨y132, y133, y135, y137, y138, x139⟩, hj140, hb128⟩ := bind_some hb128
                first | refine TC.cutM (fun a w => ∃ v130 : Value, ∃ v134 : Value, ∃ hs136 : List Value, Mid 201 B [(2, I a2), (8, .pointer (some ⟨b3, 0, none⟩)), (11, .pointer (some ⟨bq7_8_1, 0, none⟩)), (18, v134), (129, h3), (130, I (a3.length : Int)), (131, I x102)] (OwnS 42 2 v130 (y132.map cTii) :: OwnS 27 1 v134 (y133.map cI) :: SS 23 3 1 cI v8 hs136 (y135) :: OwnS 3 1 v12 (y137.map cI) :: OwnS 3 1 v15 (y138.map cI) :: Bx bq7_8_1 41 [v8, v130, v12, v15, I x139] :: Bx b3 26 [.slice none 0 0, .slice none 0 0, .bool false, I 0] :: L) a w) ?_ ?_ | refine TC.cutX (fun a w => ∃ v130 : Value, ∃ v134 : Value, ∃ hs136 : List Value, Mid 201 B [(2, I a2), (8, .pointer (some ⟨b3, 0, none⟩)), (11, .pointer (some ⟨bq7_8_1, 0, none⟩)), (18, v134), (129, h3), (130, I (a3.length : Int)), (131, I x102)] (OwnS 42 2 v130 (y132.map cTii) :: OwnS 27 1 v134 (y133.map cI) :: SS 23 3 1 cI v8 hs136 (y135) :: OwnS 3 1 v12 (y137.map cI) :: OwnS 3 1 v15 (y138.map cI) :: Bx bq7_8_1 41 [v8, v130, v12, v15, I x139] :: Bx b3 26 [.slice none 0 0, .slice none 0 0, .bool false, I 0] :: L) a w) ?_ ?_
                · refine TC.block ?_
                  refine TC.k ?_
                  refine TC.region ?_
                  obtain ⟨x141, hx142, hj140⟩ := bind_some hj140
                  refine TO.s rfl rfl rfl (StepS.idx rfl rfl e3.tl.tl.tl.tl.tl.tl.tl ksliceB_23_3_1_true (idx_spec hx142).1 (idxm_lt hx142)) ?_
                  refine TO.s rfl rfl rfl (StepS.ld0 rfl e3.tl.tl.tl.tl.tl.tl.tl kscalB_3_true rfl (idxm hx142) rfl) ?_
                  refine TO.s rfl rfl rfl (StepS.assign rfl) ?_
                  refine TO.code ?_
                  refine TC.k ?_
                  refine TC.k ?_
                  refine TC.region ?_
                  refine TO.s rfl rfl rfl (StepS.move rfl) ?_
                  refine TO.s rfl rfl rfl (StepS.cmp rfl rfl rfl) ?_
                  refine TO.s rfl rfl rfl (StepS.move rfl) ?_
                  refine TO.mid1 8 145 (.bool ((decide (x141 < 0)) || (decide (x141 ≥ (y96.length : Int))))) ?_ ?_
                  · refine bcase ((decide (x141 < 0))) (fun hb143 => ?_) (fun hb143 => ?_)
                    · refine TO.skip rfl rfl rfl (skipT hb143) rfl rfl ?_
                      refine TO.skip rfl rfl rfl (skipT hb143) rfl rfl ?_
                      refine TO.skip rfl rfl rfl (skipT hb143) rfl rfl ?_
                      refine TO.skip rfl rfl rfl (skipT hb143) rfl rfl ?_
                      refine TO.skip rfl rfl rfl (skipT hb143) rfl rfl ?_
                      refine TO.skip rfl rfl rfl (skipT hb143) rfl rfl ?_
                      refine TO.skip rfl rfl rfl (skipT hb143) rfl rfl ?_
                      refine TO.s rfl rfl rfl (StepS.pickT rfl hb143 rfl) ?_
                      exact TO.up1 8 0 rfl rfl (by rw [hb143]; rfl) rfl
                    · refine TO.sw rfl rfl rfl hb143 rfl rfl (StepS.move rfl) ?_
                      refine TO.sw rfl rfl rfl hb143 rfl rfl (StepS.move rfl) ?_
                      refine TO.sw rfl rfl rfl hb143 rfl rfl (StepS.nilc rfl) ?_
                      refine TO.sw rfl rfl rfl hb143 rfl rfl (StepS.fld rfl kfieldB_41_1_1_true) ?_
                      refine TO.sw rfl rfl rfl hb143 rfl rfl (StepS.ldB rfl (Ent.at 5 rfl) kscalB_22_true rfl) ?_
                      refine TO.sw rfl rfl rfl hb143 rfl rfl (StepS.lenm rfl (OwnS.rd (Ent.at 1 rfl)) ksliceB_22_42_2_true rfl) ?_
                      refine TO.sw rfl rfl rfl hb143 rfl rfl (StepS.cmp rfl rfl rfl) ?_
                      refine TO.s rfl rfl rfl (StepS.pickF rfl hb143 rfl) ?_
                      exact TO.up1 8 0 rfl rfl (by rw [hb143]; rfl) rfl
                  refine TO.code ?_
                  refine TC.cond rfl (fun hc144 => ?_) (fun hc144 => ?_)
                  · replace hj140 := cond_t hc144 hj140
                    refine TC.k ?_
                    refine TC.region ?_
                    refine TO.s rfl rfl rfl (StepS.move rfl) ?_
                    refine TO.litS (f := cI) ([4] : List Int) kelemB_24_27_1_8_true kinfo_27_bind_zero_some_I_0 rfl rfl (fun _ => rfl) rfl rfl (by kernel_rfl) rfl fun v145 => ?_
                    obtain ⟨y147, hk148, hj140⟩ := bind_some hj140
                    refine TO.app (k := 1) (f := cI) kelemB_24_27_1_8_true (by decide) rfl rfl rfl (OwnS.rd (Ent.at 0 rfl)) hk148 (fun x c hc => by simp [Value.oneCell'] at hc ⊢; first | (obtain rfl := hc; rfl) | (rcases hc with rfl <;> rfl)) rfl rfl fun v149 => ?_
                    refine TO.s rfl rfl rfl (StepS.assign rfl) ?_
                    refine TO.code ?_
                    cases hj140
                    refine TC.exit rfl fun a w e s => ?_
                    exact ⟨v94, v149, hs98, e.sub (lk_of_allIn ⟨rfl, rfl, rfl, rfl, rfl, rfl, rfl, trivial⟩), s.mono fun _ s => (by exact Sat.by [7, 7, 7, 7, 7, 6, 7] 7 1 (by kernel_rfl) s)⟩
                  · replace hj140 := cond_f hc144 hj140
                    refine TC.skipk ?_
                    refine TC.k ?_
                    refine TC.region ?_
                    refine TO.s rfl rfl rfl (StepS.move rfl) ?_
                    refine TO.s rfl rfl rfl (StepS.nilc rfl) ?_
                    refine TO.s rfl rfl rfl (StepS.fld rfl kfieldB_41_1_1_true) ?_
                    refine TO.s rfl rfl rfl (StepS.ldB rfl (Ent.at 5 rfl) kscalB_22_true rfl) ?_
                    refine TO.s rfl rfl rfl (StepS.move rfl) ?_
                    obtain ⟨x150, hx151, hj140⟩ := bind_some hj140
                    refine TO.s rfl rfl rfl (StepS.idx rfl rfl (OwnS.rd (Ent.at 1 rfl)) ksliceB_22_42_2_true (idx_spec hx151).1 (idxm_lt hx151)) ?_
                    refine TO.s rfl rfl rfl (StepS.ldE rfl (OwnS.rd (Ent.at 1 rfl)) kaggB_42_2_true rfl (idxm hx151)) ?_
                    refine TO.alloc kinfo_42_bind_zero_some_agg_I_0_I_0 rfl rfl fun b152 => ?_
                    refine TO.stB (us := [I x150.1, I x150.2]) 0 [I x150.1, I x150.2] rfl rfl rfl ksizeB_42_2_true rfl rfl rfl (by simp [Value.oneCell']) rfl ?_
                    refine TO.code ?_
                    refine TC.k ?_
                    refine TC.region ?_
                    refine TO.s rfl rfl rfl (StepS.move rfl) ?_
                    refine TO.s rfl rfl rfl (StepS.move rfl) ?_
                    refine TO.s rfl rfl rfl (StepS.nilc rfl) ?_
                    refine TO.s rfl rfl rfl (StepS.fld rfl kfieldB_41_1_1_true) ?_
                    refine TO.s rfl rfl rfl (StepS.ldB rfl (Ent.at 6 rfl) kscalB_22_true rfl) ?_
                    refine TO.s rfl rfl rfl (StepS.move rfl) ?_
                    refine TO.s rfl rfl rfl (StepS.move rfl) ?_
                    refine TO.s rfl rfl rfl (StepS.ari rfl rfl rfl) ?_
                    refine TO.ghost (fun _ s => Sat.front 2 rfl s) ?_
                    obtain ⟨r153, hc154, hj140⟩ := bind_some hj140
                    refine TO.callO kcallB_14_true rfl rfl rfl (fun _ st => C14  hc154 st) ?_
                    rintro v155 _ ⟨_, rfl, rfl⟩
                    refine TO.s rfl rfl rfl (StepS.nilc rfl) ?_
                    refine TO.s rfl rfl rfl (StepS.fld rfl kfieldB_41_1_1_true) ?_
                    refine TO.pure (fun _ s => Rd.one (OwnS.rd (Ent.at 0 rfl)) s) fun oc157 => ?_
                    refine TO.stB (us := [v155]) 6 [v8, v155, v12, v15, I x101] rfl rfl rfl ksizeB_22_1_true oc157.2 rfl rfl (by intro u hu; simp only [List.mem_cons, List.not_mem_nil, or_false] at hu; rcases hu with rfl <;> first | exact oc157.1 | rfl) rfl ?_
                    refine TO.code ?_
                    refine TC.k ?_
                    refine TC.region ?_
                    refine TO.s rfl rfl rfl (StepS.move rfl) ?_
                    refine TO.s rfl rfl rfl (StepS.aidx (j := 0) rfl rfl karrB_42_2_3_1_true ⟨by decide, by decide⟩ rfl) ?_
                    refine TO.s rfl rfl rfl (StepS.ldB rfl (Ent.at 1 rfl) kscalB_3_true rfl) ?_
                    refine TO.s rfl rfl rfl (StepS.aidx (j := 1) rfl rfl karrB_42_2_3_1_true ⟨by decide, by decide⟩ rfl) ?_
                    refine TO.s rfl rfl rfl (StepS.ldB rfl (Ent.at 1 rfl) kscalB_3_true rfl) ?_
                    refine TO.ghost (fun _ s => Sat.front 5 rfl s) ?_
                    refine TO.ghost (fun _ s => Sat.front 5 rfl s) ?_
                    refine TO.ghost (fun _ s => Sat.front 2 rfl s) ?_
                    refine TO.ghost (fun _ s => Sat.front 5 rfl s) ?_
                    refine TO.ghost (fun _ s => Sat.front 6 rfl s) ?_
                    obtain ⟨r158, hc159, hj140⟩ := bind_some hj140
                    refine TO.callO kcallB_15_true rfl rfl rfl (fun _ st => C15 (a0 := (y97, r153, y99, y100, x101))  hc159 st) ?_
                    rintro _ _ ⟨hs160, v162, rfl, rfl⟩
                    refine TO.code ?_
                    refine TC.region ?_
                    refine TO.s rfl rfl rfl (StepS.move rfl) ?_
                    refine TO.litS (f := cI) ([0] : List Int) kelemB_24_27_1_8_true kinfo_27_bind_zero_some_I_0 rfl rfl (fun _ => rfl) rfl rfl (by kernel_rfl) rfl fun v166 => ?_
                    obtain ⟨y168, hk169, hj140⟩ := bind_some hj140
                    refine TO.app (k := 7) (f := cI) kelemB_24_27_1_8_true (by decide) rfl rfl rfl (OwnS.rd (Ent.at 0 rfl)) hk169 (fun x c hc => by simp [Value.oneCell'] at hc ⊢; first | (obtain rfl := hc; rfl) | (rcases hc with rfl <;> rfl)) rfl rfl fun v170 => ?_
                    refine TO.s rfl rfl rfl (StepS.assign rfl) ?_
                    cases hj140
                    refine TO.nil fun a w e s => ?_
                    exact ⟨v162, v170, hs160, e.sub (lk_of_allIn ⟨rfl, rfl, rfl, rfl, rfl, rfl, rfl, trivial⟩), s.mono fun _ s => (by exact Sat.by [8, 2, 6, 6, 5, 8, 7] 7 2 (by kernel_rfl) s)⟩
                · intro a w ⟨v130, v134, hs136, he, hs⟩
                  refine TC.use ?_ he hs
                  refine TC.region ?_
                  refine TO.s rfl rfl rfl (StepS.ari rfl rfl rfl) ?_
                  refine TO.s rfl rfl rfl (StepS.move rfl) ?_
                  cases hb128
                  refine TO.nil fun a w e s => ?_
                  exact ⟨v134, v130, hs136, e.sub (lk_of_allIn ⟨rfl, rfl, rfl, rfl, rfl, rfl, rfl, trivial⟩), s.mono fun _ s => (by exact Sat.by [6, 6, 6, 6, 6, 5, 6] 7 0 (by kernel_rfl) s)⟩
              · replace hb128 := cond_f hc129 hb128
                cases hb128
                refine TC.exit rfl fun a w e s => ?_
                exact ⟨v91, v94, hs98, e.sub (lk_of_allIn ⟨rfl, rfl, rfl, rfl, trivial⟩), s⟩
            · exact fun a w e s => ⟨.slice none 0 0, v77, hs26, e.sub (lk_of_allIn ⟨rfl, rfl, rfl, rfl, rfl, rfl, rfl, trivial⟩), s.mono fun _ s => (by replace s := Sat.nilS (e := 27) (sz := 1) (f := cI) s; exact Sat.by [6, 6, 6, 6, 6, 6, 6] 7 0 (by kernel_rfl) s)⟩
            · rintro ⟨y117, y120, y121, y123, y124, x125⟩ rfl a w ⟨v115, v118, hs122, he, hs⟩
              dsimp only [Ctl.on] at hm
              refine TC.use ?_ he hs
              refine TC.k ?_
              refine TC.region ?_
              refine TO.s rfl rfl rfl (StepS.move rfl) ?_
              refine TO.s rfl rfl rfl (StepS.nilc rfl) ?_
              refine TO.s rfl rfl rfl (StepS.fld rfl kfieldB_41_3_3_true) ?_
              refine TO.s rfl rfl rfl (StepS.ldB rfl (Ent.at 5 rfl) kscalB_23_true rfl) ?_
              refine TO.s rfl rfl rfl (StepS.move rfl) ?_
              obtain ⟨x171, hx172, hm⟩ := bind_some hm
              refine TO.s rfl rfl rfl (StepS.idx rfl rfl (OwnS.rd (Ent.at 4 rfl)) ksliceB_23_3_1_true (idx_spec hx172).1 (idxm_lt hx172)) ?_
              refine TO.stO (i := a2.toNat) (off := 0) (us := [I (-1)]) 4 (-1) rfl rfl rfl ksizeB_3_1_true rfl rfl rfl (idx_spec hx172).2 rfl (by simp [Value.oneCell']) rfl ?_
              refine TO.code ?_
              refine TC.k ?_
              refine TC.region_tail 17 kfollows_mixedOrders_true (by kernel_rfl) ?_
              refine TS.s rfl rfl rfl (StepS.move rfl) ?_
              refine TS.s rfl rfl rfl (StepS.move rfl) ?_
              refine TS.s rfl rfl rfl (StepS.nilc rfl) ?_
              refine TS.s rfl rfl rfl (StepS.fld rfl kfieldB_41_3_3_true) ?_
              refine TS.s rfl rfl rfl (StepS.ldB rfl (Ent.at 5 rfl) kscalB_23_true rfl) ?_
              refine TS.s rfl rfl rfl (StepS.move rfl) ?_
              refine TS.s rfl rfl rfl (StepS.nilc rfl) ?_
              refine TS.s rfl rfl rfl (StepS.fld rfl kfieldB_41_2_2_true) ?_
              refine TS.s rfl rfl rfl (StepS.ldB rfl (Ent.at 5 rfl) kscalB_23_true rfl) ?_
              refine TS.s rfl rfl rfl (StepS.move rfl) ?_
              obtain ⟨x173, hx174, hm⟩ := bind_some hm
              refine TS.s rfl rfl rfl (StepS.idx rfl rfl (OwnS.rd (Ent.at 3 rfl)) ksliceB_23_3_1_true (idx_spec hx174).1 (idxm_lt hx174)) ?_
              refine TS.s rfl rfl rfl (StepS.ld0 rfl (OwnS.rd (Ent.at 3 rfl)) kscalB_3_true rfl (idxm hx174) rfl) ?_
              refine TS.s rfl rfl rfl (StepS.cmp rfl rfl rfl) ?_
              refine TS.s rfl rfl rfl (StepS.move rfl) ?_
              refine TS.s rfl rfl rfl (StepS.nilc rfl) ?_
              refine TS.s rfl rfl rfl (StepS.fld rfl kfieldB_41_4_4_true) ?_
              refine TS.s rfl rfl rfl (StepS.ldB rfl (Ent.at 5 rfl) kscalB_3_true rfl) ?_
              refine TS.nil ?_
              refine TO.at ?_
              refine TO.pure (fun _ s => Rd.one (OwnS.rd (Ent.at 0 rfl)) s) fun oc175 => ?_
              refine TO.pure (fun _ s => Rd.one (OwnS.rd (Ent.at 4 rfl)) s) fun oc176 => ?_
              refine TO.s rfl rfl rfl (StepS.buildS (us := [(0, .agg #[v115]), (1, .agg #[v15]), (2, .bool (x173 == 0)), (3, I x125)]) (cs := [v115, v15, .bool (x173 == 0), I x125]) rfl (by simp only [List.map_cons, List.map_nil, oc175.2, oc176.2] <;> rfl) (by kernel_rfl)) ?_
              refine TO.pure (fun _ s => Rd.one (OwnS.rd (Ent.at 0 rfl)) s) fun oc177 => ?_
              refine TO.pure (fun _ s => Rd.one (OwnS.rd (Ent.at 4 rfl)) s) fun oc178 => ?_
              refine TO.stB (us := [v115, v15, .bool (x173 == 0), I x125]) 6 [v115, v15, .bool (x173 == 0), I x125] rfl rfl rfl ksizeB_26_4_true rfl rfl rfl (by intro u hu; simp only [List.mem_cons, List.not_mem_nil, or_false] at hu; rcases hu with rfl | rfl | rfl | rfl <;> first | exact oc177.1 | exact oc178.1 | rfl) rfl ?_
              refine TO.s rfl rfl rfl (StepS.assign rfl) ?_
              refine TO.code ?_
              cases hm
              refine TC.ret fun a w e s => ?_
              refine FRet.cell2 (P := Try.prog) (fn := Try.f4) e s rfl rfl rfl (Ent.at 6 rfl) kaggB_26_4_true rfl ?_
              refine ⟨_, _, rfl, ⟨(v115), (v15), rfl, rfl⟩, ?_⟩
              refine s.mono fun _ s => ?_
              replace s := Sat.front 4 rfl s
              replace s := Sat.front 1 rfl s
              replace s := Sat.erase 2 s
              replace s := Sat.erase 2 s
              replace s := Sat.erase 2 s
              replace s := Sat.erase 2 s
              replace s := Sat.erase 2 s
              exact s
            · rintro r rfl
              exact fun a w h => h.elim
          · rintro r rfl
            exact fun a w h => h.elim
        · rintro r rfl
          exact fun a w h => h.elim
      · rintro r rfl
        exact fun a w h => h.elim

set_option maxRecDepth 100000 in
theorem C5 {B : World} {L : List HP} {a0 : Int} {a1 : List (Int × Int)} {h1 : Value} {r0 : Int} (e1 : Ent L (Rd 2 h1 (a1.map cTii))) (hm : F5 a0 a1 = some r0) {w : World} (st : St B L w) : Calls Try.prog 5 #[I a0, h1] w (fun e w' => (e = .returned (I r0) ∧ St B (L) w')) := by
  refine calls_of (N := 52) (L := L) (args := [I a0, h1]) Try.func5 rfl rfl rfl ?_ st
  dsimp only [F5] at hm
  refine TC.k ?_
  refine TC.region ?_
  refine TO.s rfl rfl rfl (StepS.assign rfl) ?_
  refine TO.code ?_
  refine TC.k ?_
  refine TC.k ?_
  refine TC.region ?_
  refine TO.s rfl rfl rfl (StepS.move rfl) ?_
  refine TO.s rfl rfl rfl (StepS.cmp rfl rfl rfl) ?_
  refine TO.s rfl rfl rfl (StepS.move rfl) ?_
  refine TO.mid1 3 12 (.bool ((decide (a0 < 1)) || (decide (a0 > 6)))) ?_ ?_
  · refine bcase ((decide (a0 < 1))) (fun hb1 => ?_) (fun hb1 => ?_)
    · refine TO.skip rfl rfl rfl (skipT hb1) rfl rfl ?_
      refine TO.skip rfl rfl rfl (skipT hb1) rfl rfl ?_
      refine TO.s rfl rfl rfl (StepS.pickT rfl hb1 rfl) ?_
      exact TO.up1 3 0 rfl rfl (by rw [hb1]; rfl) rfl
    · refine TO.sw rfl rfl rfl hb1 rfl rfl (StepS.move rfl) ?_
      refine TO.sw rfl rfl rfl hb1 rfl rfl (StepS.cmp rfl rfl rfl) ?_
      refine TO.s rfl rfl rfl (StepS.pickF rfl hb1 rfl) ?_
      exact TO.up1 3 0 rfl rfl (by rw [hb1]; rfl) rfl
  refine TO.s rfl rfl rfl (StepS.move rfl) ?_
  refine TO.mid1 4 17 (.bool (((decide (a0 < 1)) || (decide (a0 > 6))) || (decide ((a1.length : Int) > 15)))) ?_ ?_
  · refine bcase (((decide (a0 < 1)) || (decide (a0 > 6)))) (fun hb2 => ?_) (fun hb2 => ?_)
    · refine TO.skip rfl rfl rfl (skipT hb2) rfl rfl ?_
      refine TO.skip rfl rfl rfl (skipT hb2) rfl rfl ?_
      refine TO.skip rfl rfl rfl (skipT hb2) rfl rfl ?_
      refine TO.s rfl rfl rfl (StepS.pickT rfl hb2 rfl) ?_
      exact TO.up1 4 0 rfl rfl (by rw [hb2]; rfl) rfl
    · refine TO.sw rfl rfl rfl hb2 rfl rfl (StepS.move rfl) ?_
      refine TO.sw rfl rfl rfl hb2 rfl rfl (StepS.lenm rfl e1 ksliceB_22_42_2_true rfl) ?_
      refine TO.sw rfl rfl rfl hb2 rfl rfl (StepS.cmp rfl rfl rfl) ?_
      refine TO.s rfl rfl rfl (StepS.pickF rfl hb2 rfl) ?_
      exact TO.up1 4 0 rfl rfl (by rw [hb2]; rfl) rfl
  refine TO.code ?_
  refine TC.cond rfl (fun hc3 => ?_) (fun hc3 => ?_)
  · replace hm := cond_t hc3 hm
    refine TC.k ?_
    refine TC.region ?_
    refine TO.s rfl rfl rfl (StepS.assign rfl) ?_
    refine TO.code ?_
    cases hm
    refine TC.ret fun a w e s => ?_
    refine FRet.mk1 (P := Try.prog) (fn := Try.f5) (t := 4) e rfl rfl ?_
    exact ⟨rfl, s.mono fun _ => Sat.dropN 0⟩
  · replace hm := cond_f hc3 hm
    refine TC.skipk ?_
    refine TC.k ?_
    refine TC.k ?_
    refine TC.region ?_
    refine TO.s rfl rfl rfl (StepS.move rfl) ?_
    refine TO.s rfl rfl rfl (StepS.lenm rfl e1 ksliceB_22_42_2_true rfl) ?_
    refine TO.s rfl rfl rfl (StepS.move rfl) ?_
    refine TO.code ?_
    obtain ⟨o6, hw7, hm⟩ := bind_some hm
    refine TC.loop hw7 (fun x4 => fun a w => Mid 52 B [(0, I a0), (18, h1), (19, I (a1.length : Int)), (20, I x4)] (L) a w) (fun _ => fun a w => Mid 52 B [] (L) a w) (fun r0 => FRet Try.prog Try.f5 (fun e w' => (e = .returned (I r0) ∧ St B (L) w'))) ?_ ?_ ?_ ?_
    · rintro x4 o6r hb8 a w ⟨he, hs⟩
      dsimp only [F5_L0] at hb8
      refine TC.use ?_ he hs
      refine TC.k ?_
      refine TC.region ?_
      refine TO.s rfl rfl rfl (StepS.cmp rfl rfl rfl) ?_
      refine TO.code ?_
      refine TC.k ?_
      refine TC.cond rfl (fun hc9 => ?_) (fun hc9 => ?_)
      · replace hb8 := cond_t hc9 hb8
        refine TC.skipk ?_
        refine TC.k ?_
        refine TC.block ?_
        refine TC.k ?_
        refine TC.region ?_
        obtain ⟨x10, hx11, hb8⟩ := bind_some hb8
        refine TO.s rfl rfl rfl (StepS.idx rfl rfl e1 ksliceB_22_42_2_true (idx_spec hx11).1 (idxm_lt hx11)) ?_
        refine TO.s rfl rfl rfl (StepS.ldE rfl e1 kaggB_42_2_true rfl (idxm hx11)) ?_
        refine TO.alloc kinfo_42_bind_zero_some_agg_I_0_I_0 rfl rfl fun b12 => ?_
        refine TO.stB (us := [I x10.1, I x10.2]) 0 [I x10.1, I x10.2] rfl rfl rfl ksizeB_42_2_true rfl rfl rfl (by simp [Value.oneCell']) rfl ?_
        refine TO.code ?_
        refine TC.k ?_
        refine TC.region ?_
        refine TO.s rfl rfl rfl (StepS.aidx (j := 0) rfl rfl karrB_42_2_3_1_true ⟨by decide, by decide⟩ rfl) ?_
        refine TO.s rfl rfl rfl (StepS.ldB rfl (Ent.at 0 rfl) kscalB_3_true rfl) ?_
        refine TO.s rfl rfl rfl (StepS.cmp rfl rfl rfl) ?_
        refine TO.s rfl rfl rfl (StepS.move rfl) ?_
        refine TO.mid1 5 32 (.bool ((decide (x10.1 < 0)) || (decide (x10.1 ≥ a0)))) ?_ ?_
        · refine bcase ((decide (x10.1 < 0))) (fun hb13 => ?_) (fun hb13 => ?_)
          · refine TO.skip rfl rfl rfl (skipT hb13) rfl rfl ?_
            refine TO.skip rfl rfl rfl (skipT hb13) rfl rfl ?_
            refine TO.skip rfl rfl rfl (skipT hb13) rfl rfl ?_
            refine TO.skip rfl rfl rfl (skipT hb13) rfl rfl ?_
            refine TO.s rfl rfl rfl (StepS.pickT rfl hb13 rfl) ?_
            exact TO.up1 5 0 rfl rfl (by rw [hb13]; rfl) rfl
          · refine TO.sw rfl rfl rfl hb13 rfl rfl (StepS.aidx (j := 0) rfl rfl karrB_42_2_3_1_true ⟨by decide, by decide⟩ rfl) ?_
            refine TO.sw rfl rfl rfl hb13 rfl rfl (StepS.ldB rfl (Ent.at 0 rfl) kscalB_3_true rfl) ?_
            refine TO.sw rfl rfl rfl hb13 rfl rfl (StepS.move rfl) ?_
            refine TO.sw rfl rfl rfl hb13 rfl rfl (StepS.cmp rfl rfl rfl) ?_
            refine TO.s rfl rfl rfl (StepS.pickF rfl hb13 rfl) ?_
            exact TO.up1 5 0 rfl rfl (by rw [hb13]; rfl) rfl
        refine TO.s rfl rfl rfl (StepS.move rfl) ?_
        refine TO.mid1 4 37 (.bool (((decide (x10.1 < 0)) || (decide (x10.1 ≥ a0))) || (decide (x10.2 < 0)))) ?_ ?_
        · refine bcase (((decide (x10.1 < 0)) || (decide (x10.1 ≥ a0)))) (fun hb14 => ?_) (fun hb14 => ?_)
          · refine TO.skip rfl rfl rfl (skipT hb14) rfl rfl ?_
            refine TO.skip rfl rfl rfl (skipT hb14) rfl rfl ?_
            refine TO.skip rfl rfl rfl (skipT hb14) rfl rfl ?_
            refine TO.s rfl rfl rfl (StepS.pickT rfl hb14 rfl) ?_
            exact TO.up1 4 0 rfl rfl (by rw [hb14]; rfl) rfl
          · refine TO.sw rfl rfl rfl hb14 rfl rfl (StepS.aidx (j := 1) rfl rfl karrB_42_2_3_1_true ⟨by decide, by decide⟩ rfl) ?_
            refine TO.sw rfl rfl rfl hb14 rfl rfl (StepS.ldB rfl (Ent.at 0 rfl) kscalB_3_true rfl) ?_
            refine TO.sw rfl rfl rfl hb14 rfl rfl (StepS.cmp rfl rfl rfl) ?_
            refine TO.s rfl rfl rfl (StepS.pickF rfl hb14 rfl) ?_
            exact TO.up1 4 0 rfl rfl (by rw [hb14]; rfl) rfl
        refine TO.s rfl rfl rfl (StepS.move rfl) ?_
        refine TO.mid1 5 43 (.bool ((((decide (x10.1 < 0)) || (decide (x10.1 ≥ a0))) || (decide (x10.2 < 0))) || (decide (x10.2 ≥ a0)))) ?_ ?_
        · refine bcase ((((decide (x10.1 < 0)) || (decide (x10.1 ≥ a0))) || (decide (x10.2 < 0)))) (fun hb15 => ?_) (fun hb15 => ?_)
          · refine TO.skip rfl rfl rfl (skipT hb15) rfl rfl ?_
            refine TO.skip rfl rfl rfl (skipT hb15) rfl rfl ?_
            refine TO.skip rfl rfl rfl (skipT hb15) rfl rfl ?_
            refine TO.skip rfl rfl rfl (skipT hb15) rfl rfl ?_
            refine TO.s rfl rfl rfl (StepS.pickT rfl hb15 rfl) ?_
            exact TO.up1 5 0 rfl rfl (by rw [hb15]; rfl) rfl
          · refine TO.sw rfl rfl rfl hb15 rfl rfl (StepS.aidx (j := 1) rfl rfl karrB_42_2_3_1_true ⟨by decide, by decide⟩ rfl) ?_
            refine TO.sw rfl rfl rfl hb15 rfl rfl (StepS.ldB rfl (Ent.at 0 rfl) kscalB_3_true rfl) ?_
            refine TO.sw rfl rfl rfl hb15 rfl rfl (StepS.move rfl) ?_
            refine TO.sw rfl rfl rfl hb15 rfl rfl (StepS.cmp rfl rfl rfl) ?_
            refine TO.s rfl rfl rfl (StepS.pickF rfl hb15 rfl) ?_
            exact TO.up1 5 0 rfl rfl (by rw [hb15]; rfl) rfl
        refine TO.s rfl rfl rfl (StepS.move rfl) ?_
        refine TO.mid1 6 50 (.bool (((((decide (x10.1 < 0)) || (decide (x10.1 ≥ a0))) || (decide (x10.2 < 0))) || (decide (x10.2 ≥ a0))) || (x10.1 == x10.2))) ?_ ?_
        · refine bcase (((((decide (x10.1 < 0)) || (decide (x10.1 ≥ a0))) || (decide (x10.2 < 0))) || (decide (x10.2 ≥ a0)))) (fun hb16 => ?_) (fun hb16 => ?_)
          · refine TO.skip rfl rfl rfl (skipT hb16) rfl rfl ?_
            refine TO.skip rfl rfl rfl (skipT hb16) rfl rfl ?_
            refine TO.skip rfl rfl rfl (skipT hb16) rfl rfl ?_
            refine TO.skip rfl rfl rfl (skipT hb16) rfl rfl ?_
            refine TO.skip rfl rfl rfl (skipT hb16) rfl rfl ?_
            refine TO.s rfl rfl rfl (StepS.pickT rfl hb16 rfl) ?_
            exact TO.up1 6 0 rfl rfl (by rw [hb16]; rfl) rfl
          · refine TO.sw rfl rfl rfl hb16 rfl rfl (StepS.aidx (j := 0) rfl rfl karrB_42_2_3_1_true ⟨by decide, by decide⟩ rfl) ?_
            refine TO.sw rfl rfl rfl hb16 rfl rfl (StepS.ldB rfl (Ent.at 0 rfl) kscalB_3_true rfl) ?_
            refine TO.sw rfl rfl rfl hb16 rfl rfl (StepS.aidx (j := 1) rfl rfl karrB_42_2_3_1_true ⟨by decide, by decide⟩ rfl) ?_
            refine TO.sw rfl rfl rfl hb16 rfl rfl (StepS.ldB rfl (Ent.at 0 rfl) kscalB_3_true rfl) ?_
            refine TO.sw rfl rfl rfl hb16 rfl rfl (StepS.cmp rfl rfl rfl) ?_
            refine TO.s rfl rfl rfl (StepS.pickF rfl hb16 rfl) ?_
            exact TO.up1 6 0 rfl rfl (by rw [hb16]; rfl) rfl
        refine TO.code ?_
        refine TC.cond rfl (fun hc17 => ?_) (fun hc17 => ?_)
        · replace hb8 := cond_t hc17 hb8
          refine TC.k ?_
          refine TC.region ?_
          refine TO.s rfl rfl rfl (StepS.assign rfl) ?_
          refine TO.code ?_
          cases hb8
          refine TC.ret fun a w e s => ?_
          refine FRet.mk1 (P := Try.prog) (fn := Try.f5) (t := 4) e rfl rfl ?_
          exact ⟨rfl, s.mono fun _ => Sat.dropN 1⟩
        · replace hb8 := cond_f hc17 hb8
          refine TC.skipk ?_
          refine TC.region ?_
          refine TO.s rfl rfl rfl (StepS.ari rfl rfl rfl) ?_
          refine TO.s rfl rfl rfl (StepS.move rfl) ?_
          cases hb8
          refine TO.nil fun a w e s => ?_
          exact ⟨e.sub (lk_of_allIn ⟨rfl, rfl, rfl, rfl, trivial⟩), s.mono fun _ => Sat.dropN 1⟩
      · replace hb8 := cond_f hc9 hb8
        cases hb8
        refine TC.exit rfl fun a w e s => ?_
        exact ⟨e.sub (lk_of_allIn trivial), s⟩
    · exact fun a w e s => ⟨e.sub (lk_of_allIn ⟨rfl, rfl, rfl, rfl, trivial⟩), s⟩
    · rintro _ rfl a w ⟨he, hs⟩
      dsimp only [Ctl.on] at hm
      refine TC.use ?_ he hs
      refine TC.k ?_
      refine TC.region ?_
      refine TO.s rfl rfl rfl (StepS.assign rfl) ?_
      refine TO.code ?_
      cases hm
      refine TC.ret fun a w e s => ?_
      refine FRet.mk1 (P := Try.prog) (fn := Try.f5) (t := 4) e rfl rfl ?_
      exact ⟨rfl, s.mono fun _ => Sat.dropN 0⟩
    · rintro r rfl
      cases hm
      exact fun a w h => h

set_option maxRecDepth 100000 in
theorem C6 {B : World} {L : List HP} {a0 : List (Int × Int)} {h0 : Value} {r0 : Bool} (e0 : Ent L (Rd 2 h0 (a0.map cTii))) (hm : F6 a0 = some r0) {w : World} (st : St B L w) : Calls Try.prog 6 #[h0] w (fun e w' => (e = .returned (.bool r0) ∧ St B (L) w')) := by
  refine calls_of (N := 50) (L := L) (args := [h0]) Try.func6 rfl rfl rfl ?_ st
  dsimp only [F6] at hm
  refine TC.k ?_
  refine TC.region ?_
  refine TO.s rfl rfl rfl (StepS.assign rfl) ?_
  refine TO.code ?_
  refine TC.k ?_
  refine TC.k ?_
  refine TC.region ?_
  refine TO.s rfl rfl rfl (StepS.move rfl) ?_
  refine TO.s rfl rfl rfl (StepS.lenm rfl e0 ksliceB_22_42_2_true rfl) ?_
  refine TO.s rfl rfl rfl (StepS.move rfl) ?_
  refine TO.code ?_
  obtain ⟨o3, hw4, hm⟩ := bind_some hm
  refine TC.loop hw4 (fun x1 => fun a w => Mid 50 B [(0, h0), (7, h0), (8, I (a0.length : Int)), (9, I x1)] (L) a w) (fun _ => fun a w => Mid 50 B [] (L) a w) (fun r0 => FRet Try.prog Try.f6 (fun e w' => (e = .returned (.bool r0) ∧ St B (L) w'))) ?_ ?_ ?_ ?_
  · rintro x1 o3r hb5 a w ⟨he, hs⟩
    dsimp only [F6_L0] at hb5
    refine TC.use ?_ he hs
    refine TC.k ?_
    refine TC.region ?_
    refine TO.s rfl rfl rfl (StepS.cmp rfl rfl rfl) ?_
    refine TO.code ?_
    refine TC.k ?_
    refine TC.cond rfl (fun hc6 => ?_) (fun hc6 => ?_)
    · replace hb5 := cond_t hc6 hb5
      refine TC.skipk ?_
      refine TC.k ?_
      refine TC.block ?_
      refine TC.k ?_
      refine TC.region ?_
      refine TO.s rfl rfl rfl (StepS.move rfl) ?_
      obtain ⟨x7, hx8, hb5⟩ := bind_some hb5
      refine TO.s rfl rfl rfl (StepS.idx rfl rfl e0 ksliceB_22_42_2_true (idx_spec hx8).1 (idxm_lt hx8)) ?_
      refine TO.s rfl rfl rfl (StepS.ldE rfl e0 kaggB_42_2_true rfl (idxm hx8)) ?_
      refine TO.alloc kinfo_42_bind_zero_some_agg_I_0_I_0 rfl rfl fun b9 => ?_
      refine TO.s rfl rfl rfl (StepS.assign rfl) ?_
      refine TO.stB (us := [I x7.1, I x7.2]) 0 [I x7.1, I x7.2] rfl rfl rfl ksizeB_42_2_true rfl rfl rfl (by simp [Value.oneCell']) rfl ?_
      refine TO.code ?_
      refine TC.k ?_
      refine TC.region ?_
      refine TO.s rfl rfl rfl (StepS.move rfl) ?_
      refine TO.s rfl rfl rfl (StepS.move rfl) ?_
      obtain ⟨y10, hs11, hb5⟩ := bind_some hb5
      obtain ⟨hs11a, hs11b, hs11c, _⟩ := slI_spec hs11
      refine TO.s rfl rfl rfl (StepS.slc rfl e0.tl ksliceB_22_42_2_true rfl rfl hs11a hs11b (by simpa using hs11c)) ?_
      refine TO.s rfl rfl rfl (StepS.lenm rfl (Ent.sub e0.tl hs11) ksliceB_22_42_2_true rfl) ?_
      refine TO.s rfl rfl rfl (StepS.move rfl) ?_
      refine TO.code ?_
      obtain ⟨o15, hw16, hb5⟩ := bind_some hb5
      refine TC.loop hw16 (fun x13 => fun a w => Mid 50 B [(0, h0), (4, .pointer (some ⟨b9, 0, none⟩)), (7, h0), (8, I (a0.length : Int)), (9, I x1), (16, (subv h0 0 x1 2)), (17, I (y10.length : Int)), (18, I x13)] (Bx b9 42 [I x7.1, I x7.2] :: L) a w) (fun _ => fun a w => Mid 50 B [(0, h0), (7, h0), (8, I (a0.length : Int)), (9, I x1)] (Bx b9 42 [I x7.1, I x7.2] :: L) a w) (fun r0 => FRet Try.prog Try.f6 (fun e w' => (e = .returned (.bool r0) ∧ St B (L) w'))) ?_ ?_ ?_ ?_
      · rintro x13 o15r hb17 a w ⟨he, hs⟩
        dsimp only [F6_L1] at hb17
        refine TC.use ?_ he hs
        refine TC.k ?_
        refine TC.region ?_
        refine TO.s rfl rfl rfl (StepS.cmp rfl rfl rfl) ?_
        refine TO.code ?_
        refine TC.k ?_
        refine TC.cond rfl (fun hc18 => ?_) (fun hc18 => ?_)
        · replace hb17 := cond_t hc18 hb17
          refine TC.skipk ?_
          refine TC.k ?_
          refine TC.block ?_
          refine TC.k ?_
          refine TC.region ?_
          obtain ⟨x19, hx20, hb17⟩ := bind_some hb17
          refine TO.s rfl rfl rfl (StepS.idx rfl rfl (Ent.sub e0.tl hs11) ksliceB_22_42_2_true (idx_spec hx20).1 (idxm_lt hx20)) ?_
          refine TO.s rfl rfl rfl (StepS.ldE rfl (Ent.sub e0.tl hs11) kaggB_42_2_true rfl (idxm hx20)) ?_
          refine TO.alloc kinfo_42_bind_zero_some_agg_I_0_I_0 rfl rfl fun b21 => ?_
          refine TO.stB (us := [I x19.1, I x19.2]) 0 [I x19.1, I x19.2] rfl rfl rfl ksizeB_42_2_true rfl rfl rfl (by simp [Value.oneCell']) rfl ?_
          refine TO.code ?_
          refine TC.k ?_
          refine TC.region ?_
          refine TO.s rfl rfl rfl (StepS.aidx (j := 0) rfl rfl karrB_42_2_3_1_true ⟨by decide, by decide⟩ rfl) ?_
          refine TO.s rfl rfl rfl (StepS.ldB rfl (Ent.at 1 rfl) kscalB_3_true rfl) ?_
          refine TO.s rfl rfl rfl (StepS.aidx (j := 0) rfl rfl karrB_42_2_3_1_true ⟨by decide, by decide⟩ rfl) ?_
          refine TO.s rfl rfl rfl (StepS.ldB rfl (Ent.at 0 rfl) kscalB_3_true rfl) ?_
          refine TO.s rfl rfl rfl (StepS.cmp rfl rfl rfl) ?_
          refine TO.s rfl rfl rfl (StepS.move rfl) ?_
          refine TO.mid1 6 33 (.bool ((x7.1 == x19.1) && (x7.2 == x19.2))) ?_ ?_
          · refine bcase ((x7.1 == x19.1)) (fun hb22 => ?_) (fun hb22 => ?_)
            · refine TO.sw rfl rfl rfl hb22 rfl rfl (StepS.aidx (j := 1) rfl rfl karrB_42_2_3_1_true ⟨by decide, by decide⟩ rfl) ?_
              refine TO.sw rfl rfl rfl hb22 rfl rfl (StepS.ldB rfl (Ent.at 1 rfl) kscalB_3_true rfl) ?_
              refine TO.sw rfl rfl rfl hb22 rfl rfl (StepS.aidx (j := 1) rfl rfl karrB_42_2_3_1_true ⟨by decide, by decide⟩ rfl) ?_
              refine TO.sw rfl rfl rfl hb22 rfl rfl (StepS.ldB rfl (Ent.at 0 rfl) kscalB_3_true rfl) ?_
              refine TO.sw rfl rfl rfl hb22 rfl rfl (StepS.cmp rfl rfl rfl) ?_
              refine TO.s rfl rfl rfl (StepS.pickT rfl hb22 rfl) ?_
              exact TO.up1 6 0 rfl rfl (by rw [hb22]; rfl) rfl
            · refine TO.skip rfl rfl rfl (skipF hb22) rfl rfl ?_
              refine TO.skip rfl rfl rfl (skipF hb22) rfl rfl ?_
              refine TO.skip rfl rfl rfl (skipF hb22) rfl rfl ?_
              refine TO.skip rfl rfl rfl (skipF hb22) rfl rfl ?_
              refine TO.skip rfl rfl rfl (skipF hb22) rfl rfl ?_
              refine TO.s rfl rfl rfl (StepS.pickF rfl hb22 rfl) ?_
              exact TO.up1 6 0 rfl rfl (by rw [hb22]; rfl) rfl
          refine TO.s rfl rfl rfl (StepS.move rfl) ?_
          refine TO.mid1 13 47 (.bool (((x7.1 == x19.1) && (x7.2 == x19.2)) || ((x7.1 == x19.2) && (x7.2 == x19.1)))) ?_ ?_
          · refine bcase (((x7.1 == x19.1) && (x7.2 == x19.2))) (fun hb23 => ?_) (fun hb23 => ?_)
            · refine TO.skip rfl rfl rfl (skipT hb23) rfl rfl ?_
              refine TO.skip rfl rfl rfl (skipT hb23) rfl rfl ?_
              refine TO.skip rfl rfl rfl (skipT hb23) rfl rfl ?_
              refine TO.skip rfl rfl rfl (skipT hb23) rfl rfl ?_
              refine TO.skip rfl rfl rfl (skipT hb23) rfl rfl ?_
              refine TO.skip rfl rfl rfl (skipT hb23) rfl rfl ?_
              refine TO.skip rfl rfl rfl skipU rfl rfl ?_
              refine TO.skip rfl rfl rfl skipU rfl rfl ?_
              refine TO.skip rfl rfl rfl skipU rfl rfl ?_
              refine TO.skip rfl rfl rfl skipU rfl rfl ?_
              refine TO.skip rfl rfl rfl skipU rfl rfl ?_
              refine TO.skip rfl rfl rfl (skipT hb23) rfl rfl ?_
              refine TO.s rfl rfl rfl (StepS.pickT rfl hb23 rfl) ?_
              exact TO.up1 13 0 rfl rfl (by rw [hb23]; rfl) rfl
            · refine TO.sw rfl rfl rfl hb23 rfl rfl (StepS.aidx (j := 0) rfl rfl karrB_42_2_3_1_true ⟨by decide, by decide⟩ rfl) ?_
              refine TO.sw rfl rfl rfl hb23 rfl rfl (StepS.ldB rfl (Ent.at 1 rfl) kscalB_3_true rfl) ?_
              refine TO.sw rfl rfl rfl hb23 rfl rfl (StepS.aidx (j := 1) rfl rfl karrB_42_2_3_1_true ⟨by decide, by decide⟩ rfl) ?_
              refine TO.sw rfl rfl rfl hb23 rfl rfl (StepS.ldB rfl (Ent.at 0 rfl) kscalB_3_true rfl) ?_
              refine TO.sw rfl rfl rfl hb23 rfl rfl (StepS.cmp rfl rfl rfl) ?_
              refine TO.sw rfl rfl rfl hb23 rfl rfl (StepS.move rfl) ?_
              refine TO.mid1 6 46 (.bool ((x7.1 == x19.2) && (x7.2 == x19.1))) ?_ ?_
              · refine bcase ((x7.1 == x19.2)) (fun hb24 => ?_) (fun hb24 => ?_)
                · refine TO.sw rfl rfl rfl hb24 rfl rfl (StepS.aidx (j := 1) rfl rfl karrB_42_2_3_1_true ⟨by decide, by decide⟩ rfl) ?_
                  refine TO.sw rfl rfl rfl hb24 rfl rfl (StepS.ldB rfl (Ent.at 1 rfl) kscalB_3_true rfl) ?_
                  refine TO.sw rfl rfl rfl hb24 rfl rfl (StepS.aidx (j := 0) rfl rfl karrB_42_2_3_1_true ⟨by decide, by decide⟩ rfl) ?_
                  refine TO.sw rfl rfl rfl hb24 rfl rfl (StepS.ldB rfl (Ent.at 0 rfl) kscalB_3_true rfl) ?_
                  refine TO.sw rfl rfl rfl hb24 rfl rfl (StepS.cmp rfl rfl rfl) ?_
                  refine TO.sw rfl rfl rfl hb23 rfl rfl (StepS.pickT rfl hb24 rfl) ?_
                  exact TO.up1 6 0 rfl rfl (by rw [hb24]; rfl) rfl
                · refine TO.skip rfl rfl rfl (skipF hb24) rfl rfl ?_
                  refine TO.skip rfl rfl rfl (skipF hb24) rfl rfl ?_
                  refine TO.skip rfl rfl rfl (skipF hb24) rfl rfl ?_
                  refine TO.skip rfl rfl rfl (skipF hb24) rfl rfl ?_
                  refine TO.skip rfl rfl rfl (skipF hb24) rfl rfl ?_
                  refine TO.sw rfl rfl rfl hb23 rfl rfl (StepS.pickF rfl hb24 rfl) ?_
                  exact TO.up1 6 0 rfl rfl (by rw [hb24]; rfl) rfl
              refine TO.s rfl rfl rfl (StepS.pickF rfl hb23 rfl) ?_
              exact TO.up1 8 0 rfl rfl (by rw [hb23]; rfl) rfl
          refine TO.code ?_
          refine TC.cond rfl (fun hc25 => ?_) (fun hc25 => ?_)
          · replace hb17 := cond_t hc25 hb17
            refine TC.k ?_
            refine TC.region ?_
            refine TO.s rfl rfl rfl (StepS.assign rfl) ?_
            refine TO.code ?_
            cases hb17
            refine TC.ret fun a w e s => ?_
            refine FRet.mk1 (P := Try.prog) (fn := Try.f6) (t := 2) e rfl rfl ?_
            exact ⟨rfl, s.mono fun _ => Sat.dropN 2⟩
          · replace hb17 := cond_f hc25 hb17
            refine TC.skipk ?_
            refine TC.region ?_
            refine TO.s rfl rfl rfl (StepS.ari rfl rfl rfl) ?_
            refine TO.s rfl rfl rfl (StepS.move rfl) ?_
            cases hb17
            refine TO.nil fun a w e s => ?_
            exact ⟨e.sub (lk_of_allIn ⟨rfl, rfl, rfl, rfl, rfl, rfl, rfl, rfl, trivial⟩), s.mono fun _ => Sat.dropN 1⟩
        · replace hb17 := cond_f hc18 hb17
          cases hb17
          refine TC.exit rfl fun a w e s => ?_
          exact ⟨e.sub (lk_of_allIn ⟨rfl, rfl, rfl, rfl, trivial⟩), s⟩
      · exact fun a w e s => ⟨e.sub (lk_of_allIn ⟨rfl, rfl, rfl, rfl, rfl, rfl, rfl, rfl, trivial⟩), s⟩
      · rintro _ rfl a w ⟨he, hs⟩
        dsimp only [Ctl.on] at hb5
        refine TC.use ?_ he hs
        refine TC.region ?_
        refine TO.s rfl rfl rfl (StepS.ari rfl rfl rfl) ?_
        refine TO.s rfl rfl rfl (StepS.move rfl) ?_
        cases hb5
        refine TO.nil fun a w e s => ?_
        exact ⟨e.sub (lk_of_allIn ⟨rfl, rfl, rfl, rfl, trivial⟩), s.mono fun _ => Sat.dropN 1⟩
      · rintro r rfl
        cases hb5
        exact fun a w h => h
    · replace hb5 := cond_f hc6 hb5
      cases hb5
      refine TC.exit rfl fun a w e s => ?_
      exact ⟨e.sub (lk_of_allIn trivial), s⟩
  · exact fun a w e s => ⟨e.sub (lk_of_allIn ⟨rfl, rfl, rfl, rfl, trivial⟩), s⟩
  · rintro _ rfl a w ⟨he, hs⟩
    dsimp only [Ctl.on] at hm
    refine TC.use ?_ he hs
    refine TC.k ?_
    refine TC.region ?_
    refine TO.s rfl rfl rfl (StepS.assign rfl) ?_
    refine TO.code ?_
    cases hm
    refine TC.ret fun a w e s => ?_
    refine FRet.mk1 (P := Try.prog) (fn := Try.f6) (t := 2) e rfl rfl ?_
    exact ⟨rfl, s.mono fun _ => Sat.dropN 0⟩
  · rintro r rfl
    cases hm
    exact fun a w h => h

set_option maxRecDepth 100000 in
theorem C8 {B : World} {L : List HP} {a0 : List Int} {a1 : List Int} {h0 : Value} {h1 : Value} {r0 : Bool} (e0 : Ent L (Rd 1 h0 (a0.map cI))) (e1 : Ent L (Rd 1 h1 (a1.map cI))) (hm : F8 a0 a1 = some r0) {w : World} (st : St B L w) : Calls Try.prog 8 #[h0, h1] w (fun e w' => (e = .returned (.bool r0) ∧ St B (L) w')) := by
  refine calls_of (N := 26) (L := L) (args := [h0, h1]) Try.func8 rfl rfl rfl ?_ st
  dsimp only [F8] at hm
  refine TC.k ?_
  refine TC.region ?_
  refine TO.s rfl rfl rfl (StepS.assign rfl) ?_
  refine TO.code ?_
  refine TC.k ?_
  refine TC.k ?_
  refine TC.region ?_
  refine TO.s rfl rfl rfl (StepS.move rfl) ?_
  refine TO.s rfl rfl rfl (StepS.lenm rfl e0 ksliceB_24_27_1_true rfl) ?_
  refine TO.s rfl rfl rfl (StepS.move rfl) ?_
  refine TO.s rfl rfl rfl (StepS.lenm rfl e1 ksliceB_24_27_1_true rfl) ?_
  refine TO.s rfl rfl rfl (StepS.cmp rfl rfl rfl) ?_
  refine TO.code ?_
  refine TC.cond rfl (fun hc1 => ?_) (fun hc1 => ?_)
  · replace hm := cond_t hc1 hm
    refine TC.k ?_
    refine TC.region ?_
    refine TO.s rfl rfl rfl (StepS.assign rfl) ?_
    refine TO.code ?_
    cases hm
    refine TC.ret fun a w e s => ?_
    refine FRet.mk1 (P := Try.prog) (fn := Try.f8) (t := 4) e rfl rfl ?_
    exact ⟨rfl, s.mono fun _ => Sat.dropN 0⟩
  · replace hm := cond_f hc1 hm
    refine TC.skipk ?_
    refine TC.k ?_
    refine TC.k ?_
    refine TC.region ?_
    refine TO.s rfl rfl rfl (StepS.assign rfl) ?_
    refine TO.code ?_
    obtain ⟨o4, hw5, hm⟩ := bind_some hm
    refine TC.loop hw5 (fun x2 => fun a w => Mid 26 B [(0, h0), (1, h1), (5, I x2)] (L) a w) (fun _ => fun a w => Mid 26 B [] (L) a w) (fun r0 => FRet Try.prog Try.f8 (fun e w' => (e = .returned (.bool r0) ∧ St B (L) w'))) ?_ ?_ ?_ ?_
    · rintro x2 o4r hb6 a w ⟨he, hs⟩
      dsimp only [F8_L0] at hb6
      refine TC.use ?_ he hs
      refine TC.k ?_
      refine TC.k ?_
      refine TC.region ?_
      refine TO.s rfl rfl rfl (StepS.move rfl) ?_
      refine TO.s rfl rfl rfl (StepS.move rfl) ?_
      refine TO.s rfl rfl rfl (StepS.lenm rfl e0 ksliceB_24_27_1_true rfl) ?_
      refine TO.s rfl rfl rfl (StepS.cmp rfl rfl rfl) ?_
      refine TO.code ?_
      refine TC.cond rfl (fun hc7 => ?_) (fun hc7 => ?_)
      · replace hb6 := cond_t hc7 hb6
        refine TC.skipk ?_
        refine TC.k ?_
        refine TC.block ?_
        refine TC.k ?_
        refine TC.region_still kfollows_mixedOrders_true (by kernel_rfl) ?_
        refine TS.s rfl rfl rfl (StepS.move rfl) ?_
        refine TS.s rfl rfl rfl (StepS.move rfl) ?_
        obtain ⟨x8, hx9, hb6⟩ := bind_some hb6
        refine TS.s rfl rfl rfl (StepS.idx rfl rfl e0 ksliceB_24_27_1_true (idx_spec hx9).1 (idxm_lt hx9)) ?_
        refine TS.s rfl rfl rfl (StepS.ld0 rfl e0 kscalB_27_true rfl (idxm hx9) rfl) ?_
        refine TS.s rfl rfl rfl (StepS.move rfl) ?_
        refine TS.s rfl rfl rfl (StepS.move rfl) ?_
        obtain ⟨x10, hx11, hb6⟩ := bind_some hb6
        refine TS.s rfl rfl rfl (StepS.idx rfl rfl e1 ksliceB_24_27_1_true (idx_spec hx11).1 (idxm_lt hx11)) ?_
        refine TS.s rfl rfl rfl (StepS.ld0 rfl e1 kscalB_27_true rfl (idxm hx11) rfl) ?_
        refine TS.s rfl rfl rfl (StepS.cmp rfl rfl rfl) ?_
        refine TS.code ?_
        refine TC.cond rfl (fun hc12 => ?_) (fun hc12 => ?_)
        · replace hb6 := cond_t hc12 hb6
          refine TC.k ?_
          refine TC.region ?_
          refine TO.s rfl rfl rfl (StepS.assign rfl) ?_
          refine TO.code ?_
          cases hb6
          refine TC.ret fun a w e s => ?_
          refine FRet.mk1 (P := Try.prog) (fn := Try.f8) (t := 4) e rfl rfl ?_
          exact ⟨rfl, s.mono fun _ => Sat.dropN 0⟩
        · replace hb6 := cond_f hc12 hb6
          refine TC.skipk ?_
          refine TC.region ?_
          refine TO.s rfl rfl rfl (StepS.move rfl) ?_
          refine TO.s rfl rfl rfl (StepS.ari rfl rfl rfl) ?_
          refine TO.s rfl rfl rfl (StepS.assign rfl) ?_
          cases hb6
          refine TO.nil fun a w e s => ?_
          exact ⟨e.sub (lk_of_allIn ⟨rfl, rfl, rfl, trivial⟩), s⟩
      · replace hb6 := cond_f hc7 hb6
        cases hb6
        refine TC.exit rfl fun a w e s => ?_
        exact ⟨e.sub (lk_of_allIn trivial), s⟩
    · exact fun a w e s => ⟨e.sub (lk_of_allIn ⟨rfl, rfl, rfl, trivial⟩), s⟩
    · rintro _ rfl a w ⟨he, hs⟩
      dsimp only [Ctl.on] at hm
      refine TC.use ?_ he hs
      refine TC.k ?_
      refine TC.region ?_
      refine TO.s rfl rfl rfl (StepS.assign rfl) ?_
      refine TO.code ?_
      cases hm
      refine TC.ret fun a w e s => ?_
      refine FRet.mk1 (P := Try.prog) (fn := Try.f8) (t := 4) e rfl rfl ?_
      exact ⟨rfl, s.mono fun _ => Sat.dropN 0⟩
    · rintro r rfl
      cases hm
      exact fun a w h => h

set_option maxRecDepth 100000 in
theorem C9 {B : World} {L : List HP} {a0 : List Int} {a1 : List Int} {h0 : Value} {h1 : Value} {r0 : Bool} (e0 : Ent L (Rd 1 h0 (a0.map cI))) (e1 : Ent L (Rd 1 h1 (a1.map cI))) (hm : F9 a0 a1 = some r0) {w : World} (st : St B L w) : Calls Try.prog 9 #[h0, h1] w (fun e w' => (e = .returned (.bool r0) ∧ St B (L) w')) := by
  refine calls_of (N := 26) (L := L) (args := [h0, h1]) Try.func9 rfl rfl rfl ?_ st
  dsimp only [F9] at hm
  refine TC.k ?_
  refine TC.region ?_
  refine TO.s rfl rfl rfl (StepS.assign rfl) ?_
  refine TO.code ?_
  refine TC.k ?_
  refine TC.k ?_
  refine TC.region ?_
  refine TO.s rfl rfl rfl (StepS.move rfl) ?_
  refine TO.s rfl rfl rfl (StepS.lenm rfl e0 ksliceB_23_3_1_true rfl) ?_
  refine TO.s rfl rfl rfl (StepS.move rfl) ?_
  refine TO.s rfl rfl rfl (StepS.lenm rfl e1 ksliceB_23_3_1_true rfl) ?_
  refine TO.s rfl rfl rfl (StepS.cmp rfl rfl rfl) ?_
  refine TO.code ?_
  refine TC.cond rfl (fun hc1 => ?_) (fun hc1 => ?_)
  · replace hm := cond_t hc1 hm
    refine TC.k ?_
    refine TC.region ?_
    refine TO.s rfl rfl rfl (StepS.assign rfl) ?_
    refine TO.code ?_
    cases hm
    refine TC.ret fun a w e s => ?_
    refine FRet.mk1 (P := Try.prog) (fn := Try.f9) (t := 4) e rfl rfl ?_
    exact ⟨rfl, s.mono fun _ => Sat.dropN 0⟩
  · replace hm := cond_f hc1 hm
    refine TC.skipk ?_
    refine TC.k ?_
    refine TC.k ?_
    refine TC.region ?_
    refine TO.s rfl rfl rfl (StepS.assign rfl) ?_
    refine TO.code ?_
    obtain ⟨o4, hw5, hm⟩ := bind_some hm
    refine TC.loop hw5 (fun x2 => fun a w => Mid 26 B [(0, h0), (1, h1), (5, I x2)] (L) a w) (fun _ => fun a w => Mid 26 B [] (L) a w) (fun r0 => FRet Try.prog Try.f9 (fun e w' => (e = .returned (.bool r0) ∧ St B (L) w'))) ?_ ?_ ?_ ?_
    · rintro x2 o4r hb6 a w ⟨he, hs⟩
      dsimp only [F9_L0] at hb6
      refine TC.use ?_ he hs
      refine TC.k ?_
      refine TC.k ?_
      refine TC.region ?_
      refine TO.s rfl rfl rfl (StepS.move rfl) ?_
      refine TO.s rfl rfl rfl (StepS.move rfl) ?_
      refine TO.s rfl rfl rfl (StepS.lenm rfl e0 ksliceB_23_3_1_true rfl) ?_
      refine TO.s rfl rfl rfl (StepS.cmp rfl rfl rfl) ?_
      refine TO.code ?_
      refine TC.cond rfl (fun hc7 => ?_) (fun hc7 => ?_)
      · replace hb6 := cond_t hc7 hb6
        refine TC.skipk ?_
        refine TC.k ?_
        refine TC.block ?_
        refine TC.k ?_
        refine TC.region_still kfollows_mixedOrders_true (by kernel_rfl) ?_
        refine TS.s rfl rfl rfl (StepS.move rfl) ?_
        refine TS.s rfl rfl rfl (StepS.move rfl) ?_
        obtain ⟨x8, hx9, hb6⟩ := bind_some hb6
        refine TS.s rfl rfl rfl (StepS.idx rfl rfl e0 ksliceB_23_3_1_true (idx_spec hx9).1 (idxm_lt hx9)) ?_
        refine TS.s rfl rfl rfl (StepS.ld0 rfl e0 kscalB_3_true rfl (idxm hx9) rfl) ?_
        refine TS.s rfl rfl rfl (StepS.move rfl) ?_
        refine TS.s rfl rfl rfl (StepS.move rfl) ?_
        obtain ⟨x10, hx11, hb6⟩ := bind_some hb6
        refine TS.s rfl rfl rfl (StepS.idx rfl rfl e1 ksliceB_23_3_1_true (idx_spec hx11).1 (idxm_lt hx11)) ?_
        refine TS.s rfl rfl rfl (StepS.ld0 rfl e1 kscalB_3_true rfl (idxm hx11) rfl) ?_
        refine TS.s rfl rfl rfl (StepS.cmp rfl rfl rfl) ?_
        refine TS.code ?_
        refine TC.cond rfl (fun hc12 => ?_) (fun hc12 => ?_)
        · replace hb6 := cond_t hc12 hb6
          refine TC.k ?_
          refine TC.region ?_
          refine TO.s rfl rfl rfl (StepS.assign rfl) ?_
          refine TO.code ?_
          cases hb6
          refine TC.ret fun a w e s => ?_
          refine FRet.mk1 (P := Try.prog) (fn := Try.f9) (t := 4) e rfl rfl ?_
          exact ⟨rfl, s.mono fun _ => Sat.dropN 0⟩
        · replace hb6 := cond_f hc12 hb6
          refine TC.skipk ?_
          refine TC.region ?_
          refine TO.s rfl rfl rfl (StepS.move rfl) ?_
          refine TO.s rfl rfl rfl (StepS.ari rfl rfl rfl) ?_
          refine TO.s rfl rfl rfl (StepS.assign rfl) ?_
          cases hb6
          refine TO.nil fun a w e s => ?_
          exact ⟨e.sub (lk_of_allIn ⟨rfl, rfl, rfl, trivial⟩), s⟩
      · replace hb6 := cond_f hc7 hb6
        cases hb6
        refine TC.exit rfl fun a w e s => ?_
        exact ⟨e.sub (lk_of_allIn trivial), s⟩
    · exact fun a w e s => ⟨e.sub (lk_of_allIn ⟨rfl, rfl, rfl, trivial⟩), s⟩
    · rintro _ rfl a w ⟨he, hs⟩
      dsimp only [Ctl.on] at hm
      refine TC.use ?_ he hs
      refine TC.k ?_
      refine TC.region ?_
      refine TO.s rfl rfl rfl (StepS.assign rfl) ?_
      refine TO.code ?_
      cases hm
      refine TC.ret fun a w e s => ?_
      refine FRet.mk1 (P := Try.prog) (fn := Try.f9) (t := 4) e rfl rfl ?_
      exact ⟨rfl, s.mono fun _ => Sat.dropN 0⟩
    · rintro r rfl
      cases hm
      exact fun a w h => h
end Go.Proofs.Ytpeijfboikfcjaa
