/-
  The walks: each Go function returns what its model says. Written by a program (gen.py).
-/
import Derived.Test.YtdjmlbjkendobaaProg
import Derived.KernelRfl
import Derived.Test.YtdjmlbjkendobaaAM
namespace Go.Proofs.Ytdjmlbjkendobaa
open Go Go.Bk
set_option linter.unusedVariables false
set_option linter.unnecessarySimpa false
theorem ksliceB_30_81_2_true : sliceB Try.prog 30 81 2 = true := by kernel_rfl
theorem kfollows_mixedOrders_true : Try.prog.follows .mixedOrders = true := by kernel_rfl
theorem kaggB_81_2_true : aggB Try.prog 81 2 = true := by kernel_rfl
theorem kunderlying_81_some_array_2_3 : Try.prog.underlying 81 = some (.array 2 3) := by kernel_rfl
theorem kunderlying_3_some_int_i64 : Try.prog.underlying 3 = some (.int .i64) := by kernel_rfl
theorem ksizeB_3_1_true : sizeB Try.prog 3 1 = true := by kernel_rfl
theorem kscalB_3_true : scalB Try.prog 3 = true := by kernel_rfl
theorem keqGuardType_depth_81_false : Try.prog.eqGuardType Try.prog.depth 81 = false := by kernel_rfl
theorem kcallB_89_true : callB Try.prog 89 = true := by kernel_rfl
theorem kinfo_81_bind_zero_some_agg_I_0_I_0 : (Try.prog.info? 81).bind (·.zero) = some (.agg #[I 0, I 0]) := by kernel_rfl
theorem ksizeB_81_2_true : sizeB Try.prog 81 2 = true := by kernel_rfl
theorem karrB_81_2_3_1_true : arrB Try.prog 81 2 3 1 = true := by kernel_rfl
theorem kcallB_77_true : callB Try.prog 77 = true := by kernel_rfl
theorem kcallB_49_true : callB Try.prog 49 = true := by kernel_rfl
theorem kcallB_50_true : callB Try.prog 50 = true := by kernel_rfl
theorem kcallB_42_true : callB Try.prog 42 = true := by kernel_rfl
theorem kcallB_43_true : callB Try.prog 43 = true := by kernel_rfl
theorem kintB_3_i64_true : intB Try.prog 3 .i64 = true := by kernel_rfl
theorem kintB_42_u64_true : intB Try.prog 42 .u64 = true := by kernel_rfl
theorem kcallB_19_true : callB Try.prog 19 = true := by kernel_rfl
theorem kcallB_20_true : callB Try.prog 20 = true := by kernel_rfl
theorem kcallB_21_true : callB Try.prog 21 = true := by kernel_rfl
theorem ksliceB_22_3_1_true : sliceB Try.prog 22 3 1 = true := by kernel_rfl
theorem kcallB_91_true : callB Try.prog 91 = true := by kernel_rfl
theorem kcallB_80_true : callB Try.prog 80 = true := by kernel_rfl
theorem kelemB_22_3_1_8_true : elemB Try.prog 22 3 1 8 = true := by kernel_rfl
theorem kinfo_3_bind_zero_some_I_0 : (Try.prog.info? 3).bind (·.zero) = some (I 0) := by kernel_rfl
theorem kcallB_55_true : callB Try.prog 55 = true := by kernel_rfl
theorem kcallB_56_true : callB Try.prog 56 = true := by kernel_rfl
theorem kcallB_57_true : callB Try.prog 57 = true := by kernel_rfl
theorem kcallB_30_true : callB Try.prog 30 = true := by kernel_rfl
theorem kcallB_31_true : callB Try.prog 31 = true := by kernel_rfl
theorem kcallB_32_true : callB Try.prog 32 = true := by kernel_rfl
theorem kcallB_29_true : callB Try.prog 29 = true := by kernel_rfl
theorem kelemB_30_81_2_16_true : elemB Try.prog 30 81 2 16 = true := by kernel_rfl
theorem kcallB_54_true : callB Try.prog 54 = true := by kernel_rfl
theorem kcallB_51_true : callB Try.prog 51 = true := by kernel_rfl
theorem kcallB_23_true : callB Try.prog 23 = true := by kernel_rfl
theorem kcallB_22_true : callB Try.prog 22 = true := by kernel_rfl
theorem kcallB_25_true : callB Try.prog 25 = true := by kernel_rfl
theorem kcallB_24_true : callB Try.prog 24 = true := by kernel_rfl
theorem kcallB_33_true : callB Try.prog 33 = true := by kernel_rfl
theorem kscalB_31_true : scalB Try.prog 31 = true := by kernel_rfl
theorem kcallB_90_true : callB Try.prog 90 = true := by kernel_rfl
theorem kinfo_31_bind_zero_some_U_0 : (Try.prog.info? 31).bind (·.zero) = some (U 0) := by kernel_rfl
theorem ksizeB_31_1_true : sizeB Try.prog 31 1 = true := by kernel_rfl
theorem kcallB_79_true : callB Try.prog 79 = true := by kernel_rfl
theorem kcallB_78_true : callB Try.prog 78 = true := by kernel_rfl
theorem kcallB_52_true : callB Try.prog 52 = true := by kernel_rfl
theorem ksliceB_82_31_1_true : sliceB Try.prog 82 31 1 = true := by kernel_rfl
theorem kelemB_82_31_1_4_true : elemB Try.prog 82 31 1 4 = true := by kernel_rfl
theorem kcallB_53_true : callB Try.prog 53 = true := by kernel_rfl
theorem kcallB_26_true : callB Try.prog 26 = true := by kernel_rfl
theorem kcallB_27_true : callB Try.prog 27 = true := by kernel_rfl
theorem kunderlying_4_some_bool : Try.prog.underlying 4 = some .bool := by kernel_rfl
theorem kintB_31_u32_true : intB Try.prog 31 .u32 = true := by kernel_rfl
theorem kcallB_28_true : callB Try.prog 28 = true := by kernel_rfl

set_option maxRecDepth 100000 in
theorem C89 {B : World} {L : List HP} {a0 : List (Int × Int)} {a1 : Int × Int} {h0 : Value} {r0 : Int} (e0 : Ent L (Rd 2 h0 (a0.map cTii))) (hm : F89 a0 a1 = some r0) {w : World} (st : St B L w) : Calls Try.prog 89 #[h0, .agg (cTii a1).toArray] w (fun e w' => (e = .returned (I r0) ∧ St B (L) w')) := by
  refine calls_of (N := 19) (L := L) (args := [h0, .agg (cTii a1).toArray]) Try.func89 rfl rfl rfl ?_ st
  dsimp only [F89] at hm
  refine TC.k ?_
  refine TC.region ?_
  refine TO.box (cs := [I a1.1, I a1.2]) rfl rfl rfl fun b1 => ?_
  refine TO.s rfl rfl rfl (StepS.assign rfl) ?_
  refine TO.code ?_
  refine TC.k ?_
  refine TC.k ?_
  refine TC.region ?_
  refine TO.s rfl rfl rfl (StepS.move rfl) ?_
  refine TO.s rfl rfl rfl (StepS.lenm rfl e0.tl ksliceB_30_81_2_true rfl) ?_
  refine TO.s rfl rfl rfl (StepS.move rfl) ?_
  refine TO.code ?_
  obtain ⟨o4, hw5, hm⟩ := bind_some hm
  refine TC.loop hw5 (fun x2 => fun a w => Mid 19 B [(0, h0), (3, .pointer (some ⟨b1, 0, none⟩)), (7, I (a0.length : Int)), (8, I x2)] (Bx b1 81 [I a1.1, I a1.2] :: L) a w) (fun _ => fun a w => Mid 19 B [] (Bx b1 81 [I a1.1, I a1.2] :: L) a w) (fun r0 => FRet Try.prog Try.f89 (fun e w' => (e = .returned (I r0) ∧ St B (L) w'))) ?_ ?_ ?_ ?_
  · rintro x2 o4r hb6 a w ⟨he, hs⟩
    dsimp only [F89_L0] at hb6
    refine TC.use ?_ he hs
    refine TC.k ?_
    refine TC.region ?_
    refine TO.s rfl rfl rfl (StepS.cmp rfl rfl rfl) ?_
    refine TO.code ?_
    refine TC.k ?_
    refine TC.cond rfl (fun hc7 => ?_) (fun hc7 => ?_)
    · replace hb6 := cond_t hc7 hb6
      refine TC.skipk ?_
      refine TC.k ?_
      refine TC.block ?_
      refine TC.k ?_
      refine TC.region ?_
      refine TO.s rfl rfl rfl (StepS.move rfl) ?_
      refine TO.s rfl rfl rfl (StepS.assign rfl) ?_
      refine TO.code ?_
      refine TC.k ?_
      refine TC.region_still kfollows_mixedOrders_true (by kernel_rfl) ?_
      refine TS.s rfl rfl rfl (StepS.ldBA rfl (Ent.at 0 rfl) kaggB_81_2_true rfl rfl) ?_
      refine TS.s rfl rfl rfl (StepS.move rfl) ?_
      refine TS.s rfl rfl rfl (StepS.move rfl) ?_
      obtain ⟨x8, hx9, hb6⟩ := bind_some hb6
      refine TS.s rfl rfl rfl (StepS.idx rfl rfl e0.tl ksliceB_30_81_2_true (idx_spec hx9).1 (idxm_lt hx9)) ?_
      refine TS.s rfl rfl rfl (StepS.ldE rfl e0.tl kaggB_81_2_true rfl (idxm hx9)) ?_
      refine TS.s rfl rfl rfl (StepS.eq2 kunderlying_81_some_array_2_3 kunderlying_3_some_int_i64 ksizeB_3_1_true kscalB_3_true keqGuardType_depth_81_false rfl rfl) ?_
      refine TS.code ?_
      refine TC.cond rfl (fun hc10 => ?_) (fun hc10 => ?_)
      · replace hb6 := cond_t hc10 hb6
        refine TC.k ?_
        refine TC.region ?_
        refine TO.s rfl rfl rfl (StepS.move rfl) ?_
        refine TO.s rfl rfl rfl (StepS.assign rfl) ?_
        refine TO.code ?_
        cases hb6
        refine TC.ret fun a w e s => ?_
        refine FRet.mk1 (P := Try.prog) (fn := Try.f89) (t := 4) e rfl rfl ?_
        exact ⟨rfl, s.mono fun _ => Sat.dropN 1⟩
      · replace hb6 := cond_f hc10 hb6
        refine TC.skipk ?_
        refine TC.region ?_
        refine TO.s rfl rfl rfl (StepS.ari rfl rfl rfl) ?_
        refine TO.s rfl rfl rfl (StepS.move rfl) ?_
        cases hb6
        refine TO.nil fun a w e s => ?_
        exact ⟨e.sub (lk_of_allIn ⟨rfl, rfl, rfl, rfl, trivial⟩), s⟩
    · replace hb6 := cond_f hc7 hb6
      cases hb6
      refine TC.exit rfl fun a w e s => ?_
      exact ⟨e.sub (lk_of_allIn trivial), s⟩
  · exact fun a w e s => ⟨e.sub (lk_of_allIn ⟨rfl, rfl, rfl, rfl, trivial⟩), s⟩
  · rintro _ rfl a w ⟨he, hs⟩
    dsimp only [Ctl.on] at hm
    refine TC.use ?_ he hs
    refine TC.k ?_
    refine TC.region ?_
    refine TO.s rfl rfl rfl (StepS.assign rfl) ?_
    refine TO.code ?_
    cases hm
    refine TC.ret fun a w e s => ?_
    refine FRet.mk1 (P := Try.prog) (fn := Try.f89) (t := 4) e rfl rfl ?_
    exact ⟨rfl, s.mono fun _ => Sat.dropN 1⟩
  · rintro r rfl
    cases hm
    exact fun a w h => h

set_option maxRecDepth 100000 in
theorem C77 {B : World} {L : List HP} {a0 : List (Int × Int)} {a1 : Int × Int} {h0 : Value} {r0 : Bool} (e0 : Ent L (Rd 2 h0 (a0.map cTii))) (hm : F77 a0 a1 = some r0) {w : World} (st : St B L w) : Calls Try.prog 77 #[h0, .agg (cTii a1).toArray] w (fun e w' => (e = .returned (.bool r0) ∧ St B (L) w')) := by
  refine calls_of (N := 9) (L := L) (args := [h0, .agg (cTii a1).toArray]) Try.func77 rfl rfl rfl ?_ st
  dsimp only [F77] at hm
  refine TC.k ?_
  refine TC.region ?_
  refine TO.box (cs := [I a1.1, I a1.2]) rfl rfl rfl fun b1 => ?_
  refine TO.s rfl rfl rfl (StepS.assign rfl) ?_
  refine TO.code ?_
  refine TC.k ?_
  refine TC.region ?_
  refine TO.s rfl rfl rfl (StepS.move rfl) ?_
  refine TO.s rfl rfl rfl (StepS.ldBA rfl (Ent.at 0 rfl) kaggB_81_2_true rfl rfl) ?_
  obtain ⟨r2, hc3, hm⟩ := bind_some hm
  refine TO.q rfl rfl rfl (StepQ.call kcallB_89_true rfl rfl (fun _ st => C89 e0.tl hc3 st)) ?_
  refine TO.s rfl rfl rfl (StepS.cmp rfl rfl rfl) ?_
  refine TO.s rfl rfl rfl (StepS.assign rfl) ?_
  refine TO.code ?_
  cases hm
  refine TC.ret fun a w e s => ?_
  refine FRet.mk1 (P := Try.prog) (fn := Try.f77) (t := 4) e rfl rfl ?_
  exact ⟨rfl, s.mono fun _ => Sat.dropN 1⟩

set_option maxRecDepth 100000 in
theorem C49 {B : World} {L : List HP} {a0 : Int} {a1 : List (Int × Int)} {h1 : Value} {r0 : Int} (e1 : Ent L (Rd 2 h1 (a1.map cTii))) (hm : F49 a0 a1 = some r0) {w : World} (st : St B L w) : Calls Try.prog 49 #[I a0, h1] w (fun e w' => (e = .returned (I r0) ∧ St B (L) w')) := by
  refine calls_of (N := 73) (L := L) (args := [I a0, h1]) Try.func49 rfl rfl rfl ?_ st
  dsimp only [F49] at hm
  refine TC.k ?_
  refine TC.region ?_
  refine TO.s rfl rfl rfl (StepS.assign rfl) ?_
  refine TO.code ?_
  refine TC.k ?_
  refine TC.k ?_
  refine TC.region ?_
  refine TO.s rfl rfl rfl (StepS.move rfl) ?_
  refine TO.s rfl rfl rfl (StepS.cmp rfl rfl rfl) ?_
  refine TO.s rfl rfl rfl (StepS.move rfl) ?_
  refine TO.mid1 3 14 (.bool ((decide (a0 < 1)) || (decide (a0 > 6)))) ?_ ?_
  · refine bcase ((decide (a0 < 1))) (fun hb1 => ?_) (fun hb1 => ?_)
    · refine TO.skip rfl rfl rfl (skipT hb1) rfl rfl ?_
      refine TO.skip rfl rfl rfl (skipT hb1) rfl rfl ?_
      refine TO.s rfl rfl rfl (StepS.pickT rfl hb1 rfl) ?_
      exact TO.up1 3 0 rfl rfl (by rw [hb1]; rfl) rfl
    · refine TO.sw rfl rfl rfl hb1 rfl rfl (StepS.move rfl) ?_
      refine TO.sw rfl rfl rfl hb1 rfl rfl (StepS.cmp rfl rfl rfl) ?_
      refine TO.s rfl rfl rfl (StepS.pickF rfl hb1 rfl) ?_
      exact TO.up1 3 0 rfl rfl (by rw [hb1]; rfl) rfl
  refine TO.s rfl rfl rfl (StepS.move rfl) ?_
  refine TO.mid1 4 19 (.bool (((decide (a0 < 1)) || (decide (a0 > 6))) || (decide ((a1.length : Int) > 15)))) ?_ ?_
  · refine bcase (((decide (a0 < 1)) || (decide (a0 > 6)))) (fun hb2 => ?_) (fun hb2 => ?_)
    · refine TO.skip rfl rfl rfl (skipT hb2) rfl rfl ?_
      refine TO.skip rfl rfl rfl (skipT hb2) rfl rfl ?_
      refine TO.skip rfl rfl rfl (skipT hb2) rfl rfl ?_
      refine TO.s rfl rfl rfl (StepS.pickT rfl hb2 rfl) ?_
      exact TO.up1 4 0 rfl rfl (by rw [hb2]; rfl) rfl
    · refine TO.sw rfl rfl rfl hb2 rfl rfl (StepS.move rfl) ?_
      refine TO.sw rfl rfl rfl hb2 rfl rfl (StepS.lenm rfl e1 ksliceB_30_81_2_true rfl) ?_
      refine TO.sw rfl rfl rfl hb2 rfl rfl (StepS.cmp rfl rfl rfl) ?_
      refine TO.s rfl rfl rfl (StepS.pickF rfl hb2 rfl) ?_
      exact TO.up1 4 0 rfl rfl (by rw [hb2]; rfl) rfl
  refine TO.code ?_
  refine TC.cond rfl (fun hc3 => ?_) (fun hc3 => ?_)
  · replace hm := cond_t hc3 hm
    refine TC.k ?_
    refine TC.region ?_
    refine TO.s rfl rfl rfl (StepS.assign rfl) ?_
    refine TO.code ?_
    cases hm
    refine TC.ret fun a w e s => ?_
    refine FRet.mk1 (P := Try.prog) (fn := Try.f49) (t := 4) e rfl rfl ?_
    exact ⟨rfl, s.mono fun _ => Sat.dropN 0⟩
  · replace hm := cond_f hc3 hm
    refine TC.skipk ?_
    refine TC.k ?_
    refine TC.k ?_
    refine TC.region ?_
    refine TO.s rfl rfl rfl (StepS.move rfl) ?_
    refine TO.s rfl rfl rfl (StepS.lenm rfl e1 ksliceB_30_81_2_true rfl) ?_
    refine TO.s rfl rfl rfl (StepS.move rfl) ?_
    refine TO.code ?_
    obtain ⟨o6, hw7, hm⟩ := bind_some hm
    refine TC.loop hw7 (fun x4 => fun a w => Mid 73 B [(0, I a0), (1, h1), (20, h1), (21, I (a1.length : Int)), (22, I x4)] (L) a w) (fun _ => fun a w => Mid 73 B [(1, h1)] (L) a w) (fun r0 => FRet Try.prog Try.f49 (fun e w' => (e = .returned (I r0) ∧ St B (L) w'))) ?_ ?_ ?_ ?_
    · rintro x4 o6r hb8 a w ⟨he, hs⟩
      dsimp only [F49_L0] at hb8
      refine TC.use ?_ he hs
      refine TC.k ?_
      refine TC.region ?_
      refine TO.s rfl rfl rfl (StepS.cmp rfl rfl rfl) ?_
      refine TO.code ?_
      refine TC.k ?_
      refine TC.cond rfl (fun hc9 => ?_) (fun hc9 => ?_)
      · replace hb8 := cond_t hc9 hb8
        refine TC.skipk ?_
        refine TC.k ?_
        refine TC.block ?_
        refine TC.k ?_
        refine TC.region ?_
        obtain ⟨x10, hx11, hb8⟩ := bind_some hb8
        refine TO.s rfl rfl rfl (StepS.idx rfl rfl e1 ksliceB_30_81_2_true (idx_spec hx11).1 (idxm_lt hx11)) ?_
        refine TO.s rfl rfl rfl (StepS.ldE rfl e1 kaggB_81_2_true rfl (idxm hx11)) ?_
        refine TO.alloc kinfo_81_bind_zero_some_agg_I_0_I_0 rfl rfl fun b12 => ?_
        refine TO.stB (us := [I x10.1, I x10.2]) 0 [I x10.1, I x10.2] rfl rfl rfl ksizeB_81_2_true rfl rfl rfl (by simp [Value.oneCell']) rfl ?_
        refine TO.code ?_
        refine TC.k ?_
        refine TC.region ?_
        refine TO.s rfl rfl rfl (StepS.aidx (j := 0) rfl rfl karrB_81_2_3_1_true ⟨by decide, by decide⟩ rfl) ?_
        refine TO.s rfl rfl rfl (StepS.ldB rfl (Ent.at 0 rfl) kscalB_3_true rfl) ?_
        refine TO.s rfl rfl rfl (StepS.aidx (j := 1) rfl rfl karrB_81_2_3_1_true ⟨by decide, by decide⟩ rfl) ?_
        refine TO.s rfl rfl rfl (StepS.ldB rfl (Ent.at 0 rfl) kscalB_3_true rfl) ?_
        refine TO.s rfl rfl rfl (StepS.min2 rfl rfl) ?_
        refine TO.s rfl rfl rfl (StepS.cmp rfl rfl rfl) ?_
        refine TO.s rfl rfl rfl (StepS.move rfl) ?_
        refine TO.mid1 8 40 (.bool ((decide ((mn x10.1 x10.2) < 0)) || (decide ((mx x10.1 x10.2) ≥ a0)))) ?_ ?_
        · refine bcase ((decide ((mn x10.1 x10.2) < 0))) (fun hb13 => ?_) (fun hb13 => ?_)
          · refine TO.skip rfl rfl rfl (skipT hb13) rfl rfl ?_
            refine TO.skip rfl rfl rfl (skipT hb13) rfl rfl ?_
            refine TO.skip rfl rfl rfl (skipT hb13) rfl rfl ?_
            refine TO.skip rfl rfl rfl (skipT hb13) rfl rfl ?_
            refine TO.skip rfl rfl rfl (skipT hb13) rfl rfl ?_
            refine TO.skip rfl rfl rfl (skipT hb13) rfl rfl ?_
            refine TO.skip rfl rfl rfl (skipT hb13) rfl rfl ?_
            refine TO.s rfl rfl rfl (StepS.pickT rfl hb13 rfl) ?_
            exact TO.up1 8 0 rfl rfl (by rw [hb13]; rfl) rfl
          · refine TO.sw rfl rfl rfl hb13 rfl rfl (StepS.aidx (j := 0) rfl rfl karrB_81_2_3_1_true ⟨by decide, by decide⟩ rfl) ?_
            refine TO.sw rfl rfl rfl hb13 rfl rfl (StepS.ldB rfl (Ent.at 0 rfl) kscalB_3_true rfl) ?_
            refine TO.sw rfl rfl rfl hb13 rfl rfl (StepS.aidx (j := 1) rfl rfl karrB_81_2_3_1_true ⟨by decide, by decide⟩ rfl) ?_
            refine TO.sw rfl rfl rfl hb13 rfl rfl (StepS.ldB rfl (Ent.at 0 rfl) kscalB_3_true rfl) ?_
            refine TO.sw rfl rfl rfl hb13 rfl rfl (StepS.max2 rfl rfl) ?_
            refine TO.sw rfl rfl rfl hb13 rfl rfl (StepS.move rfl) ?_
            refine TO.sw rfl rfl rfl hb13 rfl rfl (StepS.cmp rfl rfl rfl) ?_
            refine TO.s rfl rfl rfl (StepS.pickF rfl hb13 rfl) ?_
            exact TO.up1 8 0 rfl rfl (by rw [hb13]; rfl) rfl
        refine TO.s rfl rfl rfl (StepS.move rfl) ?_
        refine TO.mid1 6 47 (.bool (((decide ((mn x10.1 x10.2) < 0)) || (decide ((mx x10.1 x10.2) ≥ a0))) || (x10.1 == x10.2))) ?_ ?_
        · refine bcase (((decide ((mn x10.1 x10.2) < 0)) || (decide ((mx x10.1 x10.2) ≥ a0)))) (fun hb14 => ?_) (fun hb14 => ?_)
          · refine TO.skip rfl rfl rfl (skipT hb14) rfl rfl ?_
            refine TO.skip rfl rfl rfl (skipT hb14) rfl rfl ?_
            refine TO.skip rfl rfl rfl (skipT hb14) rfl rfl ?_
            refine TO.skip rfl rfl rfl (skipT hb14) rfl rfl ?_
            refine TO.skip rfl rfl rfl (skipT hb14) rfl rfl ?_
            refine TO.s rfl rfl rfl (StepS.pickT rfl hb14 rfl) ?_
            exact TO.up1 6 0 rfl rfl (by rw [hb14]; rfl) rfl
          · refine TO.sw rfl rfl rfl hb14 rfl rfl (StepS.aidx (j := 0) rfl rfl karrB_81_2_3_1_true ⟨by decide, by decide⟩ rfl) ?_
            refine TO.sw rfl rfl rfl hb14 rfl rfl (StepS.ldB rfl (Ent.at 0 rfl) kscalB_3_true rfl) ?_
            refine TO.sw rfl rfl rfl hb14 rfl rfl (StepS.aidx (j := 1) rfl rfl karrB_81_2_3_1_true ⟨by decide, by decide⟩ rfl) ?_
            refine TO.sw rfl rfl rfl hb14 rfl rfl (StepS.ldB rfl (Ent.at 0 rfl) kscalB_3_true rfl) ?_
            refine TO.sw rfl rfl rfl hb14 rfl rfl (StepS.cmp rfl rfl rfl) ?_
            refine TO.s rfl rfl rfl (StepS.pickF rfl hb14 rfl) ?_
            exact TO.up1 6 0 rfl rfl (by rw [hb14]; rfl) rfl
        refine TO.code ?_
        refine TC.cond rfl (fun hc15 => ?_) (fun hc15 => ?_)
        · replace hb8 := cond_t hc15 hb8
          refine TC.k ?_
          refine TC.region ?_
          refine TO.s rfl rfl rfl (StepS.assign rfl) ?_
          refine TO.code ?_
          cases hb8
          refine TC.ret fun a w e s => ?_
          refine FRet.mk1 (P := Try.prog) (fn := Try.f49) (t := 4) e rfl rfl ?_
          exact ⟨rfl, s.mono fun _ => Sat.dropN 1⟩
        · replace hb8 := cond_f hc15 hb8
          refine TC.skipk ?_
          refine TC.region ?_
          refine TO.s rfl rfl rfl (StepS.ari rfl rfl rfl) ?_
          refine TO.s rfl rfl rfl (StepS.move rfl) ?_
          cases hb8
          refine TO.nil fun a w e s => ?_
          exact ⟨e.sub (lk_of_allIn ⟨rfl, rfl, rfl, rfl, rfl, trivial⟩), s.mono fun _ => Sat.dropN 1⟩
      · replace hb8 := cond_f hc9 hb8
        cases hb8
        refine TC.exit rfl fun a w e s => ?_
        exact ⟨e.sub (lk_of_allIn ⟨rfl, trivial⟩), s⟩
    · exact fun a w e s => ⟨e.sub (lk_of_allIn ⟨rfl, rfl, rfl, rfl, rfl, trivial⟩), s⟩
    · rintro _ rfl a w ⟨he, hs⟩
      dsimp only [Ctl.on] at hm
      refine TC.use ?_ he hs
      refine TC.k ?_
      refine TC.k ?_
      refine TC.region ?_
      refine TO.s rfl rfl rfl (StepS.move rfl) ?_
      refine TO.s rfl rfl rfl (StepS.lenm rfl e1 ksliceB_30_81_2_true rfl) ?_
      refine TO.s rfl rfl rfl (StepS.move rfl) ?_
      refine TO.code ?_
      obtain ⟨o18, hw19, hm⟩ := bind_some hm
      refine TC.loop hw19 (fun x16 => fun a w => Mid 73 B [(1, h1), (49, h1), (50, I (a1.length : Int)), (51, I x16)] (L) a w) (fun _ => fun a w => Mid 73 B [] (L) a w) (fun r0 => FRet Try.prog Try.f49 (fun e w' => (e = .returned (I r0) ∧ St B (L) w'))) ?_ ?_ ?_ ?_
      · rintro x16 o18r hb20 a w ⟨he, hs⟩
        dsimp only [F49_L1] at hb20
        refine TC.use ?_ he hs
        refine TC.k ?_
        refine TC.region ?_
        refine TO.s rfl rfl rfl (StepS.cmp rfl rfl rfl) ?_
        refine TO.code ?_
        refine TC.k ?_
        refine TC.cond rfl (fun hc21 => ?_) (fun hc21 => ?_)
        · replace hb20 := cond_t hc21 hb20
          refine TC.skipk ?_
          refine TC.k ?_
          refine TC.block ?_
          refine TC.k ?_
          refine TC.region ?_
          refine TO.s rfl rfl rfl (StepS.move rfl) ?_
          obtain ⟨x22, hx23, hb20⟩ := bind_some hb20
          refine TO.s rfl rfl rfl (StepS.idx rfl rfl e1 ksliceB_30_81_2_true (idx_spec hx23).1 (idxm_lt hx23)) ?_
          refine TO.s rfl rfl rfl (StepS.ldE rfl e1 kaggB_81_2_true rfl (idxm hx23)) ?_
          refine TO.alloc kinfo_81_bind_zero_some_agg_I_0_I_0 rfl rfl fun b24 => ?_
          refine TO.s rfl rfl rfl (StepS.assign rfl) ?_
          refine TO.stB (us := [I x22.1, I x22.2]) 0 [I x22.1, I x22.2] rfl rfl rfl ksizeB_81_2_true rfl rfl rfl (by simp [Value.oneCell']) rfl ?_
          refine TO.code ?_
          refine TC.k ?_
          refine TC.region_quiet kfollows_mixedOrders_true (by kernel_rfl) ?_
          refine TQ.s rfl rfl rfl (StepS.move rfl).q ?_
          refine TQ.s rfl rfl rfl (StepS.move rfl).q ?_
          obtain ⟨y25, hs26, hb20⟩ := bind_some hb20
          obtain ⟨hs26a, hs26b, hs26c, _⟩ := slI_spec hs26
          refine TQ.s rfl rfl rfl (StepS.slc rfl e1.tl ksliceB_30_81_2_true rfl rfl hs26a hs26b (by simpa using hs26c)).q ?_
          refine TQ.s rfl rfl rfl (StepS.ldBA rfl (Ent.at 0 rfl) kaggB_81_2_true rfl rfl).q ?_
          obtain ⟨r28, hc29, hb20⟩ := bind_some hb20
          refine TQ.s rfl rfl rfl (StepQ.call kcallB_77_true rfl rfl (fun _ st => C77 (Ent.sub e1.tl hs26) hc29 st)) ?_
          refine TQ.s rfl rfl rfl (StepS.move rfl).q ?_
          obtain ⟨b31, hj32, hb20⟩ := bind_some hb20
          refine TQ.mid1 10 71 (.bool b31) ?_ ?_
          · refine bcase (r28) (fun hb30 => ?_) (fun hb30 => ?_)
            · replace hj32 := cond_t hb30 hj32
              cases hj32
              refine TQ.skip rfl rfl rfl (skipT hb30) rfl rfl ?_
              refine TQ.skip rfl rfl rfl (skipT hb30) rfl rfl ?_
              refine TQ.skip rfl rfl rfl (skipT hb30) rfl rfl ?_
              refine TQ.skip rfl rfl rfl (skipT hb30) rfl rfl ?_
              refine TQ.skip rfl rfl rfl (skipT hb30) rfl rfl ?_
              refine TQ.skip rfl rfl rfl (skipT hb30) rfl rfl ?_
              refine TQ.skip rfl rfl rfl (skipT hb30) rfl rfl ?_
              refine TQ.skip rfl rfl rfl (skipT hb30) rfl rfl ?_
              refine TQ.skip rfl rfl rfl (skipT hb30) rfl rfl ?_
              refine TQ.s rfl rfl rfl (StepS.pickT rfl hb30 rfl).q ?_
              exact TQ.up1 10 0 rfl rfl rfl rfl
            · replace hj32 := cond_f hb30 hj32
              refine TQ.sw rfl rfl rfl hb30 rfl rfl (StepS.move rfl).q ?_
              refine TQ.sw rfl rfl rfl hb30 rfl rfl (StepS.move rfl).q ?_
              obtain ⟨y33, hs34, hj32⟩ := bind_some hj32
              obtain ⟨hs34a, hs34b, hs34c, _⟩ := slI_spec hs34
              refine TQ.sw rfl rfl rfl hb30 rfl rfl (StepS.slc rfl e1.tl ksliceB_30_81_2_true rfl rfl hs34a hs34b (by simpa using hs34c)).q ?_
              refine TQ.sw rfl rfl rfl hb30 rfl rfl (StepS.aidx (j := 1) rfl rfl karrB_81_2_3_1_true ⟨by decide, by decide⟩ rfl).q ?_
              refine TQ.sw rfl rfl rfl hb30 rfl rfl (StepS.ldB rfl (Ent.at 0 rfl) kscalB_3_true rfl).q ?_
              refine TQ.sw rfl rfl rfl hb30 rfl rfl (StepS.aidx (j := 0) rfl rfl karrB_81_2_3_1_true ⟨by decide, by decide⟩ rfl).q ?_
              refine TQ.sw rfl rfl rfl hb30 rfl rfl (StepS.ldB rfl (Ent.at 0 rfl) kscalB_3_true rfl).q ?_
              refine TQ.sw rfl rfl rfl hb30 rfl rfl (StepS.build (cs := [I x22.2, I x22.1]) rfl (by kernel_rfl)).q ?_
              obtain ⟨r36, hc37, hj32⟩ := bind_some hj32
              refine TQ.sw rfl rfl rfl hb30 rfl rfl (StepQ.call kcallB_77_true rfl rfl (fun _ st => C77 (Ent.sub e1.tl hs34) hc37 st)) ?_
              cases hj32
              refine TQ.s rfl rfl rfl (StepS.pickF rfl hb30 rfl).q ?_
              exact TQ.up1 10 0 rfl rfl rfl rfl
          refine TQ.code ?_
          refine TC.cond rfl (fun hc38 => ?_) (fun hc38 => ?_)
          · replace hb20 := cond_t hc38 hb20
            refine TC.k ?_
            refine TC.region ?_
            refine TO.s rfl rfl rfl (StepS.assign rfl) ?_
            refine TO.code ?_
            cases hb20
            refine TC.ret fun a w e s => ?_
            refine FRet.mk1 (P := Try.prog) (fn := Try.f49) (t := 4) e rfl rfl ?_
            exact ⟨rfl, s.mono fun _ => Sat.dropN 1⟩
          · replace hb20 := cond_f hc38 hb20
            refine TC.skipk ?_
            refine TC.region ?_
            refine TO.s rfl rfl rfl (StepS.ari rfl rfl rfl) ?_
            refine TO.s rfl rfl rfl (StepS.move rfl) ?_
            cases hb20
            refine TO.nil fun a w e s => ?_
            exact ⟨e.sub (lk_of_allIn ⟨rfl, rfl, rfl, rfl, trivial⟩), s.mono fun _ => Sat.dropN 1⟩
        · replace hb20 := cond_f hc21 hb20
          cases hb20
          refine TC.exit rfl fun a w e s => ?_
          exact ⟨e.sub (lk_of_allIn trivial), s⟩
      · exact fun a w e s => ⟨e.sub (lk_of_allIn ⟨rfl, rfl, rfl, rfl, trivial⟩), s⟩
      · rintro _ rfl a w ⟨he, hs⟩
        dsimp only [Ctl.on] at hm
        refine TC.use ?_ he hs
        refine TC.k ?_
        refine TC.region ?_
        refine TO.s rfl rfl rfl (StepS.assign rfl) ?_
        refine TO.code ?_
        cases hm
        refine TC.ret fun a w e s => ?_
        refine FRet.mk1 (P := Try.prog) (fn := Try.f49) (t := 4) e rfl rfl ?_
        exact ⟨rfl, s.mono fun _ => Sat.dropN 0⟩
      · rintro r rfl
        cases hm
        exact fun a w h => h
    · rintro r rfl
      cases hm
      exact fun a w h => h

set_option maxRecDepth 100000 in
theorem C50 {B : World} {L : List HP} {a0 : Int} {a1 : List (Int × Int)} {h1 : Value} {r0 : BitVec 32} (e1 : Ent L (Rd 2 h1 (a1.map cTii))) (hm : F50 a0 a1 = some r0) {w : World} (st : St B L w) : Calls Try.prog 50 #[I a0, h1] w (fun e w' => (e = .returned (U r0) ∧ St B (L) w')) := by
  refine calls_of (N := 24) (L := L) (args := [I a0, h1]) Try.func50 rfl rfl rfl ?_ st
  dsimp only [F50] at hm
  refine TC.k ?_
  refine TC.region ?_
  refine TO.s rfl rfl rfl (StepS.assign rfl) ?_
  refine TO.code ?_
  refine TC.k ?_
  refine TC.region ?_
  refine TO.s rfl rfl rfl (StepS.move rfl) ?_
  obtain ⟨k1, hk2, hm⟩ := bind_some hm
  refine TO.s rfl rfl rfl (StepS.shlk (m := 1#32) rfl rfl hk2) ?_
  refine TO.s rfl rfl rfl (StepS.bitU (n := 1#32) rfl rfl rfl) ?_
  refine TO.s rfl rfl rfl (StepS.assign rfl) ?_
  refine TO.code ?_
  refine TC.k ?_
  refine TC.k ?_
  refine TC.region ?_
  refine TO.s rfl rfl rfl (StepS.move rfl) ?_
  refine TO.s rfl rfl rfl (StepS.lenm rfl e1 ksliceB_30_81_2_true rfl) ?_
  refine TO.s rfl rfl rfl (StepS.move rfl) ?_
  refine TO.code ?_
  obtain ⟨o8, hw9, hm⟩ := bind_some hm
  refine TC.loop hw9 (fun (x3, x4) => fun a w => Mid 24 B [(5, U x3), (11, h1), (12, I (a1.length : Int)), (13, I x4)] (L) a w) (fun x7 => fun a w => Mid 24 B [(5, U x7)] (L) a w) (fun (_ : Unit) _ _ => False) ?_ ?_ ?_ ?_
  · rintro ⟨x3, x4⟩ o8r hb10 a w ⟨he, hs⟩
    dsimp only [F50_L0] at hb10
    refine TC.use ?_ he hs
    refine TC.k ?_
    refine TC.region ?_
    refine TO.s rfl rfl rfl (StepS.cmp rfl rfl rfl) ?_
    refine TO.code ?_
    refine TC.k ?_
    refine TC.cond rfl (fun hc11 => ?_) (fun hc11 => ?_)
    · replace hb10 := cond_t hc11 hb10
      refine TC.skipk ?_
      refine TC.k ?_
      refine TC.block ?_
      refine TC.k ?_
      refine TC.region ?_
      obtain ⟨x12, hx13, hb10⟩ := bind_some hb10
      refine TO.s rfl rfl rfl (StepS.idx rfl rfl e1 ksliceB_30_81_2_true (idx_spec hx13).1 (idxm_lt hx13)) ?_
      refine TO.s rfl rfl rfl (StepS.ldE rfl e1 kaggB_81_2_true rfl (idxm hx13)) ?_
      refine TO.alloc kinfo_81_bind_zero_some_agg_I_0_I_0 rfl rfl fun b14 => ?_
      refine TO.stB (us := [I x12.1, I x12.2]) 0 [I x12.1, I x12.2] rfl rfl rfl ksizeB_81_2_true rfl rfl rfl (by simp [Value.oneCell']) rfl ?_
      refine TO.code ?_
      refine TC.region ?_
      refine TO.s rfl rfl rfl (StepS.move rfl) ?_
      refine TO.s rfl rfl rfl (StepS.aidx (j := 0) rfl rfl karrB_81_2_3_1_true ⟨by decide, by decide⟩ rfl) ?_
      refine TO.s rfl rfl rfl (StepS.ldB rfl (Ent.at 0 rfl) kscalB_3_true rfl) ?_
      obtain ⟨k15, hk16, hb10⟩ := bind_some hb10
      refine TO.s rfl rfl rfl (StepS.shlk (m := 1#32) rfl rfl hk16) ?_
      refine TO.s rfl rfl rfl (StepS.bitU rfl rfl rfl) ?_
      refine TO.s rfl rfl rfl (StepS.assign rfl) ?_
      refine TO.code ?_
      refine TC.region ?_
      refine TO.s rfl rfl rfl (StepS.ari rfl rfl rfl) ?_
      refine TO.s rfl rfl rfl (StepS.move rfl) ?_
      cases hb10
      refine TO.nil fun a w e s => ?_
      exact ⟨e.sub (lk_of_allIn ⟨rfl, rfl, rfl, rfl, trivial⟩), s.mono fun _ => Sat.dropN 1⟩
    · replace hb10 := cond_f hc11 hb10
      cases hb10
      refine TC.exit rfl fun a w e s => ?_
      exact ⟨e.sub (lk_of_allIn ⟨rfl, trivial⟩), s⟩
  · exact fun a w e s => ⟨e.sub (lk_of_allIn ⟨rfl, rfl, rfl, rfl, trivial⟩), s⟩
  · rintro x7 rfl a w ⟨he, hs⟩
    dsimp only [Ctl.on] at hm
    refine TC.use ?_ he hs
    refine TC.k ?_
    refine TC.region ?_
    refine TO.s rfl rfl rfl (StepS.move rfl) ?_
    refine TO.s rfl rfl rfl (StepS.assign rfl) ?_
    refine TO.code ?_
    cases hm
    refine TC.ret fun a w e s => ?_
    refine FRet.mk1 (P := Try.prog) (fn := Try.f50) (t := 4) e rfl rfl ?_
    exact ⟨rfl, s.mono fun _ => Sat.dropN 0⟩
  · rintro r rfl
    exact fun a w h => h.elim

set_option maxRecDepth 100000 in
theorem C19 {B : World} {L : List HP} {a0 : Int} {a1 : List (Int × Int)} {h1 : Value} {r0 : BitVec 32} {r1 : Int} (e1 : Ent L (Rd 2 h1 (a1.map cTii))) (hm : F19 a0 a1 = some (r0, r1)) {w : World} (st : St B L w) : Calls Try.prog 19 #[I a0, h1] w (fun e w' => (e = .returned (.tuple #[U r0, I r1]) ∧ St B (L) w')) := by
  refine calls_of (N := 16) (L := L) (args := [I a0, h1]) Try.func19 rfl rfl rfl ?_ st
  dsimp only [F19] at hm
  refine TC.k ?_
  refine TC.region ?_
  refine TO.s rfl rfl rfl (StepS.assign rfl) ?_
  refine TO.s rfl rfl rfl (StepS.assign rfl) ?_
  refine TO.code ?_
  refine TC.k ?_
  refine TC.k ?_
  refine TC.region ?_
  refine TO.s rfl rfl rfl (StepS.move rfl) ?_
  refine TO.s rfl rfl rfl (StepS.move rfl) ?_
  obtain ⟨r1, hc2, hm⟩ := bind_some hm
  refine TO.q rfl rfl rfl (StepQ.call kcallB_49_true rfl rfl (fun _ st => C49 e1 hc2 st)) ?_
  refine TO.s rfl rfl rfl (StepS.assign rfl) ?_
  refine TO.code ?_
  refine TC.k ?_
  refine TC.region ?_
  refine TO.s rfl rfl rfl (StepS.move rfl) ?_
  refine TO.s rfl rfl rfl (StepS.cmp rfl rfl rfl) ?_
  refine TO.code ?_
  refine TC.cond rfl (fun hc3 => ?_) (fun hc3 => ?_)
  · replace hm := cond_t hc3 hm
    refine TC.k ?_
    refine TC.region ?_
    refine TO.s rfl rfl rfl (StepS.move rfl) ?_
    refine TO.s rfl rfl rfl (StepS.assign rfl) ?_
    refine TO.s rfl rfl rfl (StepS.assign rfl) ?_
    refine TO.code ?_
    cases hm
    refine TC.ret fun a w e s => ?_
    refine FRet.mk2 (P := Try.prog) (fn := Try.f19) (t := 4) (u := 5) e rfl rfl rfl ?_
    exact ⟨rfl, s.mono fun _ => Sat.dropN 0⟩
  · replace hm := cond_f hc3 hm
    refine TC.skipk ?_
    refine TC.k ?_
    refine TC.region ?_
    refine TO.s rfl rfl rfl (StepS.move rfl) ?_
    refine TO.s rfl rfl rfl (StepS.move rfl) ?_
    obtain ⟨r4, hc5, hm⟩ := bind_some hm
    refine TO.q rfl rfl rfl (StepQ.call kcallB_50_true rfl rfl (fun _ st => C50 e1 hc5 st)) ?_
    refine TO.s rfl rfl rfl (StepS.assign rfl) ?_
    refine TO.s rfl rfl rfl (StepS.assign rfl) ?_
    refine TO.code ?_
    cases hm
    refine TC.ret fun a w e s => ?_
    refine FRet.mk2 (P := Try.prog) (fn := Try.f19) (t := 4) (u := 5) e rfl rfl rfl ?_
    exact ⟨rfl, s.mono fun _ => Sat.dropN 0⟩

set_option maxRecDepth 100000 in
theorem C42 {B : World} {L : List HP} {a0 : Int} {a1 : List (Int × Int)} {h1 : Value} {r0 : Int} (e1 : Ent L (Rd 2 h1 (a1.map cTii))) (hm : F42 a0 a1 = some r0) {w : World} (st : St B L w) : Calls Try.prog 42 #[I a0, h1] w (fun e w' => (e = .returned (I r0) ∧ St B (L) w')) := by
  refine calls_of (N := 52) (L := L) (args := [I a0, h1]) Try.func42 rfl rfl rfl ?_ st
  dsimp only [F42] at hm
  refine TC.k ?_
  refine TC.region ?_
  refine TO.s rfl rfl rfl (StepS.assign rfl) ?_
  refine TO.code ?_
  refine TC.k ?_
  refine TC.k ?_
  refine TC.region ?_
  refine TO.s rfl rfl rfl (StepS.move rfl) ?_
  refine TO.s rfl rfl rfl (StepS.cmp rfl rfl rfl) ?_
  refine TO.s rfl rfl rfl (StepS.move rfl) ?_
  refine TO.mid1 3 12 (.bool ((decide (a0 < 1)) || (decide (a0 > 6)))) ?_ ?_
  · refine bcase ((decide (a0 < 1))) (fun hb1 => ?_) (fun hb1 => ?_)
    · refine TO.skip rfl rfl rfl (skipT hb1) rfl rfl ?_
      refine TO.skip rfl rfl rfl (skipT hb1) rfl rfl ?_
      refine TO.s rfl rfl rfl (StepS.pickT rfl hb1 rfl) ?_
      exact TO.up1 3 0 rfl rfl (by rw [hb1]; rfl) rfl
    · refine TO.sw rfl rfl rfl hb1 rfl rfl (StepS.move rfl) ?_
      refine TO.sw rfl rfl rfl hb1 rfl rfl (StepS.cmp rfl rfl rfl) ?_
      refine TO.s rfl rfl rfl (StepS.pickF rfl hb1 rfl) ?_
      exact TO.up1 3 0 rfl rfl (by rw [hb1]; rfl) rfl
  refine TO.s rfl rfl rfl (StepS.move rfl) ?_
  refine TO.mid1 4 17 (.bool (((decide (a0 < 1)) || (decide (a0 > 6))) || (decide ((a1.length : Int) > 15)))) ?_ ?_
  · refine bcase (((decide (a0 < 1)) || (decide (a0 > 6)))) (fun hb2 => ?_) (fun hb2 => ?_)
    · refine TO.skip rfl rfl rfl (skipT hb2) rfl rfl ?_
      refine TO.skip rfl rfl rfl (skipT hb2) rfl rfl ?_
      refine TO.skip rfl rfl rfl (skipT hb2) rfl rfl ?_
      refine TO.s rfl rfl rfl (StepS.pickT rfl hb2 rfl) ?_
      exact TO.up1 4 0 rfl rfl (by rw [hb2]; rfl) rfl
    · refine TO.sw rfl rfl rfl hb2 rfl rfl (StepS.move rfl) ?_
      refine TO.sw rfl rfl rfl hb2 rfl rfl (StepS.lenm rfl e1 ksliceB_30_81_2_true rfl) ?_
      refine TO.sw rfl rfl rfl hb2 rfl rfl (StepS.cmp rfl rfl rfl) ?_
      refine TO.s rfl rfl rfl (StepS.pickF rfl hb2 rfl) ?_
      exact TO.up1 4 0 rfl rfl (by rw [hb2]; rfl) rfl
  refine TO.code ?_
  refine TC.cond rfl (fun hc3 => ?_) (fun hc3 => ?_)
  · replace hm := cond_t hc3 hm
    refine TC.k ?_
    refine TC.region ?_
    refine TO.s rfl rfl rfl (StepS.assign rfl) ?_
    refine TO.code ?_
    cases hm
    refine TC.ret fun a w e s => ?_
    refine FRet.mk1 (P := Try.prog) (fn := Try.f42) (t := 4) e rfl rfl ?_
    exact ⟨rfl, s.mono fun _ => Sat.dropN 0⟩
  · replace hm := cond_f hc3 hm
    refine TC.skipk ?_
    refine TC.k ?_
    refine TC.k ?_
    refine TC.region ?_
    refine TO.s rfl rfl rfl (StepS.move rfl) ?_
    refine TO.s rfl rfl rfl (StepS.lenm rfl e1 ksliceB_30_81_2_true rfl) ?_
    refine TO.s rfl rfl rfl (StepS.move rfl) ?_
    refine TO.code ?_
    obtain ⟨o6, hw7, hm⟩ := bind_some hm
    refine TC.loop hw7 (fun x4 => fun a w => Mid 52 B [(0, I a0), (18, h1), (19, I (a1.length : Int)), (20, I x4)] (L) a w) (fun _ => fun a w => Mid 52 B [] (L) a w) (fun r0 => FRet Try.prog Try.f42 (fun e w' => (e = .returned (I r0) ∧ St B (L) w'))) ?_ ?_ ?_ ?_
    · rintro x4 o6r hb8 a w ⟨he, hs⟩
      dsimp only [F42_L0] at hb8
      refine TC.use ?_ he hs
      refine TC.k ?_
      refine TC.region ?_
      refine TO.s rfl rfl rfl (StepS.cmp rfl rfl rfl) ?_
      refine TO.code ?_
      refine TC.k ?_
      refine TC.cond rfl (fun hc9 => ?_) (fun hc9 => ?_)
      · replace hb8 := cond_t hc9 hb8
        refine TC.skipk ?_
        refine TC.k ?_
        refine TC.block ?_
        refine TC.k ?_
        refine TC.region ?_
        obtain ⟨x10, hx11, hb8⟩ := bind_some hb8
        refine TO.s rfl rfl rfl (StepS.idx rfl rfl e1 ksliceB_30_81_2_true (idx_spec hx11).1 (idxm_lt hx11)) ?_
        refine TO.s rfl rfl rfl (StepS.ldE rfl e1 kaggB_81_2_true rfl (idxm hx11)) ?_
        refine TO.alloc kinfo_81_bind_zero_some_agg_I_0_I_0 rfl rfl fun b12 => ?_
        refine TO.stB (us := [I x10.1, I x10.2]) 0 [I x10.1, I x10.2] rfl rfl rfl ksizeB_81_2_true rfl rfl rfl (by simp [Value.oneCell']) rfl ?_
        refine TO.code ?_
        refine TC.k ?_
        refine TC.region ?_
        refine TO.s rfl rfl rfl (StepS.aidx (j := 0) rfl rfl karrB_81_2_3_1_true ⟨by decide, by decide⟩ rfl) ?_
        refine TO.s rfl rfl rfl (StepS.ldB rfl (Ent.at 0 rfl) kscalB_3_true rfl) ?_
        refine TO.s rfl rfl rfl (StepS.cmp rfl rfl rfl) ?_
        refine TO.s rfl rfl rfl (StepS.move rfl) ?_
        refine TO.mid1 5 32 (.bool ((decide (x10.1 < 0)) || (decide (x10.1 ≥ a0)))) ?_ ?_
        · refine bcase ((decide (x10.1 < 0))) (fun hb13 => ?_) (fun hb13 => ?_)
          · refine TO.skip rfl rfl rfl (skipT hb13) rfl rfl ?_
            refine TO.skip rfl rfl rfl (skipT hb13) rfl rfl ?_
            refine TO.skip rfl rfl rfl (skipT hb13) rfl rfl ?_
            refine TO.skip rfl rfl rfl (skipT hb13) rfl rfl ?_
            refine TO.s rfl rfl rfl (StepS.pickT rfl hb13 rfl) ?_
            exact TO.up1 5 0 rfl rfl (by rw [hb13]; rfl) rfl
          · refine TO.sw rfl rfl rfl hb13 rfl rfl (StepS.aidx (j := 0) rfl rfl karrB_81_2_3_1_true ⟨by decide, by decide⟩ rfl) ?_
            refine TO.sw rfl rfl rfl hb13 rfl rfl (StepS.ldB rfl (Ent.at 0 rfl) kscalB_3_true rfl) ?_
            refine TO.sw rfl rfl rfl hb13 rfl rfl (StepS.move rfl) ?_
            refine TO.sw rfl rfl rfl hb13 rfl rfl (StepS.cmp rfl rfl rfl) ?_
            refine TO.s rfl rfl rfl (StepS.pickF rfl hb13 rfl) ?_
            exact TO.up1 5 0 rfl rfl (by rw [hb13]; rfl) rfl
        refine TO.s rfl rfl rfl (StepS.move rfl) ?_
        refine TO.mid1 4 37 (.bool (((decide (x10.1 < 0)) || (decide (x10.1 ≥ a0))) || (decide (x10.2 < 0)))) ?_ ?_
        · refine bcase (((decide (x10.1 < 0)) || (decide (x10.1 ≥ a0)))) (fun hb14 => ?_) (fun hb14 => ?_)
          · refine TO.skip rfl rfl rfl (skipT hb14) rfl rfl ?_
            refine TO.skip rfl rfl rfl (skipT hb14) rfl rfl ?_
            refine TO.skip rfl rfl rfl (skipT hb14) rfl rfl ?_
            refine TO.s rfl rfl rfl (StepS.pickT rfl hb14 rfl) ?_
            exact TO.up1 4 0 rfl rfl (by rw [hb14]; rfl) rfl
          · refine TO.sw rfl rfl rfl hb14 rfl rfl (StepS.aidx (j := 1) rfl rfl karrB_81_2_3_1_true ⟨by decide, by decide⟩ rfl) ?_
            refine TO.sw rfl rfl rfl hb14 rfl rfl (StepS.ldB rfl (Ent.at 0 rfl) kscalB_3_true rfl) ?_
            refine TO.sw rfl rfl rfl hb14 rfl rfl (StepS.cmp rfl rfl rfl) ?_
            refine TO.s rfl rfl rfl (StepS.pickF rfl hb14 rfl) ?_
            exact TO.up1 4 0 rfl rfl (by rw [hb14]; rfl) rfl
        refine TO.s rfl rfl rfl (StepS.move rfl) ?_
        refine TO.mid1 5 43 (.bool ((((decide (x10.1 < 0)) || (decide (x10.1 ≥ a0))) || (decide (x10.2 < 0))) || (decide (x10.2 ≥ a0)))) ?_ ?_
        · refine bcase ((((decide (x10.1 < 0)) || (decide (x10.1 ≥ a0))) || (decide (x10.2 < 0)))) (fun hb15 => ?_) (fun hb15 => ?_)
          · refine TO.skip rfl rfl rfl (skipT hb15) rfl rfl ?_
            refine TO.skip rfl rfl rfl (skipT hb15) rfl rfl ?_
            refine TO.skip rfl rfl rfl (skipT hb15) rfl rfl ?_
            refine TO.skip rfl rfl rfl (skipT hb15) rfl rfl ?_
            refine TO.s rfl rfl rfl (StepS.pickT rfl hb15 rfl) ?_
            exact TO.up1 5 0 rfl rfl (by rw [hb15]; rfl) rfl
          · refine TO.sw rfl rfl rfl hb15 rfl rfl (StepS.aidx (j := 1) rfl rfl karrB_81_2_3_1_true ⟨by decide, by decide⟩ rfl) ?_
            refine TO.sw rfl rfl rfl hb15 rfl rfl (StepS.ldB rfl (Ent.at 0 rfl) kscalB_3_true rfl) ?_
            refine TO.sw rfl rfl rfl hb15 rfl rfl (StepS.move rfl) ?_
            refine TO.sw rfl rfl rfl hb15 rfl rfl (StepS.cmp rfl rfl rfl) ?_
            refine TO.s rfl rfl rfl (StepS.pickF rfl hb15 rfl) ?_
            exact TO.up1 5 0 rfl rfl (by rw [hb15]; rfl) rfl
        refine TO.s rfl rfl rfl (StepS.move rfl) ?_
        refine TO.mid1 6 50 (.bool (((((decide (x10.1 < 0)) || (decide (x10.1 ≥ a0))) || (decide (x10.2 < 0))) || (decide (x10.2 ≥ a0))) || (x10.1 == x10.2))) ?_ ?_
        · refine bcase (((((decide (x10.1 < 0)) || (decide (x10.1 ≥ a0))) || (decide (x10.2 < 0))) || (decide (x10.2 ≥ a0)))) (fun hb16 => ?_) (fun hb16 => ?_)
          · refine TO.skip rfl rfl rfl (skipT hb16) rfl rfl ?_
            refine TO.skip rfl rfl rfl (skipT hb16) rfl rfl ?_
            refine TO.skip rfl rfl rfl (skipT hb16) rfl rfl ?_
            refine TO.skip rfl rfl rfl (skipT hb16) rfl rfl ?_
            refine TO.skip rfl rfl rfl (skipT hb16) rfl rfl ?_
            refine TO.s rfl rfl rfl (StepS.pickT rfl hb16 rfl) ?_
            exact TO.up1 6 0 rfl rfl (by rw [hb16]; rfl) rfl
          · refine TO.sw rfl rfl rfl hb16 rfl rfl (StepS.aidx (j := 0) rfl rfl karrB_81_2_3_1_true ⟨by decide, by decide⟩ rfl) ?_
            refine TO.sw rfl rfl rfl hb16 rfl rfl (StepS.ldB rfl (Ent.at 0 rfl) kscalB_3_true rfl) ?_
            refine TO.sw rfl rfl rfl hb16 rfl rfl (StepS.aidx (j := 1) rfl rfl karrB_81_2_3_1_true ⟨by decide, by decide⟩ rfl) ?_
            refine TO.sw rfl rfl rfl hb16 rfl rfl (StepS.ldB rfl (Ent.at 0 rfl) kscalB_3_true rfl) ?_
            refine TO.sw rfl rfl rfl hb16 rfl rfl (StepS.cmp rfl rfl rfl) ?_
            refine TO.s rfl rfl rfl (StepS.pickF rfl hb16 rfl) ?_
            exact TO.up1 6 0 rfl rfl (by rw [hb16]; rfl) rfl
        refine TO.code ?_
        refine TC.cond rfl (fun hc17 => ?_) (fun hc17 => ?_)
        · replace hb8 := cond_t hc17 hb8
          refine TC.k ?_
          refine TC.region ?_
          refine TO.s rfl rfl rfl (StepS.assign rfl) ?_
          refine TO.code ?_
          cases hb8
          refine TC.ret fun a w e s => ?_
          refine FRet.mk1 (P := Try.prog) (fn := Try.f42) (t := 4) e rfl rfl ?_
          exact ⟨rfl, s.mono fun _ => Sat.dropN 1⟩
        · replace hb8 := cond_f hc17 hb8
          refine TC.skipk ?_
          refine TC.region ?_
          refine TO.s rfl rfl rfl (StepS.ari rfl rfl rfl) ?_
          refine TO.s rfl rfl rfl (StepS.move rfl) ?_
          cases hb8
          refine TO.nil fun a w e s => ?_
          exact ⟨e.sub (lk_of_allIn ⟨rfl, rfl, rfl, rfl, trivial⟩), s.mono fun _ => Sat.dropN 1⟩
      · replace hb8 := cond_f hc9 hb8
        cases hb8
        refine TC.exit rfl fun a w e s => ?_
        exact ⟨e.sub (lk_of_allIn trivial), s⟩
    · exact fun a w e s => ⟨e.sub (lk_of_allIn ⟨rfl, rfl, rfl, rfl, trivial⟩), s⟩
    · rintro _ rfl a w ⟨he, hs⟩
      dsimp only [Ctl.on] at hm
      refine TC.use ?_ he hs
      refine TC.k ?_
      refine TC.region ?_
      refine TO.s rfl rfl rfl (StepS.assign rfl) ?_
      refine TO.code ?_
      cases hm
      refine TC.ret fun a w e s => ?_
      refine FRet.mk1 (P := Try.prog) (fn := Try.f42) (t := 4) e rfl rfl ?_
      exact ⟨rfl, s.mono fun _ => Sat.dropN 0⟩
    · rintro r rfl
      cases hm
      exact fun a w h => h

set_option maxRecDepth 100000 in
theorem C43 {B : World} {L : List HP} {a0 : List (Int × Int)} {h0 : Value} {r0 : Bool} (e0 : Ent L (Rd 2 h0 (a0.map cTii))) (hm : F43 a0 = some r0) {w : World} (st : St B L w) : Calls Try.prog 43 #[h0] w (fun e w' => (e = .returned (.bool r0) ∧ St B (L) w')) := by
  refine calls_of (N := 50) (L := L) (args := [h0]) Try.func43 rfl rfl rfl ?_ st
  dsimp only [F43] at hm
  refine TC.k ?_
  refine TC.region ?_
  refine TO.s rfl rfl rfl (StepS.assign rfl) ?_
  refine TO.code ?_
  refine TC.k ?_
  refine TC.k ?_
  refine TC.region ?_
  refine TO.s rfl rfl rfl (StepS.move rfl) ?_
  refine TO.s rfl rfl rfl (StepS.lenm rfl e0 ksliceB_30_81_2_true rfl) ?_
  refine TO.s rfl rfl rfl (StepS.move rfl) ?_
  refine TO.code ?_
  obtain ⟨o3, hw4, hm⟩ := bind_some hm
  refine TC.loop hw4 (fun x1 => fun a w => Mid 50 B [(0, h0), (7, h0), (8, I (a0.length : Int)), (9, I x1)] (L) a w) (fun _ => fun a w => Mid 50 B [] (L) a w) (fun r0 => FRet Try.prog Try.f43 (fun e w' => (e = .returned (.bool r0) ∧ St B (L) w'))) ?_ ?_ ?_ ?_
  · rintro x1 o3r hb5 a w ⟨he, hs⟩
    dsimp only [F43_L0] at hb5
    refine TC.use ?_ he hs
    refine TC.k ?_
    refine TC.region ?_
    refine TO.s rfl rfl rfl (StepS.cmp rfl rfl rfl) ?_
    refine TO.code ?_
    refine TC.k ?_
    refine TC.cond rfl (fun hc6 => ?_) (fun hc6 => ?_)
    · replace hb5 := cond_t hc6 hb5
      refine TC.skipk ?_
      refine TC.k ?_
      refine TC.block ?_
      refine TC.k ?_
      refine TC.region ?_
      refine TO.s rfl rfl rfl (StepS.move rfl) ?_
      obtain ⟨x7, hx8, hb5⟩ := bind_some hb5
      refine TO.s rfl rfl rfl (StepS.idx rfl rfl e0 ksliceB_30_81_2_true (idx_spec hx8).1 (idxm_lt hx8)) ?_
      refine TO.s rfl rfl rfl (StepS.ldE rfl e0 kaggB_81_2_true rfl (idxm hx8)) ?_
      refine TO.alloc kinfo_81_bind_zero_some_agg_I_0_I_0 rfl rfl fun b9 => ?_
      refine TO.s rfl rfl rfl (StepS.assign rfl) ?_
      refine TO.stB (us := [I x7.1, I x7.2]) 0 [I x7.1, I x7.2] rfl rfl rfl ksizeB_81_2_true rfl rfl rfl (by simp [Value.oneCell']) rfl ?_
      refine TO.code ?_
      refine TC.k ?_
      refine TC.region ?_
      refine TO.s rfl rfl rfl (StepS.move rfl) ?_
      refine TO.s rfl rfl rfl (StepS.move rfl) ?_
      obtain ⟨y10, hs11, hb5⟩ := bind_some hb5
      obtain ⟨hs11a, hs11b, hs11c, _⟩ := slI_spec hs11
      refine TO.s rfl rfl rfl (StepS.slc rfl e0.tl ksliceB_30_81_2_true rfl rfl hs11a hs11b (by simpa using hs11c)) ?_
      refine TO.s rfl rfl rfl (StepS.lenm rfl (Ent.sub e0.tl hs11) ksliceB_30_81_2_true rfl) ?_
      refine TO.s rfl rfl rfl (StepS.move rfl) ?_
      refine TO.code ?_
      obtain ⟨o15, hw16, hb5⟩ := bind_some hb5
      refine TC.loop hw16 (fun x13 => fun a w => Mid 50 B [(0, h0), (4, .pointer (some ⟨b9, 0, none⟩)), (7, h0), (8, I (a0.length : Int)), (9, I x1), (16, (subv h0 0 x1 2)), (17, I (y10.length : Int)), (18, I x13)] (Bx b9 81 [I x7.1, I x7.2] :: L) a w) (fun _ => fun a w => Mid 50 B [(0, h0), (7, h0), (8, I (a0.length : Int)), (9, I x1)] (Bx b9 81 [I x7.1, I x7.2] :: L) a w) (fun r0 => FRet Try.prog Try.f43 (fun e w' => (e = .returned (.bool r0) ∧ St B (L) w'))) ?_ ?_ ?_ ?_
      · rintro x13 o15r hb17 a w ⟨he, hs⟩
        dsimp only [F43_L1] at hb17
        refine TC.use ?_ he hs
        refine TC.k ?_
        refine TC.region ?_
        refine TO.s rfl rfl rfl (StepS.cmp rfl rfl rfl) ?_
        refine TO.code ?_
        refine TC.k ?_
        refine TC.cond rfl (fun hc18 => ?_) (fun hc18 => ?_)
        · replace hb17 := cond_t hc18 hb17
          refine TC.skipk ?_
          refine TC.k ?_
          refine TC.block ?_
          refine TC.k ?_
          refine TC.region ?_
          obtain ⟨x19, hx20, hb17⟩ := bind_some hb17
          refine TO.s rfl rfl rfl (StepS.idx rfl rfl (Ent.sub e0.tl hs11) ksliceB_30_81_2_true (idx_spec hx20).1 (idxm_lt hx20)) ?_
          refine TO.s rfl rfl rfl (StepS.ldE rfl (Ent.sub e0.tl hs11) kaggB_81_2_true rfl (idxm hx20)) ?_
          refine TO.alloc kinfo_81_bind_zero_some_agg_I_0_I_0 rfl rfl fun b21 => ?_
          refine TO.stB (us := [I x19.1, I x19.2]) 0 [I x19.1, I x19.2] rfl rfl rfl ksizeB_81_2_true rfl rfl rfl (by simp [Value.oneCell']) rfl ?_
          refine TO.code ?_
          refine TC.k ?_
          refine TC.region ?_
          refine TO.s rfl rfl rfl (StepS.aidx (j := 0) rfl rfl karrB_81_2_3_1_true ⟨by decide, by decide⟩ rfl) ?_
          refine TO.s rfl rfl rfl (StepS.ldB rfl (Ent.at 1 rfl) kscalB_3_true rfl) ?_
          refine TO.s rfl rfl rfl (StepS.aidx (j := 0) rfl rfl karrB_81_2_3_1_true ⟨by decide, by decide⟩ rfl) ?_
          refine TO.s rfl rfl rfl (StepS.ldB rfl (Ent.at 0 rfl) kscalB_3_true rfl) ?_
          refine TO.s rfl rfl rfl (StepS.cmp rfl rfl rfl) ?_
          refine TO.s rfl rfl rfl (StepS.move rfl) ?_
          refine TO.mid1 6 33 (.bool ((x7.1 == x19.1) && (x7.2 == x19.2))) ?_ ?_
          · refine bcase ((x7.1 == x19.1)) (fun hb22 => ?_) (fun hb22 => ?_)
            · refine TO.sw rfl rfl rfl hb22 rfl rfl (StepS.aidx (j := 1) rfl rfl karrB_81_2_3_1_true ⟨by decide, by decide⟩ rfl) ?_
              refine TO.sw rfl rfl rfl hb22 rfl rfl (StepS.ldB rfl (Ent.at 1 rfl) kscalB_3_true rfl) ?_
              refine TO.sw rfl rfl rfl hb22 rfl rfl (StepS.aidx (j := 1) rfl rfl karrB_81_2_3_1_true ⟨by decide, by decide⟩ rfl) ?_
              refine TO.sw rfl rfl rfl hb22 rfl rfl (StepS.ldB rfl (Ent.at 0 rfl) kscalB_3_true rfl) ?_
              refine TO.sw rfl rfl rfl hb22 rfl rfl (StepS.cmp rfl rfl rfl) ?_
              refine TO.s rfl rfl rfl (StepS.pickT rfl hb22 rfl) ?_
              exact TO.up1 6 0 rfl rfl (by rw [hb22]; rfl) rfl
            · refine TO.skip rfl rfl rfl (skipF hb22) rfl rfl ?_
              refine TO.skip rfl rfl rfl (skipF hb22) rfl rfl ?_
              refine TO.skip rfl rfl rfl (skipF hb22) rfl rfl ?_
              refine TO.skip rfl rfl rfl (skipF hb22) rfl rfl ?_
              refine TO.skip rfl rfl rfl (skipF hb22) rfl rfl ?_
              refine TO.s rfl rfl rfl (StepS.pickF rfl hb22 rfl) ?_
              exact TO.up1 6 0 rfl rfl (by rw [hb22]; rfl) rfl
          refine TO.s rfl rfl rfl (StepS.move rfl) ?_
          refine TO.mid1 13 47 (.bool (((x7.1 == x19.1) && (x7.2 == x19.2)) || ((x7.1 == x19.2) && (x7.2 == x19.1)))) ?_ ?_
          · refine bcase (((x7.1 == x19.1) && (x7.2 == x19.2))) (fun hb23 => ?_) (fun hb23 => ?_)
            · refine TO.skip rfl rfl rfl (skipT hb23) rfl rfl ?_
              refine TO.skip rfl rfl rfl (skipT hb23) rfl rfl ?_
              refine TO.skip rfl rfl rfl (skipT hb23) rfl rfl ?_
              refine TO.skip rfl rfl rfl (skipT hb23) rfl rfl ?_
              refine TO.skip rfl rfl rfl (skipT hb23) rfl rfl ?_
              refine TO.skip rfl rfl rfl (skipT hb23) rfl rfl ?_
              refine TO.skip rfl rfl rfl skipU rfl rfl ?_
              refine TO.skip rfl rfl rfl skipU rfl rfl ?_
              refine TO.skip rfl rfl rfl skipU rfl rfl ?_
              refine TO.skip rfl rfl rfl skipU rfl rfl ?_
              refine TO.skip rfl rfl rfl skipU rfl rfl ?_
              refine TO.skip rfl rfl rfl (skipT hb23) rfl rfl ?_
              refine TO.s rfl rfl rfl (StepS.pickT rfl hb23 rfl) ?_
              exact TO.up1 13 0 rfl rfl (by rw [hb23]; rfl) rfl
            · refine TO.sw rfl rfl rfl hb23 rfl rfl (StepS.aidx (j := 0) rfl rfl karrB_81_2_3_1_true ⟨by decide, by decide⟩ rfl) ?_
              refine TO.sw rfl rfl rfl hb23 rfl rfl (StepS.ldB rfl (Ent.at 1 rfl) kscalB_3_true rfl) ?_
              refine TO.sw rfl rfl rfl hb23 rfl rfl (StepS.aidx (j := 1) rfl rfl karrB_81_2_3_1_true ⟨by decide, by decide⟩ rfl) ?_
              refine TO.sw rfl rfl rfl hb23 rfl rfl (StepS.ldB rfl (Ent.at 0 rfl) kscalB_3_true rfl) ?_
              refine TO.sw rfl rfl rfl hb23 rfl rfl (StepS.cmp rfl rfl rfl) ?_
              refine TO.sw rfl rfl rfl hb23 rfl rfl (StepS.move rfl) ?_
              refine TO.mid1 6 46 (.bool ((x7.1 == x19.2) && (x7.2 == x19.1))) ?_ ?_
              · refine bcase ((x7.1 == x19.2)) (fun hb24 => ?_) (fun hb24 => ?_)
                · refine TO.sw rfl rfl rfl hb24 rfl rfl (StepS.aidx (j := 1) rfl rfl karrB_81_2_3_1_true ⟨by decide, by decide⟩ rfl) ?_
                  refine TO.sw rfl rfl rfl hb24 rfl rfl (StepS.ldB rfl (Ent.at 1 rfl) kscalB_3_true rfl) ?_
                  refine TO.sw rfl rfl rfl hb24 rfl rfl (StepS.aidx (j := 0) rfl rfl karrB_81_2_3_1_true ⟨by decide, by decide⟩ rfl) ?_
                  refine TO.sw rfl rfl rfl hb24 rfl rfl (StepS.ldB rfl (Ent.at 0 rfl) kscalB_3_true rfl) ?_
                  refine TO.sw rfl rfl rfl hb24 rfl rfl (StepS.cmp rfl rfl rfl) ?_
                  refine TO.sw rfl rfl rfl hb23 rfl rfl (StepS.pickT rfl hb24 rfl) ?_
                  exact TO.up1 6 0 rfl rfl (by rw [hb24]; rfl) rfl
                · refine TO.skip rfl rfl rfl (skipF hb24) rfl rfl ?_
                  refine TO.skip rfl rfl rfl (skipF hb24) rfl rfl ?_
                  refine TO.skip rfl rfl rfl (skipF hb24) rfl rfl ?_
                  refine TO.skip rfl rfl rfl (skipF hb24) rfl rfl ?_
                  refine TO.skip rfl rfl rfl (skipF hb24) rfl rfl ?_
                  refine TO.sw rfl rfl rfl hb23 rfl rfl (StepS.pickF rfl hb24 rfl) ?_
                  exact TO.up1 6 0 rfl rfl (by rw [hb24]; rfl) rfl
              refine TO.s rfl rfl rfl (StepS.pickF rfl hb23 rfl) ?_
              exact TO.up1 8 0 rfl rfl (by rw [hb23]; rfl) rfl
          refine TO.code ?_
          refine TC.cond rfl (fun hc25 => ?_) (fun hc25 => ?_)
          · replace hb17 := cond_t hc25 hb17
            refine TC.k ?_
            refine TC.region ?_
            refine TO.s rfl rfl rfl (StepS.assign rfl) ?_
            refine TO.code ?_
            cases hb17
            refine TC.ret fun a w e s => ?_
            refine FRet.mk1 (P := Try.prog) (fn := Try.f43) (t := 2) e rfl rfl ?_
            exact ⟨rfl, s.mono fun _ => Sat.dropN 2⟩
          · replace hb17 := cond_f hc25 hb17
            refine TC.skipk ?_
            refine TC.region ?_
            refine TO.s rfl rfl rfl (StepS.ari rfl rfl rfl) ?_
            refine TO.s rfl rfl rfl (StepS.move rfl) ?_
            cases hb17
            refine TO.nil fun a w e s => ?_
            exact ⟨e.sub (lk_of_allIn ⟨rfl, rfl, rfl, rfl, rfl, rfl, rfl, rfl, trivial⟩), s.mono fun _ => Sat.dropN 1⟩
        · replace hb17 := cond_f hc18 hb17
          cases hb17
          refine TC.exit rfl fun a w e s => ?_
          exact ⟨e.sub (lk_of_allIn ⟨rfl, rfl, rfl, rfl, trivial⟩), s⟩
      · exact fun a w e s => ⟨e.sub (lk_of_allIn ⟨rfl, rfl, rfl, rfl, rfl, rfl, rfl, rfl, trivial⟩), s⟩
      · rintro _ rfl a w ⟨he, hs⟩
        dsimp only [Ctl.on] at hb5
        refine TC.use ?_ he hs
        refine TC.region ?_
        refine TO.s rfl rfl rfl (StepS.ari rfl rfl rfl) ?_
        refine TO.s rfl rfl rfl (StepS.move rfl) ?_
        cases hb5
        refine TO.nil fun a w e s => ?_
        exact ⟨e.sub (lk_of_allIn ⟨rfl, rfl, rfl, rfl, trivial⟩), s.mono fun _ => Sat.dropN 1⟩
      · rintro r rfl
        cases hb5
        exact fun a w h => h
    · replace hb5 := cond_f hc6 hb5
      cases hb5
      refine TC.exit rfl fun a w e s => ?_
      exact ⟨e.sub (lk_of_allIn trivial), s⟩
  · exact fun a w e s => ⟨e.sub (lk_of_allIn ⟨rfl, rfl, rfl, rfl, trivial⟩), s⟩
  · rintro _ rfl a w ⟨he, hs⟩
    dsimp only [Ctl.on] at hm
    refine TC.use ?_ he hs
    refine TC.k ?_
    refine TC.region ?_
    refine TO.s rfl rfl rfl (StepS.assign rfl) ?_
    refine TO.code ?_
    cases hm
    refine TC.ret fun a w e s => ?_
    refine FRet.mk1 (P := Try.prog) (fn := Try.f43) (t := 2) e rfl rfl ?_
    exact ⟨rfl, s.mono fun _ => Sat.dropN 0⟩
  · rintro r rfl
    cases hm
    exact fun a w h => h

set_option maxRecDepth 100000 in
theorem C20 {B : World} {L : List HP} {a0 : Int} {a1 : List (Int × Int)} {h1 : Value} {r0 : Int} (e1 : Ent L (Rd 2 h1 (a1.map cTii))) (hm : F20 a0 a1 = some r0) {w : World} (st : St B L w) : Calls Try.prog 20 #[I a0, h1] w (fun e w' => (e = .returned (I r0) ∧ St B (L) w')) := by
  refine calls_of (N := 16) (L := L) (args := [I a0, h1]) Try.func20 rfl rfl rfl ?_ st
  dsimp only [F20] at hm
  refine TC.k ?_
  refine TC.region ?_
  refine TO.s rfl rfl rfl (StepS.assign rfl) ?_
  refine TO.code ?_
  refine TC.k ?_
  refine TC.region ?_
  refine TO.s rfl rfl rfl (StepS.move rfl) ?_
  refine TO.s rfl rfl rfl (StepS.move rfl) ?_
  obtain ⟨r1, hc2, hm⟩ := bind_some hm
  refine TO.q rfl rfl rfl (StepQ.call kcallB_42_true rfl rfl (fun _ st => C42 e1 hc2 st)) ?_
  refine TO.s rfl rfl rfl (StepS.assign rfl) ?_
  refine TO.code ?_
  refine TC.k ?_
  refine TC.k ?_
  refine TC.region ?_
  refine TO.s rfl rfl rfl (StepS.move rfl) ?_
  refine TO.s rfl rfl rfl (StepS.cmp rfl rfl rfl) ?_
  refine TO.s rfl rfl rfl (StepS.move rfl) ?_
  obtain ⟨b4, hj5, hm⟩ := bind_some hm
  refine TO.mid1 3 14 (.bool b4) ?_ ?_
  · refine bcase ((r1 == 0)) (fun hb3 => ?_) (fun hb3 => ?_)
    · replace hj5 := cond_t hb3 hj5
      refine TO.sw rfl rfl rfl hb3 rfl rfl (StepS.move rfl) ?_
      obtain ⟨r6, hc7, hj5⟩ := bind_some hj5
      refine TO.qw rfl rfl rfl hb3 rfl rfl (StepQ.call kcallB_43_true rfl rfl (fun _ st => C43 e1 hc7 st)) ?_
      cases hj5
      refine TO.s rfl rfl rfl (StepS.pickT rfl hb3 rfl) ?_
      exact TO.up1 3 0 rfl rfl rfl rfl
    · replace hj5 := cond_f hb3 hj5
      cases hj5
      refine TO.skip rfl rfl rfl (skipF hb3) rfl rfl ?_
      refine TO.skip rfl rfl rfl (skipF hb3) rfl rfl ?_
      refine TO.s rfl rfl rfl (StepS.pickF rfl hb3 rfl) ?_
      exact TO.up1 3 0 rfl rfl rfl rfl
  refine TO.code ?_
  obtain ⟨x8, hj9, hm⟩ := bind_some hm
  refine TC.cutM (fun a w => Mid 16 B [(5, I x8)] (L) a w) ?_ ?_
  · refine TC.cond rfl (fun hc10 => ?_) (fun hc10 => ?_)
    · replace hj9 := cond_t hc10 hj9
      refine TC.region ?_
      refine TO.s rfl rfl rfl (StepS.assign rfl) ?_
      cases hj9
      refine TO.nil fun a w e s => ?_
      exact ⟨e.sub (lk_of_allIn ⟨rfl, trivial⟩), s⟩
    · replace hj9 := cond_f hc10 hj9
      cases hj9
      refine TC.skip fun a w e s => ?_
      exact ⟨e.sub (lk_of_allIn ⟨rfl, trivial⟩), s⟩
  · intro a w ⟨he, hs⟩
    refine TC.use ?_ he hs
    refine TC.k ?_
    refine TC.region ?_
    refine TO.s rfl rfl rfl (StepS.move rfl) ?_
    refine TO.s rfl rfl rfl (StepS.assign rfl) ?_
    refine TO.code ?_
    cases hm
    refine TC.ret fun a w e s => ?_
    refine FRet.mk1 (P := Try.prog) (fn := Try.f20) (t := 4) e rfl rfl ?_
    exact ⟨rfl, s.mono fun _ => Sat.dropN 0⟩

set_option maxRecDepth 100000 in
theorem C21 {B : World} {L : List HP} {a0 : Int} {a1 : List (Int × Int)} {h1 : Value} {r0 : BitVec 32} (e1 : Ent L (Rd 2 h1 (a1.map cTii))) (hm : F21 a0 a1 = some r0) {w : World} (st : St B L w) : Calls Try.prog 21 #[I a0, h1] w (fun e w' => (e = .returned (U r0) ∧ St B (L) w')) := by
  refine calls_of (N := 36) (L := L) (args := [I a0, h1]) Try.func21 rfl rfl rfl ?_ st
  dsimp only [F21] at hm
  refine TC.k ?_
  refine TC.region ?_
  refine TO.s rfl rfl rfl (StepS.assign rfl) ?_
  refine TO.code ?_
  refine TC.k ?_
  refine TC.region ?_
  refine TO.s rfl rfl rfl (StepS.assign rfl) ?_
  refine TO.code ?_
  refine TC.k ?_
  refine TC.k ?_
  refine TC.region ?_
  refine TO.s rfl rfl rfl (StepS.assign rfl) ?_
  refine TO.code ?_
  obtain ⟨o6, hw7, hm⟩ := bind_some hm
  refine TC.loop hw7 (fun (x1, x2) => fun a w => Mid 36 B [(0, I a0), (1, h1), (5, U x1), (6, I x2)] (L) a w) (fun x5 => fun a w => Mid 36 B [(5, U x5)] (L) a w) (fun (_ : Unit) _ _ => False) ?_ ?_ ?_ ?_
  · rintro ⟨x1, x2⟩ o6r hb8 a w ⟨he, hs⟩
    dsimp only [F21_L0] at hb8
    refine TC.use ?_ he hs
    refine TC.k ?_
    refine TC.k ?_
    refine TC.region ?_
    refine TO.s rfl rfl rfl (StepS.move rfl) ?_
    refine TO.s rfl rfl rfl (StepS.move rfl) ?_
    refine TO.s rfl rfl rfl (StepS.cmp rfl rfl rfl) ?_
    refine TO.code ?_
    refine TC.cond rfl (fun hc9 => ?_) (fun hc9 => ?_)
    · replace hb8 := cond_t hc9 hb8
      refine TC.skipk ?_
      refine TC.k ?_
      obtain ⟨x10, hj11, hb8⟩ := bind_some hb8
      refine TC.cutM (fun a w => Mid 36 B [(0, I a0), (1, h1), (5, U x10), (6, I x2)] (L) a w) ?_ ?_
      · refine TC.block ?_
        refine TC.k ?_
        refine TC.region ?_
        refine TO.s rfl rfl rfl (StepS.assign rfl) ?_
        refine TO.code ?_
        refine TC.k ?_
        refine TC.k ?_
        refine TC.region ?_
        refine TO.s rfl rfl rfl (StepS.move rfl) ?_
        refine TO.s rfl rfl rfl (StepS.lenm rfl e1 ksliceB_30_81_2_true rfl) ?_
        refine TO.s rfl rfl rfl (StepS.move rfl) ?_
        refine TO.code ?_
        obtain ⟨o17, hw18, hj11⟩ := bind_some hj11
        refine TC.loop hw18 (fun (b12, x13) => fun a w => Mid 36 B [(0, I a0), (1, h1), (5, U x1), (6, I x2), (7, .bool b12), (15, h1), (16, I (a1.length : Int)), (17, I x13)] (L) a w) (fun b16 => fun a w => Mid 36 B [(0, I a0), (1, h1), (5, U x1), (6, I x2), (7, .bool b16)] (L) a w) (fun (_ : Unit) _ _ => False) ?_ ?_ ?_ ?_
        · rintro ⟨b12, x13⟩ o17r hb19 a w ⟨he, hs⟩
          dsimp only [F21_L1] at hb19
          refine TC.use ?_ he hs
          refine TC.k ?_
          refine TC.region ?_
          refine TO.s rfl rfl rfl (StepS.cmp rfl rfl rfl) ?_
          refine TO.code ?_
          refine TC.k ?_
          refine TC.cond rfl (fun hc20 => ?_) (fun hc20 => ?_)
          · replace hb19 := cond_t hc20 hb19
            refine TC.skipk ?_
            refine TC.k ?_
            refine TC.block ?_
            refine TC.k ?_
            refine TC.region ?_
            obtain ⟨x21, hx22, hb19⟩ := bind_some hb19
            refine TO.s rfl rfl rfl (StepS.idx rfl rfl e1 ksliceB_30_81_2_true (idx_spec hx22).1 (idxm_lt hx22)) ?_
            refine TO.s rfl rfl rfl (StepS.ldE rfl e1 kaggB_81_2_true rfl (idxm hx22)) ?_
            refine TO.alloc kinfo_81_bind_zero_some_agg_I_0_I_0 rfl rfl fun b23 => ?_
            refine TO.stB (us := [I x21.1, I x21.2]) 0 [I x21.1, I x21.2] rfl rfl rfl ksizeB_81_2_true rfl rfl rfl (by simp [Value.oneCell']) rfl ?_
            refine TO.code ?_
            refine TC.region ?_
            refine TO.s rfl rfl rfl (StepS.move rfl) ?_
            refine TO.s rfl rfl rfl (StepS.move rfl) ?_
            refine TO.mid1 5 27 (.bool (b12 && (x21.1 != x2))) ?_ ?_
            · refine bcase (b12) (fun hb24 => ?_) (fun hb24 => ?_)
              · refine TO.sw rfl rfl rfl hb24 rfl rfl (StepS.aidx (j := 0) rfl rfl karrB_81_2_3_1_true ⟨by decide, by decide⟩ rfl) ?_
                refine TO.sw rfl rfl rfl hb24 rfl rfl (StepS.ldB rfl (Ent.at 0 rfl) kscalB_3_true rfl) ?_
                refine TO.sw rfl rfl rfl hb24 rfl rfl (StepS.move rfl) ?_
                refine TO.sw rfl rfl rfl hb24 rfl rfl (StepS.cmp rfl rfl rfl) ?_
                refine TO.s rfl rfl rfl (StepS.pickT rfl hb24 rfl) ?_
                exact TO.up1 5 0 rfl rfl (by rw [hb24]; rfl) rfl
              · refine TO.skip rfl rfl rfl (skipF hb24) rfl rfl ?_
                refine TO.skip rfl rfl rfl (skipF hb24) rfl rfl ?_
                refine TO.skip rfl rfl rfl (skipF hb24) rfl rfl ?_
                refine TO.skip rfl rfl rfl (skipF hb24) rfl rfl ?_
                refine TO.s rfl rfl rfl (StepS.pickF rfl hb24 rfl) ?_
                exact TO.up1 5 0 rfl rfl (by rw [hb24]; rfl) rfl
            refine TO.s rfl rfl rfl (StepS.assign rfl) ?_
            refine TO.code ?_
            refine TC.region ?_
            refine TO.s rfl rfl rfl (StepS.ari rfl rfl rfl) ?_
            refine TO.s rfl rfl rfl (StepS.move rfl) ?_
            cases hb19
            refine TO.nil fun a w e s => ?_
            exact ⟨e.sub (lk_of_allIn ⟨rfl, rfl, rfl, rfl, rfl, rfl, rfl, rfl, trivial⟩), s.mono fun _ => Sat.dropN 1⟩
          · replace hb19 := cond_f hc20 hb19
            cases hb19
            refine TC.exit rfl fun a w e s => ?_
            exact ⟨e.sub (lk_of_allIn ⟨rfl, rfl, rfl, rfl, rfl, trivial⟩), s⟩
        · exact fun a w e s => ⟨e.sub (lk_of_allIn ⟨rfl, rfl, rfl, rfl, rfl, rfl, rfl, rfl, trivial⟩), s⟩
        · rintro b16 rfl a w ⟨he, hs⟩
          dsimp only [Ctl.on] at hj11
          refine TC.use ?_ he hs
          refine TC.k ?_
          refine TC.region ?_
          refine TO.s rfl rfl rfl (StepS.move rfl) ?_
          refine TO.code ?_
          refine TC.cond rfl (fun hc25 => ?_) (fun hc25 => ?_)
          · replace hj11 := cond_t hc25 hj11
            refine TC.region ?_
            refine TO.s rfl rfl rfl (StepS.move rfl) ?_
            refine TO.s rfl rfl rfl (StepS.move rfl) ?_
            refine TO.s rfl rfl rfl (StepS.cvIV kintB_3_i64_true kintB_42_u64_true rfl) ?_
            refine TO.s rfl rfl rfl (StepS.shl (m := 1#32) rfl rfl (u64_nonneg _)) ?_
            refine TO.s rfl rfl rfl (StepS.bitU rfl rfl rfl) ?_
            refine TO.s rfl rfl rfl (StepS.assign rfl) ?_
            cases hj11
            refine TO.nil fun a w e s => ?_
            exact ⟨e.sub (lk_of_allIn ⟨rfl, rfl, rfl, rfl, trivial⟩), s⟩
          · replace hj11 := cond_f hc25 hj11
            cases hj11
            refine TC.skip fun a w e s => ?_
            exact ⟨e.sub (lk_of_allIn ⟨rfl, rfl, rfl, rfl, trivial⟩), s⟩
        · rintro r rfl
          exact fun a w h => h.elim
      · intro a w ⟨he, hs⟩
        refine TC.use ?_ he hs
        refine TC.region ?_
        refine TO.s rfl rfl rfl (StepS.move rfl) ?_
        refine TO.s rfl rfl rfl (StepS.ari rfl rfl rfl) ?_
        refine TO.s rfl rfl rfl (StepS.assign rfl) ?_
        cases hb8
        refine TO.nil fun a w e s => ?_
        exact ⟨e.sub (lk_of_allIn ⟨rfl, rfl, rfl, rfl, trivial⟩), s⟩
    · replace hb8 := cond_f hc9 hb8
      cases hb8
      refine TC.exit rfl fun a w e s => ?_
      exact ⟨e.sub (lk_of_allIn ⟨rfl, trivial⟩), s⟩
  · exact fun a w e s => ⟨e.sub (lk_of_allIn ⟨rfl, rfl, rfl, rfl, trivial⟩), s⟩
  · rintro x5 rfl a w ⟨he, hs⟩
    dsimp only [Ctl.on] at hm
    refine TC.use ?_ he hs
    refine TC.k ?_
    refine TC.region ?_
    refine TO.s rfl rfl rfl (StepS.move rfl) ?_
    refine TO.s rfl rfl rfl (StepS.assign rfl) ?_
    refine TO.code ?_
    cases hm
    refine TC.ret fun a w e s => ?_
    refine FRet.mk1 (P := Try.prog) (fn := Try.f21) (t := 4) e rfl rfl ?_
    exact ⟨rfl, s.mono fun _ => Sat.dropN 0⟩
  · rintro r rfl
    exact fun a w h => h.elim

set_option maxRecDepth 100000 in
theorem C5 {B : World} {L : List HP} {a0 : Int} {a1 : List (Int × Int)} {h1 : Value} {r0 : Bool} (e1 : Ent L (Rd 2 h1 (a1.map cTii))) (hm : F5 a0 a1 = some r0) {w : World} (st : St B L w) : Calls Try.prog 5 #[I a0, h1] w (fun e w' => (e = .returned (.bool r0) ∧ St B (L) w')) := by
  refine calls_of (N := 35) (L := L) (args := [I a0, h1]) Try.func5 rfl rfl rfl ?_ st
  dsimp only [F5] at hm
  refine TC.k ?_
  refine TC.region ?_
  refine TO.s rfl rfl rfl (StepS.assign rfl) ?_
  refine TO.code ?_
  refine TC.k ?_
  refine TC.region ?_
  refine TO.s rfl rfl rfl (StepS.move rfl) ?_
  refine TO.s rfl rfl rfl (StepS.move rfl) ?_
  obtain ⟨⟨r1, r2⟩, hc3, hm⟩ := bind_some hm
  refine TO.q rfl rfl rfl (StepQ.call kcallB_19_true rfl rfl (fun _ st => C19 e1 hc3 st)) ?_
  refine TO.s rfl rfl rfl (StepS.move rfl) ?_
  refine TO.s rfl rfl rfl (StepS.extract rfl rfl) ?_
  refine TO.s rfl rfl rfl (StepS.extract rfl rfl) ?_
  refine TO.s rfl rfl rfl (StepS.assign rfl) ?_
  refine TO.s rfl rfl rfl (StepS.assign rfl) ?_
  refine TO.code ?_
  refine TC.k ?_
  refine TC.region ?_
  refine TO.s rfl rfl rfl (StepS.move rfl) ?_
  refine TO.s rfl rfl rfl (StepS.move rfl) ?_
  obtain ⟨r4, hc5, hm⟩ := bind_some hm
  refine TO.q rfl rfl rfl (StepQ.call kcallB_20_true rfl rfl (fun _ st => C20 e1 hc5 st)) ?_
  refine TO.s rfl rfl rfl (StepS.assign rfl) ?_
  refine TO.code ?_
  refine TC.k ?_
  refine TC.k ?_
  refine TC.region ?_
  refine TO.s rfl rfl rfl (StepS.move rfl) ?_
  refine TO.s rfl rfl rfl (StepS.cmp rfl rfl rfl) ?_
  refine TO.code ?_
  refine TC.cond rfl (fun hc6 => ?_) (fun hc6 => ?_)
  · replace hm := cond_t hc6 hm
    refine TC.k ?_
    refine TC.region ?_
    refine TO.s rfl rfl rfl (StepS.move rfl) ?_
    refine TO.s rfl rfl rfl (StepS.move rfl) ?_
    refine TO.s rfl rfl rfl (StepS.cmp rfl rfl rfl) ?_
    refine TO.s rfl rfl rfl (StepS.move rfl) ?_
    refine TO.mid1 3 25 (.bool ((r2 == r4) && (r1 == (0#32)))) ?_ ?_
    · refine bcase ((r2 == r4)) (fun hb7 => ?_) (fun hb7 => ?_)
      · refine TO.sw rfl rfl rfl hb7 rfl rfl (StepS.move rfl) ?_
        refine TO.sw rfl rfl rfl hb7 rfl rfl (StepS.cmpU (n := 0#32) rfl rfl rfl) ?_
        refine TO.s rfl rfl rfl (StepS.pickT rfl hb7 rfl) ?_
        exact TO.up1 3 0 rfl rfl (by rw [hb7]; rfl) rfl
      · refine TO.skip rfl rfl rfl (skipF hb7) rfl rfl ?_
        refine TO.skip rfl rfl rfl (skipF hb7) rfl rfl ?_
        refine TO.s rfl rfl rfl (StepS.pickF rfl hb7 rfl) ?_
        exact TO.up1 3 0 rfl rfl (by rw [hb7]; rfl) rfl
    refine TO.s rfl rfl rfl (StepS.assign rfl) ?_
    refine TO.code ?_
    cases hm
    refine TC.ret fun a w e s => ?_
    refine FRet.mk1 (P := Try.prog) (fn := Try.f5) (t := 4) e rfl rfl ?_
    exact ⟨rfl, s.mono fun _ => Sat.dropN 0⟩
  · replace hm := cond_f hc6 hm
    refine TC.skipk ?_
    refine TC.k ?_
    refine TC.region ?_
    refine TO.s rfl rfl rfl (StepS.move rfl) ?_
    refine TO.s rfl rfl rfl (StepS.cmp rfl rfl rfl) ?_
    refine TO.s rfl rfl rfl (StepS.move rfl) ?_
    obtain ⟨b9, hj10, hm⟩ := bind_some hm
    refine TO.mid1 6 34 (.bool b9) ?_ ?_
    · refine bcase ((r2 == 0)) (fun hb8 => ?_) (fun hb8 => ?_)
      · replace hj10 := cond_t hb8 hj10
        refine TO.sw rfl rfl rfl hb8 rfl rfl (StepS.move rfl) ?_
        refine TO.sw rfl rfl rfl hb8 rfl rfl (StepS.move rfl) ?_
        refine TO.sw rfl rfl rfl hb8 rfl rfl (StepS.move rfl) ?_
        obtain ⟨r11, hc12, hj10⟩ := bind_some hj10
        refine TO.qw rfl rfl rfl hb8 rfl rfl (StepQ.call kcallB_21_true rfl rfl (fun _ st => C21 e1 hc12 st)) ?_
        refine TO.sw rfl rfl rfl hb8 rfl rfl (StepS.cmpU rfl rfl rfl) ?_
        cases hj10
        refine TO.s rfl rfl rfl (StepS.pickT rfl hb8 rfl) ?_
        exact TO.up1 6 0 rfl rfl rfl rfl
      · replace hj10 := cond_f hb8 hj10
        cases hj10
        refine TO.skip rfl rfl rfl (skipF hb8) rfl rfl ?_
        refine TO.skip rfl rfl rfl (skipF hb8) rfl rfl ?_
        refine TO.skip rfl rfl rfl (skipF hb8) rfl rfl ?_
        refine TO.skip rfl rfl rfl (skipF hb8) rfl rfl ?_
        refine TO.skip rfl rfl rfl (skipF hb8) rfl rfl ?_
        refine TO.s rfl rfl rfl (StepS.pickF rfl hb8 rfl) ?_
        exact TO.up1 6 0 rfl rfl rfl rfl
    refine TO.s rfl rfl rfl (StepS.assign rfl) ?_
    refine TO.code ?_
    cases hm
    refine TC.ret fun a w e s => ?_
    refine FRet.mk1 (P := Try.prog) (fn := Try.f5) (t := 4) e rfl rfl ?_
    exact ⟨rfl, s.mono fun _ => Sat.dropN 0⟩

set_option maxRecDepth 100000 in
theorem C91 {B : World} {L : List HP} {a0 : List Int} {a1 : Int} {h0 : Value} {r0 : Int} (e0 : Ent L (Rd 1 h0 (a0.map cI))) (hm : F91 a0 a1 = some r0) {w : World} (st : St B L w) : Calls Try.prog 91 #[h0, I a1] w (fun e w' => (e = .returned (I r0) ∧ St B (L) w')) := by
  refine calls_of (N := 19) (L := L) (args := [h0, I a1]) Try.func91 rfl rfl rfl ?_ st
  dsimp only [F91] at hm
  refine TC.k ?_
  refine TC.region ?_
  refine TO.s rfl rfl rfl (StepS.assign rfl) ?_
  refine TO.code ?_
  refine TC.k ?_
  refine TC.k ?_
  refine TC.region ?_
  refine TO.s rfl rfl rfl (StepS.move rfl) ?_
  refine TO.s rfl rfl rfl (StepS.lenm rfl e0 ksliceB_22_3_1_true rfl) ?_
  refine TO.s rfl rfl rfl (StepS.move rfl) ?_
  refine TO.code ?_
  obtain ⟨o3, hw4, hm⟩ := bind_some hm
  refine TC.loop hw4 (fun x1 => fun a w => Mid 19 B [(0, h0), (1, I a1), (7, I (a0.length : Int)), (8, I x1)] (L) a w) (fun _ => fun a w => Mid 19 B [] (L) a w) (fun r0 => FRet Try.prog Try.f91 (fun e w' => (e = .returned (I r0) ∧ St B (L) w'))) ?_ ?_ ?_ ?_
  · rintro x1 o3r hb5 a w ⟨he, hs⟩
    dsimp only [F91_L0] at hb5
    refine TC.use ?_ he hs
    refine TC.k ?_
    refine TC.region ?_
    refine TO.s rfl rfl rfl (StepS.cmp rfl rfl rfl) ?_
    refine TO.code ?_
    refine TC.k ?_
    refine TC.cond rfl (fun hc6 => ?_) (fun hc6 => ?_)
    · replace hb5 := cond_t hc6 hb5
      refine TC.skipk ?_
      refine TC.k ?_
      refine TC.block ?_
      refine TC.k ?_
      refine TC.region ?_
      refine TO.s rfl rfl rfl (StepS.move rfl) ?_
      refine TO.s rfl rfl rfl (StepS.assign rfl) ?_
      refine TO.code ?_
      refine TC.k ?_
      refine TC.region ?_
      refine TO.s rfl rfl rfl (StepS.move rfl) ?_
      refine TO.s rfl rfl rfl (StepS.move rfl) ?_
      refine TO.s rfl rfl rfl (StepS.move rfl) ?_
      obtain ⟨x7, hx8, hb5⟩ := bind_some hb5
      refine TO.s rfl rfl rfl (StepS.idx rfl rfl e0 ksliceB_22_3_1_true (idx_spec hx8).1 (idxm_lt hx8)) ?_
      refine TO.s rfl rfl rfl (StepS.ld0 rfl e0 kscalB_3_true rfl (idxm hx8) rfl) ?_
      refine TO.s rfl rfl rfl (StepS.cmp rfl rfl rfl) ?_
      refine TO.code ?_
      refine TC.cond rfl (fun hc9 => ?_) (fun hc9 => ?_)
      · replace hb5 := cond_t hc9 hb5
        refine TC.k ?_
        refine TC.region ?_
        refine TO.s rfl rfl rfl (StepS.move rfl) ?_
        refine TO.s rfl rfl rfl (StepS.assign rfl) ?_
        refine TO.code ?_
        cases hb5
        refine TC.ret fun a w e s => ?_
        refine FRet.mk1 (P := Try.prog) (fn := Try.f91) (t := 4) e rfl rfl ?_
        exact ⟨rfl, s.mono fun _ => Sat.dropN 0⟩
      · replace hb5 := cond_f hc9 hb5
        refine TC.skipk ?_
        refine TC.region ?_
        refine TO.s rfl rfl rfl (StepS.ari rfl rfl rfl) ?_
        refine TO.s rfl rfl rfl (StepS.move rfl) ?_
        cases hb5
        refine TO.nil fun a w e s => ?_
        exact ⟨e.sub (lk_of_allIn ⟨rfl, rfl, rfl, rfl, trivial⟩), s⟩
    · replace hb5 := cond_f hc6 hb5
      cases hb5
      refine TC.exit rfl fun a w e s => ?_
      exact ⟨e.sub (lk_of_allIn trivial), s⟩
  · exact fun a w e s => ⟨e.sub (lk_of_allIn ⟨rfl, rfl, rfl, rfl, trivial⟩), s⟩
  · rintro _ rfl a w ⟨he, hs⟩
    dsimp only [Ctl.on] at hm
    refine TC.use ?_ he hs
    refine TC.k ?_
    refine TC.region ?_
    refine TO.s rfl rfl rfl (StepS.assign rfl) ?_
    refine TO.code ?_
    cases hm
    refine TC.ret fun a w e s => ?_
    refine FRet.mk1 (P := Try.prog) (fn := Try.f91) (t := 4) e rfl rfl ?_
    exact ⟨rfl, s.mono fun _ => Sat.dropN 0⟩
  · rintro r rfl
    cases hm
    exact fun a w h => h

set_option maxRecDepth 100000 in
theorem C80 {B : World} {L : List HP} {a0 : List Int} {a1 : Int} {h0 : Value} {r0 : Bool} (e0 : Ent L (Rd 1 h0 (a0.map cI))) (hm : F80 a0 a1 = some r0) {w : World} (st : St B L w) : Calls Try.prog 80 #[h0, I a1] w (fun e w' => (e = .returned (.bool r0) ∧ St B (L) w')) := by
  refine calls_of (N := 9) (L := L) (args := [h0, I a1]) Try.func80 rfl rfl rfl ?_ st
  dsimp only [F80] at hm
  refine TC.k ?_
  refine TC.region ?_
  refine TO.s rfl rfl rfl (StepS.assign rfl) ?_
  refine TO.code ?_
  refine TC.k ?_
  refine TC.region ?_
  refine TO.s rfl rfl rfl (StepS.move rfl) ?_
  refine TO.s rfl rfl rfl (StepS.move rfl) ?_
  obtain ⟨r1, hc2, hm⟩ := bind_some hm
  refine TO.q rfl rfl rfl (StepQ.call kcallB_91_true rfl rfl (fun _ st => C91 e0 hc2 st)) ?_
  refine TO.s rfl rfl rfl (StepS.cmp rfl rfl rfl) ?_
  refine TO.s rfl rfl rfl (StepS.assign rfl) ?_
  refine TO.code ?_
  cases hm
  refine TC.ret fun a w e s => ?_
  refine FRet.mk1 (P := Try.prog) (fn := Try.f80) (t := 4) e rfl rfl ?_
  exact ⟨rfl, s.mono fun _ => Sat.dropN 0⟩

set_option maxRecDepth 100000 in
theorem C55 {B : World} {L : List HP} {a0 : List Int} {h0 : Value} {r0 : Int} (e0 : Ent L (Rd 1 h0 (a0.map cI))) (hm : F55 a0 = some r0) {w : World} (st : St B L w) : Calls Try.prog 55 #[h0] w (fun e w' => (e = .returned (I r0) ∧ St B (L) w')) := by
  refine calls_of (N := 26) (L := L) (args := [h0]) Try.func55 rfl rfl rfl ?_ st
  dsimp only [F55] at hm
  refine TC.k ?_
  refine TC.region ?_
  refine TO.s rfl rfl rfl (StepS.assign rfl) ?_
  refine TO.code ?_
  refine TC.k ?_
  refine TC.k ?_
  refine TC.region ?_
  refine TO.s rfl rfl rfl (StepS.move rfl) ?_
  refine TO.s rfl rfl rfl (StepS.lenm rfl e0 ksliceB_22_3_1_true rfl) ?_
  refine TO.s rfl rfl rfl (StepS.cmp rfl rfl rfl) ?_
  refine TO.s rfl rfl rfl (StepS.move rfl) ?_
  refine TO.mid1 4 12 (.bool ((decide ((a0.length : Int) < 1)) || (decide ((a0.length : Int) > 12)))) ?_ ?_
  · refine bcase ((decide ((a0.length : Int) < 1))) (fun hb1 => ?_) (fun hb1 => ?_)
    · refine TO.skip rfl rfl rfl (skipT hb1) rfl rfl ?_
      refine TO.skip rfl rfl rfl (skipT hb1) rfl rfl ?_
      refine TO.skip rfl rfl rfl (skipT hb1) rfl rfl ?_
      refine TO.s rfl rfl rfl (StepS.pickT rfl hb1 rfl) ?_
      exact TO.up1 4 0 rfl rfl (by rw [hb1]; rfl) rfl
    · refine TO.sw rfl rfl rfl hb1 rfl rfl (StepS.move rfl) ?_
      refine TO.sw rfl rfl rfl hb1 rfl rfl (StepS.lenm rfl e0 ksliceB_22_3_1_true rfl) ?_
      refine TO.sw rfl rfl rfl hb1 rfl rfl (StepS.cmp rfl rfl rfl) ?_
      refine TO.s rfl rfl rfl (StepS.pickF rfl hb1 rfl) ?_
      exact TO.up1 4 0 rfl rfl (by rw [hb1]; rfl) rfl
  refine TO.code ?_
  refine TC.cond rfl (fun hc2 => ?_) (fun hc2 => ?_)
  · replace hm := cond_t hc2 hm
    refine TC.k ?_
    refine TC.region ?_
    refine TO.s rfl rfl rfl (StepS.assign rfl) ?_
    refine TO.code ?_
    cases hm
    refine TC.ret fun a w e s => ?_
    refine FRet.mk1 (P := Try.prog) (fn := Try.f55) (t := 2) e rfl rfl ?_
    exact ⟨rfl, s.mono fun _ => Sat.dropN 0⟩
  · replace hm := cond_f hc2 hm
    refine TC.skipk ?_
    refine TC.k ?_
    refine TC.k ?_
    refine TC.region ?_
    refine TO.s rfl rfl rfl (StepS.move rfl) ?_
    refine TO.s rfl rfl rfl (StepS.lenm rfl e0 ksliceB_22_3_1_true rfl) ?_
    refine TO.s rfl rfl rfl (StepS.move rfl) ?_
    refine TO.code ?_
    obtain ⟨o5, hw6, hm⟩ := bind_some hm
    refine TC.loop hw6 (fun x3 => fun a w => Mid 26 B [(0, h0), (13, h0), (14, I (a0.length : Int)), (15, I x3)] (L) a w) (fun _ => fun a w => Mid 26 B [] (L) a w) (fun r0 => FRet Try.prog Try.f55 (fun e w' => (e = .returned (I r0) ∧ St B (L) w'))) ?_ ?_ ?_ ?_
    · rintro x3 o5r hb7 a w ⟨he, hs⟩
      dsimp only [F55_L0] at hb7
      refine TC.use ?_ he hs
      refine TC.k ?_
      refine TC.region ?_
      refine TO.s rfl rfl rfl (StepS.cmp rfl rfl rfl) ?_
      refine TO.code ?_
      refine TC.k ?_
      refine TC.cond rfl (fun hc8 => ?_) (fun hc8 => ?_)
      · replace hb7 := cond_t hc8 hb7
        refine TC.skipk ?_
        refine TC.k ?_
        refine TC.block ?_
        refine TC.k ?_
        refine TC.region ?_
        refine TO.s rfl rfl rfl (StepS.move rfl) ?_
        obtain ⟨x9, hx10, hb7⟩ := bind_some hb7
        refine TO.s rfl rfl rfl (StepS.idx rfl rfl e0 ksliceB_22_3_1_true (idx_spec hx10).1 (idxm_lt hx10)) ?_
        refine TO.s rfl rfl rfl (StepS.ld0 rfl e0 kscalB_3_true rfl (idxm hx10) rfl) ?_
        refine TO.s rfl rfl rfl (StepS.assign rfl) ?_
        refine TO.s rfl rfl rfl (StepS.assign rfl) ?_
        refine TO.code ?_
        refine TC.k ?_
        refine TC.region ?_
        refine TO.s rfl rfl rfl (StepS.move rfl) ?_
        refine TO.s rfl rfl rfl (StepS.move rfl) ?_
        obtain ⟨y11, hs12, hb7⟩ := bind_some hb7
        obtain ⟨hs12a, hs12b, hs12c, _⟩ := slI_spec hs12
        refine TO.s rfl rfl rfl (StepS.slc rfl e0 ksliceB_22_3_1_true rfl rfl hs12a hs12b (by simpa using hs12c)) ?_
        refine TO.s rfl rfl rfl (StepS.move rfl) ?_
        obtain ⟨r14, hc15, hb7⟩ := bind_some hb7
        refine TO.q rfl rfl rfl (StepQ.call kcallB_80_true rfl rfl (fun _ st => C80 (Ent.sub e0 hs12) hc15 st)) ?_
        refine TO.code ?_
        refine TC.cond rfl (fun hc16 => ?_) (fun hc16 => ?_)
        · replace hb7 := cond_t hc16 hb7
          refine TC.k ?_
          refine TC.region ?_
          refine TO.s rfl rfl rfl (StepS.assign rfl) ?_
          refine TO.code ?_
          cases hb7
          refine TC.ret fun a w e s => ?_
          refine FRet.mk1 (P := Try.prog) (fn := Try.f55) (t := 2) e rfl rfl ?_
          exact ⟨rfl, s.mono fun _ => Sat.dropN 0⟩
        · replace hb7 := cond_f hc16 hb7
          refine TC.skipk ?_
          refine TC.region ?_
          refine TO.s rfl rfl rfl (StepS.ari rfl rfl rfl) ?_
          refine TO.s rfl rfl rfl (StepS.move rfl) ?_
          cases hb7
          refine TO.nil fun a w e s => ?_
          exact ⟨e.sub (lk_of_allIn ⟨rfl, rfl, rfl, rfl, trivial⟩), s⟩
      · replace hb7 := cond_f hc8 hb7
        cases hb7
        refine TC.exit rfl fun a w e s => ?_
        exact ⟨e.sub (lk_of_allIn trivial), s⟩
    · exact fun a w e s => ⟨e.sub (lk_of_allIn ⟨rfl, rfl, rfl, rfl, trivial⟩), s⟩
    · rintro _ rfl a w ⟨he, hs⟩
      dsimp only [Ctl.on] at hm
      refine TC.use ?_ he hs
      refine TC.k ?_
      refine TC.region ?_
      refine TO.s rfl rfl rfl (StepS.assign rfl) ?_
      refine TO.code ?_
      cases hm
      refine TC.ret fun a w e s => ?_
      refine FRet.mk1 (P := Try.prog) (fn := Try.f55) (t := 2) e rfl rfl ?_
      exact ⟨rfl, s.mono fun _ => Sat.dropN 0⟩
    · rintro r rfl
      cases hm
      exact fun a w h => h

set_option maxRecDepth 100000 in
theorem C56 {B : World} {L : List HP} {a0 : List Int} {h0 : Value} {r0 : Int} (e0 : Ent L (Rd 1 h0 (a0.map cI))) (hm : F56 a0 = some r0) {w : World} (st : St B L w) : Calls Try.prog 56 #[h0] w (fun e w' => (e = .returned (I r0) ∧ St B (L) w')) := by
  refine calls_of (N := 25) (L := L) (args := [h0]) Try.func56 rfl rfl rfl ?_ st
  dsimp only [F56] at hm
  refine TC.k ?_
  refine TC.region ?_
  refine TO.s rfl rfl rfl (StepS.assign rfl) ?_
  refine TO.code ?_
  refine TC.k ?_
  refine TC.k ?_
  refine TC.region ?_
  refine TO.s rfl rfl rfl (StepS.move rfl) ?_
  refine TO.s rfl rfl rfl (StepS.lenm rfl e0 ksliceB_22_3_1_true rfl) ?_
  refine TO.s rfl rfl rfl (StepS.cmp rfl rfl rfl) ?_
  refine TO.code ?_
  refine TC.cond rfl (fun hc1 => ?_) (fun hc1 => ?_)
  · replace hm := cond_t hc1 hm
    refine TC.region ?_
    cases hm
  · replace hm := cond_f hc1 hm
    refine TC.skipk ?_
    refine TC.k ?_
    refine TC.region ?_
    refine TO.s rfl rfl rfl (StepS.move rfl) ?_
    obtain ⟨x2, hx3, hm⟩ := bind_some hm
    refine TO.s rfl rfl rfl (StepS.idx rfl rfl e0 ksliceB_22_3_1_true (idx_spec hx3).1 (idxm_lt hx3)) ?_
    refine TO.s rfl rfl rfl (StepS.ld0 rfl e0 kscalB_3_true rfl (idxm hx3) rfl) ?_
    refine TO.s rfl rfl rfl (StepS.assign rfl) ?_
    refine TO.code ?_
    refine TC.k ?_
    refine TC.k ?_
    refine TC.region ?_
    refine TO.s rfl rfl rfl (StepS.assign rfl) ?_
    refine TO.code ?_
    obtain ⟨o9, hw10, hm⟩ := bind_some hm
    refine TC.loop hw10 (fun (x4, x5) => fun a w => Mid 25 B [(0, h0), (3, I x4), (4, I x5)] (L) a w) (fun x8 => fun a w => Mid 25 B [(3, I x8)] (L) a w) (fun (_ : Unit) _ _ => False) ?_ ?_ ?_ ?_
    · rintro ⟨x4, x5⟩ o9r hb11 a w ⟨he, hs⟩
      dsimp only [F56_L0] at hb11
      refine TC.use ?_ he hs
      refine TC.k ?_
      refine TC.k ?_
      refine TC.region ?_
      refine TO.s rfl rfl rfl (StepS.move rfl) ?_
      refine TO.s rfl rfl rfl (StepS.move rfl) ?_
      refine TO.s rfl rfl rfl (StepS.lenm rfl e0 ksliceB_22_3_1_true rfl) ?_
      refine TO.s rfl rfl rfl (StepS.cmp rfl rfl rfl) ?_
      refine TO.code ?_
      refine TC.cond rfl (fun hc12 => ?_) (fun hc12 => ?_)
      · replace hb11 := cond_t hc12 hb11
        refine TC.skipk ?_
        refine TC.k ?_
        refine TC.block ?_
        refine TC.region ?_
        refine TO.s rfl rfl rfl (StepS.move rfl) ?_
        refine TO.s rfl rfl rfl (StepS.move rfl) ?_
        refine TO.s rfl rfl rfl (StepS.move rfl) ?_
        obtain ⟨x13, hx14, hb11⟩ := bind_some hb11
        refine TO.s rfl rfl rfl (StepS.idx rfl rfl e0 ksliceB_22_3_1_true (idx_spec hx14).1 (idxm_lt hx14)) ?_
        refine TO.s rfl rfl rfl (StepS.ld0 rfl e0 kscalB_3_true rfl (idxm hx14) rfl) ?_
        refine TO.s rfl rfl rfl (StepS.max2 rfl rfl) ?_
        refine TO.s rfl rfl rfl (StepS.assign rfl) ?_
        refine TO.code ?_
        refine TC.region ?_
        refine TO.s rfl rfl rfl (StepS.move rfl) ?_
        refine TO.s rfl rfl rfl (StepS.ari rfl rfl rfl) ?_
        refine TO.s rfl rfl rfl (StepS.assign rfl) ?_
        cases hb11
        refine TO.nil fun a w e s => ?_
        exact ⟨e.sub (lk_of_allIn ⟨rfl, rfl, rfl, trivial⟩), s⟩
      · replace hb11 := cond_f hc12 hb11
        cases hb11
        refine TC.exit rfl fun a w e s => ?_
        exact ⟨e.sub (lk_of_allIn ⟨rfl, trivial⟩), s⟩
    · exact fun a w e s => ⟨e.sub (lk_of_allIn ⟨rfl, rfl, rfl, trivial⟩), s⟩
    · rintro x8 rfl a w ⟨he, hs⟩
      dsimp only [Ctl.on] at hm
      refine TC.use ?_ he hs
      refine TC.k ?_
      refine TC.region ?_
      refine TO.s rfl rfl rfl (StepS.move rfl) ?_
      refine TO.s rfl rfl rfl (StepS.assign rfl) ?_
      refine TO.code ?_
      cases hm
      refine TC.ret fun a w e s => ?_
      refine FRet.mk1 (P := Try.prog) (fn := Try.f56) (t := 2) e rfl rfl ?_
      exact ⟨rfl, s.mono fun _ => Sat.dropN 0⟩
    · rintro r rfl
      exact fun a w h => h.elim

set_option maxRecDepth 100000 in
theorem C57 {B : World} {L : List HP} {a0 : List Int} {h0 : Value} {r0 : List Int} (e0 : Ent L (Rd 1 h0 (a0.map cI))) (hm : F57 a0 = some r0) {w : World} (st : St B L w) : Calls Try.prog 57 #[h0] w (fun e w' => ∃ v M, e = .returned v ∧ (∃ (qv1 : Value), v = qv1 ∧ M = (OwnS 3 1 qv1 (r0.map cI) :: L)) ∧ St B M w') := by
  refine calls_of (N := 52) (L := L) (args := [h0]) Try.func57 rfl rfl rfl ?_ st
  dsimp only [F57] at hm
  refine TC.k ?_
  refine TC.region ?_
  refine TO.s rfl rfl rfl (StepS.assign rfl) ?_
  refine TO.code ?_
  refine TC.k ?_
  refine TC.region ?_
  refine TO.s rfl rfl rfl (StepS.move rfl) ?_
  refine TO.s rfl rfl rfl (StepS.lenm rfl e0 ksliceB_22_3_1_true rfl) ?_
  refine TO.s rfl rfl rfl (StepS.assign rfl) ?_
  refine TO.code ?_
  refine TC.k ?_
  refine TC.region ?_
  refine TO.s rfl rfl rfl (StepS.assign rfl) ?_
  refine TO.code ?_
  refine TC.k ?_
  refine TC.k ?_
  refine TC.region ?_
  refine TO.s rfl rfl rfl (StepS.move rfl) ?_
  refine TO.s rfl rfl rfl (StepS.lenm rfl e0 ksliceB_22_3_1_true rfl) ?_
  refine TO.s rfl rfl rfl (StepS.move rfl) ?_
  refine TO.code ?_
  obtain ⟨o13, hw14, hm⟩ := bind_some hm
  refine TC.loop hw14 (fun (y4, x5) => fun a w => ∃ v2 : Value, Mid 52 B [(0, h0), (3, I (a0.length : Int)), (4, v2), (12, I (a0.length : Int)), (13, I x5)] (OwnS 3 1 v2 (y4.map cI) :: L) a w) (fun y12 => fun a w => ∃ v10 : Value, Mid 52 B [(4, v10)] (OwnS 3 1 v10 (y12.map cI) :: L) a w) (fun (_ : Unit) _ _ => False) ?_ ?_ ?_ ?_
  · rintro ⟨y4, x5⟩ o13r hb15 a w ⟨v2, he, hs⟩
    dsimp only [F57_L0] at hb15
    refine TC.use ?_ he hs
    refine TC.k ?_
    refine TC.region ?_
    refine TO.s rfl rfl rfl (StepS.cmp rfl rfl rfl) ?_
    refine TO.code ?_
    refine TC.k ?_
    refine TC.cond rfl (fun hc16 => ?_) (fun hc16 => ?_)
    · replace hb15 := cond_t hc16 hb15
      refine TC.skipk ?_
      refine TC.k ?_
      obtain ⟨y17, hj19, hb15⟩ := bind_some hb15
      refine TC.cutM (fun a w => ∃ v18 : Value, Mid 52 B [(0, h0), (3, I (a0.length : Int)), (4, v18), (12, I (a0.length : Int)), (13, I x5)] (OwnS 3 1 v18 (y17.map cI) :: L) a w) ?_ ?_
      · refine TC.block ?_
        refine TC.k ?_
        refine TC.region ?_
        refine TO.s rfl rfl rfl (StepS.move rfl) ?_
        refine TO.s rfl rfl rfl (StepS.assign rfl) ?_
        refine TO.code ?_
        refine TC.k ?_
        refine TC.region_still kfollows_mixedOrders_true (by kernel_rfl) ?_
        refine TS.s rfl rfl rfl (StepS.move rfl) ?_
        refine TS.s rfl rfl rfl (StepS.move rfl) ?_
        refine TS.s rfl rfl rfl (StepS.move rfl) ?_
        refine TS.s rfl rfl rfl (StepS.ari rfl rfl rfl) ?_
        refine TS.s rfl rfl rfl (StepS.ari rfl rfl rfl) ?_
        refine TS.s rfl rfl rfl (StepS.move rfl) ?_
        obtain ⟨u21, hd20, hj19⟩ := bind_some hj19
        refine TS.s rfl rfl rfl (StepS.rem rfl rfl (nz_spec hd20)) ?_
        obtain ⟨x22, hx23, hj19⟩ := bind_some hj19
        refine TS.s rfl rfl rfl (StepS.idx rfl rfl e0.tl ksliceB_22_3_1_true (idx_spec hx23).1 (idxm_lt hx23)) ?_
        refine TS.s rfl rfl rfl (StepS.ld0 rfl e0.tl kscalB_3_true rfl (idxm hx23) rfl) ?_
        refine TS.s rfl rfl rfl (StepS.move rfl) ?_
        refine TS.s rfl rfl rfl (StepS.move rfl) ?_
        refine TS.s rfl rfl rfl (StepS.move rfl) ?_
        refine TS.s rfl rfl rfl (StepS.ari rfl rfl rfl) ?_
        refine TS.s rfl rfl rfl (StepS.ari rfl rfl rfl) ?_
        refine TS.s rfl rfl rfl (StepS.move rfl) ?_
        obtain ⟨u25, hd24, hj19⟩ := bind_some hj19
        refine TS.s rfl rfl rfl (StepS.rem rfl rfl (nz_spec hd24)) ?_
        obtain ⟨x26, hx27, hj19⟩ := bind_some hj19
        refine TS.s rfl rfl rfl (StepS.idx rfl rfl e0.tl ksliceB_22_3_1_true (idx_spec hx27).1 (idxm_lt hx27)) ?_
        refine TS.s rfl rfl rfl (StepS.ld0 rfl e0.tl kscalB_3_true rfl (idxm hx27) rfl) ?_
        refine TS.s rfl rfl rfl (StepS.move rfl) ?_
        refine TS.s rfl rfl rfl (StepS.move rfl) ?_
        obtain ⟨x28, hx29, hj19⟩ := bind_some hj19
        refine TS.s rfl rfl rfl (StepS.idx rfl rfl e0.tl ksliceB_22_3_1_true (idx_spec hx29).1 (idxm_lt hx29)) ?_
        refine TS.s rfl rfl rfl (StepS.ld0 rfl e0.tl kscalB_3_true rfl (idxm hx29) rfl) ?_
        refine TS.s rfl rfl rfl (StepS.assign rfl) ?_
        refine TS.s rfl rfl rfl (StepS.assign rfl) ?_
        refine TS.s rfl rfl rfl (StepS.assign rfl) ?_
        refine TS.code ?_
        refine TC.k ?_
        refine TC.region ?_
        refine TO.s rfl rfl rfl (StepS.move rfl) ?_
        refine TO.s rfl rfl rfl (StepS.move rfl) ?_
        refine TO.s rfl rfl rfl (StepS.cmp rfl rfl rfl) ?_
        refine TO.s rfl rfl rfl (StepS.move rfl) ?_
        refine TO.mid1 4 45 (.bool ((decide (x26 > x22)) && (decide (x26 > x28)))) ?_ ?_
        · refine bcase ((decide (x26 > x22))) (fun hb30 => ?_) (fun hb30 => ?_)
          · refine TO.sw rfl rfl rfl hb30 rfl rfl (StepS.move rfl) ?_
            refine TO.sw rfl rfl rfl hb30 rfl rfl (StepS.move rfl) ?_
            refine TO.sw rfl rfl rfl hb30 rfl rfl (StepS.cmp rfl rfl rfl) ?_
            refine TO.s rfl rfl rfl (StepS.pickT rfl hb30 rfl) ?_
            exact TO.up1 4 0 rfl rfl (by rw [hb30]; rfl) rfl
          · refine TO.skip rfl rfl rfl (skipF hb30) rfl rfl ?_
            refine TO.skip rfl rfl rfl (skipF hb30) rfl rfl ?_
            refine TO.skip rfl rfl rfl (skipF hb30) rfl rfl ?_
            refine TO.s rfl rfl rfl (StepS.pickF rfl hb30 rfl) ?_
            exact TO.up1 4 0 rfl rfl (by rw [hb30]; rfl) rfl
        refine TO.code ?_
        refine TC.cond rfl (fun hc31 => ?_) (fun hc31 => ?_)
        · replace hj19 := cond_t hc31 hj19
          refine TC.region ?_
          refine TO.s rfl rfl rfl (StepS.move rfl) ?_
          refine TO.s rfl rfl rfl (StepS.move rfl) ?_
          refine TO.litS (f := cI) ([x26] : List Int) kelemB_22_3_1_8_true kinfo_3_bind_zero_some_I_0 rfl rfl (fun _ => rfl) rfl rfl (by kernel_rfl) rfl fun v32 => ?_
          obtain ⟨y34, hk35, hj19⟩ := bind_some hj19
          refine TO.app (k := 1) (f := cI) kelemB_22_3_1_8_true (by decide) rfl rfl rfl (OwnS.rd (Ent.at 0 rfl)) hk35 (fun x c hc => by simp [Value.oneCell'] at hc ⊢; first | (obtain rfl := hc; rfl) | (rcases hc with rfl <;> rfl)) rfl rfl fun v36 => ?_
          refine TO.s rfl rfl rfl (StepS.assign rfl) ?_
          cases hj19
          refine TO.nil fun a w e s => ?_
          exact ⟨v36, e.sub (lk_of_allIn ⟨rfl, rfl, rfl, rfl, rfl, trivial⟩), s.mono fun _ => Sat.dropN 1⟩
        · replace hj19 := cond_f hc31 hj19
          cases hj19
          refine TC.skip fun a w e s => ?_
          exact ⟨v2, e.sub (lk_of_allIn ⟨rfl, rfl, rfl, rfl, rfl, trivial⟩), s⟩
      · intro a w ⟨v18, he, hs⟩
        refine TC.use ?_ he hs
        refine TC.region ?_
        refine TO.s rfl rfl rfl (StepS.ari rfl rfl rfl) ?_
        refine TO.s rfl rfl rfl (StepS.move rfl) ?_
        cases hb15
        refine TO.nil fun a w e s => ?_
        exact ⟨v18, e.sub (lk_of_allIn ⟨rfl, rfl, rfl, rfl, rfl, trivial⟩), s⟩
    · replace hb15 := cond_f hc16 hb15
      cases hb15
      refine TC.exit rfl fun a w e s => ?_
      exact ⟨v2, e.sub (lk_of_allIn ⟨rfl, trivial⟩), s⟩
  · exact fun a w e s => ⟨.slice none 0 0, e.sub (lk_of_allIn ⟨rfl, rfl, rfl, rfl, rfl, trivial⟩), s.mono fun _ s => (by replace s := Sat.nilS (e := 3) (sz := 1) (f := cI) s; exact s)⟩
  · rintro y12 rfl a w ⟨v10, he, hs⟩
    dsimp only [Ctl.on] at hm
    refine TC.use ?_ he hs
    refine TC.k ?_
    refine TC.region ?_
    refine TO.s rfl rfl rfl (StepS.move rfl) ?_
    refine TO.s rfl rfl rfl (StepS.assign rfl) ?_
    refine TO.code ?_
    cases hm
    refine TC.ret fun a w e s => ?_
    refine FRet.mk1 (P := Try.prog) (fn := Try.f57) (t := 2) e rfl rfl ?_
    refine ⟨_, _, rfl, ⟨(v10), rfl, rfl⟩, ?_⟩
    refine s.mono fun _ s => ?_
    replace s := Sat.front 0 rfl s
    exact s
  · rintro r rfl
    exact fun a w h => h.elim

set_option maxRecDepth 100000 in
theorem C30 {B : World} {L : List HP} {a0 : List Int} {h0 : Value} {r0 : List Int} {r1 : Int} (e0 : Ent L (Rd 1 h0 (a0.map cI))) (hm : F30 a0 = some (r0, r1)) {w : World} (st : St B L w) : Calls Try.prog 30 #[h0] w (fun e w' => ∃ v M, e = .returned v ∧ (∃ (qv1 : Value), v = .tuple #[qv1, I r1] ∧ M = (OwnS 3 1 qv1 (r0.map cI) :: L)) ∧ St B M w') := by
  refine calls_of (N := 18) (L := L) (args := [h0]) Try.func30 rfl rfl rfl ?_ st
  dsimp only [F30] at hm
  refine TC.k ?_
  refine TC.region ?_
  refine TO.s rfl rfl rfl (StepS.assign rfl) ?_
  refine TO.s rfl rfl rfl (StepS.assign rfl) ?_
  refine TO.code ?_
  refine TC.k ?_
  refine TC.k ?_
  refine TC.region ?_
  refine TO.s rfl rfl rfl (StepS.move rfl) ?_
  obtain ⟨r2, hc3, hm⟩ := bind_some hm
  refine TO.q rfl rfl rfl (StepQ.call kcallB_55_true rfl rfl (fun _ st => C55 e0 hc3 st)) ?_
  refine TO.s rfl rfl rfl (StepS.assign rfl) ?_
  refine TO.code ?_
  refine TC.k ?_
  refine TC.region ?_
  refine TO.s rfl rfl rfl (StepS.move rfl) ?_
  refine TO.s rfl rfl rfl (StepS.cmp rfl rfl rfl) ?_
  refine TO.code ?_
  refine TC.cond rfl (fun hc4 => ?_) (fun hc4 => ?_)
  · replace hm := cond_t hc4 hm
    refine TC.k ?_
    refine TC.region ?_
    refine TO.s rfl rfl rfl (StepS.move rfl) ?_
    refine TO.s rfl rfl rfl (StepS.assign rfl) ?_
    refine TO.s rfl rfl rfl (StepS.assign rfl) ?_
    refine TO.code ?_
    cases hm
    refine TC.ret fun a w e s => ?_
    refine FRet.mk2 (P := Try.prog) (fn := Try.f30) (t := 2) (u := 3) e rfl rfl rfl ?_
    refine ⟨_, _, rfl, ⟨(.slice none 0 0), rfl, rfl⟩, ?_⟩
    refine s.mono fun _ s => ?_
    replace s := Sat.nilS (e := 3) (sz := 1) (f := cI) s
    exact s
  · replace hm := cond_f hc4 hm
    refine TC.skipk ?_
    refine TC.k ?_
    refine TC.k ?_
    refine TC.region ?_
    refine TO.s rfl rfl rfl (StepS.move rfl) ?_
    refine TO.s rfl rfl rfl (StepS.lenm rfl e0 ksliceB_22_3_1_true rfl) ?_
    refine TO.s rfl rfl rfl (StepS.cmp rfl rfl rfl) ?_
    refine TO.code ?_
    refine TC.cond rfl (fun hc5 => ?_) (fun hc5 => ?_)
    · replace hm := cond_t hc5 hm
      refine TC.k ?_
      refine TC.region ?_
      refine TO.s rfl rfl rfl (StepS.move rfl) ?_
      obtain ⟨r6, hc7, hm⟩ := bind_some hm
      refine TO.q rfl rfl rfl (StepQ.call kcallB_56_true rfl rfl (fun _ st => C56 e0 hc7 st)) ?_
      refine TO.litS (f := cI) ([r6] : List Int) kelemB_22_3_1_8_true kinfo_3_bind_zero_some_I_0 rfl rfl (fun _ => rfl) rfl rfl (by kernel_rfl) rfl fun v8 => ?_
      refine TO.s rfl rfl rfl (StepS.assign rfl) ?_
      refine TO.s rfl rfl rfl (StepS.assign rfl) ?_
      refine TO.code ?_
      cases hm
      refine TC.ret fun a w e s => ?_
      refine FRet.mk2 (P := Try.prog) (fn := Try.f30) (t := 2) (u := 3) e rfl rfl rfl ?_
      refine ⟨_, _, rfl, ⟨(v8), rfl, rfl⟩, ?_⟩
      refine s.mono fun _ s => ?_
      replace s := Sat.front 0 rfl s
      exact s
    · replace hm := cond_f hc5 hm
      refine TC.skipk ?_
      refine TC.k ?_
      refine TC.region ?_
      refine TO.s rfl rfl rfl (StepS.move rfl) ?_
      obtain ⟨r10, hc11, hm⟩ := bind_some hm
      refine TO.callO kcallB_57_true rfl rfl rfl (fun _ st => C57 e0 hc11 st) ?_
      rintro v12 _ ⟨_, rfl, rfl⟩
      refine TO.s rfl rfl rfl (StepS.assign rfl) ?_
      refine TO.s rfl rfl rfl (StepS.assign rfl) ?_
      refine TO.code ?_
      cases hm
      refine TC.ret fun a w e s => ?_
      refine FRet.mk2 (P := Try.prog) (fn := Try.f30) (t := 2) (u := 3) e rfl rfl rfl ?_
      refine ⟨_, _, rfl, ⟨(v12), rfl, rfl⟩, ?_⟩
      refine s.mono fun _ s => ?_
      replace s := Sat.front 0 rfl s
      exact s

set_option maxRecDepth 100000 in
theorem C31 {B : World} {L : List HP} {a0 : List Int} {h0 : Value} {r0 : Int} (e0 : Ent L (Rd 1 h0 (a0.map cI))) (hm : F31 a0 = some r0) {w : World} (st : St B L w) : Calls Try.prog 31 #[h0] w (fun e w' => (e = .returned (I r0) ∧ St B (L) w')) := by
  refine calls_of (N := 33) (L := L) (args := [h0]) Try.func31 rfl rfl rfl ?_ st
  dsimp only [F31] at hm
  refine TC.k ?_
  refine TC.region ?_
  refine TO.s rfl rfl rfl (StepS.assign rfl) ?_
  refine TO.code ?_
  refine TC.k ?_
  refine TC.k ?_
  refine TC.region ?_
  refine TO.s rfl rfl rfl (StepS.move rfl) ?_
  refine TO.s rfl rfl rfl (StepS.lenm rfl e0 ksliceB_22_3_1_true rfl) ?_
  refine TO.s rfl rfl rfl (StepS.cmp rfl rfl rfl) ?_
  refine TO.s rfl rfl rfl (StepS.move rfl) ?_
  refine TO.mid1 4 12 (.bool ((decide ((a0.length : Int) < 1)) || (decide ((a0.length : Int) > 12)))) ?_ ?_
  · refine bcase ((decide ((a0.length : Int) < 1))) (fun hb1 => ?_) (fun hb1 => ?_)
    · refine TO.skip rfl rfl rfl (skipT hb1) rfl rfl ?_
      refine TO.skip rfl rfl rfl (skipT hb1) rfl rfl ?_
      refine TO.skip rfl rfl rfl (skipT hb1) rfl rfl ?_
      refine TO.s rfl rfl rfl (StepS.pickT rfl hb1 rfl) ?_
      exact TO.up1 4 0 rfl rfl (by rw [hb1]; rfl) rfl
    · refine TO.sw rfl rfl rfl hb1 rfl rfl (StepS.move rfl) ?_
      refine TO.sw rfl rfl rfl hb1 rfl rfl (StepS.lenm rfl e0 ksliceB_22_3_1_true rfl) ?_
      refine TO.sw rfl rfl rfl hb1 rfl rfl (StepS.cmp rfl rfl rfl) ?_
      refine TO.s rfl rfl rfl (StepS.pickF rfl hb1 rfl) ?_
      exact TO.up1 4 0 rfl rfl (by rw [hb1]; rfl) rfl
  refine TO.code ?_
  refine TC.cond rfl (fun hc2 => ?_) (fun hc2 => ?_)
  · replace hm := cond_t hc2 hm
    refine TC.k ?_
    refine TC.region ?_
    refine TO.s rfl rfl rfl (StepS.assign rfl) ?_
    refine TO.code ?_
    cases hm
    refine TC.ret fun a w e s => ?_
    refine FRet.mk1 (P := Try.prog) (fn := Try.f31) (t := 2) e rfl rfl ?_
    exact ⟨rfl, s.mono fun _ => Sat.dropN 0⟩
  · replace hm := cond_f hc2 hm
    refine TC.skipk ?_
    refine TC.k ?_
    refine TC.k ?_
    refine TC.region ?_
    refine TO.s rfl rfl rfl (StepS.assign rfl) ?_
    refine TO.code ?_
    obtain ⟨o5, hw6, hm⟩ := bind_some hm
    refine TC.loop hw6 (fun x3 => fun a w => Mid 33 B [(0, h0), (3, I x3)] (L) a w) (fun _ => fun a w => Mid 33 B [] (L) a w) (fun r0 => FRet Try.prog Try.f31 (fun e w' => (e = .returned (I r0) ∧ St B (L) w'))) ?_ ?_ ?_ ?_
    · rintro x3 o5r hb7 a w ⟨he, hs⟩
      dsimp only [F31_L0] at hb7
      refine TC.use ?_ he hs
      refine TC.k ?_
      refine TC.k ?_
      refine TC.region ?_
      refine TO.s rfl rfl rfl (StepS.move rfl) ?_
      refine TO.s rfl rfl rfl (StepS.move rfl) ?_
      refine TO.s rfl rfl rfl (StepS.lenm rfl e0 ksliceB_22_3_1_true rfl) ?_
      refine TO.s rfl rfl rfl (StepS.cmp rfl rfl rfl) ?_
      refine TO.code ?_
      refine TC.cond rfl (fun hc8 => ?_) (fun hc8 => ?_)
      · replace hb7 := cond_t hc8 hb7
        refine TC.skipk ?_
        refine TC.k ?_
        refine TC.block ?_
        refine TC.k ?_
        refine TC.region ?_
        refine TO.s rfl rfl rfl (StepS.assign rfl) ?_
        refine TO.code ?_
        obtain ⟨o11, hw12, hb7⟩ := bind_some hb7
        refine TC.loop hw12 (fun x9 => fun a w => Mid 33 B [(0, h0), (3, I x3), (4, I x9)] (L) a w) (fun _ => fun a w => Mid 33 B [(0, h0), (3, I x3)] (L) a w) (fun r0 => FRet Try.prog Try.f31 (fun e w' => (e = .returned (I r0) ∧ St B (L) w'))) ?_ ?_ ?_ ?_
        · rintro x9 o11r hb13 a w ⟨he, hs⟩
          dsimp only [F31_L1] at hb13
          refine TC.use ?_ he hs
          refine TC.k ?_
          refine TC.k ?_
          refine TC.region ?_
          refine TO.s rfl rfl rfl (StepS.move rfl) ?_
          refine TO.s rfl rfl rfl (StepS.move rfl) ?_
          refine TO.s rfl rfl rfl (StepS.cmp rfl rfl rfl) ?_
          refine TO.code ?_
          refine TC.cond rfl (fun hc14 => ?_) (fun hc14 => ?_)
          · replace hb13 := cond_t hc14 hb13
            refine TC.skipk ?_
            refine TC.k ?_
            refine TC.block ?_
            refine TC.k ?_
            refine TC.region_still kfollows_mixedOrders_true (by kernel_rfl) ?_
            refine TS.s rfl rfl rfl (StepS.move rfl) ?_
            refine TS.s rfl rfl rfl (StepS.move rfl) ?_
            obtain ⟨x15, hx16, hb13⟩ := bind_some hb13
            refine TS.s rfl rfl rfl (StepS.idx rfl rfl e0 ksliceB_22_3_1_true (idx_spec hx16).1 (idxm_lt hx16)) ?_
            refine TS.s rfl rfl rfl (StepS.ld0 rfl e0 kscalB_3_true rfl (idxm hx16) rfl) ?_
            refine TS.s rfl rfl rfl (StepS.move rfl) ?_
            refine TS.s rfl rfl rfl (StepS.move rfl) ?_
            obtain ⟨x17, hx18, hb13⟩ := bind_some hb13
            refine TS.s rfl rfl rfl (StepS.idx rfl rfl e0 ksliceB_22_3_1_true (idx_spec hx18).1 (idxm_lt hx18)) ?_
            refine TS.s rfl rfl rfl (StepS.ld0 rfl e0 kscalB_3_true rfl (idxm hx18) rfl) ?_
            refine TS.s rfl rfl rfl (StepS.cmp rfl rfl rfl) ?_
            refine TS.code ?_
            refine TC.cond rfl (fun hc19 => ?_) (fun hc19 => ?_)
            · replace hb13 := cond_t hc19 hb13
              refine TC.k ?_
              refine TC.region ?_
              refine TO.s rfl rfl rfl (StepS.assign rfl) ?_
              refine TO.code ?_
              cases hb13
              refine TC.ret fun a w e s => ?_
              refine FRet.mk1 (P := Try.prog) (fn := Try.f31) (t := 2) e rfl rfl ?_
              exact ⟨rfl, s.mono fun _ => Sat.dropN 0⟩
            · replace hb13 := cond_f hc19 hb13
              refine TC.skipk ?_
              refine TC.region ?_
              refine TO.s rfl rfl rfl (StepS.move rfl) ?_
              refine TO.s rfl rfl rfl (StepS.ari rfl rfl rfl) ?_
              refine TO.s rfl rfl rfl (StepS.assign rfl) ?_
              cases hb13
              refine TO.nil fun a w e s => ?_
              exact ⟨e.sub (lk_of_allIn ⟨rfl, rfl, rfl, trivial⟩), s⟩
          · replace hb13 := cond_f hc14 hb13
            cases hb13
            refine TC.exit rfl fun a w e s => ?_
            exact ⟨e.sub (lk_of_allIn ⟨rfl, rfl, trivial⟩), s⟩
        · exact fun a w e s => ⟨e.sub (lk_of_allIn ⟨rfl, rfl, rfl, trivial⟩), s⟩
        · rintro _ rfl a w ⟨he, hs⟩
          dsimp only [Ctl.on] at hb7
          refine TC.use ?_ he hs
          refine TC.region ?_
          refine TO.s rfl rfl rfl (StepS.move rfl) ?_
          refine TO.s rfl rfl rfl (StepS.ari rfl rfl rfl) ?_
          refine TO.s rfl rfl rfl (StepS.assign rfl) ?_
          cases hb7
          refine TO.nil fun a w e s => ?_
          exact ⟨e.sub (lk_of_allIn ⟨rfl, rfl, trivial⟩), s⟩
        · rintro r rfl
          cases hb7
          exact fun a w h => h
      · replace hb7 := cond_f hc8 hb7
        cases hb7
        refine TC.exit rfl fun a w e s => ?_
        exact ⟨e.sub (lk_of_allIn trivial), s⟩
    · exact fun a w e s => ⟨e.sub (lk_of_allIn ⟨rfl, rfl, trivial⟩), s⟩
    · rintro _ rfl a w ⟨he, hs⟩
      dsimp only [Ctl.on] at hm
      refine TC.use ?_ he hs
      refine TC.k ?_
      refine TC.region ?_
      refine TO.s rfl rfl rfl (StepS.assign rfl) ?_
      refine TO.code ?_
      cases hm
      refine TC.ret fun a w e s => ?_
      refine FRet.mk1 (P := Try.prog) (fn := Try.f31) (t := 2) e rfl rfl ?_
      exact ⟨rfl, s.mono fun _ => Sat.dropN 0⟩
    · rintro r rfl
      cases hm
      exact fun a w h => h

set_option maxRecDepth 100000 in
theorem C32 {B : World} {L : List HP} {a0 : List Int} {h0 : Value} {r0 : List Int} (e0 : Ent L (Rd 1 h0 (a0.map cI))) (hm : F32 a0 = some r0) {w : World} (st : St B L w) : Calls Try.prog 32 #[h0] w (fun e w' => ∃ v M, e = .returned v ∧ (∃ (qv1 : Value), v = qv1 ∧ M = (OwnS 3 1 qv1 (r0.map cI) :: L)) ∧ St B M w') := by
  refine calls_of (N := 70) (L := L) (args := [h0]) Try.func32 rfl rfl rfl ?_ st
  dsimp only [F32] at hm
  refine TC.k ?_
  refine TC.region ?_
  refine TO.s rfl rfl rfl (StepS.assign rfl) ?_
  refine TO.code ?_
  refine TC.k ?_
  refine TC.region ?_
  refine TO.s rfl rfl rfl (StepS.move rfl) ?_
  refine TO.s rfl rfl rfl (StepS.lenm rfl e0 ksliceB_22_3_1_true rfl) ?_
  refine TO.s rfl rfl rfl (StepS.assign rfl) ?_
  refine TO.code ?_
  refine TC.k ?_
  refine TC.k ?_
  refine TC.region ?_
  refine TO.s rfl rfl rfl (StepS.move rfl) ?_
  refine TO.s rfl rfl rfl (StepS.cmp rfl rfl rfl) ?_
  refine TO.code ?_
  refine TC.cond rfl (fun hc2 => ?_) (fun hc2 => ?_)
  · replace hm := cond_t hc2 hm
    refine TC.k ?_
    refine TC.region ?_
    refine TO.s rfl rfl rfl (StepS.move rfl) ?_
    obtain ⟨x3, hx4, hm⟩ := bind_some hm
    refine TO.s rfl rfl rfl (StepS.idx rfl rfl e0 ksliceB_22_3_1_true (idx_spec hx4).1 (idxm_lt hx4)) ?_
    refine TO.s rfl rfl rfl (StepS.ld0 rfl e0 kscalB_3_true rfl (idxm hx4) rfl) ?_
    refine TO.litS (f := cI) ([x3] : List Int) kelemB_22_3_1_8_true kinfo_3_bind_zero_some_I_0 rfl rfl (fun _ => rfl) rfl rfl (by kernel_rfl) rfl fun v5 => ?_
    refine TO.s rfl rfl rfl (StepS.assign rfl) ?_
    refine TO.code ?_
    cases hm
    refine TC.ret fun a w e s => ?_
    refine FRet.mk1 (P := Try.prog) (fn := Try.f32) (t := 2) e rfl rfl ?_
    refine ⟨_, _, rfl, ⟨(v5), rfl, rfl⟩, ?_⟩
    refine s.mono fun _ s => ?_
    replace s := Sat.front 0 rfl s
    exact s
  · replace hm := cond_f hc2 hm
    refine TC.skipk ?_
    refine TC.k ?_
    refine TC.k ?_
    refine TC.region ?_
    refine TO.s rfl rfl rfl (StepS.move rfl) ?_
    refine TO.s rfl rfl rfl (StepS.cmp rfl rfl rfl) ?_
    refine TO.code ?_
    refine TC.cond rfl (fun hc7 => ?_) (fun hc7 => ?_)
    · replace hm := cond_t hc7 hm
      refine TC.k ?_
      refine TC.k ?_
      refine TC.region_still kfollows_mixedOrders_true (by kernel_rfl) ?_
      refine TS.s rfl rfl rfl (StepS.move rfl) ?_
      obtain ⟨x8, hx9, hm⟩ := bind_some hm
      refine TS.s rfl rfl rfl (StepS.idx rfl rfl e0 ksliceB_22_3_1_true (idx_spec hx9).1 (idxm_lt hx9)) ?_
      refine TS.s rfl rfl rfl (StepS.ld0 rfl e0 kscalB_3_true rfl (idxm hx9) rfl) ?_
      refine TS.s rfl rfl rfl (StepS.move rfl) ?_
      obtain ⟨x10, hx11, hm⟩ := bind_some hm
      refine TS.s rfl rfl rfl (StepS.idx rfl rfl e0 ksliceB_22_3_1_true (idx_spec hx11).1 (idxm_lt hx11)) ?_
      refine TS.s rfl rfl rfl (StepS.ld0 rfl e0 kscalB_3_true rfl (idxm hx11) rfl) ?_
      refine TS.s rfl rfl rfl (StepS.cmp rfl rfl rfl) ?_
      refine TS.code ?_
      refine TC.cond rfl (fun hc12 => ?_) (fun hc12 => ?_)
      · replace hm := cond_t hc12 hm
        refine TC.k ?_
        refine TC.region ?_
        refine TO.s rfl rfl rfl (StepS.move rfl) ?_
        obtain ⟨x13, hx14, hm⟩ := bind_some hm
        refine TO.s rfl rfl rfl (StepS.idx rfl rfl e0 ksliceB_22_3_1_true (idx_spec hx14).1 (idxm_lt hx14)) ?_
        refine TO.s rfl rfl rfl (StepS.ld0 rfl e0 kscalB_3_true rfl (idxm hx14) rfl) ?_
        refine TO.litS (f := cI) ([x13] : List Int) kelemB_22_3_1_8_true kinfo_3_bind_zero_some_I_0 rfl rfl (fun _ => rfl) rfl rfl (by kernel_rfl) rfl fun v15 => ?_
        refine TO.s rfl rfl rfl (StepS.assign rfl) ?_
        refine TO.code ?_
        cases hm
        refine TC.ret fun a w e s => ?_
        refine FRet.mk1 (P := Try.prog) (fn := Try.f32) (t := 2) e rfl rfl ?_
        refine ⟨_, _, rfl, ⟨(v15), rfl, rfl⟩, ?_⟩
        refine s.mono fun _ s => ?_
        replace s := Sat.front 0 rfl s
        exact s
      · replace hm := cond_f hc12 hm
        refine TC.skipk ?_
        refine TC.k ?_
        refine TC.region ?_
        refine TO.s rfl rfl rfl (StepS.move rfl) ?_
        obtain ⟨x17, hx18, hm⟩ := bind_some hm
        refine TO.s rfl rfl rfl (StepS.idx rfl rfl e0 ksliceB_22_3_1_true (idx_spec hx18).1 (idxm_lt hx18)) ?_
        refine TO.s rfl rfl rfl (StepS.ld0 rfl e0 kscalB_3_true rfl (idxm hx18) rfl) ?_
        refine TO.litS (f := cI) ([x17] : List Int) kelemB_22_3_1_8_true kinfo_3_bind_zero_some_I_0 rfl rfl (fun _ => rfl) rfl rfl (by kernel_rfl) rfl fun v19 => ?_
        refine TO.s rfl rfl rfl (StepS.assign rfl) ?_
        refine TO.code ?_
        cases hm
        refine TC.ret fun a w e s => ?_
        refine FRet.mk1 (P := Try.prog) (fn := Try.f32) (t := 2) e rfl rfl ?_
        refine ⟨_, _, rfl, ⟨(v19), rfl, rfl⟩, ?_⟩
        refine s.mono fun _ s => ?_
        replace s := Sat.front 0 rfl s
        exact s
    · replace hm := cond_f hc7 hm
      refine TC.skipk ?_
      refine TC.k ?_
      refine TC.region ?_
      refine TO.s rfl rfl rfl (StepS.assign rfl) ?_
      refine TO.code ?_
      refine TC.k ?_
      refine TC.k ?_
      refine TC.region ?_
      refine TO.s rfl rfl rfl (StepS.assign rfl) ?_
      refine TO.code ?_
      obtain ⟨o32, hw33, hm⟩ := bind_some hm
      refine TC.loop hw33 (fun (y23, x24) => fun a w => ∃ v21 : Value, Mid 70 B [(0, h0), (3, I (a0.length : Int)), (4, v21), (5, I x24)] (OwnS 3 1 v21 (y23.map cI) :: L) a w) (fun y31 => fun a w => ∃ v29 : Value, Mid 70 B [(4, v29)] (OwnS 3 1 v29 (y31.map cI) :: L) a w) (fun (_ : Unit) _ _ => False) ?_ ?_ ?_ ?_
      · rintro ⟨y23, x24⟩ o32r hb34 a w ⟨v21, he, hs⟩
        dsimp only [F32_L0] at hb34
        refine TC.use ?_ he hs
        refine TC.k ?_
        refine TC.k ?_
        refine TC.region ?_
        refine TO.s rfl rfl rfl (StepS.move rfl) ?_
        refine TO.s rfl rfl rfl (StepS.move rfl) ?_
        refine TO.s rfl rfl rfl (StepS.cmp rfl rfl rfl) ?_
        refine TO.code ?_
        refine TC.cond rfl (fun hc35 => ?_) (fun hc35 => ?_)
        · replace hb34 := cond_t hc35 hb34
          refine TC.skipk ?_
          refine TC.k ?_
          obtain ⟨y36, hj38, hb34⟩ := bind_some hb34
          refine TC.cutM (fun a w => ∃ v37 : Value, Mid 70 B [(0, h0), (3, I (a0.length : Int)), (4, v37), (5, I x24)] (OwnS 3 1 v37 (y36.map cI) :: L) a w) ?_ ?_
          · refine TC.block ?_
            refine TC.k ?_
            refine TC.region ?_
            refine TO.s rfl rfl rfl (StepS.move rfl) ?_
            refine TO.s rfl rfl rfl (StepS.move rfl) ?_
            refine TO.s rfl rfl rfl (StepS.move rfl) ?_
            refine TO.s rfl rfl rfl (StepS.ari rfl rfl rfl) ?_
            refine TO.s rfl rfl rfl (StepS.ari rfl rfl rfl) ?_
            refine TO.s rfl rfl rfl (StepS.move rfl) ?_
            obtain ⟨u40, hd39, hj38⟩ := bind_some hj38
            refine TO.s rfl rfl rfl (StepS.rem rfl rfl (nz_spec hd39)) ?_
            obtain ⟨x41, hx42, hj38⟩ := bind_some hj38
            refine TO.s rfl rfl rfl (StepS.idx rfl rfl e0.tl ksliceB_22_3_1_true (idx_spec hx42).1 (idxm_lt hx42)) ?_
            refine TO.s rfl rfl rfl (StepS.ld0 rfl e0.tl kscalB_3_true rfl (idxm hx42) rfl) ?_
            refine TO.s rfl rfl rfl (StepS.assign rfl) ?_
            refine TO.code ?_
            refine TC.k ?_
            refine TC.region ?_
            refine TO.s rfl rfl rfl (StepS.move rfl) ?_
            refine TO.s rfl rfl rfl (StepS.move rfl) ?_
            refine TO.s rfl rfl rfl (StepS.move rfl) ?_
            obtain ⟨x43, hx44, hj38⟩ := bind_some hj38
            refine TO.s rfl rfl rfl (StepS.idx rfl rfl e0.tl ksliceB_22_3_1_true (idx_spec hx44).1 (idxm_lt hx44)) ?_
            refine TO.s rfl rfl rfl (StepS.ld0 rfl e0.tl kscalB_3_true rfl (idxm hx44) rfl) ?_
            refine TO.s rfl rfl rfl (StepS.cmp rfl rfl rfl) ?_
            refine TO.s rfl rfl rfl (StepS.move rfl) ?_
            obtain ⟨b46, hj47, hj38⟩ := bind_some hj38
            refine TO.mid1 12 64 (.bool b46) ?_ ?_
            · refine bcase ((decide (x41 > x43))) (fun hb45 => ?_) (fun hb45 => ?_)
              · replace hj47 := cond_t hb45 hj47
                refine TO.sw rfl rfl rfl hb45 rfl rfl (StepS.move rfl) ?_
                refine TO.sw rfl rfl rfl hb45 rfl rfl (StepS.move rfl) ?_
                refine TO.sw rfl rfl rfl hb45 rfl rfl (StepS.move rfl) ?_
                refine TO.sw rfl rfl rfl hb45 rfl rfl (StepS.move rfl) ?_
                refine TO.sw rfl rfl rfl hb45 rfl rfl (StepS.ari rfl rfl rfl) ?_
                refine TO.sw rfl rfl rfl hb45 rfl rfl (StepS.ari rfl rfl rfl) ?_
                refine TO.sw rfl rfl rfl hb45 rfl rfl (StepS.move rfl) ?_
                obtain ⟨u49, hd48, hj47⟩ := bind_some hj47
                refine TO.sw rfl rfl rfl hb45 rfl rfl (StepS.rem rfl rfl (nz_spec hd48)) ?_
                obtain ⟨x50, hx51, hj47⟩ := bind_some hj47
                refine TO.sw rfl rfl rfl hb45 rfl rfl (StepS.idx rfl rfl e0.tl ksliceB_22_3_1_true (idx_spec hx51).1 (idxm_lt hx51)) ?_
                refine TO.sw rfl rfl rfl hb45 rfl rfl (StepS.ld0 rfl e0.tl kscalB_3_true rfl (idxm hx51) rfl) ?_
                refine TO.sw rfl rfl rfl hb45 rfl rfl (StepS.cmp rfl rfl rfl) ?_
                cases hj47
                refine TO.s rfl rfl rfl (StepS.pickT rfl hb45 rfl) ?_
                exact TO.up1 12 0 rfl rfl rfl rfl
              · replace hj47 := cond_f hb45 hj47
                cases hj47
                refine TO.skip rfl rfl rfl (skipF hb45) rfl rfl ?_
                refine TO.skip rfl rfl rfl (skipF hb45) rfl rfl ?_
                refine TO.skip rfl rfl rfl (skipF hb45) rfl rfl ?_
                refine TO.skip rfl rfl rfl (skipF hb45) rfl rfl ?_
                refine TO.skip rfl rfl rfl (skipF hb45) rfl rfl ?_
                refine TO.skip rfl rfl rfl (skipF hb45) rfl rfl ?_
                refine TO.skip rfl rfl rfl (skipF hb45) rfl rfl ?_
                refine TO.skip rfl rfl rfl (skipF hb45) rfl rfl ?_
                refine TO.skip rfl rfl rfl (skipF hb45) rfl rfl ?_
                refine TO.skip rfl rfl rfl (skipF hb45) rfl rfl ?_
                refine TO.skip rfl rfl rfl (skipF hb45) rfl rfl ?_
                refine TO.s rfl rfl rfl (StepS.pickF rfl hb45 rfl) ?_
                exact TO.up1 12 0 rfl rfl rfl rfl
            refine TO.code ?_
            refine TC.cond rfl (fun hc52 => ?_) (fun hc52 => ?_)
            · replace hj38 := cond_t hc52 hj38
              refine TC.region ?_
              refine TO.s rfl rfl rfl (StepS.move rfl) ?_
              refine TO.s rfl rfl rfl (StepS.move rfl) ?_
              refine TO.litS (f := cI) ([x41] : List Int) kelemB_22_3_1_8_true kinfo_3_bind_zero_some_I_0 rfl rfl (fun _ => rfl) rfl rfl (by kernel_rfl) rfl fun v53 => ?_
              obtain ⟨y55, hk56, hj38⟩ := bind_some hj38
              refine TO.app (k := 1) (f := cI) kelemB_22_3_1_8_true (by decide) rfl rfl rfl (OwnS.rd (Ent.at 0 rfl)) hk56 (fun x c hc => by simp [Value.oneCell'] at hc ⊢; first | (obtain rfl := hc; rfl) | (rcases hc with rfl <;> rfl)) rfl rfl fun v57 => ?_
              refine TO.s rfl rfl rfl (StepS.assign rfl) ?_
              cases hj38
              refine TO.nil fun a w e s => ?_
              exact ⟨v57, e.sub (lk_of_allIn ⟨rfl, rfl, rfl, rfl, trivial⟩), s.mono fun _ => Sat.dropN 1⟩
            · replace hj38 := cond_f hc52 hj38
              cases hj38
              refine TC.skip fun a w e s => ?_
              exact ⟨v21, e.sub (lk_of_allIn ⟨rfl, rfl, rfl, rfl, trivial⟩), s⟩
          · intro a w ⟨v37, he, hs⟩
            refine TC.use ?_ he hs
            refine TC.region ?_
            refine TO.s rfl rfl rfl (StepS.move rfl) ?_
            refine TO.s rfl rfl rfl (StepS.ari rfl rfl rfl) ?_
            refine TO.s rfl rfl rfl (StepS.assign rfl) ?_
            cases hb34
            refine TO.nil fun a w e s => ?_
            exact ⟨v37, e.sub (lk_of_allIn ⟨rfl, rfl, rfl, rfl, trivial⟩), s⟩
        · replace hb34 := cond_f hc35 hb34
          cases hb34
          refine TC.exit rfl fun a w e s => ?_
          exact ⟨v21, e.sub (lk_of_allIn ⟨rfl, trivial⟩), s⟩
      · exact fun a w e s => ⟨.slice none 0 0, e.sub (lk_of_allIn ⟨rfl, rfl, rfl, rfl, trivial⟩), s.mono fun _ s => (by replace s := Sat.nilS (e := 3) (sz := 1) (f := cI) s; exact s)⟩
      · rintro y31 rfl a w ⟨v29, he, hs⟩
        dsimp only [Ctl.on] at hm
        refine TC.use ?_ he hs
        refine TC.k ?_
        refine TC.region ?_
        refine TO.s rfl rfl rfl (StepS.move rfl) ?_
        refine TO.s rfl rfl rfl (StepS.assign rfl) ?_
        refine TO.code ?_
        cases hm
        refine TC.ret fun a w e s => ?_
        refine FRet.mk1 (P := Try.prog) (fn := Try.f32) (t := 2) e rfl rfl ?_
        refine ⟨_, _, rfl, ⟨(v29), rfl, rfl⟩, ?_⟩
        refine s.mono fun _ s => ?_
        replace s := Sat.front 0 rfl s
        exact s
      · rintro r rfl
        exact fun a w h => h.elim

set_option maxRecDepth 100000 in
theorem C29 {B : World} {L : List HP} {a0 : List Int} {a1 : List Int} {h0 : Value} {h1 : Value} {r0 : Bool} (e0 : Ent L (Rd 1 h0 (a0.map cI))) (e1 : Ent L (Rd 1 h1 (a1.map cI))) (hm : F29 a0 a1 = some r0) {w : World} (st : St B L w) : Calls Try.prog 29 #[h0, h1] w (fun e w' => (e = .returned (.bool r0) ∧ St B (L) w')) := by
  refine calls_of (N := 26) (L := L) (args := [h0, h1]) Try.func29 rfl rfl rfl ?_ st
  dsimp only [F29] at hm
  refine TC.k ?_
  refine TC.region ?_
  refine TO.s rfl rfl rfl (StepS.assign rfl) ?_
  refine TO.code ?_
  refine TC.k ?_
  refine TC.k ?_
  refine TC.region ?_
  refine TO.s rfl rfl rfl (StepS.move rfl) ?_
  refine TO.s rfl rfl rfl (StepS.lenm rfl e0 ksliceB_22_3_1_true rfl) ?_
  refine TO.s rfl rfl rfl (StepS.move rfl) ?_
  refine TO.s rfl rfl rfl (StepS.lenm rfl e1 ksliceB_22_3_1_true rfl) ?_
  refine TO.s rfl rfl rfl (StepS.cmp rfl rfl rfl) ?_
  refine TO.code ?_
  refine TC.cond rfl (fun hc1 => ?_) (fun hc1 => ?_)
  · replace hm := cond_t hc1 hm
    refine TC.k ?_
    refine TC.region ?_
    refine TO.s rfl rfl rfl (StepS.assign rfl) ?_
    refine TO.code ?_
    cases hm
    refine TC.ret fun a w e s => ?_
    refine FRet.mk1 (P := Try.prog) (fn := Try.f29) (t := 4) e rfl rfl ?_
    exact ⟨rfl, s.mono fun _ => Sat.dropN 0⟩
  · replace hm := cond_f hc1 hm
    refine TC.skipk ?_
    refine TC.k ?_
    refine TC.k ?_
    refine TC.region ?_
    refine TO.s rfl rfl rfl (StepS.assign rfl) ?_
    refine TO.code ?_
    obtain ⟨o4, hw5, hm⟩ := bind_some hm
    refine TC.loop hw5 (fun x2 => fun a w => Mid 26 B [(0, h0), (1, h1), (5, I x2)] (L) a w) (fun _ => fun a w => Mid 26 B [] (L) a w) (fun r0 => FRet Try.prog Try.f29 (fun e w' => (e = .returned (.bool r0) ∧ St B (L) w'))) ?_ ?_ ?_ ?_
    · rintro x2 o4r hb6 a w ⟨he, hs⟩
      dsimp only [F29_L0] at hb6
      refine TC.use ?_ he hs
      refine TC.k ?_
      refine TC.k ?_
      refine TC.region ?_
      refine TO.s rfl rfl rfl (StepS.move rfl) ?_
      refine TO.s rfl rfl rfl (StepS.move rfl) ?_
      refine TO.s rfl rfl rfl (StepS.lenm rfl e0 ksliceB_22_3_1_true rfl) ?_
      refine TO.s rfl rfl rfl (StepS.cmp rfl rfl rfl) ?_
      refine TO.code ?_
      refine TC.cond rfl (fun hc7 => ?_) (fun hc7 => ?_)
      · replace hb6 := cond_t hc7 hb6
        refine TC.skipk ?_
        refine TC.k ?_
        refine TC.block ?_
        refine TC.k ?_
        refine TC.region_still kfollows_mixedOrders_true (by kernel_rfl) ?_
        refine TS.s rfl rfl rfl (StepS.move rfl) ?_
        refine TS.s rfl rfl rfl (StepS.move rfl) ?_
        obtain ⟨x8, hx9, hb6⟩ := bind_some hb6
        refine TS.s rfl rfl rfl (StepS.idx rfl rfl e0 ksliceB_22_3_1_true (idx_spec hx9).1 (idxm_lt hx9)) ?_
        refine TS.s rfl rfl rfl (StepS.ld0 rfl e0 kscalB_3_true rfl (idxm hx9) rfl) ?_
        refine TS.s rfl rfl rfl (StepS.move rfl) ?_
        refine TS.s rfl rfl rfl (StepS.move rfl) ?_
        obtain ⟨x10, hx11, hb6⟩ := bind_some hb6
        refine TS.s rfl rfl rfl (StepS.idx rfl rfl e1 ksliceB_22_3_1_true (idx_spec hx11).1 (idxm_lt hx11)) ?_
        refine TS.s rfl rfl rfl (StepS.ld0 rfl e1 kscalB_3_true rfl (idxm hx11) rfl) ?_
        refine TS.s rfl rfl rfl (StepS.cmp rfl rfl rfl) ?_
        refine TS.code ?_
        refine TC.cond rfl (fun hc12 => ?_) (fun hc12 => ?_)
        · replace hb6 := cond_t hc12 hb6
          refine TC.k ?_
          refine TC.region ?_
          refine TO.s rfl rfl rfl (StepS.assign rfl) ?_
          refine TO.code ?_
          cases hb6
          refine TC.ret fun a w e s => ?_
          refine FRet.mk1 (P := Try.prog) (fn := Try.f29) (t := 4) e rfl rfl ?_
          exact ⟨rfl, s.mono fun _ => Sat.dropN 0⟩
        · replace hb6 := cond_f hc12 hb6
          refine TC.skipk ?_
          refine TC.region ?_
          refine TO.s rfl rfl rfl (StepS.move rfl) ?_
          refine TO.s rfl rfl rfl (StepS.ari rfl rfl rfl) ?_
          refine TO.s rfl rfl rfl (StepS.assign rfl) ?_
          cases hb6
          refine TO.nil fun a w e s => ?_
          exact ⟨e.sub (lk_of_allIn ⟨rfl, rfl, rfl, trivial⟩), s⟩
      · replace hb6 := cond_f hc7 hb6
        cases hb6
        refine TC.exit rfl fun a w e s => ?_
        exact ⟨e.sub (lk_of_allIn trivial), s⟩
    · exact fun a w e s => ⟨e.sub (lk_of_allIn ⟨rfl, rfl, rfl, trivial⟩), s⟩
    · rintro _ rfl a w ⟨he, hs⟩
      dsimp only [Ctl.on] at hm
      refine TC.use ?_ he hs
      refine TC.k ?_
      refine TC.region ?_
      refine TO.s rfl rfl rfl (StepS.assign rfl) ?_
      refine TO.code ?_
      cases hm
      refine TC.ret fun a w e s => ?_
      refine FRet.mk1 (P := Try.prog) (fn := Try.f29) (t := 4) e rfl rfl ?_
      exact ⟨rfl, s.mono fun _ => Sat.dropN 0⟩
    · rintro r rfl
      cases hm
      exact fun a w h => h

set_option maxRecDepth 100000 in
theorem C9 {B : World} {L : List HP} {a0 : List Int} {h0 : Value} {r0 : Bool} (e0 : Ent L (Rd 1 h0 (a0.map cI))) (hm : F9 a0 = some r0) {w : World} (st : St B L w) : Calls Try.prog 9 #[h0] w (fun e w' => (e = .returned (.bool r0) ∧ St B (L) w')) := by
  refine calls_of (N := 31) (L := L) (args := [h0]) Try.func9 rfl rfl rfl ?_ st
  dsimp only [F9] at hm
  refine TC.k ?_
  refine TC.region ?_
  refine TO.s rfl rfl rfl (StepS.assign rfl) ?_
  refine TO.code ?_
  refine TC.k ?_
  refine TC.region ?_
  refine TO.s rfl rfl rfl (StepS.move rfl) ?_
  obtain ⟨⟨r1, r2⟩, hc3, hm⟩ := bind_some hm
  refine TO.callO kcallB_30_true rfl rfl rfl (fun _ st => C30 e0 hc3 st) ?_
  rintro _ _ ⟨v4, rfl, rfl⟩
  refine TO.s rfl rfl rfl (StepS.move rfl) ?_
  refine TO.s rfl rfl rfl (StepS.extract rfl rfl) ?_
  refine TO.s rfl rfl rfl (StepS.extract rfl rfl) ?_
  refine TO.s rfl rfl rfl (StepS.assign rfl) ?_
  refine TO.s rfl rfl rfl (StepS.assign rfl) ?_
  refine TO.code ?_
  refine TC.k ?_
  refine TC.region ?_
  refine TO.s rfl rfl rfl (StepS.move rfl) ?_
  obtain ⟨r6, hc7, hm⟩ := bind_some hm
  refine TO.q rfl rfl rfl (StepQ.call kcallB_31_true rfl rfl (fun _ st => C31 e0.tl hc7 st)) ?_
  refine TO.s rfl rfl rfl (StepS.assign rfl) ?_
  refine TO.code ?_
  refine TC.k ?_
  refine TC.k ?_
  refine TC.region ?_
  refine TO.s rfl rfl rfl (StepS.move rfl) ?_
  refine TO.s rfl rfl rfl (StepS.cmp rfl rfl rfl) ?_
  refine TO.code ?_
  refine TC.cond rfl (fun hc8 => ?_) (fun hc8 => ?_)
  · replace hm := cond_t hc8 hm
    refine TC.k ?_
    refine TC.region ?_
    refine TO.s rfl rfl rfl (StepS.move rfl) ?_
    refine TO.s rfl rfl rfl (StepS.move rfl) ?_
    refine TO.s rfl rfl rfl (StepS.cmp rfl rfl rfl) ?_
    refine TO.s rfl rfl rfl (StepS.move rfl) ?_
    refine TO.mid1 4 22 (.bool ((r2 == r6) && ((r1.length : Int) == 0))) ?_ ?_
    · refine bcase ((r2 == r6)) (fun hb9 => ?_) (fun hb9 => ?_)
      · refine TO.sw rfl rfl rfl hb9 rfl rfl (StepS.move rfl) ?_
        refine TO.sw rfl rfl rfl hb9 rfl rfl (StepS.lenm rfl (OwnS.rd (Ent.at 0 rfl)) ksliceB_22_3_1_true rfl) ?_
        refine TO.sw rfl rfl rfl hb9 rfl rfl (StepS.cmp rfl rfl rfl) ?_
        refine TO.s rfl rfl rfl (StepS.pickT rfl hb9 rfl) ?_
        exact TO.up1 4 0 rfl rfl (by rw [hb9]; rfl) rfl
      · refine TO.skip rfl rfl rfl (skipF hb9) rfl rfl ?_
        refine TO.skip rfl rfl rfl (skipF hb9) rfl rfl ?_
        refine TO.skip rfl rfl rfl (skipF hb9) rfl rfl ?_
        refine TO.s rfl rfl rfl (StepS.pickF rfl hb9 rfl) ?_
        exact TO.up1 4 0 rfl rfl (by rw [hb9]; rfl) rfl
    refine TO.s rfl rfl rfl (StepS.assign rfl) ?_
    refine TO.code ?_
    cases hm
    refine TC.ret fun a w e s => ?_
    refine FRet.mk1 (P := Try.prog) (fn := Try.f9) (t := 2) e rfl rfl ?_
    exact ⟨rfl, s.mono fun _ => Sat.dropN 1⟩
  · replace hm := cond_f hc8 hm
    refine TC.skipk ?_
    refine TC.k ?_
    refine TC.region ?_
    refine TO.s rfl rfl rfl (StepS.move rfl) ?_
    refine TO.s rfl rfl rfl (StepS.cmp rfl rfl rfl) ?_
    refine TO.s rfl rfl rfl (StepS.move rfl) ?_
    obtain ⟨b11, hj12, hm⟩ := bind_some hm
    refine TO.mid1 5 30 (.bool b11) ?_ ?_
    · refine bcase ((r2 == 0)) (fun hb10 => ?_) (fun hb10 => ?_)
      · replace hj12 := cond_t hb10 hj12
        refine TO.sw rfl rfl rfl hb10 rfl rfl (StepS.move rfl) ?_
        refine TO.sw rfl rfl rfl hb10 rfl rfl (StepS.move rfl) ?_
        obtain ⟨r13, hc14, hj12⟩ := bind_some hj12
        refine TO.callOw rfl rfl hb10 kcallB_32_true rfl rfl rfl (fun _ st => C32 e0.tl hc14 st) ?_
        rintro v15 _ ⟨_, rfl, rfl⟩
        obtain ⟨r17, hc18, hj12⟩ := bind_some hj12
        refine TO.qw rfl rfl rfl hb10 rfl rfl (StepQ.call kcallB_29_true rfl rfl (fun _ st => C29 (OwnS.rd (Ent.at 1 rfl)) (OwnS.rd (Ent.at 0 rfl)) hc18 st)) ?_
        cases hj12
        refine TO.s rfl rfl rfl (StepS.pickT rfl hb10 rfl) ?_
        exact TO.up1 5 1 rfl rfl rfl rfl
      · replace hj12 := cond_f hb10 hj12
        cases hj12
        refine TO.skip rfl rfl rfl (skipF hb10) rfl rfl ?_
        refine TO.skip rfl rfl rfl (skipF hb10) rfl rfl ?_
        refine TO.skip rfl rfl rfl (skipF hb10) rfl rfl ?_
        refine TO.skip rfl rfl rfl (skipF hb10) rfl rfl ?_
        refine TO.s rfl rfl rfl (StepS.pickF rfl hb10 rfl) ?_
        exact TO.up1 5 0 rfl rfl rfl rfl
    refine TO.s rfl rfl rfl (StepS.assign rfl) ?_
    refine TO.code ?_
    cases hm
    refine TC.ret fun a w e s => ?_
    refine FRet.mk1 (P := Try.prog) (fn := Try.f9) (t := 2) e rfl rfl ?_
    exact ⟨rfl, s.mono fun _ => Sat.dropN 1⟩

set_option maxRecDepth 100000 in
theorem C54 {B : World} {L : List HP} {a0 : List (Int × Int)} {h0 : Value} {r0 : List (Int × Int)} (e0 : Ent L (Rd 2 h0 (a0.map cTii))) (hm : F54 a0 = some r0) {w : World} (st : St B L w) : Calls Try.prog 54 #[h0] w (fun e w' => ∃ v M, e = .returned v ∧ (∃ (qr0 : Value), v = qr0 ∧ M = (OwnS 81 2 qr0 (r0.map cTii) :: L)) ∧ St B M w') := by
  refine calls_of (N := 8) (L := L) (args := [h0]) Try.func54 rfl rfl rfl ?_ st
  dsimp only [F54] at hm
  refine TC.k ?_
  refine TC.region ?_
  refine TO.s rfl rfl rfl (StepS.assign rfl) ?_
  refine TO.code ?_
  refine TC.k ?_
  refine TC.k ?_
  refine TC.region ?_
  refine TO.s rfl rfl rfl (StepS.move rfl) ?_
  refine TO.nilck rfl e0 ksliceB_30_81_2_true rfl fun b hb => ?_
  refine TO.code ?_
  refine TC.cond rfl (fun hc => ?_) (fun hc => ?_)
  · have hn : a0 = [] := by simpa using hb hc
    subst hn
    have hr : r0 = [] := by simpa using (appl_spec hm).2.2
    subst hr
    refine TC.k ?_
    refine TC.region ?_
    refine TO.s rfl rfl rfl (StepS.assign rfl) ?_
    refine TO.code ?_
    refine TC.ret fun a w e s => ?_
    refine FRet.mk1 (P := Try.prog) (fn := Try.f54) (t := 2) e rfl rfl ?_
    exact ⟨_, _, rfl, ⟨_, rfl, rfl⟩, s.mono fun _ s => Sat.nilS s⟩
  · refine TC.skipk ?_
    refine TC.k ?_
    refine TC.region ?_
    refine TO.lit0 (f := cTii) ksliceB_30_81_2_true rfl fun v1 => ?_
    refine TO.s rfl rfl rfl (StepS.move rfl) ?_
    refine TO.app (k := 0) (f := cTii) kelemB_30_81_2_16_true (by decide) rfl rfl rfl e0.tl hm (fun x c hc => by simp [Value.oneCell'] at hc ⊢; first | (obtain rfl := hc; rfl) | (rcases hc with rfl | rfl <;> rfl)) rfl rfl fun v2 => ?_
    refine TO.s rfl rfl rfl (StepS.assign rfl) ?_
    refine TO.code ?_
    refine TC.ret fun a w e s => ?_
    refine FRet.mk1 (P := Try.prog) (fn := Try.f54) (t := 2) e rfl rfl ?_
    exact ⟨_, _, rfl, ⟨_, rfl, rfl⟩, s⟩

set_option maxRecDepth 100000 in
theorem C51 {B : World} {L : List HP} {a0 : List (Int × Int)} {a1 : BitVec 32} {h0 : Value} {r0 : List (Int × Int)} (e0 : Ent L (Rd 2 h0 (a0.map cTii))) (hm : F51 a0 a1 = some r0) {w : World} (st : St B L w) : Calls Try.prog 51 #[h0, U a1] w (fun e w' => ∃ v M, e = .returned v ∧ (∃ (qv1 : Value), v = qv1 ∧ M = (OwnS 81 2 qv1 (r0.map cTii) :: L)) ∧ St B M w') := by
  refine calls_of (N := 32) (L := L) (args := [h0, U a1]) Try.func51 rfl rfl rfl ?_ st
  dsimp only [F51] at hm
  refine TC.k ?_
  refine TC.region ?_
  refine TO.s rfl rfl rfl (StepS.assign rfl) ?_
  refine TO.code ?_
  refine TC.k ?_
  refine TC.region ?_
  refine TO.s rfl rfl rfl (StepS.move rfl) ?_
  obtain ⟨r2, hc3, hm⟩ := bind_some hm
  refine TO.callO kcallB_54_true rfl rfl rfl (fun _ st => C54 e0 hc3 st) ?_
  rintro v4 _ ⟨_, rfl, rfl⟩
  refine TO.s rfl rfl rfl (StepS.assign rfl) ?_
  refine TO.code ?_
  refine TC.k ?_
  refine TC.k ?_
  refine TC.region ?_
  refine TO.s rfl rfl rfl (StepS.move rfl) ?_
  refine TO.s rfl rfl rfl (StepS.lenm rfl (OwnS.rd (Ent.at 0 rfl)) ksliceB_30_81_2_true rfl) ?_
  refine TO.s rfl rfl rfl (StepS.move rfl) ?_
  refine TO.code ?_
  obtain ⟨o14, hw15, hm⟩ := bind_some hm
  refine TC.loop hw15 (fun (y6, x8) => fun a w => ∃ v7 : Value, Mid 32 B [(0, v7), (1, U a1), (9, v7), (10, I (r2.length : Int)), (11, I x8)] (OwnS 81 2 v7 (y6.map cTii) :: L) a w) (fun y12 => fun a w => ∃ v13 : Value, Mid 32 B [(0, v13)] (OwnS 81 2 v13 (y12.map cTii) :: L) a w) (fun (_ : Unit) _ _ => False) ?_ ?_ ?_ ?_
  · rintro ⟨y6, x8⟩ o14r hb16 a w ⟨v7, he, hs⟩
    dsimp only [F51_L0] at hb16
    refine TC.use ?_ he hs
    refine TC.k ?_
    refine TC.region ?_
    refine TO.s rfl rfl rfl (StepS.cmp rfl rfl rfl) ?_
    refine TO.code ?_
    refine TC.k ?_
    refine TC.cond rfl (fun hc17 => ?_) (fun hc17 => ?_)
    · replace hb16 := cond_t hc17 hb16
      refine TC.skipk ?_
      refine TC.k ?_
      obtain ⟨y18, hj20, hb16⟩ := bind_some hb16
      refine TC.cutM (fun a w => ∃ v19 : Value, Mid 32 B [(0, v19), (1, U a1), (9, v19), (10, I (r2.length : Int)), (11, I x8)] (OwnS 81 2 v19 (y18.map cTii) :: L) a w) ?_ ?_
      · refine TC.block ?_
        refine TC.k ?_
        refine TC.region ?_
        refine TO.s rfl rfl rfl (StepS.move rfl) ?_
        obtain ⟨x21, hx22, hj20⟩ := bind_some hj20
        refine TO.s rfl rfl rfl (StepS.idx rfl rfl (OwnS.rd (Ent.at 0 rfl)) ksliceB_30_81_2_true (idx_spec hx22).1 (idxm_lt hx22)) ?_
        refine TO.s rfl rfl rfl (StepS.ldE rfl (OwnS.rd (Ent.at 0 rfl)) kaggB_81_2_true rfl (idxm hx22)) ?_
        refine TO.alloc kinfo_81_bind_zero_some_agg_I_0_I_0 rfl rfl fun b23 => ?_
        refine TO.s rfl rfl rfl (StepS.assign rfl) ?_
        refine TO.stB (us := [I x21.1, I x21.2]) 0 [I x21.1, I x21.2] rfl rfl rfl ksizeB_81_2_true rfl rfl rfl (by simp [Value.oneCell']) rfl ?_
        refine TO.code ?_
        refine TC.k ?_
        refine TC.region ?_
        refine TO.s rfl rfl rfl (StepS.move rfl) ?_
        refine TO.s rfl rfl rfl (StepS.aidx (j := 1) rfl rfl karrB_81_2_3_1_true ⟨by decide, by decide⟩ rfl) ?_
        refine TO.s rfl rfl rfl (StepS.ldB rfl (Ent.at 0 rfl) kscalB_3_true rfl) ?_
        obtain ⟨k24, hk25, hj20⟩ := bind_some hj20
        refine TO.s rfl rfl rfl (StepS.shrk rfl rfl hk25) ?_
        refine TO.s rfl rfl rfl (StepS.bitU (n := 1#32) rfl rfl rfl) ?_
        refine TO.s rfl rfl rfl (StepS.cmpU (n := 1#32) rfl rfl rfl) ?_
        refine TO.code ?_
        refine TC.cond rfl (fun hc26 => ?_) (fun hc26 => ?_)
        · replace hj20 := cond_t hc26 hj20
          refine TC.region ?_
          refine TO.s rfl rfl rfl (StepS.move rfl) ?_
          refine TO.s rfl rfl rfl (StepS.move rfl) ?_
          refine TO.s rfl rfl rfl (StepS.aidx (j := 1) rfl rfl karrB_81_2_3_1_true ⟨by decide, by decide⟩ rfl) ?_
          refine TO.s rfl rfl rfl (StepS.ldB rfl (Ent.at 0 rfl) kscalB_3_true rfl) ?_
          refine TO.s rfl rfl rfl (StepS.aidx (j := 0) rfl rfl karrB_81_2_3_1_true ⟨by decide, by decide⟩ rfl) ?_
          refine TO.s rfl rfl rfl (StepS.ldB rfl (Ent.at 0 rfl) kscalB_3_true rfl) ?_
          refine TO.s rfl rfl rfl (StepS.build (cs := [I x21.2, I x21.1]) rfl (by kernel_rfl)) ?_
          obtain ⟨x27, hx28, hj20⟩ := bind_some hj20
          refine TO.s rfl rfl rfl (StepS.idx rfl rfl (OwnS.rd (Ent.at 1 rfl)) ksliceB_30_81_2_true (idx_spec hx28).1 (idxm_lt hx28)) ?_
          refine TO.stO (i := x8.toNat) (off := 0) (us := [I x21.2, I x21.1]) 1 (x21.2, x21.1) rfl rfl rfl ksizeB_81_2_true rfl rfl rfl (idx_spec hx28).2 rfl (by simp [Value.oneCell']) rfl ?_
          cases hj20
          refine TO.nil fun a w e s => ?_
          exact ⟨v7, e.sub (lk_of_allIn ⟨rfl, rfl, rfl, rfl, rfl, trivial⟩), s.mono fun _ => Sat.dropN 1⟩
        · replace hj20 := cond_f hc26 hj20
          cases hj20
          refine TC.skip fun a w e s => ?_
          exact ⟨v7, e.sub (lk_of_allIn ⟨rfl, rfl, rfl, rfl, rfl, trivial⟩), s.mono fun _ => Sat.dropN 1⟩
      · intro a w ⟨v19, he, hs⟩
        refine TC.use ?_ he hs
        refine TC.region ?_
        refine TO.s rfl rfl rfl (StepS.ari rfl rfl rfl) ?_
        refine TO.s rfl rfl rfl (StepS.move rfl) ?_
        cases hb16
        refine TO.nil fun a w e s => ?_
        exact ⟨v19, e.sub (lk_of_allIn ⟨rfl, rfl, rfl, rfl, rfl, trivial⟩), s⟩
    · replace hb16 := cond_f hc17 hb16
      cases hb16
      refine TC.exit rfl fun a w e s => ?_
      exact ⟨v7, e.sub (lk_of_allIn ⟨rfl, trivial⟩), s⟩
  · exact fun a w e s => ⟨v4, e.sub (lk_of_allIn ⟨rfl, rfl, rfl, rfl, rfl, trivial⟩), s⟩
  · rintro y12 rfl a w ⟨v13, he, hs⟩
    dsimp only [Ctl.on] at hm
    refine TC.use ?_ he hs
    refine TC.k ?_
    refine TC.region ?_
    refine TO.s rfl rfl rfl (StepS.move rfl) ?_
    refine TO.s rfl rfl rfl (StepS.assign rfl) ?_
    refine TO.code ?_
    cases hm
    refine TC.ret fun a w e s => ?_
    refine FRet.mk1 (P := Try.prog) (fn := Try.f51) (t := 4) e rfl rfl ?_
    refine ⟨_, _, rfl, ⟨(v13), rfl, rfl⟩, ?_⟩
    refine s.mono fun _ s => ?_
    replace s := Sat.front 0 rfl s
    exact s
  · rintro r rfl
    exact fun a w h => h.elim

set_option maxRecDepth 100000 in
theorem C22 {B : World} {L : List HP} {a0 : Int} {a1 : List (Int × Int)} {a2 : Int} {h1 : Value} {r0 : List (Int × Int)} {r1 : Int} (e1 : Ent L (Rd 2 h1 (a1.map cTii))) (hm : F22 a0 a1 a2 = some (r0, r1)) {w : World} (st : St B L w) : Calls Try.prog 22 #[I a0, h1, I a2] w (fun e w' => ∃ v M, e = .returned v ∧ (∃ (qv1 : Value), v = .tuple #[qv1, I r1] ∧ M = (OwnS 81 2 qv1 (r0.map cTii) :: L)) ∧ St B M w') := by
  refine calls_of (N := 38) (L := L) (args := [I a0, h1, I a2]) Try.func22 rfl rfl rfl ?_ st
  dsimp only [F22] at hm
  refine TC.k ?_
  refine TC.region ?_
  refine TO.s rfl rfl rfl (StepS.assign rfl) ?_
  refine TO.s rfl rfl rfl (StepS.assign rfl) ?_
  refine TO.code ?_
  refine TC.k ?_
  refine TC.region ?_
  refine TO.s rfl rfl rfl (StepS.move rfl) ?_
  refine TO.s rfl rfl rfl (StepS.move rfl) ?_
  obtain ⟨⟨r2, r3⟩, hc4, hm⟩ := bind_some hm
  refine TO.q rfl rfl rfl (StepQ.call kcallB_19_true rfl rfl (fun _ st => C19 e1 hc4 st)) ?_
  refine TO.s rfl rfl rfl (StepS.move rfl) ?_
  refine TO.s rfl rfl rfl (StepS.extract rfl rfl) ?_
  refine TO.s rfl rfl rfl (StepS.extract rfl rfl) ?_
  refine TO.s rfl rfl rfl (StepS.assign rfl) ?_
  refine TO.s rfl rfl rfl (StepS.assign rfl) ?_
  refine TO.code ?_
  refine TC.k ?_
  refine TC.block ?_
  refine TC.k ?_
  refine TC.region ?_
  refine TO.s rfl rfl rfl (StepS.move rfl) ?_
  refine TO.s rfl rfl rfl (StepS.cmp rfl rfl rfl) ?_
  refine TO.s rfl rfl rfl (StepS.assign rfl) ?_
  refine TO.code ?_
  refine TC.cond rfl (fun hc5 => ?_) (fun hc5 => ?_)
  · replace hm := cond_t hc5 hm
    refine TC.k ?_
    refine TC.region ?_
    refine TO.s rfl rfl rfl (StepS.move rfl) ?_
    refine TO.s rfl rfl rfl (StepS.assign rfl) ?_
    refine TO.s rfl rfl rfl (StepS.assign rfl) ?_
    refine TO.code ?_
    cases hm
    refine TC.ret fun a w e s => ?_
    refine FRet.mk2 (P := Try.prog) (fn := Try.f22) (t := 6) (u := 7) e rfl rfl rfl ?_
    refine ⟨_, _, rfl, ⟨(.slice none 0 0), rfl, rfl⟩, ?_⟩
    refine s.mono fun _ s => ?_
    replace s := Sat.nilS (e := 81) (sz := 2) (f := cTii) s
    exact s
  · replace hm := cond_f hc5 hm
    refine TC.k ?_
    refine TC.region ?_
    refine TO.s rfl rfl rfl (StepS.move rfl) ?_
    refine TO.s rfl rfl rfl (StepS.cmp rfl rfl rfl) ?_
    refine TO.s rfl rfl rfl (StepS.move rfl) ?_
    refine TO.mid1 4 27 (.bool ((decide (a2 < 0)) || (decide (a2 ≥ a0)))) ?_ ?_
    · refine bcase ((decide (a2 < 0))) (fun hb6 => ?_) (fun hb6 => ?_)
      · refine TO.skip rfl rfl rfl (skipT hb6) rfl rfl ?_
        refine TO.skip rfl rfl rfl (skipT hb6) rfl rfl ?_
        refine TO.skip rfl rfl rfl (skipT hb6) rfl rfl ?_
        refine TO.s rfl rfl rfl (StepS.pickT rfl hb6 rfl) ?_
        exact TO.up1 4 0 rfl rfl (by rw [hb6]; rfl) rfl
      · refine TO.sw rfl rfl rfl hb6 rfl rfl (StepS.move rfl) ?_
        refine TO.sw rfl rfl rfl hb6 rfl rfl (StepS.move rfl) ?_
        refine TO.sw rfl rfl rfl hb6 rfl rfl (StepS.cmp rfl rfl rfl) ?_
        refine TO.s rfl rfl rfl (StepS.pickF rfl hb6 rfl) ?_
        exact TO.up1 4 0 rfl rfl (by rw [hb6]; rfl) rfl
    refine TO.s rfl rfl rfl (StepS.assign rfl) ?_
    refine TO.code ?_
    refine TC.cond rfl (fun hc7 => ?_) (fun hc7 => ?_)
    · replace hm := cond_t hc7 hm
      refine TC.k ?_
      refine TC.region ?_
      refine TO.s rfl rfl rfl (StepS.assign rfl) ?_
      refine TO.s rfl rfl rfl (StepS.assign rfl) ?_
      refine TO.code ?_
      cases hm
      refine TC.ret fun a w e s => ?_
      refine FRet.mk2 (P := Try.prog) (fn := Try.f22) (t := 6) (u := 7) e rfl rfl rfl ?_
      refine ⟨_, _, rfl, ⟨(.slice none 0 0), rfl, rfl⟩, ?_⟩
      refine s.mono fun _ s => ?_
      replace s := Sat.nilS (e := 81) (sz := 2) (f := cTii) s
      exact s
    · replace hm := cond_f hc7 hm
      refine TC.k ?_
      refine TC.region ?_
      refine TO.s rfl rfl rfl (StepS.move rfl) ?_
      refine TO.s rfl rfl rfl (StepS.move rfl) ?_
      obtain ⟨k8, hk9, hm⟩ := bind_some hm
      refine TO.s rfl rfl rfl (StepS.shrk rfl rfl hk9) ?_
      refine TO.s rfl rfl rfl (StepS.bitU (n := 1#32) rfl rfl rfl) ?_
      refine TO.s rfl rfl rfl (StepS.cmpU (n := 0#32) rfl rfl rfl) ?_
      refine TO.s rfl rfl rfl (StepS.assign rfl) ?_
      refine TO.code ?_
      refine TC.cond rfl (fun hc10 => ?_) (fun hc10 => ?_)
      · replace hm := cond_t hc10 hm
        refine TC.k ?_
        refine TC.region ?_
        refine TO.s rfl rfl rfl (StepS.assign rfl) ?_
        refine TO.s rfl rfl rfl (StepS.assign rfl) ?_
        refine TO.code ?_
        cases hm
        refine TC.ret fun a w e s => ?_
        refine FRet.mk2 (P := Try.prog) (fn := Try.f22) (t := 6) (u := 7) e rfl rfl rfl ?_
        refine ⟨_, _, rfl, ⟨(.slice none 0 0), rfl, rfl⟩, ?_⟩
        refine s.mono fun _ s => ?_
        replace s := Sat.nilS (e := 81) (sz := 2) (f := cTii) s
        exact s
      · replace hm := cond_f hc10 hm
        refine TC.skipk ?_
        refine TC.k ?_
        refine TC.region ?_
        refine TO.s rfl rfl rfl (StepS.move rfl) ?_
        refine TO.s rfl rfl rfl (StepS.move rfl) ?_
        obtain ⟨k11, hk12, hm⟩ := bind_some hm
        refine TO.s rfl rfl rfl (StepS.shlk (m := 1#32) rfl rfl hk12) ?_
        obtain ⟨r13, hc14, hm⟩ := bind_some hm
        refine TO.callO kcallB_51_true rfl rfl rfl (fun _ st => C51 e1 hc14 st) ?_
        rintro v15 _ ⟨_, rfl, rfl⟩
        refine TO.s rfl rfl rfl (StepS.assign rfl) ?_
        refine TO.s rfl rfl rfl (StepS.assign rfl) ?_
        refine TO.code ?_
        cases hm
        refine TC.ret fun a w e s => ?_
        refine FRet.mk2 (P := Try.prog) (fn := Try.f22) (t := 6) (u := 7) e rfl rfl rfl ?_
        refine ⟨_, _, rfl, ⟨(v15), rfl, rfl⟩, ?_⟩
        refine s.mono fun _ s => ?_
        replace s := Sat.front 0 rfl s
        exact s

set_option maxRecDepth 100000 in
theorem C23 {B : World} {L : List HP} {a0 : BitVec 32} {a1 : Int} {r0 : Bool} (hm : F23 a0 a1 = some r0) {w : World} (st : St B L w) : Calls Try.prog 23 #[U a0, I a1] w (fun e w' => (e = .returned (.bool r0) ∧ St B (L) w')) := by
  refine calls_of (N := 19) (L := L) (args := [U a0, I a1]) Try.func23 rfl rfl rfl ?_ st
  dsimp only [F23] at hm
  refine TC.k ?_
  refine TC.region ?_
  refine TO.s rfl rfl rfl (StepS.assign rfl) ?_
  refine TO.code ?_
  refine TC.k ?_
  refine TC.region ?_
  refine TO.s rfl rfl rfl (StepS.move rfl) ?_
  refine TO.s rfl rfl rfl (StepS.cmp rfl rfl rfl) ?_
  refine TO.s rfl rfl rfl (StepS.move rfl) ?_
  refine TO.mid1 3 10 (.bool ((decide (a1 ≥ 0)) && (decide (a1 < 32)))) ?_ ?_
  · refine bcase ((decide (a1 ≥ 0))) (fun hb1 => ?_) (fun hb1 => ?_)
    · refine TO.sw rfl rfl rfl hb1 rfl rfl (StepS.move rfl) ?_
      refine TO.sw rfl rfl rfl hb1 rfl rfl (StepS.cmp rfl rfl rfl) ?_
      refine TO.s rfl rfl rfl (StepS.pickT rfl hb1 rfl) ?_
      exact TO.up1 3 0 rfl rfl (by rw [hb1]; rfl) rfl
    · refine TO.skip rfl rfl rfl (skipF hb1) rfl rfl ?_
      refine TO.skip rfl rfl rfl (skipF hb1) rfl rfl ?_
      refine TO.s rfl rfl rfl (StepS.pickF rfl hb1 rfl) ?_
      exact TO.up1 3 0 rfl rfl (by rw [hb1]; rfl) rfl
  refine TO.s rfl rfl rfl (StepS.move rfl) ?_
  refine TO.mid1 7 18 (.bool (((decide (a1 ≥ 0)) && (decide (a1 < 32))) && ((a0 &&& ((1#32) <<< (u64 a1).toNat)) != (0#32)))) ?_ ?_
  · refine bcase (((decide (a1 ≥ 0)) && (decide (a1 < 32)))) (fun hb2 => ?_) (fun hb2 => ?_)
    · refine TO.sw rfl rfl rfl hb2 rfl rfl (StepS.move rfl) ?_
      refine TO.sw rfl rfl rfl hb2 rfl rfl (StepS.move rfl) ?_
      refine TO.sw rfl rfl rfl hb2 rfl rfl (StepS.cvIV kintB_3_i64_true kintB_42_u64_true rfl) ?_
      refine TO.sw rfl rfl rfl hb2 rfl rfl (StepS.shl (m := 1#32) rfl rfl (u64_nonneg _)) ?_
      refine TO.sw rfl rfl rfl hb2 rfl rfl (StepS.bitU rfl rfl rfl) ?_
      refine TO.sw rfl rfl rfl hb2 rfl rfl (StepS.cmpU (n := 0#32) rfl rfl rfl) ?_
      refine TO.s rfl rfl rfl (StepS.pickT rfl hb2 rfl) ?_
      exact TO.up1 7 0 rfl rfl (by rw [hb2]; rfl) rfl
    · refine TO.skip rfl rfl rfl (skipF hb2) rfl rfl ?_
      refine TO.skip rfl rfl rfl (skipF hb2) rfl rfl ?_
      refine TO.skip rfl rfl rfl (skipF hb2) rfl rfl ?_
      refine TO.skip rfl rfl rfl (skipF hb2) rfl rfl ?_
      refine TO.skip rfl rfl rfl (skipF hb2) rfl rfl ?_
      refine TO.skip rfl rfl rfl (skipF hb2) rfl rfl ?_
      refine TO.s rfl rfl rfl (StepS.pickF rfl hb2 rfl) ?_
      exact TO.up1 7 0 rfl rfl (by rw [hb2]; rfl) rfl
  refine TO.s rfl rfl rfl (StepS.assign rfl) ?_
  refine TO.code ?_
  cases hm
  refine TC.ret fun a w e s => ?_
  refine FRet.mk1 (P := Try.prog) (fn := Try.f23) (t := 4) e rfl rfl ?_
  exact ⟨rfl, s.mono fun _ => Sat.dropN 0⟩

set_option maxRecDepth 100000 in
theorem C25 {B : World} {L : List HP} {a0 : List (Int × Int)} {a1 : BitVec 32} {h0 : Value} {r0 : List (Int × Int)} (e0 : Ent L (Rd 2 h0 (a0.map cTii))) (hm : F25 a0 a1 = some r0) {w : World} (st : St B L w) : Calls Try.prog 25 #[h0, U a1] w (fun e w' => ∃ v M, e = .returned v ∧ (∃ (qv1 : Value), v = qv1 ∧ M = (OwnS 81 2 qv1 (r0.map cTii) :: L)) ∧ St B M w') := by
  refine calls_of (N := 35) (L := L) (args := [h0, U a1]) Try.func25 rfl rfl rfl ?_ st
  dsimp only [F25] at hm
  refine TC.k ?_
  refine TC.region ?_
  refine TO.s rfl rfl rfl (StepS.assign rfl) ?_
  refine TO.code ?_
  refine TC.k ?_
  refine TC.region ?_
  refine TO.s rfl rfl rfl (StepS.assign rfl) ?_
  refine TO.code ?_
  refine TC.k ?_
  refine TC.k ?_
  refine TC.region ?_
  refine TO.s rfl rfl rfl (StepS.move rfl) ?_
  refine TO.s rfl rfl rfl (StepS.lenm rfl e0 ksliceB_30_81_2_true rfl) ?_
  refine TO.s rfl rfl rfl (StepS.move rfl) ?_
  refine TO.code ?_
  obtain ⟨o13, hw14, hm⟩ := bind_some hm
  refine TC.loop hw14 (fun (y4, x5) => fun a w => ∃ v2 : Value, Mid 35 B [(1, U a1), (5, v2), (8, h0), (9, I (a0.length : Int)), (10, I x5)] (OwnS 81 2 v2 (y4.map cTii) :: L) a w) (fun y12 => fun a w => ∃ v10 : Value, Mid 35 B [(5, v10)] (OwnS 81 2 v10 (y12.map cTii) :: L) a w) (fun (_ : Unit) _ _ => False) ?_ ?_ ?_ ?_
  · rintro ⟨y4, x5⟩ o13r hb15 a w ⟨v2, he, hs⟩
    dsimp only [F25_L0] at hb15
    refine TC.use ?_ he hs
    refine TC.k ?_
    refine TC.region ?_
    refine TO.s rfl rfl rfl (StepS.cmp rfl rfl rfl) ?_
    refine TO.code ?_
    refine TC.k ?_
    refine TC.cond rfl (fun hc16 => ?_) (fun hc16 => ?_)
    · replace hb15 := cond_t hc16 hb15
      refine TC.skipk ?_
      refine TC.k ?_
      refine TC.block ?_
      refine TC.k ?_
      refine TC.region ?_
      obtain ⟨x17, hx18, hb15⟩ := bind_some hb15
      refine TO.s rfl rfl rfl (StepS.idx rfl rfl e0.tl ksliceB_30_81_2_true (idx_spec hx18).1 (idxm_lt hx18)) ?_
      refine TO.s rfl rfl rfl (StepS.ldE rfl e0.tl kaggB_81_2_true rfl (idxm hx18)) ?_
      refine TO.alloc kinfo_81_bind_zero_some_agg_I_0_I_0 rfl rfl fun b19 => ?_
      refine TO.stB (us := [I x17.1, I x17.2]) 0 [I x17.1, I x17.2] rfl rfl rfl ksizeB_81_2_true rfl rfl rfl (by simp [Value.oneCell']) rfl ?_
      refine TO.code ?_
      refine TC.k ?_
      refine TC.k ?_
      refine TC.region ?_
      refine TO.s rfl rfl rfl (StepS.move rfl) ?_
      refine TO.s rfl rfl rfl (StepS.aidx (j := 0) rfl rfl karrB_81_2_3_1_true ⟨by decide, by decide⟩ rfl) ?_
      refine TO.s rfl rfl rfl (StepS.ldB rfl (Ent.at 0 rfl) kscalB_3_true rfl) ?_
      obtain ⟨r20, hc21, hb15⟩ := bind_some hb15
      refine TO.q rfl rfl rfl (StepQ.call kcallB_23_true rfl rfl (fun _ st => C23  hc21 st)) ?_
      refine TO.s rfl rfl rfl (StepS.move rfl) ?_
      obtain ⟨b23, hj24, hb15⟩ := bind_some hb15
      refine TO.mid1 5 23 (.bool b23) ?_ ?_
      · refine bcase (r20) (fun hb22 => ?_) (fun hb22 => ?_)
        · replace hj24 := cond_t hb22 hj24
          cases hj24
          refine TO.skip rfl rfl rfl (skipT hb22) rfl rfl ?_
          refine TO.skip rfl rfl rfl (skipT hb22) rfl rfl ?_
          refine TO.skip rfl rfl rfl (skipT hb22) rfl rfl ?_
          refine TO.skip rfl rfl rfl (skipT hb22) rfl rfl ?_
          refine TO.s rfl rfl rfl (StepS.pickT rfl hb22 rfl) ?_
          exact TO.up1 5 0 rfl rfl rfl rfl
        · replace hj24 := cond_f hb22 hj24
          refine TO.sw rfl rfl rfl hb22 rfl rfl (StepS.move rfl) ?_
          refine TO.sw rfl rfl rfl hb22 rfl rfl (StepS.aidx (j := 1) rfl rfl karrB_81_2_3_1_true ⟨by decide, by decide⟩ rfl) ?_
          refine TO.sw rfl rfl rfl hb22 rfl rfl (StepS.ldB rfl (Ent.at 0 rfl) kscalB_3_true rfl) ?_
          obtain ⟨r25, hc26, hj24⟩ := bind_some hj24
          refine TO.qw rfl rfl rfl hb22 rfl rfl (StepQ.call kcallB_23_true rfl rfl (fun _ st => C23  hc26 st)) ?_
          cases hj24
          refine TO.s rfl rfl rfl (StepS.pickF rfl hb22 rfl) ?_
          exact TO.up1 5 0 rfl rfl rfl rfl
      refine TO.code ?_
      obtain ⟨⟨x27, x28⟩, hj29, hb15⟩ := bind_some hb15
      refine TC.cutM (fun a w => Mid 35 B [(1, U a1), (5, v2), (7, .pointer (some ⟨b19, 0, none⟩)), (8, h0), (9, I (a0.length : Int)), (10, I x5)] (Bx b19 81 [I x27, I x28] :: OwnS 81 2 v2 (y4.map cTii) :: L) a w) ?_ ?_
      · refine TC.cond rfl (fun hc30 => ?_) (fun hc30 => ?_)
        · replace hj29 := cond_t hc30 hj29
          refine TC.region ?_
          refine TO.s rfl rfl rfl (StepS.aidx (j := 1) rfl rfl karrB_81_2_3_1_true ⟨by decide, by decide⟩ rfl) ?_
          refine TO.s rfl rfl rfl (StepS.ldB rfl (Ent.at 0 rfl) kscalB_3_true rfl) ?_
          refine TO.s rfl rfl rfl (StepS.aidx (j := 0) rfl rfl karrB_81_2_3_1_true ⟨by decide, by decide⟩ rfl) ?_
          refine TO.s rfl rfl rfl (StepS.ldB rfl (Ent.at 0 rfl) kscalB_3_true rfl) ?_
          refine TO.s rfl rfl rfl (StepS.build (cs := [I x17.2, I x17.1]) rfl (by kernel_rfl)) ?_
          refine TO.stB (us := [I x17.2, I x17.1]) 0 [I x17.2, I x17.1] rfl rfl rfl ksizeB_81_2_true rfl rfl rfl (by simp [Value.oneCell']) rfl ?_
          cases hj29
          refine TO.nil fun a w e s => ?_
          exact ⟨e.sub (lk_of_allIn ⟨rfl, rfl, rfl, rfl, rfl, rfl, trivial⟩), s⟩
        · replace hj29 := cond_f hc30 hj29
          cases hj29
          refine TC.skip fun a w e s => ?_
          exact ⟨e.sub (lk_of_allIn ⟨rfl, rfl, rfl, rfl, rfl, rfl, trivial⟩), s⟩
      · intro a w ⟨he, hs⟩
        refine TC.use ?_ he hs
        refine TC.region ?_
        refine TO.s rfl rfl rfl (StepS.move rfl) ?_
        refine TO.s rfl rfl rfl (StepS.ldBA rfl (Ent.at 0 rfl) kaggB_81_2_true rfl rfl) ?_
        refine TO.litS (f := cTii) ([(x27, x28)] : List (Int × Int)) kelemB_30_81_2_16_true kinfo_81_bind_zero_some_agg_I_0_I_0 rfl rfl (fun _ => rfl) rfl rfl (by kernel_rfl) rfl fun v31 => ?_
        obtain ⟨y33, hk34, hb15⟩ := bind_some hb15
        refine TO.app (k := 2) (f := cTii) kelemB_30_81_2_16_true (by decide) rfl rfl rfl (OwnS.rd (Ent.at 0 rfl)) hk34 (fun x c hc => by simp [Value.oneCell'] at hc ⊢; first | (obtain rfl := hc; rfl) | (rcases hc with rfl | rfl <;> rfl)) rfl rfl fun v35 => ?_
        refine TO.s rfl rfl rfl (StepS.assign rfl) ?_
        refine TO.code ?_
        refine TC.region ?_
        refine TO.s rfl rfl rfl (StepS.ari rfl rfl rfl) ?_
        refine TO.s rfl rfl rfl (StepS.move rfl) ?_
        cases hb15
        refine TO.nil fun a w e s => ?_
        exact ⟨v35, e.sub (lk_of_allIn ⟨rfl, rfl, rfl, rfl, rfl, trivial⟩), s.mono fun _ => Sat.dropN 2⟩
    · replace hb15 := cond_f hc16 hb15
      cases hb15
      refine TC.exit rfl fun a w e s => ?_
      exact ⟨v2, e.sub (lk_of_allIn ⟨rfl, trivial⟩), s⟩
  · exact fun a w e s => ⟨.slice none 0 0, e.sub (lk_of_allIn ⟨rfl, rfl, rfl, rfl, rfl, trivial⟩), s.mono fun _ s => (by replace s := Sat.nilS (e := 81) (sz := 2) (f := cTii) s; exact s)⟩
  · rintro y12 rfl a w ⟨v10, he, hs⟩
    dsimp only [Ctl.on] at hm
    refine TC.use ?_ he hs
    refine TC.k ?_
    refine TC.region ?_
    refine TO.s rfl rfl rfl (StepS.move rfl) ?_
    refine TO.s rfl rfl rfl (StepS.assign rfl) ?_
    refine TO.code ?_
    cases hm
    refine TC.ret fun a w e s => ?_
    refine FRet.mk1 (P := Try.prog) (fn := Try.f25) (t := 4) e rfl rfl ?_
    refine ⟨_, _, rfl, ⟨(v10), rfl, rfl⟩, ?_⟩
    refine s.mono fun _ s => ?_
    replace s := Sat.front 0 rfl s
    exact s
  · rintro r rfl
    exact fun a w h => h.elim

set_option maxRecDepth 100000 in
theorem C24 {B : World} {L : List HP} {a0 : List (Int × Int)} {a1 : List (Int × Int)} {h0 : Value} {h1 : Value} {r0 : Bool} (e0 : Ent L (Rd 2 h0 (a0.map cTii))) (e1 : Ent L (Rd 2 h1 (a1.map cTii))) (hm : F24 a0 a1 = some r0) {w : World} (st : St B L w) : Calls Try.prog 24 #[h0, h1] w (fun e w' => (e = .returned (.bool r0) ∧ St B (L) w')) := by
  refine calls_of (N := 26) (L := L) (args := [h0, h1]) Try.func24 rfl rfl rfl ?_ st
  dsimp only [F24] at hm
  refine TC.k ?_
  refine TC.region ?_
  refine TO.s rfl rfl rfl (StepS.assign rfl) ?_
  refine TO.code ?_
  refine TC.k ?_
  refine TC.k ?_
  refine TC.region ?_
  refine TO.s rfl rfl rfl (StepS.move rfl) ?_
  refine TO.s rfl rfl rfl (StepS.lenm rfl e0 ksliceB_30_81_2_true rfl) ?_
  refine TO.s rfl rfl rfl (StepS.move rfl) ?_
  refine TO.s rfl rfl rfl (StepS.lenm rfl e1 ksliceB_30_81_2_true rfl) ?_
  refine TO.s rfl rfl rfl (StepS.cmp rfl rfl rfl) ?_
  refine TO.code ?_
  refine TC.cond rfl (fun hc1 => ?_) (fun hc1 => ?_)
  · replace hm := cond_t hc1 hm
    refine TC.k ?_
    refine TC.region ?_
    refine TO.s rfl rfl rfl (StepS.assign rfl) ?_
    refine TO.code ?_
    cases hm
    refine TC.ret fun a w e s => ?_
    refine FRet.mk1 (P := Try.prog) (fn := Try.f24) (t := 4) e rfl rfl ?_
    exact ⟨rfl, s.mono fun _ => Sat.dropN 0⟩
  · replace hm := cond_f hc1 hm
    refine TC.skipk ?_
    refine TC.k ?_
    refine TC.k ?_
    refine TC.region ?_
    refine TO.s rfl rfl rfl (StepS.assign rfl) ?_
    refine TO.code ?_
    obtain ⟨o4, hw5, hm⟩ := bind_some hm
    refine TC.loop hw5 (fun x2 => fun a w => Mid 26 B [(0, h0), (1, h1), (5, I x2)] (L) a w) (fun _ => fun a w => Mid 26 B [] (L) a w) (fun r0 => FRet Try.prog Try.f24 (fun e w' => (e = .returned (.bool r0) ∧ St B (L) w'))) ?_ ?_ ?_ ?_
    · rintro x2 o4r hb6 a w ⟨he, hs⟩
      dsimp only [F24_L0] at hb6
      refine TC.use ?_ he hs
      refine TC.k ?_
      refine TC.k ?_
      refine TC.region ?_
      refine TO.s rfl rfl rfl (StepS.move rfl) ?_
      refine TO.s rfl rfl rfl (StepS.move rfl) ?_
      refine TO.s rfl rfl rfl (StepS.lenm rfl e0 ksliceB_30_81_2_true rfl) ?_
      refine TO.s rfl rfl rfl (StepS.cmp rfl rfl rfl) ?_
      refine TO.code ?_
      refine TC.cond rfl (fun hc7 => ?_) (fun hc7 => ?_)
      · replace hb6 := cond_t hc7 hb6
        refine TC.skipk ?_
        refine TC.k ?_
        refine TC.block ?_
        refine TC.k ?_
        refine TC.region_still kfollows_mixedOrders_true (by kernel_rfl) ?_
        refine TS.s rfl rfl rfl (StepS.move rfl) ?_
        refine TS.s rfl rfl rfl (StepS.move rfl) ?_
        obtain ⟨x8, hx9, hb6⟩ := bind_some hb6
        refine TS.s rfl rfl rfl (StepS.idx rfl rfl e0 ksliceB_30_81_2_true (idx_spec hx9).1 (idxm_lt hx9)) ?_
        refine TS.s rfl rfl rfl (StepS.ldE rfl e0 kaggB_81_2_true rfl (idxm hx9)) ?_
        refine TS.s rfl rfl rfl (StepS.move rfl) ?_
        refine TS.s rfl rfl rfl (StepS.move rfl) ?_
        obtain ⟨x10, hx11, hb6⟩ := bind_some hb6
        refine TS.s rfl rfl rfl (StepS.idx rfl rfl e1 ksliceB_30_81_2_true (idx_spec hx11).1 (idxm_lt hx11)) ?_
        refine TS.s rfl rfl rfl (StepS.ldE rfl e1 kaggB_81_2_true rfl (idxm hx11)) ?_
        refine TS.s rfl rfl rfl (StepS.ne2 kunderlying_81_some_array_2_3 kunderlying_3_some_int_i64 ksizeB_3_1_true kscalB_3_true keqGuardType_depth_81_false rfl rfl) ?_
        refine TS.code ?_
        refine TC.cond rfl (fun hc12 => ?_) (fun hc12 => ?_)
        · replace hb6 := cond_t hc12 hb6
          refine TC.k ?_
          refine TC.region ?_
          refine TO.s rfl rfl rfl (StepS.assign rfl) ?_
          refine TO.code ?_
          cases hb6
          refine TC.ret fun a w e s => ?_
          refine FRet.mk1 (P := Try.prog) (fn := Try.f24) (t := 4) e rfl rfl ?_
          exact ⟨rfl, s.mono fun _ => Sat.dropN 0⟩
        · replace hb6 := cond_f hc12 hb6
          refine TC.skipk ?_
          refine TC.region ?_
          refine TO.s rfl rfl rfl (StepS.move rfl) ?_
          refine TO.s rfl rfl rfl (StepS.ari rfl rfl rfl) ?_
          refine TO.s rfl rfl rfl (StepS.assign rfl) ?_
          cases hb6
          refine TO.nil fun a w e s => ?_
          exact ⟨e.sub (lk_of_allIn ⟨rfl, rfl, rfl, trivial⟩), s⟩
      · replace hb6 := cond_f hc7 hb6
        cases hb6
        refine TC.exit rfl fun a w e s => ?_
        exact ⟨e.sub (lk_of_allIn trivial), s⟩
    · exact fun a w e s => ⟨e.sub (lk_of_allIn ⟨rfl, rfl, rfl, trivial⟩), s⟩
    · rintro _ rfl a w ⟨he, hs⟩
      dsimp only [Ctl.on] at hm
      refine TC.use ?_ he hs
      refine TC.k ?_
      refine TC.region ?_
      refine TO.s rfl rfl rfl (StepS.assign rfl) ?_
      refine TO.code ?_
      cases hm
      refine TC.ret fun a w e s => ?_
      refine FRet.mk1 (P := Try.prog) (fn := Try.f24) (t := 4) e rfl rfl ?_
      exact ⟨rfl, s.mono fun _ => Sat.dropN 0⟩
    · rintro r rfl
      cases hm
      exact fun a w h => h

set_option maxRecDepth 100000 in
theorem C6 {B : World} {L : List HP} {a0 : Int} {a1 : List (Int × Int)} {a2 : Int} {h1 : Value} {r0 : Bool} (e1 : Ent L (Rd 2 h1 (a1.map cTii))) (hm : F6 a0 a1 a2 = some r0) {w : World} (st : St B L w) : Calls Try.prog 6 #[I a0, h1, I a2] w (fun e w' => (e = .returned (.bool r0) ∧ St B (L) w')) := by
  refine calls_of (N := 62) (L := L) (args := [I a0, h1, I a2]) Try.func6 rfl rfl rfl ?_ st
  dsimp only [F6] at hm
  refine TC.k ?_
  refine TC.region ?_
  refine TO.s rfl rfl rfl (StepS.assign rfl) ?_
  refine TO.code ?_
  refine TC.k ?_
  refine TC.region ?_
  refine TO.s rfl rfl rfl (StepS.move rfl) ?_
  refine TO.s rfl rfl rfl (StepS.move rfl) ?_
  refine TO.s rfl rfl rfl (StepS.move rfl) ?_
  obtain ⟨⟨r1, r2⟩, hc3, hm⟩ := bind_some hm
  refine TO.callO kcallB_22_true rfl rfl rfl (fun _ st => C22 e1 hc3 st) ?_
  rintro _ _ ⟨v4, rfl, rfl⟩
  refine TO.s rfl rfl rfl (StepS.move rfl) ?_
  refine TO.s rfl rfl rfl (StepS.extract rfl rfl) ?_
  refine TO.s rfl rfl rfl (StepS.extract rfl rfl) ?_
  refine TO.s rfl rfl rfl (StepS.assign rfl) ?_
  refine TO.s rfl rfl rfl (StepS.assign rfl) ?_
  refine TO.code ?_
  refine TC.k ?_
  refine TC.region ?_
  refine TO.s rfl rfl rfl (StepS.move rfl) ?_
  refine TO.s rfl rfl rfl (StepS.move rfl) ?_
  obtain ⟨r6, hc7, hm⟩ := bind_some hm
  refine TO.q rfl rfl rfl (StepQ.call kcallB_20_true rfl rfl (fun _ st => C20 e1.tl hc7 st)) ?_
  refine TO.s rfl rfl rfl (StepS.assign rfl) ?_
  refine TO.code ?_
  refine TC.k ?_
  refine TC.k ?_
  refine TC.region ?_
  refine TO.s rfl rfl rfl (StepS.move rfl) ?_
  refine TO.s rfl rfl rfl (StepS.cmp rfl rfl rfl) ?_
  refine TO.s rfl rfl rfl (StepS.move rfl) ?_
  refine TO.mid1 8 30 (.bool ((r6 == 0) && ((decide (a2 < 0)) || (decide (a2 ≥ a0))))) ?_ ?_
  · refine bcase ((r6 == 0)) (fun hb8 => ?_) (fun hb8 => ?_)
    · refine TO.sw rfl rfl rfl hb8 rfl rfl (StepS.move rfl) ?_
      refine TO.sw rfl rfl rfl hb8 rfl rfl (StepS.cmp rfl rfl rfl) ?_
      refine TO.sw rfl rfl rfl hb8 rfl rfl (StepS.move rfl) ?_
      refine TO.mid1 4 29 (.bool ((decide (a2 < 0)) || (decide (a2 ≥ a0)))) ?_ ?_
      · refine bcase ((decide (a2 < 0))) (fun hb9 => ?_) (fun hb9 => ?_)
        · refine TO.skip rfl rfl rfl (skipT hb9) rfl rfl ?_
          refine TO.skip rfl rfl rfl (skipT hb9) rfl rfl ?_
          refine TO.skip rfl rfl rfl (skipT hb9) rfl rfl ?_
          refine TO.sw rfl rfl rfl hb8 rfl rfl (StepS.pickT rfl hb9 rfl) ?_
          exact TO.up1 4 0 rfl rfl (by rw [hb9]; rfl) rfl
        · refine TO.sw rfl rfl rfl hb9 rfl rfl (StepS.move rfl) ?_
          refine TO.sw rfl rfl rfl hb9 rfl rfl (StepS.move rfl) ?_
          refine TO.sw rfl rfl rfl hb9 rfl rfl (StepS.cmp rfl rfl rfl) ?_
          refine TO.sw rfl rfl rfl hb8 rfl rfl (StepS.pickF rfl hb9 rfl) ?_
          exact TO.up1 4 0 rfl rfl (by rw [hb9]; rfl) rfl
      refine TO.s rfl rfl rfl (StepS.pickT rfl hb8 rfl) ?_
      exact TO.up1 5 0 rfl rfl (by rw [hb8]; rfl) rfl
    · refine TO.skip rfl rfl rfl (skipF hb8) rfl rfl ?_
      refine TO.skip rfl rfl rfl (skipF hb8) rfl rfl ?_
      refine TO.skip rfl rfl rfl (skipF hb8) rfl rfl ?_
      refine TO.skip rfl rfl rfl skipU rfl rfl ?_
      refine TO.skip rfl rfl rfl skipU rfl rfl ?_
      refine TO.skip rfl rfl rfl skipU rfl rfl ?_
      refine TO.skip rfl rfl rfl (skipF hb8) rfl rfl ?_
      refine TO.s rfl rfl rfl (StepS.pickF rfl hb8 rfl) ?_
      exact TO.up1 8 0 rfl rfl (by rw [hb8]; rfl) rfl
  refine TO.code ?_
  obtain ⟨x10, hj11, hm⟩ := bind_some hm
  refine TC.cutM (fun a w => Mid 62 B [(0, I a0), (1, h1), (2, I a2), (7, v4), (8, I r2), (9, I x10)] (OwnS 81 2 v4 (r1.map cTii) :: L) a w) ?_ ?_
  · refine TC.cond rfl (fun hc12 => ?_) (fun hc12 => ?_)
    · replace hj11 := cond_t hc12 hj11
      refine TC.region ?_
      refine TO.s rfl rfl rfl (StepS.assign rfl) ?_
      cases hj11
      refine TO.nil fun a w e s => ?_
      exact ⟨e.sub (lk_of_allIn ⟨rfl, rfl, rfl, rfl, rfl, rfl, trivial⟩), s⟩
    · replace hj11 := cond_f hc12 hj11
      cases hj11
      refine TC.skip fun a w e s => ?_
      exact ⟨e.sub (lk_of_allIn ⟨rfl, rfl, rfl, rfl, rfl, rfl, trivial⟩), s⟩
  · intro a w ⟨he, hs⟩
    refine TC.use ?_ he hs
    refine TC.k ?_
    refine TC.k ?_
    refine TC.region ?_
    refine TO.s rfl rfl rfl (StepS.move rfl) ?_
    refine TO.s rfl rfl rfl (StepS.cmp rfl rfl rfl) ?_
    refine TO.s rfl rfl rfl (StepS.move rfl) ?_
    obtain ⟨b14, hj15, hm⟩ := bind_some hm
    refine TO.mid1 7 40 (.bool b14) ?_ ?_
    · refine bcase ((x10 == 0)) (fun hb13 => ?_) (fun hb13 => ?_)
      · replace hj15 := cond_t hb13 hj15
        refine TO.sw rfl rfl rfl hb13 rfl rfl (StepS.move rfl) ?_
        refine TO.sw rfl rfl rfl hb13 rfl rfl (StepS.move rfl) ?_
        obtain ⟨r16, hc17, hj15⟩ := bind_some hj15
        refine TO.qw rfl rfl rfl hb13 rfl rfl (StepQ.call kcallB_21_true rfl rfl (fun _ st => C21 e1.tl hc17 st)) ?_
        refine TO.sw rfl rfl rfl hb13 rfl rfl (StepS.move rfl) ?_
        obtain ⟨r18, hc19, hj15⟩ := bind_some hj15
        refine TO.qw rfl rfl rfl hb13 rfl rfl (StepQ.call kcallB_23_true rfl rfl (fun _ st => C23  hc19 st)) ?_
        refine TO.sw rfl rfl rfl hb13 rfl rfl (StepS.not rfl) ?_
        cases hj15
        refine TO.s rfl rfl rfl (StepS.pickT rfl hb13 rfl) ?_
        exact TO.up1 7 0 rfl rfl rfl rfl
      · replace hj15 := cond_f hb13 hj15
        cases hj15
        refine TO.skip rfl rfl rfl (skipF hb13) rfl rfl ?_
        refine TO.skip rfl rfl rfl (skipF hb13) rfl rfl ?_
        refine TO.skip rfl rfl rfl (skipF hb13) rfl rfl ?_
        refine TO.skip rfl rfl rfl (skipF hb13) rfl rfl ?_
        refine TO.skip rfl rfl rfl (skipF hb13) rfl rfl ?_
        refine TO.skip rfl rfl rfl (skipF hb13) rfl rfl ?_
        refine TO.s rfl rfl rfl (StepS.pickF rfl hb13 rfl) ?_
        exact TO.up1 7 0 rfl rfl rfl rfl
    refine TO.code ?_
    obtain ⟨x20, hj21, hm⟩ := bind_some hm
    refine TC.cutM (fun a w => Mid 62 B [(1, h1), (2, I a2), (7, v4), (8, I r2), (9, I x20)] (OwnS 81 2 v4 (r1.map cTii) :: L) a w) ?_ ?_
    · refine TC.cond rfl (fun hc22 => ?_) (fun hc22 => ?_)
      · replace hj21 := cond_t hc22 hj21
        refine TC.region ?_
        refine TO.s rfl rfl rfl (StepS.assign rfl) ?_
        cases hj21
        refine TO.nil fun a w e s => ?_
        exact ⟨e.sub (lk_of_allIn ⟨rfl, rfl, rfl, rfl, rfl, trivial⟩), s⟩
      · replace hj21 := cond_f hc22 hj21
        cases hj21
        refine TC.skip fun a w e s => ?_
        exact ⟨e.sub (lk_of_allIn ⟨rfl, rfl, rfl, rfl, rfl, trivial⟩), s⟩
    · intro a w ⟨he, hs⟩
      refine TC.use ?_ he hs
      refine TC.k ?_
      refine TC.k ?_
      refine TC.region ?_
      refine TO.s rfl rfl rfl (StepS.move rfl) ?_
      refine TO.s rfl rfl rfl (StepS.cmp rfl rfl rfl) ?_
      refine TO.code ?_
      refine TC.cond rfl (fun hc23 => ?_) (fun hc23 => ?_)
      · replace hm := cond_t hc23 hm
        refine TC.k ?_
        refine TC.region ?_
        refine TO.s rfl rfl rfl (StepS.move rfl) ?_
        refine TO.s rfl rfl rfl (StepS.move rfl) ?_
        refine TO.s rfl rfl rfl (StepS.cmp rfl rfl rfl) ?_
        refine TO.s rfl rfl rfl (StepS.move rfl) ?_
        refine TO.mid1 4 50 (.bool ((r2 == x20) && ((r1.length : Int) == 0))) ?_ ?_
        · refine bcase ((r2 == x20)) (fun hb24 => ?_) (fun hb24 => ?_)
          · refine TO.sw rfl rfl rfl hb24 rfl rfl (StepS.move rfl) ?_
            refine TO.sw rfl rfl rfl hb24 rfl rfl (StepS.lenm rfl (OwnS.rd (Ent.at 0 rfl)) ksliceB_30_81_2_true rfl) ?_
            refine TO.sw rfl rfl rfl hb24 rfl rfl (StepS.cmp rfl rfl rfl) ?_
            refine TO.s rfl rfl rfl (StepS.pickT rfl hb24 rfl) ?_
            exact TO.up1 4 0 rfl rfl (by rw [hb24]; rfl) rfl
          · refine TO.skip rfl rfl rfl (skipF hb24) rfl rfl ?_
            refine TO.skip rfl rfl rfl (skipF hb24) rfl rfl ?_
            refine TO.skip rfl rfl rfl (skipF hb24) rfl rfl ?_
            refine TO.s rfl rfl rfl (StepS.pickF rfl hb24 rfl) ?_
            exact TO.up1 4 0 rfl rfl (by rw [hb24]; rfl) rfl
        refine TO.s rfl rfl rfl (StepS.assign rfl) ?_
        refine TO.code ?_
        cases hm
        refine TC.ret fun a w e s => ?_
        refine FRet.mk1 (P := Try.prog) (fn := Try.f6) (t := 6) e rfl rfl ?_
        exact ⟨rfl, s.mono fun _ => Sat.dropN 1⟩
      · replace hm := cond_f hc23 hm
        refine TC.skipk ?_
        refine TC.k ?_
        refine TC.region ?_
        refine TO.s rfl rfl rfl (StepS.move rfl) ?_
        refine TO.s rfl rfl rfl (StepS.cmp rfl rfl rfl) ?_
        refine TO.s rfl rfl rfl (StepS.move rfl) ?_
        obtain ⟨b26, hj27, hm⟩ := bind_some hm
        refine TO.mid1 8 61 (.bool b26) ?_ ?_
        · refine bcase ((r2 == 0)) (fun hb25 => ?_) (fun hb25 => ?_)
          · replace hj27 := cond_t hb25 hj27
            refine TO.sw rfl rfl rfl hb25 rfl rfl (StepS.move rfl) ?_
            refine TO.sw rfl rfl rfl hb25 rfl rfl (StepS.move rfl) ?_
            refine TO.sw rfl rfl rfl hb25 rfl rfl (StepS.move rfl) ?_
            refine TO.sw rfl rfl rfl hb25 rfl rfl (StepS.cvIV kintB_3_i64_true kintB_42_u64_true rfl) ?_
            refine TO.sw rfl rfl rfl hb25 rfl rfl (StepS.shl (m := 1#32) rfl rfl (u64_nonneg _)) ?_
            obtain ⟨r28, hc29, hj27⟩ := bind_some hj27
            refine TO.callOw rfl rfl hb25 kcallB_25_true rfl rfl rfl (fun _ st => C25 e1.tl hc29 st) ?_
            rintro v30 _ ⟨_, rfl, rfl⟩
            obtain ⟨r32, hc33, hj27⟩ := bind_some hj27
            refine TO.qw rfl rfl rfl hb25 rfl rfl (StepQ.call kcallB_24_true rfl rfl (fun _ st => C24 (OwnS.rd (Ent.at 1 rfl)) (OwnS.rd (Ent.at 0 rfl)) hc33 st)) ?_
            cases hj27
            refine TO.s rfl rfl rfl (StepS.pickT rfl hb25 rfl) ?_
            exact TO.up1 8 1 rfl rfl rfl rfl
          · replace hj27 := cond_f hb25 hj27
            cases hj27
            refine TO.skip rfl rfl rfl (skipF hb25) rfl rfl ?_
            refine TO.skip rfl rfl rfl (skipF hb25) rfl rfl ?_
            refine TO.skip rfl rfl rfl (skipF hb25) rfl rfl ?_
            refine TO.skip rfl rfl rfl (skipF hb25) rfl rfl ?_
            refine TO.skip rfl rfl rfl (skipF hb25) rfl rfl ?_
            refine TO.skip rfl rfl rfl (skipF hb25) rfl rfl ?_
            refine TO.skip rfl rfl rfl (skipF hb25) rfl rfl ?_
            refine TO.s rfl rfl rfl (StepS.pickF rfl hb25 rfl) ?_
            exact TO.up1 8 0 rfl rfl rfl rfl
        refine TO.s rfl rfl rfl (StepS.assign rfl) ?_
        refine TO.code ?_
        cases hm
        refine TC.ret fun a w e s => ?_
        refine FRet.mk1 (P := Try.prog) (fn := Try.f6) (t := 6) e rfl rfl ?_
        exact ⟨rfl, s.mono fun _ => Sat.dropN 1⟩

set_option maxRecDepth 100000 in
theorem C33 {B : World} {L : List HP} {a0 : List Int} {h0 : Value} {r0 : Int} {r1 : Int} (e0 : Ent L (Rd 1 h0 (a0.map cI))) (hm : F33 a0 = some (r0, r1)) {w : World} (st : St B L w) : Calls Try.prog 33 #[h0] w (fun e w' => (e = .returned (.tuple #[I r0, I r1]) ∧ St B (L) w')) := by
  refine calls_of (N := 22) (L := L) (args := [h0]) Try.func33 rfl rfl rfl ?_ st
  dsimp only [F33] at hm
  refine TC.k ?_
  refine TC.region ?_
  refine TO.s rfl rfl rfl (StepS.assign rfl) ?_
  refine TO.s rfl rfl rfl (StepS.assign rfl) ?_
  refine TO.code ?_
  refine TC.k ?_
  refine TC.k ?_
  refine TC.region ?_
  refine TO.s rfl rfl rfl (StepS.move rfl) ?_
  obtain ⟨r1, hc2, hm⟩ := bind_some hm
  refine TO.q rfl rfl rfl (StepQ.call kcallB_55_true rfl rfl (fun _ st => C55 e0 hc2 st)) ?_
  refine TO.s rfl rfl rfl (StepS.assign rfl) ?_
  refine TO.code ?_
  refine TC.k ?_
  refine TC.region ?_
  refine TO.s rfl rfl rfl (StepS.move rfl) ?_
  refine TO.s rfl rfl rfl (StepS.cmp rfl rfl rfl) ?_
  refine TO.code ?_
  refine TC.cond rfl (fun hc3 => ?_) (fun hc3 => ?_)
  · replace hm := cond_t hc3 hm
    refine TC.k ?_
    refine TC.region ?_
    refine TO.s rfl rfl rfl (StepS.move rfl) ?_
    refine TO.s rfl rfl rfl (StepS.assign rfl) ?_
    refine TO.s rfl rfl rfl (StepS.assign rfl) ?_
    refine TO.code ?_
    cases hm
    refine TC.ret fun a w e s => ?_
    refine FRet.mk2 (P := Try.prog) (fn := Try.f33) (t := 2) (u := 3) e rfl rfl rfl ?_
    exact ⟨rfl, s.mono fun _ => Sat.dropN 0⟩
  · replace hm := cond_f hc3 hm
    refine TC.skipk ?_
    refine TC.k ?_
    refine TC.region ?_
    refine TO.s rfl rfl rfl (StepS.assign rfl) ?_
    refine TO.code ?_
    refine TC.k ?_
    obtain ⟨o17, hw18, hm⟩ := bind_some hm
    refine TC.loop hw18 (fun (y8, x9) => fun a w => ∃ v4 : Value, ∃ A5 : HP, ∃ ea6 : Ent (A5 :: L) (Rd 1 v4 (y8.map cI)), Mid 22 B [(0, v4), (5, I x9)] (A5 :: L) a w) (fun x16 => fun a w => Mid 22 B [(5, I x16)] (L) a w) (fun (_ : Unit) _ _ => False) ?_ ?_ ?_ ?_
    · rintro ⟨y8, x9⟩ o17r hb19 a w ⟨v4, A5, ea6, he, hs⟩
      dsimp only [F33_L0] at hb19
      refine TC.use ?_ he hs
      refine TC.k ?_
      refine TC.k ?_
      refine TC.region ?_
      refine TO.s rfl rfl rfl (StepS.move rfl) ?_
      refine TO.s rfl rfl rfl (StepS.lenm rfl ea6 ksliceB_22_3_1_true rfl) ?_
      refine TO.s rfl rfl rfl (StepS.cmp rfl rfl rfl) ?_
      refine TO.code ?_
      refine TC.cond rfl (fun hc20 => ?_) (fun hc20 => ?_)
      · replace hb19 := cond_t hc20 hb19
        refine TC.skipk ?_
        refine TC.block ?_
        refine TC.k ?_
        refine TC.region ?_
        refine TO.s rfl rfl rfl (StepS.move rfl) ?_
        obtain ⟨⟨r21, r22⟩, hc23, hb19⟩ := bind_some hb19
        refine TO.callO kcallB_30_true rfl rfl rfl (fun _ st => C30 ea6 hc23 st) ?_
        rintro _ _ ⟨v24, rfl, rfl⟩
        refine TO.s rfl rfl rfl (StepS.move rfl) ?_
        refine TO.s rfl rfl rfl (StepS.extract rfl rfl) ?_
        refine TO.s rfl rfl rfl (StepS.extract rfl rfl) ?_
        refine TO.s rfl rfl rfl (StepS.assign rfl) ?_
        refine TO.code ?_
        refine TC.region ?_
        refine TO.s rfl rfl rfl (StepS.move rfl) ?_
        refine TO.s rfl rfl rfl (StepS.ari rfl rfl rfl) ?_
        refine TO.s rfl rfl rfl (StepS.assign rfl) ?_
        cases hb19
        refine TO.nil fun a w e s => ?_
        exact ⟨v24, (OwnS 3 1 v24 (r21.map cI)), (OwnS.rd (Ent.at 0 rfl)), e.sub (lk_of_allIn ⟨rfl, rfl, trivial⟩), s.mono fun _ s => (by replace s := Sat.front 0 rfl s; replace s := Sat.erase 1 s; exact s)⟩
      · replace hb19 := cond_f hc20 hb19
        cases hb19
        refine TC.exit rfl fun a w e s => ?_
        exact ⟨e.sub (lk_of_allIn ⟨rfl, trivial⟩), s.mono fun _ => Sat.dropN 1⟩
    · exact fun a w e s => ⟨h0, (fun _ => True), (e0).tl, e.sub (lk_of_allIn ⟨rfl, rfl, trivial⟩), s.mono fun _ s => (by replace s := Sat.emp s; exact s)⟩
    · rintro x16 rfl a w ⟨he, hs⟩
      dsimp only [Ctl.on] at hm
      refine TC.use ?_ he hs
      refine TC.k ?_
      refine TC.region ?_
      refine TO.s rfl rfl rfl (StepS.move rfl) ?_
      refine TO.s rfl rfl rfl (StepS.assign rfl) ?_
      refine TO.s rfl rfl rfl (StepS.assign rfl) ?_
      refine TO.code ?_
      cases hm
      refine TC.ret fun a w e s => ?_
      refine FRet.mk2 (P := Try.prog) (fn := Try.f33) (t := 2) (u := 3) e rfl rfl rfl ?_
      exact ⟨rfl, s.mono fun _ => Sat.dropN 0⟩
    · rintro r rfl
      exact fun a w h => h.elim

set_option maxRecDepth 100000 in
theorem C10 {B : World} {L : List HP} {a0 : List Int} {h0 : Value} {r0 : Bool} (e0 : Ent L (Rd 1 h0 (a0.map cI))) (hm : F10 a0 = some r0) {w : World} (st : St B L w) : Calls Try.prog 10 #[h0] w (fun e w' => (e = .returned (.bool r0) ∧ St B (L) w')) := by
  refine calls_of (N := 37) (L := L) (args := [h0]) Try.func10 rfl rfl rfl ?_ st
  dsimp only [F10] at hm
  refine TC.k ?_
  refine TC.region ?_
  refine TO.s rfl rfl rfl (StepS.assign rfl) ?_
  refine TO.code ?_
  refine TC.k ?_
  refine TC.region ?_
  refine TO.s rfl rfl rfl (StepS.move rfl) ?_
  obtain ⟨⟨r1, r2⟩, hc3, hm⟩ := bind_some hm
  refine TO.q rfl rfl rfl (StepQ.call kcallB_33_true rfl rfl (fun _ st => C33 e0 hc3 st)) ?_
  refine TO.s rfl rfl rfl (StepS.move rfl) ?_
  refine TO.s rfl rfl rfl (StepS.extract rfl rfl) ?_
  refine TO.s rfl rfl rfl (StepS.extract rfl rfl) ?_
  refine TO.s rfl rfl rfl (StepS.assign rfl) ?_
  refine TO.s rfl rfl rfl (StepS.assign rfl) ?_
  refine TO.code ?_
  refine TC.k ?_
  refine TC.region ?_
  refine TO.s rfl rfl rfl (StepS.move rfl) ?_
  obtain ⟨r4, hc5, hm⟩ := bind_some hm
  refine TO.q rfl rfl rfl (StepQ.call kcallB_31_true rfl rfl (fun _ st => C31 e0 hc5 st)) ?_
  refine TO.s rfl rfl rfl (StepS.assign rfl) ?_
  refine TO.code ?_
  refine TC.k ?_
  refine TC.k ?_
  refine TC.region ?_
  refine TO.s rfl rfl rfl (StepS.move rfl) ?_
  refine TO.s rfl rfl rfl (StepS.cmp rfl rfl rfl) ?_
  refine TO.code ?_
  refine TC.cond rfl (fun hc6 => ?_) (fun hc6 => ?_)
  · replace hm := cond_t hc6 hm
    refine TC.k ?_
    refine TC.region ?_
    refine TO.s rfl rfl rfl (StepS.move rfl) ?_
    refine TO.s rfl rfl rfl (StepS.move rfl) ?_
    refine TO.s rfl rfl rfl (StepS.cmp rfl rfl rfl) ?_
    refine TO.s rfl rfl rfl (StepS.move rfl) ?_
    refine TO.mid1 3 22 (.bool ((r2 == r4) && (r1 == 0))) ?_ ?_
    · refine bcase ((r2 == r4)) (fun hb7 => ?_) (fun hb7 => ?_)
      · refine TO.sw rfl rfl rfl hb7 rfl rfl (StepS.move rfl) ?_
        refine TO.sw rfl rfl rfl hb7 rfl rfl (StepS.cmp rfl rfl rfl) ?_
        refine TO.s rfl rfl rfl (StepS.pickT rfl hb7 rfl) ?_
        exact TO.up1 3 0 rfl rfl (by rw [hb7]; rfl) rfl
      · refine TO.skip rfl rfl rfl (skipF hb7) rfl rfl ?_
        refine TO.skip rfl rfl rfl (skipF hb7) rfl rfl ?_
        refine TO.s rfl rfl rfl (StepS.pickF rfl hb7 rfl) ?_
        exact TO.up1 3 0 rfl rfl (by rw [hb7]; rfl) rfl
    refine TO.s rfl rfl rfl (StepS.assign rfl) ?_
    refine TO.code ?_
    cases hm
    refine TC.ret fun a w e s => ?_
    refine FRet.mk1 (P := Try.prog) (fn := Try.f10) (t := 2) e rfl rfl ?_
    exact ⟨rfl, s.mono fun _ => Sat.dropN 0⟩
  · replace hm := cond_f hc6 hm
    refine TC.skipk ?_
    refine TC.k ?_
    refine TC.region ?_
    refine TO.s rfl rfl rfl (StepS.assign rfl) ?_
    refine TO.code ?_
    refine TC.k ?_
    obtain ⟨o21, hw22, hm⟩ := bind_some hm
    refine TC.loop hw22 (fun (y12, x13) => fun a w => ∃ v8 : Value, ∃ A9 : HP, ∃ ea10 : Ent (A9 :: L) (Rd 1 v8 (y12.map cI)), Mid 37 B [(0, v8), (3, I r1), (4, I r2), (6, I x13)] (A9 :: L) a w) (fun x20 => fun a w => Mid 37 B [(3, I r1), (4, I r2), (6, I x20)] (L) a w) (fun (_ : Unit) _ _ => False) ?_ ?_ ?_ ?_
    · rintro ⟨y12, x13⟩ o21r hb23 a w ⟨v8, A9, ea10, he, hs⟩
      dsimp only [F10_L0] at hb23
      refine TC.use ?_ he hs
      refine TC.k ?_
      refine TC.k ?_
      refine TC.region ?_
      refine TO.s rfl rfl rfl (StepS.move rfl) ?_
      refine TO.s rfl rfl rfl (StepS.lenm rfl ea10 ksliceB_22_3_1_true rfl) ?_
      refine TO.s rfl rfl rfl (StepS.cmp rfl rfl rfl) ?_
      refine TO.code ?_
      refine TC.cond rfl (fun hc24 => ?_) (fun hc24 => ?_)
      · replace hb23 := cond_t hc24 hb23
        refine TC.skipk ?_
        refine TC.block ?_
        refine TC.k ?_
        refine TC.region ?_
        refine TO.s rfl rfl rfl (StepS.move rfl) ?_
        obtain ⟨r25, hc26, hb23⟩ := bind_some hb23
        refine TO.callO kcallB_32_true rfl rfl rfl (fun _ st => C32 ea10 hc26 st) ?_
        rintro v27 _ ⟨_, rfl, rfl⟩
        refine TO.s rfl rfl rfl (StepS.assign rfl) ?_
        refine TO.code ?_
        refine TC.region ?_
        refine TO.s rfl rfl rfl (StepS.move rfl) ?_
        refine TO.s rfl rfl rfl (StepS.ari rfl rfl rfl) ?_
        refine TO.s rfl rfl rfl (StepS.assign rfl) ?_
        cases hb23
        refine TO.nil fun a w e s => ?_
        exact ⟨v27, (OwnS 3 1 v27 (r25.map cI)), (OwnS.rd (Ent.at 0 rfl)), e.sub (lk_of_allIn ⟨rfl, rfl, rfl, rfl, trivial⟩), s.mono fun _ s => (by replace s := Sat.front 0 rfl s; replace s := Sat.erase 1 s; exact s)⟩
      · replace hb23 := cond_f hc24 hb23
        cases hb23
        refine TC.exit rfl fun a w e s => ?_
        exact ⟨e.sub (lk_of_allIn ⟨rfl, rfl, rfl, trivial⟩), s.mono fun _ => Sat.dropN 1⟩
    · exact fun a w e s => ⟨h0, (fun _ => True), (e0).tl, e.sub (lk_of_allIn ⟨rfl, rfl, rfl, rfl, trivial⟩), s.mono fun _ s => (by replace s := Sat.emp s; exact s)⟩
    · rintro x20 rfl a w ⟨he, hs⟩
      dsimp only [Ctl.on] at hm
      refine TC.use ?_ he hs
      refine TC.k ?_
      refine TC.region ?_
      refine TO.s rfl rfl rfl (StepS.move rfl) ?_
      refine TO.s rfl rfl rfl (StepS.cmp rfl rfl rfl) ?_
      refine TO.s rfl rfl rfl (StepS.move rfl) ?_
      refine TO.mid1 4 36 (.bool ((r2 == 0) && (r1 == x20))) ?_ ?_
      · refine bcase ((r2 == 0)) (fun hb29 => ?_) (fun hb29 => ?_)
        · refine TO.sw rfl rfl rfl hb29 rfl rfl (StepS.move rfl) ?_
          refine TO.sw rfl rfl rfl hb29 rfl rfl (StepS.move rfl) ?_
          refine TO.sw rfl rfl rfl hb29 rfl rfl (StepS.cmp rfl rfl rfl) ?_
          refine TO.s rfl rfl rfl (StepS.pickT rfl hb29 rfl) ?_
          exact TO.up1 4 0 rfl rfl (by rw [hb29]; rfl) rfl
        · refine TO.skip rfl rfl rfl (skipF hb29) rfl rfl ?_
          refine TO.skip rfl rfl rfl (skipF hb29) rfl rfl ?_
          refine TO.skip rfl rfl rfl (skipF hb29) rfl rfl ?_
          refine TO.s rfl rfl rfl (StepS.pickF rfl hb29 rfl) ?_
          exact TO.up1 4 0 rfl rfl (by rw [hb29]; rfl) rfl
      refine TO.s rfl rfl rfl (StepS.assign rfl) ?_
      refine TO.code ?_
      cases hm
      refine TC.ret fun a w e s => ?_
      refine FRet.mk1 (P := Try.prog) (fn := Try.f10) (t := 2) e rfl rfl ?_
      exact ⟨rfl, s.mono fun _ => Sat.dropN 0⟩
    · rintro r rfl
      exact fun a w h => h.elim

set_option maxRecDepth 100000 in
theorem C79 {B : World} {L : List HP} {a0 : Int × Int} {a1 : BitVec 32} {b1_ : Nat} {r0 : Bool} (g1 : Ent L (Bx b1_ 31 [U a1])) (hm : F79 a0 a1 = some r0) {w : World} (st : St B L w) : Calls Try.prog 79 #[.agg (cTii a0).toArray, .pointer (some ⟨b1_, 0, none⟩)] w (fun e w' => (e = .returned (.bool r0) ∧ St B (L) w')) := by
  refine calls_of (N := 10) (L := L) (args := [.agg (cTii a0).toArray, .pointer (some ⟨b1_, 0, none⟩)]) Try.func79 rfl rfl rfl ?_ st
  dsimp only [F79] at hm
  refine TC.k ?_
  refine TC.region ?_
  refine TO.box (cs := [I a0.1, I a0.2]) rfl rfl rfl fun b1 => ?_
  refine TO.s rfl rfl rfl (StepS.assign rfl) ?_
  refine TO.code ?_
  refine TC.k ?_
  refine TC.region ?_
  refine TO.s rfl rfl rfl (StepS.ldB rfl g1.tl kscalB_31_true rfl) ?_
  refine TO.s rfl rfl rfl (StepS.aidx (j := 1) rfl rfl karrB_81_2_3_1_true ⟨by decide, by decide⟩ rfl) ?_
  refine TO.s rfl rfl rfl (StepS.ldB rfl (Ent.at 0 rfl) kscalB_3_true rfl) ?_
  obtain ⟨k2, hk3, hm⟩ := bind_some hm
  refine TO.s rfl rfl rfl (StepS.shrk rfl rfl hk3) ?_
  refine TO.s rfl rfl rfl (StepS.bitU (n := 1#32) rfl rfl rfl) ?_
  refine TO.s rfl rfl rfl (StepS.cmpU (n := 1#32) rfl rfl rfl) ?_
  refine TO.s rfl rfl rfl (StepS.assign rfl) ?_
  refine TO.code ?_
  cases hm
  refine TC.ret fun a w e s => ?_
  refine FRet.mk1 (P := Try.prog) (fn := Try.f79) (t := 3) e rfl rfl ?_
  exact ⟨rfl, s.mono fun _ => Sat.dropN 1⟩

set_option maxRecDepth 100000 in
theorem C90 {B : World} {L : List HP} {a0 : List (Int × Int)} {a1 : (Int × Int) → Option Bool} {h0 : Value} {h1 : Value} {r0 : Int} (e0 : Ent L (Rd 2 h0 (a0.map cTii))) (e1 : FOk Try.prog B L h1 (fun (z : Int × Int) => [.agg (cTii z).toArray]) (fun (z : Bool) => .bool z) a1) (hm : F90 a0 a1 = some r0) {w : World} (st : St B L w) : Calls Try.prog 90 #[h0, h1] w (fun e w' => (e = .returned (I r0) ∧ St B (L) w')) := by
  refine calls_of (N := 19) (L := L) (args := [h0, h1]) Try.func90 rfl rfl rfl ?_ st
  dsimp only [F90] at hm
  refine TC.k ?_
  refine TC.region ?_
  refine TO.s rfl rfl rfl (StepS.assign rfl) ?_
  refine TO.code ?_
  refine TC.k ?_
  refine TC.k ?_
  refine TC.region ?_
  refine TO.s rfl rfl rfl (StepS.move rfl) ?_
  refine TO.s rfl rfl rfl (StepS.lenm rfl e0 ksliceB_30_81_2_true rfl) ?_
  refine TO.s rfl rfl rfl (StepS.move rfl) ?_
  refine TO.code ?_
  obtain ⟨o3, hw4, hm⟩ := bind_some hm
  refine TC.loop hw4 (fun x1 => fun a w => Mid 19 B [(0, h0), (1, h1), (7, I (a0.length : Int)), (8, I x1)] (L) a w) (fun _ => fun a w => Mid 19 B [] (L) a w) (fun r0 => FRet Try.prog Try.f90 (fun e w' => (e = .returned (I r0) ∧ St B (L) w'))) ?_ ?_ ?_ ?_
  · rintro x1 o3r hb5 a w ⟨he, hs⟩
    dsimp only [F90_L0] at hb5
    refine TC.use ?_ he hs
    refine TC.k ?_
    refine TC.region ?_
    refine TO.s rfl rfl rfl (StepS.cmp rfl rfl rfl) ?_
    refine TO.code ?_
    refine TC.k ?_
    refine TC.cond rfl (fun hc6 => ?_) (fun hc6 => ?_)
    · replace hb5 := cond_t hc6 hb5
      refine TC.skipk ?_
      refine TC.k ?_
      refine TC.block ?_
      refine TC.k ?_
      refine TC.region ?_
      refine TO.s rfl rfl rfl (StepS.move rfl) ?_
      refine TO.s rfl rfl rfl (StepS.assign rfl) ?_
      refine TO.code ?_
      refine TC.k ?_
      refine TC.region ?_
      refine TO.s rfl rfl rfl (StepS.move rfl) ?_
      refine TO.s rfl rfl rfl (StepS.move rfl) ?_
      refine TO.s rfl rfl rfl (StepS.move rfl) ?_
      obtain ⟨x7, hx8, hb5⟩ := bind_some hb5
      refine TO.s rfl rfl rfl (StepS.idx rfl rfl e0 ksliceB_30_81_2_true (idx_spec hx8).1 (idxm_lt hx8)) ?_
      refine TO.s rfl rfl rfl (StepS.ldE rfl e0 kaggB_81_2_true rfl (idxm hx8)) ?_
      obtain ⟨r9, hc10, hb5⟩ := bind_some hb5
      refine TO.q rfl rfl rfl (StepQ.callF (x := x7) e1 (Ext.rfl) rfl rfl hc10) ?_
      refine TO.code ?_
      refine TC.cond rfl (fun hc11 => ?_) (fun hc11 => ?_)
      · replace hb5 := cond_t hc11 hb5
        refine TC.k ?_
        refine TC.region ?_
        refine TO.s rfl rfl rfl (StepS.move rfl) ?_
        refine TO.s rfl rfl rfl (StepS.assign rfl) ?_
        refine TO.code ?_
        cases hb5
        refine TC.ret fun a w e s => ?_
        refine FRet.mk1 (P := Try.prog) (fn := Try.f90) (t := 4) e rfl rfl ?_
        exact ⟨rfl, s.mono fun _ => Sat.dropN 0⟩
      · replace hb5 := cond_f hc11 hb5
        refine TC.skipk ?_
        refine TC.region ?_
        refine TO.s rfl rfl rfl (StepS.ari rfl rfl rfl) ?_
        refine TO.s rfl rfl rfl (StepS.move rfl) ?_
        cases hb5
        refine TO.nil fun a w e s => ?_
        exact ⟨e.sub (lk_of_allIn ⟨rfl, rfl, rfl, rfl, trivial⟩), s⟩
    · replace hb5 := cond_f hc6 hb5
      cases hb5
      refine TC.exit rfl fun a w e s => ?_
      exact ⟨e.sub (lk_of_allIn trivial), s⟩
  · exact fun a w e s => ⟨e.sub (lk_of_allIn ⟨rfl, rfl, rfl, rfl, trivial⟩), s⟩
  · rintro _ rfl a w ⟨he, hs⟩
    dsimp only [Ctl.on] at hm
    refine TC.use ?_ he hs
    refine TC.k ?_
    refine TC.region ?_
    refine TO.s rfl rfl rfl (StepS.assign rfl) ?_
    refine TO.code ?_
    cases hm
    refine TC.ret fun a w e s => ?_
    refine FRet.mk1 (P := Try.prog) (fn := Try.f90) (t := 4) e rfl rfl ?_
    exact ⟨rfl, s.mono fun _ => Sat.dropN 0⟩
  · rintro r rfl
    cases hm
    exact fun a w h => h

set_option maxRecDepth 100000 in
theorem C78 {B : World} {L : List HP} {a0 : List (Int × Int)} {a1 : (Int × Int) → Option Bool} {h0 : Value} {h1 : Value} {r0 : List (Int × Int)} (e1 : FOk Try.prog B L h1 (fun (z : Int × Int) => [.agg (cTii z).toArray]) (fun (z : Bool) => .bool z) a1) (hm : F78 a0 a1 = some r0) {w : World} (st : St B (OwnS 81 2 h0 (a0.map cTii) :: L) w) : Calls Try.prog 78 #[h0, h1] w (fun e w' => ∃ v M, e = .returned v ∧ (∃ (qv1 : Value), v = qv1 ∧ M = (OwnS 81 2 qv1 (r0.map cTii) :: L)) ∧ St B M w') := by
  refine calls_of (N := 42) (L := (OwnS 81 2 h0 (a0.map cTii) :: L)) (args := [h0, h1]) Try.func78 rfl rfl rfl ?_ st
  dsimp only [F78] at hm
  refine TC.k ?_
  refine TC.region ?_
  refine TO.s rfl rfl rfl (StepS.assign rfl) ?_
  refine TO.code ?_
  refine TC.k ?_
  refine TC.region ?_
  refine TO.s rfl rfl rfl (StepS.move rfl) ?_
  refine TO.s rfl rfl rfl (StepS.move rfl) ?_
  obtain ⟨r3, hc4, hm⟩ := bind_some hm
  refine TO.q rfl rfl rfl (StepQ.call kcallB_90_true rfl rfl (fun _ st => C90 (OwnS.rd (Ent.at 0 rfl)) (e1.ext (Ext.rfl.tl)) hc4 st)) ?_
  refine TO.s rfl rfl rfl (StepS.assign rfl) ?_
  refine TO.code ?_
  refine TC.k ?_
  refine TC.k ?_
  refine TC.region ?_
  refine TO.s rfl rfl rfl (StepS.move rfl) ?_
  refine TO.s rfl rfl rfl (StepS.cmp rfl rfl rfl) ?_
  refine TO.code ?_
  refine TC.cond rfl (fun hc5 => ?_) (fun hc5 => ?_)
  · replace hm := cond_t hc5 hm
    refine TC.k ?_
    refine TC.region ?_
    refine TO.s rfl rfl rfl (StepS.move rfl) ?_
    refine TO.s rfl rfl rfl (StepS.assign rfl) ?_
    refine TO.code ?_
    cases hm
    refine TC.ret fun a w e s => ?_
    refine FRet.mk1 (P := Try.prog) (fn := Try.f78) (t := 4) e rfl rfl ?_
    refine ⟨_, _, rfl, ⟨(h0), rfl, rfl⟩, ?_⟩
    refine s.mono fun _ s => ?_
    replace s := Sat.front 0 rfl s
    exact s
  · replace hm := cond_f hc5 hm
    refine TC.skipk ?_
    refine TC.k ?_
    refine TC.k ?_
    refine TC.region ?_
    refine TO.s rfl rfl rfl (StepS.move rfl) ?_
    refine TO.s rfl rfl rfl (StepS.ari rfl rfl rfl) ?_
    refine TO.s rfl rfl rfl (StepS.assign rfl) ?_
    refine TO.code ?_
    obtain ⟨o17, hw18, hm⟩ := bind_some hm
    refine TC.loop hw18 (fun (y6, x8, x9) => fun a w => ∃ v7 : Value, Mid 42 B [(0, v7), (1, h1), (5, I x8), (6, I x9)] (OwnS 81 2 v7 (y6.map cTii) :: L) a w) (fun (y14, x16) => fun a w => ∃ v15 : Value, Mid 42 B [(0, v15), (5, I x16)] (OwnS 81 2 v15 (y14.map cTii) :: L) a w) (fun (_ : Unit) _ _ => False) ?_ ?_ ?_ ?_
    · rintro ⟨y6, x8, x9⟩ o17r hb19 a w ⟨v7, he, hs⟩
      dsimp only [F78_L0] at hb19
      refine TC.use ?_ he hs
      refine TC.k ?_
      refine TC.k ?_
      refine TC.region ?_
      refine TO.s rfl rfl rfl (StepS.move rfl) ?_
      refine TO.s rfl rfl rfl (StepS.move rfl) ?_
      refine TO.s rfl rfl rfl (StepS.lenm rfl (OwnS.rd (Ent.at 0 rfl)) ksliceB_30_81_2_true rfl) ?_
      refine TO.s rfl rfl rfl (StepS.cmp rfl rfl rfl) ?_
      refine TO.code ?_
      refine TC.cond rfl (fun hc20 => ?_) (fun hc20 => ?_)
      · replace hb19 := cond_t hc20 hb19
        refine TC.skipk ?_
        refine TC.k ?_
        obtain ⟨⟨y21, x23⟩, hj24, hb19⟩ := bind_some hb19
        refine TC.cutM (fun a w => ∃ v22 : Value, Mid 42 B [(0, v22), (1, h1), (5, I x23), (6, I x9)] (OwnS 81 2 v22 (y21.map cTii) :: L) a w) ?_ ?_
        · refine TC.block ?_
          refine TC.k ?_
          refine TC.region ?_
          refine TO.s rfl rfl rfl (StepS.move rfl) ?_
          refine TO.s rfl rfl rfl (StepS.move rfl) ?_
          obtain ⟨x25, hx26, hj24⟩ := bind_some hj24
          refine TO.s rfl rfl rfl (StepS.idx rfl rfl (OwnS.rd (Ent.at 0 rfl)) ksliceB_30_81_2_true (idx_spec hx26).1 (idxm_lt hx26)) ?_
          refine TO.s rfl rfl rfl (StepS.ldE rfl (OwnS.rd (Ent.at 0 rfl)) kaggB_81_2_true rfl (idxm hx26)) ?_
          refine TO.alloc kinfo_81_bind_zero_some_agg_I_0_I_0 rfl rfl fun b27 => ?_
          refine TO.stB (us := [I x25.1, I x25.2]) 0 [I x25.1, I x25.2] rfl rfl rfl ksizeB_81_2_true rfl rfl rfl (by simp [Value.oneCell']) rfl ?_
          refine TO.code ?_
          refine TC.k ?_
          refine TC.region ?_
          refine TO.s rfl rfl rfl (StepS.move rfl) ?_
          refine TO.s rfl rfl rfl (StepS.ldBA rfl (Ent.at 0 rfl) kaggB_81_2_true rfl rfl) ?_
          obtain ⟨r28, hc29, hj24⟩ := bind_some hj24
          refine TO.q rfl rfl rfl (StepQ.callF (x := (x25.1, x25.2)) e1 (Ext.rfl.tl.tl) rfl rfl hc29) ?_
          refine TO.s rfl rfl rfl (StepS.not rfl) ?_
          refine TO.code ?_
          refine TC.cond rfl (fun hc30 => ?_) (fun hc30 => ?_)
          · replace hj24 := cond_t hc30 hj24
            refine TC.k ?_
            refine TC.region ?_
            refine TO.s rfl rfl rfl (StepS.move rfl) ?_
            refine TO.s rfl rfl rfl (StepS.move rfl) ?_
            refine TO.s rfl rfl rfl (StepS.ldBA rfl (Ent.at 0 rfl) kaggB_81_2_true rfl rfl) ?_
            obtain ⟨x31, hx32, hj24⟩ := bind_some hj24
            refine TO.s rfl rfl rfl (StepS.idx rfl rfl (OwnS.rd (Ent.at 1 rfl)) ksliceB_30_81_2_true (idx_spec hx32).1 (idxm_lt hx32)) ?_
            refine TO.stO (i := x8.toNat) (off := 0) (us := [I x25.1, I x25.2]) 1 (x25.1, x25.2) rfl rfl rfl ksizeB_81_2_true rfl rfl rfl (idx_spec hx32).2 rfl (by simp [Value.oneCell']) rfl ?_
            refine TO.code ?_
            refine TC.region ?_
            refine TO.s rfl rfl rfl (StepS.move rfl) ?_
            refine TO.s rfl rfl rfl (StepS.ari rfl rfl rfl) ?_
            refine TO.s rfl rfl rfl (StepS.assign rfl) ?_
            cases hj24
            refine TO.nil fun a w e s => ?_
            exact ⟨v7, e.sub (lk_of_allIn ⟨rfl, rfl, rfl, rfl, trivial⟩), s.mono fun _ => Sat.dropN 1⟩
          · replace hj24 := cond_f hc30 hj24
            cases hj24
            refine TC.skip fun a w e s => ?_
            exact ⟨v7, e.sub (lk_of_allIn ⟨rfl, rfl, rfl, rfl, trivial⟩), s.mono fun _ => Sat.dropN 1⟩
        · intro a w ⟨v22, he, hs⟩
          refine TC.use ?_ he hs
          refine TC.region ?_
          refine TO.s rfl rfl rfl (StepS.move rfl) ?_
          refine TO.s rfl rfl rfl (StepS.ari rfl rfl rfl) ?_
          refine TO.s rfl rfl rfl (StepS.assign rfl) ?_
          cases hb19
          refine TO.nil fun a w e s => ?_
          exact ⟨v22, e.sub (lk_of_allIn ⟨rfl, rfl, rfl, rfl, trivial⟩), s⟩
      · replace hb19 := cond_f hc20 hb19
        cases hb19
        refine TC.exit rfl fun a w e s => ?_
        exact ⟨v7, e.sub (lk_of_allIn ⟨rfl, rfl, trivial⟩), s⟩
    · exact fun a w e s => ⟨h0, e.sub (lk_of_allIn ⟨rfl, rfl, rfl, rfl, trivial⟩), s⟩
    · rintro ⟨y14, x16⟩ rfl a w ⟨v15, he, hs⟩
      dsimp only [Ctl.on] at hm
      refine TC.use ?_ he hs
      refine TC.k ?_
      refine TC.region ?_
      refine TO.s rfl rfl rfl (StepS.move rfl) ?_
      refine TO.s rfl rfl rfl (StepS.move rfl) ?_
      obtain ⟨y33, hs34, hm⟩ := bind_some hm
      obtain ⟨hs34a, hs34b, hs34c, _⟩ := slI_spec hs34
      refine TO.s rfl rfl rfl (StepS.slc rfl (OwnS.rd (Ent.at 0 rfl)) ksliceB_30_81_2_true rfl (by simp [bnd]) hs34a hs34b (by simpa using hs34c)) ?_
      refine TO.clearO0 (f := cTii) 0 (0, 0) kelemB_30_81_2_16_true (by decide) kinfo_81_bind_zero_some_agg_I_0_I_0 rfl (fun c hc => by simp at hc; first | (obtain rfl := hc; rfl) | (rcases hc with rfl | rfl <;> rfl)) ⟨hs34a, hs34b⟩ rfl rfl rfl ?_
      refine TO.code ?_
      refine TC.k ?_
      refine TC.region ?_
      refine TO.s rfl rfl rfl (StepS.move rfl) ?_
      refine TO.s rfl rfl rfl (StepS.move rfl) ?_
      obtain ⟨y36, hs37, hm⟩ := bind_some hm
      obtain ⟨hs37a, hs37b, hs37c, _⟩ := slI_spec hs37
      refine TO.s rfl rfl rfl (StepS.slc rfl (OwnS.rd (Ent.at 0 rfl)) ksliceB_30_81_2_true rfl rfl hs37a hs37b (by simpa using hs37c)) ?_
      refine TO.s rfl rfl rfl (StepS.assign rfl) ?_
      refine TO.code ?_
      cases hm
      refine TC.ret fun a w e s => ?_
      refine FRet.mk1 (P := Try.prog) (fn := Try.f78) (t := 4) e rfl rfl ?_
      refine ⟨_, _, rfl, ⟨((subv v15 0 x16 2)), rfl, rfl⟩, ?_⟩
      refine s.mono fun _ s => ?_
      replace s := Sat.cutO 0 rfl hs37 s
      replace s := Sat.front 0 rfl s
      exact s
    · rintro r rfl
      exact fun a w h => h.elim

set_option maxRecDepth 100000 in
theorem C52 {B : World} {L : List HP} {a0 : Int} {a1 : List (Int × Int)} {h1 : Value} {r0 : Bool} (e1 : Ent L (Rd 2 h1 (a1.map cTii))) (hm : F52 a0 a1 = some r0) {w : World} (st : St B L w) : Calls Try.prog 52 #[I a0, h1] w (fun e w' => (e = .returned (.bool r0) ∧ St B (L) w')) := by
  refine calls_of (N := 23) (L := L) (args := [I a0, h1]) Try.func52 rfl rfl rfl ?_ st
  dsimp only [F52] at hm
  refine TC.k ?_
  refine TC.region ?_
  refine TO.s rfl rfl rfl (StepS.assign rfl) ?_
  refine TO.code ?_
  refine TC.k ?_
  refine TC.region ?_
  refine TO.alloc kinfo_31_bind_zero_some_U_0 rfl rfl fun b1 => ?_
  refine TO.stB (us := [U (0#32)]) 0 [U (0#32)] rfl rfl rfl ksizeB_31_1_true rfl rfl rfl (by simp [Value.oneCell']) rfl ?_
  refine TO.code ?_
  refine TC.k ?_
  refine TC.k ?_
  refine TC.region ?_
  refine TO.s rfl rfl rfl (StepS.move rfl) ?_
  refine TO.s rfl rfl rfl (StepS.move rfl) ?_
  refine TO.code ?_
  obtain ⟨o7, hw8, hm⟩ := bind_some hm
  refine TC.loop hw8 (fun (x2, x3) => fun a w => Mid 23 B [(0, I a0), (1, h1), (5, .pointer (some ⟨b1, 0, none⟩)), (7, I a0), (8, I x3)] (Bx b1 31 [U x2] :: L) a w) (fun x6 => fun a w => Mid 23 B [(0, I a0), (5, .pointer (some ⟨b1, 0, none⟩))] (Bx b1 31 [U x6] :: L) a w) (fun (_ : Unit) _ _ => False) ?_ ?_ ?_ ?_
  · rintro ⟨x2, x3⟩ o7r hb9 a w ⟨he, hs⟩
    dsimp only [F52_L0] at hb9
    refine TC.use ?_ he hs
    refine TC.k ?_
    refine TC.region ?_
    refine TO.s rfl rfl rfl (StepS.cmp rfl rfl rfl) ?_
    refine TO.code ?_
    refine TC.k ?_
    refine TC.cond rfl (fun hc10 => ?_) (fun hc10 => ?_)
    · replace hb9 := cond_t hc10 hb9
      refine TC.skipk ?_
      refine TC.k ?_
      refine TC.block ?_
      refine TC.k ?_
      refine TC.region ?_
      refine TO.s rfl rfl rfl (StepS.move rfl) ?_
      obtain ⟨r11, hc12, hb9⟩ := bind_some hb9
      refine TO.callO kcallB_54_true rfl rfl rfl (fun _ st => C54 e1.tl hc12 st) ?_
      rintro v13 _ ⟨_, rfl, rfl⟩
      refine TO.s rfl rfl rfl (StepS.mkfn rfl) ?_
      obtain ⟨r15, hc16, hb9⟩ := bind_some hb9
      refine TO.callO kcallB_78_true rfl rfl rfl (fun _ st => C78 ⟨79, #[], #[.pointer (some ⟨b1, 0, none⟩)], rfl, kcallB_79_true, fun _ hx z r hm w st => C79 (Ent.ext (Ent.at 0 rfl) hx) hm st⟩ hc16 st) ?_
      rintro v17 _ ⟨_, rfl, rfl⟩
      refine TO.s rfl rfl rfl (StepS.assign rfl) ?_
      refine TO.code ?_
      refine TC.region ?_
      refine TO.s rfl rfl rfl (StepS.move rfl) ?_
      refine TO.s rfl rfl rfl (StepS.move rfl) ?_
      obtain ⟨r19, hc20, hb9⟩ := bind_some hb9
      refine TO.q rfl rfl rfl (StepQ.call kcallB_50_true rfl rfl (fun _ st => C50 (OwnS.rd (Ent.at 0 rfl)) hc20 st)) ?_
      refine TO.stB (us := [U r19]) 1 [U r19] rfl rfl rfl ksizeB_31_1_true rfl rfl rfl (by simp [Value.oneCell']) rfl ?_
      refine TO.code ?_
      refine TC.region ?_
      refine TO.s rfl rfl rfl (StepS.ari rfl rfl rfl) ?_
      refine TO.s rfl rfl rfl (StepS.move rfl) ?_
      cases hb9
      refine TO.nil fun a w e s => ?_
      exact ⟨e.sub (lk_of_allIn ⟨rfl, rfl, rfl, rfl, rfl, trivial⟩), s.mono fun _ => Sat.dropN 1⟩
    · replace hb9 := cond_f hc10 hb9
      cases hb9
      refine TC.exit rfl fun a w e s => ?_
      exact ⟨e.sub (lk_of_allIn ⟨rfl, rfl, trivial⟩), s⟩
  · exact fun a w e s => ⟨e.sub (lk_of_allIn ⟨rfl, rfl, rfl, rfl, rfl, trivial⟩), s⟩
  · rintro x6 rfl a w ⟨he, hs⟩
    dsimp only [Ctl.on] at hm
    refine TC.use ?_ he hs
    refine TC.k ?_
    refine TC.region_still kfollows_mixedOrders_true (by kernel_rfl) ?_
    refine TS.s rfl rfl rfl (StepS.ldB rfl (Ent.at 0 rfl) kscalB_31_true rfl) ?_
    refine TS.s rfl rfl rfl (StepS.move rfl) ?_
    obtain ⟨k21, hk22, hm⟩ := bind_some hm
    refine TS.s rfl rfl rfl (StepS.shlk (m := 1#32) rfl rfl hk22) ?_
    refine TS.s rfl rfl rfl (StepS.bitU (n := 1#32) rfl rfl rfl) ?_
    refine TS.s rfl rfl rfl (StepS.cmpU rfl rfl rfl) ?_
    refine TS.s rfl rfl rfl (StepS.assign rfl) ?_
    refine TS.code ?_
    cases hm
    refine TC.ret fun a w e s => ?_
    refine FRet.mk1 (P := Try.prog) (fn := Try.f52) (t := 4) e rfl rfl ?_
    exact ⟨rfl, s.mono fun _ => Sat.dropN 1⟩
  · rintro r rfl
    exact fun a w h => h.elim

set_option maxRecDepth 100000 in
theorem C26 {B : World} {L : List HP} {a0 : Int} {a1 : List (Int × Int)} {h1 : Value} {r0 : Bool} {r1 : Int} (e1 : Ent L (Rd 2 h1 (a1.map cTii))) (hm : F26 a0 a1 = some (r0, r1)) {w : World} (st : St B L w) : Calls Try.prog 26 #[I a0, h1] w (fun e w' => (e = .returned (.tuple #[.bool r0, I r1]) ∧ St B (L) w')) := by
  refine calls_of (N := 16) (L := L) (args := [I a0, h1]) Try.func26 rfl rfl rfl ?_ st
  dsimp only [F26] at hm
  refine TC.k ?_
  refine TC.region ?_
  refine TO.s rfl rfl rfl (StepS.assign rfl) ?_
  refine TO.s rfl rfl rfl (StepS.assign rfl) ?_
  refine TO.code ?_
  refine TC.k ?_
  refine TC.k ?_
  refine TC.region ?_
  refine TO.s rfl rfl rfl (StepS.move rfl) ?_
  refine TO.s rfl rfl rfl (StepS.move rfl) ?_
  obtain ⟨r1, hc2, hm⟩ := bind_some hm
  refine TO.q rfl rfl rfl (StepQ.call kcallB_49_true rfl rfl (fun _ st => C49 e1 hc2 st)) ?_
  refine TO.s rfl rfl rfl (StepS.assign rfl) ?_
  refine TO.code ?_
  refine TC.k ?_
  refine TC.region ?_
  refine TO.s rfl rfl rfl (StepS.move rfl) ?_
  refine TO.s rfl rfl rfl (StepS.cmp rfl rfl rfl) ?_
  refine TO.code ?_
  refine TC.cond rfl (fun hc3 => ?_) (fun hc3 => ?_)
  · replace hm := cond_t hc3 hm
    refine TC.k ?_
    refine TC.region ?_
    refine TO.s rfl rfl rfl (StepS.move rfl) ?_
    refine TO.s rfl rfl rfl (StepS.assign rfl) ?_
    refine TO.s rfl rfl rfl (StepS.assign rfl) ?_
    refine TO.code ?_
    cases hm
    refine TC.ret fun a w e s => ?_
    refine FRet.mk2 (P := Try.prog) (fn := Try.f26) (t := 4) (u := 5) e rfl rfl rfl ?_
    exact ⟨rfl, s.mono fun _ => Sat.dropN 0⟩
  · replace hm := cond_f hc3 hm
    refine TC.skipk ?_
    refine TC.k ?_
    refine TC.region ?_
    refine TO.s rfl rfl rfl (StepS.move rfl) ?_
    refine TO.s rfl rfl rfl (StepS.move rfl) ?_
    obtain ⟨r4, hc5, hm⟩ := bind_some hm
    refine TO.q rfl rfl rfl (StepQ.call kcallB_52_true rfl rfl (fun _ st => C52 e1 hc5 st)) ?_
    refine TO.s rfl rfl rfl (StepS.assign rfl) ?_
    refine TO.s rfl rfl rfl (StepS.assign rfl) ?_
    refine TO.code ?_
    cases hm
    refine TC.ret fun a w e s => ?_
    refine FRet.mk2 (P := Try.prog) (fn := Try.f26) (t := 4) (u := 5) e rfl rfl rfl ?_
    exact ⟨rfl, s.mono fun _ => Sat.dropN 0⟩

set_option maxRecDepth 100000 in
theorem C53 {B : World} {L : List HP} {a0 : List (BitVec 32)} {a1 : Int} {h0 : Value} {r0 : BitVec 32} (e0 : Ent L (Rd 1 h0 (a0.map cU))) (hm : F53 a0 a1 = some r0) {w : World} (st : St B L w) : Calls Try.prog 53 #[h0, I a1] w (fun e w' => (e = .returned (U r0) ∧ St B (L) w')) := by
  refine calls_of (N := 34) (L := L) (args := [h0, I a1]) Try.func53 rfl rfl rfl ?_ st
  dsimp only [F53] at hm
  refine TC.k ?_
  refine TC.region ?_
  refine TO.s rfl rfl rfl (StepS.assign rfl) ?_
  refine TO.code ?_
  refine TC.k ?_
  refine TC.region ?_
  refine TO.s rfl rfl rfl (StepS.move rfl) ?_
  refine TO.s rfl rfl rfl (StepS.move rfl) ?_
  obtain ⟨x1, hx2, hm⟩ := bind_some hm
  refine TO.s rfl rfl rfl (StepS.idx rfl rfl e0 ksliceB_82_31_1_true (idx_spec hx2).1 (idxm_lt hx2)) ?_
  refine TO.s rfl rfl rfl (StepS.ld0 rfl e0 kscalB_31_true rfl (idxm hx2) rfl) ?_
  refine TO.s rfl rfl rfl (StepS.assign rfl) ?_
  refine TO.code ?_
  refine TC.k ?_
  refine TC.k ?_
  refine TC.region ?_
  refine TO.s rfl rfl rfl (StepS.assign rfl) ?_
  refine TO.code ?_
  obtain ⟨o8, hw9, hm⟩ := bind_some hm
  refine TC.loop hw9 (fun (x3, x4) => fun a w => Mid 34 B [(0, h0), (5, U x3), (6, I x4)] (L) a w) (fun x7 => fun a w => Mid 34 B [(5, U x7)] (L) a w) (fun (_ : Unit) _ _ => False) ?_ ?_ ?_ ?_
  · rintro ⟨x3, x4⟩ o8r hb10 a w ⟨he, hs⟩
    dsimp only [F53_L0] at hb10
    refine TC.use ?_ he hs
    refine TC.k ?_
    refine TC.k ?_
    refine TC.region ?_
    refine TO.s rfl rfl rfl (StepS.move rfl) ?_
    refine TO.s rfl rfl rfl (StepS.move rfl) ?_
    refine TO.s rfl rfl rfl (StepS.lenm rfl e0 ksliceB_82_31_1_true rfl) ?_
    refine TO.s rfl rfl rfl (StepS.cmp rfl rfl rfl) ?_
    refine TO.code ?_
    refine TC.cond rfl (fun hc11 => ?_) (fun hc11 => ?_)
    · replace hb10 := cond_t hc11 hb10
      refine TC.skipk ?_
      refine TC.k ?_
      refine TC.block ?_
      refine TC.k ?_
      refine TC.region ?_
      refine TO.s rfl rfl rfl (StepS.assign rfl) ?_
      refine TO.code ?_
      obtain ⟨o17, hw18, hb10⟩ := bind_some hb10
      refine TC.loop hw18 (fun (x12, x13) => fun a w => Mid 34 B [(0, h0), (5, U x12), (6, I x4), (7, I x13)] (L) a w) (fun x16 => fun a w => Mid 34 B [(0, h0), (5, U x16), (6, I x4)] (L) a w) (fun (_ : Unit) _ _ => False) ?_ ?_ ?_ ?_
      · rintro ⟨x12, x13⟩ o17r hb19 a w ⟨he, hs⟩
        dsimp only [F53_L1] at hb19
        refine TC.use ?_ he hs
        refine TC.k ?_
        refine TC.k ?_
        refine TC.region ?_
        refine TO.s rfl rfl rfl (StepS.move rfl) ?_
        refine TO.s rfl rfl rfl (StepS.move rfl) ?_
        refine TO.s rfl rfl rfl (StepS.lenm rfl e0 ksliceB_82_31_1_true rfl) ?_
        refine TO.s rfl rfl rfl (StepS.cmp rfl rfl rfl) ?_
        refine TO.code ?_
        refine TC.cond rfl (fun hc20 => ?_) (fun hc20 => ?_)
        · replace hb19 := cond_t hc20 hb19
          refine TC.skipk ?_
          refine TC.k ?_
          obtain ⟨x21, hj22, hb19⟩ := bind_some hb19
          refine TC.cutM (fun a w => Mid 34 B [(0, h0), (5, U x21), (6, I x4), (7, I x13)] (L) a w) ?_ ?_
          · refine TC.block ?_
            refine TC.k ?_
            refine TC.region ?_
            refine TO.s rfl rfl rfl (StepS.move rfl) ?_
            refine TO.s rfl rfl rfl (StepS.move rfl) ?_
            obtain ⟨r23, hc24, hj22⟩ := bind_some hj22
            refine TO.q rfl rfl rfl (StepQ.call kcallB_23_true rfl rfl (fun _ st => C23  hc24 st)) ?_
            refine TO.code ?_
            refine TC.cond rfl (fun hc25 => ?_) (fun hc25 => ?_)
            · replace hj22 := cond_t hc25 hj22
              refine TC.region ?_
              refine TO.s rfl rfl rfl (StepS.move rfl) ?_
              refine TO.s rfl rfl rfl (StepS.move rfl) ?_
              refine TO.s rfl rfl rfl (StepS.move rfl) ?_
              obtain ⟨x26, hx27, hj22⟩ := bind_some hj22
              refine TO.s rfl rfl rfl (StepS.idx rfl rfl e0 ksliceB_82_31_1_true (idx_spec hx27).1 (idxm_lt hx27)) ?_
              refine TO.s rfl rfl rfl (StepS.ld0 rfl e0 kscalB_31_true rfl (idxm hx27) rfl) ?_
              refine TO.s rfl rfl rfl (StepS.bitU rfl rfl rfl) ?_
              refine TO.s rfl rfl rfl (StepS.assign rfl) ?_
              cases hj22
              refine TO.nil fun a w e s => ?_
              exact ⟨e.sub (lk_of_allIn ⟨rfl, rfl, rfl, rfl, trivial⟩), s⟩
            · replace hj22 := cond_f hc25 hj22
              cases hj22
              refine TC.skip fun a w e s => ?_
              exact ⟨e.sub (lk_of_allIn ⟨rfl, rfl, rfl, rfl, trivial⟩), s⟩
          · intro a w ⟨he, hs⟩
            refine TC.use ?_ he hs
            refine TC.region ?_
            refine TO.s rfl rfl rfl (StepS.move rfl) ?_
            refine TO.s rfl rfl rfl (StepS.ari rfl rfl rfl) ?_
            refine TO.s rfl rfl rfl (StepS.assign rfl) ?_
            cases hb19
            refine TO.nil fun a w e s => ?_
            exact ⟨e.sub (lk_of_allIn ⟨rfl, rfl, rfl, rfl, trivial⟩), s⟩
        · replace hb19 := cond_f hc20 hb19
          cases hb19
          refine TC.exit rfl fun a w e s => ?_
          exact ⟨e.sub (lk_of_allIn ⟨rfl, rfl, rfl, trivial⟩), s⟩
      · exact fun a w e s => ⟨e.sub (lk_of_allIn ⟨rfl, rfl, rfl, rfl, trivial⟩), s⟩
      · rintro x16 rfl a w ⟨he, hs⟩
        dsimp only [Ctl.on] at hb10
        refine TC.use ?_ he hs
        refine TC.region ?_
        refine TO.s rfl rfl rfl (StepS.move rfl) ?_
        refine TO.s rfl rfl rfl (StepS.ari rfl rfl rfl) ?_
        refine TO.s rfl rfl rfl (StepS.assign rfl) ?_
        cases hb10
        refine TO.nil fun a w e s => ?_
        exact ⟨e.sub (lk_of_allIn ⟨rfl, rfl, rfl, trivial⟩), s⟩
      · rintro r rfl
        exact fun a w h => h.elim
    · replace hb10 := cond_f hc11 hb10
      cases hb10
      refine TC.exit rfl fun a w e s => ?_
      exact ⟨e.sub (lk_of_allIn ⟨rfl, trivial⟩), s⟩
  · exact fun a w e s => ⟨e.sub (lk_of_allIn ⟨rfl, rfl, rfl, trivial⟩), s⟩
  · rintro x7 rfl a w ⟨he, hs⟩
    dsimp only [Ctl.on] at hm
    refine TC.use ?_ he hs
    refine TC.k ?_
    refine TC.region ?_
    refine TO.s rfl rfl rfl (StepS.move rfl) ?_
    refine TO.s rfl rfl rfl (StepS.assign rfl) ?_
    refine TO.code ?_
    cases hm
    refine TC.ret fun a w e s => ?_
    refine FRet.mk1 (P := Try.prog) (fn := Try.f53) (t := 4) e rfl rfl ?_
    exact ⟨rfl, s.mono fun _ => Sat.dropN 0⟩
  · rintro r rfl
    exact fun a w h => h.elim

set_option maxRecDepth 100000 in
theorem C27 {B : World} {L : List HP} {a0 : Int} {a1 : List (Int × Int)} {h1 : Value} {r0 : Bool} (e1 : Ent L (Rd 2 h1 (a1.map cTii))) (hm : F27 a0 a1 = some r0) {w : World} (st : St B L w) : Calls Try.prog 27 #[I a0, h1] w (fun e w' => (e = .returned (.bool r0) ∧ St B (L) w')) := by
  refine calls_of (N := 42) (L := L) (args := [I a0, h1]) Try.func27 rfl rfl rfl ?_ st
  dsimp only [F27] at hm
  refine TC.k ?_
  refine TC.region ?_
  refine TO.s rfl rfl rfl (StepS.assign rfl) ?_
  refine TO.code ?_
  refine TC.k ?_
  refine TC.region ?_
  refine TO.s rfl rfl rfl (StepS.move rfl) ?_
  obtain ⟨y1, hk2, hm⟩ := bind_some hm
  refine TO.mkS (f := cU) (za := 0) kelemB_82_31_1_4_true kinfo_31_bind_zero_some_U_0 rfl (by decide) rfl rfl hk2 rfl fun v3 => ?_
  refine TO.s rfl rfl rfl (StepS.assign rfl) ?_
  refine TO.code ?_
  refine TC.k ?_
  refine TC.k ?_
  refine TC.region ?_
  refine TO.s rfl rfl rfl (StepS.move rfl) ?_
  refine TO.s rfl rfl rfl (StepS.lenm rfl e1.tl ksliceB_30_81_2_true rfl) ?_
  refine TO.s rfl rfl rfl (StepS.move rfl) ?_
  refine TO.code ?_
  obtain ⟨o13, hw14, hm⟩ := bind_some hm
  refine TC.loop hw14 (fun (y5, x7) => fun a w => ∃ v6 : Value, Mid 42 B [(0, I a0), (5, v6), (11, h1), (12, I (a1.length : Int)), (13, I x7)] (OwnS 31 1 v6 (y5.map cU) :: L) a w) (fun y11 => fun a w => ∃ v12 : Value, Mid 42 B [(0, I a0), (5, v12)] (OwnS 31 1 v12 (y11.map cU) :: L) a w) (fun (_ : Unit) _ _ => False) ?_ ?_ ?_ ?_
  · rintro ⟨y5, x7⟩ o13r hb15 a w ⟨v6, he, hs⟩
    dsimp only [F27_L0] at hb15
    refine TC.use ?_ he hs
    refine TC.k ?_
    refine TC.region ?_
    refine TO.s rfl rfl rfl (StepS.cmp rfl rfl rfl) ?_
    refine TO.code ?_
    refine TC.k ?_
    refine TC.cond rfl (fun hc16 => ?_) (fun hc16 => ?_)
    · replace hb15 := cond_t hc16 hb15
      refine TC.skipk ?_
      refine TC.k ?_
      refine TC.block ?_
      refine TC.k ?_
      refine TC.region ?_
      obtain ⟨x17, hx18, hb15⟩ := bind_some hb15
      refine TO.s rfl rfl rfl (StepS.idx rfl rfl e1.tl ksliceB_30_81_2_true (idx_spec hx18).1 (idxm_lt hx18)) ?_
      refine TO.s rfl rfl rfl (StepS.ldE rfl e1.tl kaggB_81_2_true rfl (idxm hx18)) ?_
      refine TO.alloc kinfo_81_bind_zero_some_agg_I_0_I_0 rfl rfl fun b19 => ?_
      refine TO.stB (us := [I x17.1, I x17.2]) 0 [I x17.1, I x17.2] rfl rfl rfl ksizeB_81_2_true rfl rfl rfl (by simp [Value.oneCell']) rfl ?_
      refine TO.code ?_
      refine TC.region_tail 14 kfollows_mixedOrders_true (by kernel_rfl) ?_
      refine TS.s rfl rfl rfl (StepS.move rfl) ?_
      refine TS.s rfl rfl rfl (StepS.aidx (j := 0) rfl rfl karrB_81_2_3_1_true ⟨by decide, by decide⟩ rfl) ?_
      refine TS.s rfl rfl rfl (StepS.ldB rfl (Ent.at 0 rfl) kscalB_3_true rfl) ?_
      refine TS.s rfl rfl rfl (StepS.move rfl) ?_
      refine TS.s rfl rfl rfl (StepS.aidx (j := 0) rfl rfl karrB_81_2_3_1_true ⟨by decide, by decide⟩ rfl) ?_
      refine TS.s rfl rfl rfl (StepS.ldB rfl (Ent.at 0 rfl) kscalB_3_true rfl) ?_
      obtain ⟨x20, hx21, hb15⟩ := bind_some hb15
      refine TS.s rfl rfl rfl (StepS.idx rfl rfl (OwnS.rd (Ent.at 1 rfl)) ksliceB_82_31_1_true (idx_spec hx21).1 (idxm_lt hx21)) ?_
      refine TS.s rfl rfl rfl (StepS.ld0 rfl (OwnS.rd (Ent.at 1 rfl)) kscalB_31_true rfl (idxm hx21) rfl) ?_
      refine TS.s rfl rfl rfl (StepS.aidx (j := 1) rfl rfl karrB_81_2_3_1_true ⟨by decide, by decide⟩ rfl) ?_
      refine TS.s rfl rfl rfl (StepS.ldB rfl (Ent.at 0 rfl) kscalB_3_true rfl) ?_
      refine TS.s rfl rfl rfl (StepS.cvIV kintB_3_i64_true kintB_42_u64_true rfl) ?_
      refine TS.s rfl rfl rfl (StepS.shl (m := 1#32) rfl rfl (u64_nonneg _)) ?_
      refine TS.s rfl rfl rfl (StepS.bitU rfl rfl rfl) ?_
      obtain ⟨x22, hx23, hb15⟩ := bind_some hb15
      refine TS.s rfl rfl rfl (StepS.idx rfl rfl (OwnS.rd (Ent.at 1 rfl)) ksliceB_82_31_1_true (idx_spec hx23).1 (idxm_lt hx23)) ?_
      refine TS.nil ?_
      refine TO.at ?_
      refine TO.stO (i := x17.1.toNat) (off := 0) (us := [U (x20 ||| ((1#32) <<< (u64 x17.2).toNat))]) 1 (x20 ||| ((1#32) <<< (u64 x17.2).toNat)) rfl rfl rfl ksizeB_31_1_true rfl rfl rfl (idx_spec hx23).2 rfl (by simp [Value.oneCell']) rfl ?_
      refine TO.code ?_
      refine TC.region ?_
      refine TO.s rfl rfl rfl (StepS.ari rfl rfl rfl) ?_
      refine TO.s rfl rfl rfl (StepS.move rfl) ?_
      cases hb15
      refine TO.nil fun a w e s => ?_
      exact ⟨v6, e.sub (lk_of_allIn ⟨rfl, rfl, rfl, rfl, rfl, trivial⟩), s.mono fun _ => Sat.dropN 1⟩
    · replace hb15 := cond_f hc16 hb15
      cases hb15
      refine TC.exit rfl fun a w e s => ?_
      exact ⟨v6, e.sub (lk_of_allIn ⟨rfl, rfl, trivial⟩), s⟩
  · exact fun a w e s => ⟨v3, e.sub (lk_of_allIn ⟨rfl, rfl, rfl, rfl, rfl, trivial⟩), s⟩
  · rintro y11 rfl a w ⟨v12, he, hs⟩
    dsimp only [Ctl.on] at hm
    refine TC.use ?_ he hs
    refine TC.k ?_
    refine TC.k ?_
    refine TC.region ?_
    refine TO.s rfl rfl rfl (StepS.assign rfl) ?_
    refine TO.code ?_
    obtain ⟨o26, hw27, hm⟩ := bind_some hm
    refine TC.loop hw27 (fun x24 => fun a w => Mid 42 B [(0, I a0), (5, v12), (8, I x24)] (OwnS 31 1 v12 (y11.map cU) :: L) a w) (fun _ => fun a w => Mid 42 B [] (OwnS 31 1 v12 (y11.map cU) :: L) a w) (fun r0 => FRet Try.prog Try.f27 (fun e w' => (e = .returned (.bool r0) ∧ St B (L) w'))) ?_ ?_ ?_ ?_
    · rintro x24 o26r hb28 a w ⟨he, hs⟩
      dsimp only [F27_L1] at hb28
      refine TC.use ?_ he hs
      refine TC.k ?_
      refine TC.k ?_
      refine TC.region ?_
      refine TO.s rfl rfl rfl (StepS.move rfl) ?_
      refine TO.s rfl rfl rfl (StepS.move rfl) ?_
      refine TO.s rfl rfl rfl (StepS.cmp rfl rfl rfl) ?_
      refine TO.code ?_
      refine TC.cond rfl (fun hc29 => ?_) (fun hc29 => ?_)
      · replace hb28 := cond_t hc29 hb28
        refine TC.skipk ?_
        refine TC.k ?_
        refine TC.block ?_
        refine TC.k ?_
        refine TC.region ?_
        refine TO.s rfl rfl rfl (StepS.move rfl) ?_
        refine TO.s rfl rfl rfl (StepS.move rfl) ?_
        obtain ⟨r30, hc31, hb28⟩ := bind_some hb28
        refine TO.q rfl rfl rfl (StepQ.call kcallB_53_true rfl rfl (fun _ st => C53 (OwnS.rd (Ent.at 0 rfl)) hc31 st)) ?_
        refine TO.s rfl rfl rfl (StepS.move rfl) ?_
        obtain ⟨r32, hc33, hb28⟩ := bind_some hb28
        refine TO.q rfl rfl rfl (StepQ.call kcallB_23_true rfl rfl (fun _ st => C23  hc33 st)) ?_
        refine TO.code ?_
        refine TC.cond rfl (fun hc34 => ?_) (fun hc34 => ?_)
        · replace hb28 := cond_t hc34 hb28
          refine TC.k ?_
          refine TC.region ?_
          refine TO.s rfl rfl rfl (StepS.assign rfl) ?_
          refine TO.code ?_
          cases hb28
          refine TC.ret fun a w e s => ?_
          refine FRet.mk1 (P := Try.prog) (fn := Try.f27) (t := 4) e rfl rfl ?_
          exact ⟨rfl, s.mono fun _ => Sat.dropN 1⟩
        · replace hb28 := cond_f hc34 hb28
          refine TC.skipk ?_
          refine TC.region ?_
          refine TO.s rfl rfl rfl (StepS.move rfl) ?_
          refine TO.s rfl rfl rfl (StepS.ari rfl rfl rfl) ?_
          refine TO.s rfl rfl rfl (StepS.assign rfl) ?_
          cases hb28
          refine TO.nil fun a w e s => ?_
          exact ⟨e.sub (lk_of_allIn ⟨rfl, rfl, rfl, trivial⟩), s⟩
      · replace hb28 := cond_f hc29 hb28
        cases hb28
        refine TC.exit rfl fun a w e s => ?_
        exact ⟨e.sub (lk_of_allIn trivial), s⟩
    · exact fun a w e s => ⟨e.sub (lk_of_allIn ⟨rfl, rfl, rfl, trivial⟩), s⟩
    · rintro _ rfl a w ⟨he, hs⟩
      dsimp only [Ctl.on] at hm
      refine TC.use ?_ he hs
      refine TC.k ?_
      refine TC.region ?_
      refine TO.s rfl rfl rfl (StepS.assign rfl) ?_
      refine TO.code ?_
      cases hm
      refine TC.ret fun a w e s => ?_
      refine FRet.mk1 (P := Try.prog) (fn := Try.f27) (t := 4) e rfl rfl ?_
      exact ⟨rfl, s.mono fun _ => Sat.dropN 1⟩
    · rintro r rfl
      cases hm
      exact fun a w h => h
  · rintro r rfl
    exact fun a w h => h.elim

set_option maxRecDepth 100000 in
theorem C7 {B : World} {L : List HP} {a0 : Int} {a1 : List (Int × Int)} {h1 : Value} {r0 : Bool} (e1 : Ent L (Rd 2 h1 (a1.map cTii))) (hm : F7 a0 a1 = some r0) {w : World} (st : St B L w) : Calls Try.prog 7 #[I a0, h1] w (fun e w' => (e = .returned (.bool r0) ∧ St B (L) w')) := by
  refine calls_of (N := 35) (L := L) (args := [I a0, h1]) Try.func7 rfl rfl rfl ?_ st
  dsimp only [F7] at hm
  refine TC.k ?_
  refine TC.region ?_
  refine TO.s rfl rfl rfl (StepS.assign rfl) ?_
  refine TO.code ?_
  refine TC.k ?_
  refine TC.region ?_
  refine TO.s rfl rfl rfl (StepS.move rfl) ?_
  refine TO.s rfl rfl rfl (StepS.move rfl) ?_
  obtain ⟨⟨r1, r2⟩, hc3, hm⟩ := bind_some hm
  refine TO.q rfl rfl rfl (StepQ.call kcallB_26_true rfl rfl (fun _ st => C26 e1 hc3 st)) ?_
  refine TO.s rfl rfl rfl (StepS.move rfl) ?_
  refine TO.s rfl rfl rfl (StepS.extract rfl rfl) ?_
  refine TO.s rfl rfl rfl (StepS.extract rfl rfl) ?_
  refine TO.s rfl rfl rfl (StepS.assign rfl) ?_
  refine TO.s rfl rfl rfl (StepS.assign rfl) ?_
  refine TO.code ?_
  refine TC.k ?_
  refine TC.region ?_
  refine TO.s rfl rfl rfl (StepS.move rfl) ?_
  refine TO.s rfl rfl rfl (StepS.move rfl) ?_
  obtain ⟨r4, hc5, hm⟩ := bind_some hm
  refine TO.q rfl rfl rfl (StepQ.call kcallB_20_true rfl rfl (fun _ st => C20 e1 hc5 st)) ?_
  refine TO.s rfl rfl rfl (StepS.assign rfl) ?_
  refine TO.code ?_
  refine TC.k ?_
  refine TC.k ?_
  refine TC.region ?_
  refine TO.s rfl rfl rfl (StepS.move rfl) ?_
  refine TO.s rfl rfl rfl (StepS.cmp rfl rfl rfl) ?_
  refine TO.code ?_
  refine TC.cond rfl (fun hc6 => ?_) (fun hc6 => ?_)
  · replace hm := cond_t hc6 hm
    refine TC.k ?_
    refine TC.region ?_
    refine TO.s rfl rfl rfl (StepS.move rfl) ?_
    refine TO.s rfl rfl rfl (StepS.move rfl) ?_
    refine TO.s rfl rfl rfl (StepS.cmp rfl rfl rfl) ?_
    refine TO.s rfl rfl rfl (StepS.move rfl) ?_
    refine TO.mid1 3 25 (.bool ((r2 == r4) && (!r1))) ?_ ?_
    · refine bcase ((r2 == r4)) (fun hb7 => ?_) (fun hb7 => ?_)
      · refine TO.sw rfl rfl rfl hb7 rfl rfl (StepS.move rfl) ?_
        refine TO.sw rfl rfl rfl hb7 rfl rfl (StepS.not rfl) ?_
        refine TO.s rfl rfl rfl (StepS.pickT rfl hb7 rfl) ?_
        exact TO.up1 3 0 rfl rfl (by rw [hb7]; rfl) rfl
      · refine TO.skip rfl rfl rfl (skipF hb7) rfl rfl ?_
        refine TO.skip rfl rfl rfl (skipF hb7) rfl rfl ?_
        refine TO.s rfl rfl rfl (StepS.pickF rfl hb7 rfl) ?_
        exact TO.up1 3 0 rfl rfl (by rw [hb7]; rfl) rfl
    refine TO.s rfl rfl rfl (StepS.assign rfl) ?_
    refine TO.code ?_
    cases hm
    refine TC.ret fun a w e s => ?_
    refine FRet.mk1 (P := Try.prog) (fn := Try.f7) (t := 4) e rfl rfl ?_
    exact ⟨rfl, s.mono fun _ => Sat.dropN 0⟩
  · replace hm := cond_f hc6 hm
    refine TC.skipk ?_
    refine TC.k ?_
    refine TC.region ?_
    refine TO.s rfl rfl rfl (StepS.move rfl) ?_
    refine TO.s rfl rfl rfl (StepS.cmp rfl rfl rfl) ?_
    refine TO.s rfl rfl rfl (StepS.move rfl) ?_
    obtain ⟨b9, hj10, hm⟩ := bind_some hm
    refine TO.mid1 6 34 (.bool b9) ?_ ?_
    · refine bcase ((r2 == 0)) (fun hb8 => ?_) (fun hb8 => ?_)
      · replace hj10 := cond_t hb8 hj10
        refine TO.sw rfl rfl rfl hb8 rfl rfl (StepS.move rfl) ?_
        refine TO.sw rfl rfl rfl hb8 rfl rfl (StepS.move rfl) ?_
        refine TO.sw rfl rfl rfl hb8 rfl rfl (StepS.move rfl) ?_
        obtain ⟨r11, hc12, hj10⟩ := bind_some hj10
        refine TO.qw rfl rfl rfl hb8 rfl rfl (StepQ.call kcallB_27_true rfl rfl (fun _ st => C27 e1 hc12 st)) ?_
        refine TO.sw rfl rfl rfl hb8 rfl rfl (StepS.eqB kunderlying_4_some_bool rfl rfl) ?_
        cases hj10
        refine TO.s rfl rfl rfl (StepS.pickT rfl hb8 rfl) ?_
        exact TO.up1 6 0 rfl rfl rfl rfl
      · replace hj10 := cond_f hb8 hj10
        cases hj10
        refine TO.skip rfl rfl rfl (skipF hb8) rfl rfl ?_
        refine TO.skip rfl rfl rfl (skipF hb8) rfl rfl ?_
        refine TO.skip rfl rfl rfl (skipF hb8) rfl rfl ?_
        refine TO.skip rfl rfl rfl (skipF hb8) rfl rfl ?_
        refine TO.skip rfl rfl rfl (skipF hb8) rfl rfl ?_
        refine TO.s rfl rfl rfl (StepS.pickF rfl hb8 rfl) ?_
        exact TO.up1 6 0 rfl rfl rfl rfl
    refine TO.s rfl rfl rfl (StepS.assign rfl) ?_
    refine TO.code ?_
    cases hm
    refine TC.ret fun a w e s => ?_
    refine FRet.mk1 (P := Try.prog) (fn := Try.f7) (t := 4) e rfl rfl ?_
    exact ⟨rfl, s.mono fun _ => Sat.dropN 0⟩

set_option maxRecDepth 100000 in
theorem C28 {B : World} {L : List HP} {a0 : Int} {a1 : List (Int × Int)} {a2 : Int} {h1 : Value} {r0 : List (Int × Int)} {r1 : List Int} {r2 : Int} (e1 : Ent L (Rd 2 h1 (a1.map cTii))) (hm : F28 a0 a1 a2 = some (r0, r1, r2)) {w : World} (st : St B L w) : Calls Try.prog 28 #[I a0, h1, I a2] w (fun e w' => ∃ v M, e = .returned v ∧ (∃ (qv1 : Value) (qv2 : Value), v = .tuple #[qv1, qv2, I r2] ∧ M = (OwnS 81 2 qv1 (r0.map cTii) :: OwnS 3 1 qv2 (r1.map cI) :: L)) ∧ St B M w') := by
  refine calls_of (N := 60) (L := L) (args := [I a0, h1, I a2]) Try.func28 rfl rfl rfl ?_ st
  dsimp only [F28] at hm
  refine TC.k ?_
  refine TC.region ?_
  refine TO.s rfl rfl rfl (StepS.assign rfl) ?_
  refine TO.s rfl rfl rfl (StepS.assign rfl) ?_
  refine TO.s rfl rfl rfl (StepS.assign rfl) ?_
  refine TO.code ?_
  refine TC.k ?_
  refine TC.k ?_
  refine TC.region ?_
  refine TO.s rfl rfl rfl (StepS.move rfl) ?_
  refine TO.s rfl rfl rfl (StepS.move rfl) ?_
  obtain ⟨r3, hc4, hm⟩ := bind_some hm
  refine TO.q rfl rfl rfl (StepQ.call kcallB_49_true rfl rfl (fun _ st => C49 e1 hc4 st)) ?_
  refine TO.s rfl rfl rfl (StepS.assign rfl) ?_
  refine TO.code ?_
  refine TC.k ?_
  refine TC.region ?_
  refine TO.s rfl rfl rfl (StepS.move rfl) ?_
  refine TO.s rfl rfl rfl (StepS.cmp rfl rfl rfl) ?_
  refine TO.code ?_
  refine TC.cond rfl (fun hc5 => ?_) (fun hc5 => ?_)
  · replace hm := cond_t hc5 hm
    refine TC.k ?_
    refine TC.region ?_
    refine TO.s rfl rfl rfl (StepS.move rfl) ?_
    refine TO.s rfl rfl rfl (StepS.assign rfl) ?_
    refine TO.s rfl rfl rfl (StepS.assign rfl) ?_
    refine TO.s rfl rfl rfl (StepS.assign rfl) ?_
    refine TO.code ?_
    cases hm
    refine TC.ret fun a w e s => ?_
    refine FRet.mk3 (P := Try.prog) (fn := Try.f28) (t := 6) (u := 7) (s := 8) e rfl rfl rfl rfl ?_
    refine ⟨_, _, rfl, ⟨(.slice none 0 0), (.slice none 0 0), rfl, rfl⟩, ?_⟩
    refine s.mono fun _ s => ?_
    replace s := Sat.nilS (e := 3) (sz := 1) (f := cI) s
    replace s := Sat.nilS (e := 81) (sz := 2) (f := cTii) s
    exact s
  · replace hm := cond_f hc5 hm
    refine TC.skipk ?_
    refine TC.k ?_
    refine TC.k ?_
    refine TC.region ?_
    refine TO.s rfl rfl rfl (StepS.move rfl) ?_
    refine TO.s rfl rfl rfl (StepS.cmp rfl rfl rfl) ?_
    refine TO.s rfl rfl rfl (StepS.move rfl) ?_
    refine TO.mid1 3 24 (.bool ((decide (a2 < 0)) || (decide (a2 > 60)))) ?_ ?_
    · refine bcase ((decide (a2 < 0))) (fun hb6 => ?_) (fun hb6 => ?_)
      · refine TO.skip rfl rfl rfl (skipT hb6) rfl rfl ?_
        refine TO.skip rfl rfl rfl (skipT hb6) rfl rfl ?_
        refine TO.s rfl rfl rfl (StepS.pickT rfl hb6 rfl) ?_
        exact TO.up1 3 0 rfl rfl (by rw [hb6]; rfl) rfl
      · refine TO.sw rfl rfl rfl hb6 rfl rfl (StepS.move rfl) ?_
        refine TO.sw rfl rfl rfl hb6 rfl rfl (StepS.cmp rfl rfl rfl) ?_
        refine TO.s rfl rfl rfl (StepS.pickF rfl hb6 rfl) ?_
        exact TO.up1 3 0 rfl rfl (by rw [hb6]; rfl) rfl
    refine TO.code ?_
    refine TC.cond rfl (fun hc7 => ?_) (fun hc7 => ?_)
    · replace hm := cond_t hc7 hm
      refine TC.k ?_
      refine TC.region ?_
      refine TO.s rfl rfl rfl (StepS.assign rfl) ?_
      refine TO.s rfl rfl rfl (StepS.assign rfl) ?_
      refine TO.s rfl rfl rfl (StepS.assign rfl) ?_
      refine TO.code ?_
      cases hm
      refine TC.ret fun a w e s => ?_
      refine FRet.mk3 (P := Try.prog) (fn := Try.f28) (t := 6) (u := 7) (s := 8) e rfl rfl rfl rfl ?_
      refine ⟨_, _, rfl, ⟨(.slice none 0 0), (.slice none 0 0), rfl, rfl⟩, ?_⟩
      refine s.mono fun _ s => ?_
      replace s := Sat.nilS (e := 3) (sz := 1) (f := cI) s
      replace s := Sat.nilS (e := 81) (sz := 2) (f := cTii) s
      exact s
    · replace hm := cond_f hc7 hm
      refine TC.skipk ?_
      refine TC.k ?_
      refine TC.k ?_
      refine TC.region ?_
      refine TO.s rfl rfl rfl (StepS.move rfl) ?_
      refine TO.s rfl rfl rfl (StepS.move rfl) ?_
      obtain ⟨r8, hc9, hm⟩ := bind_some hm
      refine TO.q rfl rfl rfl (StepQ.call kcallB_52_true rfl rfl (fun _ st => C52 e1 hc9 st)) ?_
      refine TO.code ?_
      refine TC.cond rfl (fun hc10 => ?_) (fun hc10 => ?_)
      · replace hm := cond_t hc10 hm
        refine TC.k ?_
        refine TC.region ?_
        refine TO.s rfl rfl rfl (StepS.assign rfl) ?_
        refine TO.s rfl rfl rfl (StepS.assign rfl) ?_
        refine TO.s rfl rfl rfl (StepS.assign rfl) ?_
        refine TO.code ?_
        cases hm
        refine TC.ret fun a w e s => ?_
        refine FRet.mk3 (P := Try.prog) (fn := Try.f28) (t := 6) (u := 7) (s := 8) e rfl rfl rfl rfl ?_
        refine ⟨_, _, rfl, ⟨(.slice none 0 0), (.slice none 0 0), rfl, rfl⟩, ?_⟩
        refine s.mono fun _ s => ?_
        replace s := Sat.nilS (e := 3) (sz := 1) (f := cI) s
        replace s := Sat.nilS (e := 81) (sz := 2) (f := cTii) s
        exact s
      · replace hm := cond_f hc10 hm
        refine TC.skipk ?_
        refine TC.k ?_
        refine TC.region ?_
        refine TO.s rfl rfl rfl (StepS.move rfl) ?_
        obtain ⟨y11, hk12, hm⟩ := bind_some hm
        refine TO.mkS (f := cI) (za := 0) kelemB_22_3_1_8_true kinfo_3_bind_zero_some_I_0 rfl (by decide) rfl rfl hk12 rfl fun v13 => ?_
        refine TO.s rfl rfl rfl (StepS.assign rfl) ?_
        refine TO.code ?_
        refine TC.k ?_
        refine TC.region ?_
        refine TO.s rfl rfl rfl (StepS.move rfl) ?_
        obtain ⟨r15, hc16, hm⟩ := bind_some hm
        refine TO.callO kcallB_54_true rfl rfl rfl (fun _ st => C54 e1.tl hc16 st) ?_
        rintro v17 _ ⟨_, rfl, rfl⟩
        refine TO.s rfl rfl rfl (StepS.assign rfl) ?_
        refine TO.code ?_
        refine TC.k ?_
        refine TC.k ?_
        refine TC.region ?_
        refine TO.s rfl rfl rfl (StepS.move rfl) ?_
        refine TO.s rfl rfl rfl (StepS.move rfl) ?_
        refine TO.code ?_
        obtain ⟨o36, hw37, hm⟩ := bind_some hm
        refine TC.loop hw37 (fun (y21, y22, x24) => fun a w => ∃ v19 : Value, ∃ v23 : Value, Mid 60 B [(0, I a0), (1, v19), (10, v23), (32, I a2), (33, I x24)] (OwnS 81 2 v19 (y21.map cTii) :: OwnS 3 1 v23 (y22.map cI) :: L) a w) (fun (y33, y34) => fun a w => ∃ v31 : Value, ∃ v35 : Value, Mid 60 B [(1, v31), (10, v35)] (OwnS 81 2 v31 (y33.map cTii) :: OwnS 3 1 v35 (y34.map cI) :: L) a w) (fun (_ : Unit) _ _ => False) ?_ ?_ ?_ ?_
        · rintro ⟨y21, y22, x24⟩ o36r hb38 a w ⟨v19, v23, he, hs⟩
          dsimp only [F28_L0] at hb38
          refine TC.use ?_ he hs
          refine TC.k ?_
          refine TC.region ?_
          refine TO.s rfl rfl rfl (StepS.cmp rfl rfl rfl) ?_
          refine TO.code ?_
          refine TC.k ?_
          refine TC.cond rfl (fun hc39 => ?_) (fun hc39 => ?_)
          · replace hb38 := cond_t hc39 hb38
            refine TC.skipk ?_
            refine TC.k ?_
            refine TC.block ?_
            refine TC.k ?_
            refine TC.region ?_
            refine TO.s rfl rfl rfl (StepS.move rfl) ?_
            refine TO.s rfl rfl rfl (StepS.move rfl) ?_
            obtain ⟨r40, hc41, hb38⟩ := bind_some hb38
            refine TO.q rfl rfl rfl (StepQ.call kcallB_50_true rfl rfl (fun _ st => C50 (OwnS.rd (Ent.at 0 rfl)) hc41 st)) ?_
            refine TO.s rfl rfl rfl (StepS.assign rfl) ?_
            refine TO.code ?_
            refine TC.k ?_
            refine TC.k ?_
            refine TC.region ?_
            refine TO.s rfl rfl rfl (StepS.move rfl) ?_
            refine TO.s rfl rfl rfl (StepS.move rfl) ?_
            refine TO.code ?_
            obtain ⟨o50, hw51, hb38⟩ := bind_some hb38
            refine TC.loop hw51 (fun (y42, x44) => fun a w => ∃ v43 : Value, Mid 60 B [(0, I a0), (1, v19), (10, v43), (11, U r40), (32, I a2), (33, I x24), (38, I a0), (39, I x44)] (OwnS 81 2 v19 (y21.map cTii) :: OwnS 3 1 v43 (y42.map cI) :: L) a w) (fun y48 => fun a w => ∃ v49 : Value, Mid 60 B [(0, I a0), (1, v19), (10, v49), (11, U r40), (32, I a2), (33, I x24)] (OwnS 81 2 v19 (y21.map cTii) :: OwnS 3 1 v49 (y48.map cI) :: L) a w) (fun (_ : Unit) _ _ => False) ?_ ?_ ?_ ?_
            · rintro ⟨y42, x44⟩ o50r hb52 a w ⟨v43, he, hs⟩
              dsimp only [F28_L1] at hb52
              refine TC.use ?_ he hs
              refine TC.k ?_
              refine TC.region ?_
              refine TO.s rfl rfl rfl (StepS.cmp rfl rfl rfl) ?_
              refine TO.code ?_
              refine TC.k ?_
              refine TC.cond rfl (fun hc53 => ?_) (fun hc53 => ?_)
              · replace hb52 := cond_t hc53 hb52
                refine TC.skipk ?_
                refine TC.k ?_
                refine TC.block ?_
                refine TC.k ?_
                refine TC.region ?_
                refine TO.s rfl rfl rfl (StepS.move rfl) ?_
                refine TO.s rfl rfl rfl (StepS.assign rfl) ?_
                refine TO.code ?_
                refine TC.region_tail 11 kfollows_mixedOrders_true (by kernel_rfl) ?_
                refine TS.s rfl rfl rfl (StepS.move rfl) ?_
                refine TS.s rfl rfl rfl (StepS.move rfl) ?_
                obtain ⟨x54, hx55, hb52⟩ := bind_some hb52
                refine TS.s rfl rfl rfl (StepS.idx rfl rfl (OwnS.rd (Ent.at 1 rfl)) ksliceB_22_3_1_true (idx_spec hx55).1 (idxm_lt hx55)) ?_
                refine TS.s rfl rfl rfl (StepS.ld0 rfl (OwnS.rd (Ent.at 1 rfl)) kscalB_3_true rfl (idxm hx55) rfl) ?_
                refine TS.s rfl rfl rfl (StepS.move rfl) ?_
                refine TS.s rfl rfl rfl (StepS.move rfl) ?_
                obtain ⟨k56, hk57, hb52⟩ := bind_some hb52
                refine TS.s rfl rfl rfl (StepS.shrk rfl rfl hk57) ?_
                refine TS.s rfl rfl rfl (StepS.bitU (n := 1#32) rfl rfl rfl) ?_
                refine TS.s rfl rfl rfl (StepS.cvUI kintB_31_u32_true kintB_3_i64_true rfl) ?_
                refine TS.s rfl rfl rfl (StepS.ari rfl rfl rfl) ?_
                obtain ⟨x58, hx59, hb52⟩ := bind_some hb52
                refine TS.s rfl rfl rfl (StepS.idx rfl rfl (OwnS.rd (Ent.at 1 rfl)) ksliceB_22_3_1_true (idx_spec hx59).1 (idxm_lt hx59)) ?_
                refine TS.nil ?_
                refine TO.at ?_
                refine TO.stO (i := x44.toNat) (off := 0) (us := [I (w64 (x54 + (((r40 >>> k56) &&& (1#32)).toNat : Int)))]) 1 (w64 (x54 + (((r40 >>> k56) &&& (1#32)).toNat : Int))) rfl rfl rfl ksizeB_3_1_true rfl rfl rfl (idx_spec hx59).2 rfl (by simp [Value.oneCell']) rfl ?_
                refine TO.code ?_
                refine TC.region ?_
                refine TO.s rfl rfl rfl (StepS.ari rfl rfl rfl) ?_
                refine TO.s rfl rfl rfl (StepS.move rfl) ?_
                cases hb52
                refine TO.nil fun a w e s => ?_
                exact ⟨v43, e.sub (lk_of_allIn ⟨rfl, rfl, rfl, rfl, rfl, rfl, rfl, rfl, trivial⟩), s⟩
              · replace hb52 := cond_f hc53 hb52
                cases hb52
                refine TC.exit rfl fun a w e s => ?_
                exact ⟨v43, e.sub (lk_of_allIn ⟨rfl, rfl, rfl, rfl, rfl, rfl, trivial⟩), s⟩
            · exact fun a w e s => ⟨v23, e.sub (lk_of_allIn ⟨rfl, rfl, rfl, rfl, rfl, rfl, rfl, rfl, trivial⟩), s⟩
            · rintro y48 rfl a w ⟨v49, he, hs⟩
              dsimp only [Ctl.on] at hb38
              refine TC.use ?_ he hs
              refine TC.region ?_
              refine TO.s rfl rfl rfl (StepS.move rfl) ?_
              refine TO.s rfl rfl rfl (StepS.move rfl) ?_
              obtain ⟨r60, hc61, hb38⟩ := bind_some hb38
              refine TO.callO kcallB_51_true rfl rfl rfl (fun _ st => C51 (OwnS.rd (Ent.at 0 rfl)) hc61 st) ?_
              rintro v62 _ ⟨_, rfl, rfl⟩
              refine TO.s rfl rfl rfl (StepS.assign rfl) ?_
              refine TO.code ?_
              refine TC.region ?_
              refine TO.s rfl rfl rfl (StepS.ari rfl rfl rfl) ?_
              refine TO.s rfl rfl rfl (StepS.move rfl) ?_
              cases hb38
              refine TO.nil fun a w e s => ?_
              exact ⟨v62, v49, e.sub (lk_of_allIn ⟨rfl, rfl, rfl, rfl, rfl, trivial⟩), s.mono fun _ s => (by replace s := Sat.front 2 rfl s; replace s := Sat.front 1 rfl s; replace s := Sat.erase 2 s; exact s)⟩
            · rintro r rfl
              exact fun a w h => h.elim
          · replace hb38 := cond_f hc39 hb38
            cases hb38
            refine TC.exit rfl fun a w e s => ?_
            exact ⟨v19, v23, e.sub (lk_of_allIn ⟨rfl, rfl, trivial⟩), s⟩
        · exact fun a w e s => ⟨v17, v13, e.sub (lk_of_allIn ⟨rfl, rfl, rfl, rfl, rfl, trivial⟩), s⟩
        · rintro ⟨y33, y34⟩ rfl a w ⟨v31, v35, he, hs⟩
          dsimp only [Ctl.on] at hm
          refine TC.use ?_ he hs
          refine TC.k ?_
          refine TC.region ?_
          refine TO.s rfl rfl rfl (StepS.move rfl) ?_
          refine TO.s rfl rfl rfl (StepS.move rfl) ?_
          refine TO.s rfl rfl rfl (StepS.assign rfl) ?_
          refine TO.s rfl rfl rfl (StepS.assign rfl) ?_
          refine TO.s rfl rfl rfl (StepS.assign rfl) ?_
          refine TO.code ?_
          cases hm
          refine TC.ret fun a w e s => ?_
          refine FRet.mk3 (P := Try.prog) (fn := Try.f28) (t := 6) (u := 7) (s := 8) e rfl rfl rfl rfl ?_
          refine ⟨_, _, rfl, ⟨(v31), (v35), rfl, rfl⟩, ?_⟩
          refine s.mono fun _ s => ?_
          replace s := Sat.front 1 rfl s
          replace s := Sat.front 1 rfl s
          exact s
        · rintro r rfl
          exact fun a w h => h.elim

set_option maxRecDepth 100000 in
theorem C8 {B : World} {L : List HP} {a0 : Int} {a1 : List (Int × Int)} {a2 : Int} {h1 : Value} {r0 : Bool} (e1 : Ent L (Rd 2 h1 (a1.map cTii))) (hm : F8 a0 a1 a2 = some r0) {w : World} (st : St B L w) : Calls Try.prog 8 #[I a0, h1, I a2] w (fun e w' => (e = .returned (.bool r0) ∧ St B (L) w')) := by
  refine calls_of (N := 99) (L := L) (args := [I a0, h1, I a2]) Try.func8 rfl rfl rfl ?_ st
  dsimp only [F8] at hm
  refine TC.k ?_
  refine TC.region ?_
  refine TO.s rfl rfl rfl (StepS.assign rfl) ?_
  refine TO.code ?_
  refine TC.k ?_
  refine TC.region ?_
  refine TO.s rfl rfl rfl (StepS.move rfl) ?_
  refine TO.s rfl rfl rfl (StepS.move rfl) ?_
  refine TO.s rfl rfl rfl (StepS.move rfl) ?_
  obtain ⟨⟨r1, r2, r3⟩, hc4, hm⟩ := bind_some hm
  refine TO.callO kcallB_28_true rfl rfl rfl (fun _ st => C28 e1 hc4 st) ?_
  rintro _ _ ⟨v5, v7, rfl, rfl⟩
  refine TO.s rfl rfl rfl (StepS.move rfl) ?_
  refine TO.s rfl rfl rfl (StepS.extract rfl rfl) ?_
  refine TO.s rfl rfl rfl (StepS.extract rfl rfl) ?_
  refine TO.s rfl rfl rfl (StepS.extract rfl rfl) ?_
  refine TO.s rfl rfl rfl (StepS.assign rfl) ?_
  refine TO.s rfl rfl rfl (StepS.assign rfl) ?_
  refine TO.s rfl rfl rfl (StepS.assign rfl) ?_
  refine TO.code ?_
  refine TC.k ?_
  refine TC.region ?_
  refine TO.s rfl rfl rfl (StepS.move rfl) ?_
  refine TO.s rfl rfl rfl (StepS.move rfl) ?_
  obtain ⟨r9, hc10, hm⟩ := bind_some hm
  refine TO.q rfl rfl rfl (StepQ.call kcallB_20_true rfl rfl (fun _ st => C20 e1.tl.tl hc10 st)) ?_
  refine TO.s rfl rfl rfl (StepS.assign rfl) ?_
  refine TO.code ?_
  refine TC.k ?_
  refine TC.k ?_
  refine TC.region ?_
  refine TO.s rfl rfl rfl (StepS.move rfl) ?_
  refine TO.s rfl rfl rfl (StepS.cmp rfl rfl rfl) ?_
  refine TO.s rfl rfl rfl (StepS.move rfl) ?_
  refine TO.mid1 7 35 (.bool ((r9 == 0) && ((decide (a2 < 0)) || (decide (a2 > 60))))) ?_ ?_
  · refine bcase ((r9 == 0)) (fun hb11 => ?_) (fun hb11 => ?_)
    · refine TO.sw rfl rfl rfl hb11 rfl rfl (StepS.move rfl) ?_
      refine TO.sw rfl rfl rfl hb11 rfl rfl (StepS.cmp rfl rfl rfl) ?_
      refine TO.sw rfl rfl rfl hb11 rfl rfl (StepS.move rfl) ?_
      refine TO.mid1 3 34 (.bool ((decide (a2 < 0)) || (decide (a2 > 60)))) ?_ ?_
      · refine bcase ((decide (a2 < 0))) (fun hb12 => ?_) (fun hb12 => ?_)
        · refine TO.skip rfl rfl rfl (skipT hb12) rfl rfl ?_
          refine TO.skip rfl rfl rfl (skipT hb12) rfl rfl ?_
          refine TO.sw rfl rfl rfl hb11 rfl rfl (StepS.pickT rfl hb12 rfl) ?_
          exact TO.up1 3 0 rfl rfl (by rw [hb12]; rfl) rfl
        · refine TO.sw rfl rfl rfl hb12 rfl rfl (StepS.move rfl) ?_
          refine TO.sw rfl rfl rfl hb12 rfl rfl (StepS.cmp rfl rfl rfl) ?_
          refine TO.sw rfl rfl rfl hb11 rfl rfl (StepS.pickF rfl hb12 rfl) ?_
          exact TO.up1 3 0 rfl rfl (by rw [hb12]; rfl) rfl
      refine TO.s rfl rfl rfl (StepS.pickT rfl hb11 rfl) ?_
      exact TO.up1 5 0 rfl rfl (by rw [hb11]; rfl) rfl
    · refine TO.skip rfl rfl rfl (skipF hb11) rfl rfl ?_
      refine TO.skip rfl rfl rfl (skipF hb11) rfl rfl ?_
      refine TO.skip rfl rfl rfl (skipF hb11) rfl rfl ?_
      refine TO.skip rfl rfl rfl skipU rfl rfl ?_
      refine TO.skip rfl rfl rfl skipU rfl rfl ?_
      refine TO.skip rfl rfl rfl (skipF hb11) rfl rfl ?_
      refine TO.s rfl rfl rfl (StepS.pickF rfl hb11 rfl) ?_
      exact TO.up1 7 0 rfl rfl (by rw [hb11]; rfl) rfl
  refine TO.code ?_
  obtain ⟨x13, hj14, hm⟩ := bind_some hm
  refine TC.cutM (fun a w => Mid 99 B [(0, I a0), (1, h1), (2, I a2), (7, v5), (8, v7), (9, I r3), (10, I x13)] (OwnS 81 2 v5 (r1.map cTii) :: OwnS 3 1 v7 (r2.map cI) :: L) a w) ?_ ?_
  · refine TC.cond rfl (fun hc15 => ?_) (fun hc15 => ?_)
    · replace hj14 := cond_t hc15 hj14
      refine TC.region ?_
      refine TO.s rfl rfl rfl (StepS.assign rfl) ?_
      cases hj14
      refine TO.nil fun a w e s => ?_
      exact ⟨e.sub (lk_of_allIn ⟨rfl, rfl, rfl, rfl, rfl, rfl, rfl, trivial⟩), s⟩
    · replace hj14 := cond_f hc15 hj14
      cases hj14
      refine TC.skip fun a w e s => ?_
      exact ⟨e.sub (lk_of_allIn ⟨rfl, rfl, rfl, rfl, rfl, rfl, rfl, trivial⟩), s⟩
  · intro a w ⟨he, hs⟩
    refine TC.use ?_ he hs
    refine TC.k ?_
    refine TC.k ?_
    refine TC.region ?_
    refine TO.s rfl rfl rfl (StepS.move rfl) ?_
    refine TO.s rfl rfl rfl (StepS.cmp rfl rfl rfl) ?_
    refine TO.s rfl rfl rfl (StepS.move rfl) ?_
    obtain ⟨b17, hj18, hm⟩ := bind_some hm
    refine TO.mid1 4 42 (.bool b17) ?_ ?_
    · refine bcase ((x13 == 0)) (fun hb16 => ?_) (fun hb16 => ?_)
      · replace hj18 := cond_t hb16 hj18
        refine TO.sw rfl rfl rfl hb16 rfl rfl (StepS.move rfl) ?_
        refine TO.sw rfl rfl rfl hb16 rfl rfl (StepS.move rfl) ?_
        obtain ⟨r19, hc20, hj18⟩ := bind_some hj18
        refine TO.qw rfl rfl rfl hb16 rfl rfl (StepQ.call kcallB_27_true rfl rfl (fun _ st => C27 e1.tl.tl hc20 st)) ?_
        cases hj18
        refine TO.s rfl rfl rfl (StepS.pickT rfl hb16 rfl) ?_
        exact TO.up1 4 0 rfl rfl rfl rfl
      · replace hj18 := cond_f hb16 hj18
        cases hj18
        refine TO.skip rfl rfl rfl (skipF hb16) rfl rfl ?_
        refine TO.skip rfl rfl rfl (skipF hb16) rfl rfl ?_
        refine TO.skip rfl rfl rfl (skipF hb16) rfl rfl ?_
        refine TO.s rfl rfl rfl (StepS.pickF rfl hb16 rfl) ?_
        exact TO.up1 4 0 rfl rfl rfl rfl
    refine TO.code ?_
    obtain ⟨x21, hj22, hm⟩ := bind_some hm
    refine TC.cutM (fun a w => Mid 99 B [(0, I a0), (1, h1), (2, I a2), (7, v5), (8, v7), (9, I r3), (10, I x21)] (OwnS 81 2 v5 (r1.map cTii) :: OwnS 3 1 v7 (r2.map cI) :: L) a w) ?_ ?_
    · refine TC.cond rfl (fun hc23 => ?_) (fun hc23 => ?_)
      · replace hj22 := cond_t hc23 hj22
        refine TC.region ?_
        refine TO.s rfl rfl rfl (StepS.assign rfl) ?_
        cases hj22
        refine TO.nil fun a w e s => ?_
        exact ⟨e.sub (lk_of_allIn ⟨rfl, rfl, rfl, rfl, rfl, rfl, rfl, trivial⟩), s⟩
      · replace hj22 := cond_f hc23 hj22
        cases hj22
        refine TC.skip fun a w e s => ?_
        exact ⟨e.sub (lk_of_allIn ⟨rfl, rfl, rfl, rfl, rfl, rfl, rfl, trivial⟩), s⟩
    · intro a w ⟨he, hs⟩
      refine TC.use ?_ he hs
      refine TC.k ?_
      refine TC.k ?_
      refine TC.region ?_
      refine TO.s rfl rfl rfl (StepS.move rfl) ?_
      refine TO.s rfl rfl rfl (StepS.cmp rfl rfl rfl) ?_
      refine TO.code ?_
      refine TC.cond rfl (fun hc24 => ?_) (fun hc24 => ?_)
      · replace hm := cond_t hc24 hm
        refine TC.k ?_
        refine TC.region ?_
        refine TO.s rfl rfl rfl (StepS.move rfl) ?_
        refine TO.s rfl rfl rfl (StepS.move rfl) ?_
        refine TO.s rfl rfl rfl (StepS.cmp rfl rfl rfl) ?_
        refine TO.s rfl rfl rfl (StepS.move rfl) ?_
        refine TO.mid1 4 52 (.bool ((r3 == x21) && ((r1.length : Int) == 0))) ?_ ?_
        · refine bcase ((r3 == x21)) (fun hb25 => ?_) (fun hb25 => ?_)
          · refine TO.sw rfl rfl rfl hb25 rfl rfl (StepS.move rfl) ?_
            refine TO.sw rfl rfl rfl hb25 rfl rfl (StepS.lenm rfl (OwnS.rd (Ent.at 0 rfl)) ksliceB_30_81_2_true rfl) ?_
            refine TO.sw rfl rfl rfl hb25 rfl rfl (StepS.cmp rfl rfl rfl) ?_
            refine TO.s rfl rfl rfl (StepS.pickT rfl hb25 rfl) ?_
            exact TO.up1 4 0 rfl rfl (by rw [hb25]; rfl) rfl
          · refine TO.skip rfl rfl rfl (skipF hb25) rfl rfl ?_
            refine TO.skip rfl rfl rfl (skipF hb25) rfl rfl ?_
            refine TO.skip rfl rfl rfl (skipF hb25) rfl rfl ?_
            refine TO.s rfl rfl rfl (StepS.pickF rfl hb25 rfl) ?_
            exact TO.up1 4 0 rfl rfl (by rw [hb25]; rfl) rfl
        refine TO.s rfl rfl rfl (StepS.move rfl) ?_
        refine TO.mid1 4 57 (.bool (((r3 == x21) && ((r1.length : Int) == 0)) && ((r2.length : Int) == 0))) ?_ ?_
        · refine bcase (((r3 == x21) && ((r1.length : Int) == 0))) (fun hb26 => ?_) (fun hb26 => ?_)
          · refine TO.sw rfl rfl rfl hb26 rfl rfl (StepS.move rfl) ?_
            refine TO.sw rfl rfl rfl hb26 rfl rfl (StepS.lenm rfl (OwnS.rd (Ent.at 1 rfl)) ksliceB_22_3_1_true rfl) ?_
            refine TO.sw rfl rfl rfl hb26 rfl rfl (StepS.cmp rfl rfl rfl) ?_
            refine TO.s rfl rfl rfl (StepS.pickT rfl hb26 rfl) ?_
            exact TO.up1 4 0 rfl rfl (by rw [hb26]; rfl) rfl
          · refine TO.skip rfl rfl rfl (skipF hb26) rfl rfl ?_
            refine TO.skip rfl rfl rfl (skipF hb26) rfl rfl ?_
            refine TO.skip rfl rfl rfl (skipF hb26) rfl rfl ?_
            refine TO.s rfl rfl rfl (StepS.pickF rfl hb26 rfl) ?_
            exact TO.up1 4 0 rfl rfl (by rw [hb26]; rfl) rfl
        refine TO.s rfl rfl rfl (StepS.assign rfl) ?_
        refine TO.code ?_
        cases hm
        refine TC.ret fun a w e s => ?_
        refine FRet.mk1 (P := Try.prog) (fn := Try.f8) (t := 6) e rfl rfl ?_
        exact ⟨rfl, s.mono fun _ => Sat.dropN 2⟩
      · replace hm := cond_f hc24 hm
        refine TC.skipk ?_
        refine TC.k ?_
        refine TC.region ?_
        refine TO.s rfl rfl rfl (StepS.move rfl) ?_
        obtain ⟨y27, hk28, hm⟩ := bind_some hm
        refine TO.mkS (f := cI) (za := 0) kelemB_22_3_1_8_true kinfo_3_bind_zero_some_I_0 rfl (by decide) rfl rfl hk28 rfl fun v29 => ?_
        refine TO.s rfl rfl rfl (StepS.assign rfl) ?_
        refine TO.code ?_
        refine TC.k ?_
        refine TC.k ?_
        refine TC.region ?_
        refine TO.s rfl rfl rfl (StepS.assign rfl) ?_
        refine TO.code ?_
        obtain ⟨o54, hw55, hm⟩ := bind_some hm
        refine TC.loop hw55 (fun (y35, y36, x38) => fun a w => ∃ v37 : Value, ∃ v31 : Value, ∃ A32 : HP, ∃ ea33 : Ent (A32 :: L) (Rd 2 v31 (y35.map cTii)), Mid 99 B [(0, I a0), (1, v31), (2, I a2), (7, v5), (8, v7), (9, I r3), (11, v37), (12, I x38)] (OwnS 3 1 v37 (y36.map cI) :: OwnS 81 2 v5 (r1.map cTii) :: OwnS 3 1 v7 (r2.map cI) :: A32 :: L) a w) (fun (y51, y52) => fun a w => ∃ v53 : Value, ∃ v47 : Value, ∃ A48 : HP, ∃ ea49 : Ent (A48 :: L) (Rd 2 v47 (y51.map cTii)), Mid 99 B [(1, v47), (7, v5), (8, v7), (9, I r3), (11, v53)] (OwnS 3 1 v53 (y52.map cI) :: OwnS 81 2 v5 (r1.map cTii) :: OwnS 3 1 v7 (r2.map cI) :: A48 :: L) a w) (fun (_ : Unit) _ _ => False) ?_ ?_ ?_ ?_
        · rintro ⟨y35, y36, x38⟩ o54r hb56 a w ⟨v37, v31, A32, ea33, he, hs⟩
          dsimp only [F8_L0] at hb56
          refine TC.use ?_ he hs
          refine TC.k ?_
          refine TC.k ?_
          refine TC.region ?_
          refine TO.s rfl rfl rfl (StepS.move rfl) ?_
          refine TO.s rfl rfl rfl (StepS.move rfl) ?_
          refine TO.s rfl rfl rfl (StepS.cmp rfl rfl rfl) ?_
          refine TO.code ?_
          refine TC.cond rfl (fun hc57 => ?_) (fun hc57 => ?_)
          · replace hb56 := cond_t hc57 hb56
            refine TC.skipk ?_
            refine TC.k ?_
            refine TC.block ?_
            refine TC.k ?_
            refine TC.region ?_
            refine TO.s rfl rfl rfl (StepS.move rfl) ?_
            refine TO.s rfl rfl rfl (StepS.move rfl) ?_
            obtain ⟨r58, hc59, hb56⟩ := bind_some hb56
            refine TO.q rfl rfl rfl (StepQ.call kcallB_21_true rfl rfl (fun _ st => C21 ea33.tl.tl.tl hc59 st)) ?_
            refine TO.s rfl rfl rfl (StepS.assign rfl) ?_
            refine TO.code ?_
            refine TC.k ?_
            refine TC.k ?_
            refine TC.region ?_
            refine TO.s rfl rfl rfl (StepS.assign rfl) ?_
            refine TO.code ?_
            obtain ⟨o68, hw69, hb56⟩ := bind_some hb56
            refine TC.loop hw69 (fun (y60, x62) => fun a w => ∃ v61 : Value, Mid 99 B [(0, I a0), (1, v31), (2, I a2), (7, v5), (8, v7), (9, I r3), (11, v61), (12, I x38), (13, U r58), (14, I x62)] (OwnS 3 1 v61 (y60.map cI) :: OwnS 81 2 v5 (r1.map cTii) :: OwnS 3 1 v7 (r2.map cI) :: A32 :: L) a w) (fun y66 => fun a w => ∃ v67 : Value, Mid 99 B [(0, I a0), (1, v31), (2, I a2), (7, v5), (8, v7), (9, I r3), (11, v67), (12, I x38), (13, U r58)] (OwnS 3 1 v67 (y66.map cI) :: OwnS 81 2 v5 (r1.map cTii) :: OwnS 3 1 v7 (r2.map cI) :: A32 :: L) a w) (fun (_ : Unit) _ _ => False) ?_ ?_ ?_ ?_
            · rintro ⟨y60, x62⟩ o68r hb70 a w ⟨v61, he, hs⟩
              dsimp only [F8_L1] at hb70
              refine TC.use ?_ he hs
              refine TC.k ?_
              refine TC.k ?_
              refine TC.region ?_
              refine TO.s rfl rfl rfl (StepS.move rfl) ?_
              refine TO.s rfl rfl rfl (StepS.move rfl) ?_
              refine TO.s rfl rfl rfl (StepS.cmp rfl rfl rfl) ?_
              refine TO.code ?_
              refine TC.cond rfl (fun hc71 => ?_) (fun hc71 => ?_)
              · replace hb70 := cond_t hc71 hb70
                refine TC.skipk ?_
                refine TC.k ?_
                obtain ⟨y72, hj74, hb70⟩ := bind_some hb70
                refine TC.cutM (fun a w => ∃ v73 : Value, Mid 99 B [(0, I a0), (1, v31), (2, I a2), (7, v5), (8, v7), (9, I r3), (11, v73), (12, I x38), (13, U r58), (14, I x62)] (OwnS 3 1 v73 (y72.map cI) :: OwnS 81 2 v5 (r1.map cTii) :: OwnS 3 1 v7 (r2.map cI) :: A32 :: L) a w) ?_ ?_
                · refine TC.block ?_
                  refine TC.k ?_
                  refine TC.region ?_
                  refine TO.s rfl rfl rfl (StepS.move rfl) ?_
                  refine TO.s rfl rfl rfl (StepS.move rfl) ?_
                  obtain ⟨r75, hc76, hj74⟩ := bind_some hj74
                  refine TO.q rfl rfl rfl (StepQ.call kcallB_23_true rfl rfl (fun _ st => C23  hc76 st)) ?_
                  refine TO.code ?_
                  refine TC.cond rfl (fun hc77 => ?_) (fun hc77 => ?_)
                  · replace hj74 := cond_t hc77 hj74
                    refine TC.region ?_
                    refine TO.s rfl rfl rfl (StepS.move rfl) ?_
                    refine TO.s rfl rfl rfl (StepS.move rfl) ?_
                    refine TO.s rfl rfl rfl (StepS.move rfl) ?_
                    refine TO.s rfl rfl rfl (StepS.move rfl) ?_
                    obtain ⟨x78, hx79, hj74⟩ := bind_some hj74
                    refine TO.s rfl rfl rfl (StepS.idx rfl rfl (OwnS.rd (Ent.at 0 rfl)) ksliceB_22_3_1_true (idx_spec hx79).1 (idxm_lt hx79)) ?_
                    refine TO.s rfl rfl rfl (StepS.ld0 rfl (OwnS.rd (Ent.at 0 rfl)) kscalB_3_true rfl (idxm hx79) rfl) ?_
                    refine TO.s rfl rfl rfl (StepS.ari rfl rfl rfl) ?_
                    obtain ⟨x80, hx81, hj74⟩ := bind_some hj74
                    refine TO.s rfl rfl rfl (StepS.idx rfl rfl (OwnS.rd (Ent.at 0 rfl)) ksliceB_22_3_1_true (idx_spec hx81).1 (idxm_lt hx81)) ?_
                    refine TO.stO (i := x62.toNat) (off := 0) (us := [I (w64 (x78 + 1))]) 0 (w64 (x78 + 1)) rfl rfl rfl ksizeB_3_1_true rfl rfl rfl (idx_spec hx81).2 rfl (by simp [Value.oneCell']) rfl ?_
                    cases hj74
                    refine TO.nil fun a w e s => ?_
                    exact ⟨v61, e.sub (lk_of_allIn ⟨rfl, rfl, rfl, rfl, rfl, rfl, rfl, rfl, rfl, rfl, trivial⟩), s⟩
                  · replace hj74 := cond_f hc77 hj74
                    cases hj74
                    refine TC.skip fun a w e s => ?_
                    exact ⟨v61, e.sub (lk_of_allIn ⟨rfl, rfl, rfl, rfl, rfl, rfl, rfl, rfl, rfl, rfl, trivial⟩), s⟩
                · intro a w ⟨v73, he, hs⟩
                  refine TC.use ?_ he hs
                  refine TC.region ?_
                  refine TO.s rfl rfl rfl (StepS.move rfl) ?_
                  refine TO.s rfl rfl rfl (StepS.ari rfl rfl rfl) ?_
                  refine TO.s rfl rfl rfl (StepS.assign rfl) ?_
                  cases hb70
                  refine TO.nil fun a w e s => ?_
                  exact ⟨v73, e.sub (lk_of_allIn ⟨rfl, rfl, rfl, rfl, rfl, rfl, rfl, rfl, rfl, rfl, trivial⟩), s⟩
              · replace hb70 := cond_f hc71 hb70
                cases hb70
                refine TC.exit rfl fun a w e s => ?_
                exact ⟨v61, e.sub (lk_of_allIn ⟨rfl, rfl, rfl, rfl, rfl, rfl, rfl, rfl, rfl, trivial⟩), s⟩
            · exact fun a w e s => ⟨v37, e.sub (lk_of_allIn ⟨rfl, rfl, rfl, rfl, rfl, rfl, rfl, rfl, rfl, rfl, trivial⟩), s⟩
            · rintro y66 rfl a w ⟨v67, he, hs⟩
              dsimp only [Ctl.on] at hb56
              refine TC.use ?_ he hs
              refine TC.region ?_
              refine TO.s rfl rfl rfl (StepS.move rfl) ?_
              refine TO.s rfl rfl rfl (StepS.move rfl) ?_
              obtain ⟨r82, hc83, hb56⟩ := bind_some hb56
              refine TO.callO kcallB_25_true rfl rfl rfl (fun _ st => C25 ea33.tl.tl.tl hc83 st) ?_
              rintro v84 _ ⟨_, rfl, rfl⟩
              refine TO.s rfl rfl rfl (StepS.assign rfl) ?_
              refine TO.code ?_
              refine TC.region ?_
              refine TO.s rfl rfl rfl (StepS.move rfl) ?_
              refine TO.s rfl rfl rfl (StepS.ari rfl rfl rfl) ?_
              refine TO.s rfl rfl rfl (StepS.assign rfl) ?_
              cases hb56
              refine TO.nil fun a w e s => ?_
              exact ⟨v67, v84, (OwnS 81 2 v84 (r82.map cTii)), (OwnS.rd (Ent.at 0 rfl)), e.sub (lk_of_allIn ⟨rfl, rfl, rfl, rfl, rfl, rfl, rfl, rfl, trivial⟩), s.mono fun _ s => (by replace s := Sat.front 0 rfl s; replace s := Sat.front 3 rfl s; replace s := Sat.front 3 rfl s; replace s := Sat.front 3 rfl s; replace s := Sat.erase 4 s; exact s)⟩
            · rintro r rfl
              exact fun a w h => h.elim
          · replace hb56 := cond_f hc57 hb56
            cases hb56
            refine TC.exit rfl fun a w e s => ?_
            exact ⟨v37, v31, A32, ea33, e.sub (lk_of_allIn ⟨rfl, rfl, rfl, rfl, rfl, trivial⟩), s⟩
        · exact fun a w e s => ⟨v29, h1, (fun _ => True), (e1).tl, e.sub (lk_of_allIn ⟨rfl, rfl, rfl, rfl, rfl, rfl, rfl, rfl, trivial⟩), s.mono fun _ s => (by replace s := Sat.emp s; replace s := Sat.front 3 rfl s; replace s := Sat.front 3 rfl s; replace s := Sat.front 3 rfl s; exact s)⟩
        · rintro ⟨y51, y52⟩ rfl a w ⟨v53, v47, A48, ea49, he, hs⟩
          dsimp only [Ctl.on] at hm
          refine TC.use ?_ he hs
          refine TC.k ?_
          refine TC.region ?_
          refine TO.s rfl rfl rfl (StepS.move rfl) ?_
          refine TO.s rfl rfl rfl (StepS.cmp rfl rfl rfl) ?_
          refine TO.s rfl rfl rfl (StepS.move rfl) ?_
          obtain ⟨b87, hj88, hm⟩ := bind_some hm
          refine TO.mid1 4 93 (.bool b87) ?_ ?_
          · refine bcase ((r3 == 0)) (fun hb86 => ?_) (fun hb86 => ?_)
            · replace hj88 := cond_t hb86 hj88
              refine TO.sw rfl rfl rfl hb86 rfl rfl (StepS.move rfl) ?_
              refine TO.sw rfl rfl rfl hb86 rfl rfl (StepS.move rfl) ?_
              obtain ⟨r89, hc90, hj88⟩ := bind_some hj88
              refine TO.qw rfl rfl rfl hb86 rfl rfl (StepQ.call kcallB_24_true rfl rfl (fun _ st => C24 (OwnS.rd (Ent.at 1 rfl)) ea49.tl.tl.tl hc90 st)) ?_
              cases hj88
              refine TO.s rfl rfl rfl (StepS.pickT rfl hb86 rfl) ?_
              exact TO.up1 4 0 rfl rfl rfl rfl
            · replace hj88 := cond_f hb86 hj88
              cases hj88
              refine TO.skip rfl rfl rfl (skipF hb86) rfl rfl ?_
              refine TO.skip rfl rfl rfl (skipF hb86) rfl rfl ?_
              refine TO.skip rfl rfl rfl (skipF hb86) rfl rfl ?_
              refine TO.s rfl rfl rfl (StepS.pickF rfl hb86 rfl) ?_
              exact TO.up1 4 0 rfl rfl rfl rfl
          refine TO.s rfl rfl rfl (StepS.move rfl) ?_
          obtain ⟨b92, hj93, hm⟩ := bind_some hm
          refine TO.mid1 4 98 (.bool b92) ?_ ?_
          · refine bcase (b87) (fun hb91 => ?_) (fun hb91 => ?_)
            · replace hj93 := cond_t hb91 hj93
              refine TO.sw rfl rfl rfl hb91 rfl rfl (StepS.move rfl) ?_
              refine TO.sw rfl rfl rfl hb91 rfl rfl (StepS.move rfl) ?_
              obtain ⟨r94, hc95, hj93⟩ := bind_some hj93
              refine TO.qw rfl rfl rfl hb91 rfl rfl (StepQ.call kcallB_29_true rfl rfl (fun _ st => C29 (OwnS.rd (Ent.at 2 rfl)) (OwnS.rd (Ent.at 0 rfl)) hc95 st)) ?_
              cases hj93
              refine TO.s rfl rfl rfl (StepS.pickT rfl hb91 rfl) ?_
              exact TO.up1 4 0 rfl rfl rfl rfl
            · replace hj93 := cond_f hb91 hj93
              cases hj93
              refine TO.skip rfl rfl rfl (skipF hb91) rfl rfl ?_
              refine TO.skip rfl rfl rfl (skipF hb91) rfl rfl ?_
              refine TO.skip rfl rfl rfl (skipF hb91) rfl rfl ?_
              refine TO.s rfl rfl rfl (StepS.pickF rfl hb91 rfl) ?_
              exact TO.up1 4 0 rfl rfl rfl rfl
          refine TO.s rfl rfl rfl (StepS.assign rfl) ?_
          refine TO.code ?_
          cases hm
          refine TC.ret fun a w e s => ?_
          refine FRet.mk1 (P := Try.prog) (fn := Try.f8) (t := 6) e rfl rfl ?_
          exact ⟨rfl, s.mono fun _ => Sat.dropN 4⟩
        · rintro r rfl
          exact fun a w h => h.elim
end Go.Proofs.Ytdjmlbjkendobaa
