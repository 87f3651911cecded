/-
  The walks: each Go function returns what its model says. Written by a program (gen.py).
-/
import Derived.Test.YtmlfflaelbofmaaProg
import Derived.KernelRfl
import Derived.Test.YtmlfflaelbofmaaAM
namespace Go.Proofs.Ytmlfflaelbofmaa
open Go Go.Bk
set_option linter.unusedVariables false
set_option linter.unnecessarySimpa false
theorem ksliceB_22_62_5_true : sliceB Try.prog 22 62 5 = true := by kernel_rfl
theorem kaggB_62_5_true : aggB Try.prog 62 5 = true := by kernel_rfl
theorem kinfo_62_bind_zero_some_agg_I_0_I_0_I_0_bool_false_I_0 : (Try.prog.info? 62).bind (·.zero) = some (.agg #[I 0, I 0, I 0, .bool false, I 0]) := by kernel_rfl
theorem ksizeB_62_5_true : sizeB Try.prog 62 5 = true := by kernel_rfl
theorem kfieldB_62_2_2_true : fieldB Try.prog 62 2 2 = true := by kernel_rfl
theorem kscalB_3_true : scalB Try.prog 3 = true := by kernel_rfl
theorem kfieldB_62_1_1_true : fieldB Try.prog 62 1 1 = true := by kernel_rfl
theorem kfieldB_62_0_0_true : fieldB Try.prog 62 0 0 = true := by kernel_rfl
theorem kcallB_15_true : callB Try.prog 15 = true := by kernel_rfl
theorem kcallB_16_true : callB Try.prog 16 = true := by kernel_rfl
theorem ksliceB_34_35_1_true : sliceB Try.prog 34 35 1 = true := by kernel_rfl
theorem kscalB_35_true : scalB Try.prog 35 = true := by kernel_rfl
theorem kcallB_69_true : callB Try.prog 69 = true := by kernel_rfl
theorem kcallB_66_true : callB Try.prog 66 = true := by kernel_rfl
theorem kcallB_65_true : callB Try.prog 65 = true := by kernel_rfl
theorem kcallB_67_true : callB Try.prog 67 = true := by kernel_rfl
theorem kcallB_54_true : callB Try.prog 54 = true := by kernel_rfl
theorem kcallB_55_true : callB Try.prog 55 = true := by kernel_rfl
theorem kintB_3_i64_true : intB Try.prog 3 .i64 = true := by kernel_rfl
theorem kintB_44_u64_true : intB Try.prog 44 .u64 = true := by kernel_rfl
theorem kcallB_31_true : callB Try.prog 31 = true := by kernel_rfl
theorem kcallB_32_true : callB Try.prog 32 = true := by kernel_rfl
theorem kcallB_33_true : callB Try.prog 33 = true := by kernel_rfl
theorem kunderlying_4_some_bool : Try.prog.underlying 4 = some .bool := by kernel_rfl
theorem kcallB_56_true : callB Try.prog 56 = true := by kernel_rfl
theorem kfollows_mixedOrders_true : Try.prog.follows .mixedOrders = true := by kernel_rfl
theorem kcallB_34_true : callB Try.prog 34 = true := by kernel_rfl
theorem kcallB_35_true : callB Try.prog 35 = true := by kernel_rfl
theorem kcallB_52_true : callB Try.prog 52 = true := by kernel_rfl
theorem kcallB_50_true : callB Try.prog 50 = true := by kernel_rfl
theorem kcallB_49_true : callB Try.prog 49 = true := by kernel_rfl
theorem kcallB_29_true : callB Try.prog 29 = true := by kernel_rfl
theorem kcallB_28_true : callB Try.prog 28 = true := by kernel_rfl
theorem kcallB_22_true : callB Try.prog 22 = true := by kernel_rfl
theorem kcallB_23_true : callB Try.prog 23 = true := by kernel_rfl
theorem kcallB_24_true : callB Try.prog 24 = true := by kernel_rfl
theorem kcallB_51_true : callB Try.prog 51 = true := by kernel_rfl
theorem kcallB_25_true : callB Try.prog 25 = true := by kernel_rfl
theorem kcallB_26_true : callB Try.prog 26 = true := by kernel_rfl
theorem kcallB_57_true : callB Try.prog 57 = true := by kernel_rfl
theorem kcallB_36_true : callB Try.prog 36 = true := by kernel_rfl
theorem kcallB_37_true : callB Try.prog 37 = true := by kernel_rfl
theorem kcallB_38_true : callB Try.prog 38 = true := by kernel_rfl
theorem ksliceB_28_3_1_true : sliceB Try.prog 28 3 1 = true := by kernel_rfl
theorem kcallB_68_true : callB Try.prog 68 = true := by kernel_rfl
theorem kscalB_28_true : scalB Try.prog 28 = true := by kernel_rfl
theorem kintB_35_u32_true : intB Try.prog 35 .u32 = true := by kernel_rfl
theorem kcallB_59_true : callB Try.prog 59 = true := by kernel_rfl
theorem kcallB_58_true : callB Try.prog 58 = true := by kernel_rfl
theorem kcallB_60_true : callB Try.prog 60 = true := by kernel_rfl
theorem kelemB_34_35_1_4_true : elemB Try.prog 34 35 1 4 = true := by kernel_rfl
theorem kinfo_35_bind_zero_some_U_0 : (Try.prog.info? 35).bind (·.zero) = some (U 0) := by kernel_rfl
theorem kcallB_39_true : callB Try.prog 39 = true := by kernel_rfl
theorem kcallB_40_true : callB Try.prog 40 = true := by kernel_rfl
theorem kcallB_41_true : callB Try.prog 41 = true := by kernel_rfl
theorem ksizeB_35_1_true : sizeB Try.prog 35 1 = true := by kernel_rfl
theorem kcallB_61_true : callB Try.prog 61 = true := by kernel_rfl
theorem kcallB_63_true : callB Try.prog 63 = true := by kernel_rfl
theorem kcallB_62_true : callB Try.prog 62 = true := by kernel_rfl
theorem kcallB_42_true : callB Try.prog 42 = true := by kernel_rfl

set_option maxRecDepth 100000 in
theorem C15 {B : World} {L : List HP} {a0 : List (Int × Int × Int × Bool × Int)} {h0 : Value} {r0 : Int} (e0 : Ent L (Rd 5 h0 (a0.map cTiiibi))) (hm : F15 a0 = some r0) {w : World} (st : St B L w) : Calls Try.prog 15 #[h0] w (fun e w' => (e = .returned (I r0) ∧ St B (L) w')) := by
  refine calls_of (N := 60) (L := L) (args := [h0]) Try.func15 rfl rfl rfl ?_ st
  dsimp only [F15] at hm
  refine TC.k ?_
  refine TC.region ?_
  refine TO.s rfl rfl rfl (StepS.assign rfl) ?_
  refine TO.code ?_
  refine TC.k ?_
  refine TC.k ?_
  refine TC.region ?_
  refine TO.s rfl rfl rfl (StepS.move rfl) ?_
  refine TO.s rfl rfl rfl (StepS.lenm rfl e0 ksliceB_22_62_5_true rfl) ?_
  refine TO.s rfl rfl rfl (StepS.cmp rfl rfl rfl) ?_
  refine TO.code ?_
  refine TC.cond rfl (fun hc1 => ?_) (fun hc1 => ?_)
  · replace hm := cond_t hc1 hm
    refine TC.k ?_
    refine TC.region ?_
    refine TO.s rfl rfl rfl (StepS.assign rfl) ?_
    refine TO.code ?_
    cases hm
    refine TC.ret fun a w e s => ?_
    refine FRet.mk1 (P := Try.prog) (fn := Try.f15) (t := 2) e rfl rfl ?_
    exact ⟨rfl, s.mono fun _ => Sat.dropN 0⟩
  · replace hm := cond_f hc1 hm
    refine TC.skipk ?_
    refine TC.k ?_
    refine TC.k ?_
    refine TC.region ?_
    refine TO.s rfl rfl rfl (StepS.move rfl) ?_
    refine TO.s rfl rfl rfl (StepS.lenm rfl e0 ksliceB_22_62_5_true rfl) ?_
    refine TO.s rfl rfl rfl (StepS.move rfl) ?_
    refine TO.code ?_
    obtain ⟨o4, hw5, hm⟩ := bind_some hm
    refine TC.loop hw5 (fun x2 => fun a w => Mid 60 B [(0, h0), (12, h0), (13, I (a0.length : Int)), (14, I x2)] (L) a w) (fun _ => fun a w => Mid 60 B [(0, h0)] (L) a w) (fun r0 => FRet Try.prog Try.f15 (fun e w' => (e = .returned (I r0) ∧ St B (L) w'))) ?_ ?_ ?_ ?_
    · rintro x2 o4r hb6 a w ⟨he, hs⟩
      dsimp only [F15_L0] at hb6
      refine TC.use ?_ he hs
      refine TC.k ?_
      refine TC.region ?_
      refine TO.s rfl rfl rfl (StepS.cmp rfl rfl rfl) ?_
      refine TO.code ?_
      refine TC.k ?_
      refine TC.cond rfl (fun hc7 => ?_) (fun hc7 => ?_)
      · replace hb6 := cond_t hc7 hb6
        refine TC.skipk ?_
        refine TC.k ?_
        refine TC.block ?_
        refine TC.k ?_
        refine TC.region ?_
        obtain ⟨x8, hx9, hb6⟩ := bind_some hb6
        refine TO.s rfl rfl rfl (StepS.idx rfl rfl e0 ksliceB_22_62_5_true (idx_spec hx9).1 (idxm_lt hx9)) ?_
        refine TO.s rfl rfl rfl (StepS.ldE rfl e0 kaggB_62_5_true rfl (idxm hx9)) ?_
        refine TO.alloc kinfo_62_bind_zero_some_agg_I_0_I_0_I_0_bool_false_I_0 rfl rfl fun b10 => ?_
        refine TO.stB (us := [I x8.1, I x8.2.1, I x8.2.2.1, .bool x8.2.2.2.1, I x8.2.2.2.2]) 0 [I x8.1, I x8.2.1, I x8.2.2.1, .bool x8.2.2.2.1, I x8.2.2.2.2] rfl rfl rfl ksizeB_62_5_true rfl rfl rfl (by simp [Value.oneCell']) rfl ?_
        refine TO.code ?_
        refine TC.k ?_
        refine TC.region ?_
        refine TO.s rfl rfl rfl (StepS.fld rfl kfieldB_62_2_2_true) ?_
        refine TO.s rfl rfl rfl (StepS.ldB rfl (Ent.at 0 rfl) kscalB_3_true rfl) ?_
        refine TO.s rfl rfl rfl (StepS.fld rfl kfieldB_62_1_1_true) ?_
        refine TO.s rfl rfl rfl (StepS.ldB rfl (Ent.at 0 rfl) kscalB_3_true rfl) ?_
        refine TO.s rfl rfl rfl (StepS.cmp rfl rfl rfl) ?_
        refine TO.code ?_
        refine TC.cond rfl (fun hc11 => ?_) (fun hc11 => ?_)
        · replace hb6 := cond_t hc11 hb6
          refine TC.k ?_
          refine TC.region ?_
          refine TO.s rfl rfl rfl (StepS.assign rfl) ?_
          refine TO.code ?_
          cases hb6
          refine TC.ret fun a w e s => ?_
          refine FRet.mk1 (P := Try.prog) (fn := Try.f15) (t := 2) e rfl rfl ?_
          exact ⟨rfl, s.mono fun _ => Sat.dropN 1⟩
        · replace hb6 := cond_f hc11 hb6
          refine TC.skipk ?_
          refine TC.region ?_
          refine TO.s rfl rfl rfl (StepS.ari rfl rfl rfl) ?_
          refine TO.s rfl rfl rfl (StepS.move rfl) ?_
          cases hb6
          refine TO.nil fun a w e s => ?_
          exact ⟨e.sub (lk_of_allIn ⟨rfl, rfl, rfl, rfl, trivial⟩), s.mono fun _ => Sat.dropN 1⟩
      · replace hb6 := cond_f hc7 hb6
        cases hb6
        refine TC.exit rfl fun a w e s => ?_
        exact ⟨e.sub (lk_of_allIn ⟨rfl, trivial⟩), s⟩
    · exact fun a w e s => ⟨e.sub (lk_of_allIn ⟨rfl, rfl, rfl, rfl, trivial⟩), s⟩
    · rintro _ rfl a w ⟨he, hs⟩
      dsimp only [Ctl.on] at hm
      refine TC.use ?_ he hs
      refine TC.k ?_
      refine TC.k ?_
      refine TC.region ?_
      refine TO.s rfl rfl rfl (StepS.move rfl) ?_
      refine TO.s rfl rfl rfl (StepS.lenm rfl e0 ksliceB_22_62_5_true rfl) ?_
      refine TO.s rfl rfl rfl (StepS.move rfl) ?_
      refine TO.code ?_
      obtain ⟨o14, hw15, hm⟩ := bind_some hm
      refine TC.loop hw15 (fun x12 => fun a w => Mid 60 B [(0, h0), (24, h0), (25, I (a0.length : Int)), (26, I x12)] (L) a w) (fun _ => fun a w => Mid 60 B [] (L) a w) (fun r0 => FRet Try.prog Try.f15 (fun e w' => (e = .returned (I r0) ∧ St B (L) w'))) ?_ ?_ ?_ ?_
      · rintro x12 o14r hb16 a w ⟨he, hs⟩
        dsimp only [F15_L1] at hb16
        refine TC.use ?_ he hs
        refine TC.k ?_
        refine TC.region ?_
        refine TO.s rfl rfl rfl (StepS.cmp rfl rfl rfl) ?_
        refine TO.code ?_
        refine TC.k ?_
        refine TC.cond rfl (fun hc17 => ?_) (fun hc17 => ?_)
        · replace hb16 := cond_t hc17 hb16
          refine TC.skipk ?_
          refine TC.k ?_
          refine TC.block ?_
          refine TC.k ?_
          refine TC.region ?_
          refine TO.s rfl rfl rfl (StepS.move rfl) ?_
          obtain ⟨x18, hx19, hb16⟩ := bind_some hb16
          refine TO.s rfl rfl rfl (StepS.idx rfl rfl e0 ksliceB_22_62_5_true (idx_spec hx19).1 (idxm_lt hx19)) ?_
          refine TO.s rfl rfl rfl (StepS.ldE rfl e0 kaggB_62_5_true rfl (idxm hx19)) ?_
          refine TO.alloc kinfo_62_bind_zero_some_agg_I_0_I_0_I_0_bool_false_I_0 rfl rfl fun b20 => ?_
          refine TO.s rfl rfl rfl (StepS.assign rfl) ?_
          refine TO.stB (us := [I x18.1, I x18.2.1, I x18.2.2.1, .bool x18.2.2.2.1, I x18.2.2.2.2]) 0 [I x18.1, I x18.2.1, I x18.2.2.1, .bool x18.2.2.2.1, I x18.2.2.2.2] rfl rfl rfl ksizeB_62_5_true rfl rfl rfl (by simp [Value.oneCell']) rfl ?_
          refine TO.code ?_
          refine TC.k ?_
          refine TC.region ?_
          refine TO.s rfl rfl rfl (StepS.move rfl) ?_
          refine TO.s rfl rfl rfl (StepS.move rfl) ?_
          obtain ⟨y21, hs22, hb16⟩ := bind_some hb16
          obtain ⟨hs22a, hs22b, hs22c, _⟩ := slI_spec hs22
          refine TO.s rfl rfl rfl (StepS.slc rfl e0.tl ksliceB_22_62_5_true rfl rfl hs22a hs22b (by simpa using hs22c)) ?_
          refine TO.s rfl rfl rfl (StepS.lenm rfl (Ent.sub e0.tl hs22) ksliceB_22_62_5_true rfl) ?_
          refine TO.s rfl rfl rfl (StepS.move rfl) ?_
          refine TO.code ?_
          obtain ⟨o26, hw27, hb16⟩ := bind_some hb16
          refine TC.loop hw27 (fun x24 => fun a w => Mid 60 B [(0, h0), (6, .pointer (some ⟨b20, 0, none⟩)), (24, h0), (25, I (a0.length : Int)), (26, I x12), (33, (subv h0 0 x12 5)), (34, I (y21.length : Int)), (35, I x24)] (Bx b20 62 [I x18.1, I x18.2.1, I x18.2.2.1, .bool x18.2.2.2.1, I x18.2.2.2.2] :: L) a w) (fun _ => fun a w => Mid 60 B [(0, h0), (24, h0), (25, I (a0.length : Int)), (26, I x12)] (Bx b20 62 [I x18.1, I x18.2.1, I x18.2.2.1, .bool x18.2.2.2.1, I x18.2.2.2.2] :: L) a w) (fun r0 => FRet Try.prog Try.f15 (fun e w' => (e = .returned (I r0) ∧ St B (L) w'))) ?_ ?_ ?_ ?_
          · rintro x24 o26r hb28 a w ⟨he, hs⟩
            dsimp only [F15_L2] at hb28
            refine TC.use ?_ he hs
            refine TC.k ?_
            refine TC.region ?_
            refine TO.s rfl rfl rfl (StepS.cmp rfl rfl rfl) ?_
            refine TO.code ?_
            refine TC.k ?_
            refine TC.cond rfl (fun hc29 => ?_) (fun hc29 => ?_)
            · replace hb28 := cond_t hc29 hb28
              refine TC.skipk ?_
              refine TC.k ?_
              refine TC.block ?_
              refine TC.k ?_
              refine TC.region ?_
              obtain ⟨x30, hx31, hb28⟩ := bind_some hb28
              refine TO.s rfl rfl rfl (StepS.idx rfl rfl (Ent.sub e0.tl hs22) ksliceB_22_62_5_true (idx_spec hx31).1 (idxm_lt hx31)) ?_
              refine TO.s rfl rfl rfl (StepS.ldE rfl (Ent.sub e0.tl hs22) kaggB_62_5_true rfl (idxm hx31)) ?_
              refine TO.alloc kinfo_62_bind_zero_some_agg_I_0_I_0_I_0_bool_false_I_0 rfl rfl fun b32 => ?_
              refine TO.stB (us := [I x30.1, I x30.2.1, I x30.2.2.1, .bool x30.2.2.2.1, I x30.2.2.2.2]) 0 [I x30.1, I x30.2.1, I x30.2.2.1, .bool x30.2.2.2.1, I x30.2.2.2.2] rfl rfl rfl ksizeB_62_5_true rfl rfl rfl (by simp [Value.oneCell']) rfl ?_
              refine TO.code ?_
              refine TC.k ?_
              refine TC.region ?_
              refine TO.s rfl rfl rfl (StepS.fld rfl kfieldB_62_0_0_true) ?_
              refine TO.s rfl rfl rfl (StepS.ldB rfl (Ent.at 1 rfl) kscalB_3_true rfl) ?_
              refine TO.s rfl rfl rfl (StepS.fld rfl kfieldB_62_0_0_true) ?_
              refine TO.s rfl rfl rfl (StepS.ldB rfl (Ent.at 0 rfl) kscalB_3_true rfl) ?_
              refine TO.s rfl rfl rfl (StepS.cmp rfl rfl rfl) ?_
              refine TO.s rfl rfl rfl (StepS.move rfl) ?_
              refine TO.mid1 6 50 (.bool ((x18.1 == x30.1) && (decide (x18.2.2.1 > x30.2.1)))) ?_ ?_
              · refine bcase ((x18.1 == x30.1)) (fun hb33 => ?_) (fun hb33 => ?_)
                · refine TO.sw rfl rfl rfl hb33 rfl rfl (StepS.fld rfl kfieldB_62_2_2_true) ?_
                  refine TO.sw rfl rfl rfl hb33 rfl rfl (StepS.ldB rfl (Ent.at 1 rfl) kscalB_3_true rfl) ?_
                  refine TO.sw rfl rfl rfl hb33 rfl rfl (StepS.fld rfl kfieldB_62_1_1_true) ?_
                  refine TO.sw rfl rfl rfl hb33 rfl rfl (StepS.ldB rfl (Ent.at 0 rfl) kscalB_3_true rfl) ?_
                  refine TO.sw rfl rfl rfl hb33 rfl rfl (StepS.cmp rfl rfl rfl) ?_
                  refine TO.s rfl rfl rfl (StepS.pickT rfl hb33 rfl) ?_
                  exact TO.up1 6 0 rfl rfl (by rw [hb33]; rfl) rfl
                · refine TO.skip rfl rfl rfl (skipF hb33) rfl rfl ?_
                  refine TO.skip rfl rfl rfl (skipF hb33) rfl rfl ?_
                  refine TO.skip rfl rfl rfl (skipF hb33) rfl rfl ?_
                  refine TO.skip rfl rfl rfl (skipF hb33) rfl rfl ?_
                  refine TO.skip rfl rfl rfl (skipF hb33) rfl rfl ?_
                  refine TO.s rfl rfl rfl (StepS.pickF rfl hb33 rfl) ?_
                  exact TO.up1 6 0 rfl rfl (by rw [hb33]; rfl) rfl
              refine TO.s rfl rfl rfl (StepS.move rfl) ?_
              refine TO.mid1 6 57 (.bool (((x18.1 == x30.1) && (decide (x18.2.2.1 > x30.2.1))) && (decide (x30.2.2.1 > x18.2.1)))) ?_ ?_
              · refine bcase (((x18.1 == x30.1) && (decide (x18.2.2.1 > x30.2.1)))) (fun hb34 => ?_) (fun hb34 => ?_)
                · refine TO.sw rfl rfl rfl hb34 rfl rfl (StepS.fld rfl kfieldB_62_2_2_true) ?_
                  refine TO.sw rfl rfl rfl hb34 rfl rfl (StepS.ldB rfl (Ent.at 0 rfl) kscalB_3_true rfl) ?_
                  refine TO.sw rfl rfl rfl hb34 rfl rfl (StepS.fld rfl kfieldB_62_1_1_true) ?_
                  refine TO.sw rfl rfl rfl hb34 rfl rfl (StepS.ldB rfl (Ent.at 1 rfl) kscalB_3_true rfl) ?_
                  refine TO.sw rfl rfl rfl hb34 rfl rfl (StepS.cmp rfl rfl rfl) ?_
                  refine TO.s rfl rfl rfl (StepS.pickT rfl hb34 rfl) ?_
                  exact TO.up1 6 0 rfl rfl (by rw [hb34]; rfl) rfl
                · refine TO.skip rfl rfl rfl (skipF hb34) rfl rfl ?_
                  refine TO.skip rfl rfl rfl (skipF hb34) rfl rfl ?_
                  refine TO.skip rfl rfl rfl (skipF hb34) rfl rfl ?_
                  refine TO.skip rfl rfl rfl (skipF hb34) rfl rfl ?_
                  refine TO.skip rfl rfl rfl (skipF hb34) rfl rfl ?_
                  refine TO.s rfl rfl rfl (StepS.pickF rfl hb34 rfl) ?_
                  exact TO.up1 6 0 rfl rfl (by rw [hb34]; rfl) rfl
              refine TO.code ?_
              refine TC.cond rfl (fun hc35 => ?_) (fun hc35 => ?_)
              · replace hb28 := cond_t hc35 hb28
                refine TC.k ?_
                refine TC.region ?_
                refine TO.s rfl rfl rfl (StepS.assign rfl) ?_
                refine TO.code ?_
                cases hb28
                refine TC.ret fun a w e s => ?_
                refine FRet.mk1 (P := Try.prog) (fn := Try.f15) (t := 2) e rfl rfl ?_
                exact ⟨rfl, s.mono fun _ => Sat.dropN 2⟩
              · replace hb28 := cond_f hc35 hb28
                refine TC.skipk ?_
                refine TC.region ?_
                refine TO.s rfl rfl rfl (StepS.ari rfl rfl rfl) ?_
                refine TO.s rfl rfl rfl (StepS.move rfl) ?_
                cases hb28
                refine TO.nil fun a w e s => ?_
                exact ⟨e.sub (lk_of_allIn ⟨rfl, rfl, rfl, rfl, rfl, rfl, rfl, rfl, trivial⟩), s.mono fun _ => Sat.dropN 1⟩
            · replace hb28 := cond_f hc29 hb28
              cases hb28
              refine TC.exit rfl fun a w e s => ?_
              exact ⟨e.sub (lk_of_allIn ⟨rfl, rfl, rfl, rfl, trivial⟩), s⟩
          · exact fun a w e s => ⟨e.sub (lk_of_allIn ⟨rfl, rfl, rfl, rfl, rfl, rfl, rfl, rfl, trivial⟩), s⟩
          · rintro _ rfl a w ⟨he, hs⟩
            dsimp only [Ctl.on] at hb16
            refine TC.use ?_ he hs
            refine TC.region ?_
            refine TO.s rfl rfl rfl (StepS.ari rfl rfl rfl) ?_
            refine TO.s rfl rfl rfl (StepS.move rfl) ?_
            cases hb16
            refine TO.nil fun a w e s => ?_
            exact ⟨e.sub (lk_of_allIn ⟨rfl, rfl, rfl, rfl, trivial⟩), s.mono fun _ => Sat.dropN 1⟩
          · rintro r rfl
            cases hb16
            exact fun a w h => h
        · replace hb16 := cond_f hc17 hb16
          cases hb16
          refine TC.exit rfl fun a w e s => ?_
          exact ⟨e.sub (lk_of_allIn trivial), s⟩
      · exact fun a w e s => ⟨e.sub (lk_of_allIn ⟨rfl, rfl, rfl, rfl, trivial⟩), s⟩
      · rintro _ rfl a w ⟨he, hs⟩
        dsimp only [Ctl.on] at hm
        refine TC.use ?_ he hs
        refine TC.k ?_
        refine TC.region ?_
        refine TO.s rfl rfl rfl (StepS.assign rfl) ?_
        refine TO.code ?_
        cases hm
        refine TC.ret fun a w e s => ?_
        refine FRet.mk1 (P := Try.prog) (fn := Try.f15) (t := 2) e rfl rfl ?_
        exact ⟨rfl, s.mono fun _ => Sat.dropN 0⟩
      · rintro r rfl
        cases hm
        exact fun a w h => h
    · rintro r rfl
      cases hm
      exact fun a w h => h

set_option maxRecDepth 100000 in
theorem C16 {B : World} {L : List HP} {a0 : List (Int × Int × Int × Bool × Int)} {h0 : Value} {r0 : Int} (e0 : Ent L (Rd 5 h0 (a0.map cTiiibi))) (hm : F16 a0 = some r0) {w : World} (st : St B L w) : Calls Try.prog 16 #[h0] w (fun e w' => (e = .returned (I r0) ∧ St B (L) w')) := by
  refine calls_of (N := 65) (L := L) (args := [h0]) Try.func16 rfl rfl rfl ?_ st
  dsimp only [F16] at hm
  refine TC.k ?_
  refine TC.region ?_
  refine TO.s rfl rfl rfl (StepS.assign rfl) ?_
  refine TO.code ?_
  refine TC.k ?_
  refine TC.k ?_
  refine TC.region ?_
  refine TO.s rfl rfl rfl (StepS.move rfl) ?_
  refine TO.s rfl rfl rfl (StepS.lenm rfl e0 ksliceB_22_62_5_true rfl) ?_
  refine TO.s rfl rfl rfl (StepS.cmp rfl rfl rfl) ?_
  refine TO.code ?_
  refine TC.cond rfl (fun hc1 => ?_) (fun hc1 => ?_)
  · replace hm := cond_t hc1 hm
    refine TC.k ?_
    refine TC.region ?_
    refine TO.s rfl rfl rfl (StepS.assign rfl) ?_
    refine TO.code ?_
    cases hm
    refine TC.ret fun a w e s => ?_
    refine FRet.mk1 (P := Try.prog) (fn := Try.f16) (t := 2) e rfl rfl ?_
    exact ⟨rfl, s.mono fun _ => Sat.dropN 0⟩
  · replace hm := cond_f hc1 hm
    refine TC.skipk ?_
    refine TC.k ?_
    refine TC.k ?_
    refine TC.region ?_
    refine TO.s rfl rfl rfl (StepS.move rfl) ?_
    refine TO.s rfl rfl rfl (StepS.lenm rfl e0 ksliceB_22_62_5_true rfl) ?_
    refine TO.s rfl rfl rfl (StepS.move rfl) ?_
    refine TO.code ?_
    obtain ⟨o4, hw5, hm⟩ := bind_some hm
    refine TC.loop hw5 (fun x2 => fun a w => Mid 65 B [(0, h0), (12, h0), (13, I (a0.length : Int)), (14, I x2)] (L) a w) (fun _ => fun a w => Mid 65 B [(0, h0)] (L) a w) (fun r0 => FRet Try.prog Try.f16 (fun e w' => (e = .returned (I r0) ∧ St B (L) w'))) ?_ ?_ ?_ ?_
    · rintro x2 o4r hb6 a w ⟨he, hs⟩
      dsimp only [F16_L0] at hb6
      refine TC.use ?_ he hs
      refine TC.k ?_
      refine TC.region ?_
      refine TO.s rfl rfl rfl (StepS.cmp rfl rfl rfl) ?_
      refine TO.code ?_
      refine TC.k ?_
      refine TC.cond rfl (fun hc7 => ?_) (fun hc7 => ?_)
      · replace hb6 := cond_t hc7 hb6
        refine TC.skipk ?_
        refine TC.k ?_
        refine TC.block ?_
        refine TC.k ?_
        refine TC.region ?_
        obtain ⟨x8, hx9, hb6⟩ := bind_some hb6
        refine TO.s rfl rfl rfl (StepS.idx rfl rfl e0 ksliceB_22_62_5_true (idx_spec hx9).1 (idxm_lt hx9)) ?_
        refine TO.s rfl rfl rfl (StepS.ldE rfl e0 kaggB_62_5_true rfl (idxm hx9)) ?_
        refine TO.alloc kinfo_62_bind_zero_some_agg_I_0_I_0_I_0_bool_false_I_0 rfl rfl fun b10 => ?_
        refine TO.stB (us := [I x8.1, I x8.2.1, I x8.2.2.1, .bool x8.2.2.2.1, I x8.2.2.2.2]) 0 [I x8.1, I x8.2.1, I x8.2.2.1, .bool x8.2.2.2.1, I x8.2.2.2.2] rfl rfl rfl ksizeB_62_5_true rfl rfl rfl (by simp [Value.oneCell']) rfl ?_
        refine TO.code ?_
        refine TC.k ?_
        refine TC.region ?_
        refine TO.s rfl rfl rfl (StepS.fld rfl kfieldB_62_2_2_true) ?_
        refine TO.s rfl rfl rfl (StepS.ldB rfl (Ent.at 0 rfl) kscalB_3_true rfl) ?_
        refine TO.s rfl rfl rfl (StepS.fld rfl kfieldB_62_1_1_true) ?_
        refine TO.s rfl rfl rfl (StepS.ldB rfl (Ent.at 0 rfl) kscalB_3_true rfl) ?_
        refine TO.s rfl rfl rfl (StepS.cmp rfl rfl rfl) ?_
        refine TO.code ?_
        refine TC.cond rfl (fun hc11 => ?_) (fun hc11 => ?_)
        · replace hb6 := cond_t hc11 hb6
          refine TC.k ?_
          refine TC.region ?_
          refine TO.s rfl rfl rfl (StepS.assign rfl) ?_
          refine TO.code ?_
          cases hb6
          refine TC.ret fun a w e s => ?_
          refine FRet.mk1 (P := Try.prog) (fn := Try.f16) (t := 2) e rfl rfl ?_
          exact ⟨rfl, s.mono fun _ => Sat.dropN 1⟩
        · replace hb6 := cond_f hc11 hb6
          refine TC.skipk ?_
          refine TC.region ?_
          refine TO.s rfl rfl rfl (StepS.ari rfl rfl rfl) ?_
          refine TO.s rfl rfl rfl (StepS.move rfl) ?_
          cases hb6
          refine TO.nil fun a w e s => ?_
          exact ⟨e.sub (lk_of_allIn ⟨rfl, rfl, rfl, rfl, trivial⟩), s.mono fun _ => Sat.dropN 1⟩
      · replace hb6 := cond_f hc7 hb6
        cases hb6
        refine TC.exit rfl fun a w e s => ?_
        exact ⟨e.sub (lk_of_allIn ⟨rfl, trivial⟩), s⟩
    · exact fun a w e s => ⟨e.sub (lk_of_allIn ⟨rfl, rfl, rfl, rfl, trivial⟩), s⟩
    · rintro _ rfl a w ⟨he, hs⟩
      dsimp only [Ctl.on] at hm
      refine TC.use ?_ he hs
      refine TC.k ?_
      refine TC.k ?_
      refine TC.region ?_
      refine TO.s rfl rfl rfl (StepS.move rfl) ?_
      refine TO.s rfl rfl rfl (StepS.lenm rfl e0 ksliceB_22_62_5_true rfl) ?_
      refine TO.s rfl rfl rfl (StepS.move rfl) ?_
      refine TO.code ?_
      obtain ⟨o14, hw15, hm⟩ := bind_some hm
      refine TC.loop hw15 (fun x12 => fun a w => Mid 65 B [(0, h0), (24, h0), (25, I (a0.length : Int)), (26, I x12)] (L) a w) (fun _ => fun a w => Mid 65 B [] (L) a w) (fun r0 => FRet Try.prog Try.f16 (fun e w' => (e = .returned (I r0) ∧ St B (L) w'))) ?_ ?_ ?_ ?_
      · rintro x12 o14r hb16 a w ⟨he, hs⟩
        dsimp only [F16_L1] at hb16
        refine TC.use ?_ he hs
        refine TC.k ?_
        refine TC.region ?_
        refine TO.s rfl rfl rfl (StepS.cmp rfl rfl rfl) ?_
        refine TO.code ?_
        refine TC.k ?_
        refine TC.cond rfl (fun hc17 => ?_) (fun hc17 => ?_)
        · replace hb16 := cond_t hc17 hb16
          refine TC.skipk ?_
          refine TC.k ?_
          refine TC.block ?_
          refine TC.k ?_
          refine TC.region ?_
          refine TO.s rfl rfl rfl (StepS.move rfl) ?_
          obtain ⟨x18, hx19, hb16⟩ := bind_some hb16
          refine TO.s rfl rfl rfl (StepS.idx rfl rfl e0 ksliceB_22_62_5_true (idx_spec hx19).1 (idxm_lt hx19)) ?_
          refine TO.s rfl rfl rfl (StepS.ldE rfl e0 kaggB_62_5_true rfl (idxm hx19)) ?_
          refine TO.alloc kinfo_62_bind_zero_some_agg_I_0_I_0_I_0_bool_false_I_0 rfl rfl fun b20 => ?_
          refine TO.s rfl rfl rfl (StepS.assign rfl) ?_
          refine TO.stB (us := [I x18.1, I x18.2.1, I x18.2.2.1, .bool x18.2.2.2.1, I x18.2.2.2.2]) 0 [I x18.1, I x18.2.1, I x18.2.2.1, .bool x18.2.2.2.1, I x18.2.2.2.2] rfl rfl rfl ksizeB_62_5_true rfl rfl rfl (by simp [Value.oneCell']) rfl ?_
          refine TO.code ?_
          refine TC.k ?_
          refine TC.region ?_
          refine TO.s rfl rfl rfl (StepS.move rfl) ?_
          refine TO.s rfl rfl rfl (StepS.lenm rfl e0.tl ksliceB_22_62_5_true rfl) ?_
          refine TO.s rfl rfl rfl (StepS.move rfl) ?_
          refine TO.code ?_
          obtain ⟨o23, hw24, hb16⟩ := bind_some hb16
          refine TC.loop hw24 (fun x21 => fun a w => Mid 65 B [(0, h0), (5, I x12), (6, .pointer (some ⟨b20, 0, none⟩)), (24, h0), (25, I (a0.length : Int)), (26, I x12), (31, h0), (32, I (a0.length : Int)), (33, I x21)] (Bx b20 62 [I x18.1, I x18.2.1, I x18.2.2.1, .bool x18.2.2.2.1, I x18.2.2.2.2] :: L) a w) (fun _ => fun a w => Mid 65 B [(0, h0), (24, h0), (25, I (a0.length : Int)), (26, I x12)] (Bx b20 62 [I x18.1, I x18.2.1, I x18.2.2.1, .bool x18.2.2.2.1, I x18.2.2.2.2] :: L) a w) (fun r0 => FRet Try.prog Try.f16 (fun e w' => (e = .returned (I r0) ∧ St B (L) w'))) ?_ ?_ ?_ ?_
          · rintro x21 o23r hb25 a w ⟨he, hs⟩
            dsimp only [F16_L2] at hb25
            refine TC.use ?_ he hs
            refine TC.k ?_
            refine TC.region ?_
            refine TO.s rfl rfl rfl (StepS.cmp rfl rfl rfl) ?_
            refine TO.code ?_
            refine TC.k ?_
            refine TC.cond rfl (fun hc26 => ?_) (fun hc26 => ?_)
            · replace hb25 := cond_t hc26 hb25
              refine TC.skipk ?_
              refine TC.k ?_
              refine TC.block ?_
              refine TC.k ?_
              refine TC.region ?_
              refine TO.s rfl rfl rfl (StepS.move rfl) ?_
              obtain ⟨x27, hx28, hb25⟩ := bind_some hb25
              refine TO.s rfl rfl rfl (StepS.idx rfl rfl e0.tl ksliceB_22_62_5_true (idx_spec hx28).1 (idxm_lt hx28)) ?_
              refine TO.s rfl rfl rfl (StepS.ldE rfl e0.tl kaggB_62_5_true rfl (idxm hx28)) ?_
              refine TO.alloc kinfo_62_bind_zero_some_agg_I_0_I_0_I_0_bool_false_I_0 rfl rfl fun b29 => ?_
              refine TO.s rfl rfl rfl (StepS.assign rfl) ?_
              refine TO.stB (us := [I x27.1, I x27.2.1, I x27.2.2.1, .bool x27.2.2.2.1, I x27.2.2.2.2]) 0 [I x27.1, I x27.2.1, I x27.2.2.1, .bool x27.2.2.2.1, I x27.2.2.2.2] rfl rfl rfl ksizeB_62_5_true rfl rfl rfl (by simp [Value.oneCell']) rfl ?_
              refine TO.code ?_
              refine TC.k ?_
              refine TC.region ?_
              refine TO.s rfl rfl rfl (StepS.move rfl) ?_
              refine TO.s rfl rfl rfl (StepS.move rfl) ?_
              refine TO.s rfl rfl rfl (StepS.cmp rfl rfl rfl) ?_
              refine TO.s rfl rfl rfl (StepS.move rfl) ?_
              refine TO.mid1 6 47 (.bool ((x12 != x21) && (x18.1 == x27.1))) ?_ ?_
              · refine bcase ((x12 != x21)) (fun hb30 => ?_) (fun hb30 => ?_)
                · refine TO.sw rfl rfl rfl hb30 rfl rfl (StepS.fld rfl kfieldB_62_0_0_true) ?_
                  refine TO.sw rfl rfl rfl hb30 rfl rfl (StepS.ldB rfl (Ent.at 1 rfl) kscalB_3_true rfl) ?_
                  refine TO.sw rfl rfl rfl hb30 rfl rfl (StepS.fld rfl kfieldB_62_0_0_true) ?_
                  refine TO.sw rfl rfl rfl hb30 rfl rfl (StepS.ldB rfl (Ent.at 0 rfl) kscalB_3_true rfl) ?_
                  refine TO.sw rfl rfl rfl hb30 rfl rfl (StepS.cmp rfl rfl rfl) ?_
                  refine TO.s rfl rfl rfl (StepS.pickT rfl hb30 rfl) ?_
                  exact TO.up1 6 0 rfl rfl (by rw [hb30]; rfl) rfl
                · refine TO.skip rfl rfl rfl (skipF hb30) rfl rfl ?_
                  refine TO.skip rfl rfl rfl (skipF hb30) rfl rfl ?_
                  refine TO.skip rfl rfl rfl (skipF hb30) rfl rfl ?_
                  refine TO.skip rfl rfl rfl (skipF hb30) rfl rfl ?_
                  refine TO.skip rfl rfl rfl (skipF hb30) rfl rfl ?_
                  refine TO.s rfl rfl rfl (StepS.pickF rfl hb30 rfl) ?_
                  exact TO.up1 6 0 rfl rfl (by rw [hb30]; rfl) rfl
              refine TO.s rfl rfl rfl (StepS.move rfl) ?_
              refine TO.mid1 14 62 (.bool (((x12 != x21) && (x18.1 == x27.1)) && (!((decide (x18.2.2.1 ≤ x27.2.1)) || (decide (x27.2.2.1 ≤ x18.2.1)))))) ?_ ?_
              · refine bcase (((x12 != x21) && (x18.1 == x27.1))) (fun hb31 => ?_) (fun hb31 => ?_)
                · refine TO.sw rfl rfl rfl hb31 rfl rfl (StepS.fld rfl kfieldB_62_2_2_true) ?_
                  refine TO.sw rfl rfl rfl hb31 rfl rfl (StepS.ldB rfl (Ent.at 1 rfl) kscalB_3_true rfl) ?_
                  refine TO.sw rfl rfl rfl hb31 rfl rfl (StepS.fld rfl kfieldB_62_1_1_true) ?_
                  refine TO.sw rfl rfl rfl hb31 rfl rfl (StepS.ldB rfl (Ent.at 0 rfl) kscalB_3_true rfl) ?_
                  refine TO.sw rfl rfl rfl hb31 rfl rfl (StepS.cmp rfl rfl rfl) ?_
                  refine TO.sw rfl rfl rfl hb31 rfl rfl (StepS.move rfl) ?_
                  refine TO.mid1 6 60 (.bool ((decide (x18.2.2.1 ≤ x27.2.1)) || (decide (x27.2.2.1 ≤ x18.2.1)))) ?_ ?_
                  · refine bcase ((decide (x18.2.2.1 ≤ x27.2.1))) (fun hb32 => ?_) (fun hb32 => ?_)
                    · refine TO.skip rfl rfl rfl (skipT hb32) rfl rfl ?_
                      refine TO.skip rfl rfl rfl (skipT hb32) rfl rfl ?_
                      refine TO.skip rfl rfl rfl (skipT hb32) rfl rfl ?_
                      refine TO.skip rfl rfl rfl (skipT hb32) rfl rfl ?_
                      refine TO.skip rfl rfl rfl (skipT hb32) rfl rfl ?_
                      refine TO.sw rfl rfl rfl hb31 rfl rfl (StepS.pickT rfl hb32 rfl) ?_
                      exact TO.up1 6 0 rfl rfl (by rw [hb32]; rfl) rfl
                    · refine TO.sw rfl rfl rfl hb32 rfl rfl (StepS.fld rfl kfieldB_62_2_2_true) ?_
                      refine TO.sw rfl rfl rfl hb32 rfl rfl (StepS.ldB rfl (Ent.at 0 rfl) kscalB_3_true rfl) ?_
                      refine TO.sw rfl rfl rfl hb32 rfl rfl (StepS.fld rfl kfieldB_62_1_1_true) ?_
                      refine TO.sw rfl rfl rfl hb32 rfl rfl (StepS.ldB rfl (Ent.at 1 rfl) kscalB_3_true rfl) ?_
                      refine TO.sw rfl rfl rfl hb32 rfl rfl (StepS.cmp rfl rfl rfl) ?_
                      refine TO.sw rfl rfl rfl hb31 rfl rfl (StepS.pickF rfl hb32 rfl) ?_
                      exact TO.up1 6 0 rfl rfl (by rw [hb32]; rfl) rfl
                  refine TO.sw rfl rfl rfl hb31 rfl rfl (StepS.not rfl) ?_
                  refine TO.s rfl rfl rfl (StepS.pickT rfl hb31 rfl) ?_
                  exact TO.up1 9 0 rfl rfl (by rw [hb31]; rfl) rfl
                · refine TO.skip rfl rfl rfl (skipF hb31) rfl rfl ?_
                  refine TO.skip rfl rfl rfl (skipF hb31) rfl rfl ?_
                  refine TO.skip rfl rfl rfl (skipF hb31) rfl rfl ?_
                  refine TO.skip rfl rfl rfl (skipF hb31) rfl rfl ?_
                  refine TO.skip rfl rfl rfl (skipF hb31) rfl rfl ?_
                  refine TO.skip rfl rfl rfl (skipF hb31) rfl rfl ?_
                  refine TO.skip rfl rfl rfl skipU rfl rfl ?_
                  refine TO.skip rfl rfl rfl skipU rfl rfl ?_
                  refine TO.skip rfl rfl rfl skipU rfl rfl ?_
                  refine TO.skip rfl rfl rfl skipU rfl rfl ?_
                  refine TO.skip rfl rfl rfl skipU rfl rfl ?_
                  refine TO.skip rfl rfl rfl (skipF hb31) rfl rfl ?_
                  refine TO.skip rfl rfl rfl (skipF hb31) rfl rfl ?_
                  refine TO.s rfl rfl rfl (StepS.pickF rfl hb31 rfl) ?_
                  exact TO.up1 14 0 rfl rfl (by rw [hb31]; rfl) rfl
              refine TO.code ?_
              refine TC.cond rfl (fun hc33 => ?_) (fun hc33 => ?_)
              · replace hb25 := cond_t hc33 hb25
                refine TC.k ?_
                refine TC.region ?_
                refine TO.s rfl rfl rfl (StepS.assign rfl) ?_
                refine TO.code ?_
                cases hb25
                refine TC.ret fun a w e s => ?_
                refine FRet.mk1 (P := Try.prog) (fn := Try.f16) (t := 2) e rfl rfl ?_
                exact ⟨rfl, s.mono fun _ => Sat.dropN 2⟩
              · replace hb25 := cond_f hc33 hb25
                refine TC.skipk ?_
                refine TC.region ?_
                refine TO.s rfl rfl rfl (StepS.ari rfl rfl rfl) ?_
                refine TO.s rfl rfl rfl (StepS.move rfl) ?_
                cases hb25
                refine TO.nil fun a w e s => ?_
                exact ⟨e.sub (lk_of_allIn ⟨rfl, rfl, rfl, rfl, rfl, rfl, rfl, rfl, rfl, trivial⟩), s.mono fun _ => Sat.dropN 1⟩
            · replace hb25 := cond_f hc26 hb25
              cases hb25
              refine TC.exit rfl fun a w e s => ?_
              exact ⟨e.sub (lk_of_allIn ⟨rfl, rfl, rfl, rfl, trivial⟩), s⟩
          · exact fun a w e s => ⟨e.sub (lk_of_allIn ⟨rfl, rfl, rfl, rfl, rfl, rfl, rfl, rfl, rfl, trivial⟩), s⟩
          · rintro _ rfl a w ⟨he, hs⟩
            dsimp only [Ctl.on] at hb16
            refine TC.use ?_ he hs
            refine TC.region ?_
            refine TO.s rfl rfl rfl (StepS.ari rfl rfl rfl) ?_
            refine TO.s rfl rfl rfl (StepS.move rfl) ?_
            cases hb16
            refine TO.nil fun a w e s => ?_
            exact ⟨e.sub (lk_of_allIn ⟨rfl, rfl, rfl, rfl, trivial⟩), s.mono fun _ => Sat.dropN 1⟩
          · rintro r rfl
            cases hb16
            exact fun a w h => h
        · replace hb16 := cond_f hc17 hb16
          cases hb16
          refine TC.exit rfl fun a w e s => ?_
          exact ⟨e.sub (lk_of_allIn trivial), s⟩
      · exact fun a w e s => ⟨e.sub (lk_of_allIn ⟨rfl, rfl, rfl, rfl, trivial⟩), s⟩
      · rintro _ rfl a w ⟨he, hs⟩
        dsimp only [Ctl.on] at hm
        refine TC.use ?_ he hs
        refine TC.k ?_
        refine TC.region ?_
        refine TO.s rfl rfl rfl (StepS.assign rfl) ?_
        refine TO.code ?_
        cases hm
        refine TC.ret fun a w e s => ?_
        refine FRet.mk1 (P := Try.prog) (fn := Try.f16) (t := 2) e rfl rfl ?_
        exact ⟨rfl, s.mono fun _ => Sat.dropN 0⟩
      · rintro r rfl
        cases hm
        exact fun a w h => h
    · rintro r rfl
      cases hm
      exact fun a w h => h

set_option maxRecDepth 100000 in
theorem C3 {B : World} {L : List HP} {a0 : List (Int × Int × Int × Bool × Int)} {h0 : Value} {r0 : Bool} (e0 : Ent L (Rd 5 h0 (a0.map cTiiibi))) (hm : F3 a0 = some r0) {w : World} (st : St B L w) : Calls Try.prog 3 #[h0] w (fun e w' => (e = .returned (.bool r0) ∧ St B (L) w')) := by
  refine calls_of (N := 8) (L := L) (args := [h0]) Try.func3 rfl rfl rfl ?_ st
  dsimp only [F3] at hm
  refine TC.k ?_
  refine TC.region ?_
  refine TO.s rfl rfl rfl (StepS.assign rfl) ?_
  refine TO.code ?_
  refine TC.k ?_
  refine TC.region ?_
  refine TO.s rfl rfl rfl (StepS.move rfl) ?_
  obtain ⟨r1, hc2, hm⟩ := bind_some hm
  refine TO.q rfl rfl rfl (StepQ.call kcallB_15_true rfl rfl (fun _ st => C15 e0 hc2 st)) ?_
  refine TO.s rfl rfl rfl (StepS.move rfl) ?_
  obtain ⟨r3, hc4, hm⟩ := bind_some hm
  refine TO.q rfl rfl rfl (StepQ.call kcallB_16_true rfl rfl (fun _ st => C16 e0 hc4 st)) ?_
  refine TO.s rfl rfl rfl (StepS.cmp rfl rfl rfl) ?_
  refine TO.s rfl rfl rfl (StepS.assign rfl) ?_
  refine TO.code ?_
  cases hm
  refine TC.ret fun a w e s => ?_
  refine FRet.mk1 (P := Try.prog) (fn := Try.f3) (t := 2) e rfl rfl ?_
  exact ⟨rfl, s.mono fun _ => Sat.dropN 0⟩

set_option maxRecDepth 100000 in
theorem C66 {B : World} {L : List HP} {a0 : BitVec 32} {a1 : Int} {b1_ : Nat} {r0 : Bool} (g1 : Ent L (Bx b1_ 3 [I a1])) (hm : F66 a0 a1 = some r0) {w : World} (st : St B L w) : Calls Try.prog 66 #[U a0, .pointer (some ⟨b1_, 0, none⟩)] w (fun e w' => (e = .returned (.bool r0) ∧ St B (L) w')) := by
  refine calls_of (N := 12) (L := L) (args := [U a0, .pointer (some ⟨b1_, 0, none⟩)]) Try.func66 rfl rfl rfl ?_ st
  dsimp only [F66] at hm
  refine TC.k ?_
  refine TC.region ?_
  refine TO.s rfl rfl rfl (StepS.assign rfl) ?_
  refine TO.code ?_
  refine TC.k ?_
  refine TC.region ?_
  refine TO.s rfl rfl rfl (StepS.move rfl) ?_
  refine TO.s rfl rfl rfl (StepS.cmpU (n := 0#32) rfl rfl rfl) ?_
  refine TO.s rfl rfl rfl (StepS.move rfl) ?_
  obtain ⟨b2, hj3, hm⟩ := bind_some hm
  refine TO.mid1 5 11 (.bool b2) ?_ ?_
  · refine bcase ((a0 == (0#32))) (fun hb1 => ?_) (fun hb1 => ?_)
    · replace hj3 := cond_t hb1 hj3
      cases hj3
      refine TO.skip rfl rfl rfl (skipT hb1) rfl rfl ?_
      refine TO.skip rfl rfl rfl (skipT hb1) rfl rfl ?_
      refine TO.skip rfl rfl rfl (skipT hb1) rfl rfl ?_
      refine TO.skip rfl rfl rfl (skipT hb1) rfl rfl ?_
      refine TO.s rfl rfl rfl (StepS.pickT rfl hb1 rfl) ?_
      exact TO.up1 5 0 rfl rfl rfl rfl
    · replace hj3 := cond_f hb1 hj3
      refine TO.sw rfl rfl rfl hb1 rfl rfl (StepS.move rfl) ?_
      refine TO.sw rfl rfl rfl hb1 rfl rfl (StepS.ldB rfl g1 kscalB_3_true rfl) ?_
      obtain ⟨k4, hk5, hj3⟩ := bind_some hj3
      refine TO.sw rfl rfl rfl hb1 rfl rfl (StepS.shrk rfl rfl hk5) ?_
      refine TO.sw rfl rfl rfl hb1 rfl rfl (StepS.cmpU (n := 0#32) rfl rfl rfl) ?_
      cases hj3
      refine TO.s rfl rfl rfl (StepS.pickF rfl hb1 rfl) ?_
      exact TO.up1 5 0 rfl rfl rfl rfl
  refine TO.s rfl rfl rfl (StepS.assign rfl) ?_
  refine TO.code ?_
  cases hm
  refine TC.ret fun a w e s => ?_
  refine FRet.mk1 (P := Try.prog) (fn := Try.f66) (t := 3) e rfl rfl ?_
  exact ⟨rfl, s.mono fun _ => Sat.dropN 0⟩

set_option maxRecDepth 100000 in
theorem C69 {B : World} {L : List HP} {a0 : List (BitVec 32)} {a1 : (BitVec 32) → Option Bool} {h0 : Value} {h1 : Value} {r0 : Int} (e0 : Ent L (Rd 1 h0 (a0.map cU))) (e1 : FOk Try.prog B L h1 (fun (z : BitVec 32) => [U z]) (fun (z : Bool) => .bool z) a1) (hm : F69 a0 a1 = some r0) {w : World} (st : St B L w) : Calls Try.prog 69 #[h0, h1] w (fun e w' => (e = .returned (I r0) ∧ St B (L) w')) := by
  refine calls_of (N := 19) (L := L) (args := [h0, h1]) Try.func69 rfl rfl rfl ?_ st
  dsimp only [F69] at hm
  refine TC.k ?_
  refine TC.region ?_
  refine TO.s rfl rfl rfl (StepS.assign rfl) ?_
  refine TO.code ?_
  refine TC.k ?_
  refine TC.k ?_
  refine TC.region ?_
  refine TO.s rfl rfl rfl (StepS.move rfl) ?_
  refine TO.s rfl rfl rfl (StepS.lenm rfl e0 ksliceB_34_35_1_true rfl) ?_
  refine TO.s rfl rfl rfl (StepS.move rfl) ?_
  refine TO.code ?_
  obtain ⟨o3, hw4, hm⟩ := bind_some hm
  refine TC.loop hw4 (fun x1 => fun a w => Mid 19 B [(0, h0), (1, h1), (7, I (a0.length : Int)), (8, I x1)] (L) a w) (fun _ => fun a w => Mid 19 B [] (L) a w) (fun r0 => FRet Try.prog Try.f69 (fun e w' => (e = .returned (I r0) ∧ St B (L) w'))) ?_ ?_ ?_ ?_
  · rintro x1 o3r hb5 a w ⟨he, hs⟩
    dsimp only [F69_L0] at hb5
    refine TC.use ?_ he hs
    refine TC.k ?_
    refine TC.region ?_
    refine TO.s rfl rfl rfl (StepS.cmp rfl rfl rfl) ?_
    refine TO.code ?_
    refine TC.k ?_
    refine TC.cond rfl (fun hc6 => ?_) (fun hc6 => ?_)
    · replace hb5 := cond_t hc6 hb5
      refine TC.skipk ?_
      refine TC.k ?_
      refine TC.block ?_
      refine TC.k ?_
      refine TC.region ?_
      refine TO.s rfl rfl rfl (StepS.move rfl) ?_
      refine TO.s rfl rfl rfl (StepS.assign rfl) ?_
      refine TO.code ?_
      refine TC.k ?_
      refine TC.region ?_
      refine TO.s rfl rfl rfl (StepS.move rfl) ?_
      refine TO.s rfl rfl rfl (StepS.move rfl) ?_
      refine TO.s rfl rfl rfl (StepS.move rfl) ?_
      obtain ⟨x7, hx8, hb5⟩ := bind_some hb5
      refine TO.s rfl rfl rfl (StepS.idx rfl rfl e0 ksliceB_34_35_1_true (idx_spec hx8).1 (idxm_lt hx8)) ?_
      refine TO.s rfl rfl rfl (StepS.ld0 rfl e0 kscalB_35_true rfl (idxm hx8) rfl) ?_
      obtain ⟨r9, hc10, hb5⟩ := bind_some hb5
      refine TO.q rfl rfl rfl (StepQ.callF (x := x7) e1 (Ext.rfl) rfl rfl hc10) ?_
      refine TO.code ?_
      refine TC.cond rfl (fun hc11 => ?_) (fun hc11 => ?_)
      · replace hb5 := cond_t hc11 hb5
        refine TC.k ?_
        refine TC.region ?_
        refine TO.s rfl rfl rfl (StepS.move rfl) ?_
        refine TO.s rfl rfl rfl (StepS.assign rfl) ?_
        refine TO.code ?_
        cases hb5
        refine TC.ret fun a w e s => ?_
        refine FRet.mk1 (P := Try.prog) (fn := Try.f69) (t := 4) e rfl rfl ?_
        exact ⟨rfl, s.mono fun _ => Sat.dropN 0⟩
      · replace hb5 := cond_f hc11 hb5
        refine TC.skipk ?_
        refine TC.region ?_
        refine TO.s rfl rfl rfl (StepS.ari rfl rfl rfl) ?_
        refine TO.s rfl rfl rfl (StepS.move rfl) ?_
        cases hb5
        refine TO.nil fun a w e s => ?_
        exact ⟨e.sub (lk_of_allIn ⟨rfl, rfl, rfl, rfl, trivial⟩), s⟩
    · replace hb5 := cond_f hc6 hb5
      cases hb5
      refine TC.exit rfl fun a w e s => ?_
      exact ⟨e.sub (lk_of_allIn trivial), s⟩
  · exact fun a w e s => ⟨e.sub (lk_of_allIn ⟨rfl, rfl, rfl, rfl, trivial⟩), s⟩
  · rintro _ rfl a w ⟨he, hs⟩
    dsimp only [Ctl.on] at hm
    refine TC.use ?_ he hs
    refine TC.k ?_
    refine TC.region ?_
    refine TO.s rfl rfl rfl (StepS.assign rfl) ?_
    refine TO.code ?_
    cases hm
    refine TC.ret fun a w e s => ?_
    refine FRet.mk1 (P := Try.prog) (fn := Try.f69) (t := 4) e rfl rfl ?_
    exact ⟨rfl, s.mono fun _ => Sat.dropN 0⟩
  · rintro r rfl
    cases hm
    exact fun a w h => h

set_option maxRecDepth 100000 in
theorem C65 {B : World} {L : List HP} {a0 : List (BitVec 32)} {a1 : (BitVec 32) → Option Bool} {h0 : Value} {h1 : Value} {r0 : Bool} (e0 : Ent L (Rd 1 h0 (a0.map cU))) (e1 : FOk Try.prog B L h1 (fun (z : BitVec 32) => [U z]) (fun (z : Bool) => .bool z) a1) (hm : F65 a0 a1 = some r0) {w : World} (st : St B L w) : Calls Try.prog 65 #[h0, h1] w (fun e w' => (e = .returned (.bool r0) ∧ St B (L) w')) := by
  refine calls_of (N := 9) (L := L) (args := [h0, h1]) Try.func65 rfl rfl rfl ?_ st
  dsimp only [F65] at hm
  refine TC.k ?_
  refine TC.region ?_
  refine TO.s rfl rfl rfl (StepS.assign rfl) ?_
  refine TO.code ?_
  refine TC.k ?_
  refine TC.region ?_
  refine TO.s rfl rfl rfl (StepS.move rfl) ?_
  refine TO.s rfl rfl rfl (StepS.move rfl) ?_
  obtain ⟨r1, hc2, hm⟩ := bind_some hm
  refine TO.q rfl rfl rfl (StepQ.call kcallB_69_true rfl rfl (fun _ st => C69 e0 (e1.ext (Ext.rfl)) hc2 st)) ?_
  refine TO.s rfl rfl rfl (StepS.cmp rfl rfl rfl) ?_
  refine TO.s rfl rfl rfl (StepS.assign rfl) ?_
  refine TO.code ?_
  cases hm
  refine TC.ret fun a w e s => ?_
  refine FRet.mk1 (P := Try.prog) (fn := Try.f65) (t := 4) e rfl rfl ?_
  exact ⟨rfl, s.mono fun _ => Sat.dropN 0⟩

set_option maxRecDepth 100000 in
theorem C54 {B : World} {L : List HP} {a0 : Int} {a1 : List (BitVec 32)} {a2 : BitVec 32} {h1 : Value} {r0 : Int} (e1 : Ent L (Rd 1 h1 (a1.map cU))) (hm : F54 a0 a1 a2 = some r0) {w : World} (st : St B L w) : Calls Try.prog 54 #[I a0, h1, U a2] w (fun e w' => (e = .returned (I r0) ∧ St B (L) w')) := by
  refine calls_of (N := 27) (L := L) (args := [I a0, h1, U a2]) Try.func54 rfl rfl rfl ?_ st
  dsimp only [F54] at hm
  refine TC.k ?_
  refine TC.region ?_
  refine TO.box (cs := [I a0]) rfl rfl rfl fun b1 => ?_
  refine TO.s rfl rfl rfl (StepS.assign rfl) ?_
  refine TO.code ?_
  refine TC.k ?_
  refine TC.k ?_
  refine TC.region ?_
  refine TO.s rfl rfl rfl (StepS.ldB rfl (Ent.at 0 rfl) kscalB_3_true rfl) ?_
  refine TO.s rfl rfl rfl (StepS.cmp rfl rfl rfl) ?_
  refine TO.s rfl rfl rfl (StepS.move rfl) ?_
  refine TO.mid1 3 12 (.bool ((decide (a0 < 1)) || (decide (a0 > 6)))) ?_ ?_
  · refine bcase ((decide (a0 < 1))) (fun hb2 => ?_) (fun hb2 => ?_)
    · refine TO.skip rfl rfl rfl (skipT hb2) rfl rfl ?_
      refine TO.skip rfl rfl rfl (skipT hb2) rfl rfl ?_
      refine TO.s rfl rfl rfl (StepS.pickT rfl hb2 rfl) ?_
      exact TO.up1 3 0 rfl rfl (by rw [hb2]; rfl) rfl
    · refine TO.sw rfl rfl rfl hb2 rfl rfl (StepS.ldB rfl (Ent.at 0 rfl) kscalB_3_true rfl) ?_
      refine TO.sw rfl rfl rfl hb2 rfl rfl (StepS.cmp rfl rfl rfl) ?_
      refine TO.s rfl rfl rfl (StepS.pickF rfl hb2 rfl) ?_
      exact TO.up1 3 0 rfl rfl (by rw [hb2]; rfl) rfl
  refine TO.s rfl rfl rfl (StepS.move rfl) ?_
  refine TO.mid1 4 17 (.bool (((decide (a0 < 1)) || (decide (a0 > 6))) || (decide ((a1.length : Int) > 20)))) ?_ ?_
  · refine bcase (((decide (a0 < 1)) || (decide (a0 > 6)))) (fun hb3 => ?_) (fun hb3 => ?_)
    · refine TO.skip rfl rfl rfl (skipT hb3) rfl rfl ?_
      refine TO.skip rfl rfl rfl (skipT hb3) rfl rfl ?_
      refine TO.skip rfl rfl rfl (skipT hb3) rfl rfl ?_
      refine TO.s rfl rfl rfl (StepS.pickT rfl hb3 rfl) ?_
      exact TO.up1 4 0 rfl rfl (by rw [hb3]; rfl) rfl
    · refine TO.sw rfl rfl rfl hb3 rfl rfl (StepS.move rfl) ?_
      refine TO.sw rfl rfl rfl hb3 rfl rfl (StepS.lenm rfl e1.tl ksliceB_34_35_1_true rfl) ?_
      refine TO.sw rfl rfl rfl hb3 rfl rfl (StepS.cmp rfl rfl rfl) ?_
      refine TO.s rfl rfl rfl (StepS.pickF rfl hb3 rfl) ?_
      exact TO.up1 4 0 rfl rfl (by rw [hb3]; rfl) rfl
  refine TO.code ?_
  refine TC.cond rfl (fun hc4 => ?_) (fun hc4 => ?_)
  · replace hm := cond_t hc4 hm
    refine TC.k ?_
    refine TC.region ?_
    refine TO.s rfl rfl rfl (StepS.assign rfl) ?_
    refine TO.code ?_
    cases hm
    refine TC.ret fun a w e s => ?_
    refine FRet.mk1 (P := Try.prog) (fn := Try.f54) (t := 6) e rfl rfl ?_
    exact ⟨rfl, s.mono fun _ => Sat.dropN 1⟩
  · replace hm := cond_f hc4 hm
    refine TC.skipk ?_
    refine TC.k ?_
    refine TC.k ?_
    refine TC.region ?_
    refine TO.s rfl rfl rfl (StepS.move rfl) ?_
    refine TO.s rfl rfl rfl (StepS.mkfn rfl) ?_
    obtain ⟨r5, hc6, hm⟩ := bind_some hm
    refine TO.q rfl rfl rfl (StepQ.call kcallB_65_true rfl rfl (fun _ st => C65 e1.tl ⟨66, #[], #[.pointer (some ⟨b1, 0, none⟩)], rfl, kcallB_66_true, fun _ hx z r hm w st => C66 (Ent.ext (Ent.at 0 rfl) hx) hm st⟩ hc6 st)) ?_
    refine TO.s rfl rfl rfl (StepS.move rfl) ?_
    obtain ⟨b8, hj9, hm⟩ := bind_some hm
    refine TO.mid1 5 26 (.bool b8) ?_ ?_
    · refine bcase (r5) (fun hb7 => ?_) (fun hb7 => ?_)
      · replace hj9 := cond_t hb7 hj9
        cases hj9
        refine TO.skip rfl rfl rfl (skipT hb7) rfl rfl ?_
        refine TO.skip rfl rfl rfl (skipT hb7) rfl rfl ?_
        refine TO.skip rfl rfl rfl (skipT hb7) rfl rfl ?_
        refine TO.skip rfl rfl rfl (skipT hb7) rfl rfl ?_
        refine TO.s rfl rfl rfl (StepS.pickT rfl hb7 rfl) ?_
        exact TO.up1 5 0 rfl rfl rfl rfl
      · replace hj9 := cond_f hb7 hj9
        refine TO.sw rfl rfl rfl hb7 rfl rfl (StepS.move rfl) ?_
        refine TO.sw rfl rfl rfl hb7 rfl rfl (StepS.ldB rfl (Ent.at 0 rfl) kscalB_3_true rfl) ?_
        obtain ⟨k10, hk11, hj9⟩ := bind_some hj9
        refine TO.sw rfl rfl rfl hb7 rfl rfl (StepS.shrk rfl rfl hk11) ?_
        refine TO.sw rfl rfl rfl hb7 rfl rfl (StepS.cmpU (n := 0#32) rfl rfl rfl) ?_
        cases hj9
        refine TO.s rfl rfl rfl (StepS.pickF rfl hb7 rfl) ?_
        exact TO.up1 5 0 rfl rfl rfl rfl
    refine TO.code ?_
    refine TC.cond rfl (fun hc12 => ?_) (fun hc12 => ?_)
    · replace hm := cond_t hc12 hm
      refine TC.k ?_
      refine TC.region ?_
      refine TO.s rfl rfl rfl (StepS.assign rfl) ?_
      refine TO.code ?_
      cases hm
      refine TC.ret fun a w e s => ?_
      refine FRet.mk1 (P := Try.prog) (fn := Try.f54) (t := 6) e rfl rfl ?_
      exact ⟨rfl, s.mono fun _ => Sat.dropN 1⟩
    · replace hm := cond_f hc12 hm
      refine TC.skipk ?_
      refine TC.k ?_
      refine TC.region ?_
      refine TO.s rfl rfl rfl (StepS.assign rfl) ?_
      refine TO.code ?_
      cases hm
      refine TC.ret fun a w e s => ?_
      refine FRet.mk1 (P := Try.prog) (fn := Try.f54) (t := 6) e rfl rfl ?_
      exact ⟨rfl, s.mono fun _ => Sat.dropN 1⟩

set_option maxRecDepth 100000 in
theorem C67 {B : World} {L : List HP} {a0 : BitVec 32} {a1 : BitVec 32} {b1_ : Nat} {r0 : Bool} (g1 : Ent L (Bx b1_ 35 [U a1])) (hm : F67 a0 a1 = some r0) {w : World} (st : St B L w) : Calls Try.prog 67 #[U a0, .pointer (some ⟨b1_, 0, none⟩)] w (fun e w' => (e = .returned (.bool r0) ∧ St B (L) w')) := by
  refine calls_of (N := 8) (L := L) (args := [U a0, .pointer (some ⟨b1_, 0, none⟩)]) Try.func67 rfl rfl rfl ?_ st
  dsimp only [F67] at hm
  refine TC.k ?_
  refine TC.region ?_
  refine TO.s rfl rfl rfl (StepS.assign rfl) ?_
  refine TO.code ?_
  refine TC.k ?_
  refine TC.region ?_
  refine TO.s rfl rfl rfl (StepS.move rfl) ?_
  refine TO.s rfl rfl rfl (StepS.ldB rfl g1 kscalB_35_true rfl) ?_
  refine TO.s rfl rfl rfl (StepS.bitU rfl rfl rfl) ?_
  refine TO.s rfl rfl rfl (StepS.cmpU (n := 0#32) rfl rfl rfl) ?_
  refine TO.s rfl rfl rfl (StepS.assign rfl) ?_
  refine TO.code ?_
  cases hm
  refine TC.ret fun a w e s => ?_
  refine FRet.mk1 (P := Try.prog) (fn := Try.f67) (t := 3) e rfl rfl ?_
  exact ⟨rfl, s.mono fun _ => Sat.dropN 0⟩

set_option maxRecDepth 100000 in
theorem C55 {B : World} {L : List HP} {a0 : List (BitVec 32)} {a1 : BitVec 32} {h0 : Value} {r0 : Bool} (e0 : Ent L (Rd 1 h0 (a0.map cU))) (hm : F55 a0 a1 = some r0) {w : World} (st : St B L w) : Calls Try.prog 55 #[h0, U a1] w (fun e w' => (e = .returned (.bool r0) ∧ St B (L) w')) := by
  refine calls_of (N := 8) (L := L) (args := [h0, U a1]) Try.func55 rfl rfl rfl ?_ st
  dsimp only [F55] at hm
  refine TC.k ?_
  refine TC.region ?_
  refine TO.box (cs := [U a1]) rfl rfl rfl fun b1 => ?_
  refine TO.s rfl rfl rfl (StepS.assign rfl) ?_
  refine TO.code ?_
  refine TC.k ?_
  refine TC.region ?_
  refine TO.s rfl rfl rfl (StepS.move rfl) ?_
  refine TO.s rfl rfl rfl (StepS.mkfn rfl) ?_
  obtain ⟨r2, hc3, hm⟩ := bind_some hm
  refine TO.q rfl rfl rfl (StepQ.call kcallB_65_true rfl rfl (fun _ st => C65 e0.tl ⟨67, #[], #[.pointer (some ⟨b1, 0, none⟩)], rfl, kcallB_67_true, fun _ hx z r hm w st => C67 (Ent.ext (Ent.at 0 rfl) hx) hm st⟩ hc3 st)) ?_
  refine TO.s rfl rfl rfl (StepS.assign rfl) ?_
  refine TO.code ?_
  cases hm
  refine TC.ret fun a w e s => ?_
  refine FRet.mk1 (P := Try.prog) (fn := Try.f55) (t := 4) e rfl rfl ?_
  exact ⟨rfl, s.mono fun _ => Sat.dropN 1⟩

set_option maxRecDepth 100000 in
theorem C31 {B : World} {L : List HP} {a0 : Int} {a1 : List (BitVec 32)} {a2 : BitVec 32} {h1 : Value} {r0 : Bool} {r1 : Int} (e1 : Ent L (Rd 1 h1 (a1.map cU))) (hm : F31 a0 a1 a2 = some (r0, r1)) {w : World} (st : St B L w) : Calls Try.prog 31 #[I a0, h1, U a2] w (fun e w' => (e = .returned (.tuple #[.bool r0, I r1]) ∧ St B (L) w')) := by
  refine calls_of (N := 19) (L := L) (args := [I a0, h1, U a2]) Try.func31 rfl rfl rfl ?_ st
  dsimp only [F31] at hm
  refine TC.k ?_
  refine TC.region ?_
  refine TO.s rfl rfl rfl (StepS.assign rfl) ?_
  refine TO.s rfl rfl rfl (StepS.assign rfl) ?_
  refine TO.code ?_
  refine TC.k ?_
  refine TC.k ?_
  refine TC.region ?_
  refine TO.s rfl rfl rfl (StepS.move rfl) ?_
  refine TO.s rfl rfl rfl (StepS.move rfl) ?_
  refine TO.s rfl rfl rfl (StepS.move rfl) ?_
  obtain ⟨r1, hc2, hm⟩ := bind_some hm
  refine TO.q rfl rfl rfl (StepQ.call kcallB_54_true rfl rfl (fun _ st => C54 e1 hc2 st)) ?_
  refine TO.s rfl rfl rfl (StepS.assign rfl) ?_
  refine TO.code ?_
  refine TC.k ?_
  refine TC.region ?_
  refine TO.s rfl rfl rfl (StepS.move rfl) ?_
  refine TO.s rfl rfl rfl (StepS.cmp rfl rfl rfl) ?_
  refine TO.code ?_
  refine TC.cond rfl (fun hc3 => ?_) (fun hc3 => ?_)
  · replace hm := cond_t hc3 hm
    refine TC.k ?_
    refine TC.region ?_
    refine TO.s rfl rfl rfl (StepS.move rfl) ?_
    refine TO.s rfl rfl rfl (StepS.assign rfl) ?_
    refine TO.s rfl rfl rfl (StepS.assign rfl) ?_
    refine TO.code ?_
    cases hm
    refine TC.ret fun a w e s => ?_
    refine FRet.mk2 (P := Try.prog) (fn := Try.f31) (t := 6) (u := 7) e rfl rfl rfl ?_
    exact ⟨rfl, s.mono fun _ => Sat.dropN 0⟩
  · replace hm := cond_f hc3 hm
    refine TC.skipk ?_
    refine TC.k ?_
    refine TC.region ?_
    refine TO.s rfl rfl rfl (StepS.move rfl) ?_
    refine TO.s rfl rfl rfl (StepS.move rfl) ?_
    obtain ⟨r4, hc5, hm⟩ := bind_some hm
    refine TO.q rfl rfl rfl (StepQ.call kcallB_55_true rfl rfl (fun _ st => C55 e1 hc5 st)) ?_
    refine TO.s rfl rfl rfl (StepS.assign rfl) ?_
    refine TO.s rfl rfl rfl (StepS.assign rfl) ?_
    refine TO.code ?_
    cases hm
    refine TC.ret fun a w e s => ?_
    refine FRet.mk2 (P := Try.prog) (fn := Try.f31) (t := 6) (u := 7) e rfl rfl rfl ?_
    exact ⟨rfl, s.mono fun _ => Sat.dropN 0⟩

set_option maxRecDepth 100000 in
theorem C32 {B : World} {L : List HP} {a0 : Int} {a1 : List (BitVec 32)} {a2 : BitVec 32} {h1 : Value} {r0 : Int} (e1 : Ent L (Rd 1 h1 (a1.map cU))) (hm : F32 a0 a1 a2 = some r0) {w : World} (st : St B L w) : Calls Try.prog 32 #[I a0, h1, U a2] w (fun e w' => (e = .returned (I r0) ∧ St B (L) w')) := by
  refine calls_of (N := 41) (L := L) (args := [I a0, h1, U a2]) Try.func32 rfl rfl rfl ?_ st
  dsimp only [F32] at hm
  refine TC.k ?_
  refine TC.region ?_
  refine TO.s rfl rfl rfl (StepS.assign rfl) ?_
  refine TO.code ?_
  refine TC.k ?_
  refine TC.k ?_
  refine TC.region ?_
  refine TO.s rfl rfl rfl (StepS.move rfl) ?_
  refine TO.s rfl rfl rfl (StepS.cmp rfl rfl rfl) ?_
  refine TO.s rfl rfl rfl (StepS.move rfl) ?_
  refine TO.mid1 3 14 (.bool ((decide (a0 < 1)) || (decide (a0 > 6)))) ?_ ?_
  · refine bcase ((decide (a0 < 1))) (fun hb1 => ?_) (fun hb1 => ?_)
    · refine TO.skip rfl rfl rfl (skipT hb1) rfl rfl ?_
      refine TO.skip rfl rfl rfl (skipT hb1) rfl rfl ?_
      refine TO.s rfl rfl rfl (StepS.pickT rfl hb1 rfl) ?_
      exact TO.up1 3 0 rfl rfl (by rw [hb1]; rfl) rfl
    · refine TO.sw rfl rfl rfl hb1 rfl rfl (StepS.move rfl) ?_
      refine TO.sw rfl rfl rfl hb1 rfl rfl (StepS.cmp rfl rfl rfl) ?_
      refine TO.s rfl rfl rfl (StepS.pickF rfl hb1 rfl) ?_
      exact TO.up1 3 0 rfl rfl (by rw [hb1]; rfl) rfl
  refine TO.s rfl rfl rfl (StepS.move rfl) ?_
  refine TO.mid1 4 19 (.bool (((decide (a0 < 1)) || (decide (a0 > 6))) || (decide ((a1.length : Int) > 20)))) ?_ ?_
  · refine bcase (((decide (a0 < 1)) || (decide (a0 > 6)))) (fun hb2 => ?_) (fun hb2 => ?_)
    · refine TO.skip rfl rfl rfl (skipT hb2) rfl rfl ?_
      refine TO.skip rfl rfl rfl (skipT hb2) rfl rfl ?_
      refine TO.skip rfl rfl rfl (skipT hb2) rfl rfl ?_
      refine TO.s rfl rfl rfl (StepS.pickT rfl hb2 rfl) ?_
      exact TO.up1 4 0 rfl rfl (by rw [hb2]; rfl) rfl
    · refine TO.sw rfl rfl rfl hb2 rfl rfl (StepS.move rfl) ?_
      refine TO.sw rfl rfl rfl hb2 rfl rfl (StepS.lenm rfl e1 ksliceB_34_35_1_true rfl) ?_
      refine TO.sw rfl rfl rfl hb2 rfl rfl (StepS.cmp rfl rfl rfl) ?_
      refine TO.s rfl rfl rfl (StepS.pickF rfl hb2 rfl) ?_
      exact TO.up1 4 0 rfl rfl (by rw [hb2]; rfl) rfl
  refine TO.code ?_
  refine TC.cond rfl (fun hc3 => ?_) (fun hc3 => ?_)
  · replace hm := cond_t hc3 hm
    refine TC.k ?_
    refine TC.region ?_
    refine TO.s rfl rfl rfl (StepS.assign rfl) ?_
    refine TO.code ?_
    cases hm
    refine TC.ret fun a w e s => ?_
    refine FRet.mk1 (P := Try.prog) (fn := Try.f32) (t := 6) e rfl rfl ?_
    exact ⟨rfl, s.mono fun _ => Sat.dropN 0⟩
  · replace hm := cond_f hc3 hm
    refine TC.skipk ?_
    refine TC.k ?_
    refine TC.k ?_
    refine TC.region ?_
    refine TO.s rfl rfl rfl (StepS.move rfl) ?_
    refine TO.s rfl rfl rfl (StepS.lenm rfl e1 ksliceB_34_35_1_true rfl) ?_
    refine TO.s rfl rfl rfl (StepS.move rfl) ?_
    refine TO.code ?_
    obtain ⟨o6, hw7, hm⟩ := bind_some hm
    refine TC.loop hw7 (fun x4 => fun a w => Mid 41 B [(0, I a0), (2, U a2), (20, h1), (21, I (a1.length : Int)), (22, I x4)] (L) a w) (fun _ => fun a w => Mid 41 B [(0, I a0), (2, U a2)] (L) a w) (fun r0 => FRet Try.prog Try.f32 (fun e w' => (e = .returned (I r0) ∧ St B (L) w'))) ?_ ?_ ?_ ?_
    · rintro x4 o6r hb8 a w ⟨he, hs⟩
      dsimp only [F32_L0] at hb8
      refine TC.use ?_ he hs
      refine TC.k ?_
      refine TC.region ?_
      refine TO.s rfl rfl rfl (StepS.cmp rfl rfl rfl) ?_
      refine TO.code ?_
      refine TC.k ?_
      refine TC.cond rfl (fun hc9 => ?_) (fun hc9 => ?_)
      · replace hb8 := cond_t hc9 hb8
        refine TC.skipk ?_
        refine TC.k ?_
        refine TC.block ?_
        refine TC.k ?_
        refine TC.region ?_
        obtain ⟨x10, hx11, hb8⟩ := bind_some hb8
        refine TO.s rfl rfl rfl (StepS.idx rfl rfl e1 ksliceB_34_35_1_true (idx_spec hx11).1 (idxm_lt hx11)) ?_
        refine TO.s rfl rfl rfl (StepS.ld0 rfl e1 kscalB_35_true rfl (idxm hx11) rfl) ?_
        refine TO.s rfl rfl rfl (StepS.assign rfl) ?_
        refine TO.code ?_
        refine TC.k ?_
        refine TC.region ?_
        refine TO.s rfl rfl rfl (StepS.move rfl) ?_
        refine TO.s rfl rfl rfl (StepS.cmpU (n := 0#32) rfl rfl rfl) ?_
        refine TO.s rfl rfl rfl (StepS.move rfl) ?_
        refine TO.mid1 6 34 (.bool ((x10 == (0#32)) || (decide (((1#32) <<< (u64 a0).toNat) ≤ x10)))) ?_ ?_
        · refine bcase ((x10 == (0#32))) (fun hb12 => ?_) (fun hb12 => ?_)
          · refine TO.skip rfl rfl rfl (skipT hb12) rfl rfl ?_
            refine TO.skip rfl rfl rfl (skipT hb12) rfl rfl ?_
            refine TO.skip rfl rfl rfl (skipT hb12) rfl rfl ?_
            refine TO.skip rfl rfl rfl (skipT hb12) rfl rfl ?_
            refine TO.skip rfl rfl rfl (skipT hb12) rfl rfl ?_
            refine TO.s rfl rfl rfl (StepS.pickT rfl hb12 rfl) ?_
            exact TO.up1 6 0 rfl rfl (by rw [hb12]; rfl) rfl
          · refine TO.sw rfl rfl rfl hb12 rfl rfl (StepS.move rfl) ?_
            refine TO.sw rfl rfl rfl hb12 rfl rfl (StepS.move rfl) ?_
            refine TO.sw rfl rfl rfl hb12 rfl rfl (StepS.cvIV kintB_3_i64_true kintB_44_u64_true rfl) ?_
            refine TO.sw rfl rfl rfl hb12 rfl rfl (StepS.shl (m := 1#32) rfl rfl (u64_nonneg _)) ?_
            refine TO.sw rfl rfl rfl hb12 rfl rfl (StepS.cmpU rfl rfl rfl) ?_
            refine TO.s rfl rfl rfl (StepS.pickF rfl hb12 rfl) ?_
            exact TO.up1 6 0 rfl rfl (by rw [hb12]; rfl) rfl
        refine TO.code ?_
        refine TC.cond rfl (fun hc13 => ?_) (fun hc13 => ?_)
        · replace hb8 := cond_t hc13 hb8
          refine TC.k ?_
          refine TC.region ?_
          refine TO.s rfl rfl rfl (StepS.assign rfl) ?_
          refine TO.code ?_
          cases hb8
          refine TC.ret fun a w e s => ?_
          refine FRet.mk1 (P := Try.prog) (fn := Try.f32) (t := 6) e rfl rfl ?_
          exact ⟨rfl, s.mono fun _ => Sat.dropN 0⟩
        · replace hb8 := cond_f hc13 hb8
          refine TC.skipk ?_
          refine TC.region ?_
          refine TO.s rfl rfl rfl (StepS.ari rfl rfl rfl) ?_
          refine TO.s rfl rfl rfl (StepS.move rfl) ?_
          cases hb8
          refine TO.nil fun a w e s => ?_
          exact ⟨e.sub (lk_of_allIn ⟨rfl, rfl, rfl, rfl, rfl, trivial⟩), s⟩
      · replace hb8 := cond_f hc9 hb8
        cases hb8
        refine TC.exit rfl fun a w e s => ?_
        exact ⟨e.sub (lk_of_allIn ⟨rfl, rfl, trivial⟩), s⟩
    · exact fun a w e s => ⟨e.sub (lk_of_allIn ⟨rfl, rfl, rfl, rfl, rfl, trivial⟩), s⟩
    · rintro _ rfl a w ⟨he, hs⟩
      dsimp only [Ctl.on] at hm
      refine TC.use ?_ he hs
      refine TC.k ?_
      refine TC.k ?_
      refine TC.region ?_
      refine TO.s rfl rfl rfl (StepS.move rfl) ?_
      refine TO.s rfl rfl rfl (StepS.move rfl) ?_
      refine TO.s rfl rfl rfl (StepS.cvIV kintB_3_i64_true kintB_44_u64_true rfl) ?_
      refine TO.s rfl rfl rfl (StepS.shl (m := 1#32) rfl rfl (u64_nonneg _)) ?_
      refine TO.s rfl rfl rfl (StepS.cmpU rfl rfl rfl) ?_
      refine TO.code ?_
      refine TC.cond rfl (fun hc14 => ?_) (fun hc14 => ?_)
      · replace hm := cond_t hc14 hm
        refine TC.k ?_
        refine TC.region ?_
        refine TO.s rfl rfl rfl (StepS.assign rfl) ?_
        refine TO.code ?_
        cases hm
        refine TC.ret fun a w e s => ?_
        refine FRet.mk1 (P := Try.prog) (fn := Try.f32) (t := 6) e rfl rfl ?_
        exact ⟨rfl, s.mono fun _ => Sat.dropN 0⟩
      · replace hm := cond_f hc14 hm
        refine TC.skipk ?_
        refine TC.k ?_
        refine TC.region ?_
        refine TO.s rfl rfl rfl (StepS.assign rfl) ?_
        refine TO.code ?_
        cases hm
        refine TC.ret fun a w e s => ?_
        refine FRet.mk1 (P := Try.prog) (fn := Try.f32) (t := 6) e rfl rfl ?_
        exact ⟨rfl, s.mono fun _ => Sat.dropN 0⟩
    · rintro r rfl
      cases hm
      exact fun a w h => h

set_option maxRecDepth 100000 in
theorem C33 {B : World} {L : List HP} {a0 : List (BitVec 32)} {a1 : BitVec 32} {h0 : Value} {r0 : Bool} (e0 : Ent L (Rd 1 h0 (a0.map cU))) (hm : F33 a0 a1 = some r0) {w : World} (st : St B L w) : Calls Try.prog 33 #[h0, U a1] w (fun e w' => (e = .returned (.bool r0) ∧ St B (L) w')) := by
  refine calls_of (N := 19) (L := L) (args := [h0, U a1]) Try.func33 rfl rfl rfl ?_ st
  dsimp only [F33] at hm
  refine TC.k ?_
  refine TC.region ?_
  refine TO.s rfl rfl rfl (StepS.assign rfl) ?_
  refine TO.code ?_
  refine TC.k ?_
  refine TC.k ?_
  refine TC.region ?_
  refine TO.s rfl rfl rfl (StepS.move rfl) ?_
  refine TO.s rfl rfl rfl (StepS.lenm rfl e0 ksliceB_34_35_1_true rfl) ?_
  refine TO.s rfl rfl rfl (StepS.move rfl) ?_
  refine TO.code ?_
  obtain ⟨o3, hw4, hm⟩ := bind_some hm
  refine TC.loop hw4 (fun x1 => fun a w => Mid 19 B [(1, U a1), (7, h0), (8, I (a0.length : Int)), (9, I x1)] (L) a w) (fun _ => fun a w => Mid 19 B [] (L) a w) (fun r0 => FRet Try.prog Try.f33 (fun e w' => (e = .returned (.bool r0) ∧ St B (L) w'))) ?_ ?_ ?_ ?_
  · rintro x1 o3r hb5 a w ⟨he, hs⟩
    dsimp only [F33_L0] at hb5
    refine TC.use ?_ he hs
    refine TC.k ?_
    refine TC.region ?_
    refine TO.s rfl rfl rfl (StepS.cmp rfl rfl rfl) ?_
    refine TO.code ?_
    refine TC.k ?_
    refine TC.cond rfl (fun hc6 => ?_) (fun hc6 => ?_)
    · replace hb5 := cond_t hc6 hb5
      refine TC.skipk ?_
      refine TC.k ?_
      refine TC.block ?_
      refine TC.k ?_
      refine TC.region ?_
      obtain ⟨x7, hx8, hb5⟩ := bind_some hb5
      refine TO.s rfl rfl rfl (StepS.idx rfl rfl e0 ksliceB_34_35_1_true (idx_spec hx8).1 (idxm_lt hx8)) ?_
      refine TO.s rfl rfl rfl (StepS.ld0 rfl e0 kscalB_35_true rfl (idxm hx8) rfl) ?_
      refine TO.s rfl rfl rfl (StepS.assign rfl) ?_
      refine TO.code ?_
      refine TC.k ?_
      refine TC.region ?_
      refine TO.s rfl rfl rfl (StepS.move rfl) ?_
      refine TO.s rfl rfl rfl (StepS.move rfl) ?_
      refine TO.s rfl rfl rfl (StepS.bitU rfl rfl rfl) ?_
      refine TO.s rfl rfl rfl (StepS.move rfl) ?_
      refine TO.s rfl rfl rfl (StepS.cmpU rfl rfl rfl) ?_
      refine TO.code ?_
      refine TC.cond rfl (fun hc9 => ?_) (fun hc9 => ?_)
      · replace hb5 := cond_t hc9 hb5
        refine TC.k ?_
        refine TC.region ?_
        refine TO.s rfl rfl rfl (StepS.assign rfl) ?_
        refine TO.code ?_
        cases hb5
        refine TC.ret fun a w e s => ?_
        refine FRet.mk1 (P := Try.prog) (fn := Try.f33) (t := 4) e rfl rfl ?_
        exact ⟨rfl, s.mono fun _ => Sat.dropN 0⟩
      · replace hb5 := cond_f hc9 hb5
        refine TC.skipk ?_
        refine TC.region ?_
        refine TO.s rfl rfl rfl (StepS.ari rfl rfl rfl) ?_
        refine TO.s rfl rfl rfl (StepS.move rfl) ?_
        cases hb5
        refine TO.nil fun a w e s => ?_
        exact ⟨e.sub (lk_of_allIn ⟨rfl, rfl, rfl, rfl, trivial⟩), s⟩
    · replace hb5 := cond_f hc6 hb5
      cases hb5
      refine TC.exit rfl fun a w e s => ?_
      exact ⟨e.sub (lk_of_allIn trivial), s⟩
  · exact fun a w e s => ⟨e.sub (lk_of_allIn ⟨rfl, rfl, rfl, rfl, trivial⟩), s⟩
  · rintro _ rfl a w ⟨he, hs⟩
    dsimp only [Ctl.on] at hm
    refine TC.use ?_ he hs
    refine TC.k ?_
    refine TC.region ?_
    refine TO.s rfl rfl rfl (StepS.assign rfl) ?_
    refine TO.code ?_
    cases hm
    refine TC.ret fun a w e s => ?_
    refine FRet.mk1 (P := Try.prog) (fn := Try.f33) (t := 4) e rfl rfl ?_
    exact ⟨rfl, s.mono fun _ => Sat.dropN 0⟩
  · rintro r rfl
    cases hm
    exact fun a w h => h

set_option maxRecDepth 100000 in
theorem C10 {B : World} {L : List HP} {a0 : Int} {a1 : List (BitVec 32)} {a2 : BitVec 32} {h1 : Value} {r0 : Bool} (e1 : Ent L (Rd 1 h1 (a1.map cU))) (hm : F10 a0 a1 a2 = some r0) {w : World} (st : St B L w) : Calls Try.prog 10 #[I a0, h1, U a2] w (fun e w' => (e = .returned (.bool r0) ∧ St B (L) w')) := by
  refine calls_of (N := 39) (L := L) (args := [I a0, h1, U a2]) Try.func10 rfl rfl rfl ?_ st
  dsimp only [F10] at hm
  refine TC.k ?_
  refine TC.region ?_
  refine TO.s rfl rfl rfl (StepS.assign rfl) ?_
  refine TO.code ?_
  refine TC.k ?_
  refine TC.region ?_
  refine TO.s rfl rfl rfl (StepS.move rfl) ?_
  refine TO.s rfl rfl rfl (StepS.move rfl) ?_
  refine TO.s rfl rfl rfl (StepS.move rfl) ?_
  obtain ⟨⟨r1, r2⟩, hc3, hm⟩ := bind_some hm
  refine TO.q rfl rfl rfl (StepQ.call kcallB_31_true rfl rfl (fun _ st => C31 e1 hc3 st)) ?_
  refine TO.s rfl rfl rfl (StepS.move rfl) ?_
  refine TO.s rfl rfl rfl (StepS.extract rfl rfl) ?_
  refine TO.s rfl rfl rfl (StepS.extract rfl rfl) ?_
  refine TO.s rfl rfl rfl (StepS.assign rfl) ?_
  refine TO.s rfl rfl rfl (StepS.assign rfl) ?_
  refine TO.code ?_
  refine TC.k ?_
  refine TC.region ?_
  refine TO.s rfl rfl rfl (StepS.move rfl) ?_
  refine TO.s rfl rfl rfl (StepS.move rfl) ?_
  refine TO.s rfl rfl rfl (StepS.move rfl) ?_
  obtain ⟨r4, hc5, hm⟩ := bind_some hm
  refine TO.q rfl rfl rfl (StepQ.call kcallB_32_true rfl rfl (fun _ st => C32 e1 hc5 st)) ?_
  refine TO.s rfl rfl rfl (StepS.assign rfl) ?_
  refine TO.code ?_
  refine TC.k ?_
  refine TC.k ?_
  refine TC.region ?_
  refine TO.s rfl rfl rfl (StepS.move rfl) ?_
  refine TO.s rfl rfl rfl (StepS.cmp rfl rfl rfl) ?_
  refine TO.code ?_
  refine TC.cond rfl (fun hc6 => ?_) (fun hc6 => ?_)
  · replace hm := cond_t hc6 hm
    refine TC.k ?_
    refine TC.region ?_
    refine TO.s rfl rfl rfl (StepS.move rfl) ?_
    refine TO.s rfl rfl rfl (StepS.move rfl) ?_
    refine TO.s rfl rfl rfl (StepS.cmp rfl rfl rfl) ?_
    refine TO.s rfl rfl rfl (StepS.move rfl) ?_
    refine TO.mid1 3 29 (.bool ((r2 == r4) && (!r1))) ?_ ?_
    · refine bcase ((r2 == r4)) (fun hb7 => ?_) (fun hb7 => ?_)
      · refine TO.sw rfl rfl rfl hb7 rfl rfl (StepS.move rfl) ?_
        refine TO.sw rfl rfl rfl hb7 rfl rfl (StepS.not rfl) ?_
        refine TO.s rfl rfl rfl (StepS.pickT rfl hb7 rfl) ?_
        exact TO.up1 3 0 rfl rfl (by rw [hb7]; rfl) rfl
      · refine TO.skip rfl rfl rfl (skipF hb7) rfl rfl ?_
        refine TO.skip rfl rfl rfl (skipF hb7) rfl rfl ?_
        refine TO.s rfl rfl rfl (StepS.pickF rfl hb7 rfl) ?_
        exact TO.up1 3 0 rfl rfl (by rw [hb7]; rfl) rfl
    refine TO.s rfl rfl rfl (StepS.assign rfl) ?_
    refine TO.code ?_
    cases hm
    refine TC.ret fun a w e s => ?_
    refine FRet.mk1 (P := Try.prog) (fn := Try.f10) (t := 6) e rfl rfl ?_
    exact ⟨rfl, s.mono fun _ => Sat.dropN 0⟩
  · replace hm := cond_f hc6 hm
    refine TC.skipk ?_
    refine TC.k ?_
    refine TC.region ?_
    refine TO.s rfl rfl rfl (StepS.move rfl) ?_
    refine TO.s rfl rfl rfl (StepS.cmp rfl rfl rfl) ?_
    refine TO.s rfl rfl rfl (StepS.move rfl) ?_
    obtain ⟨b9, hj10, hm⟩ := bind_some hm
    refine TO.mid1 6 38 (.bool b9) ?_ ?_
    · refine bcase ((r2 == 0)) (fun hb8 => ?_) (fun hb8 => ?_)
      · replace hj10 := cond_t hb8 hj10
        refine TO.sw rfl rfl rfl hb8 rfl rfl (StepS.move rfl) ?_
        refine TO.sw rfl rfl rfl hb8 rfl rfl (StepS.move rfl) ?_
        refine TO.sw rfl rfl rfl hb8 rfl rfl (StepS.move rfl) ?_
        obtain ⟨r11, hc12, hj10⟩ := bind_some hj10
        refine TO.qw rfl rfl rfl hb8 rfl rfl (StepQ.call kcallB_33_true rfl rfl (fun _ st => C33 e1 hc12 st)) ?_
        refine TO.sw rfl rfl rfl hb8 rfl rfl (StepS.eqB kunderlying_4_some_bool rfl rfl) ?_
        cases hj10
        refine TO.s rfl rfl rfl (StepS.pickT rfl hb8 rfl) ?_
        exact TO.up1 6 0 rfl rfl rfl rfl
      · replace hj10 := cond_f hb8 hj10
        cases hj10
        refine TO.skip rfl rfl rfl (skipF hb8) rfl rfl ?_
        refine TO.skip rfl rfl rfl (skipF hb8) rfl rfl ?_
        refine TO.skip rfl rfl rfl (skipF hb8) rfl rfl ?_
        refine TO.skip rfl rfl rfl (skipF hb8) rfl rfl ?_
        refine TO.skip rfl rfl rfl (skipF hb8) rfl rfl ?_
        refine TO.s rfl rfl rfl (StepS.pickF rfl hb8 rfl) ?_
        exact TO.up1 6 0 rfl rfl rfl rfl
    refine TO.s rfl rfl rfl (StepS.assign rfl) ?_
    refine TO.code ?_
    cases hm
    refine TC.ret fun a w e s => ?_
    refine FRet.mk1 (P := Try.prog) (fn := Try.f10) (t := 6) e rfl rfl ?_
    exact ⟨rfl, s.mono fun _ => Sat.dropN 0⟩

set_option maxRecDepth 100000 in
theorem C56 {B : World} {L : List HP} {a0 : List (BitVec 32)} {h0 : Value} {r0 : Bool} (e0 : Ent L (Rd 1 h0 (a0.map cU))) (hm : F56 a0 = some r0) {w : World} (st : St B L w) : Calls Try.prog 56 #[h0] w (fun e w' => (e = .returned (.bool r0) ∧ St B (L) w')) := by
  refine calls_of (N := 40) (L := L) (args := [h0]) Try.func56 rfl rfl rfl ?_ st
  dsimp only [F56] at hm
  refine TC.k ?_
  refine TC.region ?_
  refine TO.s rfl rfl rfl (StepS.assign rfl) ?_
  refine TO.code ?_
  refine TC.k ?_
  refine TC.k ?_
  refine TC.region ?_
  refine TO.s rfl rfl rfl (StepS.move rfl) ?_
  refine TO.s rfl rfl rfl (StepS.lenm rfl e0 ksliceB_34_35_1_true rfl) ?_
  refine TO.s rfl rfl rfl (StepS.move rfl) ?_
  refine TO.code ?_
  obtain ⟨o3, hw4, hm⟩ := bind_some hm
  refine TC.loop hw4 (fun x1 => fun a w => Mid 40 B [(0, h0), (7, h0), (8, I (a0.length : Int)), (9, I x1)] (L) a w) (fun _ => fun a w => Mid 40 B [] (L) a w) (fun r0 => FRet Try.prog Try.f56 (fun e w' => (e = .returned (.bool r0) ∧ St B (L) w'))) ?_ ?_ ?_ ?_
  · rintro x1 o3r hb5 a w ⟨he, hs⟩
    dsimp only [F56_L0] at hb5
    refine TC.use ?_ he hs
    refine TC.k ?_
    refine TC.region ?_
    refine TO.s rfl rfl rfl (StepS.cmp rfl rfl rfl) ?_
    refine TO.code ?_
    refine TC.k ?_
    refine TC.cond rfl (fun hc6 => ?_) (fun hc6 => ?_)
    · replace hb5 := cond_t hc6 hb5
      refine TC.skipk ?_
      refine TC.k ?_
      refine TC.block ?_
      refine TC.k ?_
      refine TC.region ?_
      refine TO.s rfl rfl rfl (StepS.move rfl) ?_
      obtain ⟨x7, hx8, hb5⟩ := bind_some hb5
      refine TO.s rfl rfl rfl (StepS.idx rfl rfl e0 ksliceB_34_35_1_true (idx_spec hx8).1 (idxm_lt hx8)) ?_
      refine TO.s rfl rfl rfl (StepS.ld0 rfl e0 kscalB_35_true rfl (idxm hx8) rfl) ?_
      refine TO.s rfl rfl rfl (StepS.assign rfl) ?_
      refine TO.s rfl rfl rfl (StepS.assign rfl) ?_
      refine TO.code ?_
      refine TC.k ?_
      refine TC.region ?_
      refine TO.s rfl rfl rfl (StepS.move rfl) ?_
      refine TO.s rfl rfl rfl (StepS.move rfl) ?_
      obtain ⟨y9, hs10, hb5⟩ := bind_some hb5
      obtain ⟨hs10a, hs10b, hs10c, _⟩ := slI_spec hs10
      refine TO.s rfl rfl rfl (StepS.slc rfl e0 ksliceB_34_35_1_true rfl rfl hs10a hs10b (by simpa using hs10c)) ?_
      refine TO.s rfl rfl rfl (StepS.lenm rfl (Ent.sub e0 hs10) ksliceB_34_35_1_true rfl) ?_
      refine TO.s rfl rfl rfl (StepS.move rfl) ?_
      refine TO.code ?_
      obtain ⟨o14, hw15, hb5⟩ := bind_some hb5
      refine TC.loop hw15 (fun x12 => fun a w => Mid 40 B [(0, h0), (4, U x7), (7, h0), (8, I (a0.length : Int)), (9, I x1), (16, (subv h0 0 x1 1)), (17, I (y9.length : Int)), (18, I x12)] (L) a w) (fun _ => fun a w => Mid 40 B [(0, h0), (7, h0), (8, I (a0.length : Int)), (9, I x1)] (L) a w) (fun r0 => FRet Try.prog Try.f56 (fun e w' => (e = .returned (.bool r0) ∧ St B (L) w'))) ?_ ?_ ?_ ?_
      · rintro x12 o14r hb16 a w ⟨he, hs⟩
        dsimp only [F56_L1] at hb16
        refine TC.use ?_ he hs
        refine TC.k ?_
        refine TC.region ?_
        refine TO.s rfl rfl rfl (StepS.cmp rfl rfl rfl) ?_
        refine TO.code ?_
        refine TC.k ?_
        refine TC.cond rfl (fun hc17 => ?_) (fun hc17 => ?_)
        · replace hb16 := cond_t hc17 hb16
          refine TC.skipk ?_
          refine TC.k ?_
          refine TC.block ?_
          refine TC.k ?_
          refine TC.region ?_
          obtain ⟨x18, hx19, hb16⟩ := bind_some hb16
          refine TO.s rfl rfl rfl (StepS.idx rfl rfl (Ent.sub e0 hs10) ksliceB_34_35_1_true (idx_spec hx19).1 (idxm_lt hx19)) ?_
          refine TO.s rfl rfl rfl (StepS.ld0 rfl (Ent.sub e0 hs10) kscalB_35_true rfl (idxm hx19) rfl) ?_
          refine TO.s rfl rfl rfl (StepS.assign rfl) ?_
          refine TO.code ?_
          refine TC.k ?_
          refine TC.region ?_
          refine TO.s rfl rfl rfl (StepS.move rfl) ?_
          refine TO.s rfl rfl rfl (StepS.move rfl) ?_
          refine TO.s rfl rfl rfl (StepS.bitU rfl rfl rfl) ?_
          refine TO.s rfl rfl rfl (StepS.cmpU (n := 0#32) rfl rfl rfl) ?_
          refine TO.s rfl rfl rfl (StepS.move rfl) ?_
          refine TO.mid1 5 31 (.bool (((x7 &&& x18) == (0#32)) || ((x7 &&& ~~~x18) == (0#32)))) ?_ ?_
          · refine bcase (((x7 &&& x18) == (0#32))) (fun hb20 => ?_) (fun hb20 => ?_)
            · refine TO.skip rfl rfl rfl (skipT hb20) rfl rfl ?_
              refine TO.skip rfl rfl rfl (skipT hb20) rfl rfl ?_
              refine TO.skip rfl rfl rfl (skipT hb20) rfl rfl ?_
              refine TO.skip rfl rfl rfl (skipT hb20) rfl rfl ?_
              refine TO.s rfl rfl rfl (StepS.pickT rfl hb20 rfl) ?_
              exact TO.up1 5 0 rfl rfl (by rw [hb20]; rfl) rfl
            · refine TO.sw rfl rfl rfl hb20 rfl rfl (StepS.move rfl) ?_
              refine TO.sw rfl rfl rfl hb20 rfl rfl (StepS.move rfl) ?_
              refine TO.sw rfl rfl rfl hb20 rfl rfl (StepS.bitU rfl rfl rfl) ?_
              refine TO.sw rfl rfl rfl hb20 rfl rfl (StepS.cmpU (n := 0#32) rfl rfl rfl) ?_
              refine TO.s rfl rfl rfl (StepS.pickF rfl hb20 rfl) ?_
              exact TO.up1 5 0 rfl rfl (by rw [hb20]; rfl) rfl
          refine TO.s rfl rfl rfl (StepS.move rfl) ?_
          refine TO.mid1 5 37 (.bool ((((x7 &&& x18) == (0#32)) || ((x7 &&& ~~~x18) == (0#32))) || ((x18 &&& ~~~x7) == (0#32)))) ?_ ?_
          · refine bcase ((((x7 &&& x18) == (0#32)) || ((x7 &&& ~~~x18) == (0#32)))) (fun hb21 => ?_) (fun hb21 => ?_)
            · refine TO.skip rfl rfl rfl (skipT hb21) rfl rfl ?_
              refine TO.skip rfl rfl rfl (skipT hb21) rfl rfl ?_
              refine TO.skip rfl rfl rfl (skipT hb21) rfl rfl ?_
              refine TO.skip rfl rfl rfl (skipT hb21) rfl rfl ?_
              refine TO.s rfl rfl rfl (StepS.pickT rfl hb21 rfl) ?_
              exact TO.up1 5 0 rfl rfl (by rw [hb21]; rfl) rfl
            · refine TO.sw rfl rfl rfl hb21 rfl rfl (StepS.move rfl) ?_
              refine TO.sw rfl rfl rfl hb21 rfl rfl (StepS.move rfl) ?_
              refine TO.sw rfl rfl rfl hb21 rfl rfl (StepS.bitU rfl rfl rfl) ?_
              refine TO.sw rfl rfl rfl hb21 rfl rfl (StepS.cmpU (n := 0#32) rfl rfl rfl) ?_
              refine TO.s rfl rfl rfl (StepS.pickF rfl hb21 rfl) ?_
              exact TO.up1 5 0 rfl rfl (by rw [hb21]; rfl) rfl
          refine TO.code ?_
          refine TC.cond rfl (fun hc22 => ?_) (fun hc22 => ?_)
          · replace hb16 := cond_t hc22 hb16
            refine TC.k ?_
            refine TC.region ?_
            refine TO.s rfl rfl rfl (StepS.assign rfl) ?_
            refine TO.code ?_
            cases hb16
            refine TC.ret fun a w e s => ?_
            refine FRet.mk1 (P := Try.prog) (fn := Try.f56) (t := 2) e rfl rfl ?_
            exact ⟨rfl, s.mono fun _ => Sat.dropN 0⟩
          · replace hb16 := cond_f hc22 hb16
            refine TC.skipk ?_
            refine TC.region ?_
            refine TO.s rfl rfl rfl (StepS.ari rfl rfl rfl) ?_
            refine TO.s rfl rfl rfl (StepS.move rfl) ?_
            cases hb16
            refine TO.nil fun a w e s => ?_
            exact ⟨e.sub (lk_of_allIn ⟨rfl, rfl, rfl, rfl, rfl, rfl, rfl, rfl, trivial⟩), s⟩
        · replace hb16 := cond_f hc17 hb16
          cases hb16
          refine TC.exit rfl fun a w e s => ?_
          exact ⟨e.sub (lk_of_allIn ⟨rfl, rfl, rfl, rfl, trivial⟩), s⟩
      · exact fun a w e s => ⟨e.sub (lk_of_allIn ⟨rfl, rfl, rfl, rfl, rfl, rfl, rfl, rfl, trivial⟩), s⟩
      · rintro _ rfl a w ⟨he, hs⟩
        dsimp only [Ctl.on] at hb5
        refine TC.use ?_ he hs
        refine TC.region ?_
        refine TO.s rfl rfl rfl (StepS.ari rfl rfl rfl) ?_
        refine TO.s rfl rfl rfl (StepS.move rfl) ?_
        cases hb5
        refine TO.nil fun a w e s => ?_
        exact ⟨e.sub (lk_of_allIn ⟨rfl, rfl, rfl, rfl, trivial⟩), s⟩
      · rintro r rfl
        cases hb5
        exact fun a w h => h
    · replace hb5 := cond_f hc6 hb5
      cases hb5
      refine TC.exit rfl fun a w e s => ?_
      exact ⟨e.sub (lk_of_allIn trivial), s⟩
  · exact fun a w e s => ⟨e.sub (lk_of_allIn ⟨rfl, rfl, rfl, rfl, trivial⟩), s⟩
  · rintro _ rfl a w ⟨he, hs⟩
    dsimp only [Ctl.on] at hm
    refine TC.use ?_ he hs
    refine TC.k ?_
    refine TC.region ?_
    refine TO.s rfl rfl rfl (StepS.assign rfl) ?_
    refine TO.code ?_
    cases hm
    refine TC.ret fun a w e s => ?_
    refine FRet.mk1 (P := Try.prog) (fn := Try.f56) (t := 2) e rfl rfl ?_
    exact ⟨rfl, s.mono fun _ => Sat.dropN 0⟩
  · rintro r rfl
    cases hm
    exact fun a w h => h

set_option maxRecDepth 100000 in
theorem C34 {B : World} {L : List HP} {a0 : Int} {a1 : List (BitVec 32)} {h1 : Value} {r0 : Bool} {r1 : Int} (e1 : Ent L (Rd 1 h1 (a1.map cU))) (hm : F34 a0 a1 = some (r0, r1)) {w : World} (st : St B L w) : Calls Try.prog 34 #[I a0, h1] w (fun e w' => (e = .returned (.tuple #[.bool r0, I r1]) ∧ St B (L) w')) := by
  refine calls_of (N := 15) (L := L) (args := [I a0, h1]) Try.func34 rfl rfl rfl ?_ st
  dsimp only [F34] at hm
  refine TC.k ?_
  refine TC.region ?_
  refine TO.s rfl rfl rfl (StepS.assign rfl) ?_
  refine TO.s rfl rfl rfl (StepS.assign rfl) ?_
  refine TO.code ?_
  refine TC.k ?_
  refine TC.k ?_
  refine TC.region ?_
  refine TO.s rfl rfl rfl (StepS.move rfl) ?_
  refine TO.s rfl rfl rfl (StepS.move rfl) ?_
  obtain ⟨r1, hc2, hm⟩ := bind_some hm
  refine TO.q rfl rfl rfl (StepQ.call kcallB_54_true rfl rfl (fun _ st => C54 e1 hc2 st)) ?_
  refine TO.s rfl rfl rfl (StepS.assign rfl) ?_
  refine TO.code ?_
  refine TC.k ?_
  refine TC.region ?_
  refine TO.s rfl rfl rfl (StepS.move rfl) ?_
  refine TO.s rfl rfl rfl (StepS.cmp rfl rfl rfl) ?_
  refine TO.code ?_
  refine TC.cond rfl (fun hc3 => ?_) (fun hc3 => ?_)
  · replace hm := cond_t hc3 hm
    refine TC.k ?_
    refine TC.region ?_
    refine TO.s rfl rfl rfl (StepS.move rfl) ?_
    refine TO.s rfl rfl rfl (StepS.assign rfl) ?_
    refine TO.s rfl rfl rfl (StepS.assign rfl) ?_
    refine TO.code ?_
    cases hm
    refine TC.ret fun a w e s => ?_
    refine FRet.mk2 (P := Try.prog) (fn := Try.f34) (t := 4) (u := 5) e rfl rfl rfl ?_
    exact ⟨rfl, s.mono fun _ => Sat.dropN 0⟩
  · replace hm := cond_f hc3 hm
    refine TC.skipk ?_
    refine TC.k ?_
    refine TC.region ?_
    refine TO.s rfl rfl rfl (StepS.move rfl) ?_
    obtain ⟨r4, hc5, hm⟩ := bind_some hm
    refine TO.q rfl rfl rfl (StepQ.call kcallB_56_true rfl rfl (fun _ st => C56 e1 hc5 st)) ?_
    refine TO.s rfl rfl rfl (StepS.assign rfl) ?_
    refine TO.s rfl rfl rfl (StepS.assign rfl) ?_
    refine TO.code ?_
    cases hm
    refine TC.ret fun a w e s => ?_
    refine FRet.mk2 (P := Try.prog) (fn := Try.f34) (t := 4) (u := 5) e rfl rfl rfl ?_
    exact ⟨rfl, s.mono fun _ => Sat.dropN 0⟩

set_option maxRecDepth 100000 in
theorem C35 {B : World} {L : List HP} {a0 : List (BitVec 32)} {h0 : Value} {r0 : Bool} (e0 : Ent L (Rd 1 h0 (a0.map cU))) (hm : F35 a0 = some r0) {w : World} (st : St B L w) : Calls Try.prog 35 #[h0] w (fun e w' => (e = .returned (.bool r0) ∧ St B (L) w')) := by
  refine calls_of (N := 48) (L := L) (args := [h0]) Try.func35 rfl rfl rfl ?_ st
  dsimp only [F35] at hm
  refine TC.k ?_
  refine TC.region ?_
  refine TO.s rfl rfl rfl (StepS.assign rfl) ?_
  refine TO.code ?_
  refine TC.k ?_
  refine TC.k ?_
  refine TC.region ?_
  refine TO.s rfl rfl rfl (StepS.assign rfl) ?_
  refine TO.code ?_
  obtain ⟨o3, hw4, hm⟩ := bind_some hm
  refine TC.loop hw4 (fun x1 => fun a w => Mid 48 B [(0, h0), (3, I x1)] (L) a w) (fun _ => fun a w => Mid 48 B [] (L) a w) (fun r0 => FRet Try.prog Try.f35 (fun e w' => (e = .returned (.bool r0) ∧ St B (L) w'))) ?_ ?_ ?_ ?_
  · rintro x1 o3r hb5 a w ⟨he, hs⟩
    dsimp only [F35_L0] at hb5
    refine TC.use ?_ he hs
    refine TC.k ?_
    refine TC.k ?_
    refine TC.region ?_
    refine TO.s rfl rfl rfl (StepS.move rfl) ?_
    refine TO.s rfl rfl rfl (StepS.move rfl) ?_
    refine TO.s rfl rfl rfl (StepS.lenm rfl e0 ksliceB_34_35_1_true rfl) ?_
    refine TO.s rfl rfl rfl (StepS.cmp rfl rfl rfl) ?_
    refine TO.code ?_
    refine TC.cond rfl (fun hc6 => ?_) (fun hc6 => ?_)
    · replace hb5 := cond_t hc6 hb5
      refine TC.skipk ?_
      refine TC.k ?_
      refine TC.block ?_
      refine TC.k ?_
      refine TC.region ?_
      refine TO.s rfl rfl rfl (StepS.assign rfl) ?_
      refine TO.code ?_
      obtain ⟨o9, hw10, hb5⟩ := bind_some hb5
      refine TC.loop hw10 (fun x7 => fun a w => Mid 48 B [(0, h0), (3, I x1), (4, I x7)] (L) a w) (fun _ => fun a w => Mid 48 B [(0, h0), (3, I x1)] (L) a w) (fun r0 => FRet Try.prog Try.f35 (fun e w' => (e = .returned (.bool r0) ∧ St B (L) w'))) ?_ ?_ ?_ ?_
      · rintro x7 o9r hb11 a w ⟨he, hs⟩
        dsimp only [F35_L1] at hb11
        refine TC.use ?_ he hs
        refine TC.k ?_
        refine TC.k ?_
        refine TC.region ?_
        refine TO.s rfl rfl rfl (StepS.move rfl) ?_
        refine TO.s rfl rfl rfl (StepS.move rfl) ?_
        refine TO.s rfl rfl rfl (StepS.lenm rfl e0 ksliceB_34_35_1_true rfl) ?_
        refine TO.s rfl rfl rfl (StepS.cmp rfl rfl rfl) ?_
        refine TO.code ?_
        refine TC.cond rfl (fun hc12 => ?_) (fun hc12 => ?_)
        · replace hb11 := cond_t hc12 hb11
          refine TC.skipk ?_
          refine TC.k ?_
          refine TC.block ?_
          refine TC.k ?_
          refine TC.region_still kfollows_mixedOrders_true (by kernel_rfl) ?_
          refine TS.s rfl rfl rfl (StepS.move rfl) ?_
          refine TS.s rfl rfl rfl (StepS.move rfl) ?_
          refine TS.s rfl rfl rfl (StepS.cmp rfl rfl rfl) ?_
          refine TS.s rfl rfl rfl (StepS.move rfl) ?_
          obtain ⟨b14, hj15, hb11⟩ := bind_some hb11
          refine TS.mid1 27 47 (.bool b14) ?_ ?_
          · refine bcase ((x1 != x7)) (fun hb13 => ?_) (fun hb13 => ?_)
            · replace hj15 := cond_t hb13 hj15
              refine TS.sw rfl rfl rfl hb13 rfl rfl (StepS.move rfl) ?_
              refine TS.sw rfl rfl rfl hb13 rfl rfl (StepS.move rfl) ?_
              obtain ⟨x16, hx17, hj15⟩ := bind_some hj15
              refine TS.sw rfl rfl rfl hb13 rfl rfl (StepS.idx rfl rfl e0 ksliceB_34_35_1_true (idx_spec hx17).1 (idxm_lt hx17)) ?_
              refine TS.sw rfl rfl rfl hb13 rfl rfl (StepS.ld0 rfl e0 kscalB_35_true rfl (idxm hx17) rfl) ?_
              refine TS.sw rfl rfl rfl hb13 rfl rfl (StepS.move rfl) ?_
              refine TS.sw rfl rfl rfl hb13 rfl rfl (StepS.move rfl) ?_
              obtain ⟨x18, hx19, hj15⟩ := bind_some hj15
              refine TS.sw rfl rfl rfl hb13 rfl rfl (StepS.idx rfl rfl e0 ksliceB_34_35_1_true (idx_spec hx19).1 (idxm_lt hx19)) ?_
              refine TS.sw rfl rfl rfl hb13 rfl rfl (StepS.ld0 rfl e0 kscalB_35_true rfl (idxm hx19) rfl) ?_
              refine TS.sw rfl rfl rfl hb13 rfl rfl (StepS.bitU rfl rfl rfl) ?_
              refine TS.sw rfl rfl rfl hb13 rfl rfl (StepS.cmpU (n := 0#32) rfl rfl rfl) ?_
              refine TS.sw rfl rfl rfl hb13 rfl rfl (StepS.move rfl) ?_
              obtain ⟨b21, hj22, hj15⟩ := bind_some hj15
              refine TS.mid1 15 46 (.bool b21) ?_ ?_
              · refine bcase (((x16 &&& x18) == (0#32))) (fun hb20 => ?_) (fun hb20 => ?_)
                · replace hj22 := cond_t hb20 hj22
                  cases hj22
                  refine TS.skip rfl rfl rfl (skipT hb20) rfl rfl ?_
                  refine TS.skip rfl rfl rfl (skipT hb20) rfl rfl ?_
                  refine TS.skip rfl rfl rfl (skipT hb20) rfl rfl ?_
                  refine TS.skip rfl rfl rfl (skipT hb20) rfl rfl ?_
                  refine TS.skip rfl rfl rfl (skipT hb20) rfl rfl ?_
                  refine TS.skip rfl rfl rfl (skipT hb20) rfl rfl ?_
                  refine TS.skip rfl rfl rfl (skipT hb20) rfl rfl ?_
                  refine TS.skip rfl rfl rfl (skipT hb20) rfl rfl ?_
                  refine TS.skip rfl rfl rfl (skipT hb20) rfl rfl ?_
                  refine TS.skip rfl rfl rfl (skipT hb20) rfl rfl ?_
                  refine TS.skip rfl rfl rfl (skipT hb20) rfl rfl ?_
                  refine TS.skip rfl rfl rfl (skipT hb20) rfl rfl ?_
                  refine TS.skip rfl rfl rfl (skipT hb20) rfl rfl ?_
                  refine TS.skip rfl rfl rfl (skipT hb20) rfl rfl ?_
                  refine TS.sw rfl rfl rfl hb13 rfl rfl (StepS.pickT rfl hb20 rfl) ?_
                  exact TS.up1 15 0 rfl rfl rfl rfl
                · replace hj22 := cond_f hb20 hj22
                  refine TS.sw rfl rfl rfl hb20 rfl rfl (StepS.move rfl) ?_
                  refine TS.sw rfl rfl rfl hb20 rfl rfl (StepS.move rfl) ?_
                  obtain ⟨x23, hx24, hj22⟩ := bind_some hj22
                  refine TS.sw rfl rfl rfl hb20 rfl rfl (StepS.idx rfl rfl e0 ksliceB_34_35_1_true (idx_spec hx24).1 (idxm_lt hx24)) ?_
                  refine TS.sw rfl rfl rfl hb20 rfl rfl (StepS.ld0 rfl e0 kscalB_35_true rfl (idxm hx24) rfl) ?_
                  refine TS.sw rfl rfl rfl hb20 rfl rfl (StepS.move rfl) ?_
                  refine TS.sw rfl rfl rfl hb20 rfl rfl (StepS.move rfl) ?_
                  obtain ⟨x25, hx26, hj22⟩ := bind_some hj22
                  refine TS.sw rfl rfl rfl hb20 rfl rfl (StepS.idx rfl rfl e0 ksliceB_34_35_1_true (idx_spec hx26).1 (idxm_lt hx26)) ?_
                  refine TS.sw rfl rfl rfl hb20 rfl rfl (StepS.ld0 rfl e0 kscalB_35_true rfl (idxm hx26) rfl) ?_
                  refine TS.sw rfl rfl rfl hb20 rfl rfl (StepS.bitU rfl rfl rfl) ?_
                  refine TS.sw rfl rfl rfl hb20 rfl rfl (StepS.move rfl) ?_
                  refine TS.sw rfl rfl rfl hb20 rfl rfl (StepS.move rfl) ?_
                  obtain ⟨x27, hx28, hj22⟩ := bind_some hj22
                  refine TS.sw rfl rfl rfl hb20 rfl rfl (StepS.idx rfl rfl e0 ksliceB_34_35_1_true (idx_spec hx28).1 (idxm_lt hx28)) ?_
                  refine TS.sw rfl rfl rfl hb20 rfl rfl (StepS.ld0 rfl e0 kscalB_35_true rfl (idxm hx28) rfl) ?_
                  refine TS.sw rfl rfl rfl hb20 rfl rfl (StepS.cmpU rfl rfl rfl) ?_
                  cases hj22
                  refine TS.sw rfl rfl rfl hb13 rfl rfl (StepS.pickF rfl hb20 rfl) ?_
                  exact TS.up1 15 0 rfl rfl rfl rfl
              cases hj15
              refine TS.s rfl rfl rfl (StepS.pickT rfl hb13 rfl) ?_
              exact TS.up1 13 0 rfl rfl rfl rfl
            · replace hj15 := cond_f hb13 hj15
              cases hj15
              refine TS.skip rfl rfl rfl (skipF hb13) rfl rfl ?_
              refine TS.skip rfl rfl rfl (skipF hb13) rfl rfl ?_
              refine TS.skip rfl rfl rfl (skipF hb13) rfl rfl ?_
              refine TS.skip rfl rfl rfl (skipF hb13) rfl rfl ?_
              refine TS.skip rfl rfl rfl (skipF hb13) rfl rfl ?_
              refine TS.skip rfl rfl rfl (skipF hb13) rfl rfl ?_
              refine TS.skip rfl rfl rfl (skipF hb13) rfl rfl ?_
              refine TS.skip rfl rfl rfl (skipF hb13) rfl rfl ?_
              refine TS.skip rfl rfl rfl (skipF hb13) rfl rfl ?_
              refine TS.skip rfl rfl rfl (skipF hb13) rfl rfl ?_
              refine TS.skip rfl rfl rfl (skipF hb13) rfl rfl ?_
              refine TS.skip rfl rfl rfl skipU rfl rfl ?_
              refine TS.skip rfl rfl rfl skipU rfl rfl ?_
              refine TS.skip rfl rfl rfl skipU rfl rfl ?_
              refine TS.skip rfl rfl rfl skipU rfl rfl ?_
              refine TS.skip rfl rfl rfl skipU rfl rfl ?_
              refine TS.skip rfl rfl rfl skipU rfl rfl ?_
              refine TS.skip rfl rfl rfl skipU rfl rfl ?_
              refine TS.skip rfl rfl rfl skipU rfl rfl ?_
              refine TS.skip rfl rfl rfl skipU rfl rfl ?_
              refine TS.skip rfl rfl rfl skipU rfl rfl ?_
              refine TS.skip rfl rfl rfl skipU rfl rfl ?_
              refine TS.skip rfl rfl rfl skipU rfl rfl ?_
              refine TS.skip rfl rfl rfl skipU rfl rfl ?_
              refine TS.skip rfl rfl rfl skipU rfl rfl ?_
              refine TS.skip rfl rfl rfl (skipF hb13) rfl rfl ?_
              refine TS.s rfl rfl rfl (StepS.pickF rfl hb13 rfl) ?_
              exact TS.up1 27 0 rfl rfl rfl rfl
          refine TS.code ?_
          refine TC.cond rfl (fun hc29 => ?_) (fun hc29 => ?_)
          · replace hb11 := cond_t hc29 hb11
            refine TC.k ?_
            refine TC.region ?_
            refine TO.s rfl rfl rfl (StepS.assign rfl) ?_
            refine TO.code ?_
            cases hb11
            refine TC.ret fun a w e s => ?_
            refine FRet.mk1 (P := Try.prog) (fn := Try.f35) (t := 2) e rfl rfl ?_
            exact ⟨rfl, s.mono fun _ => Sat.dropN 0⟩
          · replace hb11 := cond_f hc29 hb11
            refine TC.skipk ?_
            refine TC.region ?_
            refine TO.s rfl rfl rfl (StepS.move rfl) ?_
            refine TO.s rfl rfl rfl (StepS.ari rfl rfl rfl) ?_
            refine TO.s rfl rfl rfl (StepS.assign rfl) ?_
            cases hb11
            refine TO.nil fun a w e s => ?_
            exact ⟨e.sub (lk_of_allIn ⟨rfl, rfl, rfl, trivial⟩), s⟩
        · replace hb11 := cond_f hc12 hb11
          cases hb11
          refine TC.exit rfl fun a w e s => ?_
          exact ⟨e.sub (lk_of_allIn ⟨rfl, rfl, trivial⟩), s⟩
      · exact fun a w e s => ⟨e.sub (lk_of_allIn ⟨rfl, rfl, rfl, trivial⟩), s⟩
      · rintro _ rfl a w ⟨he, hs⟩
        dsimp only [Ctl.on] at hb5
        refine TC.use ?_ he hs
        refine TC.region ?_
        refine TO.s rfl rfl rfl (StepS.move rfl) ?_
        refine TO.s rfl rfl rfl (StepS.ari rfl rfl rfl) ?_
        refine TO.s rfl rfl rfl (StepS.assign rfl) ?_
        cases hb5
        refine TO.nil fun a w e s => ?_
        exact ⟨e.sub (lk_of_allIn ⟨rfl, rfl, trivial⟩), s⟩
      · rintro r rfl
        cases hb5
        exact fun a w h => h
    · replace hb5 := cond_f hc6 hb5
      cases hb5
      refine TC.exit rfl fun a w e s => ?_
      exact ⟨e.sub (lk_of_allIn trivial), s⟩
  · exact fun a w e s => ⟨e.sub (lk_of_allIn ⟨rfl, rfl, trivial⟩), s⟩
  · rintro _ rfl a w ⟨he, hs⟩
    dsimp only [Ctl.on] at hm
    refine TC.use ?_ he hs
    refine TC.k ?_
    refine TC.region ?_
    refine TO.s rfl rfl rfl (StepS.assign rfl) ?_
    refine TO.code ?_
    cases hm
    refine TC.ret fun a w e s => ?_
    refine FRet.mk1 (P := Try.prog) (fn := Try.f35) (t := 2) e rfl rfl ?_
    exact ⟨rfl, s.mono fun _ => Sat.dropN 0⟩
  · rintro r rfl
    cases hm
    exact fun a w h => h

set_option maxRecDepth 100000 in
theorem C11 {B : World} {L : List HP} {a0 : Int} {a1 : List (BitVec 32)} {h1 : Value} {r0 : Bool} (e1 : Ent L (Rd 1 h1 (a1.map cU))) (hm : F11 a0 a1 = some r0) {w : World} (st : St B L w) : Calls Try.prog 11 #[I a0, h1] w (fun e w' => (e = .returned (.bool r0) ∧ St B (L) w')) := by
  refine calls_of (N := 34) (L := L) (args := [I a0, h1]) Try.func11 rfl rfl rfl ?_ st
  dsimp only [F11] at hm
  refine TC.k ?_
  refine TC.region ?_
  refine TO.s rfl rfl rfl (StepS.assign rfl) ?_
  refine TO.code ?_
  refine TC.k ?_
  refine TC.region ?_
  refine TO.s rfl rfl rfl (StepS.move rfl) ?_
  refine TO.s rfl rfl rfl (StepS.move rfl) ?_
  obtain ⟨⟨r1, r2⟩, hc3, hm⟩ := bind_some hm
  refine TO.q rfl rfl rfl (StepQ.call kcallB_34_true rfl rfl (fun _ st => C34 e1 hc3 st)) ?_
  refine TO.s rfl rfl rfl (StepS.move rfl) ?_
  refine TO.s rfl rfl rfl (StepS.extract rfl rfl) ?_
  refine TO.s rfl rfl rfl (StepS.extract rfl rfl) ?_
  refine TO.s rfl rfl rfl (StepS.assign rfl) ?_
  refine TO.s rfl rfl rfl (StepS.assign rfl) ?_
  refine TO.code ?_
  refine TC.k ?_
  refine TC.region ?_
  refine TO.s rfl rfl rfl (StepS.move rfl) ?_
  refine TO.s rfl rfl rfl (StepS.move rfl) ?_
  obtain ⟨r4, hc5, hm⟩ := bind_some hm
  refine TO.q rfl rfl rfl (StepQ.call kcallB_32_true rfl rfl (fun _ st => C32 e1 hc5 st)) ?_
  refine TO.s rfl rfl rfl (StepS.assign rfl) ?_
  refine TO.code ?_
  refine TC.k ?_
  refine TC.k ?_
  refine TC.region ?_
  refine TO.s rfl rfl rfl (StepS.move rfl) ?_
  refine TO.s rfl rfl rfl (StepS.cmp rfl rfl rfl) ?_
  refine TO.code ?_
  refine TC.cond rfl (fun hc6 => ?_) (fun hc6 => ?_)
  · replace hm := cond_t hc6 hm
    refine TC.k ?_
    refine TC.region ?_
    refine TO.s rfl rfl rfl (StepS.move rfl) ?_
    refine TO.s rfl rfl rfl (StepS.move rfl) ?_
    refine TO.s rfl rfl rfl (StepS.cmp rfl rfl rfl) ?_
    refine TO.s rfl rfl rfl (StepS.move rfl) ?_
    refine TO.mid1 3 25 (.bool ((r2 == r4) && (!r1))) ?_ ?_
    · refine bcase ((r2 == r4)) (fun hb7 => ?_) (fun hb7 => ?_)
      · refine TO.sw rfl rfl rfl hb7 rfl rfl (StepS.move rfl) ?_
        refine TO.sw rfl rfl rfl hb7 rfl rfl (StepS.not rfl) ?_
        refine TO.s rfl rfl rfl (StepS.pickT rfl hb7 rfl) ?_
        exact TO.up1 3 0 rfl rfl (by rw [hb7]; rfl) rfl
      · refine TO.skip rfl rfl rfl (skipF hb7) rfl rfl ?_
        refine TO.skip rfl rfl rfl (skipF hb7) rfl rfl ?_
        refine TO.s rfl rfl rfl (StepS.pickF rfl hb7 rfl) ?_
        exact TO.up1 3 0 rfl rfl (by rw [hb7]; rfl) rfl
    refine TO.s rfl rfl rfl (StepS.assign rfl) ?_
    refine TO.code ?_
    cases hm
    refine TC.ret fun a w e s => ?_
    refine FRet.mk1 (P := Try.prog) (fn := Try.f11) (t := 4) e rfl rfl ?_
    exact ⟨rfl, s.mono fun _ => Sat.dropN 0⟩
  · replace hm := cond_f hc6 hm
    refine TC.skipk ?_
    refine TC.k ?_
    refine TC.region ?_
    refine TO.s rfl rfl rfl (StepS.move rfl) ?_
    refine TO.s rfl rfl rfl (StepS.cmp rfl rfl rfl) ?_
    refine TO.s rfl rfl rfl (StepS.move rfl) ?_
    obtain ⟨b9, hj10, hm⟩ := bind_some hm
    refine TO.mid1 5 33 (.bool b9) ?_ ?_
    · refine bcase ((r2 == 0)) (fun hb8 => ?_) (fun hb8 => ?_)
      · replace hj10 := cond_t hb8 hj10
        refine TO.sw rfl rfl rfl hb8 rfl rfl (StepS.move rfl) ?_
        refine TO.sw rfl rfl rfl hb8 rfl rfl (StepS.move rfl) ?_
        obtain ⟨r11, hc12, hj10⟩ := bind_some hj10
        refine TO.qw rfl rfl rfl hb8 rfl rfl (StepQ.call kcallB_35_true rfl rfl (fun _ st => C35 e1 hc12 st)) ?_
        refine TO.sw rfl rfl rfl hb8 rfl rfl (StepS.eqB kunderlying_4_some_bool rfl rfl) ?_
        cases hj10
        refine TO.s rfl rfl rfl (StepS.pickT rfl hb8 rfl) ?_
        exact TO.up1 5 0 rfl rfl rfl rfl
      · replace hj10 := cond_f hb8 hj10
        cases hj10
        refine TO.skip rfl rfl rfl (skipF hb8) rfl rfl ?_
        refine TO.skip rfl rfl rfl (skipF hb8) rfl rfl ?_
        refine TO.skip rfl rfl rfl (skipF hb8) rfl rfl ?_
        refine TO.skip rfl rfl rfl (skipF hb8) rfl rfl ?_
        refine TO.s rfl rfl rfl (StepS.pickF rfl hb8 rfl) ?_
        exact TO.up1 5 0 rfl rfl rfl rfl
    refine TO.s rfl rfl rfl (StepS.assign rfl) ?_
    refine TO.code ?_
    cases hm
    refine TC.ret fun a w e s => ?_
    refine FRet.mk1 (P := Try.prog) (fn := Try.f11) (t := 4) e rfl rfl ?_
    exact ⟨rfl, s.mono fun _ => Sat.dropN 0⟩

set_option maxRecDepth 100000 in
theorem C52 {B : World} {L : List HP} {a0 : List (BitVec 32)} {h0 : Value} {r0 : Int} (e0 : Ent L (Rd 1 h0 (a0.map cU))) (hm : F52 a0 = some r0) {w : World} (st : St B L w) : Calls Try.prog 52 #[h0] w (fun e w' => (e = .returned (I r0) ∧ St B (L) w')) := by
  refine calls_of (N := 25) (L := L) (args := [h0]) Try.func52 rfl rfl rfl ?_ st
  dsimp only [F52] at hm
  refine TC.k ?_
  refine TC.region ?_
  refine TO.s rfl rfl rfl (StepS.assign rfl) ?_
  refine TO.code ?_
  refine TC.k ?_
  refine TC.k ?_
  refine TC.region ?_
  refine TO.s rfl rfl rfl (StepS.move rfl) ?_
  refine TO.s rfl rfl rfl (StepS.lenm rfl e0 ksliceB_34_35_1_true rfl) ?_
  refine TO.s rfl rfl rfl (StepS.cmp rfl rfl rfl) ?_
  refine TO.s rfl rfl rfl (StepS.move rfl) ?_
  refine TO.mid1 4 12 (.bool ((decide ((a0.length : Int) < 1)) || (decide ((a0.length : Int) > 6)))) ?_ ?_
  · refine bcase ((decide ((a0.length : Int) < 1))) (fun hb1 => ?_) (fun hb1 => ?_)
    · refine TO.skip rfl rfl rfl (skipT hb1) rfl rfl ?_
      refine TO.skip rfl rfl rfl (skipT hb1) rfl rfl ?_
      refine TO.skip rfl rfl rfl (skipT hb1) rfl rfl ?_
      refine TO.s rfl rfl rfl (StepS.pickT rfl hb1 rfl) ?_
      exact TO.up1 4 0 rfl rfl (by rw [hb1]; rfl) rfl
    · refine TO.sw rfl rfl rfl hb1 rfl rfl (StepS.move rfl) ?_
      refine TO.sw rfl rfl rfl hb1 rfl rfl (StepS.lenm rfl e0 ksliceB_34_35_1_true rfl) ?_
      refine TO.sw rfl rfl rfl hb1 rfl rfl (StepS.cmp rfl rfl rfl) ?_
      refine TO.s rfl rfl rfl (StepS.pickF rfl hb1 rfl) ?_
      exact TO.up1 4 0 rfl rfl (by rw [hb1]; rfl) rfl
  refine TO.code ?_
  refine TC.cond rfl (fun hc2 => ?_) (fun hc2 => ?_)
  · replace hm := cond_t hc2 hm
    refine TC.k ?_
    refine TC.region ?_
    refine TO.s rfl rfl rfl (StepS.assign rfl) ?_
    refine TO.code ?_
    cases hm
    refine TC.ret fun a w e s => ?_
    refine FRet.mk1 (P := Try.prog) (fn := Try.f52) (t := 2) e rfl rfl ?_
    exact ⟨rfl, s.mono fun _ => Sat.dropN 0⟩
  · replace hm := cond_f hc2 hm
    refine TC.skipk ?_
    refine TC.k ?_
    refine TC.k ?_
    refine TC.region ?_
    refine TO.s rfl rfl rfl (StepS.move rfl) ?_
    refine TO.s rfl rfl rfl (StepS.lenm rfl e0 ksliceB_34_35_1_true rfl) ?_
    refine TO.s rfl rfl rfl (StepS.move rfl) ?_
    refine TO.code ?_
    obtain ⟨o5, hw6, hm⟩ := bind_some hm
    refine TC.loop hw6 (fun x3 => fun a w => Mid 25 B [(0, h0), (13, h0), (14, I (a0.length : Int)), (15, I x3)] (L) a w) (fun _ => fun a w => Mid 25 B [] (L) a w) (fun r0 => FRet Try.prog Try.f52 (fun e w' => (e = .returned (I r0) ∧ St B (L) w'))) ?_ ?_ ?_ ?_
    · rintro x3 o5r hb7 a w ⟨he, hs⟩
      dsimp only [F52_L0] at hb7
      refine TC.use ?_ he hs
      refine TC.k ?_
      refine TC.region ?_
      refine TO.s rfl rfl rfl (StepS.cmp rfl rfl rfl) ?_
      refine TO.code ?_
      refine TC.k ?_
      refine TC.cond rfl (fun hc8 => ?_) (fun hc8 => ?_)
      · replace hb7 := cond_t hc8 hb7
        refine TC.skipk ?_
        refine TC.k ?_
        refine TC.block ?_
        refine TC.k ?_
        refine TC.region ?_
        obtain ⟨x9, hx10, hb7⟩ := bind_some hb7
        refine TO.s rfl rfl rfl (StepS.idx rfl rfl e0 ksliceB_34_35_1_true (idx_spec hx10).1 (idxm_lt hx10)) ?_
        refine TO.s rfl rfl rfl (StepS.ld0 rfl e0 kscalB_35_true rfl (idxm hx10) rfl) ?_
        refine TO.s rfl rfl rfl (StepS.assign rfl) ?_
        refine TO.code ?_
        refine TC.k ?_
        refine TC.region ?_
        refine TO.s rfl rfl rfl (StepS.move rfl) ?_
        refine TO.s rfl rfl rfl (StepS.move rfl) ?_
        refine TO.s rfl rfl rfl (StepS.lenm rfl e0 ksliceB_34_35_1_true rfl) ?_
        obtain ⟨k11, hk12, hb7⟩ := bind_some hb7
        refine TO.s rfl rfl rfl (StepS.shrk rfl rfl hk12) ?_
        refine TO.s rfl rfl rfl (StepS.cmpU (n := 0#32) rfl rfl rfl) ?_
        refine TO.code ?_
        refine TC.cond rfl (fun hc13 => ?_) (fun hc13 => ?_)
        · replace hb7 := cond_t hc13 hb7
          refine TC.k ?_
          refine TC.region ?_
          refine TO.s rfl rfl rfl (StepS.assign rfl) ?_
          refine TO.code ?_
          cases hb7
          refine TC.ret fun a w e s => ?_
          refine FRet.mk1 (P := Try.prog) (fn := Try.f52) (t := 2) e rfl rfl ?_
          exact ⟨rfl, s.mono fun _ => Sat.dropN 0⟩
        · replace hb7 := cond_f hc13 hb7
          refine TC.skipk ?_
          refine TC.region ?_
          refine TO.s rfl rfl rfl (StepS.ari rfl rfl rfl) ?_
          refine TO.s rfl rfl rfl (StepS.move rfl) ?_
          cases hb7
          refine TO.nil fun a w e s => ?_
          exact ⟨e.sub (lk_of_allIn ⟨rfl, rfl, rfl, rfl, trivial⟩), s⟩
      · replace hb7 := cond_f hc8 hb7
        cases hb7
        refine TC.exit rfl fun a w e s => ?_
        exact ⟨e.sub (lk_of_allIn trivial), s⟩
    · exact fun a w e s => ⟨e.sub (lk_of_allIn ⟨rfl, rfl, rfl, rfl, trivial⟩), s⟩
    · rintro _ rfl a w ⟨he, hs⟩
      dsimp only [Ctl.on] at hm
      refine TC.use ?_ he hs
      refine TC.k ?_
      refine TC.region ?_
      refine TO.s rfl rfl rfl (StepS.assign rfl) ?_
      refine TO.code ?_
      cases hm
      refine TC.ret fun a w e s => ?_
      refine FRet.mk1 (P := Try.prog) (fn := Try.f52) (t := 2) e rfl rfl ?_
      exact ⟨rfl, s.mono fun _ => Sat.dropN 0⟩
    · rintro r rfl
      cases hm
      exact fun a w h => h

set_option maxRecDepth 100000 in
theorem C49 {B : World} {L : List HP} {a0 : List (BitVec 32)} {a1 : ((BitVec 32) × BitVec 32) → Option Bool} {h0 : Value} {h1 : Value} {r0 : BitVec 32} {r1 : Int} (e0 : Ent L (Rd 1 h0 (a0.map cU))) (e1 : FOk Try.prog B L h1 (fun (z : (BitVec 32) × BitVec 32) => [U z.1, U z.2]) (fun (z : Bool) => .bool z) a1) (hm : F49 a0 a1 = some (r0, r1)) {w : World} (st : St B L w) : Calls Try.prog 49 #[h0, h1] w (fun e w' => (e = .returned (.tuple #[U r0, I r1]) ∧ St B (L) w')) := by
  refine calls_of (N := 46) (L := L) (args := [h0, h1]) Try.func49 rfl rfl rfl ?_ st
  dsimp only [F49] at hm
  refine TC.k ?_
  refine TC.region ?_
  refine TO.s rfl rfl rfl (StepS.assign rfl) ?_
  refine TO.s rfl rfl rfl (StepS.assign rfl) ?_
  refine TO.code ?_
  refine TC.k ?_
  refine TC.k ?_
  refine TC.region ?_
  refine TO.s rfl rfl rfl (StepS.move rfl) ?_
  obtain ⟨r1, hc2, hm⟩ := bind_some hm
  refine TO.q rfl rfl rfl (StepQ.call kcallB_52_true rfl rfl (fun _ st => C52 e0 hc2 st)) ?_
  refine TO.s rfl rfl rfl (StepS.assign rfl) ?_
  refine TO.code ?_
  refine TC.k ?_
  refine TC.region ?_
  refine TO.s rfl rfl rfl (StepS.move rfl) ?_
  refine TO.s rfl rfl rfl (StepS.cmp rfl rfl rfl) ?_
  refine TO.code ?_
  refine TC.cond rfl (fun hc3 => ?_) (fun hc3 => ?_)
  · replace hm := cond_t hc3 hm
    refine TC.k ?_
    refine TC.region ?_
    refine TO.s rfl rfl rfl (StepS.move rfl) ?_
    refine TO.s rfl rfl rfl (StepS.assign rfl) ?_
    refine TO.s rfl rfl rfl (StepS.assign rfl) ?_
    refine TO.code ?_
    cases hm
    refine TC.ret fun a w e s => ?_
    refine FRet.mk2 (P := Try.prog) (fn := Try.f49) (t := 4) (u := 5) e rfl rfl rfl ?_
    exact ⟨rfl, s.mono fun _ => Sat.dropN 0⟩
  · replace hm := cond_f hc3 hm
    refine TC.skipk ?_
    refine TC.k ?_
    refine TC.region ?_
    refine TO.s rfl rfl rfl (StepS.assign rfl) ?_
    refine TO.code ?_
    refine TC.k ?_
    refine TC.k ?_
    refine TC.region ?_
    refine TO.s rfl rfl rfl (StepS.move rfl) ?_
    refine TO.s rfl rfl rfl (StepS.lenm rfl e0 ksliceB_34_35_1_true rfl) ?_
    refine TO.s rfl rfl rfl (StepS.move rfl) ?_
    refine TO.code ?_
    obtain ⟨o9, hw10, hm⟩ := bind_some hm
    refine TC.loop hw10 (fun (x4, x5) => fun a w => Mid 46 B [(0, h0), (1, h1), (7, U x4), (16, I (a0.length : Int)), (17, I x5)] (L) a w) (fun x8 => fun a w => Mid 46 B [(0, h0), (7, U x8)] (L) a w) (fun (_ : Unit) _ _ => False) ?_ ?_ ?_ ?_
    · rintro ⟨x4, x5⟩ o9r hb11 a w ⟨he, hs⟩
      dsimp only [F49_L0] at hb11
      refine TC.use ?_ he hs
      refine TC.k ?_
      refine TC.region ?_
      refine TO.s rfl rfl rfl (StepS.cmp rfl rfl rfl) ?_
      refine TO.code ?_
      refine TC.k ?_
      refine TC.cond rfl (fun hc12 => ?_) (fun hc12 => ?_)
      · replace hb11 := cond_t hc12 hb11
        refine TC.skipk ?_
        refine TC.k ?_
        refine TC.block ?_
        refine TC.k ?_
        refine TC.region ?_
        refine TO.s rfl rfl rfl (StepS.move rfl) ?_
        refine TO.s rfl rfl rfl (StepS.lenm rfl e0 ksliceB_34_35_1_true rfl) ?_
        refine TO.s rfl rfl rfl (StepS.move rfl) ?_
        refine TO.code ?_
        obtain ⟨o18, hw19, hb11⟩ := bind_some hb11
        refine TC.loop hw19 (fun (x13, x14) => fun a w => Mid 46 B [(0, h0), (1, h1), (7, U x13), (16, I (a0.length : Int)), (17, I x5), (19, h0), (20, I (a0.length : Int)), (21, I x14)] (L) a w) (fun x17 => fun a w => Mid 46 B [(0, h0), (1, h1), (7, U x17), (16, I (a0.length : Int)), (17, I x5)] (L) a w) (fun (_ : Unit) _ _ => False) ?_ ?_ ?_ ?_
        · rintro ⟨x13, x14⟩ o18r hb20 a w ⟨he, hs⟩
          dsimp only [F49_L1] at hb20
          refine TC.use ?_ he hs
          refine TC.k ?_
          refine TC.region ?_
          refine TO.s rfl rfl rfl (StepS.cmp rfl rfl rfl) ?_
          refine TO.code ?_
          refine TC.k ?_
          refine TC.cond rfl (fun hc21 => ?_) (fun hc21 => ?_)
          · replace hb20 := cond_t hc21 hb20
            refine TC.skipk ?_
            refine TC.k ?_
            obtain ⟨x22, hj23, hb20⟩ := bind_some hb20
            refine TC.cutM (fun a w => Mid 46 B [(0, h0), (1, h1), (7, U x22), (16, I (a0.length : Int)), (17, I x5), (19, h0), (20, I (a0.length : Int)), (21, I x14)] (L) a w) ?_ ?_
            · refine TC.block ?_
              refine TC.k ?_
              refine TC.region ?_
              refine TO.s rfl rfl rfl (StepS.move rfl) ?_
              obtain ⟨x24, hx25, hj23⟩ := bind_some hj23
              refine TO.s rfl rfl rfl (StepS.idx rfl rfl e0 ksliceB_34_35_1_true (idx_spec hx25).1 (idxm_lt hx25)) ?_
              refine TO.s rfl rfl rfl (StepS.ld0 rfl e0 kscalB_35_true rfl (idxm hx25) rfl) ?_
              refine TO.s rfl rfl rfl (StepS.assign rfl) ?_
              refine TO.s rfl rfl rfl (StepS.assign rfl) ?_
              refine TO.code ?_
              refine TC.k ?_
              refine TC.region ?_
              refine TO.s rfl rfl rfl (StepS.move rfl) ?_
              refine TO.s rfl rfl rfl (StepS.cmpU (n := 0#32) rfl rfl rfl) ?_
              refine TO.s rfl rfl rfl (StepS.move rfl) ?_
              obtain ⟨b27, hj28, hj23⟩ := bind_some hj23
              refine TO.mid1 5 33 (.bool b27) ?_ ?_
              · refine bcase ((x24 == (0#32))) (fun hb26 => ?_) (fun hb26 => ?_)
                · replace hj28 := cond_t hb26 hj28
                  cases hj28
                  refine TO.skip rfl rfl rfl (skipT hb26) rfl rfl ?_
                  refine TO.skip rfl rfl rfl (skipT hb26) rfl rfl ?_
                  refine TO.skip rfl rfl rfl (skipT hb26) rfl rfl ?_
                  refine TO.skip rfl rfl rfl (skipT hb26) rfl rfl ?_
                  refine TO.s rfl rfl rfl (StepS.pickT rfl hb26 rfl) ?_
                  exact TO.up1 5 0 rfl rfl rfl rfl
                · replace hj28 := cond_f hb26 hj28
                  refine TO.sw rfl rfl rfl hb26 rfl rfl (StepS.move rfl) ?_
                  refine TO.sw rfl rfl rfl hb26 rfl rfl (StepS.move rfl) ?_
                  refine TO.sw rfl rfl rfl hb26 rfl rfl (StepS.move rfl) ?_
                  obtain ⟨r29, hc30, hj28⟩ := bind_some hj28
                  refine TO.qw rfl rfl rfl hb26 rfl rfl (StepQ.callF (x := (x24, x13)) e1 (Ext.rfl) rfl rfl hc30) ?_
                  cases hj28
                  refine TO.s rfl rfl rfl (StepS.pickF rfl hb26 rfl) ?_
                  exact TO.up1 5 0 rfl rfl rfl rfl
              refine TO.code ?_
              refine TC.cond rfl (fun hc31 => ?_) (fun hc31 => ?_)
              · replace hj23 := cond_t hc31 hj23
                refine TC.region ?_
                refine TO.s rfl rfl rfl (StepS.move rfl) ?_
                refine TO.s rfl rfl rfl (StepS.move rfl) ?_
                obtain ⟨k32, hk33, hj23⟩ := bind_some hj23
                refine TO.s rfl rfl rfl (StepS.shlk (m := 1#32) rfl rfl hk33) ?_
                refine TO.s rfl rfl rfl (StepS.bitU rfl rfl rfl) ?_
                refine TO.s rfl rfl rfl (StepS.assign rfl) ?_
                cases hj23
                refine TO.nil fun a w e s => ?_
                exact ⟨e.sub (lk_of_allIn ⟨rfl, rfl, rfl, rfl, rfl, rfl, rfl, rfl, trivial⟩), s⟩
              · replace hj23 := cond_f hc31 hj23
                cases hj23
                refine TC.skip fun a w e s => ?_
                exact ⟨e.sub (lk_of_allIn ⟨rfl, rfl, rfl, rfl, rfl, rfl, rfl, rfl, trivial⟩), s⟩
            · intro a w ⟨he, hs⟩
              refine TC.use ?_ he hs
              refine TC.region ?_
              refine TO.s rfl rfl rfl (StepS.ari rfl rfl rfl) ?_
              refine TO.s rfl rfl rfl (StepS.move rfl) ?_
              cases hb20
              refine TO.nil fun a w e s => ?_
              exact ⟨e.sub (lk_of_allIn ⟨rfl, rfl, rfl, rfl, rfl, rfl, rfl, rfl, trivial⟩), s⟩
          · replace hb20 := cond_f hc21 hb20
            cases hb20
            refine TC.exit rfl fun a w e s => ?_
            exact ⟨e.sub (lk_of_allIn ⟨rfl, rfl, rfl, rfl, rfl, trivial⟩), s⟩
        · exact fun a w e s => ⟨e.sub (lk_of_allIn ⟨rfl, rfl, rfl, rfl, rfl, rfl, rfl, rfl, trivial⟩), s⟩
        · rintro x17 rfl a w ⟨he, hs⟩
          dsimp only [Ctl.on] at hb11
          refine TC.use ?_ he hs
          refine TC.region ?_
          refine TO.s rfl rfl rfl (StepS.ari rfl rfl rfl) ?_
          refine TO.s rfl rfl rfl (StepS.move rfl) ?_
          cases hb11
          refine TO.nil fun a w e s => ?_
          exact ⟨e.sub (lk_of_allIn ⟨rfl, rfl, rfl, rfl, rfl, trivial⟩), s⟩
        · rintro r rfl
          exact fun a w h => h.elim
      · replace hb11 := cond_f hc12 hb11
        cases hb11
        refine TC.exit rfl fun a w e s => ?_
        exact ⟨e.sub (lk_of_allIn ⟨rfl, rfl, trivial⟩), s⟩
    · exact fun a w e s => ⟨e.sub (lk_of_allIn ⟨rfl, rfl, rfl, rfl, rfl, trivial⟩), s⟩
    · rintro x8 rfl a w ⟨he, hs⟩
      dsimp only [Ctl.on] at hm
      refine TC.use ?_ he hs
      refine TC.k ?_
      refine TC.region ?_
      refine TO.s rfl rfl rfl (StepS.move rfl) ?_
      refine TO.s rfl rfl rfl (StepS.lenm rfl e0 ksliceB_34_35_1_true rfl) ?_
      obtain ⟨k34, hk35, hm⟩ := bind_some hm
      refine TO.s rfl rfl rfl (StepS.shlk (m := 1#32) rfl rfl hk35) ?_
      refine TO.s rfl rfl rfl (StepS.bitU (n := 1#32) rfl rfl rfl) ?_
      refine TO.s rfl rfl rfl (StepS.move rfl) ?_
      refine TO.s rfl rfl rfl (StepS.bitU rfl rfl rfl) ?_
      refine TO.s rfl rfl rfl (StepS.assign rfl) ?_
      refine TO.s rfl rfl rfl (StepS.assign rfl) ?_
      refine TO.code ?_
      cases hm
      refine TC.ret fun a w e s => ?_
      refine FRet.mk2 (P := Try.prog) (fn := Try.f49) (t := 4) (u := 5) e rfl rfl rfl ?_
      exact ⟨rfl, s.mono fun _ => Sat.dropN 0⟩
    · rintro r rfl
      exact fun a w h => h.elim

set_option maxRecDepth 100000 in
theorem C50 {B : World} {L : List HP} {a0 : BitVec 32} {a1 : BitVec 32} {r0 : Bool} (hm : F50 a0 a1 = some r0) {w : World} (st : St B L w) : Calls Try.prog 50 #[U a0, U a1] w (fun e w' => (e = .returned (.bool r0) ∧ St B (L) w')) := by
  refine calls_of (N := 9) (L := L) (args := [U a0, U a1]) Try.func50 rfl rfl rfl ?_ st
  dsimp only [F50] at hm
  refine TC.k ?_
  refine TC.region ?_
  refine TO.s rfl rfl rfl (StepS.assign rfl) ?_
  refine TO.code ?_
  refine TC.k ?_
  refine TC.region ?_
  refine TO.s rfl rfl rfl (StepS.move rfl) ?_
  refine TO.s rfl rfl rfl (StepS.move rfl) ?_
  refine TO.s rfl rfl rfl (StepS.bitU rfl rfl rfl) ?_
  refine TO.s rfl rfl rfl (StepS.cmpU (n := 0#32) rfl rfl rfl) ?_
  refine TO.s rfl rfl rfl (StepS.assign rfl) ?_
  refine TO.code ?_
  cases hm
  refine TC.ret fun a w e s => ?_
  refine FRet.mk1 (P := Try.prog) (fn := Try.f50) (t := 4) e rfl rfl ?_
  exact ⟨rfl, s.mono fun _ => Sat.dropN 0⟩

set_option maxRecDepth 100000 in
theorem C22 {B : World} {L : List HP} {a0 : List (BitVec 32)} {h0 : Value} {r0 : BitVec 32} {r1 : Int} (e0 : Ent L (Rd 1 h0 (a0.map cU))) (hm : F22 a0 = some (r0, r1)) {w : World} (st : St B L w) : Calls Try.prog 22 #[h0] w (fun e w' => (e = .returned (.tuple #[U r0, I r1]) ∧ St B (L) w')) := by
  refine calls_of (N := 8) (L := L) (args := [h0]) Try.func22 rfl rfl rfl ?_ st
  dsimp only [F22] at hm
  refine TC.k ?_
  refine TC.region ?_
  refine TO.s rfl rfl rfl (StepS.assign rfl) ?_
  refine TO.s rfl rfl rfl (StepS.assign rfl) ?_
  refine TO.code ?_
  refine TC.k ?_
  refine TC.region ?_
  refine TO.s rfl rfl rfl (StepS.move rfl) ?_
  obtain ⟨⟨r1, r2⟩, hc3, hm⟩ := bind_some hm
  refine TO.q rfl rfl rfl (StepQ.call kcallB_49_true rfl rfl (fun _ st => C49 e0 ⟨50, #[], #[], rfl, kcallB_50_true, fun _ hx z r hm w st => C50  hm st⟩ hc3 st)) ?_
  refine TO.s rfl rfl rfl (StepS.extract rfl rfl) ?_
  refine TO.s rfl rfl rfl (StepS.extract rfl rfl) ?_
  refine TO.s rfl rfl rfl (StepS.assign rfl) ?_
  refine TO.s rfl rfl rfl (StepS.assign rfl) ?_
  refine TO.code ?_
  cases hm
  refine TC.ret fun a w e s => ?_
  refine FRet.mk2 (P := Try.prog) (fn := Try.f22) (t := 2) (u := 3) e rfl rfl rfl ?_
  exact ⟨rfl, s.mono fun _ => Sat.dropN 0⟩

set_option maxRecDepth 100000 in
theorem C23 {B : World} {L : List HP} {a0 : List (BitVec 32)} {h0 : Value} {r0 : Int} (e0 : Ent L (Rd 1 h0 (a0.map cU))) (hm : F23 a0 = some r0) {w : World} (st : St B L w) : Calls Try.prog 23 #[h0] w (fun e w' => (e = .returned (I r0) ∧ St B (L) w')) := by
  refine calls_of (N := 26) (L := L) (args := [h0]) Try.func23 rfl rfl rfl ?_ st
  dsimp only [F23] at hm
  refine TC.k ?_
  refine TC.region ?_
  refine TO.s rfl rfl rfl (StepS.assign rfl) ?_
  refine TO.code ?_
  refine TC.k ?_
  refine TC.k ?_
  refine TC.region ?_
  refine TO.s rfl rfl rfl (StepS.move rfl) ?_
  refine TO.s rfl rfl rfl (StepS.lenm rfl e0 ksliceB_34_35_1_true rfl) ?_
  refine TO.s rfl rfl rfl (StepS.cmp rfl rfl rfl) ?_
  refine TO.s rfl rfl rfl (StepS.move rfl) ?_
  refine TO.mid1 4 12 (.bool ((decide ((a0.length : Int) < 1)) || (decide ((a0.length : Int) > 6)))) ?_ ?_
  · refine bcase ((decide ((a0.length : Int) < 1))) (fun hb1 => ?_) (fun hb1 => ?_)
    · refine TO.skip rfl rfl rfl (skipT hb1) rfl rfl ?_
      refine TO.skip rfl rfl rfl (skipT hb1) rfl rfl ?_
      refine TO.skip rfl rfl rfl (skipT hb1) rfl rfl ?_
      refine TO.s rfl rfl rfl (StepS.pickT rfl hb1 rfl) ?_
      exact TO.up1 4 0 rfl rfl (by rw [hb1]; rfl) rfl
    · refine TO.sw rfl rfl rfl hb1 rfl rfl (StepS.move rfl) ?_
      refine TO.sw rfl rfl rfl hb1 rfl rfl (StepS.lenm rfl e0 ksliceB_34_35_1_true rfl) ?_
      refine TO.sw rfl rfl rfl hb1 rfl rfl (StepS.cmp rfl rfl rfl) ?_
      refine TO.s rfl rfl rfl (StepS.pickF rfl hb1 rfl) ?_
      exact TO.up1 4 0 rfl rfl (by rw [hb1]; rfl) rfl
  refine TO.code ?_
  refine TC.cond rfl (fun hc2 => ?_) (fun hc2 => ?_)
  · replace hm := cond_t hc2 hm
    refine TC.k ?_
    refine TC.region ?_
    refine TO.s rfl rfl rfl (StepS.assign rfl) ?_
    refine TO.code ?_
    cases hm
    refine TC.ret fun a w e s => ?_
    refine FRet.mk1 (P := Try.prog) (fn := Try.f23) (t := 2) e rfl rfl ?_
    exact ⟨rfl, s.mono fun _ => Sat.dropN 0⟩
  · replace hm := cond_f hc2 hm
    refine TC.skipk ?_
    refine TC.k ?_
    refine TC.k ?_
    refine TC.region ?_
    refine TO.s rfl rfl rfl (StepS.move rfl) ?_
    refine TO.s rfl rfl rfl (StepS.lenm rfl e0 ksliceB_34_35_1_true rfl) ?_
    refine TO.s rfl rfl rfl (StepS.move rfl) ?_
    refine TO.code ?_
    obtain ⟨o5, hw6, hm⟩ := bind_some hm
    refine TC.loop hw6 (fun x3 => fun a w => Mid 26 B [(0, h0), (13, h0), (14, I (a0.length : Int)), (15, I x3)] (L) a w) (fun _ => fun a w => Mid 26 B [] (L) a w) (fun r0 => FRet Try.prog Try.f23 (fun e w' => (e = .returned (I r0) ∧ St B (L) w'))) ?_ ?_ ?_ ?_
    · rintro x3 o5r hb7 a w ⟨he, hs⟩
      dsimp only [F23_L0] at hb7
      refine TC.use ?_ he hs
      refine TC.k ?_
      refine TC.region ?_
      refine TO.s rfl rfl rfl (StepS.cmp rfl rfl rfl) ?_
      refine TO.code ?_
      refine TC.k ?_
      refine TC.cond rfl (fun hc8 => ?_) (fun hc8 => ?_)
      · replace hb7 := cond_t hc8 hb7
        refine TC.skipk ?_
        refine TC.k ?_
        refine TC.block ?_
        refine TC.k ?_
        refine TC.region ?_
        obtain ⟨x9, hx10, hb7⟩ := bind_some hb7
        refine TO.s rfl rfl rfl (StepS.idx rfl rfl e0 ksliceB_34_35_1_true (idx_spec hx10).1 (idxm_lt hx10)) ?_
        refine TO.s rfl rfl rfl (StepS.ld0 rfl e0 kscalB_35_true rfl (idxm hx10) rfl) ?_
        refine TO.s rfl rfl rfl (StepS.assign rfl) ?_
        refine TO.code ?_
        refine TC.k ?_
        refine TC.region ?_
        refine TO.s rfl rfl rfl (StepS.move rfl) ?_
        refine TO.s rfl rfl rfl (StepS.move rfl) ?_
        refine TO.s rfl rfl rfl (StepS.lenm rfl e0 ksliceB_34_35_1_true rfl) ?_
        refine TO.s rfl rfl rfl (StepS.cvIV kintB_3_i64_true kintB_44_u64_true rfl) ?_
        refine TO.s rfl rfl rfl (StepS.shl (m := 1#32) rfl rfl (u64_nonneg _)) ?_
        refine TO.s rfl rfl rfl (StepS.cmpU rfl rfl rfl) ?_
        refine TO.code ?_
        refine TC.cond rfl (fun hc11 => ?_) (fun hc11 => ?_)
        · replace hb7 := cond_t hc11 hb7
          refine TC.k ?_
          refine TC.region ?_
          refine TO.s rfl rfl rfl (StepS.assign rfl) ?_
          refine TO.code ?_
          cases hb7
          refine TC.ret fun a w e s => ?_
          refine FRet.mk1 (P := Try.prog) (fn := Try.f23) (t := 2) e rfl rfl ?_
          exact ⟨rfl, s.mono fun _ => Sat.dropN 0⟩
        · replace hb7 := cond_f hc11 hb7
          refine TC.skipk ?_
          refine TC.region ?_
          refine TO.s rfl rfl rfl (StepS.ari rfl rfl rfl) ?_
          refine TO.s rfl rfl rfl (StepS.move rfl) ?_
          cases hb7
          refine TO.nil fun a w e s => ?_
          exact ⟨e.sub (lk_of_allIn ⟨rfl, rfl, rfl, rfl, trivial⟩), s⟩
      · replace hb7 := cond_f hc8 hb7
        cases hb7
        refine TC.exit rfl fun a w e s => ?_
        exact ⟨e.sub (lk_of_allIn trivial), s⟩
    · exact fun a w e s => ⟨e.sub (lk_of_allIn ⟨rfl, rfl, rfl, rfl, trivial⟩), s⟩
    · rintro _ rfl a w ⟨he, hs⟩
      dsimp only [Ctl.on] at hm
      refine TC.use ?_ he hs
      refine TC.k ?_
      refine TC.region ?_
      refine TO.s rfl rfl rfl (StepS.assign rfl) ?_
      refine TO.code ?_
      cases hm
      refine TC.ret fun a w e s => ?_
      refine FRet.mk1 (P := Try.prog) (fn := Try.f23) (t := 2) e rfl rfl ?_
      exact ⟨rfl, s.mono fun _ => Sat.dropN 0⟩
    · rintro r rfl
      cases hm
      exact fun a w h => h

set_option maxRecDepth 100000 in
theorem C29 {B : World} {L : List HP} {a0 : BitVec 32} {a1 : Int} {r0 : Bool} (hm : F29 a0 a1 = some r0) {w : World} (st : St B L w) : Calls Try.prog 29 #[U a0, I a1] w (fun e w' => (e = .returned (.bool r0) ∧ St B (L) w')) := by
  refine calls_of (N := 19) (L := L) (args := [U a0, I a1]) Try.func29 rfl rfl rfl ?_ st
  dsimp only [F29] at hm
  refine TC.k ?_
  refine TC.region ?_
  refine TO.s rfl rfl rfl (StepS.assign rfl) ?_
  refine TO.code ?_
  refine TC.k ?_
  refine TC.region ?_
  refine TO.s rfl rfl rfl (StepS.move rfl) ?_
  refine TO.s rfl rfl rfl (StepS.cmp rfl rfl rfl) ?_
  refine TO.s rfl rfl rfl (StepS.move rfl) ?_
  refine TO.mid1 3 10 (.bool ((decide (a1 ≥ 0)) && (decide (a1 < 32)))) ?_ ?_
  · refine bcase ((decide (a1 ≥ 0))) (fun hb1 => ?_) (fun hb1 => ?_)
    · refine TO.sw rfl rfl rfl hb1 rfl rfl (StepS.move rfl) ?_
      refine TO.sw rfl rfl rfl hb1 rfl rfl (StepS.cmp rfl rfl rfl) ?_
      refine TO.s rfl rfl rfl (StepS.pickT rfl hb1 rfl) ?_
      exact TO.up1 3 0 rfl rfl (by rw [hb1]; rfl) rfl
    · refine TO.skip rfl rfl rfl (skipF hb1) rfl rfl ?_
      refine TO.skip rfl rfl rfl (skipF hb1) rfl rfl ?_
      refine TO.s rfl rfl rfl (StepS.pickF rfl hb1 rfl) ?_
      exact TO.up1 3 0 rfl rfl (by rw [hb1]; rfl) rfl
  refine TO.s rfl rfl rfl (StepS.move rfl) ?_
  refine TO.mid1 7 18 (.bool (((decide (a1 ≥ 0)) && (decide (a1 < 32))) && ((a0 &&& ((1#32) <<< (u64 a1).toNat)) != (0#32)))) ?_ ?_
  · refine bcase (((decide (a1 ≥ 0)) && (decide (a1 < 32)))) (fun hb2 => ?_) (fun hb2 => ?_)
    · refine TO.sw rfl rfl rfl hb2 rfl rfl (StepS.move rfl) ?_
      refine TO.sw rfl rfl rfl hb2 rfl rfl (StepS.move rfl) ?_
      refine TO.sw rfl rfl rfl hb2 rfl rfl (StepS.cvIV kintB_3_i64_true kintB_44_u64_true rfl) ?_
      refine TO.sw rfl rfl rfl hb2 rfl rfl (StepS.shl (m := 1#32) rfl rfl (u64_nonneg _)) ?_
      refine TO.sw rfl rfl rfl hb2 rfl rfl (StepS.bitU rfl rfl rfl) ?_
      refine TO.sw rfl rfl rfl hb2 rfl rfl (StepS.cmpU (n := 0#32) rfl rfl rfl) ?_
      refine TO.s rfl rfl rfl (StepS.pickT rfl hb2 rfl) ?_
      exact TO.up1 7 0 rfl rfl (by rw [hb2]; rfl) rfl
    · refine TO.skip rfl rfl rfl (skipF hb2) rfl rfl ?_
      refine TO.skip rfl rfl rfl (skipF hb2) rfl rfl ?_
      refine TO.skip rfl rfl rfl (skipF hb2) rfl rfl ?_
      refine TO.skip rfl rfl rfl (skipF hb2) rfl rfl ?_
      refine TO.skip rfl rfl rfl (skipF hb2) rfl rfl ?_
      refine TO.skip rfl rfl rfl (skipF hb2) rfl rfl ?_
      refine TO.s rfl rfl rfl (StepS.pickF rfl hb2 rfl) ?_
      exact TO.up1 7 0 rfl rfl (by rw [hb2]; rfl) rfl
  refine TO.s rfl rfl rfl (StepS.assign rfl) ?_
  refine TO.code ?_
  cases hm
  refine TC.ret fun a w e s => ?_
  refine FRet.mk1 (P := Try.prog) (fn := Try.f29) (t := 4) e rfl rfl ?_
  exact ⟨rfl, s.mono fun _ => Sat.dropN 0⟩

set_option maxRecDepth 100000 in
theorem C28 {B : World} {L : List HP} {a0 : List (BitVec 32)} {a1 : Int} {h0 : Value} {r0 : BitVec 32} (e0 : Ent L (Rd 1 h0 (a0.map cU))) (hm : F28 a0 a1 = some r0) {w : World} (st : St B L w) : Calls Try.prog 28 #[h0, I a1] w (fun e w' => (e = .returned (U r0) ∧ St B (L) w')) := by
  refine calls_of (N := 34) (L := L) (args := [h0, I a1]) Try.func28 rfl rfl rfl ?_ st
  dsimp only [F28] at hm
  refine TC.k ?_
  refine TC.region ?_
  refine TO.s rfl rfl rfl (StepS.assign rfl) ?_
  refine TO.code ?_
  refine TC.k ?_
  refine TC.region ?_
  refine TO.s rfl rfl rfl (StepS.move rfl) ?_
  refine TO.s rfl rfl rfl (StepS.move rfl) ?_
  obtain ⟨x1, hx2, hm⟩ := bind_some hm
  refine TO.s rfl rfl rfl (StepS.idx rfl rfl e0 ksliceB_34_35_1_true (idx_spec hx2).1 (idxm_lt hx2)) ?_
  refine TO.s rfl rfl rfl (StepS.ld0 rfl e0 kscalB_35_true rfl (idxm hx2) rfl) ?_
  refine TO.s rfl rfl rfl (StepS.assign rfl) ?_
  refine TO.code ?_
  refine TC.k ?_
  refine TC.k ?_
  refine TC.region ?_
  refine TO.s rfl rfl rfl (StepS.assign rfl) ?_
  refine TO.code ?_
  obtain ⟨o8, hw9, hm⟩ := bind_some hm
  refine TC.loop hw9 (fun (x3, x4) => fun a w => Mid 34 B [(0, h0), (5, U x3), (6, I x4)] (L) a w) (fun x7 => fun a w => Mid 34 B [(5, U x7)] (L) a w) (fun (_ : Unit) _ _ => False) ?_ ?_ ?_ ?_
  · rintro ⟨x3, x4⟩ o8r hb10 a w ⟨he, hs⟩
    dsimp only [F28_L0] at hb10
    refine TC.use ?_ he hs
    refine TC.k ?_
    refine TC.k ?_
    refine TC.region ?_
    refine TO.s rfl rfl rfl (StepS.move rfl) ?_
    refine TO.s rfl rfl rfl (StepS.move rfl) ?_
    refine TO.s rfl rfl rfl (StepS.lenm rfl e0 ksliceB_34_35_1_true rfl) ?_
    refine TO.s rfl rfl rfl (StepS.cmp rfl rfl rfl) ?_
    refine TO.code ?_
    refine TC.cond rfl (fun hc11 => ?_) (fun hc11 => ?_)
    · replace hb10 := cond_t hc11 hb10
      refine TC.skipk ?_
      refine TC.k ?_
      refine TC.block ?_
      refine TC.k ?_
      refine TC.region ?_
      refine TO.s rfl rfl rfl (StepS.assign rfl) ?_
      refine TO.code ?_
      obtain ⟨o17, hw18, hb10⟩ := bind_some hb10
      refine TC.loop hw18 (fun (x12, x13) => fun a w => Mid 34 B [(0, h0), (5, U x12), (6, I x4), (7, I x13)] (L) a w) (fun x16 => fun a w => Mid 34 B [(0, h0), (5, U x16), (6, I x4)] (L) a w) (fun (_ : Unit) _ _ => False) ?_ ?_ ?_ ?_
      · rintro ⟨x12, x13⟩ o17r hb19 a w ⟨he, hs⟩
        dsimp only [F28_L1] at hb19
        refine TC.use ?_ he hs
        refine TC.k ?_
        refine TC.k ?_
        refine TC.region ?_
        refine TO.s rfl rfl rfl (StepS.move rfl) ?_
        refine TO.s rfl rfl rfl (StepS.move rfl) ?_
        refine TO.s rfl rfl rfl (StepS.lenm rfl e0 ksliceB_34_35_1_true rfl) ?_
        refine TO.s rfl rfl rfl (StepS.cmp rfl rfl rfl) ?_
        refine TO.code ?_
        refine TC.cond rfl (fun hc20 => ?_) (fun hc20 => ?_)
        · replace hb19 := cond_t hc20 hb19
          refine TC.skipk ?_
          refine TC.k ?_
          obtain ⟨x21, hj22, hb19⟩ := bind_some hb19
          refine TC.cutM (fun a w => Mid 34 B [(0, h0), (5, U x21), (6, I x4), (7, I x13)] (L) a w) ?_ ?_
          · refine TC.block ?_
            refine TC.k ?_
            refine TC.region ?_
            refine TO.s rfl rfl rfl (StepS.move rfl) ?_
            refine TO.s rfl rfl rfl (StepS.move rfl) ?_
            obtain ⟨r23, hc24, hj22⟩ := bind_some hj22
            refine TO.q rfl rfl rfl (StepQ.call kcallB_29_true rfl rfl (fun _ st => C29  hc24 st)) ?_
            refine TO.code ?_
            refine TC.cond rfl (fun hc25 => ?_) (fun hc25 => ?_)
            · replace hj22 := cond_t hc25 hj22
              refine TC.region ?_
              refine TO.s rfl rfl rfl (StepS.move rfl) ?_
              refine TO.s rfl rfl rfl (StepS.move rfl) ?_
              refine TO.s rfl rfl rfl (StepS.move rfl) ?_
              obtain ⟨x26, hx27, hj22⟩ := bind_some hj22
              refine TO.s rfl rfl rfl (StepS.idx rfl rfl e0 ksliceB_34_35_1_true (idx_spec hx27).1 (idxm_lt hx27)) ?_
              refine TO.s rfl rfl rfl (StepS.ld0 rfl e0 kscalB_35_true rfl (idxm hx27) rfl) ?_
              refine TO.s rfl rfl rfl (StepS.bitU rfl rfl rfl) ?_
              refine TO.s rfl rfl rfl (StepS.assign rfl) ?_
              cases hj22
              refine TO.nil fun a w e s => ?_
              exact ⟨e.sub (lk_of_allIn ⟨rfl, rfl, rfl, rfl, trivial⟩), s⟩
            · replace hj22 := cond_f hc25 hj22
              cases hj22
              refine TC.skip fun a w e s => ?_
              exact ⟨e.sub (lk_of_allIn ⟨rfl, rfl, rfl, rfl, trivial⟩), s⟩
          · intro a w ⟨he, hs⟩
            refine TC.use ?_ he hs
            refine TC.region ?_
            refine TO.s rfl rfl rfl (StepS.move rfl) ?_
            refine TO.s rfl rfl rfl (StepS.ari rfl rfl rfl) ?_
            refine TO.s rfl rfl rfl (StepS.assign rfl) ?_
            cases hb19
            refine TO.nil fun a w e s => ?_
            exact ⟨e.sub (lk_of_allIn ⟨rfl, rfl, rfl, rfl, trivial⟩), s⟩
        · replace hb19 := cond_f hc20 hb19
          cases hb19
          refine TC.exit rfl fun a w e s => ?_
          exact ⟨e.sub (lk_of_allIn ⟨rfl, rfl, rfl, trivial⟩), s⟩
      · exact fun a w e s => ⟨e.sub (lk_of_allIn ⟨rfl, rfl, rfl, rfl, trivial⟩), s⟩
      · rintro x16 rfl a w ⟨he, hs⟩
        dsimp only [Ctl.on] at hb10
        refine TC.use ?_ he hs
        refine TC.region ?_
        refine TO.s rfl rfl rfl (StepS.move rfl) ?_
        refine TO.s rfl rfl rfl (StepS.ari rfl rfl rfl) ?_
        refine TO.s rfl rfl rfl (StepS.assign rfl) ?_
        cases hb10
        refine TO.nil fun a w e s => ?_
        exact ⟨e.sub (lk_of_allIn ⟨rfl, rfl, rfl, trivial⟩), s⟩
      · rintro r rfl
        exact fun a w h => h.elim
    · replace hb10 := cond_f hc11 hb10
      cases hb10
      refine TC.exit rfl fun a w e s => ?_
      exact ⟨e.sub (lk_of_allIn ⟨rfl, trivial⟩), s⟩
  · exact fun a w e s => ⟨e.sub (lk_of_allIn ⟨rfl, rfl, rfl, trivial⟩), s⟩
  · rintro x7 rfl a w ⟨he, hs⟩
    dsimp only [Ctl.on] at hm
    refine TC.use ?_ he hs
    refine TC.k ?_
    refine TC.region ?_
    refine TO.s rfl rfl rfl (StepS.move rfl) ?_
    refine TO.s rfl rfl rfl (StepS.assign rfl) ?_
    refine TO.code ?_
    cases hm
    refine TC.ret fun a w e s => ?_
    refine FRet.mk1 (P := Try.prog) (fn := Try.f28) (t := 4) e rfl rfl ?_
    exact ⟨rfl, s.mono fun _ => Sat.dropN 0⟩
  · rintro r rfl
    exact fun a w h => h.elim

set_option maxRecDepth 100000 in
theorem C24 {B : World} {L : List HP} {a0 : List (BitVec 32)} {h0 : Value} {r0 : BitVec 32} (e0 : Ent L (Rd 1 h0 (a0.map cU))) (hm : F24 a0 = some r0) {w : World} (st : St B L w) : Calls Try.prog 24 #[h0] w (fun e w' => (e = .returned (U r0) ∧ St B (L) w')) := by
  refine calls_of (N := 42) (L := L) (args := [h0]) Try.func24 rfl rfl rfl ?_ st
  dsimp only [F24] at hm
  refine TC.k ?_
  refine TC.region ?_
  refine TO.s rfl rfl rfl (StepS.assign rfl) ?_
  refine TO.code ?_
  refine TC.k ?_
  refine TC.region ?_
  refine TO.s rfl rfl rfl (StepS.assign rfl) ?_
  refine TO.code ?_
  refine TC.k ?_
  refine TC.k ?_
  refine TC.region ?_
  refine TO.s rfl rfl rfl (StepS.assign rfl) ?_
  refine TO.code ?_
  obtain ⟨o6, hw7, hm⟩ := bind_some hm
  refine TC.loop hw7 (fun (x1, x2) => fun a w => Mid 42 B [(0, h0), (3, U x1), (4, I x2)] (L) a w) (fun x5 => fun a w => Mid 42 B [(3, U x5)] (L) a w) (fun (_ : Unit) _ _ => False) ?_ ?_ ?_ ?_
  · rintro ⟨x1, x2⟩ o6r hb8 a w ⟨he, hs⟩
    dsimp only [F24_L0] at hb8
    refine TC.use ?_ he hs
    refine TC.k ?_
    refine TC.k ?_
    refine TC.region ?_
    refine TO.s rfl rfl rfl (StepS.move rfl) ?_
    refine TO.s rfl rfl rfl (StepS.move rfl) ?_
    refine TO.s rfl rfl rfl (StepS.lenm rfl e0 ksliceB_34_35_1_true rfl) ?_
    refine TO.s rfl rfl rfl (StepS.cmp rfl rfl rfl) ?_
    refine TO.code ?_
    refine TC.cond rfl (fun hc9 => ?_) (fun hc9 => ?_)
    · replace hb8 := cond_t hc9 hb8
      refine TC.skipk ?_
      refine TC.k ?_
      refine TC.block ?_
      refine TC.k ?_
      refine TC.region ?_
      refine TO.s rfl rfl rfl (StepS.move rfl) ?_
      refine TO.s rfl rfl rfl (StepS.move rfl) ?_
      obtain ⟨r10, hc11, hb8⟩ := bind_some hb8
      refine TO.q rfl rfl rfl (StepQ.call kcallB_28_true rfl rfl (fun _ st => C28 e0 hc11 st)) ?_
      refine TO.s rfl rfl rfl (StepS.move rfl) ?_
      refine TO.s rfl rfl rfl (StepS.cvIV kintB_3_i64_true kintB_44_u64_true rfl) ?_
      refine TO.s rfl rfl rfl (StepS.shl (m := 1#32) rfl rfl (u64_nonneg _)) ?_
      refine TO.s rfl rfl rfl (StepS.bitU rfl rfl rfl) ?_
      refine TO.s rfl rfl rfl (StepS.assign rfl) ?_
      refine TO.code ?_
      refine TC.k ?_
      refine TC.region ?_
      refine TO.s rfl rfl rfl (StepS.assign rfl) ?_
      refine TO.code ?_
      obtain ⟨o17, hw18, hb8⟩ := bind_some hb8
      refine TC.loop hw18 (fun (x12, x13) => fun a w => Mid 42 B [(0, h0), (3, U x12), (4, I x2), (5, U (r10 ||| ((1#32) <<< (u64 x2).toNat))), (6, I x13)] (L) a w) (fun x16 => fun a w => Mid 42 B [(0, h0), (3, U x16), (4, I x2)] (L) a w) (fun (_ : Unit) _ _ => False) ?_ ?_ ?_ ?_
      · rintro ⟨x12, x13⟩ o17r hb19 a w ⟨he, hs⟩
        dsimp only [F24_L1] at hb19
        refine TC.use ?_ he hs
        refine TC.k ?_
        refine TC.k ?_
        refine TC.region ?_
        refine TO.s rfl rfl rfl (StepS.move rfl) ?_
        refine TO.s rfl rfl rfl (StepS.move rfl) ?_
        refine TO.s rfl rfl rfl (StepS.lenm rfl e0 ksliceB_34_35_1_true rfl) ?_
        refine TO.s rfl rfl rfl (StepS.cmp rfl rfl rfl) ?_
        refine TO.code ?_
        refine TC.cond rfl (fun hc20 => ?_) (fun hc20 => ?_)
        · replace hb19 := cond_t hc20 hb19
          refine TC.skipk ?_
          refine TC.k ?_
          obtain ⟨x21, hj22, hb19⟩ := bind_some hb19
          refine TC.cutM (fun a w => Mid 42 B [(0, h0), (3, U x21), (4, I x2), (5, U (r10 ||| ((1#32) <<< (u64 x2).toNat))), (6, I x13)] (L) a w) ?_ ?_
          · refine TC.block ?_
            refine TC.k ?_
            refine TC.region ?_
            refine TO.s rfl rfl rfl (StepS.move rfl) ?_
            refine TO.s rfl rfl rfl (StepS.move rfl) ?_
            obtain ⟨r23, hc24, hj22⟩ := bind_some hj22
            refine TO.q rfl rfl rfl (StepQ.call kcallB_29_true rfl rfl (fun _ st => C29  hc24 st)) ?_
            refine TO.s rfl rfl rfl (StepS.move rfl) ?_
            obtain ⟨b26, hj27, hj22⟩ := bind_some hj22
            refine TO.mid1 6 35 (.bool b26) ?_ ?_
            · refine bcase (r23) (fun hb25 => ?_) (fun hb25 => ?_)
              · replace hj27 := cond_t hb25 hj27
                refine TO.sw rfl rfl rfl hb25 rfl rfl (StepS.move rfl) ?_
                refine TO.sw rfl rfl rfl hb25 rfl rfl (StepS.move rfl) ?_
                obtain ⟨r28, hc29, hj27⟩ := bind_some hj27
                refine TO.qw rfl rfl rfl hb25 rfl rfl (StepQ.call kcallB_28_true rfl rfl (fun _ st => C28 e0 hc29 st)) ?_
                refine TO.sw rfl rfl rfl hb25 rfl rfl (StepS.move rfl) ?_
                obtain ⟨r30, hc31, hj27⟩ := bind_some hj27
                refine TO.qw rfl rfl rfl hb25 rfl rfl (StepQ.call kcallB_29_true rfl rfl (fun _ st => C29  hc31 st)) ?_
                cases hj27
                refine TO.s rfl rfl rfl (StepS.pickT rfl hb25 rfl) ?_
                exact TO.up1 6 0 rfl rfl rfl rfl
              · replace hj27 := cond_f hb25 hj27
                cases hj27
                refine TO.skip rfl rfl rfl (skipF hb25) rfl rfl ?_
                refine TO.skip rfl rfl rfl (skipF hb25) rfl rfl ?_
                refine TO.skip rfl rfl rfl (skipF hb25) rfl rfl ?_
                refine TO.skip rfl rfl rfl (skipF hb25) rfl rfl ?_
                refine TO.skip rfl rfl rfl (skipF hb25) rfl rfl ?_
                refine TO.s rfl rfl rfl (StepS.pickF rfl hb25 rfl) ?_
                exact TO.up1 6 0 rfl rfl rfl rfl
            refine TO.code ?_
            refine TC.cond rfl (fun hc32 => ?_) (fun hc32 => ?_)
            · replace hj22 := cond_t hc32 hj22
              refine TC.region ?_
              refine TO.s rfl rfl rfl (StepS.move rfl) ?_
              refine TO.s rfl rfl rfl (StepS.move rfl) ?_
              refine TO.s rfl rfl rfl (StepS.cvIV kintB_3_i64_true kintB_44_u64_true rfl) ?_
              refine TO.s rfl rfl rfl (StepS.shl (m := 1#32) rfl rfl (u64_nonneg _)) ?_
              refine TO.s rfl rfl rfl (StepS.bitU rfl rfl rfl) ?_
              refine TO.s rfl rfl rfl (StepS.assign rfl) ?_
              cases hj22
              refine TO.nil fun a w e s => ?_
              exact ⟨e.sub (lk_of_allIn ⟨rfl, rfl, rfl, rfl, rfl, trivial⟩), s⟩
            · replace hj22 := cond_f hc32 hj22
              cases hj22
              refine TC.skip fun a w e s => ?_
              exact ⟨e.sub (lk_of_allIn ⟨rfl, rfl, rfl, rfl, rfl, trivial⟩), s⟩
          · intro a w ⟨he, hs⟩
            refine TC.use ?_ he hs
            refine TC.region ?_
            refine TO.s rfl rfl rfl (StepS.move rfl) ?_
            refine TO.s rfl rfl rfl (StepS.ari rfl rfl rfl) ?_
            refine TO.s rfl rfl rfl (StepS.assign rfl) ?_
            cases hb19
            refine TO.nil fun a w e s => ?_
            exact ⟨e.sub (lk_of_allIn ⟨rfl, rfl, rfl, rfl, rfl, trivial⟩), s⟩
        · replace hb19 := cond_f hc20 hb19
          cases hb19
          refine TC.exit rfl fun a w e s => ?_
          exact ⟨e.sub (lk_of_allIn ⟨rfl, rfl, rfl, trivial⟩), s⟩
      · exact fun a w e s => ⟨e.sub (lk_of_allIn ⟨rfl, rfl, rfl, rfl, rfl, trivial⟩), s⟩
      · rintro x16 rfl a w ⟨he, hs⟩
        dsimp only [Ctl.on] at hb8
        refine TC.use ?_ he hs
        refine TC.region ?_
        refine TO.s rfl rfl rfl (StepS.move rfl) ?_
        refine TO.s rfl rfl rfl (StepS.ari rfl rfl rfl) ?_
        refine TO.s rfl rfl rfl (StepS.assign rfl) ?_
        cases hb8
        refine TO.nil fun a w e s => ?_
        exact ⟨e.sub (lk_of_allIn ⟨rfl, rfl, rfl, trivial⟩), s⟩
      · rintro r rfl
        exact fun a w h => h.elim
    · replace hb8 := cond_f hc9 hb8
      cases hb8
      refine TC.exit rfl fun a w e s => ?_
      exact ⟨e.sub (lk_of_allIn ⟨rfl, trivial⟩), s⟩
  · exact fun a w e s => ⟨e.sub (lk_of_allIn ⟨rfl, rfl, rfl, trivial⟩), s⟩
  · rintro x5 rfl a w ⟨he, hs⟩
    dsimp only [Ctl.on] at hm
    refine TC.use ?_ he hs
    refine TC.k ?_
    refine TC.region ?_
    refine TO.s rfl rfl rfl (StepS.move rfl) ?_
    refine TO.s rfl rfl rfl (StepS.assign rfl) ?_
    refine TO.code ?_
    cases hm
    refine TC.ret fun a w e s => ?_
    refine FRet.mk1 (P := Try.prog) (fn := Try.f24) (t := 2) e rfl rfl ?_
    exact ⟨rfl, s.mono fun _ => Sat.dropN 0⟩
  · rintro r rfl
    exact fun a w h => h.elim

set_option maxRecDepth 100000 in
theorem C7 {B : World} {L : List HP} {a0 : List (BitVec 32)} {h0 : Value} {r0 : Bool} (e0 : Ent L (Rd 1 h0 (a0.map cU))) (hm : F7 a0 = some r0) {w : World} (st : St B L w) : Calls Try.prog 7 #[h0] w (fun e w' => (e = .returned (.bool r0) ∧ St B (L) w')) := by
  refine calls_of (N := 30) (L := L) (args := [h0]) Try.func7 rfl rfl rfl ?_ st
  dsimp only [F7] at hm
  refine TC.k ?_
  refine TC.region ?_
  refine TO.s rfl rfl rfl (StepS.assign rfl) ?_
  refine TO.code ?_
  refine TC.k ?_
  refine TC.region ?_
  refine TO.s rfl rfl rfl (StepS.move rfl) ?_
  obtain ⟨⟨r1, r2⟩, hc3, hm⟩ := bind_some hm
  refine TO.q rfl rfl rfl (StepQ.call kcallB_22_true rfl rfl (fun _ st => C22 e0 hc3 st)) ?_
  refine TO.s rfl rfl rfl (StepS.move rfl) ?_
  refine TO.s rfl rfl rfl (StepS.extract rfl rfl) ?_
  refine TO.s rfl rfl rfl (StepS.extract rfl rfl) ?_
  refine TO.s rfl rfl rfl (StepS.assign rfl) ?_
  refine TO.s rfl rfl rfl (StepS.assign rfl) ?_
  refine TO.code ?_
  refine TC.k ?_
  refine TC.region ?_
  refine TO.s rfl rfl rfl (StepS.move rfl) ?_
  obtain ⟨r4, hc5, hm⟩ := bind_some hm
  refine TO.q rfl rfl rfl (StepQ.call kcallB_23_true rfl rfl (fun _ st => C23 e0 hc5 st)) ?_
  refine TO.s rfl rfl rfl (StepS.assign rfl) ?_
  refine TO.code ?_
  refine TC.k ?_
  refine TC.k ?_
  refine TC.region ?_
  refine TO.s rfl rfl rfl (StepS.move rfl) ?_
  refine TO.s rfl rfl rfl (StepS.cmp rfl rfl rfl) ?_
  refine TO.code ?_
  refine TC.cond rfl (fun hc6 => ?_) (fun hc6 => ?_)
  · replace hm := cond_t hc6 hm
    refine TC.k ?_
    refine TC.region ?_
    refine TO.s rfl rfl rfl (StepS.move rfl) ?_
    refine TO.s rfl rfl rfl (StepS.move rfl) ?_
    refine TO.s rfl rfl rfl (StepS.cmp rfl rfl rfl) ?_
    refine TO.s rfl rfl rfl (StepS.move rfl) ?_
    refine TO.mid1 3 21 (.bool ((r2 == r4) && (r1 == (0#32)))) ?_ ?_
    · refine bcase ((r2 == r4)) (fun hb7 => ?_) (fun hb7 => ?_)
      · refine TO.sw rfl rfl rfl hb7 rfl rfl (StepS.move rfl) ?_
        refine TO.sw rfl rfl rfl hb7 rfl rfl (StepS.cmpU (n := 0#32) rfl rfl rfl) ?_
        refine TO.s rfl rfl rfl (StepS.pickT rfl hb7 rfl) ?_
        exact TO.up1 3 0 rfl rfl (by rw [hb7]; rfl) rfl
      · refine TO.skip rfl rfl rfl (skipF hb7) rfl rfl ?_
        refine TO.skip rfl rfl rfl (skipF hb7) rfl rfl ?_
        refine TO.s rfl rfl rfl (StepS.pickF rfl hb7 rfl) ?_
        exact TO.up1 3 0 rfl rfl (by rw [hb7]; rfl) rfl
    refine TO.s rfl rfl rfl (StepS.assign rfl) ?_
    refine TO.code ?_
    cases hm
    refine TC.ret fun a w e s => ?_
    refine FRet.mk1 (P := Try.prog) (fn := Try.f7) (t := 2) e rfl rfl ?_
    exact ⟨rfl, s.mono fun _ => Sat.dropN 0⟩
  · replace hm := cond_f hc6 hm
    refine TC.skipk ?_
    refine TC.k ?_
    refine TC.region ?_
    refine TO.s rfl rfl rfl (StepS.move rfl) ?_
    refine TO.s rfl rfl rfl (StepS.cmp rfl rfl rfl) ?_
    refine TO.s rfl rfl rfl (StepS.move rfl) ?_
    obtain ⟨b9, hj10, hm⟩ := bind_some hm
    refine TO.mid1 5 29 (.bool b9) ?_ ?_
    · refine bcase ((r2 == 0)) (fun hb8 => ?_) (fun hb8 => ?_)
      · replace hj10 := cond_t hb8 hj10
        refine TO.sw rfl rfl rfl hb8 rfl rfl (StepS.move rfl) ?_
        refine TO.sw rfl rfl rfl hb8 rfl rfl (StepS.move rfl) ?_
        obtain ⟨r11, hc12, hj10⟩ := bind_some hj10
        refine TO.qw rfl rfl rfl hb8 rfl rfl (StepQ.call kcallB_24_true rfl rfl (fun _ st => C24 e0 hc12 st)) ?_
        refine TO.sw rfl rfl rfl hb8 rfl rfl (StepS.cmpU rfl rfl rfl) ?_
        cases hj10
        refine TO.s rfl rfl rfl (StepS.pickT rfl hb8 rfl) ?_
        exact TO.up1 5 0 rfl rfl rfl rfl
      · replace hj10 := cond_f hb8 hj10
        cases hj10
        refine TO.skip rfl rfl rfl (skipF hb8) rfl rfl ?_
        refine TO.skip rfl rfl rfl (skipF hb8) rfl rfl ?_
        refine TO.skip rfl rfl rfl (skipF hb8) rfl rfl ?_
        refine TO.skip rfl rfl rfl (skipF hb8) rfl rfl ?_
        refine TO.s rfl rfl rfl (StepS.pickF rfl hb8 rfl) ?_
        exact TO.up1 5 0 rfl rfl rfl rfl
    refine TO.s rfl rfl rfl (StepS.assign rfl) ?_
    refine TO.code ?_
    cases hm
    refine TC.ret fun a w e s => ?_
    refine FRet.mk1 (P := Try.prog) (fn := Try.f7) (t := 2) e rfl rfl ?_
    exact ⟨rfl, s.mono fun _ => Sat.dropN 0⟩

set_option maxRecDepth 100000 in
theorem C51 {B : World} {L : List HP} {a0 : BitVec 32} {a1 : BitVec 32} {r0 : Bool} (hm : F51 a0 a1 = some r0) {w : World} (st : St B L w) : Calls Try.prog 51 #[U a0, U a1] w (fun e w' => (e = .returned (.bool r0) ∧ St B (L) w')) := by
  refine calls_of (N := 9) (L := L) (args := [U a0, U a1]) Try.func51 rfl rfl rfl ?_ st
  dsimp only [F51] at hm
  refine TC.k ?_
  refine TC.region ?_
  refine TO.s rfl rfl rfl (StepS.assign rfl) ?_
  refine TO.code ?_
  refine TC.k ?_
  refine TC.region ?_
  refine TO.s rfl rfl rfl (StepS.move rfl) ?_
  refine TO.s rfl rfl rfl (StepS.move rfl) ?_
  refine TO.s rfl rfl rfl (StepS.bitU rfl rfl rfl) ?_
  refine TO.s rfl rfl rfl (StepS.cmpU (n := 0#32) rfl rfl rfl) ?_
  refine TO.s rfl rfl rfl (StepS.assign rfl) ?_
  refine TO.code ?_
  cases hm
  refine TC.ret fun a w e s => ?_
  refine FRet.mk1 (P := Try.prog) (fn := Try.f51) (t := 4) e rfl rfl ?_
  exact ⟨rfl, s.mono fun _ => Sat.dropN 0⟩

set_option maxRecDepth 100000 in
theorem C25 {B : World} {L : List HP} {a0 : List (BitVec 32)} {h0 : Value} {r0 : BitVec 32} {r1 : Int} (e0 : Ent L (Rd 1 h0 (a0.map cU))) (hm : F25 a0 = some (r0, r1)) {w : World} (st : St B L w) : Calls Try.prog 25 #[h0] w (fun e w' => (e = .returned (.tuple #[U r0, I r1]) ∧ St B (L) w')) := by
  refine calls_of (N := 8) (L := L) (args := [h0]) Try.func25 rfl rfl rfl ?_ st
  dsimp only [F25] at hm
  refine TC.k ?_
  refine TC.region ?_
  refine TO.s rfl rfl rfl (StepS.assign rfl) ?_
  refine TO.s rfl rfl rfl (StepS.assign rfl) ?_
  refine TO.code ?_
  refine TC.k ?_
  refine TC.region ?_
  refine TO.s rfl rfl rfl (StepS.move rfl) ?_
  obtain ⟨⟨r1, r2⟩, hc3, hm⟩ := bind_some hm
  refine TO.q rfl rfl rfl (StepQ.call kcallB_49_true rfl rfl (fun _ st => C49 e0 ⟨51, #[], #[], rfl, kcallB_51_true, fun _ hx z r hm w st => C51  hm st⟩ hc3 st)) ?_
  refine TO.s rfl rfl rfl (StepS.extract rfl rfl) ?_
  refine TO.s rfl rfl rfl (StepS.extract rfl rfl) ?_
  refine TO.s rfl rfl rfl (StepS.assign rfl) ?_
  refine TO.s rfl rfl rfl (StepS.assign rfl) ?_
  refine TO.code ?_
  cases hm
  refine TC.ret fun a w e s => ?_
  refine FRet.mk2 (P := Try.prog) (fn := Try.f25) (t := 2) (u := 3) e rfl rfl rfl ?_
  exact ⟨rfl, s.mono fun _ => Sat.dropN 0⟩

set_option maxRecDepth 100000 in
theorem C26 {B : World} {L : List HP} {a0 : List (BitVec 32)} {h0 : Value} {r0 : BitVec 32} (e0 : Ent L (Rd 1 h0 (a0.map cU))) (hm : F26 a0 = some r0) {w : World} (st : St B L w) : Calls Try.prog 26 #[h0] w (fun e w' => (e = .returned (U r0) ∧ St B (L) w')) := by
  refine calls_of (N := 48) (L := L) (args := [h0]) Try.func26 rfl rfl rfl ?_ st
  dsimp only [F26] at hm
  refine TC.k ?_
  refine TC.region ?_
  refine TO.s rfl rfl rfl (StepS.assign rfl) ?_
  refine TO.code ?_
  refine TC.k ?_
  refine TC.region ?_
  refine TO.s rfl rfl rfl (StepS.assign rfl) ?_
  refine TO.code ?_
  refine TC.k ?_
  refine TC.k ?_
  refine TC.region ?_
  refine TO.s rfl rfl rfl (StepS.assign rfl) ?_
  refine TO.code ?_
  obtain ⟨o6, hw7, hm⟩ := bind_some hm
  refine TC.loop hw7 (fun (x1, x2) => fun a w => Mid 48 B [(0, h0), (3, U x1), (4, I x2)] (L) a w) (fun x5 => fun a w => Mid 48 B [(3, U x5)] (L) a w) (fun (_ : Unit) _ _ => False) ?_ ?_ ?_ ?_
  · rintro ⟨x1, x2⟩ o6r hb8 a w ⟨he, hs⟩
    dsimp only [F26_L0] at hb8
    refine TC.use ?_ he hs
    refine TC.k ?_
    refine TC.k ?_
    refine TC.region ?_
    refine TO.s rfl rfl rfl (StepS.move rfl) ?_
    refine TO.s rfl rfl rfl (StepS.move rfl) ?_
    refine TO.s rfl rfl rfl (StepS.lenm rfl e0 ksliceB_34_35_1_true rfl) ?_
    refine TO.s rfl rfl rfl (StepS.cmp rfl rfl rfl) ?_
    refine TO.code ?_
    refine TC.cond rfl (fun hc9 => ?_) (fun hc9 => ?_)
    · replace hb8 := cond_t hc9 hb8
      refine TC.skipk ?_
      refine TC.k ?_
      obtain ⟨x10, hj11, hb8⟩ := bind_some hb8
      refine TC.cutM (fun a w => Mid 48 B [(0, h0), (3, U x10), (4, I x2)] (L) a w) ?_ ?_
      · refine TC.block ?_
        refine TC.k ?_
        refine TC.region ?_
        refine TO.s rfl rfl rfl (StepS.move rfl) ?_
        refine TO.s rfl rfl rfl (StepS.move rfl) ?_
        obtain ⟨r12, hc13, hj11⟩ := bind_some hj11
        refine TO.q rfl rfl rfl (StepQ.call kcallB_28_true rfl rfl (fun _ st => C28 e0 hc13 st)) ?_
        refine TO.s rfl rfl rfl (StepS.move rfl) ?_
        refine TO.s rfl rfl rfl (StepS.cvIV kintB_3_i64_true kintB_44_u64_true rfl) ?_
        refine TO.s rfl rfl rfl (StepS.shl (m := 1#32) rfl rfl (u64_nonneg _)) ?_
        refine TO.s rfl rfl rfl (StepS.bitU rfl rfl rfl) ?_
        refine TO.s rfl rfl rfl (StepS.assign rfl) ?_
        refine TO.code ?_
        refine TC.k ?_
        refine TC.region ?_
        refine TO.s rfl rfl rfl (StepS.assign rfl) ?_
        refine TO.code ?_
        refine TC.k ?_
        refine TC.k ?_
        refine TC.region ?_
        refine TO.s rfl rfl rfl (StepS.assign rfl) ?_
        refine TO.code ?_
        obtain ⟨o19, hw20, hj11⟩ := bind_some hj11
        refine TC.loop hw20 (fun (b14, x15) => fun a w => Mid 48 B [(0, h0), (3, U x1), (4, I x2), (5, U (r12 ||| ((1#32) <<< (u64 x2).toNat))), (6, .bool b14), (7, I x15)] (L) a w) (fun b18 => fun a w => Mid 48 B [(0, h0), (3, U x1), (4, I x2), (6, .bool b18)] (L) a w) (fun (_ : Unit) _ _ => False) ?_ ?_ ?_ ?_
        · rintro ⟨b14, x15⟩ o19r hb21 a w ⟨he, hs⟩
          dsimp only [F26_L1] at hb21
          refine TC.use ?_ he hs
          refine TC.k ?_
          refine TC.k ?_
          refine TC.region ?_
          refine TO.s rfl rfl rfl (StepS.move rfl) ?_
          refine TO.s rfl rfl rfl (StepS.move rfl) ?_
          refine TO.s rfl rfl rfl (StepS.lenm rfl e0 ksliceB_34_35_1_true rfl) ?_
          refine TO.s rfl rfl rfl (StepS.cmp rfl rfl rfl) ?_
          refine TO.code ?_
          refine TC.cond rfl (fun hc22 => ?_) (fun hc22 => ?_)
          · replace hb21 := cond_t hc22 hb21
            refine TC.skipk ?_
            refine TC.k ?_
            refine TC.block ?_
            refine TC.region ?_
            refine TO.s rfl rfl rfl (StepS.move rfl) ?_
            refine TO.s rfl rfl rfl (StepS.move rfl) ?_
            obtain ⟨b24, hj25, hb21⟩ := bind_some hb21
            refine TO.mid1 11 39 (.bool b24) ?_ ?_
            · refine bcase (b14) (fun hb23 => ?_) (fun hb23 => ?_)
              · replace hj25 := cond_t hb23 hj25
                cases hj25
                refine TO.skip rfl rfl rfl (skipT hb23) rfl rfl ?_
                refine TO.skip rfl rfl rfl (skipT hb23) rfl rfl ?_
                refine TO.skip rfl rfl rfl (skipT hb23) rfl rfl ?_
                refine TO.skip rfl rfl rfl (skipT hb23) rfl rfl ?_
                refine TO.skip rfl rfl rfl skipU rfl rfl ?_
                refine TO.skip rfl rfl rfl skipU rfl rfl ?_
                refine TO.skip rfl rfl rfl skipU rfl rfl ?_
                refine TO.skip rfl rfl rfl skipU rfl rfl ?_
                refine TO.skip rfl rfl rfl skipU rfl rfl ?_
                refine TO.skip rfl rfl rfl (skipT hb23) rfl rfl ?_
                refine TO.s rfl rfl rfl (StepS.pickT rfl hb23 rfl) ?_
                exact TO.up1 11 0 rfl rfl rfl rfl
              · replace hj25 := cond_f hb23 hj25
                refine TO.sw rfl rfl rfl hb23 rfl rfl (StepS.move rfl) ?_
                refine TO.sw rfl rfl rfl hb23 rfl rfl (StepS.move rfl) ?_
                obtain ⟨r26, hc27, hj25⟩ := bind_some hj25
                refine TO.qw rfl rfl rfl hb23 rfl rfl (StepQ.call kcallB_29_true rfl rfl (fun _ st => C29  hc27 st)) ?_
                refine TO.sw rfl rfl rfl hb23 rfl rfl (StepS.move rfl) ?_
                obtain ⟨b29, hj30, hj25⟩ := bind_some hj25
                refine TO.mid1 6 38 (.bool b29) ?_ ?_
                · refine bcase (r26) (fun hb28 => ?_) (fun hb28 => ?_)
                  · replace hj30 := cond_t hb28 hj30
                    refine TO.sw rfl rfl rfl hb28 rfl rfl (StepS.move rfl) ?_
                    refine TO.sw rfl rfl rfl hb28 rfl rfl (StepS.move rfl) ?_
                    obtain ⟨x31, hx32, hj30⟩ := bind_some hj30
                    refine TO.sw rfl rfl rfl hb28 rfl rfl (StepS.idx rfl rfl e0 ksliceB_34_35_1_true (idx_spec hx32).1 (idxm_lt hx32)) ?_
                    refine TO.sw rfl rfl rfl hb28 rfl rfl (StepS.ld0 rfl e0 kscalB_35_true rfl (idxm hx32) rfl) ?_
                    refine TO.sw rfl rfl rfl hb28 rfl rfl (StepS.cmpU (n := 0#32) rfl rfl rfl) ?_
                    cases hj30
                    refine TO.sw rfl rfl rfl hb23 rfl rfl (StepS.pickT rfl hb28 rfl) ?_
                    exact TO.up1 6 0 rfl rfl rfl rfl
                  · replace hj30 := cond_f hb28 hj30
                    cases hj30
                    refine TO.skip rfl rfl rfl (skipF hb28) rfl rfl ?_
                    refine TO.skip rfl rfl rfl (skipF hb28) rfl rfl ?_
                    refine TO.skip rfl rfl rfl (skipF hb28) rfl rfl ?_
                    refine TO.skip rfl rfl rfl (skipF hb28) rfl rfl ?_
                    refine TO.skip rfl rfl rfl (skipF hb28) rfl rfl ?_
                    refine TO.sw rfl rfl rfl hb23 rfl rfl (StepS.pickF rfl hb28 rfl) ?_
                    exact TO.up1 6 0 rfl rfl rfl rfl
                cases hj25
                refine TO.s rfl rfl rfl (StepS.pickF rfl hb23 rfl) ?_
                exact TO.up1 6 0 rfl rfl rfl rfl
            refine TO.s rfl rfl rfl (StepS.assign rfl) ?_
            refine TO.code ?_
            refine TC.region ?_
            refine TO.s rfl rfl rfl (StepS.move rfl) ?_
            refine TO.s rfl rfl rfl (StepS.ari rfl rfl rfl) ?_
            refine TO.s rfl rfl rfl (StepS.assign rfl) ?_
            cases hb21
            refine TO.nil fun a w e s => ?_
            exact ⟨e.sub (lk_of_allIn ⟨rfl, rfl, rfl, rfl, rfl, rfl, trivial⟩), s⟩
          · replace hb21 := cond_f hc22 hb21
            cases hb21
            refine TC.exit rfl fun a w e s => ?_
            exact ⟨e.sub (lk_of_allIn ⟨rfl, rfl, rfl, rfl, trivial⟩), s⟩
        · exact fun a w e s => ⟨e.sub (lk_of_allIn ⟨rfl, rfl, rfl, rfl, rfl, rfl, trivial⟩), s⟩
        · rintro b18 rfl a w ⟨he, hs⟩
          dsimp only [Ctl.on] at hj11
          refine TC.use ?_ he hs
          refine TC.k ?_
          refine TC.region ?_
          refine TO.s rfl rfl rfl (StepS.move rfl) ?_
          refine TO.s rfl rfl rfl (StepS.not rfl) ?_
          refine TO.code ?_
          refine TC.cond rfl (fun hc33 => ?_) (fun hc33 => ?_)
          · replace hj11 := cond_t hc33 hj11
            refine TC.region ?_
            refine TO.s rfl rfl rfl (StepS.move rfl) ?_
            refine TO.s rfl rfl rfl (StepS.move rfl) ?_
            refine TO.s rfl rfl rfl (StepS.cvIV kintB_3_i64_true kintB_44_u64_true rfl) ?_
            refine TO.s rfl rfl rfl (StepS.shl (m := 1#32) rfl rfl (u64_nonneg _)) ?_
            refine TO.s rfl rfl rfl (StepS.bitU rfl rfl rfl) ?_
            refine TO.s rfl rfl rfl (StepS.assign rfl) ?_
            cases hj11
            refine TO.nil fun a w e s => ?_
            exact ⟨e.sub (lk_of_allIn ⟨rfl, rfl, rfl, trivial⟩), s⟩
          · replace hj11 := cond_f hc33 hj11
            cases hj11
            refine TC.skip fun a w e s => ?_
            exact ⟨e.sub (lk_of_allIn ⟨rfl, rfl, rfl, trivial⟩), s⟩
        · rintro r rfl
          exact fun a w h => h.elim
      · intro a w ⟨he, hs⟩
        refine TC.use ?_ he hs
        refine TC.region ?_
        refine TO.s rfl rfl rfl (StepS.move rfl) ?_
        refine TO.s rfl rfl rfl (StepS.ari rfl rfl rfl) ?_
        refine TO.s rfl rfl rfl (StepS.assign rfl) ?_
        cases hb8
        refine TO.nil fun a w e s => ?_
        exact ⟨e.sub (lk_of_allIn ⟨rfl, rfl, rfl, trivial⟩), s⟩
    · replace hb8 := cond_f hc9 hb8
      cases hb8
      refine TC.exit rfl fun a w e s => ?_
      exact ⟨e.sub (lk_of_allIn ⟨rfl, trivial⟩), s⟩
  · exact fun a w e s => ⟨e.sub (lk_of_allIn ⟨rfl, rfl, rfl, trivial⟩), s⟩
  · rintro x5 rfl a w ⟨he, hs⟩
    dsimp only [Ctl.on] at hm
    refine TC.use ?_ he hs
    refine TC.k ?_
    refine TC.region ?_
    refine TO.s rfl rfl rfl (StepS.move rfl) ?_
    refine TO.s rfl rfl rfl (StepS.assign rfl) ?_
    refine TO.code ?_
    cases hm
    refine TC.ret fun a w e s => ?_
    refine FRet.mk1 (P := Try.prog) (fn := Try.f26) (t := 2) e rfl rfl ?_
    exact ⟨rfl, s.mono fun _ => Sat.dropN 0⟩
  · rintro r rfl
    exact fun a w h => h.elim

set_option maxRecDepth 100000 in
theorem C8 {B : World} {L : List HP} {a0 : List (BitVec 32)} {h0 : Value} {r0 : Bool} (e0 : Ent L (Rd 1 h0 (a0.map cU))) (hm : F8 a0 = some r0) {w : World} (st : St B L w) : Calls Try.prog 8 #[h0] w (fun e w' => (e = .returned (.bool r0) ∧ St B (L) w')) := by
  refine calls_of (N := 30) (L := L) (args := [h0]) Try.func8 rfl rfl rfl ?_ st
  dsimp only [F8] at hm
  refine TC.k ?_
  refine TC.region ?_
  refine TO.s rfl rfl rfl (StepS.assign rfl) ?_
  refine TO.code ?_
  refine TC.k ?_
  refine TC.region ?_
  refine TO.s rfl rfl rfl (StepS.move rfl) ?_
  obtain ⟨⟨r1, r2⟩, hc3, hm⟩ := bind_some hm
  refine TO.q rfl rfl rfl (StepQ.call kcallB_25_true rfl rfl (fun _ st => C25 e0 hc3 st)) ?_
  refine TO.s rfl rfl rfl (StepS.move rfl) ?_
  refine TO.s rfl rfl rfl (StepS.extract rfl rfl) ?_
  refine TO.s rfl rfl rfl (StepS.extract rfl rfl) ?_
  refine TO.s rfl rfl rfl (StepS.assign rfl) ?_
  refine TO.s rfl rfl rfl (StepS.assign rfl) ?_
  refine TO.code ?_
  refine TC.k ?_
  refine TC.region ?_
  refine TO.s rfl rfl rfl (StepS.move rfl) ?_
  obtain ⟨r4, hc5, hm⟩ := bind_some hm
  refine TO.q rfl rfl rfl (StepQ.call kcallB_23_true rfl rfl (fun _ st => C23 e0 hc5 st)) ?_
  refine TO.s rfl rfl rfl (StepS.assign rfl) ?_
  refine TO.code ?_
  refine TC.k ?_
  refine TC.k ?_
  refine TC.region ?_
  refine TO.s rfl rfl rfl (StepS.move rfl) ?_
  refine TO.s rfl rfl rfl (StepS.cmp rfl rfl rfl) ?_
  refine TO.code ?_
  refine TC.cond rfl (fun hc6 => ?_) (fun hc6 => ?_)
  · replace hm := cond_t hc6 hm
    refine TC.k ?_
    refine TC.region ?_
    refine TO.s rfl rfl rfl (StepS.move rfl) ?_
    refine TO.s rfl rfl rfl (StepS.move rfl) ?_
    refine TO.s rfl rfl rfl (StepS.cmp rfl rfl rfl) ?_
    refine TO.s rfl rfl rfl (StepS.move rfl) ?_
    refine TO.mid1 3 21 (.bool ((r2 == r4) && (r1 == (0#32)))) ?_ ?_
    · refine bcase ((r2 == r4)) (fun hb7 => ?_) (fun hb7 => ?_)
      · refine TO.sw rfl rfl rfl hb7 rfl rfl (StepS.move rfl) ?_
        refine TO.sw rfl rfl rfl hb7 rfl rfl (StepS.cmpU (n := 0#32) rfl rfl rfl) ?_
        refine TO.s rfl rfl rfl (StepS.pickT rfl hb7 rfl) ?_
        exact TO.up1 3 0 rfl rfl (by rw [hb7]; rfl) rfl
      · refine TO.skip rfl rfl rfl (skipF hb7) rfl rfl ?_
        refine TO.skip rfl rfl rfl (skipF hb7) rfl rfl ?_
        refine TO.s rfl rfl rfl (StepS.pickF rfl hb7 rfl) ?_
        exact TO.up1 3 0 rfl rfl (by rw [hb7]; rfl) rfl
    refine TO.s rfl rfl rfl (StepS.assign rfl) ?_
    refine TO.code ?_
    cases hm
    refine TC.ret fun a w e s => ?_
    refine FRet.mk1 (P := Try.prog) (fn := Try.f8) (t := 2) e rfl rfl ?_
    exact ⟨rfl, s.mono fun _ => Sat.dropN 0⟩
  · replace hm := cond_f hc6 hm
    refine TC.skipk ?_
    refine TC.k ?_
    refine TC.region ?_
    refine TO.s rfl rfl rfl (StepS.move rfl) ?_
    refine TO.s rfl rfl rfl (StepS.cmp rfl rfl rfl) ?_
    refine TO.s rfl rfl rfl (StepS.move rfl) ?_
    obtain ⟨b9, hj10, hm⟩ := bind_some hm
    refine TO.mid1 5 29 (.bool b9) ?_ ?_
    · refine bcase ((r2 == 0)) (fun hb8 => ?_) (fun hb8 => ?_)
      · replace hj10 := cond_t hb8 hj10
        refine TO.sw rfl rfl rfl hb8 rfl rfl (StepS.move rfl) ?_
        refine TO.sw rfl rfl rfl hb8 rfl rfl (StepS.move rfl) ?_
        obtain ⟨r11, hc12, hj10⟩ := bind_some hj10
        refine TO.qw rfl rfl rfl hb8 rfl rfl (StepQ.call kcallB_26_true rfl rfl (fun _ st => C26 e0 hc12 st)) ?_
        refine TO.sw rfl rfl rfl hb8 rfl rfl (StepS.cmpU rfl rfl rfl) ?_
        cases hj10
        refine TO.s rfl rfl rfl (StepS.pickT rfl hb8 rfl) ?_
        exact TO.up1 5 0 rfl rfl rfl rfl
      · replace hj10 := cond_f hb8 hj10
        cases hj10
        refine TO.skip rfl rfl rfl (skipF hb8) rfl rfl ?_
        refine TO.skip rfl rfl rfl (skipF hb8) rfl rfl ?_
        refine TO.skip rfl rfl rfl (skipF hb8) rfl rfl ?_
        refine TO.skip rfl rfl rfl (skipF hb8) rfl rfl ?_
        refine TO.s rfl rfl rfl (StepS.pickF rfl hb8 rfl) ?_
        exact TO.up1 5 0 rfl rfl rfl rfl
    refine TO.s rfl rfl rfl (StepS.assign rfl) ?_
    refine TO.code ?_
    cases hm
    refine TC.ret fun a w e s => ?_
    refine FRet.mk1 (P := Try.prog) (fn := Try.f8) (t := 2) e rfl rfl ?_
    exact ⟨rfl, s.mono fun _ => Sat.dropN 0⟩

set_option maxRecDepth 100000 in
theorem C57 {B : World} {L : List HP} {a0 : Int} {a1 : List (BitVec 32)} {h1 : Value} {r0 : BitVec 32} {r1 : Bool} (e1 : Ent L (Rd 1 h1 (a1.map cU))) (hm : F57 a0 a1 = some (r0, r1)) {w : World} (st : St B L w) : Calls Try.prog 57 #[I a0, h1] w (fun e w' => (e = .returned (.tuple #[U r0, .bool r1]) ∧ St B (L) w')) := by
  refine calls_of (N := 30) (L := L) (args := [I a0, h1]) Try.func57 rfl rfl rfl ?_ st
  dsimp only [F57] at hm
  refine TC.k ?_
  refine TC.region ?_
  refine TO.s rfl rfl rfl (StepS.assign rfl) ?_
  refine TO.s rfl rfl rfl (StepS.assign rfl) ?_
  refine TO.code ?_
  refine TC.k ?_
  refine TC.region ?_
  refine TO.s rfl rfl rfl (StepS.move rfl) ?_
  obtain ⟨k1, hk2, hm⟩ := bind_some hm
  refine TO.s rfl rfl rfl (StepS.shlk (m := 1#32) rfl rfl hk2) ?_
  refine TO.s rfl rfl rfl (StepS.bitU (n := 1#32) rfl rfl rfl) ?_
  refine TO.s rfl rfl rfl (StepS.assign rfl) ?_
  refine TO.code ?_
  refine TC.k ?_
  refine TC.k ?_
  refine TC.region ?_
  refine TO.s rfl rfl rfl (StepS.move rfl) ?_
  refine TO.s rfl rfl rfl (StepS.bitU (n := 1#32) rfl rfl rfl) ?_
  refine TO.s rfl rfl rfl (StepS.move rfl) ?_
  refine TO.code ?_
  obtain ⟨o5, hw6, hm⟩ := bind_some hm
  refine TC.loop hw6 (fun x3 => fun a w => Mid 30 B [(1, h1), (6, U (((1#32) <<< k1) - (1#32))), (12, U ((((1#32) <<< k1) - (1#32)) + (1#32))), (13, U x3)] (L) a w) (fun _ => fun a w => Mid 30 B [] (L) a w) (fun (r0, r1) => FRet Try.prog Try.f57 (fun e w' => (e = .returned (.tuple #[U r0, .bool r1]) ∧ St B (L) w'))) ?_ ?_ ?_ ?_
  · rintro x3 o5r hb7 a w ⟨he, hs⟩
    dsimp only [F57_L0] at hb7
    refine TC.use ?_ he hs
    refine TC.k ?_
    refine TC.region ?_
    refine TO.s rfl rfl rfl (StepS.cmpU rfl rfl rfl) ?_
    refine TO.code ?_
    refine TC.k ?_
    refine TC.cond rfl (fun hc8 => ?_) (fun hc8 => ?_)
    · replace hb7 := cond_t hc8 hb7
      refine TC.skipk ?_
      refine TC.k ?_
      refine TC.block ?_
      refine TC.k ?_
      refine TC.region ?_
      refine TO.s rfl rfl rfl (StepS.move rfl) ?_
      refine TO.s rfl rfl rfl (StepS.assign rfl) ?_
      refine TO.code ?_
      refine TC.k ?_
      refine TC.region ?_
      refine TO.s rfl rfl rfl (StepS.move rfl) ?_
      refine TO.s rfl rfl rfl (StepS.move rfl) ?_
      obtain ⟨r9, hc10, hb7⟩ := bind_some hb7
      refine TO.q rfl rfl rfl (StepQ.call kcallB_55_true rfl rfl (fun _ st => C55 e1 hc10 st)) ?_
      refine TO.s rfl rfl rfl (StepS.not rfl) ?_
      refine TO.s rfl rfl rfl (StepS.move rfl) ?_
      obtain ⟨b12, hj13, hb7⟩ := bind_some hb7
      refine TO.mid1 7 27 (.bool b12) ?_ ?_
      · refine bcase ((!r9)) (fun hb11 => ?_) (fun hb11 => ?_)
        · replace hj13 := cond_t hb11 hj13
          refine TO.sw rfl rfl rfl hb11 rfl rfl (StepS.move rfl) ?_
          refine TO.sw rfl rfl rfl hb11 rfl rfl (StepS.move rfl) ?_
          refine TO.sw rfl rfl rfl hb11 rfl rfl (StepS.move rfl) ?_
          refine TO.sw rfl rfl rfl hb11 rfl rfl (StepS.bitU rfl rfl rfl) ?_
          obtain ⟨r14, hc15, hj13⟩ := bind_some hj13
          refine TO.qw rfl rfl rfl hb11 rfl rfl (StepQ.call kcallB_55_true rfl rfl (fun _ st => C55 e1 hc15 st)) ?_
          refine TO.sw rfl rfl rfl hb11 rfl rfl (StepS.not rfl) ?_
          cases hj13
          refine TO.s rfl rfl rfl (StepS.pickT rfl hb11 rfl) ?_
          exact TO.up1 7 0 rfl rfl rfl rfl
        · replace hj13 := cond_f hb11 hj13
          cases hj13
          refine TO.skip rfl rfl rfl (skipF hb11) rfl rfl ?_
          refine TO.skip rfl rfl rfl (skipF hb11) rfl rfl ?_
          refine TO.skip rfl rfl rfl (skipF hb11) rfl rfl ?_
          refine TO.skip rfl rfl rfl (skipF hb11) rfl rfl ?_
          refine TO.skip rfl rfl rfl (skipF hb11) rfl rfl ?_
          refine TO.skip rfl rfl rfl (skipF hb11) rfl rfl ?_
          refine TO.s rfl rfl rfl (StepS.pickF rfl hb11 rfl) ?_
          exact TO.up1 7 0 rfl rfl rfl rfl
      refine TO.code ?_
      refine TC.cond rfl (fun hc16 => ?_) (fun hc16 => ?_)
      · replace hb7 := cond_t hc16 hb7
        refine TC.k ?_
        refine TC.region ?_
        refine TO.s rfl rfl rfl (StepS.move rfl) ?_
        refine TO.s rfl rfl rfl (StepS.assign rfl) ?_
        refine TO.s rfl rfl rfl (StepS.assign rfl) ?_
        refine TO.code ?_
        cases hb7
        refine TC.ret fun a w e s => ?_
        refine FRet.mk2 (P := Try.prog) (fn := Try.f57) (t := 4) (u := 5) e rfl rfl rfl ?_
        exact ⟨rfl, s.mono fun _ => Sat.dropN 0⟩
      · replace hb7 := cond_f hc16 hb7
        refine TC.skipk ?_
        refine TC.region ?_
        refine TO.s rfl rfl rfl (StepS.bitU (n := 1#32) rfl rfl rfl) ?_
        refine TO.s rfl rfl rfl (StepS.move rfl) ?_
        cases hb7
        refine TO.nil fun a w e s => ?_
        exact ⟨e.sub (lk_of_allIn ⟨rfl, rfl, rfl, rfl, trivial⟩), s⟩
    · replace hb7 := cond_f hc8 hb7
      cases hb7
      refine TC.exit rfl fun a w e s => ?_
      exact ⟨e.sub (lk_of_allIn trivial), s⟩
  · exact fun a w e s => ⟨e.sub (lk_of_allIn ⟨rfl, rfl, rfl, rfl, trivial⟩), s⟩
  · rintro _ rfl a w ⟨he, hs⟩
    dsimp only [Ctl.on] at hm
    refine TC.use ?_ he hs
    refine TC.k ?_
    refine TC.region ?_
    refine TO.s rfl rfl rfl (StepS.assign rfl) ?_
    refine TO.s rfl rfl rfl (StepS.assign rfl) ?_
    refine TO.code ?_
    cases hm
    refine TC.ret fun a w e s => ?_
    refine FRet.mk2 (P := Try.prog) (fn := Try.f57) (t := 4) (u := 5) e rfl rfl rfl ?_
    exact ⟨rfl, s.mono fun _ => Sat.dropN 0⟩
  · rintro r rfl
    cases hm
    exact fun a w h => h

set_option maxRecDepth 100000 in
theorem C36 {B : World} {L : List HP} {a0 : Int} {a1 : List (BitVec 32)} {h1 : Value} {r0 : Bool} {r1 : Int} (e1 : Ent L (Rd 1 h1 (a1.map cU))) (hm : F36 a0 a1 = some (r0, r1)) {w : World} (st : St B L w) : Calls Try.prog 36 #[I a0, h1] w (fun e w' => (e = .returned (.tuple #[.bool r0, I r1]) ∧ St B (L) w')) := by
  refine calls_of (N := 26) (L := L) (args := [I a0, h1]) Try.func36 rfl rfl rfl ?_ st
  dsimp only [F36] at hm
  refine TC.k ?_
  refine TC.region ?_
  refine TO.s rfl rfl rfl (StepS.assign rfl) ?_
  refine TO.s rfl rfl rfl (StepS.assign rfl) ?_
  refine TO.code ?_
  refine TC.k ?_
  refine TC.k ?_
  refine TC.region ?_
  refine TO.s rfl rfl rfl (StepS.move rfl) ?_
  refine TO.s rfl rfl rfl (StepS.move rfl) ?_
  obtain ⟨r1, hc2, hm⟩ := bind_some hm
  refine TO.q rfl rfl rfl (StepQ.call kcallB_54_true rfl rfl (fun _ st => C54 e1 hc2 st)) ?_
  refine TO.s rfl rfl rfl (StepS.assign rfl) ?_
  refine TO.code ?_
  refine TC.k ?_
  refine TC.region ?_
  refine TO.s rfl rfl rfl (StepS.move rfl) ?_
  refine TO.s rfl rfl rfl (StepS.cmp rfl rfl rfl) ?_
  refine TO.code ?_
  refine TC.cond rfl (fun hc3 => ?_) (fun hc3 => ?_)
  · replace hm := cond_t hc3 hm
    refine TC.k ?_
    refine TC.region ?_
    refine TO.s rfl rfl rfl (StepS.move rfl) ?_
    refine TO.s rfl rfl rfl (StepS.assign rfl) ?_
    refine TO.s rfl rfl rfl (StepS.assign rfl) ?_
    refine TO.code ?_
    cases hm
    refine TC.ret fun a w e s => ?_
    refine FRet.mk2 (P := Try.prog) (fn := Try.f36) (t := 4) (u := 5) e rfl rfl rfl ?_
    exact ⟨rfl, s.mono fun _ => Sat.dropN 0⟩
  · replace hm := cond_f hc3 hm
    refine TC.skipk ?_
    refine TC.k ?_
    refine TC.k ?_
    refine TC.region ?_
    refine TO.s rfl rfl rfl (StepS.move rfl) ?_
    obtain ⟨r4, hc5, hm⟩ := bind_some hm
    refine TO.q rfl rfl rfl (StepQ.call kcallB_56_true rfl rfl (fun _ st => C56 e1 hc5 st)) ?_
    refine TO.s rfl rfl rfl (StepS.not rfl) ?_
    refine TO.code ?_
    refine TC.cond rfl (fun hc6 => ?_) (fun hc6 => ?_)
    · replace hm := cond_t hc6 hm
      refine TC.k ?_
      refine TC.region ?_
      refine TO.s rfl rfl rfl (StepS.assign rfl) ?_
      refine TO.s rfl rfl rfl (StepS.assign rfl) ?_
      refine TO.code ?_
      cases hm
      refine TC.ret fun a w e s => ?_
      refine FRet.mk2 (P := Try.prog) (fn := Try.f36) (t := 4) (u := 5) e rfl rfl rfl ?_
      exact ⟨rfl, s.mono fun _ => Sat.dropN 0⟩
    · replace hm := cond_f hc6 hm
      refine TC.skipk ?_
      refine TC.k ?_
      refine TC.region ?_
      refine TO.s rfl rfl rfl (StepS.move rfl) ?_
      refine TO.s rfl rfl rfl (StepS.move rfl) ?_
      obtain ⟨⟨r7, r8⟩, hc9, hm⟩ := bind_some hm
      refine TO.q rfl rfl rfl (StepQ.call kcallB_57_true rfl rfl (fun _ st => C57 e1 hc9 st)) ?_
      refine TO.s rfl rfl rfl (StepS.move rfl) ?_
      refine TO.s rfl rfl rfl (StepS.extract rfl rfl) ?_
      refine TO.s rfl rfl rfl (StepS.extract rfl rfl) ?_
      refine TO.s rfl rfl rfl (StepS.assign rfl) ?_
      refine TO.s rfl rfl rfl (StepS.assign rfl) ?_
      refine TO.code ?_
      refine TC.k ?_
      refine TC.region ?_
      refine TO.s rfl rfl rfl (StepS.move rfl) ?_
      refine TO.s rfl rfl rfl (StepS.not rfl) ?_
      refine TO.s rfl rfl rfl (StepS.assign rfl) ?_
      refine TO.s rfl rfl rfl (StepS.assign rfl) ?_
      refine TO.code ?_
      cases hm
      refine TC.ret fun a w e s => ?_
      refine FRet.mk2 (P := Try.prog) (fn := Try.f36) (t := 4) (u := 5) e rfl rfl rfl ?_
      exact ⟨rfl, s.mono fun _ => Sat.dropN 0⟩

set_option maxRecDepth 100000 in
theorem C37 {B : World} {L : List HP} {a0 : Int} {a1 : List (BitVec 32)} {h1 : Value} {r0 : Int} (e1 : Ent L (Rd 1 h1 (a1.map cU))) (hm : F37 a0 a1 = some r0) {w : World} (st : St B L w) : Calls Try.prog 37 #[I a0, h1] w (fun e w' => (e = .returned (I r0) ∧ St B (L) w')) := by
  refine calls_of (N := 17) (L := L) (args := [I a0, h1]) Try.func37 rfl rfl rfl ?_ st
  dsimp only [F37] at hm
  refine TC.k ?_
  refine TC.region ?_
  refine TO.s rfl rfl rfl (StepS.assign rfl) ?_
  refine TO.code ?_
  refine TC.k ?_
  refine TC.region ?_
  refine TO.s rfl rfl rfl (StepS.move rfl) ?_
  refine TO.s rfl rfl rfl (StepS.move rfl) ?_
  obtain ⟨r1, hc2, hm⟩ := bind_some hm
  refine TO.q rfl rfl rfl (StepQ.call kcallB_32_true rfl rfl (fun _ st => C32 e1 hc2 st)) ?_
  refine TO.s rfl rfl rfl (StepS.assign rfl) ?_
  refine TO.code ?_
  refine TC.k ?_
  refine TC.k ?_
  refine TC.region ?_
  refine TO.s rfl rfl rfl (StepS.move rfl) ?_
  refine TO.s rfl rfl rfl (StepS.cmp rfl rfl rfl) ?_
  refine TO.s rfl rfl rfl (StepS.move rfl) ?_
  obtain ⟨b4, hj5, hm⟩ := bind_some hm
  refine TO.mid1 4 15 (.bool b4) ?_ ?_
  · refine bcase ((r1 == 0)) (fun hb3 => ?_) (fun hb3 => ?_)
    · replace hj5 := cond_t hb3 hj5
      refine TO.sw rfl rfl rfl hb3 rfl rfl (StepS.move rfl) ?_
      obtain ⟨r6, hc7, hj5⟩ := bind_some hj5
      refine TO.qw rfl rfl rfl hb3 rfl rfl (StepQ.call kcallB_35_true rfl rfl (fun _ st => C35 e1 hc7 st)) ?_
      refine TO.sw rfl rfl rfl hb3 rfl rfl (StepS.not rfl) ?_
      cases hj5
      refine TO.s rfl rfl rfl (StepS.pickT rfl hb3 rfl) ?_
      exact TO.up1 4 0 rfl rfl rfl rfl
    · replace hj5 := cond_f hb3 hj5
      cases hj5
      refine TO.skip rfl rfl rfl (skipF hb3) rfl rfl ?_
      refine TO.skip rfl rfl rfl (skipF hb3) rfl rfl ?_
      refine TO.skip rfl rfl rfl (skipF hb3) rfl rfl ?_
      refine TO.s rfl rfl rfl (StepS.pickF rfl hb3 rfl) ?_
      exact TO.up1 4 0 rfl rfl rfl rfl
  refine TO.code ?_
  obtain ⟨x8, hj9, hm⟩ := bind_some hm
  refine TC.cutM (fun a w => Mid 17 B [(5, I x8)] (L) a w) ?_ ?_
  · refine TC.cond rfl (fun hc10 => ?_) (fun hc10 => ?_)
    · replace hj9 := cond_t hc10 hj9
      refine TC.region ?_
      refine TO.s rfl rfl rfl (StepS.assign rfl) ?_
      cases hj9
      refine TO.nil fun a w e s => ?_
      exact ⟨e.sub (lk_of_allIn ⟨rfl, trivial⟩), s⟩
    · replace hj9 := cond_f hc10 hj9
      cases hj9
      refine TC.skip fun a w e s => ?_
      exact ⟨e.sub (lk_of_allIn ⟨rfl, trivial⟩), s⟩
  · intro a w ⟨he, hs⟩
    refine TC.use ?_ he hs
    refine TC.k ?_
    refine TC.region ?_
    refine TO.s rfl rfl rfl (StepS.move rfl) ?_
    refine TO.s rfl rfl rfl (StepS.assign rfl) ?_
    refine TO.code ?_
    cases hm
    refine TC.ret fun a w e s => ?_
    refine FRet.mk1 (P := Try.prog) (fn := Try.f37) (t := 4) e rfl rfl ?_
    exact ⟨rfl, s.mono fun _ => Sat.dropN 0⟩

set_option maxRecDepth 100000 in
theorem C38 {B : World} {L : List HP} {a0 : Int} {a1 : List (BitVec 32)} {h1 : Value} {r0 : Bool} (e1 : Ent L (Rd 1 h1 (a1.map cU))) (hm : F38 a0 a1 = some r0) {w : World} (st : St B L w) : Calls Try.prog 38 #[I a0, h1] w (fun e w' => (e = .returned (.bool r0) ∧ St B (L) w')) := by
  refine calls_of (N := 28) (L := L) (args := [I a0, h1]) Try.func38 rfl rfl rfl ?_ st
  dsimp only [F38] at hm
  refine TC.k ?_
  refine TC.region ?_
  refine TO.s rfl rfl rfl (StepS.assign rfl) ?_
  refine TO.code ?_
  refine TC.k ?_
  refine TC.k ?_
  refine TC.region ?_
  refine TO.s rfl rfl rfl (StepS.assign rfl) ?_
  refine TO.code ?_
  obtain ⟨o3, hw4, hm⟩ := bind_some hm
  refine TC.loop hw4 (fun x1 => fun a w => Mid 28 B [(0, I a0), (1, h1), (5, U x1)] (L) a w) (fun _ => fun a w => Mid 28 B [] (L) a w) (fun r0 => FRet Try.prog Try.f38 (fun e w' => (e = .returned (.bool r0) ∧ St B (L) w'))) ?_ ?_ ?_ ?_
  · rintro x1 o3r hb5 a w ⟨he, hs⟩
    dsimp only [F38_L0] at hb5
    refine TC.use ?_ he hs
    refine TC.k ?_
    refine TC.k ?_
    refine TC.region ?_
    refine TO.s rfl rfl rfl (StepS.move rfl) ?_
    refine TO.s rfl rfl rfl (StepS.move rfl) ?_
    refine TO.s rfl rfl rfl (StepS.cvIV kintB_3_i64_true kintB_44_u64_true rfl) ?_
    refine TO.s rfl rfl rfl (StepS.shl (m := 1#32) rfl rfl (u64_nonneg _)) ?_
    refine TO.s rfl rfl rfl (StepS.cmpU rfl rfl rfl) ?_
    refine TO.code ?_
    refine TC.cond rfl (fun hc6 => ?_) (fun hc6 => ?_)
    · replace hb5 := cond_t hc6 hb5
      refine TC.skipk ?_
      refine TC.k ?_
      refine TC.block ?_
      refine TC.k ?_
      refine TC.region ?_
      refine TO.s rfl rfl rfl (StepS.move rfl) ?_
      refine TO.s rfl rfl rfl (StepS.move rfl) ?_
      obtain ⟨r7, hc8, hb5⟩ := bind_some hb5
      refine TO.q rfl rfl rfl (StepQ.call kcallB_33_true rfl rfl (fun _ st => C33 e1 hc8 st)) ?_
      refine TO.s rfl rfl rfl (StepS.not rfl) ?_
      refine TO.s rfl rfl rfl (StepS.move rfl) ?_
      obtain ⟨b10, hj11, hb5⟩ := bind_some hb5
      refine TO.mid1 10 27 (.bool b10) ?_ ?_
      · refine bcase ((!r7)) (fun hb9 => ?_) (fun hb9 => ?_)
        · replace hj11 := cond_t hb9 hj11
          refine TO.sw rfl rfl rfl hb9 rfl rfl (StepS.move rfl) ?_
          refine TO.sw rfl rfl rfl hb9 rfl rfl (StepS.move rfl) ?_
          refine TO.sw rfl rfl rfl hb9 rfl rfl (StepS.cvIV kintB_3_i64_true kintB_44_u64_true rfl) ?_
          refine TO.sw rfl rfl rfl hb9 rfl rfl (StepS.shl (m := 1#32) rfl rfl (u64_nonneg _)) ?_
          refine TO.sw rfl rfl rfl hb9 rfl rfl (StepS.bitU (n := 1#32) rfl rfl rfl) ?_
          refine TO.sw rfl rfl rfl hb9 rfl rfl (StepS.move rfl) ?_
          refine TO.sw rfl rfl rfl hb9 rfl rfl (StepS.bitU rfl rfl rfl) ?_
          obtain ⟨r12, hc13, hj11⟩ := bind_some hj11
          refine TO.qw rfl rfl rfl hb9 rfl rfl (StepQ.call kcallB_33_true rfl rfl (fun _ st => C33 e1 hc13 st)) ?_
          refine TO.sw rfl rfl rfl hb9 rfl rfl (StepS.not rfl) ?_
          cases hj11
          refine TO.s rfl rfl rfl (StepS.pickT rfl hb9 rfl) ?_
          exact TO.up1 10 0 rfl rfl rfl rfl
        · replace hj11 := cond_f hb9 hj11
          cases hj11
          refine TO.skip rfl rfl rfl (skipF hb9) rfl rfl ?_
          refine TO.skip rfl rfl rfl (skipF hb9) rfl rfl ?_
          refine TO.skip rfl rfl rfl (skipF hb9) rfl rfl ?_
          refine TO.skip rfl rfl rfl (skipF hb9) rfl rfl ?_
          refine TO.skip rfl rfl rfl (skipF hb9) rfl rfl ?_
          refine TO.skip rfl rfl rfl (skipF hb9) rfl rfl ?_
          refine TO.skip rfl rfl rfl (skipF hb9) rfl rfl ?_
          refine TO.skip rfl rfl rfl (skipF hb9) rfl rfl ?_
          refine TO.skip rfl rfl rfl (skipF hb9) rfl rfl ?_
          refine TO.s rfl rfl rfl (StepS.pickF rfl hb9 rfl) ?_
          exact TO.up1 10 0 rfl rfl rfl rfl
      refine TO.code ?_
      refine TC.cond rfl (fun hc14 => ?_) (fun hc14 => ?_)
      · replace hb5 := cond_t hc14 hb5
        refine TC.k ?_
        refine TC.region ?_
        refine TO.s rfl rfl rfl (StepS.assign rfl) ?_
        refine TO.code ?_
        cases hb5
        refine TC.ret fun a w e s => ?_
        refine FRet.mk1 (P := Try.prog) (fn := Try.f38) (t := 4) e rfl rfl ?_
        exact ⟨rfl, s.mono fun _ => Sat.dropN 0⟩
      · replace hb5 := cond_f hc14 hb5
        refine TC.skipk ?_
        refine TC.region ?_
        refine TO.s rfl rfl rfl (StepS.move rfl) ?_
        refine TO.s rfl rfl rfl (StepS.bitU (n := 1#32) rfl rfl rfl) ?_
        refine TO.s rfl rfl rfl (StepS.assign rfl) ?_
        cases hb5
        refine TO.nil fun a w e s => ?_
        exact ⟨e.sub (lk_of_allIn ⟨rfl, rfl, rfl, trivial⟩), s⟩
    · replace hb5 := cond_f hc6 hb5
      cases hb5
      refine TC.exit rfl fun a w e s => ?_
      exact ⟨e.sub (lk_of_allIn trivial), s⟩
  · exact fun a w e s => ⟨e.sub (lk_of_allIn ⟨rfl, rfl, rfl, trivial⟩), s⟩
  · rintro _ rfl a w ⟨he, hs⟩
    dsimp only [Ctl.on] at hm
    refine TC.use ?_ he hs
    refine TC.k ?_
    refine TC.region ?_
    refine TO.s rfl rfl rfl (StepS.assign rfl) ?_
    refine TO.code ?_
    cases hm
    refine TC.ret fun a w e s => ?_
    refine FRet.mk1 (P := Try.prog) (fn := Try.f38) (t := 4) e rfl rfl ?_
    exact ⟨rfl, s.mono fun _ => Sat.dropN 0⟩
  · rintro r rfl
    cases hm
    exact fun a w h => h

set_option maxRecDepth 100000 in
theorem C12 {B : World} {L : List HP} {a0 : Int} {a1 : List (BitVec 32)} {h1 : Value} {r0 : Bool} (e1 : Ent L (Rd 1 h1 (a1.map cU))) (hm : F12 a0 a1 = some r0) {w : World} (st : St B L w) : Calls Try.prog 12 #[I a0, h1] w (fun e w' => (e = .returned (.bool r0) ∧ St B (L) w')) := by
  refine calls_of (N := 35) (L := L) (args := [I a0, h1]) Try.func12 rfl rfl rfl ?_ st
  dsimp only [F12] at hm
  refine TC.k ?_
  refine TC.region ?_
  refine TO.s rfl rfl rfl (StepS.assign rfl) ?_
  refine TO.code ?_
  refine TC.k ?_
  refine TC.region ?_
  refine TO.s rfl rfl rfl (StepS.move rfl) ?_
  refine TO.s rfl rfl rfl (StepS.move rfl) ?_
  obtain ⟨⟨r1, r2⟩, hc3, hm⟩ := bind_some hm
  refine TO.q rfl rfl rfl (StepQ.call kcallB_36_true rfl rfl (fun _ st => C36 e1 hc3 st)) ?_
  refine TO.s rfl rfl rfl (StepS.move rfl) ?_
  refine TO.s rfl rfl rfl (StepS.extract rfl rfl) ?_
  refine TO.s rfl rfl rfl (StepS.extract rfl rfl) ?_
  refine TO.s rfl rfl rfl (StepS.assign rfl) ?_
  refine TO.s rfl rfl rfl (StepS.assign rfl) ?_
  refine TO.code ?_
  refine TC.k ?_
  refine TC.region ?_
  refine TO.s rfl rfl rfl (StepS.move rfl) ?_
  refine TO.s rfl rfl rfl (StepS.move rfl) ?_
  obtain ⟨r4, hc5, hm⟩ := bind_some hm
  refine TO.q rfl rfl rfl (StepQ.call kcallB_37_true rfl rfl (fun _ st => C37 e1 hc5 st)) ?_
  refine TO.s rfl rfl rfl (StepS.assign rfl) ?_
  refine TO.code ?_
  refine TC.k ?_
  refine TC.k ?_
  refine TC.region ?_
  refine TO.s rfl rfl rfl (StepS.move rfl) ?_
  refine TO.s rfl rfl rfl (StepS.cmp rfl rfl rfl) ?_
  refine TO.code ?_
  refine TC.cond rfl (fun hc6 => ?_) (fun hc6 => ?_)
  · replace hm := cond_t hc6 hm
    refine TC.k ?_
    refine TC.region ?_
    refine TO.s rfl rfl rfl (StepS.move rfl) ?_
    refine TO.s rfl rfl rfl (StepS.move rfl) ?_
    refine TO.s rfl rfl rfl (StepS.cmp rfl rfl rfl) ?_
    refine TO.s rfl rfl rfl (StepS.move rfl) ?_
    refine TO.mid1 3 25 (.bool ((r2 == r4) && (!r1))) ?_ ?_
    · refine bcase ((r2 == r4)) (fun hb7 => ?_) (fun hb7 => ?_)
      · refine TO.sw rfl rfl rfl hb7 rfl rfl (StepS.move rfl) ?_
        refine TO.sw rfl rfl rfl hb7 rfl rfl (StepS.not rfl) ?_
        refine TO.s rfl rfl rfl (StepS.pickT rfl hb7 rfl) ?_
        exact TO.up1 3 0 rfl rfl (by rw [hb7]; rfl) rfl
      · refine TO.skip rfl rfl rfl (skipF hb7) rfl rfl ?_
        refine TO.skip rfl rfl rfl (skipF hb7) rfl rfl ?_
        refine TO.s rfl rfl rfl (StepS.pickF rfl hb7 rfl) ?_
        exact TO.up1 3 0 rfl rfl (by rw [hb7]; rfl) rfl
    refine TO.s rfl rfl rfl (StepS.assign rfl) ?_
    refine TO.code ?_
    cases hm
    refine TC.ret fun a w e s => ?_
    refine FRet.mk1 (P := Try.prog) (fn := Try.f12) (t := 4) e rfl rfl ?_
    exact ⟨rfl, s.mono fun _ => Sat.dropN 0⟩
  · replace hm := cond_f hc6 hm
    refine TC.skipk ?_
    refine TC.k ?_
    refine TC.region ?_
    refine TO.s rfl rfl rfl (StepS.move rfl) ?_
    refine TO.s rfl rfl rfl (StepS.cmp rfl rfl rfl) ?_
    refine TO.s rfl rfl rfl (StepS.move rfl) ?_
    obtain ⟨b9, hj10, hm⟩ := bind_some hm
    refine TO.mid1 6 34 (.bool b9) ?_ ?_
    · refine bcase ((r2 == 0)) (fun hb8 => ?_) (fun hb8 => ?_)
      · replace hj10 := cond_t hb8 hj10
        refine TO.sw rfl rfl rfl hb8 rfl rfl (StepS.move rfl) ?_
        refine TO.sw rfl rfl rfl hb8 rfl rfl (StepS.move rfl) ?_
        refine TO.sw rfl rfl rfl hb8 rfl rfl (StepS.move rfl) ?_
        obtain ⟨r11, hc12, hj10⟩ := bind_some hj10
        refine TO.qw rfl rfl rfl hb8 rfl rfl (StepQ.call kcallB_38_true rfl rfl (fun _ st => C38 e1 hc12 st)) ?_
        refine TO.sw rfl rfl rfl hb8 rfl rfl (StepS.eqB kunderlying_4_some_bool rfl rfl) ?_
        cases hj10
        refine TO.s rfl rfl rfl (StepS.pickT rfl hb8 rfl) ?_
        exact TO.up1 6 0 rfl rfl rfl rfl
      · replace hj10 := cond_f hb8 hj10
        cases hj10
        refine TO.skip rfl rfl rfl (skipF hb8) rfl rfl ?_
        refine TO.skip rfl rfl rfl (skipF hb8) rfl rfl ?_
        refine TO.skip rfl rfl rfl (skipF hb8) rfl rfl ?_
        refine TO.skip rfl rfl rfl (skipF hb8) rfl rfl ?_
        refine TO.skip rfl rfl rfl (skipF hb8) rfl rfl ?_
        refine TO.s rfl rfl rfl (StepS.pickF rfl hb8 rfl) ?_
        exact TO.up1 6 0 rfl rfl rfl rfl
    refine TO.s rfl rfl rfl (StepS.assign rfl) ?_
    refine TO.code ?_
    cases hm
    refine TC.ret fun a w e s => ?_
    refine FRet.mk1 (P := Try.prog) (fn := Try.f12) (t := 4) e rfl rfl ?_
    exact ⟨rfl, s.mono fun _ => Sat.dropN 0⟩

set_option maxRecDepth 100000 in
theorem C68 {B : World} {L : List HP} {a0 : List Int} {a1 : Int → Option Bool} {h0 : Value} {h1 : Value} {r0 : Int} (e0 : Ent L (Rd 1 h0 (a0.map cI))) (e1 : FOk Try.prog B L h1 (fun (z : Int) => [I z]) (fun (z : Bool) => .bool z) a1) (hm : F68 a0 a1 = some r0) {w : World} (st : St B L w) : Calls Try.prog 68 #[h0, h1] w (fun e w' => (e = .returned (I r0) ∧ St B (L) w')) := by
  refine calls_of (N := 19) (L := L) (args := [h0, h1]) Try.func68 rfl rfl rfl ?_ st
  dsimp only [F68] at hm
  refine TC.k ?_
  refine TC.region ?_
  refine TO.s rfl rfl rfl (StepS.assign rfl) ?_
  refine TO.code ?_
  refine TC.k ?_
  refine TC.k ?_
  refine TC.region ?_
  refine TO.s rfl rfl rfl (StepS.move rfl) ?_
  refine TO.s rfl rfl rfl (StepS.lenm rfl e0 ksliceB_28_3_1_true rfl) ?_
  refine TO.s rfl rfl rfl (StepS.move rfl) ?_
  refine TO.code ?_
  obtain ⟨o3, hw4, hm⟩ := bind_some hm
  refine TC.loop hw4 (fun x1 => fun a w => Mid 19 B [(0, h0), (1, h1), (7, I (a0.length : Int)), (8, I x1)] (L) a w) (fun _ => fun a w => Mid 19 B [] (L) a w) (fun r0 => FRet Try.prog Try.f68 (fun e w' => (e = .returned (I r0) ∧ St B (L) w'))) ?_ ?_ ?_ ?_
  · rintro x1 o3r hb5 a w ⟨he, hs⟩
    dsimp only [F68_L0] at hb5
    refine TC.use ?_ he hs
    refine TC.k ?_
    refine TC.region ?_
    refine TO.s rfl rfl rfl (StepS.cmp rfl rfl rfl) ?_
    refine TO.code ?_
    refine TC.k ?_
    refine TC.cond rfl (fun hc6 => ?_) (fun hc6 => ?_)
    · replace hb5 := cond_t hc6 hb5
      refine TC.skipk ?_
      refine TC.k ?_
      refine TC.block ?_
      refine TC.k ?_
      refine TC.region ?_
      refine TO.s rfl rfl rfl (StepS.move rfl) ?_
      refine TO.s rfl rfl rfl (StepS.assign rfl) ?_
      refine TO.code ?_
      refine TC.k ?_
      refine TC.region ?_
      refine TO.s rfl rfl rfl (StepS.move rfl) ?_
      refine TO.s rfl rfl rfl (StepS.move rfl) ?_
      refine TO.s rfl rfl rfl (StepS.move rfl) ?_
      obtain ⟨x7, hx8, hb5⟩ := bind_some hb5
      refine TO.s rfl rfl rfl (StepS.idx rfl rfl e0 ksliceB_28_3_1_true (idx_spec hx8).1 (idxm_lt hx8)) ?_
      refine TO.s rfl rfl rfl (StepS.ld0 rfl e0 kscalB_3_true rfl (idxm hx8) rfl) ?_
      obtain ⟨r9, hc10, hb5⟩ := bind_some hb5
      refine TO.q rfl rfl rfl (StepQ.callF (x := x7) e1 (Ext.rfl) rfl rfl hc10) ?_
      refine TO.code ?_
      refine TC.cond rfl (fun hc11 => ?_) (fun hc11 => ?_)
      · replace hb5 := cond_t hc11 hb5
        refine TC.k ?_
        refine TC.region ?_
        refine TO.s rfl rfl rfl (StepS.move rfl) ?_
        refine TO.s rfl rfl rfl (StepS.assign rfl) ?_
        refine TO.code ?_
        cases hb5
        refine TC.ret fun a w e s => ?_
        refine FRet.mk1 (P := Try.prog) (fn := Try.f68) (t := 4) e rfl rfl ?_
        exact ⟨rfl, s.mono fun _ => Sat.dropN 0⟩
      · replace hb5 := cond_f hc11 hb5
        refine TC.skipk ?_
        refine TC.region ?_
        refine TO.s rfl rfl rfl (StepS.ari rfl rfl rfl) ?_
        refine TO.s rfl rfl rfl (StepS.move rfl) ?_
        cases hb5
        refine TO.nil fun a w e s => ?_
        exact ⟨e.sub (lk_of_allIn ⟨rfl, rfl, rfl, rfl, trivial⟩), s⟩
    · replace hb5 := cond_f hc6 hb5
      cases hb5
      refine TC.exit rfl fun a w e s => ?_
      exact ⟨e.sub (lk_of_allIn trivial), s⟩
  · exact fun a w e s => ⟨e.sub (lk_of_allIn ⟨rfl, rfl, rfl, rfl, trivial⟩), s⟩
  · rintro _ rfl a w ⟨he, hs⟩
    dsimp only [Ctl.on] at hm
    refine TC.use ?_ he hs
    refine TC.k ?_
    refine TC.region ?_
    refine TO.s rfl rfl rfl (StepS.assign rfl) ?_
    refine TO.code ?_
    cases hm
    refine TC.ret fun a w e s => ?_
    refine FRet.mk1 (P := Try.prog) (fn := Try.f68) (t := 4) e rfl rfl ?_
    exact ⟨rfl, s.mono fun _ => Sat.dropN 0⟩
  · rintro r rfl
    cases hm
    exact fun a w h => h

set_option maxRecDepth 100000 in
theorem C58 {B : World} {L : List HP} {a0 : List Int} {a1 : Int → Option Bool} {h0 : Value} {h1 : Value} {r0 : Bool} (e0 : Ent L (Rd 1 h0 (a0.map cI))) (e1 : FOk Try.prog B L h1 (fun (z : Int) => [I z]) (fun (z : Bool) => .bool z) a1) (hm : F58 a0 a1 = some r0) {w : World} (st : St B L w) : Calls Try.prog 58 #[h0, h1] w (fun e w' => (e = .returned (.bool r0) ∧ St B (L) w')) := by
  refine calls_of (N := 9) (L := L) (args := [h0, h1]) Try.func58 rfl rfl rfl ?_ st
  dsimp only [F58] at hm
  refine TC.k ?_
  refine TC.region ?_
  refine TO.s rfl rfl rfl (StepS.assign rfl) ?_
  refine TO.code ?_
  refine TC.k ?_
  refine TC.region ?_
  refine TO.s rfl rfl rfl (StepS.move rfl) ?_
  refine TO.s rfl rfl rfl (StepS.move rfl) ?_
  obtain ⟨r1, hc2, hm⟩ := bind_some hm
  refine TO.q rfl rfl rfl (StepQ.call kcallB_68_true rfl rfl (fun _ st => C68 e0 (e1.ext (Ext.rfl)) hc2 st)) ?_
  refine TO.s rfl rfl rfl (StepS.cmp rfl rfl rfl) ?_
  refine TO.s rfl rfl rfl (StepS.assign rfl) ?_
  refine TO.code ?_
  cases hm
  refine TC.ret fun a w e s => ?_
  refine FRet.mk1 (P := Try.prog) (fn := Try.f58) (t := 4) e rfl rfl ?_
  exact ⟨rfl, s.mono fun _ => Sat.dropN 0⟩

set_option maxRecDepth 100000 in
theorem C59 {B : World} {L : List HP} {a0 : Int} {r0 : Bool} (hm : F59 a0 = some r0) {w : World} (st : St B L w) : Calls Try.prog 59 #[I a0] w (fun e w' => (e = .returned (.bool r0) ∧ St B (L) w')) := by
  refine calls_of (N := 9) (L := L) (args := [I a0]) Try.func59 rfl rfl rfl ?_ st
  dsimp only [F59] at hm
  refine TC.k ?_
  refine TC.region ?_
  refine TO.s rfl rfl rfl (StepS.assign rfl) ?_
  refine TO.code ?_
  refine TC.k ?_
  refine TC.region ?_
  refine TO.s rfl rfl rfl (StepS.move rfl) ?_
  refine TO.s rfl rfl rfl (StepS.cmp rfl rfl rfl) ?_
  refine TO.s rfl rfl rfl (StepS.move rfl) ?_
  refine TO.mid1 3 8 (.bool ((decide (a0 < 0)) || (decide (a0 > 100)))) ?_ ?_
  · refine bcase ((decide (a0 < 0))) (fun hb1 => ?_) (fun hb1 => ?_)
    · refine TO.skip rfl rfl rfl (skipT hb1) rfl rfl ?_
      refine TO.skip rfl rfl rfl (skipT hb1) rfl rfl ?_
      refine TO.s rfl rfl rfl (StepS.pickT rfl hb1 rfl) ?_
      exact TO.up1 3 0 rfl rfl (by rw [hb1]; rfl) rfl
    · refine TO.sw rfl rfl rfl hb1 rfl rfl (StepS.move rfl) ?_
      refine TO.sw rfl rfl rfl hb1 rfl rfl (StepS.cmp rfl rfl rfl) ?_
      refine TO.s rfl rfl rfl (StepS.pickF rfl hb1 rfl) ?_
      exact TO.up1 3 0 rfl rfl (by rw [hb1]; rfl) rfl
  refine TO.s rfl rfl rfl (StepS.assign rfl) ?_
  refine TO.code ?_
  cases hm
  refine TC.ret fun a w e s => ?_
  refine FRet.mk1 (P := Try.prog) (fn := Try.f59) (t := 2) e rfl rfl ?_
  exact ⟨rfl, s.mono fun _ => Sat.dropN 0⟩

set_option maxRecDepth 100000 in
theorem C60 {B : World} {L : List HP} {a0 : BitVec 32} {a1 : List Int} {b1_ : Nat} {h1 : Value} {r0 : Int} (g1 : Ent L (Bx b1_ 28 [h1])) (e1 : Ent L (Rd 1 h1 (a1.map cI))) (hm : F60 a0 a1 = some r0) {w : World} (st : St B L w) : Calls Try.prog 60 #[U a0, .pointer (some ⟨b1_, 0, none⟩)] w (fun e w' => (e = .returned (I r0) ∧ St B (L) w')) := by
  refine calls_of (N := 25) (L := L) (args := [U a0, .pointer (some ⟨b1_, 0, none⟩)]) Try.func60 rfl rfl rfl ?_ st
  dsimp only [F60] at hm
  refine TC.k ?_
  refine TC.region ?_
  refine TO.s rfl rfl rfl (StepS.assign rfl) ?_
  refine TO.code ?_
  refine TC.k ?_
  refine TC.region ?_
  refine TO.s rfl rfl rfl (StepS.assign rfl) ?_
  refine TO.code ?_
  refine TC.k ?_
  refine TC.k ?_
  refine TC.region ?_
  refine TO.s rfl rfl rfl (StepS.ldB rfl g1 kscalB_28_true rfl) ?_
  refine TO.s rfl rfl rfl (StepS.lenm rfl e1 ksliceB_28_3_1_true rfl) ?_
  refine TO.s rfl rfl rfl (StepS.move rfl) ?_
  refine TO.code ?_
  obtain ⟨o6, hw7, hm⟩ := bind_some hm
  refine TC.loop hw7 (fun (x1, x2) => fun a w => Mid 25 B [(0, U a0), (4, I x1), (7, h1), (8, I (a1.length : Int)), (9, I x2)] (L) a w) (fun x5 => fun a w => Mid 25 B [(4, I x5)] (L) a w) (fun (_ : Unit) _ _ => False) ?_ ?_ ?_ ?_
  · rintro ⟨x1, x2⟩ o6r hb8 a w ⟨he, hs⟩
    dsimp only [F60_L0] at hb8
    refine TC.use ?_ he hs
    refine TC.k ?_
    refine TC.region ?_
    refine TO.s rfl rfl rfl (StepS.cmp rfl rfl rfl) ?_
    refine TO.code ?_
    refine TC.k ?_
    refine TC.cond rfl (fun hc9 => ?_) (fun hc9 => ?_)
    · replace hb8 := cond_t hc9 hb8
      refine TC.skipk ?_
      refine TC.k ?_
      refine TC.block ?_
      refine TC.k ?_
      refine TC.region ?_
      refine TO.s rfl rfl rfl (StepS.move rfl) ?_
      obtain ⟨x10, hx11, hb8⟩ := bind_some hb8
      refine TO.s rfl rfl rfl (StepS.idx rfl rfl e1 ksliceB_28_3_1_true (idx_spec hx11).1 (idxm_lt hx11)) ?_
      refine TO.s rfl rfl rfl (StepS.ld0 rfl e1 kscalB_3_true rfl (idxm hx11) rfl) ?_
      refine TO.s rfl rfl rfl (StepS.assign rfl) ?_
      refine TO.s rfl rfl rfl (StepS.assign rfl) ?_
      refine TO.code ?_
      refine TC.region ?_
      refine TO.s rfl rfl rfl (StepS.move rfl) ?_
      refine TO.s rfl rfl rfl (StepS.move rfl) ?_
      refine TO.s rfl rfl rfl (StepS.move rfl) ?_
      refine TO.s rfl rfl rfl (StepS.move rfl) ?_
      obtain ⟨k12, hk13, hb8⟩ := bind_some hb8
      refine TO.s rfl rfl rfl (StepS.shrk rfl rfl hk13) ?_
      refine TO.s rfl rfl rfl (StepS.bitU (n := 1#32) rfl rfl rfl) ?_
      refine TO.s rfl rfl rfl (StepS.cvUI kintB_35_u32_true kintB_3_i64_true rfl) ?_
      refine TO.s rfl rfl rfl (StepS.ari rfl rfl rfl) ?_
      refine TO.s rfl rfl rfl (StepS.ari rfl rfl rfl) ?_
      refine TO.s rfl rfl rfl (StepS.assign rfl) ?_
      refine TO.code ?_
      refine TC.region ?_
      refine TO.s rfl rfl rfl (StepS.ari rfl rfl rfl) ?_
      refine TO.s rfl rfl rfl (StepS.move rfl) ?_
      cases hb8
      refine TO.nil fun a w e s => ?_
      exact ⟨e.sub (lk_of_allIn ⟨rfl, rfl, rfl, rfl, rfl, trivial⟩), s⟩
    · replace hb8 := cond_f hc9 hb8
      cases hb8
      refine TC.exit rfl fun a w e s => ?_
      exact ⟨e.sub (lk_of_allIn ⟨rfl, trivial⟩), s⟩
  · exact fun a w e s => ⟨e.sub (lk_of_allIn ⟨rfl, rfl, rfl, rfl, rfl, trivial⟩), s⟩
  · rintro x5 rfl a w ⟨he, hs⟩
    dsimp only [Ctl.on] at hm
    refine TC.use ?_ he hs
    refine TC.k ?_
    refine TC.region ?_
    refine TO.s rfl rfl rfl (StepS.move rfl) ?_
    refine TO.s rfl rfl rfl (StepS.assign rfl) ?_
    refine TO.code ?_
    cases hm
    refine TC.ret fun a w e s => ?_
    refine FRet.mk1 (P := Try.prog) (fn := Try.f60) (t := 3) e rfl rfl ?_
    exact ⟨rfl, s.mono fun _ => Sat.dropN 0⟩
  · rintro r rfl
    exact fun a w h => h.elim

set_option maxRecDepth 100000 in
theorem C39 {B : World} {L : List HP} {a0 : List Int} {a1 : Int} {h0 : Value} {r0 : List (BitVec 32)} {r1 : Int} (e0 : Ent L (Rd 1 h0 (a0.map cI))) (hm : F39 a0 a1 = some (r0, r1)) {w : World} (st : St B L w) : Calls Try.prog 39 #[h0, I a1] w (fun e w' => ∃ v M, e = .returned v ∧ (∃ (qv1 : Value), v = .tuple #[qv1, I r1] ∧ M = (OwnS 35 1 qv1 (r0.map cU) :: L)) ∧ St B M w') := by
  refine calls_of (N := 71) (L := L) (args := [h0, I a1]) Try.func39 rfl rfl rfl ?_ st
  dsimp only [F39] at hm
  refine TC.k ?_
  refine TC.region ?_
  refine TO.boxS rfl e0 rfl fun b2 => ?_
  refine TO.s rfl rfl rfl (StepS.assign rfl) ?_
  refine TO.s rfl rfl rfl (StepS.assign rfl) ?_
  refine TO.code ?_
  refine TC.k ?_
  refine TC.region ?_
  refine TO.s rfl rfl rfl (StepS.ldB rfl (Ent.at 0 rfl) kscalB_28_true rfl) ?_
  refine TO.s rfl rfl rfl (StepS.lenm rfl e0.tl ksliceB_28_3_1_true rfl) ?_
  refine TO.s rfl rfl rfl (StepS.assign rfl) ?_
  refine TO.code ?_
  refine TC.k ?_
  refine TC.k ?_
  refine TC.region ?_
  refine TO.s rfl rfl rfl (StepS.move rfl) ?_
  refine TO.s rfl rfl rfl (StepS.cmp rfl rfl rfl) ?_
  refine TO.s rfl rfl rfl (StepS.move rfl) ?_
  refine TO.mid1 3 19 (.bool ((decide ((a0.length : Int) < 1)) || (decide ((a0.length : Int) > 6)))) ?_ ?_
  · refine bcase ((decide ((a0.length : Int) < 1))) (fun hb3 => ?_) (fun hb3 => ?_)
    · refine TO.skip rfl rfl rfl (skipT hb3) rfl rfl ?_
      refine TO.skip rfl rfl rfl (skipT hb3) rfl rfl ?_
      refine TO.s rfl rfl rfl (StepS.pickT rfl hb3 rfl) ?_
      exact TO.up1 3 0 rfl rfl (by rw [hb3]; rfl) rfl
    · refine TO.sw rfl rfl rfl hb3 rfl rfl (StepS.move rfl) ?_
      refine TO.sw rfl rfl rfl hb3 rfl rfl (StepS.cmp rfl rfl rfl) ?_
      refine TO.s rfl rfl rfl (StepS.pickF rfl hb3 rfl) ?_
      exact TO.up1 3 0 rfl rfl (by rw [hb3]; rfl) rfl
  refine TO.code ?_
  refine TC.cond rfl (fun hc4 => ?_) (fun hc4 => ?_)
  · replace hm := cond_t hc4 hm
    refine TC.k ?_
    refine TC.region ?_
    refine TO.s rfl rfl rfl (StepS.assign rfl) ?_
    refine TO.s rfl rfl rfl (StepS.assign rfl) ?_
    refine TO.code ?_
    cases hm
    refine TC.ret fun a w e s => ?_
    refine FRet.mk2 (P := Try.prog) (fn := Try.f39) (t := 4) (u := 5) e rfl rfl rfl ?_
    refine ⟨_, _, rfl, ⟨(.slice none 0 0), rfl, rfl⟩, ?_⟩
    refine s.mono fun _ s => ?_
    replace s := Sat.nilS (e := 35) (sz := 1) (f := cU) s
    replace s := Sat.erase 1 s
    exact s
  · replace hm := cond_f hc4 hm
    refine TC.skipk ?_
    refine TC.k ?_
    refine TC.k ?_
    refine TC.region ?_
    refine TO.s rfl rfl rfl (StepS.ldB rfl (Ent.at 0 rfl) kscalB_28_true rfl) ?_
    obtain ⟨r5, hc6, hm⟩ := bind_some hm
    refine TO.q rfl rfl rfl (StepQ.call kcallB_58_true rfl rfl (fun _ st => C58 e0.tl ⟨59, #[], #[], rfl, kcallB_59_true, fun _ hx z r hm w st => C59  hm st⟩ hc6 st)) ?_
    refine TO.s rfl rfl rfl (StepS.move rfl) ?_
    refine TO.mid1 3 25 (.bool (r5 || (decide (a1 < 1)))) ?_ ?_
    · refine bcase (r5) (fun hb7 => ?_) (fun hb7 => ?_)
      · refine TO.skip rfl rfl rfl (skipT hb7) rfl rfl ?_
        refine TO.skip rfl rfl rfl (skipT hb7) rfl rfl ?_
        refine TO.s rfl rfl rfl (StepS.pickT rfl hb7 rfl) ?_
        exact TO.up1 3 0 rfl rfl (by rw [hb7]; rfl) rfl
      · refine TO.sw rfl rfl rfl hb7 rfl rfl (StepS.move rfl) ?_
        refine TO.sw rfl rfl rfl hb7 rfl rfl (StepS.cmp rfl rfl rfl) ?_
        refine TO.s rfl rfl rfl (StepS.pickF rfl hb7 rfl) ?_
        exact TO.up1 3 0 rfl rfl (by rw [hb7]; rfl) rfl
    refine TO.code ?_
    refine TC.cond rfl (fun hc8 => ?_) (fun hc8 => ?_)
    · replace hm := cond_t hc8 hm
      refine TC.k ?_
      refine TC.region ?_
      refine TO.s rfl rfl rfl (StepS.assign rfl) ?_
      refine TO.s rfl rfl rfl (StepS.assign rfl) ?_
      refine TO.code ?_
      cases hm
      refine TC.ret fun a w e s => ?_
      refine FRet.mk2 (P := Try.prog) (fn := Try.f39) (t := 4) (u := 5) e rfl rfl rfl ?_
      refine ⟨_, _, rfl, ⟨(.slice none 0 0), rfl, rfl⟩, ?_⟩
      refine s.mono fun _ s => ?_
      replace s := Sat.nilS (e := 35) (sz := 1) (f := cU) s
      replace s := Sat.erase 1 s
      exact s
    · replace hm := cond_f hc8 hm
      refine TC.skipk ?_
      refine TC.k ?_
      refine TC.region ?_
      refine TO.s rfl rfl rfl (StepS.mkfn rfl) ?_
      refine TO.s rfl rfl rfl (StepS.assign rfl) ?_
      refine TO.code ?_
      refine TC.k ?_
      refine TC.region ?_
      refine TO.s rfl rfl rfl (StepS.assign rfl) ?_
      refine TO.code ?_
      refine TC.k ?_
      refine TC.k ?_
      refine TC.region ?_
      refine TO.s rfl rfl rfl (StepS.move rfl) ?_
      obtain ⟨k9, hk10, hm⟩ := bind_some hm
      refine TO.s rfl rfl rfl (StepS.shlk (m := 1#32) rfl rfl hk10) ?_
      refine TO.s rfl rfl rfl (StepS.move rfl) ?_
      refine TO.code ?_
      obtain ⟨o22, hw23, hm⟩ := bind_some hm
      refine TC.loop hw23 (fun (y13, x14) => fun a w => ∃ v11 : Value, Mid 71 B [(1, I a1), (2, .pointer (some ⟨b2, 0, none⟩)), (7, .func (.func 60) #[] #[.pointer (some ⟨b2, 0, none⟩)]), (8, v11), (28, U ((1#32) <<< k9)), (29, U x14)] (OwnS 35 1 v11 (y13.map cU) :: Bx b2 28 [h0] :: L) a w) (fun y21 => fun a w => ∃ v19 : Value, Mid 71 B [(8, v19)] (OwnS 35 1 v19 (y21.map cU) :: Bx b2 28 [h0] :: L) a w) (fun (_ : Unit) _ _ => False) ?_ ?_ ?_ ?_
      · rintro ⟨y13, x14⟩ o22r hb24 a w ⟨v11, he, hs⟩
        dsimp only [F39_L0] at hb24
        refine TC.use ?_ he hs
        refine TC.k ?_
        refine TC.region ?_
        refine TO.s rfl rfl rfl (StepS.cmpU rfl rfl rfl) ?_
        refine TO.code ?_
        refine TC.k ?_
        refine TC.cond rfl (fun hc25 => ?_) (fun hc25 => ?_)
        · replace hb24 := cond_t hc25 hb24
          refine TC.skipk ?_
          refine TC.k ?_
          obtain ⟨y26, hj28, hb24⟩ := bind_some hb24
          refine TC.cutM (fun a w => ∃ v27 : Value, Mid 71 B [(1, I a1), (2, .pointer (some ⟨b2, 0, none⟩)), (7, .func (.func 60) #[] #[.pointer (some ⟨b2, 0, none⟩)]), (8, v27), (28, U ((1#32) <<< k9)), (29, U x14)] (OwnS 35 1 v27 (y26.map cU) :: Bx b2 28 [h0] :: L) a w) ?_ ?_
          · refine TC.block ?_
            refine TC.k ?_
            refine TC.region ?_
            refine TO.s rfl rfl rfl (StepS.move rfl) ?_
            refine TO.s rfl rfl rfl (StepS.assign rfl) ?_
            refine TO.code ?_
            refine TC.k ?_
            refine TC.k ?_
            refine TC.region ?_
            refine TO.s rfl rfl rfl (StepS.move rfl) ?_
            refine TO.s rfl rfl rfl (StepS.move rfl) ?_
            obtain ⟨r29, hc30, hj28⟩ := bind_some hj28
            refine TO.q rfl rfl rfl (StepQ.callC kcallB_60_true rfl rfl rfl (fun _ st => C60 (Ent.at 1 rfl) e0.tl.tl hc30 st)) ?_
            refine TO.s rfl rfl rfl (StepS.move rfl) ?_
            refine TO.s rfl rfl rfl (StepS.cmp rfl rfl rfl) ?_
            refine TO.code ?_
            refine TC.cond rfl (fun hc31 => ?_) (fun hc31 => ?_)
            · replace hj28 := cond_t hc31 hj28
              cases hj28
              refine TC.exit rfl fun a w e s => ?_
              exact ⟨v11, e.sub (lk_of_allIn ⟨rfl, rfl, rfl, rfl, rfl, rfl, trivial⟩), s⟩
            · replace hj28 := cond_f hc31 hj28
              refine TC.skipk ?_
              refine TC.k ?_
              refine TC.region ?_
              refine TO.s rfl rfl rfl (StepS.assign rfl) ?_
              refine TO.code ?_
              refine TC.k ?_
              refine TC.k ?_
              refine TC.region ?_
              refine TO.s rfl rfl rfl (StepS.ldB rfl (Ent.at 1 rfl) kscalB_28_true rfl) ?_
              refine TO.s rfl rfl rfl (StepS.lenm rfl e0.tl.tl ksliceB_28_3_1_true rfl) ?_
              refine TO.s rfl rfl rfl (StepS.move rfl) ?_
              refine TO.code ?_
              obtain ⟨o37, hw38, hj28⟩ := bind_some hj28
              refine TC.loop hw38 (fun (b32, x33) => fun a w => Mid 71 B [(1, I a1), (2, .pointer (some ⟨b2, 0, none⟩)), (7, .func (.func 60) #[] #[.pointer (some ⟨b2, 0, none⟩)]), (8, v11), (9, U x14), (10, .bool b32), (28, U ((1#32) <<< k9)), (29, U x14), (38, I (a0.length : Int)), (39, I x33)] (OwnS 35 1 v11 (y13.map cU) :: Bx b2 28 [h0] :: L) a w) (fun b36 => fun a w => Mid 71 B [(1, I a1), (2, .pointer (some ⟨b2, 0, none⟩)), (7, .func (.func 60) #[] #[.pointer (some ⟨b2, 0, none⟩)]), (8, v11), (9, U x14), (10, .bool b36), (28, U ((1#32) <<< k9)), (29, U x14)] (OwnS 35 1 v11 (y13.map cU) :: Bx b2 28 [h0] :: L) a w) (fun (_ : Unit) _ _ => False) ?_ ?_ ?_ ?_
              · rintro ⟨b32, x33⟩ o37r hb39 a w ⟨he, hs⟩
                dsimp only [F39_L1] at hb39
                refine TC.use ?_ he hs
                refine TC.k ?_
                refine TC.region ?_
                refine TO.s rfl rfl rfl (StepS.cmp rfl rfl rfl) ?_
                refine TO.code ?_
                refine TC.k ?_
                refine TC.cond rfl (fun hc40 => ?_) (fun hc40 => ?_)
                · replace hb39 := cond_t hc40 hb39
                  refine TC.skipk ?_
                  refine TC.k ?_
                  refine TC.block ?_
                  refine TC.k ?_
                  refine TC.region ?_
                  refine TO.s rfl rfl rfl (StepS.move rfl) ?_
                  refine TO.s rfl rfl rfl (StepS.assign rfl) ?_
                  refine TO.code ?_
                  refine TC.region ?_
                  refine TO.s rfl rfl rfl (StepS.move rfl) ?_
                  refine TO.s rfl rfl rfl (StepS.move rfl) ?_
                  obtain ⟨b42, hj43, hb39⟩ := bind_some hb39
                  refine TO.mid1 16 59 (.bool b42) ?_ ?_
                  · refine bcase (b32) (fun hb41 => ?_) (fun hb41 => ?_)
                    · replace hj43 := cond_t hb41 hj43
                      refine TO.sw rfl rfl rfl hb41 rfl rfl (StepS.move rfl) ?_
                      refine TO.sw rfl rfl rfl hb41 rfl rfl (StepS.move rfl) ?_
                      obtain ⟨k44, hk45, hj43⟩ := bind_some hj43
                      refine TO.sw rfl rfl rfl hb41 rfl rfl (StepS.shrk rfl rfl hk45) ?_
                      refine TO.sw rfl rfl rfl hb41 rfl rfl (StepS.bitU (n := 1#32) rfl rfl rfl) ?_
                      refine TO.sw rfl rfl rfl hb41 rfl rfl (StepS.cmpU (n := 0#32) rfl rfl rfl) ?_
                      refine TO.sw rfl rfl rfl hb41 rfl rfl (StepS.move rfl) ?_
                      obtain ⟨b47, hj48, hj43⟩ := bind_some hj43
                      refine TO.mid1 9 58 (.bool b47) ?_ ?_
                      · refine bcase ((((x14 >>> k44) &&& (1#32)) == (0#32))) (fun hb46 => ?_) (fun hb46 => ?_)
                        · replace hj48 := cond_t hb46 hj48
                          cases hj48
                          refine TO.skip rfl rfl rfl (skipT hb46) rfl rfl ?_
                          refine TO.skip rfl rfl rfl (skipT hb46) rfl rfl ?_
                          refine TO.skip rfl rfl rfl (skipT hb46) rfl rfl ?_
                          refine TO.skip rfl rfl rfl (skipT hb46) rfl rfl ?_
                          refine TO.skip rfl rfl rfl (skipT hb46) rfl rfl ?_
                          refine TO.skip rfl rfl rfl (skipT hb46) rfl rfl ?_
                          refine TO.skip rfl rfl rfl (skipT hb46) rfl rfl ?_
                          refine TO.skip rfl rfl rfl (skipT hb46) rfl rfl ?_
                          refine TO.sw rfl rfl rfl hb41 rfl rfl (StepS.pickT rfl hb46 rfl) ?_
                          exact TO.up1 9 0 rfl rfl rfl rfl
                        · replace hj48 := cond_f hb46 hj48
                          refine TO.sw rfl rfl rfl hb46 rfl rfl (StepS.move rfl) ?_
                          refine TO.sw rfl rfl rfl hb46 rfl rfl (StepS.move rfl) ?_
                          refine TO.sw rfl rfl rfl hb46 rfl rfl (StepS.move rfl) ?_
                          obtain ⟨k49, hk50, hj48⟩ := bind_some hj48
                          refine TO.sw rfl rfl rfl hb46 rfl rfl (StepS.shlk (m := 1#32) rfl rfl hk50) ?_
                          refine TO.sw rfl rfl rfl hb46 rfl rfl (StepS.bitU rfl rfl rfl) ?_
                          obtain ⟨r51, hc52, hj48⟩ := bind_some hj48
                          refine TO.qw rfl rfl rfl hb46 rfl rfl (StepQ.callC kcallB_60_true rfl rfl rfl (fun _ st => C60 (Ent.at 1 rfl) e0.tl.tl hc52 st)) ?_
                          refine TO.sw rfl rfl rfl hb46 rfl rfl (StepS.move rfl) ?_
                          refine TO.sw rfl rfl rfl hb46 rfl rfl (StepS.cmp rfl rfl rfl) ?_
                          cases hj48
                          refine TO.sw rfl rfl rfl hb41 rfl rfl (StepS.pickF rfl hb46 rfl) ?_
                          exact TO.up1 9 0 rfl rfl rfl rfl
                      cases hj43
                      refine TO.s rfl rfl rfl (StepS.pickT rfl hb41 rfl) ?_
                      exact TO.up1 8 0 rfl rfl rfl rfl
                    · replace hj43 := cond_f hb41 hj43
                      cases hj43
                      refine TO.skip rfl rfl rfl (skipF hb41) rfl rfl ?_
                      refine TO.skip rfl rfl rfl (skipF hb41) rfl rfl ?_
                      refine TO.skip rfl rfl rfl (skipF hb41) rfl rfl ?_
                      refine TO.skip rfl rfl rfl (skipF hb41) rfl rfl ?_
                      refine TO.skip rfl rfl rfl (skipF hb41) rfl rfl ?_
                      refine TO.skip rfl rfl rfl (skipF hb41) rfl rfl ?_
                      refine TO.skip rfl rfl rfl skipU rfl rfl ?_
                      refine TO.skip rfl rfl rfl skipU rfl rfl ?_
                      refine TO.skip rfl rfl rfl skipU rfl rfl ?_
                      refine TO.skip rfl rfl rfl skipU rfl rfl ?_
                      refine TO.skip rfl rfl rfl skipU rfl rfl ?_
                      refine TO.skip rfl rfl rfl skipU rfl rfl ?_
                      refine TO.skip rfl rfl rfl skipU rfl rfl ?_
                      refine TO.skip rfl rfl rfl skipU rfl rfl ?_
                      refine TO.skip rfl rfl rfl (skipF hb41) rfl rfl ?_
                      refine TO.s rfl rfl rfl (StepS.pickF rfl hb41 rfl) ?_
                      exact TO.up1 16 0 rfl rfl rfl rfl
                  refine TO.s rfl rfl rfl (StepS.assign rfl) ?_
                  refine TO.code ?_
                  refine TC.region ?_
                  refine TO.s rfl rfl rfl (StepS.ari rfl rfl rfl) ?_
                  refine TO.s rfl rfl rfl (StepS.move rfl) ?_
                  cases hb39
                  refine TO.nil fun a w e s => ?_
                  exact ⟨e.sub (lk_of_allIn ⟨rfl, rfl, rfl, rfl, rfl, rfl, rfl, rfl, rfl, rfl, trivial⟩), s⟩
                · replace hb39 := cond_f hc40 hb39
                  cases hb39
                  refine TC.exit rfl fun a w e s => ?_
                  exact ⟨e.sub (lk_of_allIn ⟨rfl, rfl, rfl, rfl, rfl, rfl, rfl, rfl, trivial⟩), s⟩
              · exact fun a w e s => ⟨e.sub (lk_of_allIn ⟨rfl, rfl, rfl, rfl, rfl, rfl, rfl, rfl, rfl, rfl, trivial⟩), s⟩
              · rintro b36 rfl a w ⟨he, hs⟩
                dsimp only [Ctl.on] at hj28
                refine TC.use ?_ he hs
                refine TC.k ?_
                refine TC.region ?_
                refine TO.s rfl rfl rfl (StepS.move rfl) ?_
                refine TO.code ?_
                refine TC.cond rfl (fun hc53 => ?_) (fun hc53 => ?_)
                · replace hj28 := cond_t hc53 hj28
                  refine TC.region ?_
                  refine TO.s rfl rfl rfl (StepS.move rfl) ?_
                  refine TO.s rfl rfl rfl (StepS.move rfl) ?_
                  refine TO.litS (f := cU) ([x14] : List (BitVec 32)) kelemB_34_35_1_4_true kinfo_35_bind_zero_some_U_0 rfl rfl (fun _ => rfl) rfl rfl (by kernel_rfl) rfl fun v54 => ?_
                  obtain ⟨y56, hk57, hj28⟩ := bind_some hj28
                  refine TO.app (k := 1) (f := cU) kelemB_34_35_1_4_true (by decide) rfl rfl rfl (OwnS.rd (Ent.at 0 rfl)) hk57 (fun x c hc => by simp [Value.oneCell'] at hc ⊢; first | (obtain rfl := hc; rfl) | (rcases hc with rfl <;> rfl)) rfl rfl fun v58 => ?_
                  refine TO.s rfl rfl rfl (StepS.assign rfl) ?_
                  cases hj28
                  refine TO.nil fun a w e s => ?_
                  exact ⟨v58, e.sub (lk_of_allIn ⟨rfl, rfl, rfl, rfl, rfl, rfl, trivial⟩), s.mono fun _ => Sat.dropN 1⟩
                · replace hj28 := cond_f hc53 hj28
                  cases hj28
                  refine TC.skip fun a w e s => ?_
                  exact ⟨v11, e.sub (lk_of_allIn ⟨rfl, rfl, rfl, rfl, rfl, rfl, trivial⟩), s⟩
              · rintro r rfl
                exact fun a w h => h.elim
          · intro a w ⟨v27, he, hs⟩
            refine TC.use ?_ he hs
            refine TC.region ?_
            refine TO.s rfl rfl rfl (StepS.bitU (n := 1#32) rfl rfl rfl) ?_
            refine TO.s rfl rfl rfl (StepS.move rfl) ?_
            cases hb24
            refine TO.nil fun a w e s => ?_
            exact ⟨v27, e.sub (lk_of_allIn ⟨rfl, rfl, rfl, rfl, rfl, rfl, trivial⟩), s⟩
        · replace hb24 := cond_f hc25 hb24
          cases hb24
          refine TC.exit rfl fun a w e s => ?_
          exact ⟨v11, e.sub (lk_of_allIn ⟨rfl, trivial⟩), s⟩
      · exact fun a w e s => ⟨.slice none 0 0, e.sub (lk_of_allIn ⟨rfl, rfl, rfl, rfl, rfl, rfl, trivial⟩), s.mono fun _ s => (by replace s := Sat.front 0 rfl s; replace s := Sat.nilS (e := 35) (sz := 1) (f := cU) s; exact s)⟩
      · rintro y21 rfl a w ⟨v19, he, hs⟩
        dsimp only [Ctl.on] at hm
        refine TC.use ?_ he hs
        refine TC.k ?_
        refine TC.k ?_
        refine TC.region ?_
        refine TO.s rfl rfl rfl (StepS.move rfl) ?_
        refine TO.s rfl rfl rfl (StepS.lenm rfl (OwnS.rd (Ent.at 0 rfl)) ksliceB_34_35_1_true rfl) ?_
        refine TO.s rfl rfl rfl (StepS.cmp rfl rfl rfl) ?_
        refine TO.code ?_
        refine TC.cond rfl (fun hc59 => ?_) (fun hc59 => ?_)
        · replace hm := cond_t hc59 hm
          refine TC.k ?_
          refine TC.region ?_
          refine TO.s rfl rfl rfl (StepS.assign rfl) ?_
          refine TO.s rfl rfl rfl (StepS.assign rfl) ?_
          refine TO.code ?_
          cases hm
          refine TC.ret fun a w e s => ?_
          refine FRet.mk2 (P := Try.prog) (fn := Try.f39) (t := 4) (u := 5) e rfl rfl rfl ?_
          refine ⟨_, _, rfl, ⟨(.slice none 0 0), rfl, rfl⟩, ?_⟩
          refine s.mono fun _ s => ?_
          replace s := Sat.nilS (e := 35) (sz := 1) (f := cU) s
          replace s := Sat.erase 1 s
          replace s := Sat.erase 1 s
          exact s
        · replace hm := cond_f hc59 hm
          refine TC.skipk ?_
          refine TC.k ?_
          refine TC.region ?_
          refine TO.s rfl rfl rfl (StepS.move rfl) ?_
          refine TO.s rfl rfl rfl (StepS.assign rfl) ?_
          refine TO.s rfl rfl rfl (StepS.assign rfl) ?_
          refine TO.code ?_
          cases hm
          refine TC.ret fun a w e s => ?_
          refine FRet.mk2 (P := Try.prog) (fn := Try.f39) (t := 4) (u := 5) e rfl rfl rfl ?_
          refine ⟨_, _, rfl, ⟨(v19), rfl, rfl⟩, ?_⟩
          refine s.mono fun _ s => ?_
          replace s := Sat.front 0 rfl s
          replace s := Sat.erase 1 s
          exact s
      · rintro r rfl
        exact fun a w h => h.elim

set_option maxRecDepth 100000 in
theorem C40 {B : World} {L : List HP} {a0 : List Int} {a1 : Int} {h0 : Value} {r0 : List (BitVec 32)} (e0 : Ent L (Rd 1 h0 (a0.map cI))) (hm : F40 a0 a1 = some r0) {w : World} (st : St B L w) : Calls Try.prog 40 #[h0, I a1] w (fun e w' => ∃ v M, e = .returned v ∧ (∃ (qv1 : Value), v = qv1 ∧ M = (OwnS 35 1 qv1 (r0.map cU) :: L)) ∧ St B M w') := by
  refine calls_of (N := 78) (L := L) (args := [h0, I a1]) Try.func40 rfl rfl rfl ?_ st
  dsimp only [F40] at hm
  refine TC.k ?_
  refine TC.region ?_
  refine TO.s rfl rfl rfl (StepS.assign rfl) ?_
  refine TO.code ?_
  refine TC.k ?_
  refine TC.region ?_
  refine TO.s rfl rfl rfl (StepS.assign rfl) ?_
  refine TO.code ?_
  refine TC.k ?_
  refine TC.k ?_
  refine TC.region ?_
  refine TO.s rfl rfl rfl (StepS.assign rfl) ?_
  refine TO.code ?_
  obtain ⟨o13, hw14, hm⟩ := bind_some hm
  refine TC.loop hw14 (fun (y4, x5) => fun a w => ∃ v2 : Value, Mid 78 B [(0, h0), (1, I a1), (5, v2), (6, U x5)] (OwnS 35 1 v2 (y4.map cU) :: L) a w) (fun y12 => fun a w => ∃ v10 : Value, Mid 78 B [(5, v10)] (OwnS 35 1 v10 (y12.map cU) :: L) a w) (fun (_ : Unit) _ _ => False) ?_ ?_ ?_ ?_
  · rintro ⟨y4, x5⟩ o13r hb15 a w ⟨v2, he, hs⟩
    dsimp only [F40_L0] at hb15
    refine TC.use ?_ he hs
    refine TC.k ?_
    refine TC.k ?_
    refine TC.region ?_
    refine TO.s rfl rfl rfl (StepS.move rfl) ?_
    refine TO.s rfl rfl rfl (StepS.move rfl) ?_
    refine TO.s rfl rfl rfl (StepS.lenm rfl e0.tl ksliceB_28_3_1_true rfl) ?_
    refine TO.s rfl rfl rfl (StepS.cvIV kintB_3_i64_true kintB_44_u64_true rfl) ?_
    refine TO.s rfl rfl rfl (StepS.shl (m := 1#32) rfl rfl (u64_nonneg _)) ?_
    refine TO.s rfl rfl rfl (StepS.cmpU rfl rfl rfl) ?_
    refine TO.code ?_
    refine TC.cond rfl (fun hc16 => ?_) (fun hc16 => ?_)
    · replace hb15 := cond_t hc16 hb15
      refine TC.skipk ?_
      refine TC.k ?_
      obtain ⟨y17, hj19, hb15⟩ := bind_some hb15
      refine TC.cutM (fun a w => ∃ v18 : Value, Mid 78 B [(0, h0), (1, I a1), (5, v18), (6, U x5)] (OwnS 35 1 v18 (y17.map cU) :: L) a w) ?_ ?_
      · refine TC.block ?_
        refine TC.k ?_
        refine TC.region ?_
        refine TO.s rfl rfl rfl (StepS.assign rfl) ?_
        refine TO.code ?_
        refine TC.k ?_
        refine TC.k ?_
        refine TC.region ?_
        refine TO.s rfl rfl rfl (StepS.move rfl) ?_
        refine TO.s rfl rfl rfl (StepS.lenm rfl e0.tl ksliceB_28_3_1_true rfl) ?_
        refine TO.s rfl rfl rfl (StepS.move rfl) ?_
        refine TO.code ?_
        obtain ⟨o25, hw26, hj19⟩ := bind_some hj19
        refine TC.loop hw26 (fun (x20, x21) => fun a w => Mid 78 B [(0, h0), (1, I a1), (5, v2), (6, U x5), (7, I x20), (24, h0), (25, I (a0.length : Int)), (26, I x21)] (OwnS 35 1 v2 (y4.map cU) :: L) a w) (fun x24 => fun a w => Mid 78 B [(0, h0), (1, I a1), (5, v2), (6, U x5), (7, I x24)] (OwnS 35 1 v2 (y4.map cU) :: L) a w) (fun (_ : Unit) _ _ => False) ?_ ?_ ?_ ?_
        · rintro ⟨x20, x21⟩ o25r hb27 a w ⟨he, hs⟩
          dsimp only [F40_L1] at hb27
          refine TC.use ?_ he hs
          refine TC.k ?_
          refine TC.region ?_
          refine TO.s rfl rfl rfl (StepS.cmp rfl rfl rfl) ?_
          refine TO.code ?_
          refine TC.k ?_
          refine TC.cond rfl (fun hc28 => ?_) (fun hc28 => ?_)
          · replace hb27 := cond_t hc28 hb27
            refine TC.skipk ?_
            refine TC.k ?_
            obtain ⟨x29, hj30, hb27⟩ := bind_some hb27
            refine TC.cutM (fun a w => Mid 78 B [(0, h0), (1, I a1), (5, v2), (6, U x5), (7, I x29), (24, h0), (25, I (a0.length : Int)), (26, I x21)] (OwnS 35 1 v2 (y4.map cU) :: L) a w) ?_ ?_
            · refine TC.block ?_
              refine TC.k ?_
              refine TC.region ?_
              refine TO.s rfl rfl rfl (StepS.move rfl) ?_
              obtain ⟨x31, hx32, hj30⟩ := bind_some hj30
              refine TO.s rfl rfl rfl (StepS.idx rfl rfl e0.tl ksliceB_28_3_1_true (idx_spec hx32).1 (idxm_lt hx32)) ?_
              refine TO.s rfl rfl rfl (StepS.ld0 rfl e0.tl kscalB_3_true rfl (idxm hx32) rfl) ?_
              refine TO.s rfl rfl rfl (StepS.assign rfl) ?_
              refine TO.s rfl rfl rfl (StepS.assign rfl) ?_
              refine TO.code ?_
              refine TC.k ?_
              refine TC.region ?_
              refine TO.s rfl rfl rfl (StepS.move rfl) ?_
              refine TO.s rfl rfl rfl (StepS.move rfl) ?_
              obtain ⟨r33, hc34, hj30⟩ := bind_some hj30
              refine TO.q rfl rfl rfl (StepQ.call kcallB_29_true rfl rfl (fun _ st => C29  hc34 st)) ?_
              refine TO.code ?_
              refine TC.cond rfl (fun hc35 => ?_) (fun hc35 => ?_)
              · replace hj30 := cond_t hc35 hj30
                refine TC.region ?_
                refine TO.s rfl rfl rfl (StepS.move rfl) ?_
                refine TO.s rfl rfl rfl (StepS.move rfl) ?_
                refine TO.s rfl rfl rfl (StepS.ari rfl rfl rfl) ?_
                refine TO.s rfl rfl rfl (StepS.assign rfl) ?_
                cases hj30
                refine TO.nil fun a w e s => ?_
                exact ⟨e.sub (lk_of_allIn ⟨rfl, rfl, rfl, rfl, rfl, rfl, rfl, rfl, trivial⟩), s⟩
              · replace hj30 := cond_f hc35 hj30
                cases hj30
                refine TC.skip fun a w e s => ?_
                exact ⟨e.sub (lk_of_allIn ⟨rfl, rfl, rfl, rfl, rfl, rfl, rfl, rfl, trivial⟩), s⟩
            · intro a w ⟨he, hs⟩
              refine TC.use ?_ he hs
              refine TC.region ?_
              refine TO.s rfl rfl rfl (StepS.ari rfl rfl rfl) ?_
              refine TO.s rfl rfl rfl (StepS.move rfl) ?_
              cases hb27
              refine TO.nil fun a w e s => ?_
              exact ⟨e.sub (lk_of_allIn ⟨rfl, rfl, rfl, rfl, rfl, rfl, rfl, rfl, trivial⟩), s⟩
          · replace hb27 := cond_f hc28 hb27
            cases hb27
            refine TC.exit rfl fun a w e s => ?_
            exact ⟨e.sub (lk_of_allIn ⟨rfl, rfl, rfl, rfl, rfl, trivial⟩), s⟩
        · exact fun a w e s => ⟨e.sub (lk_of_allIn ⟨rfl, rfl, rfl, rfl, rfl, rfl, rfl, rfl, trivial⟩), s⟩
        · rintro x24 rfl a w ⟨he, hs⟩
          dsimp only [Ctl.on] at hj19
          refine TC.use ?_ he hs
          refine TC.k ?_
          refine TC.region ?_
          refine TO.s rfl rfl rfl (StepS.move rfl) ?_
          refine TO.s rfl rfl rfl (StepS.move rfl) ?_
          refine TO.s rfl rfl rfl (StepS.cmp rfl rfl rfl) ?_
          refine TO.code ?_
          refine TC.cond rfl (fun hc36 => ?_) (fun hc36 => ?_)
          · replace hj19 := cond_t hc36 hj19
            refine TC.region ?_
            refine TO.s rfl rfl rfl (StepS.move rfl) ?_
            refine TO.s rfl rfl rfl (StepS.move rfl) ?_
            refine TO.litS (f := cU) ([x5] : List (BitVec 32)) kelemB_34_35_1_4_true kinfo_35_bind_zero_some_U_0 rfl rfl (fun _ => rfl) rfl rfl (by kernel_rfl) rfl fun v37 => ?_
            obtain ⟨y39, hk40, hj19⟩ := bind_some hj19
            refine TO.app (k := 1) (f := cU) kelemB_34_35_1_4_true (by decide) rfl rfl rfl (OwnS.rd (Ent.at 0 rfl)) hk40 (fun x c hc => by simp [Value.oneCell'] at hc ⊢; first | (obtain rfl := hc; rfl) | (rcases hc with rfl <;> rfl)) rfl rfl fun v41 => ?_
            refine TO.s rfl rfl rfl (StepS.assign rfl) ?_
            cases hj19
            refine TO.nil fun a w e s => ?_
            exact ⟨v41, e.sub (lk_of_allIn ⟨rfl, rfl, rfl, rfl, trivial⟩), s.mono fun _ => Sat.dropN 1⟩
          · replace hj19 := cond_f hc36 hj19
            cases hj19
            refine TC.skip fun a w e s => ?_
            exact ⟨v2, e.sub (lk_of_allIn ⟨rfl, rfl, rfl, rfl, trivial⟩), s⟩
        · rintro r rfl
          exact fun a w h => h.elim
      · intro a w ⟨v18, he, hs⟩
        refine TC.use ?_ he hs
        refine TC.region ?_
        refine TO.s rfl rfl rfl (StepS.move rfl) ?_
        refine TO.s rfl rfl rfl (StepS.bitU (n := 1#32) rfl rfl rfl) ?_
        refine TO.s rfl rfl rfl (StepS.assign rfl) ?_
        cases hb15
        refine TO.nil fun a w e s => ?_
        exact ⟨v18, e.sub (lk_of_allIn ⟨rfl, rfl, rfl, rfl, trivial⟩), s⟩
    · replace hb15 := cond_f hc16 hb15
      cases hb15
      refine TC.exit rfl fun a w e s => ?_
      exact ⟨v2, e.sub (lk_of_allIn ⟨rfl, trivial⟩), s⟩
  · exact fun a w e s => ⟨.slice none 0 0, e.sub (lk_of_allIn ⟨rfl, rfl, rfl, rfl, trivial⟩), s.mono fun _ s => (by replace s := Sat.nilS (e := 35) (sz := 1) (f := cU) s; exact s)⟩
  · rintro y12 rfl a w ⟨v10, he, hs⟩
    dsimp only [Ctl.on] at hm
    refine TC.use ?_ he hs
    refine TC.k ?_
    refine TC.region ?_
    refine TO.s rfl rfl rfl (StepS.assign rfl) ?_
    refine TO.code ?_
    refine TC.k ?_
    refine TC.k ?_
    refine TC.region ?_
    refine TO.s rfl rfl rfl (StepS.move rfl) ?_
    refine TO.s rfl rfl rfl (StepS.lenm rfl (OwnS.rd (Ent.at 0 rfl)) ksliceB_34_35_1_true rfl) ?_
    refine TO.s rfl rfl rfl (StepS.move rfl) ?_
    refine TO.code ?_
    obtain ⟨o53, hw54, hm⟩ := bind_some hm
    refine TC.loop hw54 (fun (y44, x45) => fun a w => ∃ v42 : Value, Mid 78 B [(5, v10), (10, v42), (45, v10), (46, I (y12.length : Int)), (47, I x45)] (OwnS 35 1 v42 (y44.map cU) :: OwnS 35 1 v10 (y12.map cU) :: L) a w) (fun y52 => fun a w => ∃ v50 : Value, Mid 78 B [(10, v50)] (OwnS 35 1 v50 (y52.map cU) :: OwnS 35 1 v10 (y12.map cU) :: L) a w) (fun (_ : Unit) _ _ => False) ?_ ?_ ?_ ?_
    · rintro ⟨y44, x45⟩ o53r hb55 a w ⟨v42, he, hs⟩
      dsimp only [F40_L2] at hb55
      refine TC.use ?_ he hs
      refine TC.k ?_
      refine TC.region ?_
      refine TO.s rfl rfl rfl (StepS.cmp rfl rfl rfl) ?_
      refine TO.code ?_
      refine TC.k ?_
      refine TC.cond rfl (fun hc56 => ?_) (fun hc56 => ?_)
      · replace hb55 := cond_t hc56 hb55
        refine TC.skipk ?_
        refine TC.k ?_
        obtain ⟨y57, hj59, hb55⟩ := bind_some hb55
        refine TC.cutM (fun a w => ∃ v58 : Value, Mid 78 B [(5, v10), (10, v58), (45, v10), (46, I (y12.length : Int)), (47, I x45)] (OwnS 35 1 v58 (y57.map cU) :: OwnS 35 1 v10 (y12.map cU) :: L) a w) ?_ ?_
        · refine TC.block ?_
          refine TC.k ?_
          refine TC.region ?_
          obtain ⟨x60, hx61, hj59⟩ := bind_some hj59
          refine TO.s rfl rfl rfl (StepS.idx rfl rfl (OwnS.rd (Ent.at 1 rfl)) ksliceB_34_35_1_true (idx_spec hx61).1 (idxm_lt hx61)) ?_
          refine TO.s rfl rfl rfl (StepS.ld0 rfl (OwnS.rd (Ent.at 1 rfl)) kscalB_35_true rfl (idxm hx61) rfl) ?_
          refine TO.s rfl rfl rfl (StepS.assign rfl) ?_
          refine TO.code ?_
          refine TC.k ?_
          refine TC.region ?_
          refine TO.s rfl rfl rfl (StepS.assign rfl) ?_
          refine TO.code ?_
          refine TC.k ?_
          refine TC.k ?_
          refine TC.region ?_
          refine TO.s rfl rfl rfl (StepS.move rfl) ?_
          refine TO.s rfl rfl rfl (StepS.lenm rfl (OwnS.rd (Ent.at 1 rfl)) ksliceB_34_35_1_true rfl) ?_
          refine TO.s rfl rfl rfl (StepS.move rfl) ?_
          refine TO.code ?_
          obtain ⟨o67, hw68, hj59⟩ := bind_some hj59
          refine TC.loop hw68 (fun (b62, x63) => fun a w => Mid 78 B [(5, v10), (10, v42), (12, U x60), (13, .bool b62), (45, v10), (46, I (y12.length : Int)), (47, I x45), (51, v10), (52, I (y12.length : Int)), (53, I x63)] (OwnS 35 1 v42 (y44.map cU) :: OwnS 35 1 v10 (y12.map cU) :: L) a w) (fun b66 => fun a w => Mid 78 B [(5, v10), (10, v42), (12, U x60), (13, .bool b66), (45, v10), (46, I (y12.length : Int)), (47, I x45)] (OwnS 35 1 v42 (y44.map cU) :: OwnS 35 1 v10 (y12.map cU) :: L) a w) (fun (_ : Unit) _ _ => False) ?_ ?_ ?_ ?_
          · rintro ⟨b62, x63⟩ o67r hb69 a w ⟨he, hs⟩
            dsimp only [F40_L3] at hb69
            refine TC.use ?_ he hs
            refine TC.k ?_
            refine TC.region ?_
            refine TO.s rfl rfl rfl (StepS.cmp rfl rfl rfl) ?_
            refine TO.code ?_
            refine TC.k ?_
            refine TC.cond rfl (fun hc70 => ?_) (fun hc70 => ?_)
            · replace hb69 := cond_t hc70 hb69
              refine TC.skipk ?_
              refine TC.k ?_
              refine TC.block ?_
              refine TC.k ?_
              refine TC.region ?_
              obtain ⟨x71, hx72, hb69⟩ := bind_some hb69
              refine TO.s rfl rfl rfl (StepS.idx rfl rfl (OwnS.rd (Ent.at 1 rfl)) ksliceB_34_35_1_true (idx_spec hx72).1 (idxm_lt hx72)) ?_
              refine TO.s rfl rfl rfl (StepS.ld0 rfl (OwnS.rd (Ent.at 1 rfl)) kscalB_35_true rfl (idxm hx72) rfl) ?_
              refine TO.s rfl rfl rfl (StepS.assign rfl) ?_
              refine TO.code ?_
              refine TC.region ?_
              refine TO.s rfl rfl rfl (StepS.move rfl) ?_
              refine TO.s rfl rfl rfl (StepS.move rfl) ?_
              refine TO.mid1 11 69 (.bool (b62 && ((x71 == x60) || ((x71 ||| x60) != x60)))) ?_ ?_
              · refine bcase (b62) (fun hb73 => ?_) (fun hb73 => ?_)
                · refine TO.sw rfl rfl rfl hb73 rfl rfl (StepS.move rfl) ?_
                  refine TO.sw rfl rfl rfl hb73 rfl rfl (StepS.move rfl) ?_
                  refine TO.sw rfl rfl rfl hb73 rfl rfl (StepS.cmpU rfl rfl rfl) ?_
                  refine TO.sw rfl rfl rfl hb73 rfl rfl (StepS.move rfl) ?_
                  refine TO.mid1 6 68 (.bool ((x71 == x60) || ((x71 ||| x60) != x60))) ?_ ?_
                  · refine bcase ((x71 == x60)) (fun hb74 => ?_) (fun hb74 => ?_)
                    · refine TO.skip rfl rfl rfl (skipT hb74) rfl rfl ?_
                      refine TO.skip rfl rfl rfl (skipT hb74) rfl rfl ?_
                      refine TO.skip rfl rfl rfl (skipT hb74) rfl rfl ?_
                      refine TO.skip rfl rfl rfl (skipT hb74) rfl rfl ?_
                      refine TO.skip rfl rfl rfl (skipT hb74) rfl rfl ?_
                      refine TO.sw rfl rfl rfl hb73 rfl rfl (StepS.pickT rfl hb74 rfl) ?_
                      exact TO.up1 6 0 rfl rfl (by rw [hb74]; rfl) rfl
                    · refine TO.sw rfl rfl rfl hb74 rfl rfl (StepS.move rfl) ?_
                      refine TO.sw rfl rfl rfl hb74 rfl rfl (StepS.move rfl) ?_
                      refine TO.sw rfl rfl rfl hb74 rfl rfl (StepS.bitU rfl rfl rfl) ?_
                      refine TO.sw rfl rfl rfl hb74 rfl rfl (StepS.move rfl) ?_
                      refine TO.sw rfl rfl rfl hb74 rfl rfl (StepS.cmpU rfl rfl rfl) ?_
                      refine TO.sw rfl rfl rfl hb73 rfl rfl (StepS.pickF rfl hb74 rfl) ?_
                      exact TO.up1 6 0 rfl rfl (by rw [hb74]; rfl) rfl
                  refine TO.s rfl rfl rfl (StepS.pickT rfl hb73 rfl) ?_
                  exact TO.up1 6 0 rfl rfl (by rw [hb73]; rfl) rfl
                · refine TO.skip rfl rfl rfl (skipF hb73) rfl rfl ?_
                  refine TO.skip rfl rfl rfl (skipF hb73) rfl rfl ?_
                  refine TO.skip rfl rfl rfl (skipF hb73) rfl rfl ?_
                  refine TO.skip rfl rfl rfl (skipF hb73) rfl rfl ?_
                  refine TO.skip rfl rfl rfl skipU rfl rfl ?_
                  refine TO.skip rfl rfl rfl skipU rfl rfl ?_
                  refine TO.skip rfl rfl rfl skipU rfl rfl ?_
                  refine TO.skip rfl rfl rfl skipU rfl rfl ?_
                  refine TO.skip rfl rfl rfl skipU rfl rfl ?_
                  refine TO.skip rfl rfl rfl (skipF hb73) rfl rfl ?_
                  refine TO.s rfl rfl rfl (StepS.pickF rfl hb73 rfl) ?_
                  exact TO.up1 11 0 rfl rfl (by rw [hb73]; rfl) rfl
              refine TO.s rfl rfl rfl (StepS.assign rfl) ?_
              refine TO.code ?_
              refine TC.region ?_
              refine TO.s rfl rfl rfl (StepS.ari rfl rfl rfl) ?_
              refine TO.s rfl rfl rfl (StepS.move rfl) ?_
              cases hb69
              refine TO.nil fun a w e s => ?_
              exact ⟨e.sub (lk_of_allIn ⟨rfl, rfl, rfl, rfl, rfl, rfl, rfl, rfl, rfl, rfl, trivial⟩), s⟩
            · replace hb69 := cond_f hc70 hb69
              cases hb69
              refine TC.exit rfl fun a w e s => ?_
              exact ⟨e.sub (lk_of_allIn ⟨rfl, rfl, rfl, rfl, rfl, rfl, rfl, trivial⟩), s⟩
          · exact fun a w e s => ⟨e.sub (lk_of_allIn ⟨rfl, rfl, rfl, rfl, rfl, rfl, rfl, rfl, rfl, rfl, trivial⟩), s⟩
          · rintro b66 rfl a w ⟨he, hs⟩
            dsimp only [Ctl.on] at hj59
            refine TC.use ?_ he hs
            refine TC.k ?_
            refine TC.region ?_
            refine TO.s rfl rfl rfl (StepS.move rfl) ?_
            refine TO.code ?_
            refine TC.cond rfl (fun hc75 => ?_) (fun hc75 => ?_)
            · replace hj59 := cond_t hc75 hj59
              refine TC.region ?_
              refine TO.s rfl rfl rfl (StepS.move rfl) ?_
              refine TO.s rfl rfl rfl (StepS.move rfl) ?_
              refine TO.litS (f := cU) ([x60] : List (BitVec 32)) kelemB_34_35_1_4_true kinfo_35_bind_zero_some_U_0 rfl rfl (fun _ => rfl) rfl rfl (by kernel_rfl) rfl fun v76 => ?_
              obtain ⟨y78, hk79, hj59⟩ := bind_some hj59
              refine TO.app (k := 1) (f := cU) kelemB_34_35_1_4_true (by decide) rfl rfl rfl (OwnS.rd (Ent.at 0 rfl)) hk79 (fun x c hc => by simp [Value.oneCell'] at hc ⊢; first | (obtain rfl := hc; rfl) | (rcases hc with rfl <;> rfl)) rfl rfl fun v80 => ?_
              refine TO.s rfl rfl rfl (StepS.assign rfl) ?_
              cases hj59
              refine TO.nil fun a w e s => ?_
              exact ⟨v80, e.sub (lk_of_allIn ⟨rfl, rfl, rfl, rfl, rfl, trivial⟩), s.mono fun _ => Sat.dropN 1⟩
            · replace hj59 := cond_f hc75 hj59
              cases hj59
              refine TC.skip fun a w e s => ?_
              exact ⟨v42, e.sub (lk_of_allIn ⟨rfl, rfl, rfl, rfl, rfl, trivial⟩), s⟩
          · rintro r rfl
            exact fun a w h => h.elim
        · intro a w ⟨v58, he, hs⟩
          refine TC.use ?_ he hs
          refine TC.region ?_
          refine TO.s rfl rfl rfl (StepS.ari rfl rfl rfl) ?_
          refine TO.s rfl rfl rfl (StepS.move rfl) ?_
          cases hb55
          refine TO.nil fun a w e s => ?_
          exact ⟨v58, e.sub (lk_of_allIn ⟨rfl, rfl, rfl, rfl, rfl, trivial⟩), s⟩
      · replace hb55 := cond_f hc56 hb55
        cases hb55
        refine TC.exit rfl fun a w e s => ?_
        exact ⟨v42, e.sub (lk_of_allIn ⟨rfl, trivial⟩), s⟩
    · exact fun a w e s => ⟨.slice none 0 0, e.sub (lk_of_allIn ⟨rfl, rfl, rfl, rfl, rfl, trivial⟩), s.mono fun _ s => (by replace s := Sat.front 0 rfl s; replace s := Sat.nilS (e := 35) (sz := 1) (f := cU) s; exact s)⟩
    · rintro y52 rfl a w ⟨v50, he, hs⟩
      dsimp only [Ctl.on] at hm
      refine TC.use ?_ he hs
      refine TC.k ?_
      refine TC.region ?_
      refine TO.s rfl rfl rfl (StepS.move rfl) ?_
      refine TO.s rfl rfl rfl (StepS.assign rfl) ?_
      refine TO.code ?_
      cases hm
      refine TC.ret fun a w e s => ?_
      refine FRet.mk1 (P := Try.prog) (fn := Try.f40) (t := 4) e rfl rfl ?_
      refine ⟨_, _, rfl, ⟨(v50), rfl, rfl⟩, ?_⟩
      refine s.mono fun _ s => ?_
      replace s := Sat.front 0 rfl s
      replace s := Sat.erase 1 s
      exact s
    · rintro r rfl
      exact fun a w h => h.elim
  · rintro r rfl
    exact fun a w h => h.elim

set_option maxRecDepth 100000 in
theorem C41 {B : World} {L : List HP} {a0 : List (BitVec 32)} {a1 : List (BitVec 32)} {h0 : Value} {h1 : Value} {r0 : Bool} (e0 : Ent L (Rd 1 h0 (a0.map cU))) (e1 : Ent L (Rd 1 h1 (a1.map cU))) (hm : F41 a0 a1 = some r0) {w : World} (st : St B L w) : Calls Try.prog 41 #[h0, h1] w (fun e w' => (e = .returned (.bool r0) ∧ St B (L) w')) := by
  refine calls_of (N := 26) (L := L) (args := [h0, h1]) Try.func41 rfl rfl rfl ?_ st
  dsimp only [F41] at hm
  refine TC.k ?_
  refine TC.region ?_
  refine TO.s rfl rfl rfl (StepS.assign rfl) ?_
  refine TO.code ?_
  refine TC.k ?_
  refine TC.k ?_
  refine TC.region ?_
  refine TO.s rfl rfl rfl (StepS.move rfl) ?_
  refine TO.s rfl rfl rfl (StepS.lenm rfl e0 ksliceB_34_35_1_true rfl) ?_
  refine TO.s rfl rfl rfl (StepS.move rfl) ?_
  refine TO.s rfl rfl rfl (StepS.lenm rfl e1 ksliceB_34_35_1_true rfl) ?_
  refine TO.s rfl rfl rfl (StepS.cmp rfl rfl rfl) ?_
  refine TO.code ?_
  refine TC.cond rfl (fun hc1 => ?_) (fun hc1 => ?_)
  · replace hm := cond_t hc1 hm
    refine TC.k ?_
    refine TC.region ?_
    refine TO.s rfl rfl rfl (StepS.assign rfl) ?_
    refine TO.code ?_
    cases hm
    refine TC.ret fun a w e s => ?_
    refine FRet.mk1 (P := Try.prog) (fn := Try.f41) (t := 4) e rfl rfl ?_
    exact ⟨rfl, s.mono fun _ => Sat.dropN 0⟩
  · replace hm := cond_f hc1 hm
    refine TC.skipk ?_
    refine TC.k ?_
    refine TC.k ?_
    refine TC.region ?_
    refine TO.s rfl rfl rfl (StepS.assign rfl) ?_
    refine TO.code ?_
    obtain ⟨o4, hw5, hm⟩ := bind_some hm
    refine TC.loop hw5 (fun x2 => fun a w => Mid 26 B [(0, h0), (1, h1), (5, I x2)] (L) a w) (fun _ => fun a w => Mid 26 B [] (L) a w) (fun r0 => FRet Try.prog Try.f41 (fun e w' => (e = .returned (.bool r0) ∧ St B (L) w'))) ?_ ?_ ?_ ?_
    · rintro x2 o4r hb6 a w ⟨he, hs⟩
      dsimp only [F41_L0] at hb6
      refine TC.use ?_ he hs
      refine TC.k ?_
      refine TC.k ?_
      refine TC.region ?_
      refine TO.s rfl rfl rfl (StepS.move rfl) ?_
      refine TO.s rfl rfl rfl (StepS.move rfl) ?_
      refine TO.s rfl rfl rfl (StepS.lenm rfl e0 ksliceB_34_35_1_true rfl) ?_
      refine TO.s rfl rfl rfl (StepS.cmp rfl rfl rfl) ?_
      refine TO.code ?_
      refine TC.cond rfl (fun hc7 => ?_) (fun hc7 => ?_)
      · replace hb6 := cond_t hc7 hb6
        refine TC.skipk ?_
        refine TC.k ?_
        refine TC.block ?_
        refine TC.k ?_
        refine TC.region_still kfollows_mixedOrders_true (by kernel_rfl) ?_
        refine TS.s rfl rfl rfl (StepS.move rfl) ?_
        refine TS.s rfl rfl rfl (StepS.move rfl) ?_
        obtain ⟨x8, hx9, hb6⟩ := bind_some hb6
        refine TS.s rfl rfl rfl (StepS.idx rfl rfl e0 ksliceB_34_35_1_true (idx_spec hx9).1 (idxm_lt hx9)) ?_
        refine TS.s rfl rfl rfl (StepS.ld0 rfl e0 kscalB_35_true rfl (idxm hx9) rfl) ?_
        refine TS.s rfl rfl rfl (StepS.move rfl) ?_
        refine TS.s rfl rfl rfl (StepS.move rfl) ?_
        obtain ⟨x10, hx11, hb6⟩ := bind_some hb6
        refine TS.s rfl rfl rfl (StepS.idx rfl rfl e1 ksliceB_34_35_1_true (idx_spec hx11).1 (idxm_lt hx11)) ?_
        refine TS.s rfl rfl rfl (StepS.ld0 rfl e1 kscalB_35_true rfl (idxm hx11) rfl) ?_
        refine TS.s rfl rfl rfl (StepS.cmpU rfl rfl rfl) ?_
        refine TS.code ?_
        refine TC.cond rfl (fun hc12 => ?_) (fun hc12 => ?_)
        · replace hb6 := cond_t hc12 hb6
          refine TC.k ?_
          refine TC.region ?_
          refine TO.s rfl rfl rfl (StepS.assign rfl) ?_
          refine TO.code ?_
          cases hb6
          refine TC.ret fun a w e s => ?_
          refine FRet.mk1 (P := Try.prog) (fn := Try.f41) (t := 4) e rfl rfl ?_
          exact ⟨rfl, s.mono fun _ => Sat.dropN 0⟩
        · replace hb6 := cond_f hc12 hb6
          refine TC.skipk ?_
          refine TC.region ?_
          refine TO.s rfl rfl rfl (StepS.move rfl) ?_
          refine TO.s rfl rfl rfl (StepS.ari rfl rfl rfl) ?_
          refine TO.s rfl rfl rfl (StepS.assign rfl) ?_
          cases hb6
          refine TO.nil fun a w e s => ?_
          exact ⟨e.sub (lk_of_allIn ⟨rfl, rfl, rfl, trivial⟩), s⟩
      · replace hb6 := cond_f hc7 hb6
        cases hb6
        refine TC.exit rfl fun a w e s => ?_
        exact ⟨e.sub (lk_of_allIn trivial), s⟩
    · exact fun a w e s => ⟨e.sub (lk_of_allIn ⟨rfl, rfl, rfl, trivial⟩), s⟩
    · rintro _ rfl a w ⟨he, hs⟩
      dsimp only [Ctl.on] at hm
      refine TC.use ?_ he hs
      refine TC.k ?_
      refine TC.region ?_
      refine TO.s rfl rfl rfl (StepS.assign rfl) ?_
      refine TO.code ?_
      cases hm
      refine TC.ret fun a w e s => ?_
      refine FRet.mk1 (P := Try.prog) (fn := Try.f41) (t := 4) e rfl rfl ?_
      exact ⟨rfl, s.mono fun _ => Sat.dropN 0⟩
    · rintro r rfl
      cases hm
      exact fun a w h => h

set_option maxRecDepth 100000 in
theorem C13 {B : World} {L : List HP} {a0 : List Int} {a1 : Int} {h0 : Value} {r0 : Bool} (e0 : Ent L (Rd 1 h0 (a0.map cI))) (hm : F13 a0 a1 = some r0) {w : World} (st : St B L w) : Calls Try.prog 13 #[h0, I a1] w (fun e w' => (e = .returned (.bool r0) ∧ St B (L) w')) := by
  refine calls_of (N := 75) (L := L) (args := [h0, I a1]) Try.func13 rfl rfl rfl ?_ st
  dsimp only [F13] at hm
  refine TC.k ?_
  refine TC.region ?_
  refine TO.s rfl rfl rfl (StepS.assign rfl) ?_
  refine TO.code ?_
  refine TC.k ?_
  refine TC.region ?_
  refine TO.s rfl rfl rfl (StepS.move rfl) ?_
  refine TO.s rfl rfl rfl (StepS.move rfl) ?_
  obtain ⟨⟨r1, r2⟩, hc3, hm⟩ := bind_some hm
  refine TO.callO kcallB_39_true rfl rfl rfl (fun _ st => C39 e0 hc3 st) ?_
  rintro _ _ ⟨v4, rfl, rfl⟩
  refine TO.s rfl rfl rfl (StepS.move rfl) ?_
  refine TO.s rfl rfl rfl (StepS.extract rfl rfl) ?_
  refine TO.s rfl rfl rfl (StepS.extract rfl rfl) ?_
  refine TO.s rfl rfl rfl (StepS.assign rfl) ?_
  refine TO.s rfl rfl rfl (StepS.assign rfl) ?_
  refine TO.code ?_
  refine TC.k ?_
  refine TC.region ?_
  refine TO.s rfl rfl rfl (StepS.assign rfl) ?_
  refine TO.code ?_
  refine TC.k ?_
  refine TC.k ?_
  refine TC.region ?_
  refine TO.s rfl rfl rfl (StepS.move rfl) ?_
  refine TO.s rfl rfl rfl (StepS.lenm rfl e0.tl ksliceB_28_3_1_true rfl) ?_
  refine TO.s rfl rfl rfl (StepS.cmp rfl rfl rfl) ?_
  refine TO.s rfl rfl rfl (StepS.move rfl) ?_
  refine TO.mid1 4 23 (.bool ((decide ((a0.length : Int) < 1)) || (decide ((a0.length : Int) > 6)))) ?_ ?_
  · refine bcase ((decide ((a0.length : Int) < 1))) (fun hb6 => ?_) (fun hb6 => ?_)
    · refine TO.skip rfl rfl rfl (skipT hb6) rfl rfl ?_
      refine TO.skip rfl rfl rfl (skipT hb6) rfl rfl ?_
      refine TO.skip rfl rfl rfl (skipT hb6) rfl rfl ?_
      refine TO.s rfl rfl rfl (StepS.pickT rfl hb6 rfl) ?_
      exact TO.up1 4 0 rfl rfl (by rw [hb6]; rfl) rfl
    · refine TO.sw rfl rfl rfl hb6 rfl rfl (StepS.move rfl) ?_
      refine TO.sw rfl rfl rfl hb6 rfl rfl (StepS.lenm rfl e0.tl ksliceB_28_3_1_true rfl) ?_
      refine TO.sw rfl rfl rfl hb6 rfl rfl (StepS.cmp rfl rfl rfl) ?_
      refine TO.s rfl rfl rfl (StepS.pickF rfl hb6 rfl) ?_
      exact TO.up1 4 0 rfl rfl (by rw [hb6]; rfl) rfl
  refine TO.code ?_
  obtain ⟨x7, hj8, hm⟩ := bind_some hm
  refine TC.cutM (fun a w => Mid 75 B [(0, h0), (1, I a1), (5, v4), (6, I r2), (7, I x7)] (OwnS 35 1 v4 (r1.map cU) :: L) a w) ?_ ?_
  · refine TC.cond rfl (fun hc9 => ?_) (fun hc9 => ?_)
    · replace hj8 := cond_t hc9 hj8
      refine TC.region ?_
      refine TO.s rfl rfl rfl (StepS.assign rfl) ?_
      cases hj8
      refine TO.nil fun a w e s => ?_
      exact ⟨e.sub (lk_of_allIn ⟨rfl, rfl, rfl, rfl, rfl, trivial⟩), s⟩
    · replace hj8 := cond_f hc9 hj8
      cases hj8
      refine TC.skip fun a w e s => ?_
      exact ⟨e.sub (lk_of_allIn ⟨rfl, rfl, rfl, rfl, rfl, trivial⟩), s⟩
  · intro a w ⟨he, hs⟩
    refine TC.use ?_ he hs
    refine TC.k ?_
    refine TC.k ?_
    refine TC.region ?_
    refine TO.s rfl rfl rfl (StepS.move rfl) ?_
    refine TO.s rfl rfl rfl (StepS.lenm rfl e0.tl ksliceB_28_3_1_true rfl) ?_
    refine TO.s rfl rfl rfl (StepS.move rfl) ?_
    refine TO.code ?_
    obtain ⟨o15, hw16, hm⟩ := bind_some hm
    refine TC.loop hw16 (fun (x10, x11) => fun a w => Mid 75 B [(0, h0), (1, I a1), (5, v4), (6, I r2), (7, I x10), (24, h0), (25, I (a0.length : Int)), (26, I x11)] (OwnS 35 1 v4 (r1.map cU) :: L) a w) (fun x14 => fun a w => Mid 75 B [(0, h0), (1, I a1), (5, v4), (6, I r2), (7, I x14)] (OwnS 35 1 v4 (r1.map cU) :: L) a w) (fun (_ : Unit) _ _ => False) ?_ ?_ ?_ ?_
    · rintro ⟨x10, x11⟩ o15r hb17 a w ⟨he, hs⟩
      dsimp only [F13_L0] at hb17
      refine TC.use ?_ he hs
      refine TC.k ?_
      refine TC.region ?_
      refine TO.s rfl rfl rfl (StepS.cmp rfl rfl rfl) ?_
      refine TO.code ?_
      refine TC.k ?_
      refine TC.cond rfl (fun hc18 => ?_) (fun hc18 => ?_)
      · replace hb17 := cond_t hc18 hb17
        refine TC.skipk ?_
        refine TC.k ?_
        obtain ⟨x19, hj20, hb17⟩ := bind_some hb17
        refine TC.cutM (fun a w => Mid 75 B [(0, h0), (1, I a1), (5, v4), (6, I r2), (7, I x19), (24, h0), (25, I (a0.length : Int)), (26, I x11)] (OwnS 35 1 v4 (r1.map cU) :: L) a w) ?_ ?_
        · refine TC.block ?_
          refine TC.k ?_
          refine TC.region ?_
          obtain ⟨x21, hx22, hj20⟩ := bind_some hj20
          refine TO.s rfl rfl rfl (StepS.idx rfl rfl e0.tl ksliceB_28_3_1_true (idx_spec hx22).1 (idxm_lt hx22)) ?_
          refine TO.s rfl rfl rfl (StepS.ld0 rfl e0.tl kscalB_3_true rfl (idxm hx22) rfl) ?_
          refine TO.s rfl rfl rfl (StepS.assign rfl) ?_
          refine TO.code ?_
          refine TC.k ?_
          refine TC.region ?_
          refine TO.s rfl rfl rfl (StepS.move rfl) ?_
          refine TO.s rfl rfl rfl (StepS.cmp rfl rfl rfl) ?_
          refine TO.s rfl rfl rfl (StepS.move rfl) ?_
          refine TO.mid1 7 39 (.bool ((x10 == 0) && ((decide (x21 < 0)) || (decide (x21 > 100))))) ?_ ?_
          · refine bcase ((x10 == 0)) (fun hb23 => ?_) (fun hb23 => ?_)
            · refine TO.sw rfl rfl rfl hb23 rfl rfl (StepS.move rfl) ?_
              refine TO.sw rfl rfl rfl hb23 rfl rfl (StepS.cmp rfl rfl rfl) ?_
              refine TO.sw rfl rfl rfl hb23 rfl rfl (StepS.move rfl) ?_
              refine TO.mid1 3 38 (.bool ((decide (x21 < 0)) || (decide (x21 > 100)))) ?_ ?_
              · refine bcase ((decide (x21 < 0))) (fun hb24 => ?_) (fun hb24 => ?_)
                · refine TO.skip rfl rfl rfl (skipT hb24) rfl rfl ?_
                  refine TO.skip rfl rfl rfl (skipT hb24) rfl rfl ?_
                  refine TO.sw rfl rfl rfl hb23 rfl rfl (StepS.pickT rfl hb24 rfl) ?_
                  exact TO.up1 3 0 rfl rfl (by rw [hb24]; rfl) rfl
                · refine TO.sw rfl rfl rfl hb24 rfl rfl (StepS.move rfl) ?_
                  refine TO.sw rfl rfl rfl hb24 rfl rfl (StepS.cmp rfl rfl rfl) ?_
                  refine TO.sw rfl rfl rfl hb23 rfl rfl (StepS.pickF rfl hb24 rfl) ?_
                  exact TO.up1 3 0 rfl rfl (by rw [hb24]; rfl) rfl
              refine TO.s rfl rfl rfl (StepS.pickT rfl hb23 rfl) ?_
              exact TO.up1 5 0 rfl rfl (by rw [hb23]; rfl) rfl
            · refine TO.skip rfl rfl rfl (skipF hb23) rfl rfl ?_
              refine TO.skip rfl rfl rfl (skipF hb23) rfl rfl ?_
              refine TO.skip rfl rfl rfl (skipF hb23) rfl rfl ?_
              refine TO.skip rfl rfl rfl skipU rfl rfl ?_
              refine TO.skip rfl rfl rfl skipU rfl rfl ?_
              refine TO.skip rfl rfl rfl (skipF hb23) rfl rfl ?_
              refine TO.s rfl rfl rfl (StepS.pickF rfl hb23 rfl) ?_
              exact TO.up1 7 0 rfl rfl (by rw [hb23]; rfl) rfl
          refine TO.code ?_
          refine TC.cond rfl (fun hc25 => ?_) (fun hc25 => ?_)
          · replace hj20 := cond_t hc25 hj20
            refine TC.region ?_
            refine TO.s rfl rfl rfl (StepS.assign rfl) ?_
            cases hj20
            refine TO.nil fun a w e s => ?_
            exact ⟨e.sub (lk_of_allIn ⟨rfl, rfl, rfl, rfl, rfl, rfl, rfl, rfl, trivial⟩), s⟩
          · replace hj20 := cond_f hc25 hj20
            cases hj20
            refine TC.skip fun a w e s => ?_
            exact ⟨e.sub (lk_of_allIn ⟨rfl, rfl, rfl, rfl, rfl, rfl, rfl, rfl, trivial⟩), s⟩
        · intro a w ⟨he, hs⟩
          refine TC.use ?_ he hs
          refine TC.region ?_
          refine TO.s rfl rfl rfl (StepS.ari rfl rfl rfl) ?_
          refine TO.s rfl rfl rfl (StepS.move rfl) ?_
          cases hb17
          refine TO.nil fun a w e s => ?_
          exact ⟨e.sub (lk_of_allIn ⟨rfl, rfl, rfl, rfl, rfl, rfl, rfl, rfl, trivial⟩), s⟩
      · replace hb17 := cond_f hc18 hb17
        cases hb17
        refine TC.exit rfl fun a w e s => ?_
        exact ⟨e.sub (lk_of_allIn ⟨rfl, rfl, rfl, rfl, rfl, trivial⟩), s⟩
    · exact fun a w e s => ⟨e.sub (lk_of_allIn ⟨rfl, rfl, rfl, rfl, rfl, rfl, rfl, rfl, trivial⟩), s⟩
    · rintro x14 rfl a w ⟨he, hs⟩
      dsimp only [Ctl.on] at hm
      refine TC.use ?_ he hs
      refine TC.k ?_
      refine TC.k ?_
      refine TC.region ?_
      refine TO.s rfl rfl rfl (StepS.move rfl) ?_
      refine TO.s rfl rfl rfl (StepS.cmp rfl rfl rfl) ?_
      refine TO.s rfl rfl rfl (StepS.move rfl) ?_
      refine TO.mid1 3 46 (.bool ((x14 == 0) && (decide (a1 < 1)))) ?_ ?_
      · refine bcase ((x14 == 0)) (fun hb26 => ?_) (fun hb26 => ?_)
        · refine TO.sw rfl rfl rfl hb26 rfl rfl (StepS.move rfl) ?_
          refine TO.sw rfl rfl rfl hb26 rfl rfl (StepS.cmp rfl rfl rfl) ?_
          refine TO.s rfl rfl rfl (StepS.pickT rfl hb26 rfl) ?_
          exact TO.up1 3 0 rfl rfl (by rw [hb26]; rfl) rfl
        · refine TO.skip rfl rfl rfl (skipF hb26) rfl rfl ?_
          refine TO.skip rfl rfl rfl (skipF hb26) rfl rfl ?_
          refine TO.s rfl rfl rfl (StepS.pickF rfl hb26 rfl) ?_
          exact TO.up1 3 0 rfl rfl (by rw [hb26]; rfl) rfl
      refine TO.code ?_
      obtain ⟨x27, hj28, hm⟩ := bind_some hm
      refine TC.cutM (fun a w => Mid 75 B [(0, h0), (1, I a1), (5, v4), (6, I r2), (7, I x27)] (OwnS 35 1 v4 (r1.map cU) :: L) a w) ?_ ?_
      · refine TC.cond rfl (fun hc29 => ?_) (fun hc29 => ?_)
        · replace hj28 := cond_t hc29 hj28
          refine TC.region ?_
          refine TO.s rfl rfl rfl (StepS.assign rfl) ?_
          cases hj28
          refine TO.nil fun a w e s => ?_
          exact ⟨e.sub (lk_of_allIn ⟨rfl, rfl, rfl, rfl, rfl, trivial⟩), s⟩
        · replace hj28 := cond_f hc29 hj28
          cases hj28
          refine TC.skip fun a w e s => ?_
          exact ⟨e.sub (lk_of_allIn ⟨rfl, rfl, rfl, rfl, rfl, trivial⟩), s⟩
      · intro a w ⟨he, hs⟩
        refine TC.use ?_ he hs
        refine TC.k ?_
        refine TC.k ?_
        refine TC.region ?_
        refine TO.s rfl rfl rfl (StepS.move rfl) ?_
        refine TO.s rfl rfl rfl (StepS.cmp rfl rfl rfl) ?_
        refine TO.s rfl rfl rfl (StepS.move rfl) ?_
        obtain ⟨b31, hj32, hm⟩ := bind_some hm
        refine TO.mid1 6 55 (.bool b31) ?_ ?_
        · refine bcase ((x27 == 0)) (fun hb30 => ?_) (fun hb30 => ?_)
          · replace hj32 := cond_t hb30 hj32
            refine TO.sw rfl rfl rfl hb30 rfl rfl (StepS.move rfl) ?_
            refine TO.sw rfl rfl rfl hb30 rfl rfl (StepS.move rfl) ?_
            obtain ⟨r33, hc34, hj32⟩ := bind_some hj32
            refine TO.callOw rfl rfl hb30 kcallB_40_true rfl rfl rfl (fun _ st => C40 e0.tl hc34 st) ?_
            rintro v35 _ ⟨_, rfl, rfl⟩
            refine TO.sw rfl rfl rfl hb30 rfl rfl (StepS.lenm rfl (OwnS.rd (Ent.at 0 rfl)) ksliceB_34_35_1_true rfl) ?_
            refine TO.sw rfl rfl rfl hb30 rfl rfl (StepS.cmp rfl rfl rfl) ?_
            cases hj32
            refine TO.s rfl rfl rfl (StepS.pickT rfl hb30 rfl) ?_
            exact TO.up1 6 1 rfl rfl rfl rfl
          · replace hj32 := cond_f hb30 hj32
            cases hj32
            refine TO.skip rfl rfl rfl (skipF hb30) rfl rfl ?_
            refine TO.skip rfl rfl rfl (skipF hb30) rfl rfl ?_
            refine TO.skip rfl rfl rfl (skipF hb30) rfl rfl ?_
            refine TO.skip rfl rfl rfl (skipF hb30) rfl rfl ?_
            refine TO.skip rfl rfl rfl (skipF hb30) rfl rfl ?_
            refine TO.s rfl rfl rfl (StepS.pickF rfl hb30 rfl) ?_
            exact TO.up1 6 0 rfl rfl rfl rfl
        refine TO.code ?_
        obtain ⟨x37, hj38, hm⟩ := bind_some hm
        refine TC.cutM (fun a w => Mid 75 B [(0, h0), (1, I a1), (5, v4), (6, I r2), (7, I x37)] (OwnS 35 1 v4 (r1.map cU) :: L) a w) ?_ ?_
        · refine TC.cond rfl (fun hc39 => ?_) (fun hc39 => ?_)
          · replace hj38 := cond_t hc39 hj38
            refine TC.region ?_
            refine TO.s rfl rfl rfl (StepS.assign rfl) ?_
            cases hj38
            refine TO.nil fun a w e s => ?_
            exact ⟨e.sub (lk_of_allIn ⟨rfl, rfl, rfl, rfl, rfl, trivial⟩), s⟩
          · replace hj38 := cond_f hc39 hj38
            cases hj38
            refine TC.skip fun a w e s => ?_
            exact ⟨e.sub (lk_of_allIn ⟨rfl, rfl, rfl, rfl, rfl, trivial⟩), s⟩
        · intro a w ⟨he, hs⟩
          refine TC.use ?_ he hs
          refine TC.k ?_
          refine TC.k ?_
          refine TC.region ?_
          refine TO.s rfl rfl rfl (StepS.move rfl) ?_
          refine TO.s rfl rfl rfl (StepS.cmp rfl rfl rfl) ?_
          refine TO.code ?_
          refine TC.cond rfl (fun hc40 => ?_) (fun hc40 => ?_)
          · replace hm := cond_t hc40 hm
            refine TC.k ?_
            refine TC.region ?_
            refine TO.s rfl rfl rfl (StepS.move rfl) ?_
            refine TO.s rfl rfl rfl (StepS.move rfl) ?_
            refine TO.s rfl rfl rfl (StepS.cmp rfl rfl rfl) ?_
            refine TO.s rfl rfl rfl (StepS.move rfl) ?_
            refine TO.mid1 4 65 (.bool ((r2 == x37) && ((r1.length : Int) == 0))) ?_ ?_
            · refine bcase ((r2 == x37)) (fun hb41 => ?_) (fun hb41 => ?_)
              · refine TO.sw rfl rfl rfl hb41 rfl rfl (StepS.move rfl) ?_
                refine TO.sw rfl rfl rfl hb41 rfl rfl (StepS.lenm rfl (OwnS.rd (Ent.at 0 rfl)) ksliceB_34_35_1_true rfl) ?_
                refine TO.sw rfl rfl rfl hb41 rfl rfl (StepS.cmp rfl rfl rfl) ?_
                refine TO.s rfl rfl rfl (StepS.pickT rfl hb41 rfl) ?_
                exact TO.up1 4 0 rfl rfl (by rw [hb41]; rfl) rfl
              · refine TO.skip rfl rfl rfl (skipF hb41) rfl rfl ?_
                refine TO.skip rfl rfl rfl (skipF hb41) rfl rfl ?_
                refine TO.skip rfl rfl rfl (skipF hb41) rfl rfl ?_
                refine TO.s rfl rfl rfl (StepS.pickF rfl hb41 rfl) ?_
                exact TO.up1 4 0 rfl rfl (by rw [hb41]; rfl) rfl
            refine TO.s rfl rfl rfl (StepS.assign rfl) ?_
            refine TO.code ?_
            cases hm
            refine TC.ret fun a w e s => ?_
            refine FRet.mk1 (P := Try.prog) (fn := Try.f13) (t := 4) e rfl rfl ?_
            exact ⟨rfl, s.mono fun _ => Sat.dropN 1⟩
          · replace hm := cond_f hc40 hm
            refine TC.skipk ?_
            refine TC.k ?_
            refine TC.region ?_
            refine TO.s rfl rfl rfl (StepS.move rfl) ?_
            refine TO.s rfl rfl rfl (StepS.cmp rfl rfl rfl) ?_
            refine TO.s rfl rfl rfl (StepS.move rfl) ?_
            obtain ⟨b43, hj44, hm⟩ := bind_some hm
            refine TO.mid1 6 74 (.bool b43) ?_ ?_
            · refine bcase ((r2 == 0)) (fun hb42 => ?_) (fun hb42 => ?_)
              · replace hj44 := cond_t hb42 hj44
                refine TO.sw rfl rfl rfl hb42 rfl rfl (StepS.move rfl) ?_
                refine TO.sw rfl rfl rfl hb42 rfl rfl (StepS.move rfl) ?_
                refine TO.sw rfl rfl rfl hb42 rfl rfl (StepS.move rfl) ?_
                obtain ⟨r45, hc46, hj44⟩ := bind_some hj44
                refine TO.callOw rfl rfl hb42 kcallB_40_true rfl rfl rfl (fun _ st => C40 e0.tl hc46 st) ?_
                rintro v47 _ ⟨_, rfl, rfl⟩
                obtain ⟨r49, hc50, hj44⟩ := bind_some hj44
                refine TO.qw rfl rfl rfl hb42 rfl rfl (StepQ.call kcallB_41_true rfl rfl (fun _ st => C41 (OwnS.rd (Ent.at 1 rfl)) (OwnS.rd (Ent.at 0 rfl)) hc50 st)) ?_
                cases hj44
                refine TO.s rfl rfl rfl (StepS.pickT rfl hb42 rfl) ?_
                exact TO.up1 6 1 rfl rfl rfl rfl
              · replace hj44 := cond_f hb42 hj44
                cases hj44
                refine TO.skip rfl rfl rfl (skipF hb42) rfl rfl ?_
                refine TO.skip rfl rfl rfl (skipF hb42) rfl rfl ?_
                refine TO.skip rfl rfl rfl (skipF hb42) rfl rfl ?_
                refine TO.skip rfl rfl rfl (skipF hb42) rfl rfl ?_
                refine TO.skip rfl rfl rfl (skipF hb42) rfl rfl ?_
                refine TO.s rfl rfl rfl (StepS.pickF rfl hb42 rfl) ?_
                exact TO.up1 6 0 rfl rfl rfl rfl
            refine TO.s rfl rfl rfl (StepS.assign rfl) ?_
            refine TO.code ?_
            cases hm
            refine TC.ret fun a w e s => ?_
            refine FRet.mk1 (P := Try.prog) (fn := Try.f13) (t := 4) e rfl rfl ?_
            exact ⟨rfl, s.mono fun _ => Sat.dropN 1⟩
    · rintro r rfl
      exact fun a w h => h.elim

set_option maxRecDepth 100000 in
theorem C61 {B : World} {L : List HP} {a0 : List (BitVec 32)} {h0 : Value} {r0 : List (BitVec 32)} (e0 : Ent L (Rd 1 h0 (a0.map cU))) (hm : F61 a0 = some r0) {w : World} (st : St B L w) : Calls Try.prog 61 #[h0] w (fun e w' => ∃ v M, e = .returned v ∧ (∃ (qr0 : Value), v = qr0 ∧ M = (OwnS 35 1 qr0 (r0.map cU) :: L)) ∧ St B M w') := by
  refine calls_of (N := 8) (L := L) (args := [h0]) Try.func61 rfl rfl rfl ?_ st
  dsimp only [F61] at hm
  refine TC.k ?_
  refine TC.region ?_
  refine TO.s rfl rfl rfl (StepS.assign rfl) ?_
  refine TO.code ?_
  refine TC.k ?_
  refine TC.k ?_
  refine TC.region ?_
  refine TO.s rfl rfl rfl (StepS.move rfl) ?_
  refine TO.nilck rfl e0 ksliceB_34_35_1_true rfl fun b hb => ?_
  refine TO.code ?_
  refine TC.cond rfl (fun hc => ?_) (fun hc => ?_)
  · have hn : a0 = [] := by simpa using hb hc
    subst hn
    have hr : r0 = [] := by simpa using (appl_spec hm).2.2
    subst hr
    refine TC.k ?_
    refine TC.region ?_
    refine TO.s rfl rfl rfl (StepS.assign rfl) ?_
    refine TO.code ?_
    refine TC.ret fun a w e s => ?_
    refine FRet.mk1 (P := Try.prog) (fn := Try.f61) (t := 2) e rfl rfl ?_
    exact ⟨_, _, rfl, ⟨_, rfl, rfl⟩, s.mono fun _ s => Sat.nilS s⟩
  · refine TC.skipk ?_
    refine TC.k ?_
    refine TC.region ?_
    refine TO.lit0 (f := cU) ksliceB_34_35_1_true rfl fun v1 => ?_
    refine TO.s rfl rfl rfl (StepS.move rfl) ?_
    refine TO.app (k := 0) (f := cU) kelemB_34_35_1_4_true (by decide) rfl rfl rfl e0.tl hm (fun x c hc => by simp [Value.oneCell'] at hc ⊢; first | (obtain rfl := hc; rfl) | (rcases hc with rfl <;> rfl)) rfl rfl fun v2 => ?_
    refine TO.s rfl rfl rfl (StepS.assign rfl) ?_
    refine TO.code ?_
    refine TC.ret fun a w e s => ?_
    refine FRet.mk1 (P := Try.prog) (fn := Try.f61) (t := 2) e rfl rfl ?_
    exact ⟨_, _, rfl, ⟨_, rfl, rfl⟩, s⟩

set_option maxRecDepth 100000 in
theorem C63 {B : World} {L : List HP} {a0 : BitVec 32} {a1 : BitVec 32} {b1_ : Nat} {r0 : Bool} (g1 : Ent L (Bx b1_ 35 [U a1])) (hm : F63 a0 a1 = some r0) {w : World} (st : St B L w) : Calls Try.prog 63 #[U a0, .pointer (some ⟨b1_, 0, none⟩)] w (fun e w' => (e = .returned (.bool r0) ∧ St B (L) w')) := by
  refine calls_of (N := 8) (L := L) (args := [U a0, .pointer (some ⟨b1_, 0, none⟩)]) Try.func63 rfl rfl rfl ?_ st
  dsimp only [F63] at hm
  refine TC.k ?_
  refine TC.region ?_
  refine TO.s rfl rfl rfl (StepS.assign rfl) ?_
  refine TO.code ?_
  refine TC.k ?_
  refine TC.region ?_
  refine TO.s rfl rfl rfl (StepS.ldB rfl g1 kscalB_35_true rfl) ?_
  refine TO.s rfl rfl rfl (StepS.move rfl) ?_
  refine TO.s rfl rfl rfl (StepS.bitU rfl rfl rfl) ?_
  refine TO.s rfl rfl rfl (StepS.cmpU (n := 0#32) rfl rfl rfl) ?_
  refine TO.s rfl rfl rfl (StepS.assign rfl) ?_
  refine TO.code ?_
  cases hm
  refine TC.ret fun a w e s => ?_
  refine FRet.mk1 (P := Try.prog) (fn := Try.f63) (t := 3) e rfl rfl ?_
  exact ⟨rfl, s.mono fun _ => Sat.dropN 0⟩

set_option maxRecDepth 100000 in
theorem C62 {B : World} {L : List HP} {a0 : List (BitVec 32)} {a1 : (BitVec 32) → Option Bool} {h0 : Value} {h1 : Value} {r0 : List (BitVec 32)} (e1 : FOk Try.prog B L h1 (fun (z : BitVec 32) => [U z]) (fun (z : Bool) => .bool z) a1) (hm : F62 a0 a1 = some r0) {w : World} (st : St B (OwnS 35 1 h0 (a0.map cU) :: L) w) : Calls Try.prog 62 #[h0, h1] w (fun e w' => ∃ v M, e = .returned v ∧ (∃ (qv1 : Value), v = qv1 ∧ M = (OwnS 35 1 qv1 (r0.map cU) :: L)) ∧ St B M w') := by
  refine calls_of (N := 42) (L := (OwnS 35 1 h0 (a0.map cU) :: L)) (args := [h0, h1]) Try.func62 rfl rfl rfl ?_ st
  dsimp only [F62] at hm
  refine TC.k ?_
  refine TC.region ?_
  refine TO.s rfl rfl rfl (StepS.assign rfl) ?_
  refine TO.code ?_
  refine TC.k ?_
  refine TC.region ?_
  refine TO.s rfl rfl rfl (StepS.move rfl) ?_
  refine TO.s rfl rfl rfl (StepS.move rfl) ?_
  obtain ⟨r3, hc4, hm⟩ := bind_some hm
  refine TO.q rfl rfl rfl (StepQ.call kcallB_69_true rfl rfl (fun _ st => C69 (OwnS.rd (Ent.at 0 rfl)) (e1.ext (Ext.rfl.tl)) hc4 st)) ?_
  refine TO.s rfl rfl rfl (StepS.assign rfl) ?_
  refine TO.code ?_
  refine TC.k ?_
  refine TC.k ?_
  refine TC.region ?_
  refine TO.s rfl rfl rfl (StepS.move rfl) ?_
  refine TO.s rfl rfl rfl (StepS.cmp rfl rfl rfl) ?_
  refine TO.code ?_
  refine TC.cond rfl (fun hc5 => ?_) (fun hc5 => ?_)
  · replace hm := cond_t hc5 hm
    refine TC.k ?_
    refine TC.region ?_
    refine TO.s rfl rfl rfl (StepS.move rfl) ?_
    refine TO.s rfl rfl rfl (StepS.assign rfl) ?_
    refine TO.code ?_
    cases hm
    refine TC.ret fun a w e s => ?_
    refine FRet.mk1 (P := Try.prog) (fn := Try.f62) (t := 4) e rfl rfl ?_
    refine ⟨_, _, rfl, ⟨(h0), rfl, rfl⟩, ?_⟩
    refine s.mono fun _ s => ?_
    replace s := Sat.front 0 rfl s
    exact s
  · replace hm := cond_f hc5 hm
    refine TC.skipk ?_
    refine TC.k ?_
    refine TC.k ?_
    refine TC.region ?_
    refine TO.s rfl rfl rfl (StepS.move rfl) ?_
    refine TO.s rfl rfl rfl (StepS.ari rfl rfl rfl) ?_
    refine TO.s rfl rfl rfl (StepS.assign rfl) ?_
    refine TO.code ?_
    obtain ⟨o17, hw18, hm⟩ := bind_some hm
    refine TC.loop hw18 (fun (y6, x8, x9) => fun a w => ∃ v7 : Value, Mid 42 B [(0, v7), (1, h1), (5, I x8), (6, I x9)] (OwnS 35 1 v7 (y6.map cU) :: L) a w) (fun (y14, x16) => fun a w => ∃ v15 : Value, Mid 42 B [(0, v15), (5, I x16)] (OwnS 35 1 v15 (y14.map cU) :: L) a w) (fun (_ : Unit) _ _ => False) ?_ ?_ ?_ ?_
    · rintro ⟨y6, x8, x9⟩ o17r hb19 a w ⟨v7, he, hs⟩
      dsimp only [F62_L0] at hb19
      refine TC.use ?_ he hs
      refine TC.k ?_
      refine TC.k ?_
      refine TC.region ?_
      refine TO.s rfl rfl rfl (StepS.move rfl) ?_
      refine TO.s rfl rfl rfl (StepS.move rfl) ?_
      refine TO.s rfl rfl rfl (StepS.lenm rfl (OwnS.rd (Ent.at 0 rfl)) ksliceB_34_35_1_true rfl) ?_
      refine TO.s rfl rfl rfl (StepS.cmp rfl rfl rfl) ?_
      refine TO.code ?_
      refine TC.cond rfl (fun hc20 => ?_) (fun hc20 => ?_)
      · replace hb19 := cond_t hc20 hb19
        refine TC.skipk ?_
        refine TC.k ?_
        obtain ⟨⟨y21, x23⟩, hj24, hb19⟩ := bind_some hb19
        refine TC.cutM (fun a w => ∃ v22 : Value, Mid 42 B [(0, v22), (1, h1), (5, I x23), (6, I x9)] (OwnS 35 1 v22 (y21.map cU) :: L) a w) ?_ ?_
        · refine TC.block ?_
          refine TC.k ?_
          refine TC.region ?_
          refine TO.s rfl rfl rfl (StepS.move rfl) ?_
          refine TO.s rfl rfl rfl (StepS.move rfl) ?_
          obtain ⟨x25, hx26, hj24⟩ := bind_some hj24
          refine TO.s rfl rfl rfl (StepS.idx rfl rfl (OwnS.rd (Ent.at 0 rfl)) ksliceB_34_35_1_true (idx_spec hx26).1 (idxm_lt hx26)) ?_
          refine TO.s rfl rfl rfl (StepS.ld0 rfl (OwnS.rd (Ent.at 0 rfl)) kscalB_35_true rfl (idxm hx26) rfl) ?_
          refine TO.s rfl rfl rfl (StepS.assign rfl) ?_
          refine TO.code ?_
          refine TC.k ?_
          refine TC.region ?_
          refine TO.s rfl rfl rfl (StepS.move rfl) ?_
          refine TO.s rfl rfl rfl (StepS.move rfl) ?_
          obtain ⟨r27, hc28, hj24⟩ := bind_some hj24
          refine TO.q rfl rfl rfl (StepQ.callF (x := x25) e1 (Ext.rfl.tl) rfl rfl hc28) ?_
          refine TO.s rfl rfl rfl (StepS.not rfl) ?_
          refine TO.code ?_
          refine TC.cond rfl (fun hc29 => ?_) (fun hc29 => ?_)
          · replace hj24 := cond_t hc29 hj24
            refine TC.k ?_
            refine TC.region ?_
            refine TO.s rfl rfl rfl (StepS.move rfl) ?_
            refine TO.s rfl rfl rfl (StepS.move rfl) ?_
            refine TO.s rfl rfl rfl (StepS.move rfl) ?_
            obtain ⟨x30, hx31, hj24⟩ := bind_some hj24
            refine TO.s rfl rfl rfl (StepS.idx rfl rfl (OwnS.rd (Ent.at 0 rfl)) ksliceB_34_35_1_true (idx_spec hx31).1 (idxm_lt hx31)) ?_
            refine TO.stO (i := x8.toNat) (off := 0) (us := [U x25]) 0 x25 rfl rfl rfl ksizeB_35_1_true rfl rfl rfl (idx_spec hx31).2 rfl (by simp [Value.oneCell']) rfl ?_
            refine TO.code ?_
            refine TC.region ?_
            refine TO.s rfl rfl rfl (StepS.move rfl) ?_
            refine TO.s rfl rfl rfl (StepS.ari rfl rfl rfl) ?_
            refine TO.s rfl rfl rfl (StepS.assign rfl) ?_
            cases hj24
            refine TO.nil fun a w e s => ?_
            exact ⟨v7, e.sub (lk_of_allIn ⟨rfl, rfl, rfl, rfl, trivial⟩), s⟩
          · replace hj24 := cond_f hc29 hj24
            cases hj24
            refine TC.skip fun a w e s => ?_
            exact ⟨v7, e.sub (lk_of_allIn ⟨rfl, rfl, rfl, rfl, trivial⟩), s⟩
        · intro a w ⟨v22, he, hs⟩
          refine TC.use ?_ he hs
          refine TC.region ?_
          refine TO.s rfl rfl rfl (StepS.move rfl) ?_
          refine TO.s rfl rfl rfl (StepS.ari rfl rfl rfl) ?_
          refine TO.s rfl rfl rfl (StepS.assign rfl) ?_
          cases hb19
          refine TO.nil fun a w e s => ?_
          exact ⟨v22, e.sub (lk_of_allIn ⟨rfl, rfl, rfl, rfl, trivial⟩), s⟩
      · replace hb19 := cond_f hc20 hb19
        cases hb19
        refine TC.exit rfl fun a w e s => ?_
        exact ⟨v7, e.sub (lk_of_allIn ⟨rfl, rfl, trivial⟩), s⟩
    · exact fun a w e s => ⟨h0, e.sub (lk_of_allIn ⟨rfl, rfl, rfl, rfl, trivial⟩), s⟩
    · rintro ⟨y14, x16⟩ rfl a w ⟨v15, he, hs⟩
      dsimp only [Ctl.on] at hm
      refine TC.use ?_ he hs
      refine TC.k ?_
      refine TC.region ?_
      refine TO.s rfl rfl rfl (StepS.move rfl) ?_
      refine TO.s rfl rfl rfl (StepS.move rfl) ?_
      obtain ⟨y32, hs33, hm⟩ := bind_some hm
      obtain ⟨hs33a, hs33b, hs33c, _⟩ := slI_spec hs33
      refine TO.s rfl rfl rfl (StepS.slc rfl (OwnS.rd (Ent.at 0 rfl)) ksliceB_34_35_1_true rfl (by simp [bnd]) hs33a hs33b (by simpa using hs33c)) ?_
      refine TO.clearO0 (f := cU) 0 0 kelemB_34_35_1_4_true (by decide) kinfo_35_bind_zero_some_U_0 rfl (fun c hc => by simp at hc; first | (obtain rfl := hc; rfl) | (rcases hc with rfl <;> rfl)) ⟨hs33a, hs33b⟩ rfl rfl rfl ?_
      refine TO.code ?_
      refine TC.k ?_
      refine TC.region ?_
      refine TO.s rfl rfl rfl (StepS.move rfl) ?_
      refine TO.s rfl rfl rfl (StepS.move rfl) ?_
      obtain ⟨y35, hs36, hm⟩ := bind_some hm
      obtain ⟨hs36a, hs36b, hs36c, _⟩ := slI_spec hs36
      refine TO.s rfl rfl rfl (StepS.slc rfl (OwnS.rd (Ent.at 0 rfl)) ksliceB_34_35_1_true rfl rfl hs36a hs36b (by simpa using hs36c)) ?_
      refine TO.s rfl rfl rfl (StepS.assign rfl) ?_
      refine TO.code ?_
      cases hm
      refine TC.ret fun a w e s => ?_
      refine FRet.mk1 (P := Try.prog) (fn := Try.f62) (t := 4) e rfl rfl ?_
      refine ⟨_, _, rfl, ⟨((subv v15 0 x16 1)), rfl, rfl⟩, ?_⟩
      refine s.mono fun _ s => ?_
      replace s := Sat.cutO 0 rfl hs36 s
      replace s := Sat.front 0 rfl s
      exact s
    · rintro r rfl
      exact fun a w h => h.elim

set_option maxRecDepth 100000 in
theorem C42 {B : World} {L : List HP} {a0 : Int} {a1 : List (BitVec 32)} {h1 : Value} {r0 : List (BitVec 32)} {r1 : Int} (e1 : Ent L (Rd 1 h1 (a1.map cU))) (hm : F42 a0 a1 = some (r0, r1)) {w : World} (st : St B L w) : Calls Try.prog 42 #[I a0, h1] w (fun e w' => ∃ v M, e = .returned v ∧ (∃ (qv1 : Value), v = .tuple #[qv1, I r1] ∧ M = (OwnS 35 1 qv1 (r0.map cU) :: L)) ∧ St B M w') := by
  refine calls_of (N := 46) (L := L) (args := [I a0, h1]) Try.func42 rfl rfl rfl ?_ st
  dsimp only [F42] at hm
  refine TC.k ?_
  refine TC.region ?_
  refine TO.s rfl rfl rfl (StepS.assign rfl) ?_
  refine TO.s rfl rfl rfl (StepS.assign rfl) ?_
  refine TO.code ?_
  refine TC.k ?_
  refine TC.k ?_
  refine TC.region ?_
  refine TO.s rfl rfl rfl (StepS.move rfl) ?_
  refine TO.s rfl rfl rfl (StepS.move rfl) ?_
  obtain ⟨r2, hc3, hm⟩ := bind_some hm
  refine TO.q rfl rfl rfl (StepQ.call kcallB_54_true rfl rfl (fun _ st => C54 e1 hc3 st)) ?_
  refine TO.s rfl rfl rfl (StepS.assign rfl) ?_
  refine TO.code ?_
  refine TC.k ?_
  refine TC.region ?_
  refine TO.s rfl rfl rfl (StepS.move rfl) ?_
  refine TO.s rfl rfl rfl (StepS.cmp rfl rfl rfl) ?_
  refine TO.code ?_
  refine TC.cond rfl (fun hc4 => ?_) (fun hc4 => ?_)
  · replace hm := cond_t hc4 hm
    refine TC.k ?_
    refine TC.region ?_
    refine TO.s rfl rfl rfl (StepS.move rfl) ?_
    refine TO.s rfl rfl rfl (StepS.assign rfl) ?_
    refine TO.s rfl rfl rfl (StepS.assign rfl) ?_
    refine TO.code ?_
    cases hm
    refine TC.ret fun a w e s => ?_
    refine FRet.mk2 (P := Try.prog) (fn := Try.f42) (t := 4) (u := 5) e rfl rfl rfl ?_
    refine ⟨_, _, rfl, ⟨(.slice none 0 0), rfl, rfl⟩, ?_⟩
    refine s.mono fun _ s => ?_
    replace s := Sat.nilS (e := 35) (sz := 1) (f := cU) s
    exact s
  · replace hm := cond_f hc4 hm
    refine TC.skipk ?_
    refine TC.k ?_
    refine TC.k ?_
    refine TC.region ?_
    refine TO.s rfl rfl rfl (StepS.move rfl) ?_
    obtain ⟨r5, hc6, hm⟩ := bind_some hm
    refine TO.q rfl rfl rfl (StepQ.call kcallB_56_true rfl rfl (fun _ st => C56 e1 hc6 st)) ?_
    refine TO.s rfl rfl rfl (StepS.not rfl) ?_
    refine TO.code ?_
    refine TC.cond rfl (fun hc7 => ?_) (fun hc7 => ?_)
    · replace hm := cond_t hc7 hm
      refine TC.k ?_
      refine TC.region ?_
      refine TO.s rfl rfl rfl (StepS.assign rfl) ?_
      refine TO.s rfl rfl rfl (StepS.assign rfl) ?_
      refine TO.code ?_
      cases hm
      refine TC.ret fun a w e s => ?_
      refine FRet.mk2 (P := Try.prog) (fn := Try.f42) (t := 4) (u := 5) e rfl rfl rfl ?_
      refine ⟨_, _, rfl, ⟨(.slice none 0 0), rfl, rfl⟩, ?_⟩
      refine s.mono fun _ s => ?_
      replace s := Sat.nilS (e := 35) (sz := 1) (f := cU) s
      exact s
    · replace hm := cond_f hc7 hm
      refine TC.skipk ?_
      refine TC.k ?_
      refine TC.region ?_
      refine TO.s rfl rfl rfl (StepS.move rfl) ?_
      obtain ⟨r8, hc9, hm⟩ := bind_some hm
      refine TO.callO kcallB_61_true rfl rfl rfl (fun _ st => C61 e1 hc9 st) ?_
      rintro v10 _ ⟨_, rfl, rfl⟩
      refine TO.s rfl rfl rfl (StepS.assign rfl) ?_
      refine TO.code ?_
      refine TC.k ?_
      refine TC.region ?_
      refine TO.s rfl rfl rfl (StepS.move rfl) ?_
      refine TO.s rfl rfl rfl (StepS.move rfl) ?_
      obtain ⟨⟨r12, r13⟩, hc14, hm⟩ := bind_some hm
      refine TO.q rfl rfl rfl (StepQ.call kcallB_57_true rfl rfl (fun _ st => C57 (OwnS.rd (Ent.at 0 rfl)) hc14 st)) ?_
      refine TO.s rfl rfl rfl (StepS.move rfl) ?_
      refine TO.s rfl rfl rfl (StepS.extract rfl rfl) ?_
      refine TO.s rfl rfl rfl (StepS.extract rfl rfl) ?_
      refine TO.s rfl rfl rfl (StepS.assign rfl) ?_
      refine TO.s rfl rfl rfl (StepS.assign rfl) ?_
      refine TO.code ?_
      refine TC.k ?_
      refine TC.k ?_
      refine TC.region ?_
      refine TO.s rfl rfl rfl (StepS.move rfl) ?_
      refine TO.s rfl rfl rfl (StepS.not rfl) ?_
      refine TO.code ?_
      refine TC.cond rfl (fun hc15 => ?_) (fun hc15 => ?_)
      · replace hm := cond_t hc15 hm
        refine TC.k ?_
        refine TC.region ?_
        refine TO.s rfl rfl rfl (StepS.move rfl) ?_
        refine TO.s rfl rfl rfl (StepS.assign rfl) ?_
        refine TO.s rfl rfl rfl (StepS.assign rfl) ?_
        refine TO.code ?_
        cases hm
        refine TC.ret fun a w e s => ?_
        refine FRet.mk2 (P := Try.prog) (fn := Try.f42) (t := 4) (u := 5) e rfl rfl rfl ?_
        refine ⟨_, _, rfl, ⟨(v10), rfl, rfl⟩, ?_⟩
        refine s.mono fun _ s => ?_
        replace s := Sat.front 0 rfl s
        exact s
      · replace hm := cond_f hc15 hm
        refine TC.skipk ?_
        refine TC.k ?_
        refine TC.region ?_
        refine TO.s rfl rfl rfl (StepS.move rfl) ?_
        obtain ⟨k16, hk17, hm⟩ := bind_some hm
        refine TO.s rfl rfl rfl (StepS.shlk (m := 1#32) rfl rfl hk17) ?_
        refine TO.s rfl rfl rfl (StepS.bitU (n := 1#32) rfl rfl rfl) ?_
        refine TO.s rfl rfl rfl (StepS.move rfl) ?_
        refine TO.s rfl rfl rfl (StepS.bitU rfl rfl rfl) ?_
        refine TO.alloc kinfo_35_bind_zero_some_U_0 rfl rfl fun b18 => ?_
        refine TO.stB (us := [U ((((1#32) <<< k16) - (1#32)) - r12)]) 0 [U ((((1#32) <<< k16) - (1#32)) - r12)] rfl rfl rfl ksizeB_35_1_true rfl rfl rfl (by simp [Value.oneCell']) rfl ?_
        refine TO.code ?_
        refine TC.k ?_
        refine TC.region ?_
        refine TO.s rfl rfl rfl (StepS.move rfl) ?_
        refine TO.s rfl rfl rfl (StepS.mkfn rfl) ?_
        refine TO.ghost (fun _ s => Sat.front 1 rfl s) ?_
        obtain ⟨r19, hc20, hm⟩ := bind_some hm
        refine TO.callO kcallB_62_true rfl rfl rfl (fun _ st => C62 ⟨63, #[], #[.pointer (some ⟨b18, 0, none⟩)], rfl, kcallB_63_true, fun _ hx z r hm w st => C63 (Ent.ext (Ent.at 0 rfl) hx) hm st⟩ hc20 st) ?_
        rintro v21 _ ⟨_, rfl, rfl⟩
        refine TO.s rfl rfl rfl (StepS.assign rfl) ?_
        refine TO.code ?_
        refine TC.k ?_
        refine TC.k ?_
        refine TC.region ?_
        refine TO.s rfl rfl rfl (StepS.move rfl) ?_
        refine TO.s rfl rfl rfl (StepS.ldB rfl (Ent.at 1 rfl) kscalB_35_true rfl) ?_
        refine TO.litS (f := cU) ([((((1#32) <<< k16) - (1#32)) - r12)] : List (BitVec 32)) kelemB_34_35_1_4_true kinfo_35_bind_zero_some_U_0 rfl rfl (fun _ => rfl) rfl rfl (by kernel_rfl) rfl fun v23 => ?_
        obtain ⟨y25, hk26, hm⟩ := bind_some hm
        refine TO.app (k := 1) (f := cU) kelemB_34_35_1_4_true (by decide) rfl rfl rfl (OwnS.rd (Ent.at 0 rfl)) hk26 (fun x c hc => by simp [Value.oneCell'] at hc ⊢; first | (obtain rfl := hc; rfl) | (rcases hc with rfl <;> rfl)) rfl rfl fun v27 => ?_
        refine TO.s rfl rfl rfl (StepS.assign rfl) ?_
        refine TO.code ?_
        refine TC.k ?_
        refine TC.region ?_
        refine TO.s rfl rfl rfl (StepS.move rfl) ?_
        refine TO.s rfl rfl rfl (StepS.lenm rfl (OwnS.rd (Ent.at 1 rfl)) ksliceB_34_35_1_true rfl) ?_
        refine TO.s rfl rfl rfl (StepS.cmp rfl rfl rfl) ?_
        refine TO.code ?_
        refine TC.cond rfl (fun hc28 => ?_) (fun hc28 => ?_)
        · replace hm := cond_t hc28 hm
          refine TC.k ?_
          refine TC.region ?_
          refine TO.s rfl rfl rfl (StepS.assign rfl) ?_
          refine TO.s rfl rfl rfl (StepS.assign rfl) ?_
          refine TO.code ?_
          cases hm
          refine TC.ret fun a w e s => ?_
          refine FRet.mk2 (P := Try.prog) (fn := Try.f42) (t := 4) (u := 5) e rfl rfl rfl ?_
          refine ⟨_, _, rfl, ⟨(.slice none 0 0), rfl, rfl⟩, ?_⟩
          refine s.mono fun _ s => ?_
          replace s := Sat.nilS (e := 35) (sz := 1) (f := cU) s
          replace s := Sat.erase 1 s
          replace s := Sat.erase 1 s
          replace s := Sat.erase 1 s
          exact s
        · replace hm := cond_f hc28 hm
          refine TC.skipk ?_
          refine TC.k ?_
          refine TC.region ?_
          refine TO.s rfl rfl rfl (StepS.move rfl) ?_
          refine TO.s rfl rfl rfl (StepS.assign rfl) ?_
          refine TO.s rfl rfl rfl (StepS.assign rfl) ?_
          refine TO.code ?_
          cases hm
          refine TC.ret fun a w e s => ?_
          refine FRet.mk2 (P := Try.prog) (fn := Try.f42) (t := 4) (u := 5) e rfl rfl rfl ?_
          refine ⟨_, _, rfl, ⟨(v27), rfl, rfl⟩, ?_⟩
          refine s.mono fun _ s => ?_
          replace s := Sat.front 1 rfl s
          replace s := Sat.erase 1 s
          replace s := Sat.erase 1 s
          exact s

set_option maxRecDepth 100000 in
theorem C14 {B : World} {L : List HP} {a0 : Int} {a1 : List (BitVec 32)} {h1 : Value} {r0 : Bool} (e1 : Ent L (Rd 1 h1 (a1.map cU))) (hm : F14 a0 a1 = some r0) {w : World} (st : St B L w) : Calls Try.prog 14 #[I a0, h1] w (fun e w' => (e = .returned (.bool r0) ∧ St B (L) w')) := by
  refine calls_of (N := 93) (L := L) (args := [I a0, h1]) Try.func14 rfl rfl rfl ?_ st
  dsimp only [F14] at hm
  refine TC.k ?_
  refine TC.region ?_
  refine TO.s rfl rfl rfl (StepS.assign rfl) ?_
  refine TO.code ?_
  refine TC.k ?_
  refine TC.region ?_
  refine TO.s rfl rfl rfl (StepS.move rfl) ?_
  refine TO.s rfl rfl rfl (StepS.move rfl) ?_
  obtain ⟨⟨r1, r2⟩, hc3, hm⟩ := bind_some hm
  refine TO.callO kcallB_42_true rfl rfl rfl (fun _ st => C42 e1 hc3 st) ?_
  rintro _ _ ⟨v4, rfl, rfl⟩
  refine TO.s rfl rfl rfl (StepS.move rfl) ?_
  refine TO.s rfl rfl rfl (StepS.extract rfl rfl) ?_
  refine TO.s rfl rfl rfl (StepS.extract rfl rfl) ?_
  refine TO.s rfl rfl rfl (StepS.assign rfl) ?_
  refine TO.s rfl rfl rfl (StepS.assign rfl) ?_
  refine TO.code ?_
  refine TC.k ?_
  refine TC.region ?_
  refine TO.s rfl rfl rfl (StepS.move rfl) ?_
  refine TO.s rfl rfl rfl (StepS.move rfl) ?_
  obtain ⟨r6, hc7, hm⟩ := bind_some hm
  refine TO.q rfl rfl rfl (StepQ.call kcallB_37_true rfl rfl (fun _ st => C37 e1.tl hc7 st)) ?_
  refine TO.s rfl rfl rfl (StepS.assign rfl) ?_
  refine TO.code ?_
  refine TC.k ?_
  refine TC.k ?_
  refine TC.region ?_
  refine TO.s rfl rfl rfl (StepS.move rfl) ?_
  refine TO.s rfl rfl rfl (StepS.cmp rfl rfl rfl) ?_
  refine TO.code ?_
  refine TC.cond rfl (fun hc8 => ?_) (fun hc8 => ?_)
  · replace hm := cond_t hc8 hm
    refine TC.k ?_
    refine TC.region ?_
    refine TO.s rfl rfl rfl (StepS.move rfl) ?_
    refine TO.s rfl rfl rfl (StepS.move rfl) ?_
    refine TO.s rfl rfl rfl (StepS.cmp rfl rfl rfl) ?_
    refine TO.s rfl rfl rfl (StepS.move rfl) ?_
    refine TO.mid1 4 28 (.bool ((r2 == r6) && ((r1.length : Int) == 0))) ?_ ?_
    · refine bcase ((r2 == r6)) (fun hb9 => ?_) (fun hb9 => ?_)
      · refine TO.sw rfl rfl rfl hb9 rfl rfl (StepS.move rfl) ?_
        refine TO.sw rfl rfl rfl hb9 rfl rfl (StepS.lenm rfl (OwnS.rd (Ent.at 0 rfl)) ksliceB_34_35_1_true rfl) ?_
        refine TO.sw rfl rfl rfl hb9 rfl rfl (StepS.cmp rfl rfl rfl) ?_
        refine TO.s rfl rfl rfl (StepS.pickT rfl hb9 rfl) ?_
        exact TO.up1 4 0 rfl rfl (by rw [hb9]; rfl) rfl
      · refine TO.skip rfl rfl rfl (skipF hb9) rfl rfl ?_
        refine TO.skip rfl rfl rfl (skipF hb9) rfl rfl ?_
        refine TO.skip rfl rfl rfl (skipF hb9) rfl rfl ?_
        refine TO.s rfl rfl rfl (StepS.pickF rfl hb9 rfl) ?_
        exact TO.up1 4 0 rfl rfl (by rw [hb9]; rfl) rfl
    refine TO.s rfl rfl rfl (StepS.assign rfl) ?_
    refine TO.code ?_
    cases hm
    refine TC.ret fun a w e s => ?_
    refine FRet.mk1 (P := Try.prog) (fn := Try.f14) (t := 4) e rfl rfl ?_
    exact ⟨rfl, s.mono fun _ => Sat.dropN 1⟩
  · replace hm := cond_f hc8 hm
    refine TC.skipk ?_
    refine TC.k ?_
    refine TC.k ?_
    refine TC.region ?_
    refine TO.s rfl rfl rfl (StepS.move rfl) ?_
    refine TO.s rfl rfl rfl (StepS.cmp rfl rfl rfl) ?_
    refine TO.code ?_
    refine TC.cond rfl (fun hc10 => ?_) (fun hc10 => ?_)
    · replace hm := cond_t hc10 hm
      refine TC.k ?_
      refine TC.region ?_
      refine TO.s rfl rfl rfl (StepS.move rfl) ?_
      refine TO.s rfl rfl rfl (StepS.lenm rfl (OwnS.rd (Ent.at 0 rfl)) ksliceB_34_35_1_true rfl) ?_
      refine TO.s rfl rfl rfl (StepS.cmp rfl rfl rfl) ?_
      refine TO.s rfl rfl rfl (StepS.move rfl) ?_
      refine TO.mid1 4 38 (.bool (((r1.length : Int) == 0) && ((a1.length : Int) == 20))) ?_ ?_
      · refine bcase (((r1.length : Int) == 0)) (fun hb11 => ?_) (fun hb11 => ?_)
        · refine TO.sw rfl rfl rfl hb11 rfl rfl (StepS.move rfl) ?_
          refine TO.sw rfl rfl rfl hb11 rfl rfl (StepS.lenm rfl e1.tl ksliceB_34_35_1_true rfl) ?_
          refine TO.sw rfl rfl rfl hb11 rfl rfl (StepS.cmp rfl rfl rfl) ?_
          refine TO.s rfl rfl rfl (StepS.pickT rfl hb11 rfl) ?_
          exact TO.up1 4 0 rfl rfl (by rw [hb11]; rfl) rfl
        · refine TO.skip rfl rfl rfl (skipF hb11) rfl rfl ?_
          refine TO.skip rfl rfl rfl (skipF hb11) rfl rfl ?_
          refine TO.skip rfl rfl rfl (skipF hb11) rfl rfl ?_
          refine TO.s rfl rfl rfl (StepS.pickF rfl hb11 rfl) ?_
          exact TO.up1 4 0 rfl rfl (by rw [hb11]; rfl) rfl
      refine TO.s rfl rfl rfl (StepS.move rfl) ?_
      obtain ⟨b13, hj14, hm⟩ := bind_some hm
      refine TO.mid1 5 44 (.bool b13) ?_ ?_
      · refine bcase ((((r1.length : Int) == 0) && ((a1.length : Int) == 20))) (fun hb12 => ?_) (fun hb12 => ?_)
        · replace hj14 := cond_t hb12 hj14
          refine TO.sw rfl rfl rfl hb12 rfl rfl (StepS.move rfl) ?_
          refine TO.sw rfl rfl rfl hb12 rfl rfl (StepS.move rfl) ?_
          obtain ⟨r15, hc16, hj14⟩ := bind_some hj14
          refine TO.qw rfl rfl rfl hb12 rfl rfl (StepQ.call kcallB_38_true rfl rfl (fun _ st => C38 e1.tl hc16 st)) ?_
          refine TO.sw rfl rfl rfl hb12 rfl rfl (StepS.not rfl) ?_
          cases hj14
          refine TO.s rfl rfl rfl (StepS.pickT rfl hb12 rfl) ?_
          exact TO.up1 5 0 rfl rfl rfl rfl
        · replace hj14 := cond_f hb12 hj14
          cases hj14
          refine TO.skip rfl rfl rfl (skipF hb12) rfl rfl ?_
          refine TO.skip rfl rfl rfl (skipF hb12) rfl rfl ?_
          refine TO.skip rfl rfl rfl (skipF hb12) rfl rfl ?_
          refine TO.skip rfl rfl rfl (skipF hb12) rfl rfl ?_
          refine TO.s rfl rfl rfl (StepS.pickF rfl hb12 rfl) ?_
          exact TO.up1 5 0 rfl rfl rfl rfl
      refine TO.s rfl rfl rfl (StepS.assign rfl) ?_
      refine TO.code ?_
      cases hm
      refine TC.ret fun a w e s => ?_
      refine FRet.mk1 (P := Try.prog) (fn := Try.f14) (t := 4) e rfl rfl ?_
      exact ⟨rfl, s.mono fun _ => Sat.dropN 1⟩
    · replace hm := cond_f hc10 hm
      refine TC.skipk ?_
      refine TC.k ?_
      refine TC.k ?_
      refine TC.region ?_
      refine TO.s rfl rfl rfl (StepS.move rfl) ?_
      refine TO.s rfl rfl rfl (StepS.cmp rfl rfl rfl) ?_
      refine TO.s rfl rfl rfl (StepS.move rfl) ?_
      obtain ⟨b18, hj19, hm⟩ := bind_some hm
      refine TO.mid1 5 52 (.bool b18) ?_ ?_
      · refine bcase ((r2 != 0)) (fun hb17 => ?_) (fun hb17 => ?_)
        · replace hj19 := cond_t hb17 hj19
          cases hj19
          refine TO.skip rfl rfl rfl (skipT hb17) rfl rfl ?_
          refine TO.skip rfl rfl rfl (skipT hb17) rfl rfl ?_
          refine TO.skip rfl rfl rfl (skipT hb17) rfl rfl ?_
          refine TO.skip rfl rfl rfl (skipT hb17) rfl rfl ?_
          refine TO.s rfl rfl rfl (StepS.pickT rfl hb17 rfl) ?_
          exact TO.up1 5 0 rfl rfl rfl rfl
        · replace hj19 := cond_f hb17 hj19
          refine TO.sw rfl rfl rfl hb17 rfl rfl (StepS.move rfl) ?_
          refine TO.sw rfl rfl rfl hb17 rfl rfl (StepS.move rfl) ?_
          obtain ⟨r20, hc21, hj19⟩ := bind_some hj19
          refine TO.qw rfl rfl rfl hb17 rfl rfl (StepQ.call kcallB_32_true rfl rfl (fun _ st => C32 (OwnS.rd (Ent.at 0 rfl)) hc21 st)) ?_
          refine TO.sw rfl rfl rfl hb17 rfl rfl (StepS.cmp rfl rfl rfl) ?_
          cases hj19
          refine TO.s rfl rfl rfl (StepS.pickF rfl hb17 rfl) ?_
          exact TO.up1 5 0 rfl rfl rfl rfl
      refine TO.s rfl rfl rfl (StepS.move rfl) ?_
      obtain ⟨b23, hj24, hm⟩ := bind_some hm
      refine TO.mid1 4 57 (.bool b23) ?_ ?_
      · refine bcase (b18) (fun hb22 => ?_) (fun hb22 => ?_)
        · replace hj24 := cond_t hb22 hj24
          cases hj24
          refine TO.skip rfl rfl rfl (skipT hb22) rfl rfl ?_
          refine TO.skip rfl rfl rfl (skipT hb22) rfl rfl ?_
          refine TO.skip rfl rfl rfl (skipT hb22) rfl rfl ?_
          refine TO.s rfl rfl rfl (StepS.pickT rfl hb22 rfl) ?_
          exact TO.up1 4 0 rfl rfl rfl rfl
        · replace hj24 := cond_f hb22 hj24
          refine TO.sw rfl rfl rfl hb22 rfl rfl (StepS.move rfl) ?_
          obtain ⟨r25, hc26, hj24⟩ := bind_some hj24
          refine TO.qw rfl rfl rfl hb22 rfl rfl (StepQ.call kcallB_35_true rfl rfl (fun _ st => C35 (OwnS.rd (Ent.at 0 rfl)) hc26 st)) ?_
          refine TO.sw rfl rfl rfl hb22 rfl rfl (StepS.not rfl) ?_
          cases hj24
          refine TO.s rfl rfl rfl (StepS.pickF rfl hb22 rfl) ?_
          exact TO.up1 4 0 rfl rfl rfl rfl
      refine TO.code ?_
      refine TC.cond rfl (fun hc27 => ?_) (fun hc27 => ?_)
      · replace hm := cond_t hc27 hm
        refine TC.k ?_
        refine TC.region ?_
        refine TO.s rfl rfl rfl (StepS.assign rfl) ?_
        refine TO.code ?_
        cases hm
        refine TC.ret fun a w e s => ?_
        refine FRet.mk1 (P := Try.prog) (fn := Try.f14) (t := 4) e rfl rfl ?_
        exact ⟨rfl, s.mono fun _ => Sat.dropN 1⟩
      · replace hm := cond_f hc27 hm
        refine TC.skipk ?_
        refine TC.k ?_
        refine TC.k ?_
        refine TC.region ?_
        refine TO.s rfl rfl rfl (StepS.move rfl) ?_
        refine TO.s rfl rfl rfl (StepS.move rfl) ?_
        obtain ⟨r28, hc29, hm⟩ := bind_some hm
        refine TO.q rfl rfl rfl (StepQ.call kcallB_38_true rfl rfl (fun _ st => C38 e1.tl hc29 st)) ?_
        refine TO.code ?_
        refine TC.cond rfl (fun hc30 => ?_) (fun hc30 => ?_)
        · replace hm := cond_t hc30 hm
          refine TC.k ?_
          refine TC.region ?_
          refine TO.s rfl rfl rfl (StepS.move rfl) ?_
          refine TO.s rfl rfl rfl (StepS.move rfl) ?_
          obtain ⟨r31, hc32, hm⟩ := bind_some hm
          refine TO.q rfl rfl rfl (StepQ.call kcallB_41_true rfl rfl (fun _ st => C41 (OwnS.rd (Ent.at 0 rfl)) e1.tl hc32 st)) ?_
          refine TO.s rfl rfl rfl (StepS.assign rfl) ?_
          refine TO.code ?_
          cases hm
          refine TC.ret fun a w e s => ?_
          refine FRet.mk1 (P := Try.prog) (fn := Try.f14) (t := 4) e rfl rfl ?_
          exact ⟨rfl, s.mono fun _ => Sat.dropN 1⟩
        · replace hm := cond_f hc30 hm
          refine TC.skipk ?_
          refine TC.k ?_
          refine TC.region ?_
          refine TO.s rfl rfl rfl (StepS.assign rfl) ?_
          refine TO.code ?_
          refine TC.k ?_
          refine TC.k ?_
          refine TC.region ?_
          refine TO.s rfl rfl rfl (StepS.assign rfl) ?_
          refine TO.code ?_
          obtain ⟨o38, hw39, hm⟩ := bind_some hm
          refine TC.loop hw39 (fun (b33, x34) => fun a w => Mid 93 B [(0, I a0), (1, h1), (5, v4), (8, .bool b33), (9, U x34)] (OwnS 35 1 v4 (r1.map cU) :: L) a w) (fun b37 => fun a w => Mid 93 B [(8, .bool b37)] (OwnS 35 1 v4 (r1.map cU) :: L) a w) (fun r0 => FRet Try.prog Try.f14 (fun e w' => (e = .returned (.bool r0) ∧ St B (L) w'))) ?_ ?_ ?_ ?_
          · rintro ⟨b33, x34⟩ o38r hb40 a w ⟨he, hs⟩
            dsimp only [F14_L0] at hb40
            refine TC.use ?_ he hs
            refine TC.k ?_
            refine TC.k ?_
            refine TC.region ?_
            refine TO.s rfl rfl rfl (StepS.move rfl) ?_
            refine TO.s rfl rfl rfl (StepS.move rfl) ?_
            refine TO.s rfl rfl rfl (StepS.cvIV kintB_3_i64_true kintB_44_u64_true rfl) ?_
            refine TO.s rfl rfl rfl (StepS.shl (m := 1#32) rfl rfl (u64_nonneg _)) ?_
            refine TO.s rfl rfl rfl (StepS.cmpU rfl rfl rfl) ?_
            refine TO.code ?_
            refine TC.cond rfl (fun hc41 => ?_) (fun hc41 => ?_)
            · replace hb40 := cond_t hc41 hb40
              refine TC.skipk ?_
              refine TC.k ?_
              refine TC.block ?_
              refine TC.k ?_
              refine TC.k ?_
              refine TC.region ?_
              refine TO.s rfl rfl rfl (StepS.move rfl) ?_
              refine TO.s rfl rfl rfl (StepS.move rfl) ?_
              obtain ⟨r42, hc43, hb40⟩ := bind_some hb40
              refine TO.q rfl rfl rfl (StepQ.call kcallB_33_true rfl rfl (fun _ st => C33 e1.tl hc43 st)) ?_
              refine TO.s rfl rfl rfl (StepS.move rfl) ?_
              obtain ⟨b45, hj46, hb40⟩ := bind_some hb40
              refine TO.mid1 5 79 (.bool b45) ?_ ?_
              · refine bcase (r42) (fun hb44 => ?_) (fun hb44 => ?_)
                · replace hj46 := cond_t hb44 hj46
                  refine TO.sw rfl rfl rfl hb44 rfl rfl (StepS.move rfl) ?_
                  refine TO.sw rfl rfl rfl hb44 rfl rfl (StepS.move rfl) ?_
                  obtain ⟨r47, hc48, hj46⟩ := bind_some hj46
                  refine TO.qw rfl rfl rfl hb44 rfl rfl (StepQ.call kcallB_33_true rfl rfl (fun _ st => C33 (OwnS.rd (Ent.at 0 rfl)) hc48 st)) ?_
                  refine TO.sw rfl rfl rfl hb44 rfl rfl (StepS.not rfl) ?_
                  cases hj46
                  refine TO.s rfl rfl rfl (StepS.pickT rfl hb44 rfl) ?_
                  exact TO.up1 5 0 rfl rfl rfl rfl
                · replace hj46 := cond_f hb44 hj46
                  cases hj46
                  refine TO.skip rfl rfl rfl (skipF hb44) rfl rfl ?_
                  refine TO.skip rfl rfl rfl (skipF hb44) rfl rfl ?_
                  refine TO.skip rfl rfl rfl (skipF hb44) rfl rfl ?_
                  refine TO.skip rfl rfl rfl (skipF hb44) rfl rfl ?_
                  refine TO.s rfl rfl rfl (StepS.pickF rfl hb44 rfl) ?_
                  exact TO.up1 5 0 rfl rfl rfl rfl
              refine TO.code ?_
              refine TC.cond rfl (fun hc49 => ?_) (fun hc49 => ?_)
              · replace hb40 := cond_t hc49 hb40
                refine TC.k ?_
                refine TC.region ?_
                refine TO.s rfl rfl rfl (StepS.assign rfl) ?_
                refine TO.code ?_
                cases hb40
                refine TC.ret fun a w e s => ?_
                refine FRet.mk1 (P := Try.prog) (fn := Try.f14) (t := 4) e rfl rfl ?_
                exact ⟨rfl, s.mono fun _ => Sat.dropN 1⟩
              · replace hb40 := cond_f hc49 hb40
                refine TC.skipk ?_
                refine TC.region ?_
                refine TO.s rfl rfl rfl (StepS.move rfl) ?_
                refine TO.s rfl rfl rfl (StepS.move rfl) ?_
                obtain ⟨b51, hj52, hb40⟩ := bind_some hb40
                refine TO.mid1 10 91 (.bool b51) ?_ ?_
                · refine bcase (b33) (fun hb50 => ?_) (fun hb50 => ?_)
                  · replace hj52 := cond_t hb50 hj52
                    cases hj52
                    refine TO.skip rfl rfl rfl (skipT hb50) rfl rfl ?_
                    refine TO.skip rfl rfl rfl (skipT hb50) rfl rfl ?_
                    refine TO.skip rfl rfl rfl (skipT hb50) rfl rfl ?_
                    refine TO.skip rfl rfl rfl (skipT hb50) rfl rfl ?_
                    refine TO.skip rfl rfl rfl skipU rfl rfl ?_
                    refine TO.skip rfl rfl rfl skipU rfl rfl ?_
                    refine TO.skip rfl rfl rfl skipU rfl rfl ?_
                    refine TO.skip rfl rfl rfl skipU rfl rfl ?_
                    refine TO.skip rfl rfl rfl (skipT hb50) rfl rfl ?_
                    refine TO.s rfl rfl rfl (StepS.pickT rfl hb50 rfl) ?_
                    exact TO.up1 10 0 rfl rfl rfl rfl
                  · replace hj52 := cond_f hb50 hj52
                    refine TO.sw rfl rfl rfl hb50 rfl rfl (StepS.move rfl) ?_
                    refine TO.sw rfl rfl rfl hb50 rfl rfl (StepS.move rfl) ?_
                    obtain ⟨r53, hc54, hj52⟩ := bind_some hj52
                    refine TO.qw rfl rfl rfl hb50 rfl rfl (StepQ.call kcallB_33_true rfl rfl (fun _ st => C33 (OwnS.rd (Ent.at 0 rfl)) hc54 st)) ?_
                    refine TO.sw rfl rfl rfl hb50 rfl rfl (StepS.move rfl) ?_
                    obtain ⟨b56, hj57, hj52⟩ := bind_some hj52
                    refine TO.mid1 5 90 (.bool b56) ?_ ?_
                    · refine bcase (r53) (fun hb55 => ?_) (fun hb55 => ?_)
                      · replace hj57 := cond_t hb55 hj57
                        refine TO.sw rfl rfl rfl hb55 rfl rfl (StepS.move rfl) ?_
                        refine TO.sw rfl rfl rfl hb55 rfl rfl (StepS.move rfl) ?_
                        obtain ⟨r58, hc59, hj57⟩ := bind_some hj57
                        refine TO.qw rfl rfl rfl hb55 rfl rfl (StepQ.call kcallB_33_true rfl rfl (fun _ st => C33 e1.tl hc59 st)) ?_
                        refine TO.sw rfl rfl rfl hb55 rfl rfl (StepS.not rfl) ?_
                        cases hj57
                        refine TO.sw rfl rfl rfl hb50 rfl rfl (StepS.pickT rfl hb55 rfl) ?_
                        exact TO.up1 5 0 rfl rfl rfl rfl
                      · replace hj57 := cond_f hb55 hj57
                        cases hj57
                        refine TO.skip rfl rfl rfl (skipF hb55) rfl rfl ?_
                        refine TO.skip rfl rfl rfl (skipF hb55) rfl rfl ?_
                        refine TO.skip rfl rfl rfl (skipF hb55) rfl rfl ?_
                        refine TO.skip rfl rfl rfl (skipF hb55) rfl rfl ?_
                        refine TO.sw rfl rfl rfl hb50 rfl rfl (StepS.pickF rfl hb55 rfl) ?_
                        exact TO.up1 5 0 rfl rfl rfl rfl
                    cases hj52
                    refine TO.s rfl rfl rfl (StepS.pickF rfl hb50 rfl) ?_
                    exact TO.up1 6 0 rfl rfl rfl rfl
                refine TO.s rfl rfl rfl (StepS.assign rfl) ?_
                refine TO.code ?_
                refine TC.region ?_
                refine TO.s rfl rfl rfl (StepS.move rfl) ?_
                refine TO.s rfl rfl rfl (StepS.bitU (n := 1#32) rfl rfl rfl) ?_
                refine TO.s rfl rfl rfl (StepS.assign rfl) ?_
                cases hb40
                refine TO.nil fun a w e s => ?_
                exact ⟨e.sub (lk_of_allIn ⟨rfl, rfl, rfl, rfl, rfl, trivial⟩), s⟩
            · replace hb40 := cond_f hc41 hb40
              cases hb40
              refine TC.exit rfl fun a w e s => ?_
              exact ⟨e.sub (lk_of_allIn ⟨rfl, trivial⟩), s⟩
          · exact fun a w e s => ⟨e.sub (lk_of_allIn ⟨rfl, rfl, rfl, rfl, rfl, trivial⟩), s⟩
          · rintro b37 rfl a w ⟨he, hs⟩
            dsimp only [Ctl.on] at hm
            refine TC.use ?_ he hs
            refine TC.k ?_
            refine TC.region ?_
            refine TO.s rfl rfl rfl (StepS.move rfl) ?_
            refine TO.s rfl rfl rfl (StepS.assign rfl) ?_
            refine TO.code ?_
            cases hm
            refine TC.ret fun a w e s => ?_
            refine FRet.mk1 (P := Try.prog) (fn := Try.f14) (t := 4) e rfl rfl ?_
            exact ⟨rfl, s.mono fun _ => Sat.dropN 1⟩
          · rintro r rfl
            cases hm
            exact fun a w h => h
end Go.Proofs.Ytmlfflaelbofmaa
