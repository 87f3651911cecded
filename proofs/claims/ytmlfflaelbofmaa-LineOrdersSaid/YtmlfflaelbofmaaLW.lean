/-
  The walks: each Go function returns what its model says. Written by a program (gen.py).
-/
import Derived.Test.YtmlfflaelbofmaaProg
import Derived.KernelRfl
import Derived.Test.YtmlfflaelbofmaaLM
namespace Go.Proofs.Ytmlfflaelbofmaa
open Go Go.Bk
set_option linter.unusedVariables false
set_option linter.unnecessarySimpa false
theorem ksliceB_22_62_5_true : sliceB Try.prog 22 62 5 = true := by kernel_rfl
theorem kaggB_62_5_true : aggB Try.prog 62 5 = true := by kernel_rfl
theorem kinfo_62_bind_zero_some_agg_I_0_I_0_I_0_bool_false_I_0 : (Try.prog.info? 62).bind (·.zero) = some (.agg #[I 0, I 0, I 0, .bool false, I 0]) := by kernel_rfl
theorem ksizeB_62_5_true : sizeB Try.prog 62 5 = true := by kernel_rfl
theorem kfieldB_62_2_2_true : fieldB Try.prog 62 2 2 = true := by kernel_rfl
theorem kscalB_3_true : scalB Try.prog 3 = true := by kernel_rfl
theorem kfieldB_62_1_1_true : fieldB Try.prog 62 1 1 = true := by kernel_rfl
theorem kfieldB_62_0_0_true : fieldB Try.prog 62 0 0 = true := by kernel_rfl
theorem kfieldB_77_0_0_true : fieldB Try.prog 77 0 0 = true := by kernel_rfl
theorem kscalB_22_true : scalB Try.prog 22 = true := by kernel_rfl
theorem kfollows_mixedOrders_true : Try.prog.follows .mixedOrders = true := by kernel_rfl
theorem kfieldB_77_1_1_true : fieldB Try.prog 77 1 1 = true := by kernel_rfl
theorem kscalB_64_true : scalB Try.prog 64 = true := by kernel_rfl
theorem kunderlying_82_some_array_2_35 : Try.prog.underlying 82 = some (.array 2 35) := by kernel_rfl
theorem kunderlying_35_some_int_u32 : Try.prog.underlying 35 = some (.int .u32) := by kernel_rfl
theorem ksizeB_35_1_true : sizeB Try.prog 35 1 = true := by kernel_rfl
theorem kscalB_35_true : scalB Try.prog 35 = true := by kernel_rfl
theorem kintB_3_i64_true : intB Try.prog 3 .i64 = true := by kernel_rfl
theorem kintB_35_u32_true : intB Try.prog 35 .u32 = true := by kernel_rfl
theorem kinfo_82_bind_zero_some_agg_U_0_U_0 : (Try.prog.info? 82).bind (·.zero) = some (.agg #[U 0, U 0]) := by kernel_rfl
theorem ksizeB_82_2_true : sizeB Try.prog 82 2 = true := by kernel_rfl
theorem kfieldB_77_2_2_true : fieldB Try.prog 77 2 2 = true := by kernel_rfl
theorem kscalB_75_true : scalB Try.prog 75 = true := by kernel_rfl
theorem kaggB_82_2_true : aggB Try.prog 82 2 = true := by kernel_rfl
theorem kmapGB_75_82_4_true : mapGB Try.prog 75 82 4 = true := by kernel_rfl
theorem kinfo_4_bind_zero_some_bool_false : (Try.prog.info? 4).bind (·.zero) = some (.bool false) := by kernel_rfl
theorem kfieldB_62_4_4_true : fieldB Try.prog 62 4 4 = true := by kernel_rfl
theorem kcallB_70_true : callB Try.prog 70 = true := by kernel_rfl
theorem kfieldB_62_3_3_true : fieldB Try.prog 62 3 3 = true := by kernel_rfl
theorem kscalB_4_true : scalB Try.prog 4 = true := by kernel_rfl
theorem kcallB_64_true : callB Try.prog 64 = true := by kernel_rfl
theorem kelemB_28_3_1_8_true : elemB Try.prog 28 3 1 8 = true := by kernel_rfl
theorem kinfo_3_bind_zero_some_I_0 : (Try.prog.info? 3).bind (·.zero) = some (I 0) := by kernel_rfl
theorem kcallB_15_true : callB Try.prog 15 = true := by kernel_rfl
theorem kcallB_44_true : callB Try.prog 44 = true := by kernel_rfl
theorem kcallB_43_true : callB Try.prog 43 = true := by kernel_rfl
theorem ksliceB_28_3_1_true : sliceB Try.prog 28 3 1 = true := by kernel_rfl
theorem kcallB_45_true : callB Try.prog 45 = true := by kernel_rfl
theorem kcallB_18_true : callB Try.prog 18 = true := by kernel_rfl
theorem kcallB_17_true : callB Try.prog 17 = true := by kernel_rfl
theorem kcallB_16_true : callB Try.prog 16 = true := by kernel_rfl
theorem kunderlying_4_some_bool : Try.prog.underlying 4 = some .bool := by kernel_rfl
theorem kcallB_47_true : callB Try.prog 47 = true := by kernel_rfl
theorem kcallB_46_true : callB Try.prog 46 = true := by kernel_rfl
theorem kcallB_19_true : callB Try.prog 19 = true := by kernel_rfl
theorem kcallB_48_true : callB Try.prog 48 = true := by kernel_rfl
theorem kcallB_20_true : callB Try.prog 20 = true := by kernel_rfl
theorem kcallB_21_true : callB Try.prog 21 = true := by kernel_rfl

set_option maxRecDepth 100000 in
theorem C15 {B : World} {L : List HP} {a0 : List (Int × Int × Int × Bool × Int)} {h0 : Value} {r0 : Int} (e0 : Ent L (Rd 5 h0 (a0.map cTiiibi))) (hm : F15 a0 = some r0) {w : World} (st : St B L w) : Calls Try.prog 15 #[h0] w (fun e w' => (e = .returned (I r0) ∧ St B (L) w')) := by
  refine calls_of (N := 60) (L := L) (args := [h0]) Try.func15 rfl rfl rfl ?_ st
  dsimp only [F15] at hm
  refine TC.k ?_
  refine TC.region ?_
  refine TO.s rfl rfl rfl (StepS.assign rfl) ?_
  refine TO.code ?_
  refine TC.k ?_
  refine TC.k ?_
  refine TC.region ?_
  refine TO.s rfl rfl rfl (StepS.move rfl) ?_
  refine TO.s rfl rfl rfl (StepS.lenm rfl e0 ksliceB_22_62_5_true rfl) ?_
  refine TO.s rfl rfl rfl (StepS.cmp rfl rfl rfl) ?_
  refine TO.code ?_
  refine TC.cond rfl (fun hc1 => ?_) (fun hc1 => ?_)
  · replace hm := cond_t hc1 hm
    refine TC.k ?_
    refine TC.region ?_
    refine TO.s rfl rfl rfl (StepS.assign rfl) ?_
    refine TO.code ?_
    cases hm
    refine TC.ret fun a w e s => ?_
    refine FRet.mk1 (P := Try.prog) (fn := Try.f15) (t := 2) e rfl rfl ?_
    exact ⟨rfl, s.mono fun _ => Sat.dropN 0⟩
  · replace hm := cond_f hc1 hm
    refine TC.skipk ?_
    refine TC.k ?_
    refine TC.k ?_
    refine TC.region ?_
    refine TO.s rfl rfl rfl (StepS.move rfl) ?_
    refine TO.s rfl rfl rfl (StepS.lenm rfl e0 ksliceB_22_62_5_true rfl) ?_
    refine TO.s rfl rfl rfl (StepS.move rfl) ?_
    refine TO.code ?_
    obtain ⟨o4, hw5, hm⟩ := bind_some hm
    refine TC.loop hw5 (fun x2 => fun a w => Mid 60 B [(0, h0), (12, h0), (13, I (a0.length : Int)), (14, I x2)] (L) a w) (fun _ => fun a w => Mid 60 B [(0, h0)] (L) a w) (fun r0 => FRet Try.prog Try.f15 (fun e w' => (e = .returned (I r0) ∧ St B (L) w'))) ?_ ?_ ?_ ?_
    · rintro x2 o4r hb6 a w ⟨he, hs⟩
      dsimp only [F15_L0] at hb6
      refine TC.use ?_ he hs
      refine TC.k ?_
      refine TC.region ?_
      refine TO.s rfl rfl rfl (StepS.cmp rfl rfl rfl) ?_
      refine TO.code ?_
      refine TC.k ?_
      refine TC.cond rfl (fun hc7 => ?_) (fun hc7 => ?_)
      · replace hb6 := cond_t hc7 hb6
        refine TC.skipk ?_
        refine TC.k ?_
        refine TC.block ?_
        refine TC.k ?_
        refine TC.region ?_
        obtain ⟨x8, hx9, hb6⟩ := bind_some hb6
        refine TO.s rfl rfl rfl (StepS.idx rfl rfl e0 ksliceB_22_62_5_true (idx_spec hx9).1 (idxm_lt hx9)) ?_
        refine TO.s rfl rfl rfl (StepS.ldE rfl e0 kaggB_62_5_true rfl (idxm hx9)) ?_
        refine TO.alloc kinfo_62_bind_zero_some_agg_I_0_I_0_I_0_bool_false_I_0 rfl rfl fun b10 => ?_
        refine TO.stB (us := [I x8.1, I x8.2.1, I x8.2.2.1, .bool x8.2.2.2.1, I x8.2.2.2.2]) 0 [I x8.1, I x8.2.1, I x8.2.2.1, .bool x8.2.2.2.1, I x8.2.2.2.2] rfl rfl rfl ksizeB_62_5_true rfl rfl rfl (by simp [Value.oneCell']) rfl ?_
        refine TO.code ?_
        refine TC.k ?_
        refine TC.region ?_
        refine TO.s rfl rfl rfl (StepS.fld rfl kfieldB_62_2_2_true) ?_
        refine TO.s rfl rfl rfl (StepS.ldB rfl (Ent.at 0 rfl) kscalB_3_true rfl) ?_
        refine TO.s rfl rfl rfl (StepS.fld rfl kfieldB_62_1_1_true) ?_
        refine TO.s rfl rfl rfl (StepS.ldB rfl (Ent.at 0 rfl) kscalB_3_true rfl) ?_
        refine TO.s rfl rfl rfl (StepS.cmp rfl rfl rfl) ?_
        refine TO.code ?_
        refine TC.cond rfl (fun hc11 => ?_) (fun hc11 => ?_)
        · replace hb6 := cond_t hc11 hb6
          refine TC.k ?_
          refine TC.region ?_
          refine TO.s rfl rfl rfl (StepS.assign rfl) ?_
          refine TO.code ?_
          cases hb6
          refine TC.ret fun a w e s => ?_
          refine FRet.mk1 (P := Try.prog) (fn := Try.f15) (t := 2) e rfl rfl ?_
          exact ⟨rfl, s.mono fun _ => Sat.dropN 1⟩
        · replace hb6 := cond_f hc11 hb6
          refine TC.skipk ?_
          refine TC.region ?_
          refine TO.s rfl rfl rfl (StepS.ari rfl rfl rfl) ?_
          refine TO.s rfl rfl rfl (StepS.move rfl) ?_
          cases hb6
          refine TO.nil fun a w e s => ?_
          exact ⟨e.sub (lk_of_allIn ⟨rfl, rfl, rfl, rfl, trivial⟩), s.mono fun _ => Sat.dropN 1⟩
      · replace hb6 := cond_f hc7 hb6
        cases hb6
        refine TC.exit rfl fun a w e s => ?_
        exact ⟨e.sub (lk_of_allIn ⟨rfl, trivial⟩), s⟩
    · exact fun a w e s => ⟨e.sub (lk_of_allIn ⟨rfl, rfl, rfl, rfl, trivial⟩), s⟩
    · rintro _ rfl a w ⟨he, hs⟩
      dsimp only [Ctl.on] at hm
      refine TC.use ?_ he hs
      refine TC.k ?_
      refine TC.k ?_
      refine TC.region ?_
      refine TO.s rfl rfl rfl (StepS.move rfl) ?_
      refine TO.s rfl rfl rfl (StepS.lenm rfl e0 ksliceB_22_62_5_true rfl) ?_
      refine TO.s rfl rfl rfl (StepS.move rfl) ?_
      refine TO.code ?_
      obtain ⟨o14, hw15, hm⟩ := bind_some hm
      refine TC.loop hw15 (fun x12 => fun a w => Mid 60 B [(0, h0), (24, h0), (25, I (a0.length : Int)), (26, I x12)] (L) a w) (fun _ => fun a w => Mid 60 B [] (L) a w) (fun r0 => FRet Try.prog Try.f15 (fun e w' => (e = .returned (I r0) ∧ St B (L) w'))) ?_ ?_ ?_ ?_
      · rintro x12 o14r hb16 a w ⟨he, hs⟩
        dsimp only [F15_L1] at hb16
        refine TC.use ?_ he hs
        refine TC.k ?_
        refine TC.region ?_
        refine TO.s rfl rfl rfl (StepS.cmp rfl rfl rfl) ?_
        refine TO.code ?_
        refine TC.k ?_
        refine TC.cond rfl (fun hc17 => ?_) (fun hc17 => ?_)
        · replace hb16 := cond_t hc17 hb16
          refine TC.skipk ?_
          refine TC.k ?_
          refine TC.block ?_
          refine TC.k ?_
          refine TC.region ?_
          refine TO.s rfl rfl rfl (StepS.move rfl) ?_
          obtain ⟨x18, hx19, hb16⟩ := bind_some hb16
          refine TO.s rfl rfl rfl (StepS.idx rfl rfl e0 ksliceB_22_62_5_true (idx_spec hx19).1 (idxm_lt hx19)) ?_
          refine TO.s rfl rfl rfl (StepS.ldE rfl e0 kaggB_62_5_true rfl (idxm hx19)) ?_
          refine TO.alloc kinfo_62_bind_zero_some_agg_I_0_I_0_I_0_bool_false_I_0 rfl rfl fun b20 => ?_
          refine TO.s rfl rfl rfl (StepS.assign rfl) ?_
          refine TO.stB (us := [I x18.1, I x18.2.1, I x18.2.2.1, .bool x18.2.2.2.1, I x18.2.2.2.2]) 0 [I x18.1, I x18.2.1, I x18.2.2.1, .bool x18.2.2.2.1, I x18.2.2.2.2] rfl rfl rfl ksizeB_62_5_true rfl rfl rfl (by simp [Value.oneCell']) rfl ?_
          refine TO.code ?_
          refine TC.k ?_
          refine TC.region ?_
          refine TO.s rfl rfl rfl (StepS.move rfl) ?_
          refine TO.s rfl rfl rfl (StepS.move rfl) ?_
          obtain ⟨y21, hs22, hb16⟩ := bind_some hb16
          obtain ⟨hs22a, hs22b, hs22c, _⟩ := slI_spec hs22
          refine TO.s rfl rfl rfl (StepS.slc rfl e0.tl ksliceB_22_62_5_true rfl rfl hs22a hs22b (by simpa using hs22c)) ?_
          refine TO.s rfl rfl rfl (StepS.lenm rfl (Ent.sub e0.tl hs22) ksliceB_22_62_5_true rfl) ?_
          refine TO.s rfl rfl rfl (StepS.move rfl) ?_
          refine TO.code ?_
          obtain ⟨o26, hw27, hb16⟩ := bind_some hb16
          refine TC.loop hw27 (fun x24 => fun a w => Mid 60 B [(0, h0), (6, .pointer (some ⟨b20, 0, none⟩)), (24, h0), (25, I (a0.length : Int)), (26, I x12), (33, (subv h0 0 x12 5)), (34, I (y21.length : Int)), (35, I x24)] (Bx b20 62 [I x18.1, I x18.2.1, I x18.2.2.1, .bool x18.2.2.2.1, I x18.2.2.2.2] :: L) a w) (fun _ => fun a w => Mid 60 B [(0, h0), (24, h0), (25, I (a0.length : Int)), (26, I x12)] (Bx b20 62 [I x18.1, I x18.2.1, I x18.2.2.1, .bool x18.2.2.2.1, I x18.2.2.2.2] :: L) a w) (fun r0 => FRet Try.prog Try.f15 (fun e w' => (e = .returned (I r0) ∧ St B (L) w'))) ?_ ?_ ?_ ?_
          · rintro x24 o26r hb28 a w ⟨he, hs⟩
            dsimp only [F15_L2] at hb28
            refine TC.use ?_ he hs
            refine TC.k ?_
            refine TC.region ?_
            refine TO.s rfl rfl rfl (StepS.cmp rfl rfl rfl) ?_
            refine TO.code ?_
            refine TC.k ?_
            refine TC.cond rfl (fun hc29 => ?_) (fun hc29 => ?_)
            · replace hb28 := cond_t hc29 hb28
              refine TC.skipk ?_
              refine TC.k ?_
              refine TC.block ?_
              refine TC.k ?_
              refine TC.region ?_
              obtain ⟨x30, hx31, hb28⟩ := bind_some hb28
              refine TO.s rfl rfl rfl (StepS.idx rfl rfl (Ent.sub e0.tl hs22) ksliceB_22_62_5_true (idx_spec hx31).1 (idxm_lt hx31)) ?_
              refine TO.s rfl rfl rfl (StepS.ldE rfl (Ent.sub e0.tl hs22) kaggB_62_5_true rfl (idxm hx31)) ?_
              refine TO.alloc kinfo_62_bind_zero_some_agg_I_0_I_0_I_0_bool_false_I_0 rfl rfl fun b32 => ?_
              refine TO.stB (us := [I x30.1, I x30.2.1, I x30.2.2.1, .bool x30.2.2.2.1, I x30.2.2.2.2]) 0 [I x30.1, I x30.2.1, I x30.2.2.1, .bool x30.2.2.2.1, I x30.2.2.2.2] rfl rfl rfl ksizeB_62_5_true rfl rfl rfl (by simp [Value.oneCell']) rfl ?_
              refine TO.code ?_
              refine TC.k ?_
              refine TC.region ?_
              refine TO.s rfl rfl rfl (StepS.fld rfl kfieldB_62_0_0_true) ?_
              refine TO.s rfl rfl rfl (StepS.ldB rfl (Ent.at 1 rfl) kscalB_3_true rfl) ?_
              refine TO.s rfl rfl rfl (StepS.fld rfl kfieldB_62_0_0_true) ?_
              refine TO.s rfl rfl rfl (StepS.ldB rfl (Ent.at 0 rfl) kscalB_3_true rfl) ?_
              refine TO.s rfl rfl rfl (StepS.cmp rfl rfl rfl) ?_
              refine TO.s rfl rfl rfl (StepS.move rfl) ?_
              refine TO.mid1 6 50 (.bool ((x18.1 == x30.1) && (decide (x18.2.2.1 > x30.2.1)))) ?_ ?_
              · refine bcase ((x18.1 == x30.1)) (fun hb33 => ?_) (fun hb33 => ?_)
                · refine TO.sw rfl rfl rfl hb33 rfl rfl (StepS.fld rfl kfieldB_62_2_2_true) ?_
                  refine TO.sw rfl rfl rfl hb33 rfl rfl (StepS.ldB rfl (Ent.at 1 rfl) kscalB_3_true rfl) ?_
                  refine TO.sw rfl rfl rfl hb33 rfl rfl (StepS.fld rfl kfieldB_62_1_1_true) ?_
                  refine TO.sw rfl rfl rfl hb33 rfl rfl (StepS.ldB rfl (Ent.at 0 rfl) kscalB_3_true rfl) ?_
                  refine TO.sw rfl rfl rfl hb33 rfl rfl (StepS.cmp rfl rfl rfl) ?_
                  refine TO.s rfl rfl rfl (StepS.pickT rfl hb33 rfl) ?_
                  exact TO.up1 6 0 rfl rfl (by rw [hb33]; rfl) rfl
                · refine TO.skip rfl rfl rfl (skipF hb33) rfl rfl ?_
                  refine TO.skip rfl rfl rfl (skipF hb33) rfl rfl ?_
                  refine TO.skip rfl rfl rfl (skipF hb33) rfl rfl ?_
                  refine TO.skip rfl rfl rfl (skipF hb33) rfl rfl ?_
                  refine TO.skip rfl rfl rfl (skipF hb33) rfl rfl ?_
                  refine TO.s rfl rfl rfl (StepS.pickF rfl hb33 rfl) ?_
                  exact TO.up1 6 0 rfl rfl (by rw [hb33]; rfl) rfl
              refine TO.s rfl rfl rfl (StepS.move rfl) ?_
              refine TO.mid1 6 57 (.bool (((x18.1 == x30.1) && (decide (x18.2.2.1 > x30.2.1))) && (decide (x30.2.2.1 > x18.2.1)))) ?_ ?_
              · refine bcase (((x18.1 == x30.1) && (decide (x18.2.2.1 > x30.2.1)))) (fun hb34 => ?_) (fun hb34 => ?_)
                · refine TO.sw rfl rfl rfl hb34 rfl rfl (StepS.fld rfl kfieldB_62_2_2_true) ?_
                  refine TO.sw rfl rfl rfl hb34 rfl rfl (StepS.ldB rfl (Ent.at 0 rfl) kscalB_3_true rfl) ?_
                  refine TO.sw rfl rfl rfl hb34 rfl rfl (StepS.fld rfl kfieldB_62_1_1_true) ?_
                  refine TO.sw rfl rfl rfl hb34 rfl rfl (StepS.ldB rfl (Ent.at 1 rfl) kscalB_3_true rfl) ?_
                  refine TO.sw rfl rfl rfl hb34 rfl rfl (StepS.cmp rfl rfl rfl) ?_
                  refine TO.s rfl rfl rfl (StepS.pickT rfl hb34 rfl) ?_
                  exact TO.up1 6 0 rfl rfl (by rw [hb34]; rfl) rfl
                · refine TO.skip rfl rfl rfl (skipF hb34) rfl rfl ?_
                  refine TO.skip rfl rfl rfl (skipF hb34) rfl rfl ?_
                  refine TO.skip rfl rfl rfl (skipF hb34) rfl rfl ?_
                  refine TO.skip rfl rfl rfl (skipF hb34) rfl rfl ?_
                  refine TO.skip rfl rfl rfl (skipF hb34) rfl rfl ?_
                  refine TO.s rfl rfl rfl (StepS.pickF rfl hb34 rfl) ?_
                  exact TO.up1 6 0 rfl rfl (by rw [hb34]; rfl) rfl
              refine TO.code ?_
              refine TC.cond rfl (fun hc35 => ?_) (fun hc35 => ?_)
              · replace hb28 := cond_t hc35 hb28
                refine TC.k ?_
                refine TC.region ?_
                refine TO.s rfl rfl rfl (StepS.assign rfl) ?_
                refine TO.code ?_
                cases hb28
                refine TC.ret fun a w e s => ?_
                refine FRet.mk1 (P := Try.prog) (fn := Try.f15) (t := 2) e rfl rfl ?_
                exact ⟨rfl, s.mono fun _ => Sat.dropN 2⟩
              · replace hb28 := cond_f hc35 hb28
                refine TC.skipk ?_
                refine TC.region ?_
                refine TO.s rfl rfl rfl (StepS.ari rfl rfl rfl) ?_
                refine TO.s rfl rfl rfl (StepS.move rfl) ?_
                cases hb28
                refine TO.nil fun a w e s => ?_
                exact ⟨e.sub (lk_of_allIn ⟨rfl, rfl, rfl, rfl, rfl, rfl, rfl, rfl, trivial⟩), s.mono fun _ => Sat.dropN 1⟩
            · replace hb28 := cond_f hc29 hb28
              cases hb28
              refine TC.exit rfl fun a w e s => ?_
              exact ⟨e.sub (lk_of_allIn ⟨rfl, rfl, rfl, rfl, trivial⟩), s⟩
          · exact fun a w e s => ⟨e.sub (lk_of_allIn ⟨rfl, rfl, rfl, rfl, rfl, rfl, rfl, rfl, trivial⟩), s⟩
          · rintro _ rfl a w ⟨he, hs⟩
            dsimp only [Ctl.on] at hb16
            refine TC.use ?_ he hs
            refine TC.region ?_
            refine TO.s rfl rfl rfl (StepS.ari rfl rfl rfl) ?_
            refine TO.s rfl rfl rfl (StepS.move rfl) ?_
            cases hb16
            refine TO.nil fun a w e s => ?_
            exact ⟨e.sub (lk_of_allIn ⟨rfl, rfl, rfl, rfl, trivial⟩), s.mono fun _ => Sat.dropN 1⟩
          · rintro r rfl
            cases hb16
            exact fun a w h => h
        · replace hb16 := cond_f hc17 hb16
          cases hb16
          refine TC.exit rfl fun a w e s => ?_
          exact ⟨e.sub (lk_of_allIn trivial), s⟩
      · exact fun a w e s => ⟨e.sub (lk_of_allIn ⟨rfl, rfl, rfl, rfl, trivial⟩), s⟩
      · rintro _ rfl a w ⟨he, hs⟩
        dsimp only [Ctl.on] at hm
        refine TC.use ?_ he hs
        refine TC.k ?_
        refine TC.region ?_
        refine TO.s rfl rfl rfl (StepS.assign rfl) ?_
        refine TO.code ?_
        cases hm
        refine TC.ret fun a w e s => ?_
        refine FRet.mk1 (P := Try.prog) (fn := Try.f15) (t := 2) e rfl rfl ?_
        exact ⟨rfl, s.mono fun _ => Sat.dropN 0⟩
      · rintro r rfl
        cases hm
        exact fun a w h => h
    · rintro r rfl
      cases hm
      exact fun a w h => h

set_option maxRecDepth 100000 in
theorem C70 {B : World} {L : List HP} {a0_0 : List (Int × Int × Int × Bool × Int)} {a0_1 : ((Int × Int × Int × Bool × Int) × Int × Int × Int × Bool × Int) → Option Bool} {a1 : BitVec 32} {a2 : Int × Int × Int × Bool × Int} {b0_ : Nat} {h0_0 : Value} {h0_1 : Value} {h0_2 : Value} {r0 : Bool} (g0 : Ent L (Bx b0_ 77 [h0_0, h0_1, h0_2])) (e0_0 : Ent L (Rd 5 h0_0 (a0_0.map cTiiibi))) (e0_1 : FOk Try.prog B L h0_1 (fun (z : (Int × Int × Int × Bool × Int) × Int × Int × Int × Bool × Int) => [.agg (cTiiibi z.1).toArray, .agg (cTiiibi z.2).toArray]) (fun (z : Bool) => .bool z) a0_1) (hm : F70 a0_0 a0_1 a1 a2 = some r0) {w : World} (st : St B L w) : Calls Try.prog 70 #[.pointer (some ⟨b0_, 0, none⟩), U a1, .agg (cTiiibi a2).toArray] w (fun e w' => (e = .returned (.bool r0) ∧ St B (L) w')) := by
  refine calls_of (N := 34) (L := L) (args := [.pointer (some ⟨b0_, 0, none⟩), U a1, .agg (cTiiibi a2).toArray]) Try.func70 rfl rfl rfl ?_ st
  dsimp only [F70] at hm
  refine TC.k ?_
  refine TC.region ?_
  refine TO.box (cs := [I a2.1, I a2.2.1, I a2.2.2.1, .bool a2.2.2.2.1, I a2.2.2.2.2]) rfl rfl rfl fun b1 => ?_
  refine TO.s rfl rfl rfl (StepS.assign rfl) ?_
  refine TO.code ?_
  refine TC.k ?_
  refine TC.k ?_
  refine TC.region ?_
  refine TO.s rfl rfl rfl (StepS.move rfl) ?_
  refine TO.s rfl rfl rfl (StepS.nilc rfl) ?_
  refine TO.s rfl rfl rfl (StepS.fld rfl kfieldB_77_0_0_true) ?_
  refine TO.s rfl rfl rfl (StepS.ldB rfl g0.tl kscalB_22_true rfl) ?_
  refine TO.s rfl rfl rfl (StepS.lenm rfl e0_0.tl ksliceB_22_62_5_true rfl) ?_
  refine TO.s rfl rfl rfl (StepS.move rfl) ?_
  refine TO.code ?_
  obtain ⟨o4, hw5, hm⟩ := bind_some hm
  refine TC.loop hw5 (fun x2 => fun a w => Mid 34 B [(0, .pointer (some ⟨b0_, 0, none⟩)), (1, U a1), (5, .pointer (some ⟨b1, 0, none⟩)), (12, h0_0), (13, I (a0_0.length : Int)), (14, I x2)] (Bx b1 62 [I a2.1, I a2.2.1, I a2.2.2.1, .bool a2.2.2.2.1, I a2.2.2.2.2] :: L) a w) (fun _ => fun a w => Mid 34 B [] (Bx b1 62 [I a2.1, I a2.2.1, I a2.2.2.1, .bool a2.2.2.2.1, I a2.2.2.2.2] :: L) a w) (fun r0 => FRet Try.prog Try.f70 (fun e w' => (e = .returned (.bool r0) ∧ St B (L) w'))) ?_ ?_ ?_ ?_
  · rintro x2 o4r hb6 a w ⟨he, hs⟩
    dsimp only [F70_L0] at hb6
    refine TC.use ?_ he hs
    refine TC.k ?_
    refine TC.region ?_
    refine TO.s rfl rfl rfl (StepS.cmp rfl rfl rfl) ?_
    refine TO.code ?_
    refine TC.k ?_
    refine TC.cond rfl (fun hc7 => ?_) (fun hc7 => ?_)
    · replace hb6 := cond_t hc7 hb6
      refine TC.skipk ?_
      refine TC.k ?_
      refine TC.block ?_
      refine TC.k ?_
      refine TC.region ?_
      refine TO.s rfl rfl rfl (StepS.move rfl) ?_
      obtain ⟨x8, hx9, hb6⟩ := bind_some hb6
      refine TO.s rfl rfl rfl (StepS.idx rfl rfl e0_0.tl ksliceB_22_62_5_true (idx_spec hx9).1 (idxm_lt hx9)) ?_
      refine TO.s rfl rfl rfl (StepS.ldE rfl e0_0.tl kaggB_62_5_true rfl (idxm hx9)) ?_
      refine TO.alloc kinfo_62_bind_zero_some_agg_I_0_I_0_I_0_bool_false_I_0 rfl rfl fun b10 => ?_
      refine TO.s rfl rfl rfl (StepS.assign rfl) ?_
      refine TO.stB (us := [I x8.1, I x8.2.1, I x8.2.2.1, .bool x8.2.2.2.1, I x8.2.2.2.2]) 0 [I x8.1, I x8.2.1, I x8.2.2.1, .bool x8.2.2.2.1, I x8.2.2.2.2] rfl rfl rfl ksizeB_62_5_true rfl rfl rfl (by simp [Value.oneCell']) rfl ?_
      refine TO.code ?_
      refine TC.k ?_
      refine TC.region_quiet kfollows_mixedOrders_true (by kernel_rfl) ?_
      refine TQ.s rfl rfl rfl (StepS.move rfl).q ?_
      refine TQ.s rfl rfl rfl (StepS.move rfl).q ?_
      obtain ⟨k11, hk12, hb6⟩ := bind_some hb6
      refine TQ.s rfl rfl rfl (StepS.shrk rfl rfl hk12).q ?_
      refine TQ.s rfl rfl rfl (StepS.bitU (n := 1#32) rfl rfl rfl).q ?_
      refine TQ.s rfl rfl rfl (StepS.cmpU (n := 0#32) rfl rfl rfl).q ?_
      refine TQ.s rfl rfl rfl (StepS.move rfl).q ?_
      obtain ⟨b14, hj15, hb6⟩ := bind_some hb6
      refine TQ.mid1 8 32 (.bool b14) ?_ ?_
      · refine bcase ((((a1 >>> k11) &&& (1#32)) == (0#32))) (fun hb13 => ?_) (fun hb13 => ?_)
        · replace hj15 := cond_t hb13 hj15
          refine TQ.sw rfl rfl rfl hb13 rfl rfl (StepS.move rfl).q ?_
          refine TQ.sw rfl rfl rfl hb13 rfl rfl (StepS.nilc rfl).q ?_
          refine TQ.sw rfl rfl rfl hb13 rfl rfl (StepS.fld rfl kfieldB_77_1_1_true).q ?_
          refine TQ.sw rfl rfl rfl hb13 rfl rfl (StepS.ldB rfl g0.tl.tl kscalB_64_true rfl).q ?_
          refine TQ.sw rfl rfl rfl hb13 rfl rfl (StepS.ldBA rfl (Ent.at 0 rfl) kaggB_62_5_true rfl rfl).q ?_
          refine TQ.sw rfl rfl rfl hb13 rfl rfl (StepS.ldBA rfl (Ent.at 1 rfl) kaggB_62_5_true rfl rfl).q ?_
          obtain ⟨r16, hc17, hj15⟩ := bind_some hj15
          refine TQ.sw rfl rfl rfl hb13 rfl rfl (StepQ.callF (x := ((x8.1, x8.2.1, x8.2.2.1, x8.2.2.2.1, x8.2.2.2.2), (a2.1, a2.2.1, a2.2.2.1, a2.2.2.2.1, a2.2.2.2.2))) e0_1 (Ext.rfl.tl.tl) rfl rfl hc17) ?_
          cases hj15
          refine TQ.s rfl rfl rfl (StepS.pickT rfl hb13 rfl).q ?_
          exact TQ.up1 8 0 rfl rfl rfl rfl
        · replace hj15 := cond_f hb13 hj15
          cases hj15
          refine TQ.skip rfl rfl rfl (skipF hb13) rfl rfl ?_
          refine TQ.skip rfl rfl rfl (skipF hb13) rfl rfl ?_
          refine TQ.skip rfl rfl rfl (skipF hb13) rfl rfl ?_
          refine TQ.skip rfl rfl rfl (skipF hb13) rfl rfl ?_
          refine TQ.skip rfl rfl rfl (skipF hb13) rfl rfl ?_
          refine TQ.skip rfl rfl rfl (skipF hb13) rfl rfl ?_
          refine TQ.skip rfl rfl rfl (skipF hb13) rfl rfl ?_
          refine TQ.s rfl rfl rfl (StepS.pickF rfl hb13 rfl).q ?_
          exact TQ.up1 8 0 rfl rfl rfl rfl
      refine TQ.code ?_
      refine TC.cond rfl (fun hc18 => ?_) (fun hc18 => ?_)
      · replace hb6 := cond_t hc18 hb6
        refine TC.k ?_
        refine TC.region ?_
        refine TO.s rfl rfl rfl (StepS.assign rfl) ?_
        refine TO.code ?_
        cases hb6
        refine TC.ret fun a w e s => ?_
        refine FRet.mk1 (P := Try.prog) (fn := Try.f70) (t := 6) e rfl rfl ?_
        exact ⟨rfl, s.mono fun _ => Sat.dropN 2⟩
      · replace hb6 := cond_f hc18 hb6
        refine TC.skipk ?_
        refine TC.region ?_
        refine TO.s rfl rfl rfl (StepS.ari rfl rfl rfl) ?_
        refine TO.s rfl rfl rfl (StepS.move rfl) ?_
        cases hb6
        refine TO.nil fun a w e s => ?_
        exact ⟨e.sub (lk_of_allIn ⟨rfl, rfl, rfl, rfl, rfl, rfl, trivial⟩), s.mono fun _ => Sat.dropN 1⟩
    · replace hb6 := cond_f hc7 hb6
      cases hb6
      refine TC.exit rfl fun a w e s => ?_
      exact ⟨e.sub (lk_of_allIn trivial), s⟩
  · exact fun a w e s => ⟨e.sub (lk_of_allIn ⟨rfl, rfl, rfl, rfl, rfl, rfl, trivial⟩), s⟩
  · rintro _ rfl a w ⟨he, hs⟩
    dsimp only [Ctl.on] at hm
    refine TC.use ?_ he hs
    refine TC.k ?_
    refine TC.region ?_
    refine TO.s rfl rfl rfl (StepS.assign rfl) ?_
    refine TO.code ?_
    cases hm
    refine TC.ret fun a w e s => ?_
    refine FRet.mk1 (P := Try.prog) (fn := Try.f70) (t := 6) e rfl rfl ?_
    exact ⟨rfl, s.mono fun _ => Sat.dropN 1⟩
  · rintro r rfl
    cases hm
    exact fun a w h => h

set_option maxRecDepth 100000 in
theorem C64_B {B : World} (rec64 : (List (Int × Int × Int × Bool × Int)) → (((Int × Int × Int × Bool × Int) × Int × Int × Int × Bool × Int) → Option Bool) → (List (((BitVec 32) × BitVec 32) × Bool)) → (BitVec 32) → Int → Option ((List Int) × Bool × (List (((BitVec 32) × BitVec 32) × Bool)))) (ih : ∀ {L : List HP} {a0_0 : List (Int × Int × Int × Bool × Int)} {a0_1 : ((Int × Int × Int × Bool × Int) × Int × Int × Int × Bool × Int) → Option Bool} {a0_2 : List (((BitVec 32) × BitVec 32) × Bool)} {a1 : BitVec 32} {a2 : Int} {b0_ : Nat} {h0_0 : Value} {h0_1 : Value} {m0_2 : Nat} {r0 : List Int} {r1 : Bool} {s0 : List (((BitVec 32) × BitVec 32) × Bool)} (e0_0 : Ent L (Rd 5 h0_0 (a0_0.map cTiiibi))) (e0_1 : FOk Try.prog B L h0_1 (fun (z : (Int × Int × Int × Bool × Int) × Int × Int × Int × Bool × Int) => [.agg (cTiiibi z.1).toArray, .agg (cTiiibi z.2).toArray]) (fun (z : Bool) => .bool z) a0_1) (hm : rec64 a0_0 a0_1 a0_2 a1 a2 = some (r0, r1, s0)) {w : World} (st : St B (Bx b0_ 77 [h0_0, h0_1, .map (some m0_2)] :: MpG (fun k : BitVec 32 × BitVec 32 => .agg #[U k.1, U k.2]) (fun x : Bool => .bool x) m0_2 (a0_2) :: L) w), Calls Try.prog 64 #[.pointer (some ⟨b0_, 0, none⟩), U a1, I a2] w (fun e w' => ∃ v M, e = .returned v ∧ (∃ (qv1 : Value), v = .tuple #[qv1, .bool r1] ∧ M = (Bx b0_ 77 [h0_0, h0_1, .map (some m0_2)] :: MpG (fun k : BitVec 32 × BitVec 32 => .agg #[U k.1, U k.2]) (fun x : Bool => .bool x) m0_2 (s0) :: OwnS 3 1 qv1 (r0.map cI) :: L)) ∧ St B M w')) {L : List HP} {a0_0 : List (Int × Int × Int × Bool × Int)} {a0_1 : ((Int × Int × Int × Bool × Int) × Int × Int × Int × Bool × Int) → Option Bool} {a0_2 : List (((BitVec 32) × BitVec 32) × Bool)} {a1 : BitVec 32} {a2 : Int} {b0_ : Nat} {h0_0 : Value} {h0_1 : Value} {m0_2 : Nat} {r0 : List Int} {r1 : Bool} {s0 : List (((BitVec 32) × BitVec 32) × Bool)} (e0_0 : Ent L (Rd 5 h0_0 (a0_0.map cTiiibi))) (e0_1 : FOk Try.prog B L h0_1 (fun (z : (Int × Int × Int × Bool × Int) × Int × Int × Int × Bool × Int) => [.agg (cTiiibi z.1).toArray, .agg (cTiiibi z.2).toArray]) (fun (z : Bool) => .bool z) a0_1) (hm : F64_B rec64 a0_0 a0_1 a0_2 a1 a2 = some (r0, r1, s0)) {w : World} (st : St B (Bx b0_ 77 [h0_0, h0_1, .map (some m0_2)] :: MpG (fun k : BitVec 32 × BitVec 32 => .agg #[U k.1, U k.2]) (fun x : Bool => .bool x) m0_2 (a0_2) :: L) w) : Calls Try.prog 64 #[.pointer (some ⟨b0_, 0, none⟩), U a1, I a2] w (fun e w' => ∃ v M, e = .returned v ∧ (∃ (qv1 : Value), v = .tuple #[qv1, .bool r1] ∧ M = (Bx b0_ 77 [h0_0, h0_1, .map (some m0_2)] :: MpG (fun k : BitVec 32 × BitVec 32 => .agg #[U k.1, U k.2]) (fun x : Bool => .bool x) m0_2 (s0) :: OwnS 3 1 qv1 (r0.map cI) :: L)) ∧ St B M w') := by
  refine calls_of (N := 102) (L := (Bx b0_ 77 [h0_0, h0_1, .map (some m0_2)] :: MpG (fun k : BitVec 32 × BitVec 32 => .agg #[U k.1, U k.2]) (fun x : Bool => .bool x) m0_2 (a0_2) :: L)) (args := [.pointer (some ⟨b0_, 0, none⟩), U a1, I a2]) Try.func64 rfl rfl rfl ?_ st
  dsimp only [F64_B] at hm
  refine TC.k ?_
  refine TC.region ?_
  refine TO.s rfl rfl rfl (StepS.assign rfl) ?_
  refine TO.s rfl rfl rfl (StepS.assign rfl) ?_
  refine TO.code ?_
  refine TC.k ?_
  refine TC.k ?_
  refine TC.region ?_
  refine TO.s rfl rfl rfl (StepS.move rfl) ?_
  refine TO.s rfl rfl rfl (StepS.move rfl) ?_
  refine TO.s rfl rfl rfl (StepS.nilc rfl) ?_
  refine TO.s rfl rfl rfl (StepS.fld rfl kfieldB_77_0_0_true) ?_
  refine TO.s rfl rfl rfl (StepS.ldB rfl (Ent.at 0 rfl) kscalB_22_true rfl) ?_
  refine TO.s rfl rfl rfl (StepS.lenm rfl e0_0.tl.tl ksliceB_22_62_5_true rfl) ?_
  obtain ⟨k3, hk4, hm⟩ := bind_some hm
  refine TO.s rfl rfl rfl (StepS.shlk (m := 1#32) rfl rfl hk4) ?_
  refine TO.s rfl rfl rfl (StepS.bitU (n := 1#32) rfl rfl rfl) ?_
  refine TO.s rfl rfl rfl (StepS.cmpU rfl rfl rfl) ?_
  refine TO.code ?_
  refine TC.cond rfl (fun hc5 => ?_) (fun hc5 => ?_)
  · replace hm := cond_t hc5 hm
    refine TC.k ?_
    refine TC.region ?_
    refine TO.s rfl rfl rfl (StepS.assign rfl) ?_
    refine TO.s rfl rfl rfl (StepS.assign rfl) ?_
    refine TO.code ?_
    cases hm
    refine TC.ret fun a w e s => ?_
    refine FRet.mk2 (P := Try.prog) (fn := Try.f64) (t := 6) (u := 7) e rfl rfl rfl ?_
    refine ⟨_, _, rfl, ⟨(.slice none 0 0), rfl, rfl⟩, ?_⟩
    refine s.mono fun _ s => ?_
    replace s := Sat.nilS (e := 3) (sz := 1) (f := cI) s
    replace s := Sat.front 2 rfl s
    replace s := Sat.front 2 rfl s
    exact s
  · replace hm := cond_f hc5 hm
    refine TC.skipk ?_
    refine TC.k ?_
    refine TC.region ?_
    refine TO.s rfl rfl rfl (StepS.move rfl) ?_
    refine TO.s rfl rfl rfl (StepS.move rfl) ?_
    refine TO.s rfl rfl rfl (StepS.ari rfl rfl rfl) ?_
    refine TO.s rfl rfl rfl (StepS.cvIU kintB_3_i64_true kintB_35_u32_true rfl) ?_
    refine TO.s rfl rfl rfl (StepS.build (cs := [U a1, U (BitVec.ofInt 32 (w64 (a2 + 1)))]) rfl (by kernel_rfl)) ?_
    refine TO.alloc kinfo_82_bind_zero_some_agg_U_0_U_0 rfl rfl fun b6 => ?_
    refine TO.stB (us := [U a1, U (BitVec.ofInt 32 (w64 (a2 + 1)))]) 0 [U a1, U (BitVec.ofInt 32 (w64 (a2 + 1)))] rfl rfl rfl ksizeB_82_2_true rfl rfl rfl (by simp [Value.oneCell']) rfl ?_
    refine TO.code ?_
    refine TC.k ?_
    refine TC.k ?_
    refine TC.region_still kfollows_mixedOrders_true (by kernel_rfl) ?_
    refine TS.s rfl rfl rfl (StepS.move rfl) ?_
    refine TS.s rfl rfl rfl (StepS.nilc rfl) ?_
    refine TS.s rfl rfl rfl (StepS.fld rfl kfieldB_77_2_2_true) ?_
    refine TS.s rfl rfl rfl (StepS.ldB rfl (Ent.at 1 rfl) kscalB_75_true rfl) ?_
    refine TS.s rfl rfl rfl (StepS.ldBA rfl (Ent.at 0 rfl) kaggB_82_2_true rfl rfl) ?_
    refine TS.s rfl rfl rfl (StepS.lookG (k := (a1, BitVec.ofInt 32 (w64 (a2 + 1)))) (z := false) kmapGB_75_82_4_true (KeyOk.pairU kunderlying_82_some_array_2_35 kunderlying_35_some_int_u32 ksizeB_35_1_true kscalB_35_true) kinfo_4_bind_zero_some_bool_false rfl (Ent.at 2 rfl) rfl rfl) ?_
    refine TS.code ?_
    refine TC.cond rfl (fun hc7 => ?_) (fun hc7 => ?_)
    · replace hm := cond_t hc7 hm
      refine TC.k ?_
      refine TC.region ?_
      refine TO.s rfl rfl rfl (StepS.assign rfl) ?_
      refine TO.s rfl rfl rfl (StepS.assign rfl) ?_
      refine TO.code ?_
      cases hm
      refine TC.ret fun a w e s => ?_
      refine FRet.mk2 (P := Try.prog) (fn := Try.f64) (t := 6) (u := 7) e rfl rfl rfl ?_
      refine ⟨_, _, rfl, ⟨(.slice none 0 0), rfl, rfl⟩, ?_⟩
      refine s.mono fun _ s => ?_
      replace s := Sat.nilS (e := 3) (sz := 1) (f := cI) s
      replace s := Sat.front 3 rfl s
      replace s := Sat.front 3 rfl s
      replace s := Sat.erase 3 s
      exact s
    · replace hm := cond_f hc7 hm
      refine TC.skipk ?_
      refine TC.k ?_
      refine TC.region ?_
      refine TO.s rfl rfl rfl (StepS.assign rfl) ?_
      refine TO.code ?_
      refine TC.k ?_
      refine TC.k ?_
      refine TC.region ?_
      refine TO.s rfl rfl rfl (StepS.move rfl) ?_
      refine TO.s rfl rfl rfl (StepS.cmp rfl rfl rfl) ?_
      refine TO.code ?_
      obtain ⟨x8, hj9, hm⟩ := bind_some hm
      first | refine TC.cutM (fun a w => Mid 102 B [(0, .pointer (some ⟨b0_, 0, none⟩)), (1, U a1), (2, I a2), (8, .pointer (some ⟨b6, 0, none⟩)), (9, I x8)] (Bx b6 82 [U a1, U (BitVec.ofInt 32 (w64 (a2 + 1)))] :: Bx b0_ 77 [h0_0, h0_1, .map (some m0_2)] :: MpG (fun k : BitVec 32 × BitVec 32 => .agg #[U k.1, U k.2]) (fun x : Bool => .bool x) m0_2 (a0_2) :: L) a w) ?_ ?_ | refine TC.cutX (fun a w => Mid 102 B [(0, .pointer (some ⟨b0_, 0, none⟩)), (1, U a1), (2, I a2), (8, .pointer (some ⟨b6, 0, none⟩)), (9, I x8)] (Bx b6 82 [U a1, U (BitVec.ofInt 32 (w64 (a2 + 1)))] :: Bx b0_ 77 [h0_0, h0_1, .map (some m0_2)] :: MpG (fun k : BitVec 32 × BitVec 32 => .agg #[U k.1, U k.2]) (fun x : Bool => .bool x) m0_2 (a0_2) :: L) a w) ?_ ?_
      · refine TC.cond rfl (fun hc10 => ?_) (fun hc10 => ?_)
        · replace hj9 := cond_t hc10 hj9
          refine TC.region ?_
          refine TO.s rfl rfl rfl (StepS.move rfl) ?_
          refine TO.s rfl rfl rfl (StepS.nilc rfl) ?_
          refine TO.s rfl rfl rfl (StepS.fld rfl kfieldB_77_0_0_true) ?_
          refine TO.s rfl rfl rfl (StepS.ldB rfl (Ent.at 1 rfl) kscalB_22_true rfl) ?_
          refine TO.s rfl rfl rfl (StepS.move rfl) ?_
          obtain ⟨x11, hx12, hj9⟩ := bind_some hj9
          refine TO.s rfl rfl rfl (StepS.idx rfl rfl e0_0.tl.tl.tl ksliceB_22_62_5_true (idx_spec hx12).1 (idxm_lt hx12)) ?_
          refine TO.s rfl rfl rfl (StepS.ptrf rfl kfieldB_62_4_4_true) ?_
          refine TO.s rfl rfl rfl (StepS.ld1 rfl e0_0.tl.tl.tl kscalB_3_true rfl (idxm hx12) rfl) ?_
          refine TO.s rfl rfl rfl (StepS.assign rfl) ?_
          cases hj9
          refine TO.nil fun a w e s => ?_
          exact ⟨e.sub (lk_of_allIn ⟨rfl, rfl, rfl, rfl, rfl, trivial⟩), s⟩
        · replace hj9 := cond_f hc10 hj9
          cases hj9
          refine TC.skip fun a w e s => ?_
          exact ⟨e.sub (lk_of_allIn ⟨rfl, rfl, rfl, rfl, rfl, trivial⟩), s⟩
      · intro a w ⟨he, hs⟩
        refine TC.use ?_ he hs
        refine TC.k ?_
        refine TC.k ?_
        refine TC.region ?_
        refine TO.s rfl rfl rfl (StepS.move rfl) ?_
        refine TO.s rfl rfl rfl (StepS.nilc rfl) ?_
        refine TO.s rfl rfl rfl (StepS.fld rfl kfieldB_77_0_0_true) ?_
        refine TO.s rfl rfl rfl (StepS.ldB rfl (Ent.at 1 rfl) kscalB_22_true rfl) ?_
        refine TO.s rfl rfl rfl (StepS.lenm rfl e0_0.tl.tl.tl ksliceB_22_62_5_true rfl) ?_
        refine TO.s rfl rfl rfl (StepS.move rfl) ?_
        refine TO.code ?_
        obtain ⟨o18, hw19, hm⟩ := bind_some hm
        refine TC.loop hw19 (fun (y13, x14) => fun a w => Mid 102 B [(0, .pointer (some ⟨b0_, 0, none⟩)), (1, U a1), (2, I a2), (8, .pointer (some ⟨b6, 0, none⟩)), (9, I x8), (48, h0_0), (49, I (a0_0.length : Int)), (50, I x14)] (Bx b6 82 [U a1, U (BitVec.ofInt 32 (w64 (a2 + 1)))] :: Bx b0_ 77 [h0_0, h0_1, .map (some m0_2)] :: MpG (fun k : BitVec 32 × BitVec 32 => .agg #[U k.1, U k.2]) (fun x : Bool => .bool x) m0_2 (y13) :: L) a w) (fun y17 => fun a w => Mid 102 B [(0, .pointer (some ⟨b0_, 0, none⟩)), (8, .pointer (some ⟨b6, 0, none⟩))] (Bx b6 82 [U a1, U (BitVec.ofInt 32 (w64 (a2 + 1)))] :: Bx b0_ 77 [h0_0, h0_1, .map (some m0_2)] :: MpG (fun k : BitVec 32 × BitVec 32 => .agg #[U k.1, U k.2]) (fun x : Bool => .bool x) m0_2 (y17) :: L) a w) (fun (r0, r1, s0) => FRet Try.prog Try.f64 (fun e w' => ∃ v M, e = .returned v ∧ (∃ (qv1 : Value), v = .tuple #[qv1, .bool r1] ∧ M = (Bx b0_ 77 [h0_0, h0_1, .map (some m0_2)] :: MpG (fun k : BitVec 32 × BitVec 32 => .agg #[U k.1, U k.2]) (fun x : Bool => .bool x) m0_2 (s0) :: OwnS 3 1 qv1 (r0.map cI) :: L)) ∧ St B M w')) ?_ ?_ ?_ ?_
        · rintro ⟨y13, x14⟩ o18r hb20 a w ⟨he, hs⟩
          dsimp only [F64_L0] at hb20
          refine TC.use ?_ he hs
          refine TC.k ?_
          refine TC.region ?_
          refine TO.s rfl rfl rfl (StepS.cmp rfl rfl rfl) ?_
          refine TO.code ?_
          refine TC.k ?_
          refine TC.cond rfl (fun hc21 => ?_) (fun hc21 => ?_)
          · replace hb20 := cond_t hc21 hb20
            refine TC.skipk ?_
            refine TC.k ?_
            refine TC.block ?_
            refine TC.k ?_
            refine TC.region ?_
            refine TO.s rfl rfl rfl (StepS.move rfl) ?_
            obtain ⟨x22, hx23, hb20⟩ := bind_some hb20
            refine TO.s rfl rfl rfl (StepS.idx rfl rfl e0_0.tl.tl.tl ksliceB_22_62_5_true (idx_spec hx23).1 (idxm_lt hx23)) ?_
            refine TO.s rfl rfl rfl (StepS.ldE rfl e0_0.tl.tl.tl kaggB_62_5_true rfl (idxm hx23)) ?_
            refine TO.alloc kinfo_62_bind_zero_some_agg_I_0_I_0_I_0_bool_false_I_0 rfl rfl fun b24 => ?_
            refine TO.s rfl rfl rfl (StepS.assign rfl) ?_
            refine TO.stB (us := [I x22.1, I x22.2.1, I x22.2.2.1, .bool x22.2.2.2.1, I x22.2.2.2.2]) 0 [I x22.1, I x22.2.1, I x22.2.2.1, .bool x22.2.2.2.1, I x22.2.2.2.2] rfl rfl rfl ksizeB_62_5_true rfl rfl rfl (by simp [Value.oneCell']) rfl ?_
            refine TO.code ?_
            refine TC.k ?_
            refine TC.k ?_
            refine TC.region ?_
            refine TO.s rfl rfl rfl (StepS.move rfl) ?_
            refine TO.s rfl rfl rfl (StepS.move rfl) ?_
            obtain ⟨k25, hk26, hb20⟩ := bind_some hb20
            refine TO.s rfl rfl rfl (StepS.shrk rfl rfl hk26) ?_
            refine TO.s rfl rfl rfl (StepS.bitU (n := 1#32) rfl rfl rfl) ?_
            refine TO.s rfl rfl rfl (StepS.cmpU (n := 1#32) rfl rfl rfl) ?_
            refine TO.s rfl rfl rfl (StepS.move rfl) ?_
            obtain ⟨b28, hj29, hb20⟩ := bind_some hb20
            refine TO.mid1 5 65 (.bool b28) ?_ ?_
            · refine bcase ((((a1 >>> k25) &&& (1#32)) == (1#32))) (fun hb27 => ?_) (fun hb27 => ?_)
              · replace hj29 := cond_t hb27 hj29
                cases hj29
                refine TO.skip rfl rfl rfl (skipT hb27) rfl rfl ?_
                refine TO.skip rfl rfl rfl (skipT hb27) rfl rfl ?_
                refine TO.skip rfl rfl rfl (skipT hb27) rfl rfl ?_
                refine TO.skip rfl rfl rfl (skipT hb27) rfl rfl ?_
                refine TO.s rfl rfl rfl (StepS.pickT rfl hb27 rfl) ?_
                exact TO.up1 5 0 rfl rfl rfl rfl
              · replace hj29 := cond_f hb27 hj29
                refine TO.sw rfl rfl rfl hb27 rfl rfl (StepS.move rfl) ?_
                refine TO.sw rfl rfl rfl hb27 rfl rfl (StepS.move rfl) ?_
                refine TO.sw rfl rfl rfl hb27 rfl rfl (StepS.ldBA rfl (Ent.at 0 rfl) kaggB_62_5_true rfl rfl) ?_
                obtain ⟨r30, hc31, hj29⟩ := bind_some hj29
                refine TO.qw rfl rfl rfl hb27 rfl rfl (StepQ.call kcallB_70_true rfl rfl (fun _ st => C70 (Ent.at 2 rfl) e0_0.tl.tl.tl.tl (e0_1.ext (Ext.rfl.tl.tl.tl.tl)) hc31 st)) ?_
                cases hj29
                refine TO.s rfl rfl rfl (StepS.pickF rfl hb27 rfl) ?_
                exact TO.up1 5 0 rfl rfl rfl rfl
            refine TO.s rfl rfl rfl (StepS.move rfl) ?_
            refine TO.mid1 10 76 (.bool (b28 || ((!x22.2.2.2.1) && (x22.2.2.2.2 != x8)))) ?_ ?_
            · refine bcase (b28) (fun hb32 => ?_) (fun hb32 => ?_)
              · refine TO.skip rfl rfl rfl (skipT hb32) rfl rfl ?_
                refine TO.skip rfl rfl rfl (skipT hb32) rfl rfl ?_
                refine TO.skip rfl rfl rfl (skipT hb32) rfl rfl ?_
                refine TO.skip rfl rfl rfl (skipT hb32) rfl rfl ?_
                refine TO.skip rfl rfl rfl skipU rfl rfl ?_
                refine TO.skip rfl rfl rfl skipU rfl rfl ?_
                refine TO.skip rfl rfl rfl skipU rfl rfl ?_
                refine TO.skip rfl rfl rfl skipU rfl rfl ?_
                refine TO.skip rfl rfl rfl (skipT hb32) rfl rfl ?_
                refine TO.s rfl rfl rfl (StepS.pickT rfl hb32 rfl) ?_
                exact TO.up1 10 0 rfl rfl (by rw [hb32]; rfl) rfl
              · refine TO.sw rfl rfl rfl hb32 rfl rfl (StepS.fld rfl kfieldB_62_3_3_true) ?_
                refine TO.sw rfl rfl rfl hb32 rfl rfl (StepS.ldB rfl (Ent.at 0 rfl) kscalB_4_true rfl) ?_
                refine TO.sw rfl rfl rfl hb32 rfl rfl (StepS.not rfl) ?_
                refine TO.sw rfl rfl rfl hb32 rfl rfl (StepS.move rfl) ?_
                refine TO.mid1 5 75 (.bool ((!x22.2.2.2.1) && (x22.2.2.2.2 != x8))) ?_ ?_
                · refine bcase ((!x22.2.2.2.1)) (fun hb33 => ?_) (fun hb33 => ?_)
                  · refine TO.sw rfl rfl rfl hb33 rfl rfl (StepS.fld rfl kfieldB_62_4_4_true) ?_
                    refine TO.sw rfl rfl rfl hb33 rfl rfl (StepS.ldB rfl (Ent.at 0 rfl) kscalB_3_true rfl) ?_
                    refine TO.sw rfl rfl rfl hb33 rfl rfl (StepS.move rfl) ?_
                    refine TO.sw rfl rfl rfl hb33 rfl rfl (StepS.cmp rfl rfl rfl) ?_
                    refine TO.sw rfl rfl rfl hb32 rfl rfl (StepS.pickT rfl hb33 rfl) ?_
                    exact TO.up1 5 0 rfl rfl (by rw [hb33]; rfl) rfl
                  · refine TO.skip rfl rfl rfl (skipF hb33) rfl rfl ?_
                    refine TO.skip rfl rfl rfl (skipF hb33) rfl rfl ?_
                    refine TO.skip rfl rfl rfl (skipF hb33) rfl rfl ?_
                    refine TO.skip rfl rfl rfl (skipF hb33) rfl rfl ?_
                    refine TO.sw rfl rfl rfl hb32 rfl rfl (StepS.pickF rfl hb33 rfl) ?_
                    exact TO.up1 5 0 rfl rfl (by rw [hb33]; rfl) rfl
                refine TO.s rfl rfl rfl (StepS.pickF rfl hb32 rfl) ?_
                exact TO.up1 6 0 rfl rfl (by rw [hb32]; rfl) rfl
            refine TO.code ?_
            refine TC.cond rfl (fun hc34 => ?_) (fun hc34 => ?_)
            · replace hb20 := cond_t hc34 hb20
              refine TC.exitk rfl ?_
              refine TC.region ?_
              refine TO.s rfl rfl rfl (StepS.ari rfl rfl rfl) ?_
              refine TO.s rfl rfl rfl (StepS.move rfl) ?_
              cases hb20
              refine TO.nil fun a w e s => ?_
              exact ⟨e.sub (lk_of_allIn ⟨rfl, rfl, rfl, rfl, rfl, rfl, rfl, rfl, trivial⟩), s.mono fun _ => Sat.dropN 1⟩
            · replace hb20 := cond_f hc34 hb20
              refine TC.skipk ?_
              refine TC.k ?_
              refine TC.region ?_
              refine TO.s rfl rfl rfl (StepS.move rfl) ?_
              refine TO.s rfl rfl rfl (StepS.assign rfl) ?_
              refine TO.code ?_
              refine TC.k ?_
              refine TC.k ?_
              refine TC.region ?_
              refine TO.s rfl rfl rfl (StepS.fld rfl kfieldB_62_3_3_true) ?_
              refine TO.s rfl rfl rfl (StepS.ldB rfl (Ent.at 0 rfl) kscalB_4_true rfl) ?_
              refine TO.code ?_
              obtain ⟨x35, hj36, hb20⟩ := bind_some hb20
              first | refine TC.cutM (fun a w => Mid 102 B [(0, .pointer (some ⟨b0_, 0, none⟩)), (1, U a1), (2, I a2), (8, .pointer (some ⟨b6, 0, none⟩)), (9, I x8), (10, I x14), (12, I x35), (48, h0_0), (49, I (a0_0.length : Int)), (50, I x14)] (Bx b24 62 [I x22.1, I x22.2.1, I x22.2.2.1, .bool x22.2.2.2.1, I x22.2.2.2.2] :: Bx b6 82 [U a1, U (BitVec.ofInt 32 (w64 (a2 + 1)))] :: Bx b0_ 77 [h0_0, h0_1, .map (some m0_2)] :: MpG (fun k : BitVec 32 × BitVec 32 => .agg #[U k.1, U k.2]) (fun x : Bool => .bool x) m0_2 (y13) :: L) a w) ?_ ?_ | refine TC.cutX (fun a w => Mid 102 B [(0, .pointer (some ⟨b0_, 0, none⟩)), (1, U a1), (2, I a2), (8, .pointer (some ⟨b6, 0, none⟩)), (9, I x8), (10, I x14), (12, I x35), (48, h0_0), (49, I (a0_0.length : Int)), (50, I x14)] (Bx b24 62 [I x22.1, I x22.2.1, I x22.2.2.1, .bool x22.2.2.2.1, I x22.2.2.2.2] :: Bx b6 82 [U a1, U (BitVec.ofInt 32 (w64 (a2 + 1)))] :: Bx b0_ 77 [h0_0, h0_1, .map (some m0_2)] :: MpG (fun k : BitVec 32 × BitVec 32 => .agg #[U k.1, U k.2]) (fun x : Bool => .bool x) m0_2 (y13) :: L) a w) ?_ ?_
              · refine TC.cond rfl (fun hc37 => ?_) (fun hc37 => ?_)
                · replace hj36 := cond_t hc37 hj36
                  refine TC.region ?_
                  refine TO.s rfl rfl rfl (StepS.move rfl) ?_
                  refine TO.s rfl rfl rfl (StepS.assign rfl) ?_
                  cases hj36
                  refine TO.nil fun a w e s => ?_
                  exact ⟨e.sub (lk_of_allIn ⟨rfl, rfl, rfl, rfl, rfl, rfl, rfl, rfl, rfl, rfl, trivial⟩), s⟩
                · replace hj36 := cond_f hc37 hj36
                  cases hj36
                  refine TC.skip fun a w e s => ?_
                  exact ⟨e.sub (lk_of_allIn ⟨rfl, rfl, rfl, rfl, rfl, rfl, rfl, rfl, rfl, rfl, trivial⟩), s⟩
              · intro a w ⟨he, hs⟩
                refine TC.use ?_ he hs
                refine TC.k ?_
                refine TC.region ?_
                refine TO.s rfl rfl rfl (StepS.move rfl) ?_
                refine TO.s rfl rfl rfl (StepS.move rfl) ?_
                refine TO.s rfl rfl rfl (StepS.move rfl) ?_
                obtain ⟨k38, hk39, hb20⟩ := bind_some hb20
                refine TO.s rfl rfl rfl (StepS.shlk (m := 1#32) rfl rfl hk39) ?_
                refine TO.s rfl rfl rfl (StepS.bitU rfl rfl rfl) ?_
                refine TO.s rfl rfl rfl (StepS.move rfl) ?_
                refine TO.ghost (fun _ s => Sat.front 3 rfl s) ?_
                refine TO.ghost (fun _ s => Sat.front 3 rfl s) ?_
                obtain ⟨⟨r40, r41, r42⟩, hc43, hb20⟩ := bind_some hb20
                refine TO.callO kcallB_64_true rfl rfl rfl (fun _ st => ih e0_0.tl.tl (e0_1.ext (Ext.rfl.tl.tl)) hc43 st) ?_
                rintro _ _ ⟨v44, rfl, rfl⟩
                refine TO.s rfl rfl rfl (StepS.move rfl) ?_
                refine TO.s rfl rfl rfl (StepS.extract rfl rfl) ?_
                refine TO.s rfl rfl rfl (StepS.extract rfl rfl) ?_
                refine TO.s rfl rfl rfl (StepS.assign rfl) ?_
                refine TO.s rfl rfl rfl (StepS.assign rfl) ?_
                refine TO.code ?_
                refine TC.k ?_
                refine TC.region ?_
                refine TO.s rfl rfl rfl (StepS.move rfl) ?_
                refine TO.code ?_
                refine TC.cond rfl (fun hc46 => ?_) (fun hc46 => ?_)
                · replace hb20 := cond_t hc46 hb20
                  refine TC.k ?_
                  refine TC.region ?_
                  refine TO.s rfl rfl rfl (StepS.move rfl) ?_
                  refine TO.litS (f := cI) ([x14] : List Int) kelemB_28_3_1_8_true kinfo_3_bind_zero_some_I_0 rfl rfl (fun _ => rfl) rfl rfl (by kernel_rfl) rfl fun v47 => ?_
                  refine TO.s rfl rfl rfl (StepS.move rfl) ?_
                  obtain ⟨y49, hk50, hb20⟩ := bind_some hb20
                  refine TO.app (k := 0) (f := cI) kelemB_28_3_1_8_true (by decide) rfl rfl rfl (OwnS.rd (Ent.at 3 rfl)) hk50 (fun x c hc => by simp [Value.oneCell'] at hc ⊢; first | (obtain rfl := hc; rfl) | (rcases hc with rfl <;> rfl)) rfl rfl fun v51 => ?_
                  refine TO.s rfl rfl rfl (StepS.assign rfl) ?_
                  refine TO.s rfl rfl rfl (StepS.assign rfl) ?_
                  refine TO.code ?_
                  cases hb20
                  refine TC.ret fun a w e s => ?_
                  refine FRet.mk2 (P := Try.prog) (fn := Try.f64) (t := 6) (u := 7) e rfl rfl rfl ?_
                  refine ⟨_, _, rfl, ⟨(v51), rfl, rfl⟩, ?_⟩
                  refine s.mono fun _ s => ?_
                  replace s := Sat.front 0 rfl s
                  replace s := Sat.front 2 rfl s
                  replace s := Sat.front 2 rfl s
                  replace s := Sat.erase 3 s
                  replace s := Sat.erase 3 s
                  replace s := Sat.erase 3 s
                  exact s
                · replace hb20 := cond_f hc46 hb20
                  refine TC.skipk ?_
                  refine TC.region ?_
                  refine TO.s rfl rfl rfl (StepS.ari rfl rfl rfl) ?_
                  refine TO.s rfl rfl rfl (StepS.move rfl) ?_
                  cases hb20
                  refine TO.nil fun a w e s => ?_
                  exact ⟨e.sub (lk_of_allIn ⟨rfl, rfl, rfl, rfl, rfl, rfl, rfl, rfl, trivial⟩), s.mono fun _ s => (by replace s := Sat.front 1 rfl s; replace s := Sat.front 1 rfl s; replace s := Sat.front 4 rfl s; replace s := Sat.erase 3 s; replace s := Sat.erase 3 s; exact s)⟩
          · replace hb20 := cond_f hc21 hb20
            cases hb20
            refine TC.exit rfl fun a w e s => ?_
            exact ⟨e.sub (lk_of_allIn ⟨rfl, rfl, trivial⟩), s⟩
        · exact fun a w e s => ⟨e.sub (lk_of_allIn ⟨rfl, rfl, rfl, rfl, rfl, rfl, rfl, rfl, trivial⟩), s⟩
        · rintro y17 rfl a w ⟨he, hs⟩
          dsimp only [Ctl.on] at hm
          refine TC.use ?_ he hs
          refine TC.k ?_
          refine TC.region_tail 5 kfollows_mixedOrders_true (by kernel_rfl) ?_
          refine TS.s rfl rfl rfl (StepS.move rfl) ?_
          refine TS.s rfl rfl rfl (StepS.nilc rfl) ?_
          refine TS.s rfl rfl rfl (StepS.fld rfl kfieldB_77_2_2_true) ?_
          refine TS.s rfl rfl rfl (StepS.ldB rfl (Ent.at 1 rfl) kscalB_75_true rfl) ?_
          refine TS.s rfl rfl rfl (StepS.ldBA rfl (Ent.at 0 rfl) kaggB_82_2_true rfl rfl) ?_
          refine TS.nil ?_
          refine TO.at ?_
          refine TO.msetG (k := (a1, BitVec.ofInt 32 (w64 (a2 + 1)))) (v := true) 2 kmapGB_75_82_4_true (KeyOk.pairU kunderlying_82_some_array_2_35 kunderlying_35_some_int_u32 ksizeB_35_1_true kscalB_35_true) rfl rfl rfl rfl ?_
          refine TO.code ?_
          refine TC.k ?_
          refine TC.region ?_
          refine TO.s rfl rfl rfl (StepS.assign rfl) ?_
          refine TO.s rfl rfl rfl (StepS.assign rfl) ?_
          refine TO.code ?_
          cases hm
          refine TC.ret fun a w e s => ?_
          refine FRet.mk2 (P := Try.prog) (fn := Try.f64) (t := 6) (u := 7) e rfl rfl rfl ?_
          refine ⟨_, _, rfl, ⟨(.slice none 0 0), rfl, rfl⟩, ?_⟩
          refine s.mono fun _ s => ?_
          replace s := Sat.nilS (e := 3) (sz := 1) (f := cI) s
          replace s := Sat.front 3 rfl s
          replace s := Sat.front 3 rfl s
          replace s := Sat.erase 3 s
          exact s
        · rintro r rfl
          cases hm
          exact fun a w h => h
theorem C64_R {B : World} : ∀ (n : Nat) {L : List HP} {a0_0 : List (Int × Int × Int × Bool × Int)} {a0_1 : ((Int × Int × Int × Bool × Int) × Int × Int × Int × Bool × Int) → Option Bool} {a0_2 : List (((BitVec 32) × BitVec 32) × Bool)} {a1 : BitVec 32} {a2 : Int} {b0_ : Nat} {h0_0 : Value} {h0_1 : Value} {m0_2 : Nat} {r0 : List Int} {r1 : Bool} {s0 : List (((BitVec 32) × BitVec 32) × Bool)} (e0_0 : Ent L (Rd 5 h0_0 (a0_0.map cTiiibi))) (e0_1 : FOk Try.prog B L h0_1 (fun (z : (Int × Int × Int × Bool × Int) × Int × Int × Int × Bool × Int) => [.agg (cTiiibi z.1).toArray, .agg (cTiiibi z.2).toArray]) (fun (z : Bool) => .bool z) a0_1) (hm : F64_R n a0_0 a0_1 a0_2 a1 a2 = some (r0, r1, s0)) {w : World} (st : St B (Bx b0_ 77 [h0_0, h0_1, .map (some m0_2)] :: MpG (fun k : BitVec 32 × BitVec 32 => .agg #[U k.1, U k.2]) (fun x : Bool => .bool x) m0_2 (a0_2) :: L) w), Calls Try.prog 64 #[.pointer (some ⟨b0_, 0, none⟩), U a1, I a2] w (fun e w' => ∃ v M, e = .returned v ∧ (∃ (qv1 : Value), v = .tuple #[qv1, .bool r1] ∧ M = (Bx b0_ 77 [h0_0, h0_1, .map (some m0_2)] :: MpG (fun k : BitVec 32 × BitVec 32 => .agg #[U k.1, U k.2]) (fun x : Bool => .bool x) m0_2 (s0) :: OwnS 3 1 qv1 (r0.map cI) :: L)) ∧ St B M w') := by
  intro n
  induction n with
  | zero => intro L a0_0 a0_1 a0_2 a1 a2 b0_ h0_0 h0_1 m0_2 r0 r1 s0 e0_0 e0_1 hm w st; cases hm
  | succ n ih => intro L a0_0 a0_1 a0_2 a1 a2 b0_ h0_0 h0_1 m0_2 r0 r1 s0 e0_0 e0_1 hm w st; exact C64_B (F64_R n) (@ih) e0_0 e0_1 hm st
theorem C64 {B : World} {L : List HP} {a0_0 : List (Int × Int × Int × Bool × Int)} {a0_1 : ((Int × Int × Int × Bool × Int) × Int × Int × Int × Bool × Int) → Option Bool} {a0_2 : List (((BitVec 32) × BitVec 32) × Bool)} {a1 : BitVec 32} {a2 : Int} {b0_ : Nat} {h0_0 : Value} {h0_1 : Value} {m0_2 : Nat} {r0 : List Int} {r1 : Bool} {s0 : List (((BitVec 32) × BitVec 32) × Bool)} (e0_0 : Ent L (Rd 5 h0_0 (a0_0.map cTiiibi))) (e0_1 : FOk Try.prog B L h0_1 (fun (z : (Int × Int × Int × Bool × Int) × Int × Int × Int × Bool × Int) => [.agg (cTiiibi z.1).toArray, .agg (cTiiibi z.2).toArray]) (fun (z : Bool) => .bool z) a0_1) (hm : F64 a0_0 a0_1 a0_2 a1 a2 = some (r0, r1, s0)) {w : World} (st : St B (Bx b0_ 77 [h0_0, h0_1, .map (some m0_2)] :: MpG (fun k : BitVec 32 × BitVec 32 => .agg #[U k.1, U k.2]) (fun x : Bool => .bool x) m0_2 (a0_2) :: L) w) : Calls Try.prog 64 #[.pointer (some ⟨b0_, 0, none⟩), U a1, I a2] w (fun e w' => ∃ v M, e = .returned v ∧ (∃ (qv1 : Value), v = .tuple #[qv1, .bool r1] ∧ M = (Bx b0_ 77 [h0_0, h0_1, .map (some m0_2)] :: MpG (fun k : BitVec 32 × BitVec 32 => .agg #[U k.1, U k.2]) (fun x : Bool => .bool x) m0_2 (s0) :: OwnS 3 1 qv1 (r0.map cI) :: L)) ∧ St B M w') := by
  obtain ⟨n, hn⟩ := fixO_spec hm
  exact C64_R n e0_0 e0_1 hn st

set_option maxRecDepth 100000 in
theorem C43 {B : World} {L : List HP} {a0 : List (Int × Int × Int × Bool × Int)} {a1 : ((Int × Int × Int × Bool × Int) × Int × Int × Int × Bool × Int) → Option Bool} {h0 : Value} {h1 : Value} {r0 : List Int} {r1 : Bool} (e0 : Ent L (Rd 5 h0 (a0.map cTiiibi))) (e1 : FOk Try.prog B L h1 (fun (z : (Int × Int × Int × Bool × Int) × Int × Int × Int × Bool × Int) => [.agg (cTiiibi z.1).toArray, .agg (cTiiibi z.2).toArray]) (fun (z : Bool) => .bool z) a1) (hm : F43 a0 a1 = some (r0, r1)) {w : World} (st : St B L w) : Calls Try.prog 43 #[h0, h1] w (fun e w' => ∃ v M, e = .returned v ∧ (∃ (qv1 : Value), v = .tuple #[qv1, .bool r1] ∧ M = (OwnS 3 1 qv1 (r0.map cI) :: L)) ∧ St B M w') := by
  refine calls_of (N := 16) (L := L) (args := [h0, h1]) Try.func43 rfl rfl rfl ?_ st
  dsimp only [F43] at hm
  refine TC.k ?_
  refine TC.region ?_
  refine TO.s rfl rfl rfl (StepS.assign rfl) ?_
  refine TO.s rfl rfl rfl (StepS.assign rfl) ?_
  refine TO.code ?_
  refine TC.k ?_
  refine TC.region ?_
  refine TO.s rfl rfl rfl (StepS.move rfl) ?_
  refine TO.s rfl rfl rfl (StepS.move rfl) ?_
  refine TO.mkMG (kf := (fun k : BitVec 32 × BitVec 32 => .agg #[U k.1, U k.2])) (vf := (fun x : Bool => .bool x)) rfl fun r2 => ?_
  refine TO.pure (fun _ s => Rd.one e0.tl s) fun oc4 => ?_
  refine TO.pure (fun _ _ => FOk.one e1) fun oc5 => ?_
  refine TO.s rfl rfl rfl (StepS.buildS (us := [(0, .agg #[h0]), (1, .agg #[h1]), (2, .map (some r2))]) (cs := [h0, h1, .map (some r2)]) rfl (by simp only [List.map_cons, List.map_nil, oc4.2, oc5.2]; rfl) (by kernel_rfl)) ?_
  refine TO.box (cs := [h0, h1, .map (some r2)]) rfl rfl rfl fun b6 => ?_
  refine TO.s rfl rfl rfl (StepS.assign rfl) ?_
  refine TO.code ?_
  refine TC.k ?_
  refine TC.region ?_
  refine TO.s rfl rfl rfl (StepS.move rfl) ?_
  refine TO.ghost (fun _ s => Sat.front 1 rfl s) ?_
  refine TO.ghost (fun _ s => Sat.front 1 rfl s) ?_
  obtain ⟨⟨r7, r8, r9⟩, hc10, hm⟩ := bind_some hm
  refine TO.callO kcallB_64_true rfl rfl rfl (fun _ st => C64 e0 (e1.ext (Ext.rfl)) hc10 st) ?_
  rintro _ _ ⟨v11, rfl, rfl⟩
  refine TO.s rfl rfl rfl (StepS.extract rfl rfl) ?_
  refine TO.s rfl rfl rfl (StepS.extract rfl rfl) ?_
  refine TO.s rfl rfl rfl (StepS.assign rfl) ?_
  refine TO.s rfl rfl rfl (StepS.assign rfl) ?_
  refine TO.code ?_
  cases hm
  refine TC.ret fun a w e s => ?_
  refine FRet.mk2 (P := Try.prog) (fn := Try.f43) (t := 4) (u := 5) e rfl rfl rfl ?_
  refine ⟨_, _, rfl, ⟨(v11), rfl, rfl⟩, ?_⟩
  refine s.mono fun _ s => ?_
  replace s := Sat.front 2 rfl s
  replace s := Sat.erase 1 s
  replace s := Sat.erase 1 s
  exact s

set_option maxRecDepth 100000 in
theorem C44 {B : World} {L : List HP} {a0 : Int × Int × Int × Bool × Int} {a1 : Int × Int × Int × Bool × Int} {r0 : Bool} (hm : F44 a0 a1 = some r0) {w : World} (st : St B L w) : Calls Try.prog 44 #[.agg (cTiiibi a0).toArray, .agg (cTiiibi a1).toArray] w (fun e w' => (e = .returned (.bool r0) ∧ St B (L) w')) := by
  refine calls_of (N := 17) (L := L) (args := [.agg (cTiiibi a0).toArray, .agg (cTiiibi a1).toArray]) Try.func44 rfl rfl rfl ?_ st
  dsimp only [F44] at hm
  refine TC.k ?_
  refine TC.region ?_
  refine TO.box (cs := [I a0.1, I a0.2.1, I a0.2.2.1, .bool a0.2.2.2.1, I a0.2.2.2.2]) rfl rfl rfl fun b1 => ?_
  refine TO.box (cs := [I a1.1, I a1.2.1, I a1.2.2.1, .bool a1.2.2.2.1, I a1.2.2.2.2]) rfl rfl rfl fun b2 => ?_
  refine TO.s rfl rfl rfl (StepS.assign rfl) ?_
  refine TO.code ?_
  refine TC.k ?_
  refine TC.region ?_
  refine TO.s rfl rfl rfl (StepS.fld rfl kfieldB_62_0_0_true) ?_
  refine TO.s rfl rfl rfl (StepS.ldB rfl (Ent.at 1 rfl) kscalB_3_true rfl) ?_
  refine TO.s rfl rfl rfl (StepS.fld rfl kfieldB_62_0_0_true) ?_
  refine TO.s rfl rfl rfl (StepS.ldB rfl (Ent.at 0 rfl) kscalB_3_true rfl) ?_
  refine TO.s rfl rfl rfl (StepS.cmp rfl rfl rfl) ?_
  refine TO.s rfl rfl rfl (StepS.move rfl) ?_
  refine TO.mid1 6 16 (.bool ((a0.1 == a1.1) && (decide (a0.2.1 < a1.2.1)))) ?_ ?_
  · refine bcase ((a0.1 == a1.1)) (fun hb3 => ?_) (fun hb3 => ?_)
    · refine TO.sw rfl rfl rfl hb3 rfl rfl (StepS.fld rfl kfieldB_62_1_1_true) ?_
      refine TO.sw rfl rfl rfl hb3 rfl rfl (StepS.ldB rfl (Ent.at 1 rfl) kscalB_3_true rfl) ?_
      refine TO.sw rfl rfl rfl hb3 rfl rfl (StepS.fld rfl kfieldB_62_1_1_true) ?_
      refine TO.sw rfl rfl rfl hb3 rfl rfl (StepS.ldB rfl (Ent.at 0 rfl) kscalB_3_true rfl) ?_
      refine TO.sw rfl rfl rfl hb3 rfl rfl (StepS.cmp rfl rfl rfl) ?_
      refine TO.s rfl rfl rfl (StepS.pickT rfl hb3 rfl) ?_
      exact TO.up1 6 0 rfl rfl (by rw [hb3]; rfl) rfl
    · refine TO.skip rfl rfl rfl (skipF hb3) rfl rfl ?_
      refine TO.skip rfl rfl rfl (skipF hb3) rfl rfl ?_
      refine TO.skip rfl rfl rfl (skipF hb3) rfl rfl ?_
      refine TO.skip rfl rfl rfl (skipF hb3) rfl rfl ?_
      refine TO.skip rfl rfl rfl (skipF hb3) rfl rfl ?_
      refine TO.s rfl rfl rfl (StepS.pickF rfl hb3 rfl) ?_
      exact TO.up1 6 0 rfl rfl (by rw [hb3]; rfl) rfl
  refine TO.s rfl rfl rfl (StepS.assign rfl) ?_
  refine TO.code ?_
  cases hm
  refine TC.ret fun a w e s => ?_
  refine FRet.mk1 (P := Try.prog) (fn := Try.f44) (t := 4) e rfl rfl ?_
  exact ⟨rfl, s.mono fun _ => Sat.dropN 2⟩

set_option maxRecDepth 100000 in
theorem C17 {B : World} {L : List HP} {a0 : List (Int × Int × Int × Bool × Int)} {h0 : Value} {r0 : Bool} {r1 : Int} (e0 : Ent L (Rd 5 h0 (a0.map cTiiibi))) (hm : F17 a0 = some (r0, r1)) {w : World} (st : St B L w) : Calls Try.prog 17 #[h0] w (fun e w' => (e = .returned (.tuple #[.bool r0, I r1]) ∧ St B (L) w')) := by
  refine calls_of (N := 18) (L := L) (args := [h0]) Try.func17 rfl rfl rfl ?_ st
  dsimp only [F17] at hm
  refine TC.k ?_
  refine TC.region ?_
  refine TO.s rfl rfl rfl (StepS.assign rfl) ?_
  refine TO.s rfl rfl rfl (StepS.assign rfl) ?_
  refine TO.code ?_
  refine TC.k ?_
  refine TC.k ?_
  refine TC.region ?_
  refine TO.s rfl rfl rfl (StepS.move rfl) ?_
  obtain ⟨r1, hc2, hm⟩ := bind_some hm
  refine TO.q rfl rfl rfl (StepQ.call kcallB_15_true rfl rfl (fun _ st => C15 e0 hc2 st)) ?_
  refine TO.s rfl rfl rfl (StepS.assign rfl) ?_
  refine TO.code ?_
  refine TC.k ?_
  refine TC.region ?_
  refine TO.s rfl rfl rfl (StepS.move rfl) ?_
  refine TO.s rfl rfl rfl (StepS.cmp rfl rfl rfl) ?_
  refine TO.code ?_
  refine TC.cond rfl (fun hc3 => ?_) (fun hc3 => ?_)
  · replace hm := cond_t hc3 hm
    refine TC.k ?_
    refine TC.region ?_
    refine TO.s rfl rfl rfl (StepS.move rfl) ?_
    refine TO.s rfl rfl rfl (StepS.assign rfl) ?_
    refine TO.s rfl rfl rfl (StepS.assign rfl) ?_
    refine TO.code ?_
    cases hm
    refine TC.ret fun a w e s => ?_
    refine FRet.mk2 (P := Try.prog) (fn := Try.f17) (t := 2) (u := 3) e rfl rfl rfl ?_
    exact ⟨rfl, s.mono fun _ => Sat.dropN 0⟩
  · replace hm := cond_f hc3 hm
    refine TC.skipk ?_
    refine TC.k ?_
    refine TC.region ?_
    refine TO.s rfl rfl rfl (StepS.move rfl) ?_
    obtain ⟨⟨r4, r5⟩, hc6, hm⟩ := bind_some hm
    refine TO.callO kcallB_43_true rfl rfl rfl (fun _ st => C43 e0 ⟨44, #[], #[], rfl, kcallB_44_true, fun _ hx z r hm w st => C44  hm st⟩ hc6 st) ?_
    rintro _ _ ⟨v7, rfl, rfl⟩
    refine TO.s rfl rfl rfl (StepS.move rfl) ?_
    refine TO.s rfl rfl rfl (StepS.extract rfl rfl) ?_
    refine TO.s rfl rfl rfl (StepS.extract rfl rfl) ?_
    refine TO.s rfl rfl rfl (StepS.assign rfl) ?_
    refine TO.s rfl rfl rfl (StepS.assign rfl) ?_
    refine TO.code ?_
    refine TC.k ?_
    refine TC.region ?_
    refine TO.s rfl rfl rfl (StepS.move rfl) ?_
    refine TO.s rfl rfl rfl (StepS.assign rfl) ?_
    refine TO.s rfl rfl rfl (StepS.assign rfl) ?_
    refine TO.code ?_
    cases hm
    refine TC.ret fun a w e s => ?_
    refine FRet.mk2 (P := Try.prog) (fn := Try.f17) (t := 2) (u := 3) e rfl rfl rfl ?_
    exact ⟨rfl, s.mono fun _ => Sat.dropN 1⟩

set_option maxRecDepth 100000 in
theorem C16 {B : World} {L : List HP} {a0 : List (Int × Int × Int × Bool × Int)} {h0 : Value} {r0 : Int} (e0 : Ent L (Rd 5 h0 (a0.map cTiiibi))) (hm : F16 a0 = some r0) {w : World} (st : St B L w) : Calls Try.prog 16 #[h0] w (fun e w' => (e = .returned (I r0) ∧ St B (L) w')) := by
  refine calls_of (N := 65) (L := L) (args := [h0]) Try.func16 rfl rfl rfl ?_ st
  dsimp only [F16] at hm
  refine TC.k ?_
  refine TC.region ?_
  refine TO.s rfl rfl rfl (StepS.assign rfl) ?_
  refine TO.code ?_
  refine TC.k ?_
  refine TC.k ?_
  refine TC.region ?_
  refine TO.s rfl rfl rfl (StepS.move rfl) ?_
  refine TO.s rfl rfl rfl (StepS.lenm rfl e0 ksliceB_22_62_5_true rfl) ?_
  refine TO.s rfl rfl rfl (StepS.cmp rfl rfl rfl) ?_
  refine TO.code ?_
  refine TC.cond rfl (fun hc1 => ?_) (fun hc1 => ?_)
  · replace hm := cond_t hc1 hm
    refine TC.k ?_
    refine TC.region ?_
    refine TO.s rfl rfl rfl (StepS.assign rfl) ?_
    refine TO.code ?_
    cases hm
    refine TC.ret fun a w e s => ?_
    refine FRet.mk1 (P := Try.prog) (fn := Try.f16) (t := 2) e rfl rfl ?_
    exact ⟨rfl, s.mono fun _ => Sat.dropN 0⟩
  · replace hm := cond_f hc1 hm
    refine TC.skipk ?_
    refine TC.k ?_
    refine TC.k ?_
    refine TC.region ?_
    refine TO.s rfl rfl rfl (StepS.move rfl) ?_
    refine TO.s rfl rfl rfl (StepS.lenm rfl e0 ksliceB_22_62_5_true rfl) ?_
    refine TO.s rfl rfl rfl (StepS.move rfl) ?_
    refine TO.code ?_
    obtain ⟨o4, hw5, hm⟩ := bind_some hm
    refine TC.loop hw5 (fun x2 => fun a w => Mid 65 B [(0, h0), (12, h0), (13, I (a0.length : Int)), (14, I x2)] (L) a w) (fun _ => fun a w => Mid 65 B [(0, h0)] (L) a w) (fun r0 => FRet Try.prog Try.f16 (fun e w' => (e = .returned (I r0) ∧ St B (L) w'))) ?_ ?_ ?_ ?_
    · rintro x2 o4r hb6 a w ⟨he, hs⟩
      dsimp only [F16_L0] at hb6
      refine TC.use ?_ he hs
      refine TC.k ?_
      refine TC.region ?_
      refine TO.s rfl rfl rfl (StepS.cmp rfl rfl rfl) ?_
      refine TO.code ?_
      refine TC.k ?_
      refine TC.cond rfl (fun hc7 => ?_) (fun hc7 => ?_)
      · replace hb6 := cond_t hc7 hb6
        refine TC.skipk ?_
        refine TC.k ?_
        refine TC.block ?_
        refine TC.k ?_
        refine TC.region ?_
        obtain ⟨x8, hx9, hb6⟩ := bind_some hb6
        refine TO.s rfl rfl rfl (StepS.idx rfl rfl e0 ksliceB_22_62_5_true (idx_spec hx9).1 (idxm_lt hx9)) ?_
        refine TO.s rfl rfl rfl (StepS.ldE rfl e0 kaggB_62_5_true rfl (idxm hx9)) ?_
        refine TO.alloc kinfo_62_bind_zero_some_agg_I_0_I_0_I_0_bool_false_I_0 rfl rfl fun b10 => ?_
        refine TO.stB (us := [I x8.1, I x8.2.1, I x8.2.2.1, .bool x8.2.2.2.1, I x8.2.2.2.2]) 0 [I x8.1, I x8.2.1, I x8.2.2.1, .bool x8.2.2.2.1, I x8.2.2.2.2] rfl rfl rfl ksizeB_62_5_true rfl rfl rfl (by simp [Value.oneCell']) rfl ?_
        refine TO.code ?_
        refine TC.k ?_
        refine TC.region ?_
        refine TO.s rfl rfl rfl (StepS.fld rfl kfieldB_62_2_2_true) ?_
        refine TO.s rfl rfl rfl (StepS.ldB rfl (Ent.at 0 rfl) kscalB_3_true rfl) ?_
        refine TO.s rfl rfl rfl (StepS.fld rfl kfieldB_62_1_1_true) ?_
        refine TO.s rfl rfl rfl (StepS.ldB rfl (Ent.at 0 rfl) kscalB_3_true rfl) ?_
        refine TO.s rfl rfl rfl (StepS.cmp rfl rfl rfl) ?_
        refine TO.code ?_
        refine TC.cond rfl (fun hc11 => ?_) (fun hc11 => ?_)
        · replace hb6 := cond_t hc11 hb6
          refine TC.k ?_
          refine TC.region ?_
          refine TO.s rfl rfl rfl (StepS.assign rfl) ?_
          refine TO.code ?_
          cases hb6
          refine TC.ret fun a w e s => ?_
          refine FRet.mk1 (P := Try.prog) (fn := Try.f16) (t := 2) e rfl rfl ?_
          exact ⟨rfl, s.mono fun _ => Sat.dropN 1⟩
        · replace hb6 := cond_f hc11 hb6
          refine TC.skipk ?_
          refine TC.region ?_
          refine TO.s rfl rfl rfl (StepS.ari rfl rfl rfl) ?_
          refine TO.s rfl rfl rfl (StepS.move rfl) ?_
          cases hb6
          refine TO.nil fun a w e s => ?_
          exact ⟨e.sub (lk_of_allIn ⟨rfl, rfl, rfl, rfl, trivial⟩), s.mono fun _ => Sat.dropN 1⟩
      · replace hb6 := cond_f hc7 hb6
        cases hb6
        refine TC.exit rfl fun a w e s => ?_
        exact ⟨e.sub (lk_of_allIn ⟨rfl, trivial⟩), s⟩
    · exact fun a w e s => ⟨e.sub (lk_of_allIn ⟨rfl, rfl, rfl, rfl, trivial⟩), s⟩
    · rintro _ rfl a w ⟨he, hs⟩
      dsimp only [Ctl.on] at hm
      refine TC.use ?_ he hs
      refine TC.k ?_
      refine TC.k ?_
      refine TC.region ?_
      refine TO.s rfl rfl rfl (StepS.move rfl) ?_
      refine TO.s rfl rfl rfl (StepS.lenm rfl e0 ksliceB_22_62_5_true rfl) ?_
      refine TO.s rfl rfl rfl (StepS.move rfl) ?_
      refine TO.code ?_
      obtain ⟨o14, hw15, hm⟩ := bind_some hm
      refine TC.loop hw15 (fun x12 => fun a w => Mid 65 B [(0, h0), (24, h0), (25, I (a0.length : Int)), (26, I x12)] (L) a w) (fun _ => fun a w => Mid 65 B [] (L) a w) (fun r0 => FRet Try.prog Try.f16 (fun e w' => (e = .returned (I r0) ∧ St B (L) w'))) ?_ ?_ ?_ ?_
      · rintro x12 o14r hb16 a w ⟨he, hs⟩
        dsimp only [F16_L1] at hb16
        refine TC.use ?_ he hs
        refine TC.k ?_
        refine TC.region ?_
        refine TO.s rfl rfl rfl (StepS.cmp rfl rfl rfl) ?_
        refine TO.code ?_
        refine TC.k ?_
        refine TC.cond rfl (fun hc17 => ?_) (fun hc17 => ?_)
        · replace hb16 := cond_t hc17 hb16
          refine TC.skipk ?_
          refine TC.k ?_
          refine TC.block ?_
          refine TC.k ?_
          refine TC.region ?_
          refine TO.s rfl rfl rfl (StepS.move rfl) ?_
          obtain ⟨x18, hx19, hb16⟩ := bind_some hb16
          refine TO.s rfl rfl rfl (StepS.idx rfl rfl e0 ksliceB_22_62_5_true (idx_spec hx19).1 (idxm_lt hx19)) ?_
          refine TO.s rfl rfl rfl (StepS.ldE rfl e0 kaggB_62_5_true rfl (idxm hx19)) ?_
          refine TO.alloc kinfo_62_bind_zero_some_agg_I_0_I_0_I_0_bool_false_I_0 rfl rfl fun b20 => ?_
          refine TO.s rfl rfl rfl (StepS.assign rfl) ?_
          refine TO.stB (us := [I x18.1, I x18.2.1, I x18.2.2.1, .bool x18.2.2.2.1, I x18.2.2.2.2]) 0 [I x18.1, I x18.2.1, I x18.2.2.1, .bool x18.2.2.2.1, I x18.2.2.2.2] rfl rfl rfl ksizeB_62_5_true rfl rfl rfl (by simp [Value.oneCell']) rfl ?_
          refine TO.code ?_
          refine TC.k ?_
          refine TC.region ?_
          refine TO.s rfl rfl rfl (StepS.move rfl) ?_
          refine TO.s rfl rfl rfl (StepS.lenm rfl e0.tl ksliceB_22_62_5_true rfl) ?_
          refine TO.s rfl rfl rfl (StepS.move rfl) ?_
          refine TO.code ?_
          obtain ⟨o23, hw24, hb16⟩ := bind_some hb16
          refine TC.loop hw24 (fun x21 => fun a w => Mid 65 B [(0, h0), (5, I x12), (6, .pointer (some ⟨b20, 0, none⟩)), (24, h0), (25, I (a0.length : Int)), (26, I x12), (31, h0), (32, I (a0.length : Int)), (33, I x21)] (Bx b20 62 [I x18.1, I x18.2.1, I x18.2.2.1, .bool x18.2.2.2.1, I x18.2.2.2.2] :: L) a w) (fun _ => fun a w => Mid 65 B [(0, h0), (24, h0), (25, I (a0.length : Int)), (26, I x12)] (Bx b20 62 [I x18.1, I x18.2.1, I x18.2.2.1, .bool x18.2.2.2.1, I x18.2.2.2.2] :: L) a w) (fun r0 => FRet Try.prog Try.f16 (fun e w' => (e = .returned (I r0) ∧ St B (L) w'))) ?_ ?_ ?_ ?_
          · rintro x21 o23r hb25 a w ⟨he, hs⟩
            dsimp only [F16_L2] at hb25
            refine TC.use ?_ he hs
            refine TC.k ?_
            refine TC.region ?_
            refine TO.s rfl rfl rfl (StepS.cmp rfl rfl rfl) ?_
            refine TO.code ?_
            refine TC.k ?_
            refine TC.cond rfl (fun hc26 => ?_) (fun hc26 => ?_)
            · replace hb25 := cond_t hc26 hb25
              refine TC.skipk ?_
              refine TC.k ?_
              refine TC.block ?_
              refine TC.k ?_
              refine TC.region ?_
              refine TO.s rfl rfl rfl (StepS.move rfl) ?_
              obtain ⟨x27, hx28, hb25⟩ := bind_some hb25
              refine TO.s rfl rfl rfl (StepS.idx rfl rfl e0.tl ksliceB_22_62_5_true (idx_spec hx28).1 (idxm_lt hx28)) ?_
              refine TO.s rfl rfl rfl (StepS.ldE rfl e0.tl kaggB_62_5_true rfl (idxm hx28)) ?_
              refine TO.alloc kinfo_62_bind_zero_some_agg_I_0_I_0_I_0_bool_false_I_0 rfl rfl fun b29 => ?_
              refine TO.s rfl rfl rfl (StepS.assign rfl) ?_
              refine TO.stB (us := [I x27.1, I x27.2.1, I x27.2.2.1, .bool x27.2.2.2.1, I x27.2.2.2.2]) 0 [I x27.1, I x27.2.1, I x27.2.2.1, .bool x27.2.2.2.1, I x27.2.2.2.2] rfl rfl rfl ksizeB_62_5_true rfl rfl rfl (by simp [Value.oneCell']) rfl ?_
              refine TO.code ?_
              refine TC.k ?_
              refine TC.region ?_
              refine TO.s rfl rfl rfl (StepS.move rfl) ?_
              refine TO.s rfl rfl rfl (StepS.move rfl) ?_
              refine TO.s rfl rfl rfl (StepS.cmp rfl rfl rfl) ?_
              refine TO.s rfl rfl rfl (StepS.move rfl) ?_
              refine TO.mid1 6 47 (.bool ((x12 != x21) && (x18.1 == x27.1))) ?_ ?_
              · refine bcase ((x12 != x21)) (fun hb30 => ?_) (fun hb30 => ?_)
                · refine TO.sw rfl rfl rfl hb30 rfl rfl (StepS.fld rfl kfieldB_62_0_0_true) ?_
                  refine TO.sw rfl rfl rfl hb30 rfl rfl (StepS.ldB rfl (Ent.at 1 rfl) kscalB_3_true rfl) ?_
                  refine TO.sw rfl rfl rfl hb30 rfl rfl (StepS.fld rfl kfieldB_62_0_0_true) ?_
                  refine TO.sw rfl rfl rfl hb30 rfl rfl (StepS.ldB rfl (Ent.at 0 rfl) kscalB_3_true rfl) ?_
                  refine TO.sw rfl rfl rfl hb30 rfl rfl (StepS.cmp rfl rfl rfl) ?_
                  refine TO.s rfl rfl rfl (StepS.pickT rfl hb30 rfl) ?_
                  exact TO.up1 6 0 rfl rfl (by rw [hb30]; rfl) rfl
                · refine TO.skip rfl rfl rfl (skipF hb30) rfl rfl ?_
                  refine TO.skip rfl rfl rfl (skipF hb30) rfl rfl ?_
                  refine TO.skip rfl rfl rfl (skipF hb30) rfl rfl ?_
                  refine TO.skip rfl rfl rfl (skipF hb30) rfl rfl ?_
                  refine TO.skip rfl rfl rfl (skipF hb30) rfl rfl ?_
                  refine TO.s rfl rfl rfl (StepS.pickF rfl hb30 rfl) ?_
                  exact TO.up1 6 0 rfl rfl (by rw [hb30]; rfl) rfl
              refine TO.s rfl rfl rfl (StepS.move rfl) ?_
              refine TO.mid1 14 62 (.bool (((x12 != x21) && (x18.1 == x27.1)) && (!((decide (x18.2.2.1 ≤ x27.2.1)) || (decide (x27.2.2.1 ≤ x18.2.1)))))) ?_ ?_
              · refine bcase (((x12 != x21) && (x18.1 == x27.1))) (fun hb31 => ?_) (fun hb31 => ?_)
                · refine TO.sw rfl rfl rfl hb31 rfl rfl (StepS.fld rfl kfieldB_62_2_2_true) ?_
                  refine TO.sw rfl rfl rfl hb31 rfl rfl (StepS.ldB rfl (Ent.at 1 rfl) kscalB_3_true rfl) ?_
                  refine TO.sw rfl rfl rfl hb31 rfl rfl (StepS.fld rfl kfieldB_62_1_1_true) ?_
                  refine TO.sw rfl rfl rfl hb31 rfl rfl (StepS.ldB rfl (Ent.at 0 rfl) kscalB_3_true rfl) ?_
                  refine TO.sw rfl rfl rfl hb31 rfl rfl (StepS.cmp rfl rfl rfl) ?_
                  refine TO.sw rfl rfl rfl hb31 rfl rfl (StepS.move rfl) ?_
                  refine TO.mid1 6 60 (.bool ((decide (x18.2.2.1 ≤ x27.2.1)) || (decide (x27.2.2.1 ≤ x18.2.1)))) ?_ ?_
                  · refine bcase ((decide (x18.2.2.1 ≤ x27.2.1))) (fun hb32 => ?_) (fun hb32 => ?_)
                    · refine TO.skip rfl rfl rfl (skipT hb32) rfl rfl ?_
                      refine TO.skip rfl rfl rfl (skipT hb32) rfl rfl ?_
                      refine TO.skip rfl rfl rfl (skipT hb32) rfl rfl ?_
                      refine TO.skip rfl rfl rfl (skipT hb32) rfl rfl ?_
                      refine TO.skip rfl rfl rfl (skipT hb32) rfl rfl ?_
                      refine TO.sw rfl rfl rfl hb31 rfl rfl (StepS.pickT rfl hb32 rfl) ?_
                      exact TO.up1 6 0 rfl rfl (by rw [hb32]; rfl) rfl
                    · refine TO.sw rfl rfl rfl hb32 rfl rfl (StepS.fld rfl kfieldB_62_2_2_true) ?_
                      refine TO.sw rfl rfl rfl hb32 rfl rfl (StepS.ldB rfl (Ent.at 0 rfl) kscalB_3_true rfl) ?_
                      refine TO.sw rfl rfl rfl hb32 rfl rfl (StepS.fld rfl kfieldB_62_1_1_true) ?_
                      refine TO.sw rfl rfl rfl hb32 rfl rfl (StepS.ldB rfl (Ent.at 1 rfl) kscalB_3_true rfl) ?_
                      refine TO.sw rfl rfl rfl hb32 rfl rfl (StepS.cmp rfl rfl rfl) ?_
                      refine TO.sw rfl rfl rfl hb31 rfl rfl (StepS.pickF rfl hb32 rfl) ?_
                      exact TO.up1 6 0 rfl rfl (by rw [hb32]; rfl) rfl
                  refine TO.sw rfl rfl rfl hb31 rfl rfl (StepS.not rfl) ?_
                  refine TO.s rfl rfl rfl (StepS.pickT rfl hb31 rfl) ?_
                  exact TO.up1 9 0 rfl rfl (by rw [hb31]; rfl) rfl
                · refine TO.skip rfl rfl rfl (skipF hb31) rfl rfl ?_
                  refine TO.skip rfl rfl rfl (skipF hb31) rfl rfl ?_
                  refine TO.skip rfl rfl rfl (skipF hb31) rfl rfl ?_
                  refine TO.skip rfl rfl rfl (skipF hb31) rfl rfl ?_
                  refine TO.skip rfl rfl rfl (skipF hb31) rfl rfl ?_
                  refine TO.skip rfl rfl rfl (skipF hb31) rfl rfl ?_
                  refine TO.skip rfl rfl rfl skipU rfl rfl ?_
                  refine TO.skip rfl rfl rfl skipU rfl rfl ?_
                  refine TO.skip rfl rfl rfl skipU rfl rfl ?_
                  refine TO.skip rfl rfl rfl skipU rfl rfl ?_
                  refine TO.skip rfl rfl rfl skipU rfl rfl ?_
                  refine TO.skip rfl rfl rfl (skipF hb31) rfl rfl ?_
                  refine TO.skip rfl rfl rfl (skipF hb31) rfl rfl ?_
                  refine TO.s rfl rfl rfl (StepS.pickF rfl hb31 rfl) ?_
                  exact TO.up1 14 0 rfl rfl (by rw [hb31]; rfl) rfl
              refine TO.code ?_
              refine TC.cond rfl (fun hc33 => ?_) (fun hc33 => ?_)
              · replace hb25 := cond_t hc33 hb25
                refine TC.k ?_
                refine TC.region ?_
                refine TO.s rfl rfl rfl (StepS.assign rfl) ?_
                refine TO.code ?_
                cases hb25
                refine TC.ret fun a w e s => ?_
                refine FRet.mk1 (P := Try.prog) (fn := Try.f16) (t := 2) e rfl rfl ?_
                exact ⟨rfl, s.mono fun _ => Sat.dropN 2⟩
              · replace hb25 := cond_f hc33 hb25
                refine TC.skipk ?_
                refine TC.region ?_
                refine TO.s rfl rfl rfl (StepS.ari rfl rfl rfl) ?_
                refine TO.s rfl rfl rfl (StepS.move rfl) ?_
                cases hb25
                refine TO.nil fun a w e s => ?_
                exact ⟨e.sub (lk_of_allIn ⟨rfl, rfl, rfl, rfl, rfl, rfl, rfl, rfl, rfl, trivial⟩), s.mono fun _ => Sat.dropN 1⟩
            · replace hb25 := cond_f hc26 hb25
              cases hb25
              refine TC.exit rfl fun a w e s => ?_
              exact ⟨e.sub (lk_of_allIn ⟨rfl, rfl, rfl, rfl, trivial⟩), s⟩
          · exact fun a w e s => ⟨e.sub (lk_of_allIn ⟨rfl, rfl, rfl, rfl, rfl, rfl, rfl, rfl, rfl, trivial⟩), s⟩
          · rintro _ rfl a w ⟨he, hs⟩
            dsimp only [Ctl.on] at hb16
            refine TC.use ?_ he hs
            refine TC.region ?_
            refine TO.s rfl rfl rfl (StepS.ari rfl rfl rfl) ?_
            refine TO.s rfl rfl rfl (StepS.move rfl) ?_
            cases hb16
            refine TO.nil fun a w e s => ?_
            exact ⟨e.sub (lk_of_allIn ⟨rfl, rfl, rfl, rfl, trivial⟩), s.mono fun _ => Sat.dropN 1⟩
          · rintro r rfl
            cases hb16
            exact fun a w h => h
        · replace hb16 := cond_f hc17 hb16
          cases hb16
          refine TC.exit rfl fun a w e s => ?_
          exact ⟨e.sub (lk_of_allIn trivial), s⟩
      · exact fun a w e s => ⟨e.sub (lk_of_allIn ⟨rfl, rfl, rfl, rfl, trivial⟩), s⟩
      · rintro _ rfl a w ⟨he, hs⟩
        dsimp only [Ctl.on] at hm
        refine TC.use ?_ he hs
        refine TC.k ?_
        refine TC.region ?_
        refine TO.s rfl rfl rfl (StepS.assign rfl) ?_
        refine TO.code ?_
        cases hm
        refine TC.ret fun a w e s => ?_
        refine FRet.mk1 (P := Try.prog) (fn := Try.f16) (t := 2) e rfl rfl ?_
        exact ⟨rfl, s.mono fun _ => Sat.dropN 0⟩
      · rintro r rfl
        cases hm
        exact fun a w h => h
    · rintro r rfl
      cases hm
      exact fun a w h => h

set_option maxRecDepth 100000 in
theorem C45 {B : World} {L : List HP} {a0 : List Int} {a1 : Int} {h0 : Value} {r0 : Bool} (e0 : Ent L (Rd 1 h0 (a0.map cI))) (hm : F45 a0 a1 = some r0) {w : World} (st : St B L w) : Calls Try.prog 45 #[h0, I a1] w (fun e w' => (e = .returned (.bool r0) ∧ St B (L) w')) := by
  refine calls_of (N := 17) (L := L) (args := [h0, I a1]) Try.func45 rfl rfl rfl ?_ st
  dsimp only [F45] at hm
  refine TC.k ?_
  refine TC.region ?_
  refine TO.s rfl rfl rfl (StepS.assign rfl) ?_
  refine TO.code ?_
  refine TC.k ?_
  refine TC.k ?_
  refine TC.region ?_
  refine TO.s rfl rfl rfl (StepS.move rfl) ?_
  refine TO.s rfl rfl rfl (StepS.lenm rfl e0 ksliceB_28_3_1_true rfl) ?_
  refine TO.s rfl rfl rfl (StepS.move rfl) ?_
  refine TO.code ?_
  obtain ⟨o3, hw4, hm⟩ := bind_some hm
  refine TC.loop hw4 (fun x1 => fun a w => Mid 17 B [(1, I a1), (7, h0), (8, I (a0.length : Int)), (9, I x1)] (L) a w) (fun _ => fun a w => Mid 17 B [] (L) a w) (fun r0 => FRet Try.prog Try.f45 (fun e w' => (e = .returned (.bool r0) ∧ St B (L) w'))) ?_ ?_ ?_ ?_
  · rintro x1 o3r hb5 a w ⟨he, hs⟩
    dsimp only [F45_L0] at hb5
    refine TC.use ?_ he hs
    refine TC.k ?_
    refine TC.region ?_
    refine TO.s rfl rfl rfl (StepS.cmp rfl rfl rfl) ?_
    refine TO.code ?_
    refine TC.k ?_
    refine TC.cond rfl (fun hc6 => ?_) (fun hc6 => ?_)
    · replace hb5 := cond_t hc6 hb5
      refine TC.skipk ?_
      refine TC.k ?_
      refine TC.block ?_
      refine TC.k ?_
      refine TC.region ?_
      obtain ⟨x7, hx8, hb5⟩ := bind_some hb5
      refine TO.s rfl rfl rfl (StepS.idx rfl rfl e0 ksliceB_28_3_1_true (idx_spec hx8).1 (idxm_lt hx8)) ?_
      refine TO.s rfl rfl rfl (StepS.ld0 rfl e0 kscalB_3_true rfl (idxm hx8) rfl) ?_
      refine TO.s rfl rfl rfl (StepS.assign rfl) ?_
      refine TO.code ?_
      refine TC.k ?_
      refine TC.region ?_
      refine TO.s rfl rfl rfl (StepS.move rfl) ?_
      refine TO.s rfl rfl rfl (StepS.move rfl) ?_
      refine TO.s rfl rfl rfl (StepS.cmp rfl rfl rfl) ?_
      refine TO.code ?_
      refine TC.cond rfl (fun hc9 => ?_) (fun hc9 => ?_)
      · replace hb5 := cond_t hc9 hb5
        refine TC.k ?_
        refine TC.region ?_
        refine TO.s rfl rfl rfl (StepS.assign rfl) ?_
        refine TO.code ?_
        cases hb5
        refine TC.ret fun a w e s => ?_
        refine FRet.mk1 (P := Try.prog) (fn := Try.f45) (t := 4) e rfl rfl ?_
        exact ⟨rfl, s.mono fun _ => Sat.dropN 0⟩
      · replace hb5 := cond_f hc9 hb5
        refine TC.skipk ?_
        refine TC.region ?_
        refine TO.s rfl rfl rfl (StepS.ari rfl rfl rfl) ?_
        refine TO.s rfl rfl rfl (StepS.move rfl) ?_
        cases hb5
        refine TO.nil fun a w e s => ?_
        exact ⟨e.sub (lk_of_allIn ⟨rfl, rfl, rfl, rfl, trivial⟩), s⟩
    · replace hb5 := cond_f hc6 hb5
      cases hb5
      refine TC.exit rfl fun a w e s => ?_
      exact ⟨e.sub (lk_of_allIn trivial), s⟩
  · exact fun a w e s => ⟨e.sub (lk_of_allIn ⟨rfl, rfl, rfl, rfl, trivial⟩), s⟩
  · rintro _ rfl a w ⟨he, hs⟩
    dsimp only [Ctl.on] at hm
    refine TC.use ?_ he hs
    refine TC.k ?_
    refine TC.region ?_
    refine TO.s rfl rfl rfl (StepS.assign rfl) ?_
    refine TO.code ?_
    cases hm
    refine TC.ret fun a w e s => ?_
    refine FRet.mk1 (P := Try.prog) (fn := Try.f45) (t := 4) e rfl rfl ?_
    exact ⟨rfl, s.mono fun _ => Sat.dropN 0⟩
  · rintro r rfl
    cases hm
    exact fun a w h => h

set_option maxRecDepth 100000 in
theorem C18_B {B : World} (rec18 : (List (Int × Int × Int × Bool × Int)) → (List Int) → Bool → Option ((List Int) × Bool)) (ih : ∀ {L : List HP} {a0 : List (Int × Int × Int × Bool × Int)} {a1 : List Int} {a2 : Bool} {h0 : Value} {h1 : Value} {r0 : List Int} {r1 : Bool} (e0 : Ent L (Rd 5 h0 (a0.map cTiiibi))) (e1 : Ent L (Rd 1 h1 (a1.map cI))) (hm : rec18 a0 a1 a2 = some (r0, r1)) {w : World} (st : St B L w), Calls Try.prog 18 #[h0, h1, .bool a2] w (fun e w' => ∃ v M, e = .returned v ∧ (∃ (qv1 : Value) (qA2 : HP) (qea3 : Ent (qA2 :: L) (Rd 1 qv1 (r0.map cI))), v = .tuple #[qv1, .bool r1] ∧ M = (qA2 :: L)) ∧ St B M w')) {L : List HP} {a0 : List (Int × Int × Int × Bool × Int)} {a1 : List Int} {a2 : Bool} {h0 : Value} {h1 : Value} {r0 : List Int} {r1 : Bool} (e0 : Ent L (Rd 5 h0 (a0.map cTiiibi))) (e1 : Ent L (Rd 1 h1 (a1.map cI))) (hm : F18_B rec18 a0 a1 a2 = some (r0, r1)) {w : World} (st : St B L w) : Calls Try.prog 18 #[h0, h1, .bool a2] w (fun e w' => ∃ v M, e = .returned v ∧ (∃ (qv1 : Value) (qA2 : HP) (qea3 : Ent (qA2 :: L) (Rd 1 qv1 (r0.map cI))), v = .tuple #[qv1, .bool r1] ∧ M = (qA2 :: L)) ∧ St B M w') := by
  refine calls_of (N := 119) (L := L) (args := [h0, h1, .bool a2]) Try.func18 rfl rfl rfl ?_ st
  dsimp only [F18_B] at hm
  refine TC.k ?_
  refine TC.region ?_
  refine TO.s rfl rfl rfl (StepS.assign rfl) ?_
  refine TO.s rfl rfl rfl (StepS.assign rfl) ?_
  refine TO.code ?_
  refine TC.k ?_
  refine TC.region ?_
  refine TO.s rfl rfl rfl (StepS.assign rfl) ?_
  refine TO.code ?_
  refine TC.k ?_
  refine TC.k ?_
  refine TC.region ?_
  refine TO.s rfl rfl rfl (StepS.move rfl) ?_
  refine TO.s rfl rfl rfl (StepS.lenm rfl e1 ksliceB_28_3_1_true rfl) ?_
  refine TO.s rfl rfl rfl (StepS.move rfl) ?_
  refine TO.code ?_
  obtain ⟨o7, hw8, hm⟩ := bind_some hm
  refine TC.loop hw8 (fun (x2, x3) => fun a w => Mid 119 B [(0, h0), (1, h1), (2, .bool a2), (8, I x2), (18, h1), (19, I (a1.length : Int)), (20, I x3)] (L) a w) (fun x6 => fun a w => Mid 119 B [(0, h0), (1, h1), (2, .bool a2), (8, I x6)] (L) a w) (fun (_ : Unit) _ _ => False) ?_ ?_ ?_ ?_
  · rintro ⟨x2, x3⟩ o7r hb9 a w ⟨he, hs⟩
    dsimp only [F18_L0] at hb9
    refine TC.use ?_ he hs
    refine TC.k ?_
    refine TC.region ?_
    refine TO.s rfl rfl rfl (StepS.cmp rfl rfl rfl) ?_
    refine TO.code ?_
    refine TC.k ?_
    refine TC.cond rfl (fun hc10 => ?_) (fun hc10 => ?_)
    · replace hb9 := cond_t hc10 hb9
      refine TC.skipk ?_
      refine TC.k ?_
      obtain ⟨x11, hj12, hb9⟩ := bind_some hb9
      first | refine TC.cutM (fun a w => Mid 119 B [(0, h0), (1, h1), (2, .bool a2), (8, I x11), (18, h1), (19, I (a1.length : Int)), (20, I x3)] (L) a w) ?_ ?_ | refine TC.cutX (fun a w => Mid 119 B [(0, h0), (1, h1), (2, .bool a2), (8, I x11), (18, h1), (19, I (a1.length : Int)), (20, I x3)] (L) a w) ?_ ?_
      · refine TC.block ?_
        refine TC.k ?_
        refine TC.region ?_
        obtain ⟨x13, hx14, hj12⟩ := bind_some hj12
        refine TO.s rfl rfl rfl (StepS.idx rfl rfl e1 ksliceB_28_3_1_true (idx_spec hx14).1 (idxm_lt hx14)) ?_
        refine TO.s rfl rfl rfl (StepS.ld0 rfl e1 kscalB_3_true rfl (idxm hx14) rfl) ?_
        refine TO.s rfl rfl rfl (StepS.assign rfl) ?_
        refine TO.code ?_
        refine TC.k ?_
        refine TC.region ?_
        refine TO.s rfl rfl rfl (StepS.move rfl) ?_
        refine TO.s rfl rfl rfl (StepS.move rfl) ?_
        obtain ⟨x15, hx16, hj12⟩ := bind_some hj12
        refine TO.s rfl rfl rfl (StepS.idx rfl rfl e0 ksliceB_22_62_5_true (idx_spec hx16).1 (idxm_lt hx16)) ?_
        refine TO.s rfl rfl rfl (StepS.ptrf rfl kfieldB_62_3_3_true) ?_
        refine TO.s rfl rfl rfl (StepS.ld1 rfl e0 kscalB_4_true rfl (idxm hx16) rfl) ?_
        refine TO.code ?_
        refine TC.cond rfl (fun hc17 => ?_) (fun hc17 => ?_)
        · replace hj12 := cond_t hc17 hj12
          refine TC.region ?_
          refine TO.s rfl rfl rfl (StepS.move rfl) ?_
          refine TO.s rfl rfl rfl (StepS.move rfl) ?_
          obtain ⟨x18, hx19, hj12⟩ := bind_some hj12
          refine TO.s rfl rfl rfl (StepS.idx rfl rfl e0 ksliceB_22_62_5_true (idx_spec hx19).1 (idxm_lt hx19)) ?_
          refine TO.s rfl rfl rfl (StepS.ptrf rfl kfieldB_62_4_4_true) ?_
          refine TO.s rfl rfl rfl (StepS.ld1 rfl e0 kscalB_3_true rfl (idxm hx19) rfl) ?_
          refine TO.s rfl rfl rfl (StepS.assign rfl) ?_
          cases hj12
          refine TO.nil fun a w e s => ?_
          exact ⟨e.sub (lk_of_allIn ⟨rfl, rfl, rfl, rfl, rfl, rfl, rfl, trivial⟩), s⟩
        · replace hj12 := cond_f hc17 hj12
          cases hj12
          refine TC.skip fun a w e s => ?_
          exact ⟨e.sub (lk_of_allIn ⟨rfl, rfl, rfl, rfl, rfl, rfl, rfl, trivial⟩), s⟩
      · intro a w ⟨he, hs⟩
        refine TC.use ?_ he hs
        refine TC.region ?_
        refine TO.s rfl rfl rfl (StepS.ari rfl rfl rfl) ?_
        refine TO.s rfl rfl rfl (StepS.move rfl) ?_
        cases hb9
        refine TO.nil fun a w e s => ?_
        exact ⟨e.sub (lk_of_allIn ⟨rfl, rfl, rfl, rfl, rfl, rfl, rfl, trivial⟩), s⟩
    · replace hb9 := cond_f hc10 hb9
      cases hb9
      refine TC.exit rfl fun a w e s => ?_
      exact ⟨e.sub (lk_of_allIn ⟨rfl, rfl, rfl, rfl, trivial⟩), s⟩
  · exact fun a w e s => ⟨e.sub (lk_of_allIn ⟨rfl, rfl, rfl, rfl, rfl, rfl, rfl, trivial⟩), s⟩
  · rintro x6 rfl a w ⟨he, hs⟩
    dsimp only [Ctl.on] at hm
    refine TC.use ?_ he hs
    refine TC.k ?_
    refine TC.k ?_
    refine TC.region ?_
    refine TO.s rfl rfl rfl (StepS.move rfl) ?_
    refine TO.s rfl rfl rfl (StepS.lenm rfl e1 ksliceB_28_3_1_true rfl) ?_
    refine TO.s rfl rfl rfl (StepS.move rfl) ?_
    refine TO.s rfl rfl rfl (StepS.lenm rfl e0 ksliceB_22_62_5_true rfl) ?_
    refine TO.s rfl rfl rfl (StepS.cmp rfl rfl rfl) ?_
    refine TO.code ?_
    refine TC.cond rfl (fun hc20 => ?_) (fun hc20 => ?_)
    · replace hm := cond_t hc20 hm
      refine TC.k ?_
      refine TC.region ?_
      refine TO.s rfl rfl rfl (StepS.move rfl) ?_
      refine TO.s rfl rfl rfl (StepS.assign rfl) ?_
      refine TO.s rfl rfl rfl (StepS.assign rfl) ?_
      refine TO.code ?_
      cases hm
      refine TC.ret fun a w e s => ?_
      refine FRet.mk2 (P := Try.prog) (fn := Try.f18) (t := 6) (u := 7) e rfl rfl rfl ?_
      exact ⟨_, _, rfl, ⟨h1, G [], Ent.gather (M := []) e1, rfl, rfl⟩, s.mono fun _ s => Sat.gather (M := []) s⟩
    · replace hm := cond_f hc20 hm
      refine TC.skipk ?_
      refine TC.k ?_
      refine TC.k ?_
      refine TC.region ?_
      refine TO.s rfl rfl rfl (StepS.move rfl) ?_
      refine TO.s rfl rfl rfl (StepS.lenm rfl e0 ksliceB_22_62_5_true rfl) ?_
      refine TO.s rfl rfl rfl (StepS.move rfl) ?_
      refine TO.code ?_
      obtain ⟨o23, hw24, hm⟩ := bind_some hm
      refine TC.loop hw24 (fun x21 => fun a w => Mid 119 B [(0, h0), (1, h1), (2, .bool a2), (8, I x6), (41, h0), (42, I (a0.length : Int)), (43, I x21)] (L) a w) (fun _ => fun a w => Mid 119 B [] (L) a w) (fun (r0, r1) => FRet Try.prog Try.f18 (fun e w' => ∃ v M, e = .returned v ∧ (∃ (qv1 : Value) (qA2 : HP) (qea3 : Ent (qA2 :: L) (Rd 1 qv1 (r0.map cI))), v = .tuple #[qv1, .bool r1] ∧ M = (qA2 :: L)) ∧ St B M w')) ?_ ?_ ?_ ?_
      · rintro x21 o23r hb25 a w ⟨he, hs⟩
        dsimp only [F18_L1] at hb25
        refine TC.use ?_ he hs
        refine TC.k ?_
        refine TC.region ?_
        refine TO.s rfl rfl rfl (StepS.cmp rfl rfl rfl) ?_
        refine TO.code ?_
        refine TC.k ?_
        refine TC.cond rfl (fun hc26 => ?_) (fun hc26 => ?_)
        · replace hb25 := cond_t hc26 hb25
          refine TC.skipk ?_
          refine TC.k ?_
          refine TC.block ?_
          refine TC.k ?_
          refine TC.region ?_
          refine TO.s rfl rfl rfl (StepS.move rfl) ?_
          obtain ⟨x27, hx28, hb25⟩ := bind_some hb25
          refine TO.s rfl rfl rfl (StepS.idx rfl rfl e0 ksliceB_22_62_5_true (idx_spec hx28).1 (idxm_lt hx28)) ?_
          refine TO.s rfl rfl rfl (StepS.ldE rfl e0 kaggB_62_5_true rfl (idxm hx28)) ?_
          refine TO.alloc kinfo_62_bind_zero_some_agg_I_0_I_0_I_0_bool_false_I_0 rfl rfl fun b29 => ?_
          refine TO.s rfl rfl rfl (StepS.assign rfl) ?_
          refine TO.stB (us := [I x27.1, I x27.2.1, I x27.2.2.1, .bool x27.2.2.2.1, I x27.2.2.2.2]) 0 [I x27.1, I x27.2.1, I x27.2.2.1, .bool x27.2.2.2.1, I x27.2.2.2.2] rfl rfl rfl ksizeB_62_5_true rfl rfl rfl (by simp [Value.oneCell']) rfl ?_
          refine TO.code ?_
          refine TC.k ?_
          refine TC.region ?_
          refine TO.s rfl rfl rfl (StepS.move rfl) ?_
          refine TO.s rfl rfl rfl (StepS.move rfl) ?_
          obtain ⟨r30, hc31, hb25⟩ := bind_some hb25
          refine TO.q rfl rfl rfl (StepQ.call kcallB_45_true rfl rfl (fun _ st => C45 e1.tl hc31 st)) ?_
          refine TO.s rfl rfl rfl (StepS.not rfl) ?_
          refine TO.s rfl rfl rfl (StepS.move rfl) ?_
          refine TO.mid1 9 61 (.bool ((!r30) && (x27.2.2.2.1 || (x27.2.2.2.2 == x6)))) ?_ ?_
          · refine bcase ((!r30)) (fun hb32 => ?_) (fun hb32 => ?_)
            · refine TO.sw rfl rfl rfl hb32 rfl rfl (StepS.fld rfl kfieldB_62_3_3_true) ?_
              refine TO.sw rfl rfl rfl hb32 rfl rfl (StepS.ldB rfl (Ent.at 0 rfl) kscalB_4_true rfl) ?_
              refine TO.sw rfl rfl rfl hb32 rfl rfl (StepS.move rfl) ?_
              refine TO.mid1 5 60 (.bool (x27.2.2.2.1 || (x27.2.2.2.2 == x6))) ?_ ?_
              · refine bcase (x27.2.2.2.1) (fun hb33 => ?_) (fun hb33 => ?_)
                · refine TO.skip rfl rfl rfl (skipT hb33) rfl rfl ?_
                  refine TO.skip rfl rfl rfl (skipT hb33) rfl rfl ?_
                  refine TO.skip rfl rfl rfl (skipT hb33) rfl rfl ?_
                  refine TO.skip rfl rfl rfl (skipT hb33) rfl rfl ?_
                  refine TO.sw rfl rfl rfl hb32 rfl rfl (StepS.pickT rfl hb33 rfl) ?_
                  exact TO.up1 5 0 rfl rfl (by rw [hb33]; rfl) rfl
                · refine TO.sw rfl rfl rfl hb33 rfl rfl (StepS.fld rfl kfieldB_62_4_4_true) ?_
                  refine TO.sw rfl rfl rfl hb33 rfl rfl (StepS.ldB rfl (Ent.at 0 rfl) kscalB_3_true rfl) ?_
                  refine TO.sw rfl rfl rfl hb33 rfl rfl (StepS.move rfl) ?_
                  refine TO.sw rfl rfl rfl hb33 rfl rfl (StepS.cmp rfl rfl rfl) ?_
                  refine TO.sw rfl rfl rfl hb32 rfl rfl (StepS.pickF rfl hb33 rfl) ?_
                  exact TO.up1 5 0 rfl rfl (by rw [hb33]; rfl) rfl
              refine TO.s rfl rfl rfl (StepS.pickT rfl hb32 rfl) ?_
              exact TO.up1 5 0 rfl rfl (by rw [hb32]; rfl) rfl
            · refine TO.skip rfl rfl rfl (skipF hb32) rfl rfl ?_
              refine TO.skip rfl rfl rfl (skipF hb32) rfl rfl ?_
              refine TO.skip rfl rfl rfl (skipF hb32) rfl rfl ?_
              refine TO.skip rfl rfl rfl skipU rfl rfl ?_
              refine TO.skip rfl rfl rfl skipU rfl rfl ?_
              refine TO.skip rfl rfl rfl skipU rfl rfl ?_
              refine TO.skip rfl rfl rfl skipU rfl rfl ?_
              refine TO.skip rfl rfl rfl (skipF hb32) rfl rfl ?_
              refine TO.s rfl rfl rfl (StepS.pickF rfl hb32 rfl) ?_
              exact TO.up1 9 0 rfl rfl (by rw [hb32]; rfl) rfl
          refine TO.s rfl rfl rfl (StepS.assign rfl) ?_
          refine TO.code ?_
          refine TC.k ?_
          refine TC.k ?_
          refine TC.region ?_
          refine TO.s rfl rfl rfl (StepS.move rfl) ?_
          refine TO.s rfl rfl rfl (StepS.lenm rfl e0.tl ksliceB_22_62_5_true rfl) ?_
          refine TO.s rfl rfl rfl (StepS.move rfl) ?_
          refine TO.code ?_
          obtain ⟨o39, hw40, hb25⟩ := bind_some hb25
          refine TC.loop hw40 (fun (b34, x35) => fun a w => Mid 119 B [(0, h0), (1, h1), (2, .bool a2), (8, I x6), (11, I x21), (12, .pointer (some ⟨b29, 0, none⟩)), (13, .bool b34), (41, h0), (42, I (a0.length : Int)), (43, I x21), (62, h0), (63, I (a0.length : Int)), (64, I x35)] (Bx b29 62 [I x27.1, I x27.2.1, I x27.2.2.1, .bool x27.2.2.2.1, I x27.2.2.2.2] :: L) a w) (fun b38 => fun a w => Mid 119 B [(0, h0), (1, h1), (2, .bool a2), (8, I x6), (11, I x21), (13, .bool b38), (41, h0), (42, I (a0.length : Int)), (43, I x21)] (Bx b29 62 [I x27.1, I x27.2.1, I x27.2.2.1, .bool x27.2.2.2.1, I x27.2.2.2.2] :: L) a w) (fun (_ : Unit) _ _ => False) ?_ ?_ ?_ ?_
          · rintro ⟨b34, x35⟩ o39r hb41 a w ⟨he, hs⟩
            dsimp only [F18_L2] at hb41
            refine TC.use ?_ he hs
            refine TC.k ?_
            refine TC.region ?_
            refine TO.s rfl rfl rfl (StepS.cmp rfl rfl rfl) ?_
            refine TO.code ?_
            refine TC.k ?_
            refine TC.cond rfl (fun hc42 => ?_) (fun hc42 => ?_)
            · replace hb41 := cond_t hc42 hb41
              refine TC.skipk ?_
              refine TC.k ?_
              obtain ⟨b43, hj44, hb41⟩ := bind_some hb41
              first | refine TC.cutM (fun a w => Mid 119 B [(0, h0), (1, h1), (2, .bool a2), (8, I x6), (11, I x21), (12, .pointer (some ⟨b29, 0, none⟩)), (13, .bool b43), (41, h0), (42, I (a0.length : Int)), (43, I x21), (62, h0), (63, I (a0.length : Int)), (64, I x35)] (Bx b29 62 [I x27.1, I x27.2.1, I x27.2.2.1, .bool x27.2.2.2.1, I x27.2.2.2.2] :: L) a w) ?_ ?_ | refine TC.cutX (fun a w => Mid 119 B [(0, h0), (1, h1), (2, .bool a2), (8, I x6), (11, I x21), (12, .pointer (some ⟨b29, 0, none⟩)), (13, .bool b43), (41, h0), (42, I (a0.length : Int)), (43, I x21), (62, h0), (63, I (a0.length : Int)), (64, I x35)] (Bx b29 62 [I x27.1, I x27.2.1, I x27.2.2.1, .bool x27.2.2.2.1, I x27.2.2.2.2] :: L) a w) ?_ ?_
              · refine TC.block ?_
                refine TC.k ?_
                refine TC.region ?_
                refine TO.s rfl rfl rfl (StepS.move rfl) ?_
                obtain ⟨x45, hx46, hj44⟩ := bind_some hj44
                refine TO.s rfl rfl rfl (StepS.idx rfl rfl e0.tl ksliceB_22_62_5_true (idx_spec hx46).1 (idxm_lt hx46)) ?_
                refine TO.s rfl rfl rfl (StepS.ldE rfl e0.tl kaggB_62_5_true rfl (idxm hx46)) ?_
                refine TO.alloc kinfo_62_bind_zero_some_agg_I_0_I_0_I_0_bool_false_I_0 rfl rfl fun b47 => ?_
                refine TO.s rfl rfl rfl (StepS.assign rfl) ?_
                refine TO.stB (us := [I x45.1, I x45.2.1, I x45.2.2.1, .bool x45.2.2.2.1, I x45.2.2.2.2]) 0 [I x45.1, I x45.2.1, I x45.2.2.1, .bool x45.2.2.2.1, I x45.2.2.2.2] rfl rfl rfl ksizeB_62_5_true rfl rfl rfl (by simp [Value.oneCell']) rfl ?_
                refine TO.code ?_
                refine TC.k ?_
                refine TC.region ?_
                refine TO.s rfl rfl rfl (StepS.move rfl) ?_
                refine TO.s rfl rfl rfl (StepS.move rfl) ?_
                refine TO.s rfl rfl rfl (StepS.cmp rfl rfl rfl) ?_
                refine TO.s rfl rfl rfl (StepS.move rfl) ?_
                obtain ⟨b49, hj50, hj44⟩ := bind_some hj44
                refine TO.mid1 5 77 (.bool b49) ?_ ?_
                · refine bcase ((x35 != x21)) (fun hb48 => ?_) (fun hb48 => ?_)
                  · replace hj50 := cond_t hb48 hj50
                    refine TO.sw rfl rfl rfl hb48 rfl rfl (StepS.move rfl) ?_
                    refine TO.sw rfl rfl rfl hb48 rfl rfl (StepS.move rfl) ?_
                    obtain ⟨r51, hc52, hj50⟩ := bind_some hj50
                    refine TO.qw rfl rfl rfl hb48 rfl rfl (StepQ.call kcallB_45_true rfl rfl (fun _ st => C45 e1.tl.tl hc52 st)) ?_
                    refine TO.sw rfl rfl rfl hb48 rfl rfl (StepS.not rfl) ?_
                    cases hj50
                    refine TO.s rfl rfl rfl (StepS.pickT rfl hb48 rfl) ?_
                    exact TO.up1 5 0 rfl rfl rfl rfl
                  · replace hj50 := cond_f hb48 hj50
                    cases hj50
                    refine TO.skip rfl rfl rfl (skipF hb48) rfl rfl ?_
                    refine TO.skip rfl rfl rfl (skipF hb48) rfl rfl ?_
                    refine TO.skip rfl rfl rfl (skipF hb48) rfl rfl ?_
                    refine TO.skip rfl rfl rfl (skipF hb48) rfl rfl ?_
                    refine TO.s rfl rfl rfl (StepS.pickF rfl hb48 rfl) ?_
                    exact TO.up1 5 0 rfl rfl rfl rfl
                refine TO.s rfl rfl rfl (StepS.move rfl) ?_
                refine TO.mid1 23 101 (.bool (b49 && ((a2 && (decide (x45.2.2.1 < x27.2.1))) || ((x45.1 == x27.1) && (decide (x45.2.1 < x27.2.1)))))) ?_ ?_
                · refine bcase (b49) (fun hb53 => ?_) (fun hb53 => ?_)
                  · refine TO.sw rfl rfl rfl hb53 rfl rfl (StepS.move rfl) ?_
                    refine TO.sw rfl rfl rfl hb53 rfl rfl (StepS.move rfl) ?_
                    refine TO.mid1 6 86 (.bool (a2 && (decide (x45.2.2.1 < x27.2.1)))) ?_ ?_
                    · refine bcase (a2) (fun hb54 => ?_) (fun hb54 => ?_)
                      · refine TO.sw rfl rfl rfl hb54 rfl rfl (StepS.fld rfl kfieldB_62_2_2_true) ?_
                        refine TO.sw rfl rfl rfl hb54 rfl rfl (StepS.ldB rfl (Ent.at 0 rfl) kscalB_3_true rfl) ?_
                        refine TO.sw rfl rfl rfl hb54 rfl rfl (StepS.fld rfl kfieldB_62_1_1_true) ?_
                        refine TO.sw rfl rfl rfl hb54 rfl rfl (StepS.ldB rfl (Ent.at 1 rfl) kscalB_3_true rfl) ?_
                        refine TO.sw rfl rfl rfl hb54 rfl rfl (StepS.cmp rfl rfl rfl) ?_
                        refine TO.sw rfl rfl rfl hb53 rfl rfl (StepS.pickT rfl hb54 rfl) ?_
                        exact TO.up1 6 0 rfl rfl (by rw [hb54]; rfl) rfl
                      · refine TO.skip rfl rfl rfl (skipF hb54) rfl rfl ?_
                        refine TO.skip rfl rfl rfl (skipF hb54) rfl rfl ?_
                        refine TO.skip rfl rfl rfl (skipF hb54) rfl rfl ?_
                        refine TO.skip rfl rfl rfl (skipF hb54) rfl rfl ?_
                        refine TO.skip rfl rfl rfl (skipF hb54) rfl rfl ?_
                        refine TO.sw rfl rfl rfl hb53 rfl rfl (StepS.pickF rfl hb54 rfl) ?_
                        exact TO.up1 6 0 rfl rfl (by rw [hb54]; rfl) rfl
                    refine TO.sw rfl rfl rfl hb53 rfl rfl (StepS.move rfl) ?_
                    refine TO.mid1 13 100 (.bool ((a2 && (decide (x45.2.2.1 < x27.2.1))) || ((x45.1 == x27.1) && (decide (x45.2.1 < x27.2.1))))) ?_ ?_
                    · refine bcase ((a2 && (decide (x45.2.2.1 < x27.2.1)))) (fun hb55 => ?_) (fun hb55 => ?_)
                      · refine TO.skip rfl rfl rfl (skipT hb55) rfl rfl ?_
                        refine TO.skip rfl rfl rfl (skipT hb55) rfl rfl ?_
                        refine TO.skip rfl rfl rfl (skipT hb55) rfl rfl ?_
                        refine TO.skip rfl rfl rfl (skipT hb55) rfl rfl ?_
                        refine TO.skip rfl rfl rfl (skipT hb55) rfl rfl ?_
                        refine TO.skip rfl rfl rfl (skipT hb55) rfl rfl ?_
                        refine TO.skip rfl rfl rfl skipU rfl rfl ?_
                        refine TO.skip rfl rfl rfl skipU rfl rfl ?_
                        refine TO.skip rfl rfl rfl skipU rfl rfl ?_
                        refine TO.skip rfl rfl rfl skipU rfl rfl ?_
                        refine TO.skip rfl rfl rfl skipU rfl rfl ?_
                        refine TO.skip rfl rfl rfl (skipT hb55) rfl rfl ?_
                        refine TO.sw rfl rfl rfl hb53 rfl rfl (StepS.pickT rfl hb55 rfl) ?_
                        exact TO.up1 13 0 rfl rfl (by rw [hb55]; rfl) rfl
                      · refine TO.sw rfl rfl rfl hb55 rfl rfl (StepS.fld rfl kfieldB_62_0_0_true) ?_
                        refine TO.sw rfl rfl rfl hb55 rfl rfl (StepS.ldB rfl (Ent.at 0 rfl) kscalB_3_true rfl) ?_
                        refine TO.sw rfl rfl rfl hb55 rfl rfl (StepS.fld rfl kfieldB_62_0_0_true) ?_
                        refine TO.sw rfl rfl rfl hb55 rfl rfl (StepS.ldB rfl (Ent.at 1 rfl) kscalB_3_true rfl) ?_
                        refine TO.sw rfl rfl rfl hb55 rfl rfl (StepS.cmp rfl rfl rfl) ?_
                        refine TO.sw rfl rfl rfl hb55 rfl rfl (StepS.move rfl) ?_
                        refine TO.mid1 6 99 (.bool ((x45.1 == x27.1) && (decide (x45.2.1 < x27.2.1)))) ?_ ?_
                        · refine bcase ((x45.1 == x27.1)) (fun hb56 => ?_) (fun hb56 => ?_)
                          · refine TO.sw rfl rfl rfl hb56 rfl rfl (StepS.fld rfl kfieldB_62_1_1_true) ?_
                            refine TO.sw rfl rfl rfl hb56 rfl rfl (StepS.ldB rfl (Ent.at 0 rfl) kscalB_3_true rfl) ?_
                            refine TO.sw rfl rfl rfl hb56 rfl rfl (StepS.fld rfl kfieldB_62_1_1_true) ?_
                            refine TO.sw rfl rfl rfl hb56 rfl rfl (StepS.ldB rfl (Ent.at 1 rfl) kscalB_3_true rfl) ?_
                            refine TO.sw rfl rfl rfl hb56 rfl rfl (StepS.cmp rfl rfl rfl) ?_
                            refine TO.sw rfl rfl rfl hb55 rfl rfl (StepS.pickT rfl hb56 rfl) ?_
                            exact TO.up1 6 0 rfl rfl (by rw [hb56]; rfl) rfl
                          · refine TO.skip rfl rfl rfl (skipF hb56) rfl rfl ?_
                            refine TO.skip rfl rfl rfl (skipF hb56) rfl rfl ?_
                            refine TO.skip rfl rfl rfl (skipF hb56) rfl rfl ?_
                            refine TO.skip rfl rfl rfl (skipF hb56) rfl rfl ?_
                            refine TO.skip rfl rfl rfl (skipF hb56) rfl rfl ?_
                            refine TO.sw rfl rfl rfl hb55 rfl rfl (StepS.pickF rfl hb56 rfl) ?_
                            exact TO.up1 6 0 rfl rfl (by rw [hb56]; rfl) rfl
                        refine TO.sw rfl rfl rfl hb53 rfl rfl (StepS.pickF rfl hb55 rfl) ?_
                        exact TO.up1 8 0 rfl rfl (by rw [hb55]; rfl) rfl
                    refine TO.s rfl rfl rfl (StepS.pickT rfl hb53 rfl) ?_
                    exact TO.up1 6 0 rfl rfl (by rw [hb53]; rfl) rfl
                  · refine TO.skip rfl rfl rfl (skipF hb53) rfl rfl ?_
                    refine TO.skip rfl rfl rfl (skipF hb53) rfl rfl ?_
                    refine TO.skip rfl rfl rfl skipU rfl rfl ?_
                    refine TO.skip rfl rfl rfl skipU rfl rfl ?_
                    refine TO.skip rfl rfl rfl skipU rfl rfl ?_
                    refine TO.skip rfl rfl rfl skipU rfl rfl ?_
                    refine TO.skip rfl rfl rfl skipU rfl rfl ?_
                    refine TO.skip rfl rfl rfl (skipF hb53) rfl rfl ?_
                    refine TO.skip rfl rfl rfl (skipF hb53) rfl rfl ?_
                    refine TO.skip rfl rfl rfl skipU rfl rfl ?_
                    refine TO.skip rfl rfl rfl skipU rfl rfl ?_
                    refine TO.skip rfl rfl rfl skipU rfl rfl ?_
                    refine TO.skip rfl rfl rfl skipU rfl rfl ?_
                    refine TO.skip rfl rfl rfl skipU rfl rfl ?_
                    refine TO.skip rfl rfl rfl skipU rfl rfl ?_
                    refine TO.skip rfl rfl rfl skipU rfl rfl ?_
                    refine TO.skip rfl rfl rfl skipU rfl rfl ?_
                    refine TO.skip rfl rfl rfl skipU rfl rfl ?_
                    refine TO.skip rfl rfl rfl skipU rfl rfl ?_
                    refine TO.skip rfl rfl rfl skipU rfl rfl ?_
                    refine TO.skip rfl rfl rfl skipU rfl rfl ?_
                    refine TO.skip rfl rfl rfl (skipF hb53) rfl rfl ?_
                    refine TO.s rfl rfl rfl (StepS.pickF rfl hb53 rfl) ?_
                    exact TO.up1 23 0 rfl rfl (by rw [hb53]; rfl) rfl
                refine TO.code ?_
                refine TC.cond rfl (fun hc57 => ?_) (fun hc57 => ?_)
                · replace hj44 := cond_t hc57 hj44
                  refine TC.region ?_
                  refine TO.s rfl rfl rfl (StepS.assign rfl) ?_
                  cases hj44
                  refine TO.nil fun a w e s => ?_
                  exact ⟨e.sub (lk_of_allIn ⟨rfl, rfl, rfl, rfl, rfl, rfl, rfl, rfl, rfl, rfl, rfl, rfl, rfl, trivial⟩), s.mono fun _ => Sat.dropN 1⟩
                · replace hj44 := cond_f hc57 hj44
                  cases hj44
                  refine TC.skip fun a w e s => ?_
                  exact ⟨e.sub (lk_of_allIn ⟨rfl, rfl, rfl, rfl, rfl, rfl, rfl, rfl, rfl, rfl, rfl, rfl, rfl, trivial⟩), s.mono fun _ => Sat.dropN 1⟩
              · intro a w ⟨he, hs⟩
                refine TC.use ?_ he hs
                refine TC.region ?_
                refine TO.s rfl rfl rfl (StepS.ari rfl rfl rfl) ?_
                refine TO.s rfl rfl rfl (StepS.move rfl) ?_
                cases hb41
                refine TO.nil fun a w e s => ?_
                exact ⟨e.sub (lk_of_allIn ⟨rfl, rfl, rfl, rfl, rfl, rfl, rfl, rfl, rfl, rfl, rfl, rfl, rfl, trivial⟩), s⟩
            · replace hb41 := cond_f hc42 hb41
              cases hb41
              refine TC.exit rfl fun a w e s => ?_
              exact ⟨e.sub (lk_of_allIn ⟨rfl, rfl, rfl, rfl, rfl, rfl, rfl, rfl, rfl, trivial⟩), s⟩
          · exact fun a w e s => ⟨e.sub (lk_of_allIn ⟨rfl, rfl, rfl, rfl, rfl, rfl, rfl, rfl, rfl, rfl, rfl, rfl, rfl, trivial⟩), s⟩
          · rintro b38 rfl a w ⟨he, hs⟩
            dsimp only [Ctl.on] at hb25
            refine TC.use ?_ he hs
            refine TC.k ?_
            refine TC.region ?_
            refine TO.s rfl rfl rfl (StepS.move rfl) ?_
            refine TO.code ?_
            refine TC.cond rfl (fun hc58 => ?_) (fun hc58 => ?_)
            · replace hb25 := cond_t hc58 hb25
              refine TC.k ?_
              refine TC.region ?_
              refine TO.s rfl rfl rfl (StepS.move rfl) ?_
              refine TO.lit0 (f := cI) ksliceB_28_3_1_true rfl fun v59 => ?_
              refine TO.s rfl rfl rfl (StepS.move rfl) ?_
              obtain ⟨y61, hk62, hb25⟩ := bind_some hb25
              refine TO.app (k := 0) (f := cI) kelemB_28_3_1_8_true (by decide) rfl rfl rfl e1.tl.tl hk62 (fun x c hc => by simp [Value.oneCell'] at hc ⊢; first | (obtain rfl := hc; rfl) | (rcases hc with rfl <;> rfl)) rfl rfl fun v63 => ?_
              refine TO.s rfl rfl rfl (StepS.move rfl) ?_
              refine TO.litS (f := cI) ([x21] : List Int) kelemB_28_3_1_8_true kinfo_3_bind_zero_some_I_0 rfl rfl (fun _ => rfl) rfl rfl (by kernel_rfl) rfl fun v64 => ?_
              obtain ⟨y66, hk67, hb25⟩ := bind_some hb25
              refine TO.app (k := 1) (f := cI) kelemB_28_3_1_8_true (by decide) rfl rfl rfl (OwnS.rd (Ent.at 0 rfl)) hk67 (fun x c hc => by simp [Value.oneCell'] at hc ⊢; first | (obtain rfl := hc; rfl) | (rcases hc with rfl <;> rfl)) rfl rfl fun v68 => ?_
              refine TO.s rfl rfl rfl (StepS.move rfl) ?_
              obtain ⟨⟨r69, r70⟩, hc71, hb25⟩ := bind_some hb25
              refine TO.callO kcallB_18_true rfl rfl rfl (fun _ st => ih e0.tl.tl.tl (OwnS.rd (Ent.at 1 rfl)) hc71 st) ?_
              rintro _ _ ⟨v72, A73, ea74, rfl, rfl⟩
              refine TO.s rfl rfl rfl (StepS.move rfl) ?_
              refine TO.s rfl rfl rfl (StepS.extract rfl rfl) ?_
              refine TO.s rfl rfl rfl (StepS.extract rfl rfl) ?_
              refine TO.s rfl rfl rfl (StepS.assign rfl) ?_
              refine TO.s rfl rfl rfl (StepS.assign rfl) ?_
              refine TO.code ?_
              refine TC.k ?_
              refine TC.region ?_
              refine TO.s rfl rfl rfl (StepS.move rfl) ?_
              refine TO.code ?_
              refine TC.cond rfl (fun hc76 => ?_) (fun hc76 => ?_)
              · replace hb25 := cond_t hc76 hb25
                refine TC.k ?_
                refine TC.region ?_
                refine TO.s rfl rfl rfl (StepS.move rfl) ?_
                refine TO.s rfl rfl rfl (StepS.assign rfl) ?_
                refine TO.s rfl rfl rfl (StepS.assign rfl) ?_
                refine TO.code ?_
                cases hb25
                refine TC.ret fun a w e s => ?_
                refine FRet.mk2 (P := Try.prog) (fn := Try.f18) (t := 6) (u := 7) e rfl rfl rfl ?_
                exact ⟨_, _, rfl, ⟨v72, G [A73, OwnS 3 1 v64 (([x21] : List Int).map cI), OwnS 3 1 v68 (y66.map cI), Bx b29 62 [I x27.1, I x27.2.1, I x27.2.2.1, .bool x27.2.2.2.1, I x27.2.2.2.2]], Ent.gather (M := [A73, OwnS 3 1 v64 (([x21] : List Int).map cI), OwnS 3 1 v68 (y66.map cI), Bx b29 62 [I x27.1, I x27.2.1, I x27.2.2.1, .bool x27.2.2.2.1, I x27.2.2.2.2]]) ea74, rfl, rfl⟩, s.mono fun _ s => Sat.gather (M := [A73, OwnS 3 1 v64 (([x21] : List Int).map cI), OwnS 3 1 v68 (y66.map cI), Bx b29 62 [I x27.1, I x27.2.1, I x27.2.2.1, .bool x27.2.2.2.1, I x27.2.2.2.2]]) s⟩
              · replace hb25 := cond_f hc76 hb25
                refine TC.skipk ?_
                refine TC.region ?_
                refine TO.s rfl rfl rfl (StepS.ari rfl rfl rfl) ?_
                refine TO.s rfl rfl rfl (StepS.move rfl) ?_
                cases hb25
                refine TO.nil fun a w e s => ?_
                exact ⟨e.sub (lk_of_allIn ⟨rfl, rfl, rfl, rfl, rfl, rfl, rfl, trivial⟩), s.mono fun _ => Sat.dropN 4⟩
            · replace hb25 := cond_f hc58 hb25
              refine TC.skipk ?_
              refine TC.region ?_
              refine TO.s rfl rfl rfl (StepS.ari rfl rfl rfl) ?_
              refine TO.s rfl rfl rfl (StepS.move rfl) ?_
              cases hb25
              refine TO.nil fun a w e s => ?_
              exact ⟨e.sub (lk_of_allIn ⟨rfl, rfl, rfl, rfl, rfl, rfl, rfl, trivial⟩), s.mono fun _ => Sat.dropN 1⟩
          · rintro r rfl
            exact fun a w h => h.elim
        · replace hb25 := cond_f hc26 hb25
          cases hb25
          refine TC.exit rfl fun a w e s => ?_
          exact ⟨e.sub (lk_of_allIn trivial), s⟩
      · exact fun a w e s => ⟨e.sub (lk_of_allIn ⟨rfl, rfl, rfl, rfl, rfl, rfl, rfl, trivial⟩), s⟩
      · rintro _ rfl a w ⟨he, hs⟩
        dsimp only [Ctl.on] at hm
        refine TC.use ?_ he hs
        refine TC.k ?_
        refine TC.region ?_
        refine TO.s rfl rfl rfl (StepS.assign rfl) ?_
        refine TO.s rfl rfl rfl (StepS.assign rfl) ?_
        refine TO.code ?_
        cases hm
        refine TC.ret fun a w e s => ?_
        refine FRet.mk2 (P := Try.prog) (fn := Try.f18) (t := 6) (u := 7) e rfl rfl rfl ?_
        exact ⟨_, _, rfl, ⟨.slice none 0 0, G [], Ent.gather (M := []) (Ent.nil (α := Int) (f := cI) (sz := 1)), rfl, rfl⟩, s.mono fun _ s => Sat.gather (M := []) s⟩
      · rintro r rfl
        cases hm
        exact fun a w h => h
  · rintro r rfl
    exact fun a w h => h.elim
theorem C18_R {B : World} : ∀ (n : Nat) {L : List HP} {a0 : List (Int × Int × Int × Bool × Int)} {a1 : List Int} {a2 : Bool} {h0 : Value} {h1 : Value} {r0 : List Int} {r1 : Bool} (e0 : Ent L (Rd 5 h0 (a0.map cTiiibi))) (e1 : Ent L (Rd 1 h1 (a1.map cI))) (hm : F18_R n a0 a1 a2 = some (r0, r1)) {w : World} (st : St B L w), Calls Try.prog 18 #[h0, h1, .bool a2] w (fun e w' => ∃ v M, e = .returned v ∧ (∃ (qv1 : Value) (qA2 : HP) (qea3 : Ent (qA2 :: L) (Rd 1 qv1 (r0.map cI))), v = .tuple #[qv1, .bool r1] ∧ M = (qA2 :: L)) ∧ St B M w') := by
  intro n
  induction n with
  | zero => intro L a0 a1 a2 h0 h1 r0 r1 e0 e1 hm w st; cases hm
  | succ n ih => intro L a0 a1 a2 h0 h1 r0 r1 e0 e1 hm w st; exact C18_B (F18_R n) (@ih) e0 e1 hm st
theorem C18 {B : World} {L : List HP} {a0 : List (Int × Int × Int × Bool × Int)} {a1 : List Int} {a2 : Bool} {h0 : Value} {h1 : Value} {r0 : List Int} {r1 : Bool} (e0 : Ent L (Rd 5 h0 (a0.map cTiiibi))) (e1 : Ent L (Rd 1 h1 (a1.map cI))) (hm : F18 a0 a1 a2 = some (r0, r1)) {w : World} (st : St B L w) : Calls Try.prog 18 #[h0, h1, .bool a2] w (fun e w' => ∃ v M, e = .returned v ∧ (∃ (qv1 : Value) (qA2 : HP) (qea3 : Ent (qA2 :: L) (Rd 1 qv1 (r0.map cI))), v = .tuple #[qv1, .bool r1] ∧ M = (qA2 :: L)) ∧ St B M w') := by
  obtain ⟨n, hn⟩ := fixO_spec hm
  exact C18_R n e0 e1 hn st

set_option maxRecDepth 100000 in
theorem C4 {B : World} {L : List HP} {a0 : List (Int × Int × Int × Bool × Int)} {h0 : Value} {r0 : Bool} (e0 : Ent L (Rd 5 h0 (a0.map cTiiibi))) (hm : F4 a0 = some r0) {w : World} (st : St B L w) : Calls Try.prog 4 #[h0] w (fun e w' => (e = .returned (.bool r0) ∧ St B (L) w')) := by
  refine calls_of (N := 36) (L := L) (args := [h0]) Try.func4 rfl rfl rfl ?_ st
  dsimp only [F4] at hm
  refine TC.k ?_
  refine TC.region ?_
  refine TO.s rfl rfl rfl (StepS.assign rfl) ?_
  refine TO.code ?_
  refine TC.k ?_
  refine TC.region ?_
  refine TO.s rfl rfl rfl (StepS.move rfl) ?_
  obtain ⟨⟨r1, r2⟩, hc3, hm⟩ := bind_some hm
  refine TO.q rfl rfl rfl (StepQ.call kcallB_17_true rfl rfl (fun _ st => C17 e0 hc3 st)) ?_
  refine TO.s rfl rfl rfl (StepS.move rfl) ?_
  refine TO.s rfl rfl rfl (StepS.extract rfl rfl) ?_
  refine TO.s rfl rfl rfl (StepS.extract rfl rfl) ?_
  refine TO.s rfl rfl rfl (StepS.assign rfl) ?_
  refine TO.s rfl rfl rfl (StepS.assign rfl) ?_
  refine TO.code ?_
  refine TC.k ?_
  refine TC.region ?_
  refine TO.s rfl rfl rfl (StepS.move rfl) ?_
  obtain ⟨r4, hc5, hm⟩ := bind_some hm
  refine TO.q rfl rfl rfl (StepQ.call kcallB_16_true rfl rfl (fun _ st => C16 e0 hc5 st)) ?_
  refine TO.s rfl rfl rfl (StepS.assign rfl) ?_
  refine TO.code ?_
  refine TC.k ?_
  refine TC.k ?_
  refine TC.region ?_
  refine TO.s rfl rfl rfl (StepS.move rfl) ?_
  refine TO.s rfl rfl rfl (StepS.cmp rfl rfl rfl) ?_
  refine TO.code ?_
  refine TC.cond rfl (fun hc6 => ?_) (fun hc6 => ?_)
  · replace hm := cond_t hc6 hm
    refine TC.k ?_
    refine TC.region ?_
    refine TO.s rfl rfl rfl (StepS.move rfl) ?_
    refine TO.s rfl rfl rfl (StepS.move rfl) ?_
    refine TO.s rfl rfl rfl (StepS.cmp rfl rfl rfl) ?_
    refine TO.s rfl rfl rfl (StepS.move rfl) ?_
    refine TO.mid1 3 23 (.bool ((r2 == r4) && (!r1))) ?_ ?_
    · refine bcase ((r2 == r4)) (fun hb7 => ?_) (fun hb7 => ?_)
      · refine TO.sw rfl rfl rfl hb7 rfl rfl (StepS.move rfl) ?_
        refine TO.sw rfl rfl rfl hb7 rfl rfl (StepS.not rfl) ?_
        refine TO.s rfl rfl rfl (StepS.pickT rfl hb7 rfl) ?_
        exact TO.up1 3 0 rfl rfl (by rw [hb7]; rfl) rfl
      · refine TO.skip rfl rfl rfl (skipF hb7) rfl rfl ?_
        refine TO.skip rfl rfl rfl (skipF hb7) rfl rfl ?_
        refine TO.s rfl rfl rfl (StepS.pickF rfl hb7 rfl) ?_
        exact TO.up1 3 0 rfl rfl (by rw [hb7]; rfl) rfl
    refine TO.s rfl rfl rfl (StepS.assign rfl) ?_
    refine TO.code ?_
    cases hm
    refine TC.ret fun a w e s => ?_
    refine FRet.mk1 (P := Try.prog) (fn := Try.f4) (t := 2) e rfl rfl ?_
    exact ⟨rfl, s.mono fun _ => Sat.dropN 0⟩
  · replace hm := cond_f hc6 hm
    refine TC.skipk ?_
    refine TC.k ?_
    refine TC.region ?_
    refine TO.s rfl rfl rfl (StepS.move rfl) ?_
    obtain ⟨⟨r8, r9⟩, hc10, hm⟩ := bind_some hm
    refine TO.callO kcallB_18_true rfl rfl rfl (fun _ st => C18 e0 Ent.nil hc10 st) ?_
    rintro _ _ ⟨v11, A12, ea13, rfl, rfl⟩
    refine TO.s rfl rfl rfl (StepS.move rfl) ?_
    refine TO.s rfl rfl rfl (StepS.extract rfl rfl) ?_
    refine TO.s rfl rfl rfl (StepS.extract rfl rfl) ?_
    refine TO.s rfl rfl rfl (StepS.assign rfl) ?_
    refine TO.s rfl rfl rfl (StepS.assign rfl) ?_
    refine TO.code ?_
    refine TC.k ?_
    refine TC.region ?_
    refine TO.s rfl rfl rfl (StepS.move rfl) ?_
    refine TO.s rfl rfl rfl (StepS.cmp rfl rfl rfl) ?_
    refine TO.s rfl rfl rfl (StepS.move rfl) ?_
    refine TO.mid1 4 35 (.bool ((r2 == 0) && (r1 == r9))) ?_ ?_
    · refine bcase ((r2 == 0)) (fun hb15 => ?_) (fun hb15 => ?_)
      · refine TO.sw rfl rfl rfl hb15 rfl rfl (StepS.move rfl) ?_
        refine TO.sw rfl rfl rfl hb15 rfl rfl (StepS.move rfl) ?_
        refine TO.sw rfl rfl rfl hb15 rfl rfl (StepS.eqB kunderlying_4_some_bool rfl rfl) ?_
        refine TO.s rfl rfl rfl (StepS.pickT rfl hb15 rfl) ?_
        exact TO.up1 4 0 rfl rfl (by rw [hb15]; rfl) rfl
      · refine TO.skip rfl rfl rfl (skipF hb15) rfl rfl ?_
        refine TO.skip rfl rfl rfl (skipF hb15) rfl rfl ?_
        refine TO.skip rfl rfl rfl (skipF hb15) rfl rfl ?_
        refine TO.s rfl rfl rfl (StepS.pickF rfl hb15 rfl) ?_
        exact TO.up1 4 0 rfl rfl (by rw [hb15]; rfl) rfl
    refine TO.s rfl rfl rfl (StepS.assign rfl) ?_
    refine TO.code ?_
    cases hm
    refine TC.ret fun a w e s => ?_
    refine FRet.mk1 (P := Try.prog) (fn := Try.f4) (t := 2) e rfl rfl ?_
    exact ⟨rfl, s.mono fun _ => Sat.dropN 1⟩

set_option maxRecDepth 100000 in
theorem C47 {B : World} {L : List HP} {a0 : Int × Int × Int × Bool × Int} {a1 : Int × Int × Int × Bool × Int} {r0 : Bool} (hm : F47 a0 a1 = some r0) {w : World} (st : St B L w) : Calls Try.prog 47 #[.agg (cTiiibi a0).toArray, .agg (cTiiibi a1).toArray] w (fun e w' => (e = .returned (.bool r0) ∧ St B (L) w')) := by
  refine calls_of (N := 10) (L := L) (args := [.agg (cTiiibi a0).toArray, .agg (cTiiibi a1).toArray]) Try.func47 rfl rfl rfl ?_ st
  dsimp only [F47] at hm
  refine TC.k ?_
  refine TC.region ?_
  refine TO.box (cs := [I a0.1, I a0.2.1, I a0.2.2.1, .bool a0.2.2.2.1, I a0.2.2.2.2]) rfl rfl rfl fun b1 => ?_
  refine TO.box (cs := [I a1.1, I a1.2.1, I a1.2.2.1, .bool a1.2.2.2.1, I a1.2.2.2.2]) rfl rfl rfl fun b2 => ?_
  refine TO.s rfl rfl rfl (StepS.assign rfl) ?_
  refine TO.code ?_
  refine TC.k ?_
  refine TC.region ?_
  refine TO.s rfl rfl rfl (StepS.fld rfl kfieldB_62_2_2_true) ?_
  refine TO.s rfl rfl rfl (StepS.ldB rfl (Ent.at 1 rfl) kscalB_3_true rfl) ?_
  refine TO.s rfl rfl rfl (StepS.fld rfl kfieldB_62_1_1_true) ?_
  refine TO.s rfl rfl rfl (StepS.ldB rfl (Ent.at 0 rfl) kscalB_3_true rfl) ?_
  refine TO.s rfl rfl rfl (StepS.cmp rfl rfl rfl) ?_
  refine TO.s rfl rfl rfl (StepS.assign rfl) ?_
  refine TO.code ?_
  cases hm
  refine TC.ret fun a w e s => ?_
  refine FRet.mk1 (P := Try.prog) (fn := Try.f47) (t := 4) e rfl rfl ?_
  exact ⟨rfl, s.mono fun _ => Sat.dropN 2⟩

set_option maxRecDepth 100000 in
theorem C46 {B : World} {L : List HP} {a0 : Int × Int × Int × Bool × Int} {a1 : Int × Int × Int × Bool × Int} {r0 : Bool} (hm : F46 a0 a1 = some r0) {w : World} (st : St B L w) : Calls Try.prog 46 #[.agg (cTiiibi a0).toArray, .agg (cTiiibi a1).toArray] w (fun e w' => (e = .returned (.bool r0) ∧ St B (L) w')) := by
  refine calls_of (N := 13) (L := L) (args := [.agg (cTiiibi a0).toArray, .agg (cTiiibi a1).toArray]) Try.func46 rfl rfl rfl ?_ st
  dsimp only [F46] at hm
  refine TC.k ?_
  refine TC.region ?_
  refine TO.box (cs := [I a0.1, I a0.2.1, I a0.2.2.1, .bool a0.2.2.2.1, I a0.2.2.2.2]) rfl rfl rfl fun b1 => ?_
  refine TO.box (cs := [I a1.1, I a1.2.1, I a1.2.2.1, .bool a1.2.2.2.1, I a1.2.2.2.2]) rfl rfl rfl fun b2 => ?_
  refine TO.s rfl rfl rfl (StepS.assign rfl) ?_
  refine TO.code ?_
  refine TC.k ?_
  refine TC.region ?_
  refine TO.s rfl rfl rfl (StepS.ldBA rfl (Ent.at 1 rfl) kaggB_62_5_true rfl rfl) ?_
  refine TO.s rfl rfl rfl (StepS.ldBA rfl (Ent.at 0 rfl) kaggB_62_5_true rfl rfl) ?_
  obtain ⟨r3, hc4, hm⟩ := bind_some hm
  refine TO.q rfl rfl rfl (StepQ.call kcallB_47_true rfl rfl (fun _ st => C47  hc4 st)) ?_
  refine TO.s rfl rfl rfl (StepS.move rfl) ?_
  obtain ⟨b6, hj7, hm⟩ := bind_some hm
  refine TO.mid1 4 12 (.bool b6) ?_ ?_
  · refine bcase (r3) (fun hb5 => ?_) (fun hb5 => ?_)
    · replace hj7 := cond_t hb5 hj7
      cases hj7
      refine TO.skip rfl rfl rfl (skipT hb5) rfl rfl ?_
      refine TO.skip rfl rfl rfl (skipT hb5) rfl rfl ?_
      refine TO.skip rfl rfl rfl (skipT hb5) rfl rfl ?_
      refine TO.s rfl rfl rfl (StepS.pickT rfl hb5 rfl) ?_
      exact TO.up1 4 0 rfl rfl rfl rfl
    · replace hj7 := cond_f hb5 hj7
      refine TO.sw rfl rfl rfl hb5 rfl rfl (StepS.ldBA rfl (Ent.at 1 rfl) kaggB_62_5_true rfl rfl) ?_
      refine TO.sw rfl rfl rfl hb5 rfl rfl (StepS.ldBA rfl (Ent.at 0 rfl) kaggB_62_5_true rfl rfl) ?_
      obtain ⟨r8, hc9, hj7⟩ := bind_some hj7
      refine TO.qw rfl rfl rfl hb5 rfl rfl (StepQ.call kcallB_44_true rfl rfl (fun _ st => C44  hc9 st)) ?_
      cases hj7
      refine TO.s rfl rfl rfl (StepS.pickF rfl hb5 rfl) ?_
      exact TO.up1 4 0 rfl rfl rfl rfl
  refine TO.s rfl rfl rfl (StepS.assign rfl) ?_
  refine TO.code ?_
  cases hm
  refine TC.ret fun a w e s => ?_
  refine FRet.mk1 (P := Try.prog) (fn := Try.f46) (t := 4) e rfl rfl ?_
  exact ⟨rfl, s.mono fun _ => Sat.dropN 2⟩

set_option maxRecDepth 100000 in
theorem C19 {B : World} {L : List HP} {a0 : List (Int × Int × Int × Bool × Int)} {h0 : Value} {r0 : Bool} {r1 : Int} (e0 : Ent L (Rd 5 h0 (a0.map cTiiibi))) (hm : F19 a0 = some (r0, r1)) {w : World} (st : St B L w) : Calls Try.prog 19 #[h0] w (fun e w' => (e = .returned (.tuple #[.bool r0, I r1]) ∧ St B (L) w')) := by
  refine calls_of (N := 18) (L := L) (args := [h0]) Try.func19 rfl rfl rfl ?_ st
  dsimp only [F19] at hm
  refine TC.k ?_
  refine TC.region ?_
  refine TO.s rfl rfl rfl (StepS.assign rfl) ?_
  refine TO.s rfl rfl rfl (StepS.assign rfl) ?_
  refine TO.code ?_
  refine TC.k ?_
  refine TC.k ?_
  refine TC.region ?_
  refine TO.s rfl rfl rfl (StepS.move rfl) ?_
  obtain ⟨r1, hc2, hm⟩ := bind_some hm
  refine TO.q rfl rfl rfl (StepQ.call kcallB_15_true rfl rfl (fun _ st => C15 e0 hc2 st)) ?_
  refine TO.s rfl rfl rfl (StepS.assign rfl) ?_
  refine TO.code ?_
  refine TC.k ?_
  refine TC.region ?_
  refine TO.s rfl rfl rfl (StepS.move rfl) ?_
  refine TO.s rfl rfl rfl (StepS.cmp rfl rfl rfl) ?_
  refine TO.code ?_
  refine TC.cond rfl (fun hc3 => ?_) (fun hc3 => ?_)
  · replace hm := cond_t hc3 hm
    refine TC.k ?_
    refine TC.region ?_
    refine TO.s rfl rfl rfl (StepS.move rfl) ?_
    refine TO.s rfl rfl rfl (StepS.assign rfl) ?_
    refine TO.s rfl rfl rfl (StepS.assign rfl) ?_
    refine TO.code ?_
    cases hm
    refine TC.ret fun a w e s => ?_
    refine FRet.mk2 (P := Try.prog) (fn := Try.f19) (t := 2) (u := 3) e rfl rfl rfl ?_
    exact ⟨rfl, s.mono fun _ => Sat.dropN 0⟩
  · replace hm := cond_f hc3 hm
    refine TC.skipk ?_
    refine TC.k ?_
    refine TC.region ?_
    refine TO.s rfl rfl rfl (StepS.move rfl) ?_
    obtain ⟨⟨r4, r5⟩, hc6, hm⟩ := bind_some hm
    refine TO.callO kcallB_43_true rfl rfl rfl (fun _ st => C43 e0 ⟨46, #[], #[], rfl, kcallB_46_true, fun _ hx z r hm w st => C46  hm st⟩ hc6 st) ?_
    rintro _ _ ⟨v7, rfl, rfl⟩
    refine TO.s rfl rfl rfl (StepS.move rfl) ?_
    refine TO.s rfl rfl rfl (StepS.extract rfl rfl) ?_
    refine TO.s rfl rfl rfl (StepS.extract rfl rfl) ?_
    refine TO.s rfl rfl rfl (StepS.assign rfl) ?_
    refine TO.s rfl rfl rfl (StepS.assign rfl) ?_
    refine TO.code ?_
    refine TC.k ?_
    refine TC.region ?_
    refine TO.s rfl rfl rfl (StepS.move rfl) ?_
    refine TO.s rfl rfl rfl (StepS.assign rfl) ?_
    refine TO.s rfl rfl rfl (StepS.assign rfl) ?_
    refine TO.code ?_
    cases hm
    refine TC.ret fun a w e s => ?_
    refine FRet.mk2 (P := Try.prog) (fn := Try.f19) (t := 2) (u := 3) e rfl rfl rfl ?_
    exact ⟨rfl, s.mono fun _ => Sat.dropN 1⟩

set_option maxRecDepth 100000 in
theorem C5 {B : World} {L : List HP} {a0 : List (Int × Int × Int × Bool × Int)} {h0 : Value} {r0 : Bool} (e0 : Ent L (Rd 5 h0 (a0.map cTiiibi))) (hm : F5 a0 = some r0) {w : World} (st : St B L w) : Calls Try.prog 5 #[h0] w (fun e w' => (e = .returned (.bool r0) ∧ St B (L) w')) := by
  refine calls_of (N := 36) (L := L) (args := [h0]) Try.func5 rfl rfl rfl ?_ st
  dsimp only [F5] at hm
  refine TC.k ?_
  refine TC.region ?_
  refine TO.s rfl rfl rfl (StepS.assign rfl) ?_
  refine TO.code ?_
  refine TC.k ?_
  refine TC.region ?_
  refine TO.s rfl rfl rfl (StepS.move rfl) ?_
  obtain ⟨⟨r1, r2⟩, hc3, hm⟩ := bind_some hm
  refine TO.q rfl rfl rfl (StepQ.call kcallB_19_true rfl rfl (fun _ st => C19 e0 hc3 st)) ?_
  refine TO.s rfl rfl rfl (StepS.move rfl) ?_
  refine TO.s rfl rfl rfl (StepS.extract rfl rfl) ?_
  refine TO.s rfl rfl rfl (StepS.extract rfl rfl) ?_
  refine TO.s rfl rfl rfl (StepS.assign rfl) ?_
  refine TO.s rfl rfl rfl (StepS.assign rfl) ?_
  refine TO.code ?_
  refine TC.k ?_
  refine TC.region ?_
  refine TO.s rfl rfl rfl (StepS.move rfl) ?_
  obtain ⟨r4, hc5, hm⟩ := bind_some hm
  refine TO.q rfl rfl rfl (StepQ.call kcallB_16_true rfl rfl (fun _ st => C16 e0 hc5 st)) ?_
  refine TO.s rfl rfl rfl (StepS.assign rfl) ?_
  refine TO.code ?_
  refine TC.k ?_
  refine TC.k ?_
  refine TC.region ?_
  refine TO.s rfl rfl rfl (StepS.move rfl) ?_
  refine TO.s rfl rfl rfl (StepS.cmp rfl rfl rfl) ?_
  refine TO.code ?_
  refine TC.cond rfl (fun hc6 => ?_) (fun hc6 => ?_)
  · replace hm := cond_t hc6 hm
    refine TC.k ?_
    refine TC.region ?_
    refine TO.s rfl rfl rfl (StepS.move rfl) ?_
    refine TO.s rfl rfl rfl (StepS.move rfl) ?_
    refine TO.s rfl rfl rfl (StepS.cmp rfl rfl rfl) ?_
    refine TO.s rfl rfl rfl (StepS.move rfl) ?_
    refine TO.mid1 3 23 (.bool ((r2 == r4) && (!r1))) ?_ ?_
    · refine bcase ((r2 == r4)) (fun hb7 => ?_) (fun hb7 => ?_)
      · refine TO.sw rfl rfl rfl hb7 rfl rfl (StepS.move rfl) ?_
        refine TO.sw rfl rfl rfl hb7 rfl rfl (StepS.not rfl) ?_
        refine TO.s rfl rfl rfl (StepS.pickT rfl hb7 rfl) ?_
        exact TO.up1 3 0 rfl rfl (by rw [hb7]; rfl) rfl
      · refine TO.skip rfl rfl rfl (skipF hb7) rfl rfl ?_
        refine TO.skip rfl rfl rfl (skipF hb7) rfl rfl ?_
        refine TO.s rfl rfl rfl (StepS.pickF rfl hb7 rfl) ?_
        exact TO.up1 3 0 rfl rfl (by rw [hb7]; rfl) rfl
    refine TO.s rfl rfl rfl (StepS.assign rfl) ?_
    refine TO.code ?_
    cases hm
    refine TC.ret fun a w e s => ?_
    refine FRet.mk1 (P := Try.prog) (fn := Try.f5) (t := 2) e rfl rfl ?_
    exact ⟨rfl, s.mono fun _ => Sat.dropN 0⟩
  · replace hm := cond_f hc6 hm
    refine TC.skipk ?_
    refine TC.k ?_
    refine TC.region ?_
    refine TO.s rfl rfl rfl (StepS.move rfl) ?_
    obtain ⟨⟨r8, r9⟩, hc10, hm⟩ := bind_some hm
    refine TO.callO kcallB_18_true rfl rfl rfl (fun _ st => C18 e0 Ent.nil hc10 st) ?_
    rintro _ _ ⟨v11, A12, ea13, rfl, rfl⟩
    refine TO.s rfl rfl rfl (StepS.move rfl) ?_
    refine TO.s rfl rfl rfl (StepS.extract rfl rfl) ?_
    refine TO.s rfl rfl rfl (StepS.extract rfl rfl) ?_
    refine TO.s rfl rfl rfl (StepS.assign rfl) ?_
    refine TO.s rfl rfl rfl (StepS.assign rfl) ?_
    refine TO.code ?_
    refine TC.k ?_
    refine TC.region ?_
    refine TO.s rfl rfl rfl (StepS.move rfl) ?_
    refine TO.s rfl rfl rfl (StepS.cmp rfl rfl rfl) ?_
    refine TO.s rfl rfl rfl (StepS.move rfl) ?_
    refine TO.mid1 4 35 (.bool ((r2 == 0) && (r1 == r9))) ?_ ?_
    · refine bcase ((r2 == 0)) (fun hb15 => ?_) (fun hb15 => ?_)
      · refine TO.sw rfl rfl rfl hb15 rfl rfl (StepS.move rfl) ?_
        refine TO.sw rfl rfl rfl hb15 rfl rfl (StepS.move rfl) ?_
        refine TO.sw rfl rfl rfl hb15 rfl rfl (StepS.eqB kunderlying_4_some_bool rfl rfl) ?_
        refine TO.s rfl rfl rfl (StepS.pickT rfl hb15 rfl) ?_
        exact TO.up1 4 0 rfl rfl (by rw [hb15]; rfl) rfl
      · refine TO.skip rfl rfl rfl (skipF hb15) rfl rfl ?_
        refine TO.skip rfl rfl rfl (skipF hb15) rfl rfl ?_
        refine TO.skip rfl rfl rfl (skipF hb15) rfl rfl ?_
        refine TO.s rfl rfl rfl (StepS.pickF rfl hb15 rfl) ?_
        exact TO.up1 4 0 rfl rfl (by rw [hb15]; rfl) rfl
    refine TO.s rfl rfl rfl (StepS.assign rfl) ?_
    refine TO.code ?_
    cases hm
    refine TC.ret fun a w e s => ?_
    refine FRet.mk1 (P := Try.prog) (fn := Try.f5) (t := 2) e rfl rfl ?_
    exact ⟨rfl, s.mono fun _ => Sat.dropN 1⟩

set_option maxRecDepth 100000 in
theorem C48 {B : World} {L : List HP} {a0 : Int × Int × Int × Bool × Int} {a1 : Int × Int × Int × Bool × Int} {r0 : Bool} (hm : F48 a0 a1 = some r0) {w : World} (st : St B L w) : Calls Try.prog 48 #[.agg (cTiiibi a0).toArray, .agg (cTiiibi a1).toArray] w (fun e w' => (e = .returned (.bool r0) ∧ St B (L) w')) := by
  refine calls_of (N := 13) (L := L) (args := [.agg (cTiiibi a0).toArray, .agg (cTiiibi a1).toArray]) Try.func48 rfl rfl rfl ?_ st
  dsimp only [F48] at hm
  refine TC.k ?_
  refine TC.region ?_
  refine TO.box (cs := [I a0.1, I a0.2.1, I a0.2.2.1, .bool a0.2.2.2.1, I a0.2.2.2.2]) rfl rfl rfl fun b1 => ?_
  refine TO.box (cs := [I a1.1, I a1.2.1, I a1.2.2.1, .bool a1.2.2.2.1, I a1.2.2.2.2]) rfl rfl rfl fun b2 => ?_
  refine TO.s rfl rfl rfl (StepS.assign rfl) ?_
  refine TO.code ?_
  refine TC.k ?_
  refine TC.region ?_
  refine TO.s rfl rfl rfl (StepS.ldBA rfl (Ent.at 1 rfl) kaggB_62_5_true rfl rfl) ?_
  refine TO.s rfl rfl rfl (StepS.ldBA rfl (Ent.at 0 rfl) kaggB_62_5_true rfl rfl) ?_
  obtain ⟨r3, hc4, hm⟩ := bind_some hm
  refine TO.q rfl rfl rfl (StepQ.call kcallB_47_true rfl rfl (fun _ st => C47  hc4 st)) ?_
  refine TO.s rfl rfl rfl (StepS.move rfl) ?_
  obtain ⟨b6, hj7, hm⟩ := bind_some hm
  refine TO.mid1 4 12 (.bool b6) ?_ ?_
  · refine bcase (r3) (fun hb5 => ?_) (fun hb5 => ?_)
    · replace hj7 := cond_t hb5 hj7
      cases hj7
      refine TO.skip rfl rfl rfl (skipT hb5) rfl rfl ?_
      refine TO.skip rfl rfl rfl (skipT hb5) rfl rfl ?_
      refine TO.skip rfl rfl rfl (skipT hb5) rfl rfl ?_
      refine TO.s rfl rfl rfl (StepS.pickT rfl hb5 rfl) ?_
      exact TO.up1 4 0 rfl rfl rfl rfl
    · replace hj7 := cond_f hb5 hj7
      refine TO.sw rfl rfl rfl hb5 rfl rfl (StepS.ldBA rfl (Ent.at 1 rfl) kaggB_62_5_true rfl rfl) ?_
      refine TO.sw rfl rfl rfl hb5 rfl rfl (StepS.ldBA rfl (Ent.at 0 rfl) kaggB_62_5_true rfl rfl) ?_
      obtain ⟨r8, hc9, hj7⟩ := bind_some hj7
      refine TO.qw rfl rfl rfl hb5 rfl rfl (StepQ.call kcallB_44_true rfl rfl (fun _ st => C44  hc9 st)) ?_
      cases hj7
      refine TO.s rfl rfl rfl (StepS.pickF rfl hb5 rfl) ?_
      exact TO.up1 4 0 rfl rfl rfl rfl
  refine TO.s rfl rfl rfl (StepS.assign rfl) ?_
  refine TO.code ?_
  cases hm
  refine TC.ret fun a w e s => ?_
  refine FRet.mk1 (P := Try.prog) (fn := Try.f48) (t := 4) e rfl rfl ?_
  exact ⟨rfl, s.mono fun _ => Sat.dropN 2⟩

set_option maxRecDepth 100000 in
theorem C20 {B : World} {L : List HP} {a0 : List (Int × Int × Int × Bool × Int)} {h0 : Value} {r0 : List Int} {r1 : Int} (e0 : Ent L (Rd 5 h0 (a0.map cTiiibi))) (hm : F20 a0 = some (r0, r1)) {w : World} (st : St B L w) : Calls Try.prog 20 #[h0] w (fun e w' => ∃ v M, e = .returned v ∧ (∃ (qv1 : Value), v = .tuple #[qv1, I r1] ∧ M = (OwnS 3 1 qv1 (r0.map cI) :: L)) ∧ St B M w') := by
  refine calls_of (N := 20) (L := L) (args := [h0]) Try.func20 rfl rfl rfl ?_ st
  dsimp only [F20] at hm
  refine TC.k ?_
  refine TC.region ?_
  refine TO.s rfl rfl rfl (StepS.assign rfl) ?_
  refine TO.s rfl rfl rfl (StepS.assign rfl) ?_
  refine TO.code ?_
  refine TC.k ?_
  refine TC.k ?_
  refine TC.region ?_
  refine TO.s rfl rfl rfl (StepS.move rfl) ?_
  obtain ⟨r2, hc3, hm⟩ := bind_some hm
  refine TO.q rfl rfl rfl (StepQ.call kcallB_15_true rfl rfl (fun _ st => C15 e0 hc3 st)) ?_
  refine TO.s rfl rfl rfl (StepS.assign rfl) ?_
  refine TO.code ?_
  refine TC.k ?_
  refine TC.region ?_
  refine TO.s rfl rfl rfl (StepS.move rfl) ?_
  refine TO.s rfl rfl rfl (StepS.cmp rfl rfl rfl) ?_
  refine TO.code ?_
  refine TC.cond rfl (fun hc4 => ?_) (fun hc4 => ?_)
  · replace hm := cond_t hc4 hm
    refine TC.k ?_
    refine TC.region ?_
    refine TO.s rfl rfl rfl (StepS.move rfl) ?_
    refine TO.s rfl rfl rfl (StepS.assign rfl) ?_
    refine TO.s rfl rfl rfl (StepS.assign rfl) ?_
    refine TO.code ?_
    cases hm
    refine TC.ret fun a w e s => ?_
    refine FRet.mk2 (P := Try.prog) (fn := Try.f20) (t := 2) (u := 3) e rfl rfl rfl ?_
    refine ⟨_, _, rfl, ⟨(.slice none 0 0), rfl, rfl⟩, ?_⟩
    refine s.mono fun _ s => ?_
    replace s := Sat.nilS (e := 3) (sz := 1) (f := cI) s
    exact s
  · replace hm := cond_f hc4 hm
    refine TC.skipk ?_
    refine TC.k ?_
    refine TC.region ?_
    refine TO.s rfl rfl rfl (StepS.move rfl) ?_
    obtain ⟨⟨r5, r6⟩, hc7, hm⟩ := bind_some hm
    refine TO.callO kcallB_43_true rfl rfl rfl (fun _ st => C43 e0 ⟨48, #[], #[], rfl, kcallB_48_true, fun _ hx z r hm w st => C48  hm st⟩ hc7 st) ?_
    rintro _ _ ⟨v8, rfl, rfl⟩
    refine TO.s rfl rfl rfl (StepS.move rfl) ?_
    refine TO.s rfl rfl rfl (StepS.extract rfl rfl) ?_
    refine TO.s rfl rfl rfl (StepS.extract rfl rfl) ?_
    refine TO.s rfl rfl rfl (StepS.assign rfl) ?_
    refine TO.s rfl rfl rfl (StepS.assign rfl) ?_
    refine TO.code ?_
    refine TC.k ?_
    refine TC.k ?_
    refine TC.region ?_
    refine TO.s rfl rfl rfl (StepS.move rfl) ?_
    refine TO.s rfl rfl rfl (StepS.not rfl) ?_
    refine TO.code ?_
    refine TC.cond rfl (fun hc10 => ?_) (fun hc10 => ?_)
    · replace hm := cond_t hc10 hm
      refine TC.k ?_
      refine TC.region ?_
      refine TO.s rfl rfl rfl (StepS.assign rfl) ?_
      refine TO.s rfl rfl rfl (StepS.assign rfl) ?_
      refine TO.code ?_
      cases hm
      refine TC.ret fun a w e s => ?_
      refine FRet.mk2 (P := Try.prog) (fn := Try.f20) (t := 2) (u := 3) e rfl rfl rfl ?_
      refine ⟨_, _, rfl, ⟨(.slice none 0 0), rfl, rfl⟩, ?_⟩
      refine s.mono fun _ s => ?_
      replace s := Sat.nilS (e := 3) (sz := 1) (f := cI) s
      replace s := Sat.erase 1 s
      exact s
    · replace hm := cond_f hc10 hm
      refine TC.skipk ?_
      refine TC.k ?_
      refine TC.region ?_
      refine TO.s rfl rfl rfl (StepS.move rfl) ?_
      refine TO.s rfl rfl rfl (StepS.assign rfl) ?_
      refine TO.s rfl rfl rfl (StepS.assign rfl) ?_
      refine TO.code ?_
      cases hm
      refine TC.ret fun a w e s => ?_
      refine FRet.mk2 (P := Try.prog) (fn := Try.f20) (t := 2) (u := 3) e rfl rfl rfl ?_
      refine ⟨_, _, rfl, ⟨(v8), rfl, rfl⟩, ?_⟩
      refine s.mono fun _ s => ?_
      replace s := Sat.front 0 rfl s
      exact s

set_option maxRecDepth 100000 in
theorem C21 {B : World} {L : List HP} {a0 : List Int} {a1 : List Int} {h0 : Value} {h1 : Value} {r0 : Bool} (e0 : Ent L (Rd 1 h0 (a0.map cI))) (e1 : Ent L (Rd 1 h1 (a1.map cI))) (hm : F21 a0 a1 = some r0) {w : World} (st : St B L w) : Calls Try.prog 21 #[h0, h1] w (fun e w' => (e = .returned (.bool r0) ∧ St B (L) w')) := by
  refine calls_of (N := 26) (L := L) (args := [h0, h1]) Try.func21 rfl rfl rfl ?_ st
  dsimp only [F21] at hm
  refine TC.k ?_
  refine TC.region ?_
  refine TO.s rfl rfl rfl (StepS.assign rfl) ?_
  refine TO.code ?_
  refine TC.k ?_
  refine TC.k ?_
  refine TC.region ?_
  refine TO.s rfl rfl rfl (StepS.move rfl) ?_
  refine TO.s rfl rfl rfl (StepS.lenm rfl e0 ksliceB_28_3_1_true rfl) ?_
  refine TO.s rfl rfl rfl (StepS.move rfl) ?_
  refine TO.s rfl rfl rfl (StepS.lenm rfl e1 ksliceB_28_3_1_true rfl) ?_
  refine TO.s rfl rfl rfl (StepS.cmp rfl rfl rfl) ?_
  refine TO.code ?_
  refine TC.cond rfl (fun hc1 => ?_) (fun hc1 => ?_)
  · replace hm := cond_t hc1 hm
    refine TC.k ?_
    refine TC.region ?_
    refine TO.s rfl rfl rfl (StepS.assign rfl) ?_
    refine TO.code ?_
    cases hm
    refine TC.ret fun a w e s => ?_
    refine FRet.mk1 (P := Try.prog) (fn := Try.f21) (t := 4) e rfl rfl ?_
    exact ⟨rfl, s.mono fun _ => Sat.dropN 0⟩
  · replace hm := cond_f hc1 hm
    refine TC.skipk ?_
    refine TC.k ?_
    refine TC.k ?_
    refine TC.region ?_
    refine TO.s rfl rfl rfl (StepS.assign rfl) ?_
    refine TO.code ?_
    obtain ⟨o4, hw5, hm⟩ := bind_some hm
    refine TC.loop hw5 (fun x2 => fun a w => Mid 26 B [(0, h0), (1, h1), (5, I x2)] (L) a w) (fun _ => fun a w => Mid 26 B [] (L) a w) (fun r0 => FRet Try.prog Try.f21 (fun e w' => (e = .returned (.bool r0) ∧ St B (L) w'))) ?_ ?_ ?_ ?_
    · rintro x2 o4r hb6 a w ⟨he, hs⟩
      dsimp only [F21_L0] at hb6
      refine TC.use ?_ he hs
      refine TC.k ?_
      refine TC.k ?_
      refine TC.region ?_
      refine TO.s rfl rfl rfl (StepS.move rfl) ?_
      refine TO.s rfl rfl rfl (StepS.move rfl) ?_
      refine TO.s rfl rfl rfl (StepS.lenm rfl e0 ksliceB_28_3_1_true rfl) ?_
      refine TO.s rfl rfl rfl (StepS.cmp rfl rfl rfl) ?_
      refine TO.code ?_
      refine TC.cond rfl (fun hc7 => ?_) (fun hc7 => ?_)
      · replace hb6 := cond_t hc7 hb6
        refine TC.skipk ?_
        refine TC.k ?_
        refine TC.block ?_
        refine TC.k ?_
        refine TC.region_still kfollows_mixedOrders_true (by kernel_rfl) ?_
        refine TS.s rfl rfl rfl (StepS.move rfl) ?_
        refine TS.s rfl rfl rfl (StepS.move rfl) ?_
        obtain ⟨x8, hx9, hb6⟩ := bind_some hb6
        refine TS.s rfl rfl rfl (StepS.idx rfl rfl e0 ksliceB_28_3_1_true (idx_spec hx9).1 (idxm_lt hx9)) ?_
        refine TS.s rfl rfl rfl (StepS.ld0 rfl e0 kscalB_3_true rfl (idxm hx9) rfl) ?_
        refine TS.s rfl rfl rfl (StepS.move rfl) ?_
        refine TS.s rfl rfl rfl (StepS.move rfl) ?_
        obtain ⟨x10, hx11, hb6⟩ := bind_some hb6
        refine TS.s rfl rfl rfl (StepS.idx rfl rfl e1 ksliceB_28_3_1_true (idx_spec hx11).1 (idxm_lt hx11)) ?_
        refine TS.s rfl rfl rfl (StepS.ld0 rfl e1 kscalB_3_true rfl (idxm hx11) rfl) ?_
        refine TS.s rfl rfl rfl (StepS.cmp rfl rfl rfl) ?_
        refine TS.code ?_
        refine TC.cond rfl (fun hc12 => ?_) (fun hc12 => ?_)
        · replace hb6 := cond_t hc12 hb6
          refine TC.k ?_
          refine TC.region ?_
          refine TO.s rfl rfl rfl (StepS.assign rfl) ?_
          refine TO.code ?_
          cases hb6
          refine TC.ret fun a w e s => ?_
          refine FRet.mk1 (P := Try.prog) (fn := Try.f21) (t := 4) e rfl rfl ?_
          exact ⟨rfl, s.mono fun _ => Sat.dropN 0⟩
        · replace hb6 := cond_f hc12 hb6
          refine TC.skipk ?_
          refine TC.region ?_
          refine TO.s rfl rfl rfl (StepS.move rfl) ?_
          refine TO.s rfl rfl rfl (StepS.ari rfl rfl rfl) ?_
          refine TO.s rfl rfl rfl (StepS.assign rfl) ?_
          cases hb6
          refine TO.nil fun a w e s => ?_
          exact ⟨e.sub (lk_of_allIn ⟨rfl, rfl, rfl, trivial⟩), s⟩
      · replace hb6 := cond_f hc7 hb6
        cases hb6
        refine TC.exit rfl fun a w e s => ?_
        exact ⟨e.sub (lk_of_allIn trivial), s⟩
    · exact fun a w e s => ⟨e.sub (lk_of_allIn ⟨rfl, rfl, rfl, trivial⟩), s⟩
    · rintro _ rfl a w ⟨he, hs⟩
      dsimp only [Ctl.on] at hm
      refine TC.use ?_ he hs
      refine TC.k ?_
      refine TC.region ?_
      refine TO.s rfl rfl rfl (StepS.assign rfl) ?_
      refine TO.code ?_
      cases hm
      refine TC.ret fun a w e s => ?_
      refine FRet.mk1 (P := Try.prog) (fn := Try.f21) (t := 4) e rfl rfl ?_
      exact ⟨rfl, s.mono fun _ => Sat.dropN 0⟩
    · rintro r rfl
      cases hm
      exact fun a w h => h

set_option maxRecDepth 100000 in
theorem C6 {B : World} {L : List HP} {a0 : List (Int × Int × Int × Bool × Int)} {h0 : Value} {r0 : Bool} (e0 : Ent L (Rd 5 h0 (a0.map cTiiibi))) (hm : F6 a0 = some r0) {w : World} (st : St B L w) : Calls Try.prog 6 #[h0] w (fun e w' => (e = .returned (.bool r0) ∧ St B (L) w')) := by
  refine calls_of (N := 46) (L := L) (args := [h0]) Try.func6 rfl rfl rfl ?_ st
  dsimp only [F6] at hm
  refine TC.k ?_
  refine TC.region ?_
  refine TO.s rfl rfl rfl (StepS.assign rfl) ?_
  refine TO.code ?_
  refine TC.k ?_
  refine TC.region ?_
  refine TO.s rfl rfl rfl (StepS.move rfl) ?_
  obtain ⟨⟨r1, r2⟩, hc3, hm⟩ := bind_some hm
  refine TO.callO kcallB_20_true rfl rfl rfl (fun _ st => C20 e0 hc3 st) ?_
  rintro _ _ ⟨v4, rfl, rfl⟩
  refine TO.s rfl rfl rfl (StepS.move rfl) ?_
  refine TO.s rfl rfl rfl (StepS.extract rfl rfl) ?_
  refine TO.s rfl rfl rfl (StepS.extract rfl rfl) ?_
  refine TO.s rfl rfl rfl (StepS.assign rfl) ?_
  refine TO.s rfl rfl rfl (StepS.assign rfl) ?_
  refine TO.code ?_
  refine TC.k ?_
  refine TC.region ?_
  refine TO.s rfl rfl rfl (StepS.move rfl) ?_
  obtain ⟨r6, hc7, hm⟩ := bind_some hm
  refine TO.q rfl rfl rfl (StepQ.call kcallB_16_true rfl rfl (fun _ st => C16 e0.tl hc7 st)) ?_
  refine TO.s rfl rfl rfl (StepS.assign rfl) ?_
  refine TO.code ?_
  refine TC.k ?_
  refine TC.k ?_
  refine TC.region ?_
  refine TO.s rfl rfl rfl (StepS.move rfl) ?_
  refine TO.s rfl rfl rfl (StepS.cmp rfl rfl rfl) ?_
  refine TO.code ?_
  refine TC.cond rfl (fun hc8 => ?_) (fun hc8 => ?_)
  · replace hm := cond_t hc8 hm
    refine TC.k ?_
    refine TC.region ?_
    refine TO.s rfl rfl rfl (StepS.move rfl) ?_
    refine TO.s rfl rfl rfl (StepS.move rfl) ?_
    refine TO.s rfl rfl rfl (StepS.cmp rfl rfl rfl) ?_
    refine TO.s rfl rfl rfl (StepS.move rfl) ?_
    refine TO.mid1 4 24 (.bool ((r2 == r6) && ((r1.length : Int) == 0))) ?_ ?_
    · refine bcase ((r2 == r6)) (fun hb9 => ?_) (fun hb9 => ?_)
      · refine TO.sw rfl rfl rfl hb9 rfl rfl (StepS.move rfl) ?_
        refine TO.sw rfl rfl rfl hb9 rfl rfl (StepS.lenm rfl (OwnS.rd (Ent.at 0 rfl)) ksliceB_28_3_1_true rfl) ?_
        refine TO.sw rfl rfl rfl hb9 rfl rfl (StepS.cmp rfl rfl rfl) ?_
        refine TO.s rfl rfl rfl (StepS.pickT rfl hb9 rfl) ?_
        exact TO.up1 4 0 rfl rfl (by rw [hb9]; rfl) rfl
      · refine TO.skip rfl rfl rfl (skipF hb9) rfl rfl ?_
        refine TO.skip rfl rfl rfl (skipF hb9) rfl rfl ?_
        refine TO.skip rfl rfl rfl (skipF hb9) rfl rfl ?_
        refine TO.s rfl rfl rfl (StepS.pickF rfl hb9 rfl) ?_
        exact TO.up1 4 0 rfl rfl (by rw [hb9]; rfl) rfl
    refine TO.s rfl rfl rfl (StepS.assign rfl) ?_
    refine TO.code ?_
    cases hm
    refine TC.ret fun a w e s => ?_
    refine FRet.mk1 (P := Try.prog) (fn := Try.f6) (t := 2) e rfl rfl ?_
    exact ⟨rfl, s.mono fun _ => Sat.dropN 1⟩
  · replace hm := cond_f hc8 hm
    refine TC.skipk ?_
    refine TC.k ?_
    refine TC.region ?_
    refine TO.s rfl rfl rfl (StepS.move rfl) ?_
    obtain ⟨⟨r10, r11⟩, hc12, hm⟩ := bind_some hm
    refine TO.callO kcallB_18_true rfl rfl rfl (fun _ st => C18 e0.tl Ent.nil hc12 st) ?_
    rintro _ _ ⟨v13, A14, ea15, rfl, rfl⟩
    refine TO.s rfl rfl rfl (StepS.move rfl) ?_
    refine TO.s rfl rfl rfl (StepS.extract rfl rfl) ?_
    refine TO.s rfl rfl rfl (StepS.extract rfl rfl) ?_
    refine TO.s rfl rfl rfl (StepS.assign rfl) ?_
    refine TO.s rfl rfl rfl (StepS.assign rfl) ?_
    refine TO.code ?_
    refine TC.k ?_
    refine TC.k ?_
    refine TC.region ?_
    refine TO.s rfl rfl rfl (StepS.move rfl) ?_
    refine TO.s rfl rfl rfl (StepS.not rfl) ?_
    refine TO.code ?_
    refine TC.cond rfl (fun hc17 => ?_) (fun hc17 => ?_)
    · replace hm := cond_t hc17 hm
      refine TC.k ?_
      refine TC.region ?_
      refine TO.s rfl rfl rfl (StepS.move rfl) ?_
      refine TO.s rfl rfl rfl (StepS.cmp rfl rfl rfl) ?_
      refine TO.s rfl rfl rfl (StepS.move rfl) ?_
      refine TO.mid1 4 38 (.bool ((r2 == 5) && ((r1.length : Int) == 0))) ?_ ?_
      · refine bcase ((r2 == 5)) (fun hb18 => ?_) (fun hb18 => ?_)
        · refine TO.sw rfl rfl rfl hb18 rfl rfl (StepS.move rfl) ?_
          refine TO.sw rfl rfl rfl hb18 rfl rfl (StepS.lenm rfl (OwnS.rd (Ent.at 1 rfl)) ksliceB_28_3_1_true rfl) ?_
          refine TO.sw rfl rfl rfl hb18 rfl rfl (StepS.cmp rfl rfl rfl) ?_
          refine TO.s rfl rfl rfl (StepS.pickT rfl hb18 rfl) ?_
          exact TO.up1 4 0 rfl rfl (by rw [hb18]; rfl) rfl
        · refine TO.skip rfl rfl rfl (skipF hb18) rfl rfl ?_
          refine TO.skip rfl rfl rfl (skipF hb18) rfl rfl ?_
          refine TO.skip rfl rfl rfl (skipF hb18) rfl rfl ?_
          refine TO.s rfl rfl rfl (StepS.pickF rfl hb18 rfl) ?_
          exact TO.up1 4 0 rfl rfl (by rw [hb18]; rfl) rfl
      refine TO.s rfl rfl rfl (StepS.assign rfl) ?_
      refine TO.code ?_
      cases hm
      refine TC.ret fun a w e s => ?_
      refine FRet.mk1 (P := Try.prog) (fn := Try.f6) (t := 2) e rfl rfl ?_
      exact ⟨rfl, s.mono fun _ => Sat.dropN 2⟩
    · replace hm := cond_f hc17 hm
      refine TC.skipk ?_
      refine TC.k ?_
      refine TC.region ?_
      refine TO.s rfl rfl rfl (StepS.move rfl) ?_
      refine TO.s rfl rfl rfl (StepS.cmp rfl rfl rfl) ?_
      refine TO.s rfl rfl rfl (StepS.move rfl) ?_
      obtain ⟨b20, hj21, hm⟩ := bind_some hm
      refine TO.mid1 4 45 (.bool b20) ?_ ?_
      · refine bcase ((r2 == 0)) (fun hb19 => ?_) (fun hb19 => ?_)
        · replace hj21 := cond_t hb19 hj21
          refine TO.sw rfl rfl rfl hb19 rfl rfl (StepS.move rfl) ?_
          refine TO.sw rfl rfl rfl hb19 rfl rfl (StepS.move rfl) ?_
          obtain ⟨r22, hc23, hj21⟩ := bind_some hj21
          refine TO.qw rfl rfl rfl hb19 rfl rfl (StepQ.call kcallB_21_true rfl rfl (fun _ st => C21 (OwnS.rd (Ent.at 1 rfl)) ea15 hc23 st)) ?_
          cases hj21
          refine TO.s rfl rfl rfl (StepS.pickT rfl hb19 rfl) ?_
          exact TO.up1 4 0 rfl rfl rfl rfl
        · replace hj21 := cond_f hb19 hj21
          cases hj21
          refine TO.skip rfl rfl rfl (skipF hb19) rfl rfl ?_
          refine TO.skip rfl rfl rfl (skipF hb19) rfl rfl ?_
          refine TO.skip rfl rfl rfl (skipF hb19) rfl rfl ?_
          refine TO.s rfl rfl rfl (StepS.pickF rfl hb19 rfl) ?_
          exact TO.up1 4 0 rfl rfl rfl rfl
      refine TO.s rfl rfl rfl (StepS.assign rfl) ?_
      refine TO.code ?_
      cases hm
      refine TC.ret fun a w e s => ?_
      refine FRet.mk1 (P := Try.prog) (fn := Try.f6) (t := 2) e rfl rfl ?_
      exact ⟨rfl, s.mono fun _ => Sat.dropN 2⟩
end Go.Proofs.Ytmlfflaelbofmaa
