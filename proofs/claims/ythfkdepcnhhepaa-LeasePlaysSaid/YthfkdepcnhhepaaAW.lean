/-
  The walks: each Go function returns what its model says. Written by a program (gen.py).
-/
import Derived.Test.YthfkdepcnhhepaaProg
import Derived.KernelRfl
import Derived.Test.YthfkdepcnhhepaaAM
namespace Go.Proofs.Ythfkdepcnhhepaa
open Go Go.Bk
set_option linter.unusedVariables false
set_option linter.unnecessarySimpa false
theorem ksliceB_22_3_1_true : sliceB Try.prog 22 3 1 = true := by kernel_rfl
theorem kscalB_3_true : scalB Try.prog 3 = true := by kernel_rfl
theorem kcallB_87_true : callB Try.prog 87 = true := by kernel_rfl
theorem kfollows_mixedOrders_true : Try.prog.follows .mixedOrders = true := by kernel_rfl
theorem kfieldB_104_0_0_true : fieldB Try.prog 104 0 0 = true := by kernel_rfl
theorem kfieldB_104_1_1_true : fieldB Try.prog 104 1 1 = true := by kernel_rfl
theorem kinfo_27_bind_zero_some_agg_slice_none_0_0_slice_none_0_0_slice_none_0_0 : (Try.prog.info? 27).bind (·.zero) = some (.agg #[.slice none 0 0, .slice none 0 0, .slice none 0 0]) := by kernel_rfl
theorem ksliceB_23_106_4_true : sliceB Try.prog 23 106 4 = true := by kernel_rfl
theorem ksizeB_27_3_true : sizeB Try.prog 27 3 = true := by kernel_rfl
theorem kaggB_27_3_true : aggB Try.prog 27 3 = true := by kernel_rfl
theorem kcallB_50_true : callB Try.prog 50 = true := by kernel_rfl
theorem kcallB_49_true : callB Try.prog 49 = true := by kernel_rfl
theorem kinfo_104_bind_zero_some_agg_I_0_I_0 : (Try.prog.info? 104).bind (·.zero) = some (.agg #[I 0, I 0]) := by kernel_rfl
theorem ksizeB_104_2_true : sizeB Try.prog 104 2 = true := by kernel_rfl
theorem kaggB_106_4_true : aggB Try.prog 106 4 = true := by kernel_rfl
theorem kinfo_106_bind_zero_some_agg_I_0_I_0_I_0_I_0 : (Try.prog.info? 106).bind (·.zero) = some (.agg #[I 0, I 0, I 0, I 0]) := by kernel_rfl
theorem ksizeB_106_4_true : sizeB Try.prog 106 4 = true := by kernel_rfl
theorem kfieldB_106_0_0_true : fieldB Try.prog 106 0 0 = true := by kernel_rfl
theorem kfieldB_106_3_3_true : fieldB Try.prog 106 3 3 = true := by kernel_rfl
theorem ksizeB_3_1_true : sizeB Try.prog 3 1 = true := by kernel_rfl
theorem kfieldB_106_2_2_true : fieldB Try.prog 106 2 2 = true := by kernel_rfl
theorem kaggB_104_2_true : aggB Try.prog 104 2 = true := by kernel_rfl
theorem kcallB_51_true : callB Try.prog 51 = true := by kernel_rfl
theorem kcallB_52_true : callB Try.prog 52 = true := by kernel_rfl
theorem kfieldB_27_0_0_true : fieldB Try.prog 27 0 0 = true := by kernel_rfl
theorem kscalB_24_true : scalB Try.prog 24 = true := by kernel_rfl
theorem kelemB_24_28_1_8_true : elemB Try.prog 24 28 1 8 = true := by kernel_rfl
theorem kinfo_28_bind_zero_some_I_0 : (Try.prog.info? 28).bind (·.zero) = some (I 0) := by kernel_rfl
theorem kfieldB_27_1_1_true : fieldB Try.prog 27 1 1 = true := by kernel_rfl
theorem kscalB_25_true : scalB Try.prog 25 = true := by kernel_rfl
theorem kelemB_25_36_1_4_true : elemB Try.prog 25 36 1 4 = true := by kernel_rfl
theorem kinfo_36_bind_zero_some_U_0 : (Try.prog.info? 36).bind (·.zero) = some (U 0) := by kernel_rfl
theorem kfieldB_27_2_2_true : fieldB Try.prog 27 2 2 = true := by kernel_rfl
theorem ksizeB_24_1_true : sizeB Try.prog 24 1 = true := by kernel_rfl
theorem ksizeB_25_1_true : sizeB Try.prog 25 1 = true := by kernel_rfl
theorem kcallB_21_true : callB Try.prog 21 = true := by kernel_rfl
theorem kelemB_22_3_1_8_true : elemB Try.prog 22 3 1 8 = true := by kernel_rfl
theorem kinfo_3_bind_zero_some_I_0 : (Try.prog.info? 3).bind (·.zero) = some (I 0) := by kernel_rfl
theorem kintB_3_i64_true : intB Try.prog 3 .i64 = true := by kernel_rfl
theorem kintB_108_u64_true : intB Try.prog 108 .u64 = true := by kernel_rfl
theorem ksliceB_24_28_1_true : sliceB Try.prog 24 28 1 = true := by kernel_rfl
theorem kscalB_28_true : scalB Try.prog 28 = true := by kernel_rfl
theorem ksliceB_25_36_1_true : sliceB Try.prog 25 36 1 = true := by kernel_rfl
theorem kscalB_36_true : scalB Try.prog 36 = true := by kernel_rfl
theorem kcallB_15_true : callB Try.prog 15 = true := by kernel_rfl
theorem kcallB_16_true : callB Try.prog 16 = true := by kernel_rfl
theorem kcallB_17_true : callB Try.prog 17 = true := by kernel_rfl
theorem kcallB_18_true : callB Try.prog 18 = true := by kernel_rfl
theorem kcallB_19_true : callB Try.prog 19 = true := by kernel_rfl

set_option maxRecDepth 100000 in
theorem C87 {B : World} {L : List HP} {a0 : List Int} {a1 : Int → Option Bool} {h0 : Value} {h1 : Value} {r0 : Int} (e0 : Ent L (Rd 1 h0 (a0.map cI))) (e1 : FOk Try.prog B L h1 (fun (z : Int) => [I z]) (fun (z : Bool) => .bool z) a1) (hm : F87 a0 a1 = some r0) {w : World} (st : St B L w) : Calls Try.prog 87 #[h0, h1] w (fun e w' => (e = .returned (I r0) ∧ St B (L) w')) := by
  refine calls_of (N := 19) (L := L) (args := [h0, h1]) Try.func87 rfl rfl rfl ?_ st
  dsimp only [F87] at hm
  refine TC.k ?_
  refine TC.region ?_
  refine TO.s rfl rfl rfl (StepS.assign rfl) ?_
  refine TO.code ?_
  refine TC.k ?_
  refine TC.k ?_
  refine TC.region ?_
  refine TO.s rfl rfl rfl (StepS.move rfl) ?_
  refine TO.s rfl rfl rfl (StepS.lenm rfl e0 ksliceB_22_3_1_true rfl) ?_
  refine TO.s rfl rfl rfl (StepS.move rfl) ?_
  refine TO.code ?_
  obtain ⟨o3, hw4, hm⟩ := bind_some hm
  refine TC.loop hw4 (fun x1 => fun a w => Mid 19 B [(0, h0), (1, h1), (7, I (a0.length : Int)), (8, I x1)] (L) a w) (fun _ => fun a w => Mid 19 B [] (L) a w) (fun r0 => FRet Try.prog Try.f87 (fun e w' => (e = .returned (I r0) ∧ St B (L) w'))) ?_ ?_ ?_ ?_
  · rintro x1 o3r hb5 a w ⟨he, hs⟩
    dsimp only [F87_L0] at hb5
    refine TC.use ?_ he hs
    refine TC.k ?_
    refine TC.region ?_
    refine TO.s rfl rfl rfl (StepS.cmp rfl rfl rfl) ?_
    refine TO.code ?_
    refine TC.k ?_
    refine TC.cond rfl (fun hc6 => ?_) (fun hc6 => ?_)
    · replace hb5 := cond_t hc6 hb5
      refine TC.skipk ?_
      refine TC.k ?_
      refine TC.block ?_
      refine TC.k ?_
      refine TC.region ?_
      refine TO.s rfl rfl rfl (StepS.move rfl) ?_
      refine TO.s rfl rfl rfl (StepS.assign rfl) ?_
      refine TO.code ?_
      refine TC.k ?_
      refine TC.region ?_
      refine TO.s rfl rfl rfl (StepS.move rfl) ?_
      refine TO.s rfl rfl rfl (StepS.move rfl) ?_
      refine TO.s rfl rfl rfl (StepS.move rfl) ?_
      obtain ⟨x7, hx8, hb5⟩ := bind_some hb5
      refine TO.s rfl rfl rfl (StepS.idx rfl rfl e0 ksliceB_22_3_1_true (idx_spec hx8).1 (idxm_lt hx8)) ?_
      refine TO.s rfl rfl rfl (StepS.ld0 rfl e0 kscalB_3_true rfl (idxm hx8) rfl) ?_
      obtain ⟨r9, hc10, hb5⟩ := bind_some hb5
      refine TO.q rfl rfl rfl (StepQ.callF (x := x7) e1 (Ext.rfl) rfl rfl hc10) ?_
      refine TO.code ?_
      refine TC.cond rfl (fun hc11 => ?_) (fun hc11 => ?_)
      · replace hb5 := cond_t hc11 hb5
        refine TC.k ?_
        refine TC.region ?_
        refine TO.s rfl rfl rfl (StepS.move rfl) ?_
        refine TO.s rfl rfl rfl (StepS.assign rfl) ?_
        refine TO.code ?_
        cases hb5
        refine TC.ret fun a w e s => ?_
        refine FRet.mk1 (P := Try.prog) (fn := Try.f87) (t := 4) e rfl rfl ?_
        exact ⟨rfl, s.mono fun _ => Sat.dropN 0⟩
      · replace hb5 := cond_f hc11 hb5
        refine TC.skipk ?_
        refine TC.region ?_
        refine TO.s rfl rfl rfl (StepS.ari rfl rfl rfl) ?_
        refine TO.s rfl rfl rfl (StepS.move rfl) ?_
        cases hb5
        refine TO.nil fun a w e s => ?_
        exact ⟨e.sub (lk_of_allIn ⟨rfl, rfl, rfl, rfl, trivial⟩), s⟩
    · replace hb5 := cond_f hc6 hb5
      cases hb5
      refine TC.exit rfl fun a w e s => ?_
      exact ⟨e.sub (lk_of_allIn trivial), s⟩
  · exact fun a w e s => ⟨e.sub (lk_of_allIn ⟨rfl, rfl, rfl, rfl, trivial⟩), s⟩
  · rintro _ rfl a w ⟨he, hs⟩
    dsimp only [Ctl.on] at hm
    refine TC.use ?_ he hs
    refine TC.k ?_
    refine TC.region ?_
    refine TO.s rfl rfl rfl (StepS.assign rfl) ?_
    refine TO.code ?_
    cases hm
    refine TC.ret fun a w e s => ?_
    refine FRet.mk1 (P := Try.prog) (fn := Try.f87) (t := 4) e rfl rfl ?_
    exact ⟨rfl, s.mono fun _ => Sat.dropN 0⟩
  · rintro r rfl
    cases hm
    exact fun a w h => h

set_option maxRecDepth 100000 in
theorem C49 {B : World} {L : List HP} {a0 : List Int} {a1 : Int → Option Bool} {h0 : Value} {h1 : Value} {r0 : Bool} (e0 : Ent L (Rd 1 h0 (a0.map cI))) (e1 : FOk Try.prog B L h1 (fun (z : Int) => [I z]) (fun (z : Bool) => .bool z) a1) (hm : F49 a0 a1 = some r0) {w : World} (st : St B L w) : Calls Try.prog 49 #[h0, h1] w (fun e w' => (e = .returned (.bool r0) ∧ St B (L) w')) := by
  refine calls_of (N := 9) (L := L) (args := [h0, h1]) Try.func49 rfl rfl rfl ?_ st
  dsimp only [F49] at hm
  refine TC.k ?_
  refine TC.region ?_
  refine TO.s rfl rfl rfl (StepS.assign rfl) ?_
  refine TO.code ?_
  refine TC.k ?_
  refine TC.region ?_
  refine TO.s rfl rfl rfl (StepS.move rfl) ?_
  refine TO.s rfl rfl rfl (StepS.move rfl) ?_
  obtain ⟨r1, hc2, hm⟩ := bind_some hm
  refine TO.q rfl rfl rfl (StepQ.call kcallB_87_true rfl rfl (fun _ st => C87 e0 (e1.ext (Ext.rfl)) hc2 st)) ?_
  refine TO.s rfl rfl rfl (StepS.cmp rfl rfl rfl) ?_
  refine TO.s rfl rfl rfl (StepS.assign rfl) ?_
  refine TO.code ?_
  cases hm
  refine TC.ret fun a w e s => ?_
  refine FRet.mk1 (P := Try.prog) (fn := Try.f49) (t := 4) e rfl rfl ?_
  exact ⟨rfl, s.mono fun _ => Sat.dropN 0⟩

set_option maxRecDepth 100000 in
theorem C50 {B : World} {L : List HP} {a0 : Int} {r0 : Bool} (hm : F50 a0 = some r0) {w : World} (st : St B L w) : Calls Try.prog 50 #[I a0] w (fun e w' => (e = .returned (.bool r0) ∧ St B (L) w')) := by
  refine calls_of (N := 9) (L := L) (args := [I a0]) Try.func50 rfl rfl rfl ?_ st
  dsimp only [F50] at hm
  refine TC.k ?_
  refine TC.region ?_
  refine TO.s rfl rfl rfl (StepS.assign rfl) ?_
  refine TO.code ?_
  refine TC.k ?_
  refine TC.region ?_
  refine TO.s rfl rfl rfl (StepS.move rfl) ?_
  refine TO.s rfl rfl rfl (StepS.cmp rfl rfl rfl) ?_
  refine TO.s rfl rfl rfl (StepS.move rfl) ?_
  refine TO.mid1 3 8 (.bool ((decide (a0 < 9)) || (decide (a0 > 11)))) ?_ ?_
  · refine bcase ((decide (a0 < 9))) (fun hb1 => ?_) (fun hb1 => ?_)
    · refine TO.skip rfl rfl rfl (skipT hb1) rfl rfl ?_
      refine TO.skip rfl rfl rfl (skipT hb1) rfl rfl ?_
      refine TO.s rfl rfl rfl (StepS.pickT rfl hb1 rfl) ?_
      exact TO.up1 3 0 rfl rfl (by rw [hb1]; rfl) rfl
    · refine TO.sw rfl rfl rfl hb1 rfl rfl (StepS.move rfl) ?_
      refine TO.sw rfl rfl rfl hb1 rfl rfl (StepS.cmp rfl rfl rfl) ?_
      refine TO.s rfl rfl rfl (StepS.pickF rfl hb1 rfl) ?_
      exact TO.up1 3 0 rfl rfl (by rw [hb1]; rfl) rfl
  refine TO.s rfl rfl rfl (StepS.assign rfl) ?_
  refine TO.code ?_
  cases hm
  refine TC.ret fun a w e s => ?_
  refine FRet.mk1 (P := Try.prog) (fn := Try.f50) (t := 2) e rfl rfl ?_
  exact ⟨rfl, s.mono fun _ => Sat.dropN 0⟩

set_option maxRecDepth 100000 in
theorem C51 {B : World} {L : List HP} {a0 : Int × Int} {a1 : List Int} {a2 : Int} {h1 : Value} {r0 : Bool} (e1 : Ent L (Rd 1 h1 (a1.map cI))) (hm : F51 a0 a1 a2 = some r0) {w : World} (st : St B L w) : Calls Try.prog 51 #[.agg (cTii a0).toArray, h1, I a2] w (fun e w' => (e = .returned (.bool r0) ∧ St B (L) w')) := by
  refine calls_of (N := 20) (L := L) (args := [.agg (cTii a0).toArray, h1, I a2]) Try.func51 rfl rfl rfl ?_ st
  dsimp only [F51] at hm
  refine TC.k ?_
  refine TC.region ?_
  refine TO.box (cs := [I a0.1, I a0.2]) rfl rfl rfl fun b1 => ?_
  refine TO.s rfl rfl rfl (StepS.assign rfl) ?_
  refine TO.code ?_
  refine TC.k ?_
  refine TC.region_still kfollows_mixedOrders_true (by kernel_rfl) ?_
  refine TS.s rfl rfl rfl (StepS.fld rfl kfieldB_104_0_0_true) ?_
  refine TS.s rfl rfl rfl (StepS.ldB rfl (Ent.at 0 rfl) kscalB_3_true rfl) ?_
  refine TS.s rfl rfl rfl (StepS.cmp rfl rfl rfl) ?_
  refine TS.s rfl rfl rfl (StepS.move rfl) ?_
  obtain ⟨b3, hj4, hm⟩ := bind_some hm
  refine TS.mid1 9 19 (.bool b3) ?_ ?_
  · refine bcase ((decide (a0.1 > 0))) (fun hb2 => ?_) (fun hb2 => ?_)
    · replace hj4 := cond_t hb2 hj4
      refine TS.sw rfl rfl rfl hb2 rfl rfl (StepS.fld rfl kfieldB_104_1_1_true) ?_
      refine TS.sw rfl rfl rfl hb2 rfl rfl (StepS.ldB rfl (Ent.at 0 rfl) kscalB_3_true rfl) ?_
      refine TS.sw rfl rfl rfl hb2 rfl rfl (StepS.move rfl) ?_
      obtain ⟨x5, hx6, hj4⟩ := bind_some hj4
      refine TS.sw rfl rfl rfl hb2 rfl rfl (StepS.idx rfl rfl e1.tl ksliceB_22_3_1_true (idx_spec hx6).1 (idxm_lt hx6)) ?_
      refine TS.sw rfl rfl rfl hb2 rfl rfl (StepS.ld0 rfl e1.tl kscalB_3_true rfl (idxm hx6) rfl) ?_
      refine TS.sw rfl rfl rfl hb2 rfl rfl (StepS.ari rfl rfl rfl) ?_
      refine TS.sw rfl rfl rfl hb2 rfl rfl (StepS.move rfl) ?_
      refine TS.sw rfl rfl rfl hb2 rfl rfl (StepS.cmp rfl rfl rfl) ?_
      cases hj4
      refine TS.s rfl rfl rfl (StepS.pickT rfl hb2 rfl) ?_
      exact TS.up1 9 0 rfl rfl rfl rfl
    · replace hj4 := cond_f hb2 hj4
      cases hj4
      refine TS.skip rfl rfl rfl (skipF hb2) rfl rfl ?_
      refine TS.skip rfl rfl rfl (skipF hb2) rfl rfl ?_
      refine TS.skip rfl rfl rfl (skipF hb2) rfl rfl ?_
      refine TS.skip rfl rfl rfl (skipF hb2) rfl rfl ?_
      refine TS.skip rfl rfl rfl (skipF hb2) rfl rfl ?_
      refine TS.skip rfl rfl rfl (skipF hb2) rfl rfl ?_
      refine TS.skip rfl rfl rfl (skipF hb2) rfl rfl ?_
      refine TS.skip rfl rfl rfl (skipF hb2) rfl rfl ?_
      refine TS.s rfl rfl rfl (StepS.pickF rfl hb2 rfl) ?_
      exact TS.up1 9 0 rfl rfl rfl rfl
  refine TS.s rfl rfl rfl (StepS.assign rfl) ?_
  refine TS.code ?_
  cases hm
  refine TC.ret fun a w e s => ?_
  refine FRet.mk1 (P := Try.prog) (fn := Try.f51) (t := 6) e rfl rfl ?_
  exact ⟨rfl, s.mono fun _ => Sat.dropN 1⟩

set_option maxRecDepth 100000 in
theorem C52 {B : World} {L : List HP} {a0 : Int × Int} {a1 : List Int} {a2 : Int} {h1 : Value} {r0 : Bool} (e1 : Ent L (Rd 1 h1 (a1.map cI))) (hm : F52 a0 a1 a2 = some r0) {w : World} (st : St B L w) : Calls Try.prog 52 #[.agg (cTii a0).toArray, h1, I a2] w (fun e w' => (e = .returned (.bool r0) ∧ St B (L) w')) := by
  refine calls_of (N := 24) (L := L) (args := [.agg (cTii a0).toArray, h1, I a2]) Try.func52 rfl rfl rfl ?_ st
  dsimp only [F52] at hm
  refine TC.k ?_
  refine TC.region ?_
  refine TO.box (cs := [I a0.1, I a0.2]) rfl rfl rfl fun b1 => ?_
  refine TO.s rfl rfl rfl (StepS.assign rfl) ?_
  refine TO.code ?_
  refine TC.k ?_
  refine TC.region_still kfollows_mixedOrders_true (by kernel_rfl) ?_
  refine TS.s rfl rfl rfl (StepS.fld rfl kfieldB_104_0_0_true) ?_
  refine TS.s rfl rfl rfl (StepS.ldB rfl (Ent.at 0 rfl) kscalB_3_true rfl) ?_
  refine TS.s rfl rfl rfl (StepS.cmp rfl rfl rfl) ?_
  refine TS.s rfl rfl rfl (StepS.move rfl) ?_
  obtain ⟨b3, hj4, hm⟩ := bind_some hm
  refine TS.mid1 13 23 (.bool b3) ?_ ?_
  · refine bcase ((decide (a0.1 > 0))) (fun hb2 => ?_) (fun hb2 => ?_)
    · replace hj4 := cond_t hb2 hj4
      refine TS.sw rfl rfl rfl hb2 rfl rfl (StepS.fld rfl kfieldB_104_1_1_true) ?_
      refine TS.sw rfl rfl rfl hb2 rfl rfl (StepS.ldB rfl (Ent.at 0 rfl) kscalB_3_true rfl) ?_
      refine TS.sw rfl rfl rfl hb2 rfl rfl (StepS.move rfl) ?_
      refine TS.sw rfl rfl rfl hb2 rfl rfl (StepS.fld rfl kfieldB_104_0_0_true) ?_
      refine TS.sw rfl rfl rfl hb2 rfl rfl (StepS.ldB rfl (Ent.at 0 rfl) kscalB_3_true rfl) ?_
      obtain ⟨x5, hx6, hj4⟩ := bind_some hj4
      refine TS.sw rfl rfl rfl hb2 rfl rfl (StepS.idx rfl rfl e1.tl ksliceB_22_3_1_true (idx_spec hx6).1 (idxm_lt hx6)) ?_
      refine TS.sw rfl rfl rfl hb2 rfl rfl (StepS.ld0 rfl e1.tl kscalB_3_true rfl (idxm hx6) rfl) ?_
      refine TS.sw rfl rfl rfl hb2 rfl rfl (StepS.ari rfl rfl rfl) ?_
      refine TS.sw rfl rfl rfl hb2 rfl rfl (StepS.ari rfl rfl rfl) ?_
      refine TS.sw rfl rfl rfl hb2 rfl rfl (StepS.move rfl) ?_
      refine TS.sw rfl rfl rfl hb2 rfl rfl (StepS.ari rfl rfl rfl) ?_
      refine TS.sw rfl rfl rfl hb2 rfl rfl (StepS.cmp rfl rfl rfl) ?_
      cases hj4
      refine TS.s rfl rfl rfl (StepS.pickT rfl hb2 rfl) ?_
      exact TS.up1 13 0 rfl rfl rfl rfl
    · replace hj4 := cond_f hb2 hj4
      cases hj4
      refine TS.skip rfl rfl rfl (skipF hb2) rfl rfl ?_
      refine TS.skip rfl rfl rfl (skipF hb2) rfl rfl ?_
      refine TS.skip rfl rfl rfl (skipF hb2) rfl rfl ?_
      refine TS.skip rfl rfl rfl (skipF hb2) rfl rfl ?_
      refine TS.skip rfl rfl rfl (skipF hb2) rfl rfl ?_
      refine TS.skip rfl rfl rfl (skipF hb2) rfl rfl ?_
      refine TS.skip rfl rfl rfl (skipF hb2) rfl rfl ?_
      refine TS.skip rfl rfl rfl (skipF hb2) rfl rfl ?_
      refine TS.skip rfl rfl rfl (skipF hb2) rfl rfl ?_
      refine TS.skip rfl rfl rfl (skipF hb2) rfl rfl ?_
      refine TS.skip rfl rfl rfl (skipF hb2) rfl rfl ?_
      refine TS.skip rfl rfl rfl (skipF hb2) rfl rfl ?_
      refine TS.s rfl rfl rfl (StepS.pickF rfl hb2 rfl) ?_
      exact TS.up1 13 0 rfl rfl rfl rfl
  refine TS.s rfl rfl rfl (StepS.assign rfl) ?_
  refine TS.code ?_
  cases hm
  refine TC.ret fun a w e s => ?_
  refine FRet.mk1 (P := Try.prog) (fn := Try.f52) (t := 6) e rfl rfl ?_
  exact ⟨rfl, s.mono fun _ => Sat.dropN 1⟩

set_option maxHeartbeats 4000000 in
set_option maxRecDepth 100000 in
theorem C15 {B : World} {L : List HP} {a0 : List Int} {a1 : Int} {a2 : List (Int × Int × Int × Int)} {h0 : Value} {h2 : Value} {r0 : (List Int) × (List (BitVec 32)) × List (BitVec 32)} {r1 : Int} (e0 : Ent L (Rd 1 h0 (a0.map cI))) (e2 : Ent L (Rd 4 h2 (a2.map cTiiii))) (hm : F15 a0 a1 a2 = some (r0, r1)) {w : World} (st : St B L w) : Calls Try.prog 15 #[h0, I a1, h2] w (fun e w' => ∃ v M, e = .returned v ∧ (∃ (qv1 : Value) (qv2 : Value) (qv3 : Value), v = .tuple #[.agg #[qv1, qv2, qv3], I r1] ∧ M = (OwnS 28 1 qv1 (r0.1.map cI) :: OwnS 36 1 qv2 (r0.2.1.map cU) :: OwnS 36 1 qv3 (r0.2.2.map cU) :: L)) ∧ St B M w') := by
  refine calls_of (N := 134) (L := L) (args := [h0, I a1, h2]) Try.func15 rfl rfl rfl ?_ st
  dsimp only [F15] at hm
  refine TC.k ?_
  refine TC.region ?_
  refine TO.alloc kinfo_27_bind_zero_some_agg_slice_none_0_0_slice_none_0_0_slice_none_0_0 rfl rfl fun b4 => ?_
  refine TO.s rfl rfl rfl (StepS.assign rfl) ?_
  refine TO.code ?_
  refine TC.k ?_
  refine TC.k ?_
  refine TC.region ?_
  refine TO.s rfl rfl rfl (StepS.move rfl) ?_
  refine TO.s rfl rfl rfl (StepS.lenm rfl e0.tl ksliceB_22_3_1_true rfl) ?_
  refine TO.s rfl rfl rfl (StepS.cmp rfl rfl rfl) ?_
  refine TO.s rfl rfl rfl (StepS.move rfl) ?_
  refine TO.mid1 4 22 (.bool ((decide ((a0.length : Int) < 1)) || (decide ((a0.length : Int) > 6)))) ?_ ?_
  · refine bcase ((decide ((a0.length : Int) < 1))) (fun hb5 => ?_) (fun hb5 => ?_)
    · refine TO.skip rfl rfl rfl (skipT hb5) rfl rfl ?_
      refine TO.skip rfl rfl rfl (skipT hb5) rfl rfl ?_
      refine TO.skip rfl rfl rfl (skipT hb5) rfl rfl ?_
      refine TO.s rfl rfl rfl (StepS.pickT rfl hb5 rfl) ?_
      exact TO.up1 4 0 rfl rfl (by rw [hb5]; rfl) rfl
    · refine TO.sw rfl rfl rfl hb5 rfl rfl (StepS.move rfl) ?_
      refine TO.sw rfl rfl rfl hb5 rfl rfl (StepS.lenm rfl e0.tl ksliceB_22_3_1_true rfl) ?_
      refine TO.sw rfl rfl rfl hb5 rfl rfl (StepS.cmp rfl rfl rfl) ?_
      refine TO.s rfl rfl rfl (StepS.pickF rfl hb5 rfl) ?_
      exact TO.up1 4 0 rfl rfl (by rw [hb5]; rfl) rfl
  refine TO.s rfl rfl rfl (StepS.move rfl) ?_
  refine TO.mid1 4 27 (.bool (((decide ((a0.length : Int) < 1)) || (decide ((a0.length : Int) > 6))) || (decide ((a2.length : Int) > 60)))) ?_ ?_
  · refine bcase (((decide ((a0.length : Int) < 1)) || (decide ((a0.length : Int) > 6)))) (fun hb6 => ?_) (fun hb6 => ?_)
    · refine TO.skip rfl rfl rfl (skipT hb6) rfl rfl ?_
      refine TO.skip rfl rfl rfl (skipT hb6) rfl rfl ?_
      refine TO.skip rfl rfl rfl (skipT hb6) rfl rfl ?_
      refine TO.s rfl rfl rfl (StepS.pickT rfl hb6 rfl) ?_
      exact TO.up1 4 0 rfl rfl (by rw [hb6]; rfl) rfl
    · refine TO.sw rfl rfl rfl hb6 rfl rfl (StepS.move rfl) ?_
      refine TO.sw rfl rfl rfl hb6 rfl rfl (StepS.lenm rfl e2.tl ksliceB_23_106_4_true rfl) ?_
      refine TO.sw rfl rfl rfl hb6 rfl rfl (StepS.cmp rfl rfl rfl) ?_
      refine TO.s rfl rfl rfl (StepS.pickF rfl hb6 rfl) ?_
      exact TO.up1 4 0 rfl rfl (by rw [hb6]; rfl) rfl
  refine TO.code ?_
  refine TC.cond rfl (fun hc7 => ?_) (fun hc7 => ?_)
  · replace hm := cond_t hc7 hm
    refine TC.k ?_
    refine TC.region ?_
    refine TO.s rfl rfl rfl (StepS.build (cs := [.slice none 0 0, .slice none 0 0, .slice none 0 0]) rfl (by kernel_rfl)) ?_
    refine TO.stB (us := [.slice none 0 0, .slice none 0 0, .slice none 0 0]) 0 [.slice none 0 0, .slice none 0 0, .slice none 0 0] rfl rfl rfl ksizeB_27_3_true rfl rfl rfl (by simp [Value.oneCell']) rfl ?_
    refine TO.s rfl rfl rfl (StepS.assign rfl) ?_
    refine TO.code ?_
    cases hm
    refine TC.ret fun a w e s => ?_
    refine FRet.cell2 (P := Try.prog) (fn := Try.f15) e s rfl rfl rfl (Ent.at 0 rfl) kaggB_27_3_true rfl ?_
    refine ⟨_, _, rfl, ⟨(.slice none 0 0), (.slice none 0 0), (.slice none 0 0), rfl, rfl⟩, ?_⟩
    refine s.mono fun _ s => ?_
    replace s := Sat.nilS (e := 36) (sz := 1) (f := cU) s
    replace s := Sat.nilS (e := 36) (sz := 1) (f := cU) s
    replace s := Sat.nilS (e := 28) (sz := 1) (f := cI) s
    replace s := Sat.erase 3 s
    exact s
  · replace hm := cond_f hc7 hm
    refine TC.skipk ?_
    refine TC.k ?_
    refine TC.k ?_
    refine TC.region ?_
    refine TO.s rfl rfl rfl (StepS.move rfl) ?_
    obtain ⟨r8, hc9, hm⟩ := bind_some hm
    refine TO.q rfl rfl rfl (StepQ.call kcallB_49_true rfl rfl (fun _ st => C49 e0.tl ⟨50, #[], #[], rfl, kcallB_50_true, fun _ hx z r hm w st => C50  hm st⟩ hc9 st)) ?_
    refine TO.s rfl rfl rfl (StepS.move rfl) ?_
    refine TO.mid1 3 34 (.bool (r8 || (decide (a1 < 1)))) ?_ ?_
    · refine bcase (r8) (fun hb10 => ?_) (fun hb10 => ?_)
      · refine TO.skip rfl rfl rfl (skipT hb10) rfl rfl ?_
        refine TO.skip rfl rfl rfl (skipT hb10) rfl rfl ?_
        refine TO.s rfl rfl rfl (StepS.pickT rfl hb10 rfl) ?_
        exact TO.up1 3 0 rfl rfl (by rw [hb10]; rfl) rfl
      · refine TO.sw rfl rfl rfl hb10 rfl rfl (StepS.move rfl) ?_
        refine TO.sw rfl rfl rfl hb10 rfl rfl (StepS.cmp rfl rfl rfl) ?_
        refine TO.s rfl rfl rfl (StepS.pickF rfl hb10 rfl) ?_
        exact TO.up1 3 0 rfl rfl (by rw [hb10]; rfl) rfl
    refine TO.s rfl rfl rfl (StepS.move rfl) ?_
    refine TO.mid1 3 38 (.bool ((r8 || (decide (a1 < 1))) || (decide (a1 > 99)))) ?_ ?_
    · refine bcase ((r8 || (decide (a1 < 1)))) (fun hb11 => ?_) (fun hb11 => ?_)
      · refine TO.skip rfl rfl rfl (skipT hb11) rfl rfl ?_
        refine TO.skip rfl rfl rfl (skipT hb11) rfl rfl ?_
        refine TO.s rfl rfl rfl (StepS.pickT rfl hb11 rfl) ?_
        exact TO.up1 3 0 rfl rfl (by rw [hb11]; rfl) rfl
      · refine TO.sw rfl rfl rfl hb11 rfl rfl (StepS.move rfl) ?_
        refine TO.sw rfl rfl rfl hb11 rfl rfl (StepS.cmp rfl rfl rfl) ?_
        refine TO.s rfl rfl rfl (StepS.pickF rfl hb11 rfl) ?_
        exact TO.up1 3 0 rfl rfl (by rw [hb11]; rfl) rfl
    refine TO.code ?_
    refine TC.cond rfl (fun hc12 => ?_) (fun hc12 => ?_)
    · replace hm := cond_t hc12 hm
      refine TC.k ?_
      refine TC.region ?_
      refine TO.s rfl rfl rfl (StepS.build (cs := [.slice none 0 0, .slice none 0 0, .slice none 0 0]) rfl (by kernel_rfl)) ?_
      refine TO.stB (us := [.slice none 0 0, .slice none 0 0, .slice none 0 0]) 0 [.slice none 0 0, .slice none 0 0, .slice none 0 0] rfl rfl rfl ksizeB_27_3_true rfl rfl rfl (by simp [Value.oneCell']) rfl ?_
      refine TO.s rfl rfl rfl (StepS.assign rfl) ?_
      refine TO.code ?_
      cases hm
      refine TC.ret fun a w e s => ?_
      refine FRet.cell2 (P := Try.prog) (fn := Try.f15) e s rfl rfl rfl (Ent.at 0 rfl) kaggB_27_3_true rfl ?_
      refine ⟨_, _, rfl, ⟨(.slice none 0 0), (.slice none 0 0), (.slice none 0 0), rfl, rfl⟩, ?_⟩
      refine s.mono fun _ s => ?_
      replace s := Sat.nilS (e := 36) (sz := 1) (f := cU) s
      replace s := Sat.nilS (e := 36) (sz := 1) (f := cU) s
      replace s := Sat.nilS (e := 28) (sz := 1) (f := cI) s
      replace s := Sat.erase 3 s
      exact s
    · replace hm := cond_f hc12 hm
      refine TC.skipk ?_
      refine TC.k ?_
      refine TC.region ?_
      refine TO.s rfl rfl rfl (StepS.build (cs := [I 0, I 0]) rfl (by kernel_rfl)) ?_
      refine TO.alloc kinfo_104_bind_zero_some_agg_I_0_I_0 rfl rfl fun b13 => ?_
      refine TO.stB (us := [I 0, I 0]) 0 [I 0, I 0] rfl rfl rfl ksizeB_104_2_true rfl rfl rfl (by simp [Value.oneCell']) rfl ?_
      refine TO.code ?_
      refine TC.k ?_
      refine TC.region ?_
      refine TO.alloc kinfo_27_bind_zero_some_agg_slice_none_0_0_slice_none_0_0_slice_none_0_0 rfl rfl fun b14 => ?_
      refine TO.code ?_
      refine TC.k ?_
      refine TC.k ?_
      refine TC.region ?_
      refine TO.s rfl rfl rfl (StepS.move rfl) ?_
      refine TO.s rfl rfl rfl (StepS.lenm rfl e2.tl.tl.tl ksliceB_23_106_4_true rfl) ?_
      refine TO.s rfl rfl rfl (StepS.move rfl) ?_
      refine TO.code ?_
      obtain ⟨o50, hw51, hm⟩ := bind_some hm
      refine TC.loop hw51 (fun (y17, y20, y23, x24, x25, x26) => fun a w => ∃ v15 : Value, ∃ v18 : Value, ∃ v21 : Value, Mid 134 B [(0, h0), (1, I a1), (6, .pointer (some ⟨b4, 0, none⟩)), (8, .pointer (some ⟨b13, 0, none⟩)), (9, .pointer (some ⟨b14, 0, none⟩)), (41, h2), (42, I (a2.length : Int)), (43, I x26)] (OwnS 28 1 v15 (y17.map cI) :: OwnS 36 1 v18 (y20.map cU) :: OwnS 36 1 v21 (y23.map cU) :: Bx b14 27 [v15, v18, v21] :: Bx b13 104 [I x24, I x25] :: Bx b4 27 [.slice none 0 0, .slice none 0 0, .slice none 0 0] :: L) a w) (fun (y41, y44, y47, x48, x49) => fun a w => ∃ v39 : Value, ∃ v42 : Value, ∃ v45 : Value, Mid 134 B [(6, .pointer (some ⟨b4, 0, none⟩)), (9, .pointer (some ⟨b14, 0, none⟩))] (OwnS 28 1 v39 (y41.map cI) :: OwnS 36 1 v42 (y44.map cU) :: OwnS 36 1 v45 (y47.map cU) :: Bx b14 27 [v39, v42, v45] :: Bx b13 104 [I x48, I x49] :: Bx b4 27 [.slice none 0 0, .slice none 0 0, .slice none 0 0] :: L) a w) (fun (_ : Unit) _ _ => False) ?_ ?_ ?_ ?_
      · rintro ⟨y17, y20, y23, x24, x25, x26⟩ o50r hb52 a w ⟨v15, v18, v21, he, hs⟩
        dsimp only [F15_L0] at hb52
        refine TC.use ?_ he hs
        refine TC.k ?_
        refine TC.region ?_
        refine TO.s rfl rfl rfl (StepS.cmp rfl rfl rfl) ?_
        refine TO.code ?_
        refine TC.k ?_
        refine TC.cond rfl (fun hc53 => ?_) (fun hc53 => ?_)
        · replace hb52 := cond_t hc53 hb52
          refine TC.skipk ?_
          refine TC.k ?_
          refine TC.block ?_
          refine TC.k ?_
          refine TC.region ?_
          obtain ⟨x54, hx55, hb52⟩ := bind_some hb52
          refine TO.s rfl rfl rfl (StepS.idx rfl rfl e2.tl.tl.tl.tl.tl.tl ksliceB_23_106_4_true (idx_spec hx55).1 (idxm_lt hx55)) ?_
          refine TO.s rfl rfl rfl (StepS.ldE rfl e2.tl.tl.tl.tl.tl.tl kaggB_106_4_true rfl (idxm hx55)) ?_
          refine TO.alloc kinfo_106_bind_zero_some_agg_I_0_I_0_I_0_I_0 rfl rfl fun b56 => ?_
          refine TO.stB (us := [I x54.1, I x54.2.1, I x54.2.2.1, I x54.2.2.2]) 0 [I x54.1, I x54.2.1, I x54.2.2.1, I x54.2.2.2] rfl rfl rfl ksizeB_106_4_true rfl rfl rfl (by simp [Value.oneCell']) rfl ?_
          refine TO.code ?_
          refine TC.k ?_
          refine TC.region ?_
          refine TO.s rfl rfl rfl (StepS.assign rfl) ?_
          refine TO.code ?_
          refine TC.k ?_
          obtain ⟨⟨x57, x58, x59⟩, hj60, hb52⟩ := bind_some hb52
          refine TC.cutM (fun a w => Mid 134 B [(0, h0), (1, I a1), (6, .pointer (some ⟨b4, 0, none⟩)), (8, .pointer (some ⟨b13, 0, none⟩)), (9, .pointer (some ⟨b14, 0, none⟩)), (12, I x59), (41, h2), (42, I (a2.length : Int)), (43, I x26)] (Bx b56 106 [I x54.1, I x54.2.1, I x54.2.2.1, I x54.2.2.2] :: OwnS 28 1 v15 (y17.map cI) :: OwnS 36 1 v18 (y20.map cU) :: OwnS 36 1 v21 (y23.map cU) :: Bx b14 27 [v15, v18, v21] :: Bx b13 104 [I x57, I x58] :: Bx b4 27 [.slice none 0 0, .slice none 0 0, .slice none 0 0] :: L) a w) ?_ ?_
          · refine TC.block ?_
            refine TC.k ?_
            refine TC.region ?_
            refine TO.s rfl rfl rfl (StepS.fld rfl kfieldB_106_0_0_true) ?_
            refine TO.s rfl rfl rfl (StepS.ldB rfl (Ent.at 0 rfl) kscalB_3_true rfl) ?_
            refine TO.s rfl rfl rfl (StepS.cmp rfl rfl rfl) ?_
            refine TO.s rfl rfl rfl (StepS.move rfl) ?_
            refine TO.mid1 4 58 (.bool ((x54.1 != 1) && (x54.1 != 2))) ?_ ?_
            · refine bcase ((x54.1 != 1)) (fun hb61 => ?_) (fun hb61 => ?_)
              · refine TO.sw rfl rfl rfl hb61 rfl rfl (StepS.fld rfl kfieldB_106_0_0_true) ?_
                refine TO.sw rfl rfl rfl hb61 rfl rfl (StepS.ldB rfl (Ent.at 0 rfl) kscalB_3_true rfl) ?_
                refine TO.sw rfl rfl rfl hb61 rfl rfl (StepS.cmp rfl rfl rfl) ?_
                refine TO.s rfl rfl rfl (StepS.pickT rfl hb61 rfl) ?_
                exact TO.up1 4 0 rfl rfl (by rw [hb61]; rfl) rfl
              · refine TO.skip rfl rfl rfl (skipF hb61) rfl rfl ?_
                refine TO.skip rfl rfl rfl (skipF hb61) rfl rfl ?_
                refine TO.skip rfl rfl rfl (skipF hb61) rfl rfl ?_
                refine TO.s rfl rfl rfl (StepS.pickF rfl hb61 rfl) ?_
                exact TO.up1 4 0 rfl rfl (by rw [hb61]; rfl) rfl
            refine TO.s rfl rfl rfl (StepS.assign rfl) ?_
            refine TO.code ?_
            refine TC.cond rfl (fun hc62 => ?_) (fun hc62 => ?_)
            · replace hj60 := cond_t hc62 hj60
              refine TC.region ?_
              refine TO.s rfl rfl rfl (StepS.assign rfl) ?_
              cases hj60
              refine TO.nil fun a w e s => ?_
              exact ⟨e.sub (lk_of_allIn ⟨rfl, rfl, rfl, rfl, rfl, rfl, rfl, rfl, rfl, trivial⟩), s⟩
            · replace hj60 := cond_f hc62 hj60
              refine TC.k ?_
              refine TC.region ?_
              refine TO.s rfl rfl rfl (StepS.fld rfl kfieldB_106_0_0_true) ?_
              refine TO.s rfl rfl rfl (StepS.ldB rfl (Ent.at 0 rfl) kscalB_3_true rfl) ?_
              refine TO.s rfl rfl rfl (StepS.cmp rfl rfl rfl) ?_
              refine TO.s rfl rfl rfl (StepS.assign rfl) ?_
              refine TO.code ?_
              refine TC.cond rfl (fun hc63 => ?_) (fun hc63 => ?_)
              · replace hj60 := cond_t hc63 hj60
                refine TC.k ?_
                refine TC.k ?_
                refine TC.region ?_
                refine TO.s rfl rfl rfl (StepS.fld rfl kfieldB_106_3_3_true) ?_
                refine TO.s rfl rfl rfl (StepS.ldB rfl (Ent.at 0 rfl) kscalB_3_true rfl) ?_
                refine TO.s rfl rfl rfl (StepS.cmp rfl rfl rfl) ?_
                refine TO.s rfl rfl rfl (StepS.move rfl) ?_
                refine TO.mid1 4 70 (.bool ((decide (x54.2.2.2 < 0)) || (decide (x54.2.2.2 > 1000)))) ?_ ?_
                · refine bcase ((decide (x54.2.2.2 < 0))) (fun hb64 => ?_) (fun hb64 => ?_)
                  · refine TO.skip rfl rfl rfl (skipT hb64) rfl rfl ?_
                    refine TO.skip rfl rfl rfl (skipT hb64) rfl rfl ?_
                    refine TO.skip rfl rfl rfl (skipT hb64) rfl rfl ?_
                    refine TO.s rfl rfl rfl (StepS.pickT rfl hb64 rfl) ?_
                    exact TO.up1 4 0 rfl rfl (by rw [hb64]; rfl) rfl
                  · refine TO.sw rfl rfl rfl hb64 rfl rfl (StepS.fld rfl kfieldB_106_3_3_true) ?_
                    refine TO.sw rfl rfl rfl hb64 rfl rfl (StepS.ldB rfl (Ent.at 0 rfl) kscalB_3_true rfl) ?_
                    refine TO.sw rfl rfl rfl hb64 rfl rfl (StepS.cmp rfl rfl rfl) ?_
                    refine TO.s rfl rfl rfl (StepS.pickF rfl hb64 rfl) ?_
                    exact TO.up1 4 0 rfl rfl (by rw [hb64]; rfl) rfl
                refine TO.code ?_
                refine TC.cond rfl (fun hc65 => ?_) (fun hc65 => ?_)
                · replace hj60 := cond_t hc65 hj60
                  refine TC.k ?_
                  refine TC.region ?_
                  refine TO.s rfl rfl rfl (StepS.assign rfl) ?_
                  refine TO.code ?_
                  cases hj60
                  refine TC.exit rfl fun a w e s => ?_
                  exact ⟨e.sub (lk_of_allIn ⟨rfl, rfl, rfl, rfl, rfl, rfl, rfl, rfl, rfl, trivial⟩), s⟩
                · replace hj60 := cond_f hc65 hj60
                  refine TC.skipk ?_
                  refine TC.region ?_
                  refine TO.s rfl rfl rfl (StepS.fld rfl kfieldB_104_1_1_true) ?_
                  refine TO.s rfl rfl rfl (StepS.ldB rfl (Ent.at 5 rfl) kscalB_3_true rfl) ?_
                  refine TO.s rfl rfl rfl (StepS.fld rfl kfieldB_106_3_3_true) ?_
                  refine TO.s rfl rfl rfl (StepS.ldB rfl (Ent.at 0 rfl) kscalB_3_true rfl) ?_
                  refine TO.s rfl rfl rfl (StepS.ari rfl rfl rfl) ?_
                  refine TO.s rfl rfl rfl (StepS.fld rfl kfieldB_104_1_1_true) ?_
                  refine TO.stB (us := [I (w64 (x25 + x54.2.2.2))]) 5 [I x24, I (w64 (x25 + x54.2.2.2))] rfl rfl rfl ksizeB_3_1_true rfl rfl rfl (by simp [Value.oneCell']) rfl ?_
                  cases hj60
                  refine TO.nil fun a w e s => ?_
                  exact ⟨e.sub (lk_of_allIn ⟨rfl, rfl, rfl, rfl, rfl, rfl, rfl, rfl, rfl, trivial⟩), s⟩
              · replace hj60 := cond_f hc63 hj60
                refine TC.k ?_
                refine TC.region ?_
                refine TO.s rfl rfl rfl (StepS.fld rfl kfieldB_106_2_2_true) ?_
                refine TO.s rfl rfl rfl (StepS.ldB rfl (Ent.at 0 rfl) kscalB_3_true rfl) ?_
                refine TO.s rfl rfl rfl (StepS.cmp rfl rfl rfl) ?_
                refine TO.s rfl rfl rfl (StepS.move rfl) ?_
                refine TO.mid1 6 87 (.bool ((decide (x54.2.2.1 < 1)) || (decide (x54.2.2.1 ≥ (a0.length : Int))))) ?_ ?_
                · refine bcase ((decide (x54.2.2.1 < 1))) (fun hb66 => ?_) (fun hb66 => ?_)
                  · refine TO.skip rfl rfl rfl (skipT hb66) rfl rfl ?_
                    refine TO.skip rfl rfl rfl (skipT hb66) rfl rfl ?_
                    refine TO.skip rfl rfl rfl (skipT hb66) rfl rfl ?_
                    refine TO.skip rfl rfl rfl (skipT hb66) rfl rfl ?_
                    refine TO.skip rfl rfl rfl (skipT hb66) rfl rfl ?_
                    refine TO.s rfl rfl rfl (StepS.pickT rfl hb66 rfl) ?_
                    exact TO.up1 6 0 rfl rfl (by rw [hb66]; rfl) rfl
                  · refine TO.sw rfl rfl rfl hb66 rfl rfl (StepS.fld rfl kfieldB_106_2_2_true) ?_
                    refine TO.sw rfl rfl rfl hb66 rfl rfl (StepS.ldB rfl (Ent.at 0 rfl) kscalB_3_true rfl) ?_
                    refine TO.sw rfl rfl rfl hb66 rfl rfl (StepS.move rfl) ?_
                    refine TO.sw rfl rfl rfl hb66 rfl rfl (StepS.lenm rfl e0.tl.tl.tl.tl.tl.tl.tl ksliceB_22_3_1_true rfl) ?_
                    refine TO.sw rfl rfl rfl hb66 rfl rfl (StepS.cmp rfl rfl rfl) ?_
                    refine TO.s rfl rfl rfl (StepS.pickF rfl hb66 rfl) ?_
                    exact TO.up1 6 0 rfl rfl (by rw [hb66]; rfl) rfl
                refine TO.s rfl rfl rfl (StepS.assign rfl) ?_
                refine TO.code ?_
                refine TC.cond rfl (fun hc67 => ?_) (fun hc67 => ?_)
                · replace hj60 := cond_t hc67 hj60
                  refine TC.region ?_
                  refine TO.s rfl rfl rfl (StepS.assign rfl) ?_
                  cases hj60
                  refine TO.nil fun a w e s => ?_
                  exact ⟨e.sub (lk_of_allIn ⟨rfl, rfl, rfl, rfl, rfl, rfl, rfl, rfl, rfl, trivial⟩), s⟩
                · replace hj60 := cond_f hc67 hj60
                  refine TC.k ?_
                  refine TC.region ?_
                  refine TO.s rfl rfl rfl (StepS.ldBA rfl (Ent.at 5 rfl) kaggB_104_2_true rfl rfl) ?_
                  refine TO.s rfl rfl rfl (StepS.move rfl) ?_
                  refine TO.s rfl rfl rfl (StepS.move rfl) ?_
                  obtain ⟨r68, hc69, hj60⟩ := bind_some hj60
                  refine TO.q rfl rfl rfl (StepQ.call kcallB_51_true rfl rfl (fun _ st => C51 e0.tl.tl.tl.tl.tl.tl.tl hc69 st)) ?_
                  refine TO.s rfl rfl rfl (StepS.move rfl) ?_
                  refine TO.mid1 6 99 (.bool (r68 && (x24 != x54.2.2.1))) ?_ ?_
                  · refine bcase (r68) (fun hb70 => ?_) (fun hb70 => ?_)
                    · refine TO.sw rfl rfl rfl hb70 rfl rfl (StepS.fld rfl kfieldB_104_0_0_true) ?_
                      refine TO.sw rfl rfl rfl hb70 rfl rfl (StepS.ldB rfl (Ent.at 5 rfl) kscalB_3_true rfl) ?_
                      refine TO.sw rfl rfl rfl hb70 rfl rfl (StepS.fld rfl kfieldB_106_2_2_true) ?_
                      refine TO.sw rfl rfl rfl hb70 rfl rfl (StepS.ldB rfl (Ent.at 0 rfl) kscalB_3_true rfl) ?_
                      refine TO.sw rfl rfl rfl hb70 rfl rfl (StepS.cmp rfl rfl rfl) ?_
                      refine TO.s rfl rfl rfl (StepS.pickT rfl hb70 rfl) ?_
                      exact TO.up1 6 0 rfl rfl (by rw [hb70]; rfl) rfl
                    · refine TO.skip rfl rfl rfl (skipF hb70) rfl rfl ?_
                      refine TO.skip rfl rfl rfl (skipF hb70) rfl rfl ?_
                      refine TO.skip rfl rfl rfl (skipF hb70) rfl rfl ?_
                      refine TO.skip rfl rfl rfl (skipF hb70) rfl rfl ?_
                      refine TO.skip rfl rfl rfl (skipF hb70) rfl rfl ?_
                      refine TO.s rfl rfl rfl (StepS.pickF rfl hb70 rfl) ?_
                      exact TO.up1 6 0 rfl rfl (by rw [hb70]; rfl) rfl
                  refine TO.s rfl rfl rfl (StepS.assign rfl) ?_
                  refine TO.code ?_
                  refine TC.cond rfl (fun hc71 => ?_) (fun hc71 => ?_)
                  · replace hj60 := cond_t hc71 hj60
                    refine TC.region ?_
                    refine TO.s rfl rfl rfl (StepS.assign rfl) ?_
                    cases hj60
                    refine TO.nil fun a w e s => ?_
                    exact ⟨e.sub (lk_of_allIn ⟨rfl, rfl, rfl, rfl, rfl, rfl, rfl, rfl, rfl, trivial⟩), s⟩
                  · replace hj60 := cond_f hc71 hj60
                    refine TC.region ?_
                    refine TO.s rfl rfl rfl (StepS.fld rfl kfieldB_106_2_2_true) ?_
                    refine TO.s rfl rfl rfl (StepS.ldB rfl (Ent.at 0 rfl) kscalB_3_true rfl) ?_
                    refine TO.s rfl rfl rfl (StepS.build (cs := [I x54.2.2.1, I 0]) rfl (by kernel_rfl)) ?_
                    refine TO.stB (us := [I x54.2.2.1, I 0]) 5 [I x54.2.2.1, I 0] rfl rfl rfl ksizeB_104_2_true rfl rfl rfl (by simp [Value.oneCell']) rfl ?_
                    cases hj60
                    refine TO.nil fun a w e s => ?_
                    exact ⟨e.sub (lk_of_allIn ⟨rfl, rfl, rfl, rfl, rfl, rfl, rfl, rfl, rfl, trivial⟩), s⟩
          · intro a w ⟨he, hs⟩
            refine TC.use ?_ he hs
            refine TC.k ?_
            refine TC.region ?_
            refine TO.s rfl rfl rfl (StepS.assign rfl) ?_
            refine TO.s rfl rfl rfl (StepS.assign rfl) ?_
            refine TO.code ?_
            refine TC.k ?_
            refine TC.k ?_
            refine TC.region ?_
            refine TO.s rfl rfl rfl (StepS.ldBA rfl (Ent.at 5 rfl) kaggB_104_2_true rfl rfl) ?_
            refine TO.s rfl rfl rfl (StepS.move rfl) ?_
            refine TO.s rfl rfl rfl (StepS.move rfl) ?_
            obtain ⟨r72, hc73, hb52⟩ := bind_some hb52
            refine TO.q rfl rfl rfl (StepQ.call kcallB_52_true rfl rfl (fun _ st => C52 e0.tl.tl.tl.tl.tl.tl.tl hc73 st)) ?_
            refine TO.code ?_
            obtain ⟨x74, hj75, hb52⟩ := bind_some hb52
            refine TC.cutM (fun a w => Mid 134 B [(0, h0), (1, I a1), (6, .pointer (some ⟨b4, 0, none⟩)), (8, .pointer (some ⟨b13, 0, none⟩)), (9, .pointer (some ⟨b14, 0, none⟩)), (12, I x59), (13, U x74), (14, U (0#32)), (41, h2), (42, I (a2.length : Int)), (43, I x26)] (Bx b56 106 [I x54.1, I x54.2.1, I x54.2.2.1, I x54.2.2.2] :: OwnS 28 1 v15 (y17.map cI) :: OwnS 36 1 v18 (y20.map cU) :: OwnS 36 1 v21 (y23.map cU) :: Bx b14 27 [v15, v18, v21] :: Bx b13 104 [I x57, I x58] :: Bx b4 27 [.slice none 0 0, .slice none 0 0, .slice none 0 0] :: L) a w) ?_ ?_
            · refine TC.cond rfl (fun hc76 => ?_) (fun hc76 => ?_)
              · replace hj75 := cond_t hc76 hj75
                refine TC.region ?_
                refine TO.s rfl rfl rfl (StepS.fld rfl kfieldB_104_0_0_true) ?_
                refine TO.s rfl rfl rfl (StepS.ldB rfl (Ent.at 5 rfl) kscalB_3_true rfl) ?_
                obtain ⟨k77, hk78, hj75⟩ := bind_some hj75
                refine TO.s rfl rfl rfl (StepS.shlk (m := 1#32) rfl rfl hk78) ?_
                refine TO.s rfl rfl rfl (StepS.assign rfl) ?_
                cases hj75
                refine TO.nil fun a w e s => ?_
                exact ⟨e.sub (lk_of_allIn ⟨rfl, rfl, rfl, rfl, rfl, rfl, rfl, rfl, rfl, rfl, rfl, trivial⟩), s⟩
              · replace hj75 := cond_f hc76 hj75
                cases hj75
                refine TC.skip fun a w e s => ?_
                exact ⟨e.sub (lk_of_allIn ⟨rfl, rfl, rfl, rfl, rfl, rfl, rfl, rfl, rfl, rfl, rfl, trivial⟩), s⟩
            · intro a w ⟨he, hs⟩
              refine TC.use ?_ he hs
              refine TC.k ?_
              refine TC.k ?_
              refine TC.region ?_
              refine TO.s rfl rfl rfl (StepS.ldBA rfl (Ent.at 5 rfl) kaggB_104_2_true rfl rfl) ?_
              refine TO.s rfl rfl rfl (StepS.move rfl) ?_
              refine TO.s rfl rfl rfl (StepS.move rfl) ?_
              obtain ⟨r79, hc80, hb52⟩ := bind_some hb52
              refine TO.q rfl rfl rfl (StepQ.call kcallB_51_true rfl rfl (fun _ st => C51 e0.tl.tl.tl.tl.tl.tl.tl hc80 st)) ?_
              refine TO.code ?_
              obtain ⟨x81, hj82, hb52⟩ := bind_some hb52
              refine TC.cutM (fun a w => Mid 134 B [(0, h0), (1, I a1), (6, .pointer (some ⟨b4, 0, none⟩)), (8, .pointer (some ⟨b13, 0, none⟩)), (9, .pointer (some ⟨b14, 0, none⟩)), (12, I x59), (13, U x74), (14, U x81), (41, h2), (42, I (a2.length : Int)), (43, I x26)] (Bx b56 106 [I x54.1, I x54.2.1, I x54.2.2.1, I x54.2.2.2] :: OwnS 28 1 v15 (y17.map cI) :: OwnS 36 1 v18 (y20.map cU) :: OwnS 36 1 v21 (y23.map cU) :: Bx b14 27 [v15, v18, v21] :: Bx b13 104 [I x57, I x58] :: Bx b4 27 [.slice none 0 0, .slice none 0 0, .slice none 0 0] :: L) a w) ?_ ?_
              · refine TC.cond rfl (fun hc83 => ?_) (fun hc83 => ?_)
                · replace hj82 := cond_t hc83 hj82
                  refine TC.region ?_
                  refine TO.s rfl rfl rfl (StepS.fld rfl kfieldB_104_0_0_true) ?_
                  refine TO.s rfl rfl rfl (StepS.ldB rfl (Ent.at 5 rfl) kscalB_3_true rfl) ?_
                  obtain ⟨k84, hk85, hj82⟩ := bind_some hj82
                  refine TO.s rfl rfl rfl (StepS.shlk (m := 1#32) rfl rfl hk85) ?_
                  refine TO.s rfl rfl rfl (StepS.assign rfl) ?_
                  cases hj82
                  refine TO.nil fun a w e s => ?_
                  exact ⟨e.sub (lk_of_allIn ⟨rfl, rfl, rfl, rfl, rfl, rfl, rfl, rfl, rfl, rfl, rfl, trivial⟩), s⟩
                · replace hj82 := cond_f hc83 hj82
                  cases hj82
                  refine TC.skip fun a w e s => ?_
                  exact ⟨e.sub (lk_of_allIn ⟨rfl, rfl, rfl, rfl, rfl, rfl, rfl, rfl, rfl, rfl, rfl, trivial⟩), s⟩
              · intro a w ⟨he, hs⟩
                refine TC.use ?_ he hs
                obtain ⟨⟨y87, y89, y91⟩, hj93, hb52⟩ := bind_some hb52
                refine TC.cutX (fun a w => ∃ v88 : Value, ∃ v90 : Value, ∃ v92 : Value, Mid 134 B [(0, h0), (1, I a1), (6, .pointer (some ⟨b4, 0, none⟩)), (8, .pointer (some ⟨b13, 0, none⟩)), (9, .pointer (some ⟨b14, 0, none⟩)), (41, h2), (42, I (a2.length : Int)), (43, I x26)] (Bx b56 106 [I x54.1, I x54.2.1, I x54.2.2.1, I x54.2.2.2] :: OwnS 28 1 v88 (y87.map cI) :: OwnS 36 1 v90 (y89.map cU) :: OwnS 36 1 v92 (y91.map cU) :: Bx b14 27 [v88, v90, v92] :: Bx b13 104 [I x57, I x58] :: Bx b4 27 [.slice none 0 0, .slice none 0 0, .slice none 0 0] :: L) a w) ?_ ?_
                · refine TC.region_any (Bx b56 106 [I x54.1, I x54.2.1, I x54.2.2.1, I x54.2.2.2] :: Bx b14 27 [v15, v18, v21] :: Bx b13 104 [I x57, I x58] :: Bx b4 27 [.slice none 0 0, .slice none 0 0, .slice none 0 0] :: L) 16 21 kfollows_mixedOrders_true rfl ?_
                  refine TA.takeW 0 rfl rfl rfl rfl (StepS.fld rfl kfieldB_27_0_0_true) (by kernel_rfl) (by kernel_rfl) (by kernel_rfl) rfl (.inr (fun _ s => by replace s := Sat.front 6 rfl s; replace s := Sat.front 6 rfl s; replace s := Sat.front 6 rfl s; replace s := Sat.front 3 rfl s; replace s := Sat.erase 4 s; replace s := Sat.erase 4 s; replace s := Sat.erase 4 s; exact s)) ?_
                  refine TA.take 1 rfl rfl rfl rfl (StepS.ldB rfl (Ent.at 1 rfl) kscalB_24_true rfl) (by kernel_rfl) (by kernel_rfl) (by kernel_rfl) (by kernel_rfl) (by kernel_rfl) (fun _ s => by replace s := Sat.front 6 rfl s; replace s := Sat.front 6 rfl s; replace s := Sat.front 6 rfl s; replace s := Sat.front 3 rfl s; replace s := Sat.erase 4 s; replace s := Sat.erase 4 s; replace s := Sat.erase 4 s; exact s) ?_
                  refine TA.takeW 2 rfl rfl rfl rfl (StepS.move rfl) (by kernel_rfl) (by kernel_rfl) (by kernel_rfl) rfl (.inr (fun _ s => by replace s := Sat.front 6 rfl s; replace s := Sat.front 6 rfl s; replace s := Sat.front 6 rfl s; replace s := Sat.front 3 rfl s; replace s := Sat.erase 4 s; replace s := Sat.erase 4 s; replace s := Sat.erase 4 s; exact s)) ?_
                  refine TA.takeW 5 rfl rfl rfl rfl (StepS.fld rfl kfieldB_27_1_1_true) (by kernel_rfl) (by kernel_rfl) (by kernel_rfl) rfl (.inr (fun _ s => by replace s := Sat.front 6 rfl s; replace s := Sat.front 6 rfl s; replace s := Sat.front 6 rfl s; replace s := Sat.front 3 rfl s; replace s := Sat.erase 4 s; replace s := Sat.erase 4 s; replace s := Sat.erase 4 s; exact s)) ?_
                  refine TA.take 6 rfl rfl rfl rfl (StepS.ldB rfl (Ent.at 1 rfl) kscalB_25_true rfl) (by kernel_rfl) (by kernel_rfl) (by kernel_rfl) (by kernel_rfl) (by kernel_rfl) (fun _ s => by replace s := Sat.front 6 rfl s; replace s := Sat.front 6 rfl s; replace s := Sat.front 6 rfl s; replace s := Sat.front 3 rfl s; replace s := Sat.erase 4 s; replace s := Sat.erase 4 s; replace s := Sat.erase 4 s; exact s) ?_
                  refine TA.takeW 7 rfl rfl rfl rfl (StepS.move rfl) (by kernel_rfl) (by kernel_rfl) (by kernel_rfl) rfl (.inr (fun _ s => by replace s := Sat.front 6 rfl s; replace s := Sat.front 6 rfl s; replace s := Sat.front 6 rfl s; replace s := Sat.front 3 rfl s; replace s := Sat.erase 4 s; replace s := Sat.erase 4 s; replace s := Sat.erase 4 s; exact s)) ?_
                  refine TA.takeW 10 rfl rfl rfl rfl (StepS.fld rfl kfieldB_27_2_2_true) (by kernel_rfl) (by kernel_rfl) (by kernel_rfl) rfl (.inr (fun _ s => by replace s := Sat.front 6 rfl s; replace s := Sat.front 6 rfl s; replace s := Sat.front 6 rfl s; replace s := Sat.front 3 rfl s; replace s := Sat.erase 4 s; replace s := Sat.erase 4 s; replace s := Sat.erase 4 s; exact s)) ?_
                  refine TA.take 11 rfl rfl rfl rfl (StepS.ldB rfl (Ent.at 1 rfl) kscalB_25_true rfl) (by kernel_rfl) (by kernel_rfl) (by kernel_rfl) (by kernel_rfl) (by kernel_rfl) (fun _ s => by replace s := Sat.front 6 rfl s; replace s := Sat.front 6 rfl s; replace s := Sat.front 6 rfl s; replace s := Sat.front 3 rfl s; replace s := Sat.erase 4 s; replace s := Sat.erase 4 s; replace s := Sat.erase 4 s; exact s) ?_
                  refine TA.takeW 12 rfl rfl rfl rfl (StepS.move rfl) (by kernel_rfl) (by kernel_rfl) (by kernel_rfl) rfl (.inr (fun _ s => by replace s := Sat.front 6 rfl s; replace s := Sat.front 6 rfl s; replace s := Sat.front 6 rfl s; replace s := Sat.front 3 rfl s; replace s := Sat.erase 4 s; replace s := Sat.erase 4 s; replace s := Sat.erase 4 s; exact s)) ?_
                  refine TA.all3 (i := 3) (j := 8) (k := 13) (by kernel_rfl) ?_ ?_ ?_
                  · refine TB.of rfl ?_
                    refine TO.litS (f := cI) ([x59] : List Int) kelemB_24_28_1_8_true kinfo_28_bind_zero_some_I_0 rfl rfl (fun _ => rfl) rfl rfl (by kernel_rfl) rfl fun vq86_3_1 => ?_
                    refine TA.back (.inr (fun _ s => by replace s := Sat.front 7 rfl s; replace s := Sat.front 7 rfl s; replace s := Sat.front 7 rfl s; replace s := Sat.front 4 rfl s; replace s := Sat.erase 4 s; replace s := Sat.erase 4 s; replace s := Sat.erase 4 s; replace s := Sat.erase 4 s; exact s)) ?_
                    refine TA.all3 (i := 4) (j := 8) (k := 13) (by kernel_rfl) ?_ ?_ ?_
                    · refine TB.of rfl ?_
                      obtain ⟨yq86_4_1, hkq86_4_2, hj93⟩ := bind_some hj93
                      refine TO.app (k := 2) (f := cI) kelemB_24_28_1_8_true (by decide) rfl rfl rfl (OwnS.rd (Ent.at 0 rfl)) hkq86_4_2 (fun x c hc => by simp [Value.oneCell'] at hc ⊢; first | (obtain rfl := hc; rfl) | (rcases hc with rfl <;> rfl)) rfl rfl fun vq86_4_3 => ?_
                      refine TA.back (.inr (fun _ s => by replace s := Sat.front 7 rfl s; replace s := Sat.front 7 rfl s; replace s := Sat.front 7 rfl s; replace s := Sat.front 4 rfl s; replace s := Sat.erase 4 s; replace s := Sat.erase 4 s; replace s := Sat.erase 4 s; replace s := Sat.erase 4 s; exact s)) ?_
                      refine TA.takeW 15 rfl rfl rfl rfl (StepS.fld rfl kfieldB_27_0_0_true) (by kernel_rfl) (by kernel_rfl) (by kernel_rfl) rfl (.inr (fun _ s => by replace s := Sat.front 7 rfl s; replace s := Sat.front 7 rfl s; replace s := Sat.front 7 rfl s; replace s := Sat.front 4 rfl s; replace s := Sat.erase 4 s; replace s := Sat.erase 4 s; replace s := Sat.erase 4 s; replace s := Sat.erase 4 s; exact s)) ?_
                      refine TA.all2 (i := 8) (j := 13) (by kernel_rfl) ?_ ?_
                      · refine TB.of rfl ?_
                        refine TO.litS (f := cU) ([x74] : List (BitVec 32)) kelemB_25_36_1_4_true kinfo_36_bind_zero_some_U_0 rfl rfl (fun _ => rfl) rfl rfl (by kernel_rfl) rfl fun vq86_8_1 => ?_
                        refine TA.back (.inr (fun _ s => by replace s := Sat.front 8 rfl s; replace s := Sat.front 8 rfl s; replace s := Sat.front 8 rfl s; replace s := Sat.front 5 rfl s; replace s := Sat.erase 4 s; replace s := Sat.erase 4 s; replace s := Sat.erase 4 s; replace s := Sat.erase 4 s; replace s := Sat.erase 4 s; exact s)) ?_
                        refine TA.all2 (i := 9) (j := 13) (by kernel_rfl) ?_ ?_
                        · refine TB.of rfl ?_
                          obtain ⟨yq86_9_1, hkq86_9_2, hj93⟩ := bind_some hj93
                          refine TO.app (k := 4) (f := cU) kelemB_25_36_1_4_true (by decide) rfl rfl rfl (OwnS.rd (Ent.at 0 rfl)) hkq86_9_2 (fun x c hc => by simp [Value.oneCell'] at hc ⊢; first | (obtain rfl := hc; rfl) | (rcases hc with rfl <;> rfl)) rfl rfl fun vq86_9_3 => ?_
                          refine TA.back (.inr (fun _ s => by replace s := Sat.front 8 rfl s; replace s := Sat.front 8 rfl s; replace s := Sat.front 8 rfl s; replace s := Sat.front 5 rfl s; replace s := Sat.erase 4 s; replace s := Sat.erase 4 s; replace s := Sat.erase 4 s; replace s := Sat.erase 4 s; replace s := Sat.erase 4 s; exact s)) ?_
                          refine TA.all1 (i := 13) (by kernel_rfl) ?_
                          refine TB.of rfl ?_
                          refine TO.litS (f := cU) ([x81] : List (BitVec 32)) kelemB_25_36_1_4_true kinfo_36_bind_zero_some_U_0 rfl rfl (fun _ => rfl) rfl rfl (by kernel_rfl) rfl fun vq86_13_1 => ?_
                          refine TA.back (.inr (fun _ s => by replace s := Sat.front 9 rfl s; replace s := Sat.front 9 rfl s; replace s := Sat.front 9 rfl s; replace s := Sat.front 6 rfl s; replace s := Sat.erase 4 s; replace s := Sat.erase 4 s; replace s := Sat.erase 4 s; replace s := Sat.erase 4 s; replace s := Sat.erase 4 s; replace s := Sat.erase 4 s; exact s)) ?_
                          refine TA.all1 (i := 14) (by kernel_rfl) ?_
                          refine TB.of rfl ?_
                          obtain ⟨yq86_14_1, hkq86_14_2, hj93⟩ := bind_some hj93
                          refine TO.app (k := 6) (f := cU) kelemB_25_36_1_4_true (by decide) rfl rfl rfl (OwnS.rd (Ent.at 0 rfl)) hkq86_14_2 (fun x c hc => by simp [Value.oneCell'] at hc ⊢; first | (obtain rfl := hc; rfl) | (rcases hc with rfl <;> rfl)) rfl rfl fun vq86_14_3 => ?_
                          refine TA.back (.inr (fun _ s => by replace s := Sat.front 9 rfl s; replace s := Sat.front 9 rfl s; replace s := Sat.front 9 rfl s; replace s := Sat.front 6 rfl s; replace s := Sat.erase 4 s; replace s := Sat.erase 4 s; replace s := Sat.erase 4 s; replace s := Sat.erase 4 s; replace s := Sat.erase 4 s; replace s := Sat.erase 4 s; exact s)) ?_
                          refine TA.all1 (i := 16) (by kernel_rfl) ?_
                          refine TB.of rfl ?_
                          refine TO.pure (fun _ s => Rd.one (OwnS.rd (Ent.at 4 rfl)) s) fun ocq86_16_1 => ?_
                          refine TO.stB (us := [vq86_4_3]) 7 [vq86_4_3, v18, v21] rfl rfl rfl ksizeB_24_1_true ocq86_16_1.2 rfl rfl (by intro u hu; simp only [List.mem_cons, List.not_mem_nil, or_false] at hu; rcases hu with rfl <;> first | exact ocq86_16_1.1 | rfl) rfl ?_
                          refine TA.back (.inl (by kernel_rfl)) ?_
                          refine TA.takeW 17 rfl rfl rfl rfl (StepS.fld rfl kfieldB_27_1_1_true) (by kernel_rfl) (by kernel_rfl) (by kernel_rfl) rfl (.inl (by kernel_rfl)) ?_
                          refine TA.all1 (i := 18) (by kernel_rfl) ?_
                          refine TB.of rfl ?_
                          refine TO.pure (fun _ s => Rd.one (OwnS.rd (Ent.at 5 rfl)) s) fun ocq86_18_1 => ?_
                          refine TO.stB (us := [vq86_9_3]) 7 [vq86_4_3, vq86_9_3, v21] rfl rfl rfl ksizeB_25_1_true ocq86_18_1.2 rfl rfl (by intro u hu; simp only [List.mem_cons, List.not_mem_nil, or_false] at hu; rcases hu with rfl <;> first | exact ocq86_18_1.1 | rfl) rfl ?_
                          refine TA.back (.inl (by kernel_rfl)) ?_
                          refine TA.takeW 19 rfl rfl rfl rfl (StepS.fld rfl kfieldB_27_2_2_true) (by kernel_rfl) (by kernel_rfl) (by kernel_rfl) rfl (.inl (by kernel_rfl)) ?_
                          refine TA.all1 (i := 20) (by kernel_rfl) ?_
                          refine TB.of rfl ?_
                          refine TO.pure (fun _ s => Rd.one (OwnS.rd (Ent.at 6 rfl)) s) fun ocq86_20_1 => ?_
                          refine TO.stB (us := [vq86_14_3]) 7 [vq86_4_3, vq86_9_3, vq86_14_3] rfl rfl rfl ksizeB_25_1_true ocq86_20_1.2 rfl rfl (by intro u hu; simp only [List.mem_cons, List.not_mem_nil, or_false] at hu; rcases hu with rfl <;> first | exact ocq86_20_1.1 | rfl) rfl ?_
                          refine TA.back (.inl (by kernel_rfl)) ?_
                          cases hj93
                          refine TA.nil (by kernel_rfl) fun a w e s => ?_
                          exact ⟨vq86_4_3, vq86_9_3, vq86_14_3, e.sub (lk_of_allIn ⟨rfl, rfl, rfl, rfl, rfl, rfl, rfl, rfl, trivial⟩), s.mono fun _ => Sat.dropN 3⟩
                        · refine TB.of rfl ?_
                          refine TO.litS (f := cU) ([x81] : List (BitVec 32)) kelemB_25_36_1_4_true kinfo_36_bind_zero_some_U_0 rfl rfl (fun _ => rfl) rfl rfl (by kernel_rfl) rfl fun vq86_13_1 => ?_
                          refine TA.back (.inr (fun _ s => by replace s := Sat.front 9 rfl s; replace s := Sat.front 9 rfl s; replace s := Sat.front 9 rfl s; replace s := Sat.front 6 rfl s; replace s := Sat.erase 4 s; replace s := Sat.erase 4 s; replace s := Sat.erase 4 s; replace s := Sat.erase 4 s; replace s := Sat.erase 4 s; replace s := Sat.erase 4 s; exact s)) ?_
                          refine TA.all1 (i := 9) (by kernel_rfl) ?_
                          refine TB.of rfl ?_
                          obtain ⟨yq86_9_1, hkq86_9_2, hj93⟩ := bind_some hj93
                          refine TO.app (k := 5) (f := cU) kelemB_25_36_1_4_true (by decide) rfl rfl rfl (OwnS.rd (Ent.at 1 rfl)) hkq86_9_2 (fun x c hc => by simp [Value.oneCell'] at hc ⊢; first | (obtain rfl := hc; rfl) | (rcases hc with rfl <;> rfl)) rfl rfl fun vq86_9_3 => ?_
                          refine TA.back (.inr (fun _ s => by replace s := Sat.front 9 rfl s; replace s := Sat.front 9 rfl s; replace s := Sat.front 9 rfl s; replace s := Sat.front 6 rfl s; replace s := Sat.erase 4 s; replace s := Sat.erase 4 s; replace s := Sat.erase 4 s; replace s := Sat.erase 4 s; replace s := Sat.erase 4 s; replace s := Sat.erase 4 s; exact s)) ?_
                          refine TA.all1 (i := 14) (by kernel_rfl) ?_
                          refine TB.of rfl ?_
                          obtain ⟨yq86_14_1, hkq86_14_2, hj93⟩ := bind_some hj93
                          refine TO.app (k := 6) (f := cU) kelemB_25_36_1_4_true (by decide) rfl rfl rfl (OwnS.rd (Ent.at 0 rfl)) hkq86_14_2 (fun x c hc => by simp [Value.oneCell'] at hc ⊢; first | (obtain rfl := hc; rfl) | (rcases hc with rfl <;> rfl)) rfl rfl fun vq86_14_3 => ?_
                          refine TA.back (.inr (fun _ s => by replace s := Sat.front 9 rfl s; replace s := Sat.front 9 rfl s; replace s := Sat.front 9 rfl s; replace s := Sat.front 6 rfl s; replace s := Sat.erase 4 s; replace s := Sat.erase 4 s; replace s := Sat.erase 4 s; replace s := Sat.erase 4 s; replace s := Sat.erase 4 s; replace s := Sat.erase 4 s; exact s)) ?_
                          refine TA.all1 (i := 16) (by kernel_rfl) ?_
                          refine TB.of rfl ?_
                          refine TO.pure (fun _ s => Rd.one (OwnS.rd (Ent.at 4 rfl)) s) fun ocq86_16_1 => ?_
                          refine TO.stB (us := [vq86_4_3]) 7 [vq86_4_3, v18, v21] rfl rfl rfl ksizeB_24_1_true ocq86_16_1.2 rfl rfl (by intro u hu; simp only [List.mem_cons, List.not_mem_nil, or_false] at hu; rcases hu with rfl <;> first | exact ocq86_16_1.1 | rfl) rfl ?_
                          refine TA.back (.inl (by kernel_rfl)) ?_
                          refine TA.takeW 17 rfl rfl rfl rfl (StepS.fld rfl kfieldB_27_1_1_true) (by kernel_rfl) (by kernel_rfl) (by kernel_rfl) rfl (.inl (by kernel_rfl)) ?_
                          refine TA.all1 (i := 18) (by kernel_rfl) ?_
                          refine TB.of rfl ?_
                          refine TO.pure (fun _ s => Rd.one (OwnS.rd (Ent.at 5 rfl)) s) fun ocq86_18_1 => ?_
                          refine TO.stB (us := [vq86_9_3]) 7 [vq86_4_3, vq86_9_3, v21] rfl rfl rfl ksizeB_25_1_true ocq86_18_1.2 rfl rfl (by intro u hu; simp only [List.mem_cons, List.not_mem_nil, or_false] at hu; rcases hu with rfl <;> first | exact ocq86_18_1.1 | rfl) rfl ?_
                          refine TA.back (.inl (by kernel_rfl)) ?_
                          refine TA.takeW 19 rfl rfl rfl rfl (StepS.fld rfl kfieldB_27_2_2_true) (by kernel_rfl) (by kernel_rfl) (by kernel_rfl) rfl (.inl (by kernel_rfl)) ?_
                          refine TA.all1 (i := 20) (by kernel_rfl) ?_
                          refine TB.of rfl ?_
                          refine TO.pure (fun _ s => Rd.one (OwnS.rd (Ent.at 6 rfl)) s) fun ocq86_20_1 => ?_
                          refine TO.stB (us := [vq86_14_3]) 7 [vq86_4_3, vq86_9_3, vq86_14_3] rfl rfl rfl ksizeB_25_1_true ocq86_20_1.2 rfl rfl (by intro u hu; simp only [List.mem_cons, List.not_mem_nil, or_false] at hu; rcases hu with rfl <;> first | exact ocq86_20_1.1 | rfl) rfl ?_
                          refine TA.back (.inl (by kernel_rfl)) ?_
                          cases hj93
                          refine TA.nil (by kernel_rfl) fun a w e s => ?_
                          exact ⟨vq86_4_3, vq86_9_3, vq86_14_3, e.sub (lk_of_allIn ⟨rfl, rfl, rfl, rfl, rfl, rfl, rfl, rfl, trivial⟩), s.mono fun _ => Sat.dropN 3⟩
                      · refine TB.of rfl ?_
                        refine TO.litS (f := cU) ([x81] : List (BitVec 32)) kelemB_25_36_1_4_true kinfo_36_bind_zero_some_U_0 rfl rfl (fun _ => rfl) rfl rfl (by kernel_rfl) rfl fun vq86_13_1 => ?_
                        refine TA.back (.inr (fun _ s => by replace s := Sat.front 8 rfl s; replace s := Sat.front 8 rfl s; replace s := Sat.front 8 rfl s; replace s := Sat.front 5 rfl s; replace s := Sat.erase 4 s; replace s := Sat.erase 4 s; replace s := Sat.erase 4 s; replace s := Sat.erase 4 s; replace s := Sat.erase 4 s; exact s)) ?_
                        refine TA.all1 (i := 8) (by kernel_rfl) ?_
                        refine TB.of rfl ?_
                        refine TO.litS (f := cU) ([x74] : List (BitVec 32)) kelemB_25_36_1_4_true kinfo_36_bind_zero_some_U_0 rfl rfl (fun _ => rfl) rfl rfl (by kernel_rfl) rfl fun vq86_8_1 => ?_
                        refine TA.back (.inr (fun _ s => by replace s := Sat.front 9 rfl s; replace s := Sat.front 9 rfl s; replace s := Sat.front 9 rfl s; replace s := Sat.front 6 rfl s; replace s := Sat.erase 4 s; replace s := Sat.erase 4 s; replace s := Sat.erase 4 s; replace s := Sat.erase 4 s; replace s := Sat.erase 4 s; replace s := Sat.erase 4 s; exact s)) ?_
                        refine TA.all1 (i := 9) (by kernel_rfl) ?_
                        refine TB.of rfl ?_
                        obtain ⟨yq86_9_1, hkq86_9_2, hj93⟩ := bind_some hj93
                        refine TO.app (k := 5) (f := cU) kelemB_25_36_1_4_true (by decide) rfl rfl rfl (OwnS.rd (Ent.at 0 rfl)) hkq86_9_2 (fun x c hc => by simp [Value.oneCell'] at hc ⊢; first | (obtain rfl := hc; rfl) | (rcases hc with rfl <;> rfl)) rfl rfl fun vq86_9_3 => ?_
                        refine TA.back (.inr (fun _ s => by replace s := Sat.front 9 rfl s; replace s := Sat.front 9 rfl s; replace s := Sat.front 9 rfl s; replace s := Sat.front 6 rfl s; replace s := Sat.erase 4 s; replace s := Sat.erase 4 s; replace s := Sat.erase 4 s; replace s := Sat.erase 4 s; replace s := Sat.erase 4 s; replace s := Sat.erase 4 s; exact s)) ?_
                        refine TA.all1 (i := 14) (by kernel_rfl) ?_
                        refine TB.of rfl ?_
                        obtain ⟨yq86_14_1, hkq86_14_2, hj93⟩ := bind_some hj93
                        refine TO.app (k := 6) (f := cU) kelemB_25_36_1_4_true (by decide) rfl rfl rfl (OwnS.rd (Ent.at 1 rfl)) hkq86_14_2 (fun x c hc => by simp [Value.oneCell'] at hc ⊢; first | (obtain rfl := hc; rfl) | (rcases hc with rfl <;> rfl)) rfl rfl fun vq86_14_3 => ?_
                        refine TA.back (.inr (fun _ s => by replace s := Sat.front 9 rfl s; replace s := Sat.front 9 rfl s; replace s := Sat.front 9 rfl s; replace s := Sat.front 6 rfl s; replace s := Sat.erase 4 s; replace s := Sat.erase 4 s; replace s := Sat.erase 4 s; replace s := Sat.erase 4 s; replace s := Sat.erase 4 s; replace s := Sat.erase 4 s; exact s)) ?_
                        refine TA.all1 (i := 16) (by kernel_rfl) ?_
                        refine TB.of rfl ?_
                        refine TO.pure (fun _ s => Rd.one (OwnS.rd (Ent.at 4 rfl)) s) fun ocq86_16_1 => ?_
                        refine TO.stB (us := [vq86_4_3]) 7 [vq86_4_3, v18, v21] rfl rfl rfl ksizeB_24_1_true ocq86_16_1.2 rfl rfl (by intro u hu; simp only [List.mem_cons, List.not_mem_nil, or_false] at hu; rcases hu with rfl <;> first | exact ocq86_16_1.1 | rfl) rfl ?_
                        refine TA.back (.inl (by kernel_rfl)) ?_
                        refine TA.takeW 17 rfl rfl rfl rfl (StepS.fld rfl kfieldB_27_1_1_true) (by kernel_rfl) (by kernel_rfl) (by kernel_rfl) rfl (.inl (by kernel_rfl)) ?_
                        refine TA.all1 (i := 18) (by kernel_rfl) ?_
                        refine TB.of rfl ?_
                        refine TO.pure (fun _ s => Rd.one (OwnS.rd (Ent.at 5 rfl)) s) fun ocq86_18_1 => ?_
                        refine TO.stB (us := [vq86_9_3]) 7 [vq86_4_3, vq86_9_3, v21] rfl rfl rfl ksizeB_25_1_true ocq86_18_1.2 rfl rfl (by intro u hu; simp only [List.mem_cons, List.not_mem_nil, or_false] at hu; rcases hu with rfl <;> first | exact ocq86_18_1.1 | rfl) rfl ?_
                        refine TA.back (.inl (by kernel_rfl)) ?_
                        refine TA.takeW 19 rfl rfl rfl rfl (StepS.fld rfl kfieldB_27_2_2_true) (by kernel_rfl) (by kernel_rfl) (by kernel_rfl) rfl (.inl (by kernel_rfl)) ?_
                        refine TA.all1 (i := 20) (by kernel_rfl) ?_
                        refine TB.of rfl ?_
                        refine TO.pure (fun _ s => Rd.one (OwnS.rd (Ent.at 6 rfl)) s) fun ocq86_20_1 => ?_
                        refine TO.stB (us := [vq86_14_3]) 7 [vq86_4_3, vq86_9_3, vq86_14_3] rfl rfl rfl ksizeB_25_1_true ocq86_20_1.2 rfl rfl (by intro u hu; simp only [List.mem_cons, List.not_mem_nil, or_false] at hu; rcases hu with rfl <;> first | exact ocq86_20_1.1 | rfl) rfl ?_
                        refine TA.back (.inl (by kernel_rfl)) ?_
                        cases hj93
                        refine TA.nil (by kernel_rfl) fun a w e s => ?_
                        exact ⟨vq86_4_3, vq86_9_3, vq86_14_3, e.sub (lk_of_allIn ⟨rfl, rfl, rfl, rfl, rfl, rfl, rfl, rfl, trivial⟩), s.mono fun _ => Sat.dropN 3⟩
                    · refine TB.of rfl ?_
                      refine TO.litS (f := cU) ([x74] : List (BitVec 32)) kelemB_25_36_1_4_true kinfo_36_bind_zero_some_U_0 rfl rfl (fun _ => rfl) rfl rfl (by kernel_rfl) rfl fun vq86_8_1 => ?_
                      refine TA.back (.inr (fun _ s => by replace s := Sat.front 8 rfl s; replace s := Sat.front 8 rfl s; replace s := Sat.front 8 rfl s; replace s := Sat.front 5 rfl s; replace s := Sat.erase 4 s; replace s := Sat.erase 4 s; replace s := Sat.erase 4 s; replace s := Sat.erase 4 s; replace s := Sat.erase 4 s; exact s)) ?_
                      refine TA.all2 (i := 4) (j := 13) (by kernel_rfl) ?_ ?_
                      · refine TB.of rfl ?_
                        obtain ⟨yq86_4_1, hkq86_4_2, hj93⟩ := bind_some hj93
                        refine TO.app (k := 3) (f := cI) kelemB_24_28_1_8_true (by decide) rfl rfl rfl (OwnS.rd (Ent.at 1 rfl)) hkq86_4_2 (fun x c hc => by simp [Value.oneCell'] at hc ⊢; first | (obtain rfl := hc; rfl) | (rcases hc with rfl <;> rfl)) rfl rfl fun vq86_4_3 => ?_
                        refine TA.back (.inr (fun _ s => by replace s := Sat.front 8 rfl s; replace s := Sat.front 8 rfl s; replace s := Sat.front 8 rfl s; replace s := Sat.front 5 rfl s; replace s := Sat.erase 4 s; replace s := Sat.erase 4 s; replace s := Sat.erase 4 s; replace s := Sat.erase 4 s; replace s := Sat.erase 4 s; exact s)) ?_
                        refine TA.takeW 15 rfl rfl rfl rfl (StepS.fld rfl kfieldB_27_0_0_true) (by kernel_rfl) (by kernel_rfl) (by kernel_rfl) rfl (.inr (fun _ s => by replace s := Sat.front 8 rfl s; replace s := Sat.front 8 rfl s; replace s := Sat.front 8 rfl s; replace s := Sat.front 5 rfl s; replace s := Sat.erase 4 s; replace s := Sat.erase 4 s; replace s := Sat.erase 4 s; replace s := Sat.erase 4 s; replace s := Sat.erase 4 s; exact s)) ?_
                        refine TA.all2 (i := 9) (j := 13) (by kernel_rfl) ?_ ?_
                        · refine TB.of rfl ?_
                          obtain ⟨yq86_9_1, hkq86_9_2, hj93⟩ := bind_some hj93
                          refine TO.app (k := 4) (f := cU) kelemB_25_36_1_4_true (by decide) rfl rfl rfl (OwnS.rd (Ent.at 0 rfl)) hkq86_9_2 (fun x c hc => by simp [Value.oneCell'] at hc ⊢; first | (obtain rfl := hc; rfl) | (rcases hc with rfl <;> rfl)) rfl rfl fun vq86_9_3 => ?_
                          refine TA.back (.inr (fun _ s => by replace s := Sat.front 8 rfl s; replace s := Sat.front 8 rfl s; replace s := Sat.front 8 rfl s; replace s := Sat.front 5 rfl s; replace s := Sat.erase 4 s; replace s := Sat.erase 4 s; replace s := Sat.erase 4 s; replace s := Sat.erase 4 s; replace s := Sat.erase 4 s; exact s)) ?_
                          refine TA.all1 (i := 13) (by kernel_rfl) ?_
                          refine TB.of rfl ?_
                          refine TO.litS (f := cU) ([x81] : List (BitVec 32)) kelemB_25_36_1_4_true kinfo_36_bind_zero_some_U_0 rfl rfl (fun _ => rfl) rfl rfl (by kernel_rfl) rfl fun vq86_13_1 => ?_
                          refine TA.back (.inr (fun _ s => by replace s := Sat.front 9 rfl s; replace s := Sat.front 9 rfl s; replace s := Sat.front 9 rfl s; replace s := Sat.front 6 rfl s; replace s := Sat.erase 4 s; replace s := Sat.erase 4 s; replace s := Sat.erase 4 s; replace s := Sat.erase 4 s; replace s := Sat.erase 4 s; replace s := Sat.erase 4 s; exact s)) ?_
                          refine TA.all1 (i := 14) (by kernel_rfl) ?_
                          refine TB.of rfl ?_
                          obtain ⟨yq86_14_1, hkq86_14_2, hj93⟩ := bind_some hj93
                          refine TO.app (k := 6) (f := cU) kelemB_25_36_1_4_true (by decide) rfl rfl rfl (OwnS.rd (Ent.at 0 rfl)) hkq86_14_2 (fun x c hc => by simp [Value.oneCell'] at hc ⊢; first | (obtain rfl := hc; rfl) | (rcases hc with rfl <;> rfl)) rfl rfl fun vq86_14_3 => ?_
                          refine TA.back (.inr (fun _ s => by replace s := Sat.front 9 rfl s; replace s := Sat.front 9 rfl s; replace s := Sat.front 9 rfl s; replace s := Sat.front 6 rfl s; replace s := Sat.erase 4 s; replace s := Sat.erase 4 s; replace s := Sat.erase 4 s; replace s := Sat.erase 4 s; replace s := Sat.erase 4 s; replace s := Sat.erase 4 s; exact s)) ?_
                          refine TA.all1 (i := 16) (by kernel_rfl) ?_
                          refine TB.of rfl ?_
                          refine TO.pure (fun _ s => Rd.one (OwnS.rd (Ent.at 4 rfl)) s) fun ocq86_16_1 => ?_
                          refine TO.stB (us := [vq86_4_3]) 7 [vq86_4_3, v18, v21] rfl rfl rfl ksizeB_24_1_true ocq86_16_1.2 rfl rfl (by intro u hu; simp only [List.mem_cons, List.not_mem_nil, or_false] at hu; rcases hu with rfl <;> first | exact ocq86_16_1.1 | rfl) rfl ?_
                          refine TA.back (.inl (by kernel_rfl)) ?_
                          refine TA.takeW 17 rfl rfl rfl rfl (StepS.fld rfl kfieldB_27_1_1_true) (by kernel_rfl) (by kernel_rfl) (by kernel_rfl) rfl (.inl (by kernel_rfl)) ?_
                          refine TA.all1 (i := 18) (by kernel_rfl) ?_
                          refine TB.of rfl ?_
                          refine TO.pure (fun _ s => Rd.one (OwnS.rd (Ent.at 5 rfl)) s) fun ocq86_18_1 => ?_
                          refine TO.stB (us := [vq86_9_3]) 7 [vq86_4_3, vq86_9_3, v21] rfl rfl rfl ksizeB_25_1_true ocq86_18_1.2 rfl rfl (by intro u hu; simp only [List.mem_cons, List.not_mem_nil, or_false] at hu; rcases hu with rfl <;> first | exact ocq86_18_1.1 | rfl) rfl ?_
                          refine TA.back (.inl (by kernel_rfl)) ?_
                          refine TA.takeW 19 rfl rfl rfl rfl (StepS.fld rfl kfieldB_27_2_2_true) (by kernel_rfl) (by kernel_rfl) (by kernel_rfl) rfl (.inl (by kernel_rfl)) ?_
                          refine TA.all1 (i := 20) (by kernel_rfl) ?_
                          refine TB.of rfl ?_
                          refine TO.pure (fun _ s => Rd.one (OwnS.rd (Ent.at 6 rfl)) s) fun ocq86_20_1 => ?_
                          refine TO.stB (us := [vq86_14_3]) 7 [vq86_4_3, vq86_9_3, vq86_14_3] rfl rfl rfl ksizeB_25_1_true ocq86_20_1.2 rfl rfl (by intro u hu; simp only [List.mem_cons, List.not_mem_nil, or_false] at hu; rcases hu with rfl <;> first | exact ocq86_20_1.1 | rfl) rfl ?_
                          refine TA.back (.inl (by kernel_rfl)) ?_
                          cases hj93
                          refine TA.nil (by kernel_rfl) fun a w e s => ?_
                          exact ⟨vq86_4_3, vq86_9_3, vq86_14_3, e.sub (lk_of_allIn ⟨rfl, rfl, rfl, rfl, rfl, rfl, rfl, rfl, trivial⟩), s.mono fun _ => Sat.dropN 3⟩
                        · refine TB.of rfl ?_
                          refine TO.litS (f := cU) ([x81] : List (BitVec 32)) kelemB_25_36_1_4_true kinfo_36_bind_zero_some_U_0 rfl rfl (fun _ => rfl) rfl rfl (by kernel_rfl) rfl fun vq86_13_1 => ?_
                          refine TA.back (.inr (fun _ s => by replace s := Sat.front 9 rfl s; replace s := Sat.front 9 rfl s; replace s := Sat.front 9 rfl s; replace s := Sat.front 6 rfl s; replace s := Sat.erase 4 s; replace s := Sat.erase 4 s; replace s := Sat.erase 4 s; replace s := Sat.erase 4 s; replace s := Sat.erase 4 s; replace s := Sat.erase 4 s; exact s)) ?_
                          refine TA.all1 (i := 9) (by kernel_rfl) ?_
                          refine TB.of rfl ?_
                          obtain ⟨yq86_9_1, hkq86_9_2, hj93⟩ := bind_some hj93
                          refine TO.app (k := 5) (f := cU) kelemB_25_36_1_4_true (by decide) rfl rfl rfl (OwnS.rd (Ent.at 1 rfl)) hkq86_9_2 (fun x c hc => by simp [Value.oneCell'] at hc ⊢; first | (obtain rfl := hc; rfl) | (rcases hc with rfl <;> rfl)) rfl rfl fun vq86_9_3 => ?_
                          refine TA.back (.inr (fun _ s => by replace s := Sat.front 9 rfl s; replace s := Sat.front 9 rfl s; replace s := Sat.front 9 rfl s; replace s := Sat.front 6 rfl s; replace s := Sat.erase 4 s; replace s := Sat.erase 4 s; replace s := Sat.erase 4 s; replace s := Sat.erase 4 s; replace s := Sat.erase 4 s; replace s := Sat.erase 4 s; exact s)) ?_
                          refine TA.all1 (i := 14) (by kernel_rfl) ?_
                          refine TB.of rfl ?_
                          obtain ⟨yq86_14_1, hkq86_14_2, hj93⟩ := bind_some hj93
                          refine TO.app (k := 6) (f := cU) kelemB_25_36_1_4_true (by decide) rfl rfl rfl (OwnS.rd (Ent.at 0 rfl)) hkq86_14_2 (fun x c hc => by simp [Value.oneCell'] at hc ⊢; first | (obtain rfl := hc; rfl) | (rcases hc with rfl <;> rfl)) rfl rfl fun vq86_14_3 => ?_
                          refine TA.back (.inr (fun _ s => by replace s := Sat.front 9 rfl s; replace s := Sat.front 9 rfl s; replace s := Sat.front 9 rfl s; replace s := Sat.front 6 rfl s; replace s := Sat.erase 4 s; replace s := Sat.erase 4 s; replace s := Sat.erase 4 s; replace s := Sat.erase 4 s; replace s := Sat.erase 4 s; replace s := Sat.erase 4 s; exact s)) ?_
                          refine TA.all1 (i := 16) (by kernel_rfl) ?_
                          refine TB.of rfl ?_
                          refine TO.pure (fun _ s => Rd.one (OwnS.rd (Ent.at 4 rfl)) s) fun ocq86_16_1 => ?_
                          refine TO.stB (us := [vq86_4_3]) 7 [vq86_4_3, v18, v21] rfl rfl rfl ksizeB_24_1_true ocq86_16_1.2 rfl rfl (by intro u hu; simp only [List.mem_cons, List.not_mem_nil, or_false] at hu; rcases hu with rfl <;> first | exact ocq86_16_1.1 | rfl) rfl ?_
                          refine TA.back (.inl (by kernel_rfl)) ?_
                          refine TA.takeW 17 rfl rfl rfl rfl (StepS.fld rfl kfieldB_27_1_1_true) (by kernel_rfl) (by kernel_rfl) (by kernel_rfl) rfl (.inl (by kernel_rfl)) ?_
                          refine TA.all1 (i := 18) (by kernel_rfl) ?_
                          refine TB.of rfl ?_
                          refine TO.pure (fun _ s => Rd.one (OwnS.rd (Ent.at 5 rfl)) s) fun ocq86_18_1 => ?_
                          refine TO.stB (us := [vq86_9_3]) 7 [vq86_4_3, vq86_9_3, v21] rfl rfl rfl ksizeB_25_1_true ocq86_18_1.2 rfl rfl (by intro u hu; simp only [List.mem_cons, List.not_mem_nil, or_false] at hu; rcases hu with rfl <;> first | exact ocq86_18_1.1 | rfl) rfl ?_
                          refine TA.back (.inl (by kernel_rfl)) ?_
                          refine TA.takeW 19 rfl rfl rfl rfl (StepS.fld rfl kfieldB_27_2_2_true) (by kernel_rfl) (by kernel_rfl) (by kernel_rfl) rfl (.inl (by kernel_rfl)) ?_
                          refine TA.all1 (i := 20) (by kernel_rfl) ?_
                          refine TB.of rfl ?_
                          refine TO.pure (fun _ s => Rd.one (OwnS.rd (Ent.at 6 rfl)) s) fun ocq86_20_1 => ?_
                          refine TO.stB (us := [vq86_14_3]) 7 [vq86_4_3, vq86_9_3, vq86_14_3] rfl rfl rfl ksizeB_25_1_true ocq86_20_1.2 rfl rfl (by intro u hu; simp only [List.mem_cons, List.not_mem_nil, or_false] at hu; rcases hu with rfl <;> first | exact ocq86_20_1.1 | rfl) rfl ?_
                          refine TA.back (.inl (by kernel_rfl)) ?_
                          cases hj93
                          refine TA.nil (by kernel_rfl) fun a w e s => ?_
                          exact ⟨vq86_4_3, vq86_9_3, vq86_14_3, e.sub (lk_of_allIn ⟨rfl, rfl, rfl, rfl, rfl, rfl, rfl, rfl, trivial⟩), s.mono fun _ => Sat.dropN 3⟩
                      · refine TB.of rfl ?_
                        refine TO.litS (f := cU) ([x81] : List (BitVec 32)) kelemB_25_36_1_4_true kinfo_36_bind_zero_some_U_0 rfl rfl (fun _ => rfl) rfl rfl (by kernel_rfl) rfl fun vq86_13_1 => ?_
                        refine TA.back (.inr (fun _ s => by replace s := Sat.front 9 rfl s; replace s := Sat.front 9 rfl s; replace s := Sat.front 9 rfl s; replace s := Sat.front 6 rfl s; replace s := Sat.erase 4 s; replace s := Sat.erase 4 s; replace s := Sat.erase 4 s; replace s := Sat.erase 4 s; replace s := Sat.erase 4 s; replace s := Sat.erase 4 s; exact s)) ?_
                        refine TA.all1 (i := 4) (by kernel_rfl) ?_
                        refine TB.of rfl ?_
                        obtain ⟨yq86_4_1, hkq86_4_2, hj93⟩ := bind_some hj93
                        refine TO.app (k := 4) (f := cI) kelemB_24_28_1_8_true (by decide) rfl rfl rfl (OwnS.rd (Ent.at 2 rfl)) hkq86_4_2 (fun x c hc => by simp [Value.oneCell'] at hc ⊢; first | (obtain rfl := hc; rfl) | (rcases hc with rfl <;> rfl)) rfl rfl fun vq86_4_3 => ?_
                        refine TA.back (.inr (fun _ s => by replace s := Sat.front 9 rfl s; replace s := Sat.front 9 rfl s; replace s := Sat.front 9 rfl s; replace s := Sat.front 6 rfl s; replace s := Sat.erase 4 s; replace s := Sat.erase 4 s; replace s := Sat.erase 4 s; replace s := Sat.erase 4 s; replace s := Sat.erase 4 s; replace s := Sat.erase 4 s; exact s)) ?_
                        refine TA.takeW 15 rfl rfl rfl rfl (StepS.fld rfl kfieldB_27_0_0_true) (by kernel_rfl) (by kernel_rfl) (by kernel_rfl) rfl (.inr (fun _ s => by replace s := Sat.front 9 rfl s; replace s := Sat.front 9 rfl s; replace s := Sat.front 9 rfl s; replace s := Sat.front 6 rfl s; replace s := Sat.erase 4 s; replace s := Sat.erase 4 s; replace s := Sat.erase 4 s; replace s := Sat.erase 4 s; replace s := Sat.erase 4 s; replace s := Sat.erase 4 s; exact s)) ?_
                        refine TA.all1 (i := 9) (by kernel_rfl) ?_
                        refine TB.of rfl ?_
                        obtain ⟨yq86_9_1, hkq86_9_2, hj93⟩ := bind_some hj93
                        refine TO.app (k := 5) (f := cU) kelemB_25_36_1_4_true (by decide) rfl rfl rfl (OwnS.rd (Ent.at 1 rfl)) hkq86_9_2 (fun x c hc => by simp [Value.oneCell'] at hc ⊢; first | (obtain rfl := hc; rfl) | (rcases hc with rfl <;> rfl)) rfl rfl fun vq86_9_3 => ?_
                        refine TA.back (.inr (fun _ s => by replace s := Sat.front 9 rfl s; replace s := Sat.front 9 rfl s; replace s := Sat.front 9 rfl s; replace s := Sat.front 6 rfl s; replace s := Sat.erase 4 s; replace s := Sat.erase 4 s; replace s := Sat.erase 4 s; replace s := Sat.erase 4 s; replace s := Sat.erase 4 s; replace s := Sat.erase 4 s; exact s)) ?_
                        refine TA.all1 (i := 14) (by kernel_rfl) ?_
                        refine TB.of rfl ?_
                        obtain ⟨yq86_14_1, hkq86_14_2, hj93⟩ := bind_some hj93
                        refine TO.app (k := 6) (f := cU) kelemB_25_36_1_4_true (by decide) rfl rfl rfl (OwnS.rd (Ent.at 0 rfl)) hkq86_14_2 (fun x c hc => by simp [Value.oneCell'] at hc ⊢; first | (obtain rfl := hc; rfl) | (rcases hc with rfl <;> rfl)) rfl rfl fun vq86_14_3 => ?_
                        refine TA.back (.inr (fun _ s => by replace s := Sat.front 9 rfl s; replace s := Sat.front 9 rfl s; replace s := Sat.front 9 rfl s; replace s := Sat.front 6 rfl s; replace s := Sat.erase 4 s; replace s := Sat.erase 4 s; replace s := Sat.erase 4 s; replace s := Sat.erase 4 s; replace s := Sat.erase 4 s; replace s := Sat.erase 4 s; exact s)) ?_
                        refine TA.all1 (i := 16) (by kernel_rfl) ?_
                        refine TB.of rfl ?_
                        refine TO.pure (fun _ s => Rd.one (OwnS.rd (Ent.at 4 rfl)) s) fun ocq86_16_1 => ?_
                        refine TO.stB (us := [vq86_4_3]) 7 [vq86_4_3, v18, v21] rfl rfl rfl ksizeB_24_1_true ocq86_16_1.2 rfl rfl (by intro u hu; simp only [List.mem_cons, List.not_mem_nil, or_false] at hu; rcases hu with rfl <;> first | exact ocq86_16_1.1 | rfl) rfl ?_
                        refine TA.back (.inl (by kernel_rfl)) ?_
                        refine TA.takeW 17 rfl rfl rfl rfl (StepS.fld rfl kfieldB_27_1_1_true) (by kernel_rfl) (by kernel_rfl) (by kernel_rfl) rfl (.inl (by kernel_rfl)) ?_
                        refine TA.all1 (i := 18) (by kernel_rfl) ?_
                        refine TB.of rfl ?_
                        refine TO.pure (fun _ s => Rd.one (OwnS.rd (Ent.at 5 rfl)) s) fun ocq86_18_1 => ?_
                        refine TO.stB (us := [vq86_9_3]) 7 [vq86_4_3, vq86_9_3, v21] rfl rfl rfl ksizeB_25_1_true ocq86_18_1.2 rfl rfl (by intro u hu; simp only [List.mem_cons, List.not_mem_nil, or_false] at hu; rcases hu with rfl <;> first | exact ocq86_18_1.1 | rfl) rfl ?_
                        refine TA.back (.inl (by kernel_rfl)) ?_
                        refine TA.takeW 19 rfl rfl rfl rfl (StepS.fld rfl kfieldB_27_2_2_true) (by kernel_rfl) (by kernel_rfl) (by kernel_rfl) rfl (.inl (by kernel_rfl)) ?_
                        refine TA.all1 (i := 20) (by kernel_rfl) ?_
                        refine TB.of rfl ?_
                        refine TO.pure (fun _ s => Rd.one (OwnS.rd (Ent.at 6 rfl)) s) fun ocq86_20_1 => ?_
                        refine TO.stB (us := [vq86_14_3]) 7 [vq86_4_3, vq86_9_3, vq86_14_3] rfl rfl rfl ksizeB_25_1_true ocq86_20_1.2 rfl rfl (by intro u hu; simp only [List.mem_cons, List.not_mem_nil, or_false] at hu; rcases hu with rfl <;> first | exact ocq86_20_1.1 | rfl) rfl ?_
                        refine TA.back (.inl (by kernel_rfl)) ?_
                        cases hj93
                        refine TA.nil (by kernel_rfl) fun a w e s => ?_
                        exact ⟨vq86_4_3, vq86_9_3, vq86_14_3, e.sub (lk_of_allIn ⟨rfl, rfl, rfl, rfl, rfl, rfl, rfl, rfl, trivial⟩), s.mono fun _ => Sat.dropN 3⟩
                    · refine TB.of rfl ?_
                      refine TO.litS (f := cU) ([x81] : List (BitVec 32)) kelemB_25_36_1_4_true kinfo_36_bind_zero_some_U_0 rfl rfl (fun _ => rfl) rfl rfl (by kernel_rfl) rfl fun vq86_13_1 => ?_
                      refine TA.back (.inr (fun _ s => by replace s := Sat.front 8 rfl s; replace s := Sat.front 8 rfl s; replace s := Sat.front 8 rfl s; replace s := Sat.front 5 rfl s; replace s := Sat.erase 4 s; replace s := Sat.erase 4 s; replace s := Sat.erase 4 s; replace s := Sat.erase 4 s; replace s := Sat.erase 4 s; exact s)) ?_
                      refine TA.all2 (i := 4) (j := 8) (by kernel_rfl) ?_ ?_
                      · refine TB.of rfl ?_
                        obtain ⟨yq86_4_1, hkq86_4_2, hj93⟩ := bind_some hj93
                        refine TO.app (k := 3) (f := cI) kelemB_24_28_1_8_true (by decide) rfl rfl rfl (OwnS.rd (Ent.at 1 rfl)) hkq86_4_2 (fun x c hc => by simp [Value.oneCell'] at hc ⊢; first | (obtain rfl := hc; rfl) | (rcases hc with rfl <;> rfl)) rfl rfl fun vq86_4_3 => ?_
                        refine TA.back (.inr (fun _ s => by replace s := Sat.front 8 rfl s; replace s := Sat.front 8 rfl s; replace s := Sat.front 8 rfl s; replace s := Sat.front 5 rfl s; replace s := Sat.erase 4 s; replace s := Sat.erase 4 s; replace s := Sat.erase 4 s; replace s := Sat.erase 4 s; replace s := Sat.erase 4 s; exact s)) ?_
                        refine TA.takeW 15 rfl rfl rfl rfl (StepS.fld rfl kfieldB_27_0_0_true) (by kernel_rfl) (by kernel_rfl) (by kernel_rfl) rfl (.inr (fun _ s => by replace s := Sat.front 8 rfl s; replace s := Sat.front 8 rfl s; replace s := Sat.front 8 rfl s; replace s := Sat.front 5 rfl s; replace s := Sat.erase 4 s; replace s := Sat.erase 4 s; replace s := Sat.erase 4 s; replace s := Sat.erase 4 s; replace s := Sat.erase 4 s; exact s)) ?_
                        refine TA.all1 (i := 8) (by kernel_rfl) ?_
                        refine TB.of rfl ?_
                        refine TO.litS (f := cU) ([x74] : List (BitVec 32)) kelemB_25_36_1_4_true kinfo_36_bind_zero_some_U_0 rfl rfl (fun _ => rfl) rfl rfl (by kernel_rfl) rfl fun vq86_8_1 => ?_
                        refine TA.back (.inr (fun _ s => by replace s := Sat.front 9 rfl s; replace s := Sat.front 9 rfl s; replace s := Sat.front 9 rfl s; replace s := Sat.front 6 rfl s; replace s := Sat.erase 4 s; replace s := Sat.erase 4 s; replace s := Sat.erase 4 s; replace s := Sat.erase 4 s; replace s := Sat.erase 4 s; replace s := Sat.erase 4 s; exact s)) ?_
                        refine TA.all1 (i := 9) (by kernel_rfl) ?_
                        refine TB.of rfl ?_
                        obtain ⟨yq86_9_1, hkq86_9_2, hj93⟩ := bind_some hj93
                        refine TO.app (k := 5) (f := cU) kelemB_25_36_1_4_true (by decide) rfl rfl rfl (OwnS.rd (Ent.at 0 rfl)) hkq86_9_2 (fun x c hc => by simp [Value.oneCell'] at hc ⊢; first | (obtain rfl := hc; rfl) | (rcases hc with rfl <;> rfl)) rfl rfl fun vq86_9_3 => ?_
                        refine TA.back (.inr (fun _ s => by replace s := Sat.front 9 rfl s; replace s := Sat.front 9 rfl s; replace s := Sat.front 9 rfl s; replace s := Sat.front 6 rfl s; replace s := Sat.erase 4 s; replace s := Sat.erase 4 s; replace s := Sat.erase 4 s; replace s := Sat.erase 4 s; replace s := Sat.erase 4 s; replace s := Sat.erase 4 s; exact s)) ?_
                        refine TA.all1 (i := 14) (by kernel_rfl) ?_
                        refine TB.of rfl ?_
                        obtain ⟨yq86_14_1, hkq86_14_2, hj93⟩ := bind_some hj93
                        refine TO.app (k := 6) (f := cU) kelemB_25_36_1_4_true (by decide) rfl rfl rfl (OwnS.rd (Ent.at 1 rfl)) hkq86_14_2 (fun x c hc => by simp [Value.oneCell'] at hc ⊢; first | (obtain rfl := hc; rfl) | (rcases hc with rfl <;> rfl)) rfl rfl fun vq86_14_3 => ?_
                        refine TA.back (.inr (fun _ s => by replace s := Sat.front 9 rfl s; replace s := Sat.front 9 rfl s; replace s := Sat.front 9 rfl s; replace s := Sat.front 6 rfl s; replace s := Sat.erase 4 s; replace s := Sat.erase 4 s; replace s := Sat.erase 4 s; replace s := Sat.erase 4 s; replace s := Sat.erase 4 s; replace s := Sat.erase 4 s; exact s)) ?_
                        refine TA.all1 (i := 16) (by kernel_rfl) ?_
                        refine TB.of rfl ?_
                        refine TO.pure (fun _ s => Rd.one (OwnS.rd (Ent.at 4 rfl)) s) fun ocq86_16_1 => ?_
                        refine TO.stB (us := [vq86_4_3]) 7 [vq86_4_3, v18, v21] rfl rfl rfl ksizeB_24_1_true ocq86_16_1.2 rfl rfl (by intro u hu; simp only [List.mem_cons, List.not_mem_nil, or_false] at hu; rcases hu with rfl <;> first | exact ocq86_16_1.1 | rfl) rfl ?_
                        refine TA.back (.inl (by kernel_rfl)) ?_
                        refine TA.takeW 17 rfl rfl rfl rfl (StepS.fld rfl kfieldB_27_1_1_true) (by kernel_rfl) (by kernel_rfl) (by kernel_rfl) rfl (.inl (by kernel_rfl)) ?_
                        refine TA.all1 (i := 18) (by kernel_rfl) ?_
                        refine TB.of rfl ?_
                        refine TO.pure (fun _ s => Rd.one (OwnS.rd (Ent.at 5 rfl)) s) fun ocq86_18_1 => ?_
                        refine TO.stB (us := [vq86_9_3]) 7 [vq86_4_3, vq86_9_3, v21] rfl rfl rfl ksizeB_25_1_true ocq86_18_1.2 rfl rfl (by intro u hu; simp only [List.mem_cons, List.not_mem_nil, or_false] at hu; rcases hu with rfl <;> first | exact ocq86_18_1.1 | rfl) rfl ?_
                        refine TA.back (.inl (by kernel_rfl)) ?_
                        refine TA.takeW 19 rfl rfl rfl rfl (StepS.fld rfl kfieldB_27_2_2_true) (by kernel_rfl) (by kernel_rfl) (by kernel_rfl) rfl (.inl (by kernel_rfl)) ?_
                        refine TA.all1 (i := 20) (by kernel_rfl) ?_
                        refine TB.of rfl ?_
                        refine TO.pure (fun _ s => Rd.one (OwnS.rd (Ent.at 6 rfl)) s) fun ocq86_20_1 => ?_
                        refine TO.stB (us := [vq86_14_3]) 7 [vq86_4_3, vq86_9_3, vq86_14_3] rfl rfl rfl ksizeB_25_1_true ocq86_20_1.2 rfl rfl (by intro u hu; simp only [List.mem_cons, List.not_mem_nil, or_false] at hu; rcases hu with rfl <;> first | exact ocq86_20_1.1 | rfl) rfl ?_
                        refine TA.back (.inl (by kernel_rfl)) ?_
                        cases hj93
                        refine TA.nil (by kernel_rfl) fun a w e s => ?_
                        exact ⟨vq86_4_3, vq86_9_3, vq86_14_3, e.sub (lk_of_allIn ⟨rfl, rfl, rfl, rfl, rfl, rfl, rfl, rfl, trivial⟩), s.mono fun _ => Sat.dropN 3⟩
                      · refine TB.of rfl ?_
                        refine TO.litS (f := cU) ([x74] : List (BitVec 32)) kelemB_25_36_1_4_true kinfo_36_bind_zero_some_U_0 rfl rfl (fun _ => rfl) rfl rfl (by kernel_rfl) rfl fun vq86_8_1 => ?_
                        refine TA.back (.inr (fun _ s => by replace s := Sat.front 9 rfl s; replace s := Sat.front 9 rfl s; replace s := Sat.front 9 rfl s; replace s := Sat.front 6 rfl s; replace s := Sat.erase 4 s; replace s := Sat.erase 4 s; replace s := Sat.erase 4 s; replace s := Sat.erase 4 s; replace s := Sat.erase 4 s; replace s := Sat.erase 4 s; exact s)) ?_
                        refine TA.all1 (i := 4) (by kernel_rfl) ?_
                        refine TB.of rfl ?_
                        obtain ⟨yq86_4_1, hkq86_4_2, hj93⟩ := bind_some hj93
                        refine TO.app (k := 4) (f := cI) kelemB_24_28_1_8_true (by decide) rfl rfl rfl (OwnS.rd (Ent.at 2 rfl)) hkq86_4_2 (fun x c hc => by simp [Value.oneCell'] at hc ⊢; first | (obtain rfl := hc; rfl) | (rcases hc with rfl <;> rfl)) rfl rfl fun vq86_4_3 => ?_
                        refine TA.back (.inr (fun _ s => by replace s := Sat.front 9 rfl s; replace s := Sat.front 9 rfl s; replace s := Sat.front 9 rfl s; replace s := Sat.front 6 rfl s; replace s := Sat.erase 4 s; replace s := Sat.erase 4 s; replace s := Sat.erase 4 s; replace s := Sat.erase 4 s; replace s := Sat.erase 4 s; replace s := Sat.erase 4 s; exact s)) ?_
                        refine TA.takeW 15 rfl rfl rfl rfl (StepS.fld rfl kfieldB_27_0_0_true) (by kernel_rfl) (by kernel_rfl) (by kernel_rfl) rfl (.inr (fun _ s => by replace s := Sat.front 9 rfl s; replace s := Sat.front 9 rfl s; replace s := Sat.front 9 rfl s; replace s := Sat.front 6 rfl s; replace s := Sat.erase 4 s; replace s := Sat.erase 4 s; replace s := Sat.erase 4 s; replace s := Sat.erase 4 s; replace s := Sat.erase 4 s; replace s := Sat.erase 4 s; exact s)) ?_
                        refine TA.all1 (i := 9) (by kernel_rfl) ?_
                        refine TB.of rfl ?_
                        obtain ⟨yq86_9_1, hkq86_9_2, hj93⟩ := bind_some hj93
                        refine TO.app (k := 5) (f := cU) kelemB_25_36_1_4_true (by decide) rfl rfl rfl (OwnS.rd (Ent.at 0 rfl)) hkq86_9_2 (fun x c hc => by simp [Value.oneCell'] at hc ⊢; first | (obtain rfl := hc; rfl) | (rcases hc with rfl <;> rfl)) rfl rfl fun vq86_9_3 => ?_
                        refine TA.back (.inr (fun _ s => by replace s := Sat.front 9 rfl s; replace s := Sat.front 9 rfl s; replace s := Sat.front 9 rfl s; replace s := Sat.front 6 rfl s; replace s := Sat.erase 4 s; replace s := Sat.erase 4 s; replace s := Sat.erase 4 s; replace s := Sat.erase 4 s; replace s := Sat.erase 4 s; replace s := Sat.erase 4 s; exact s)) ?_
                        refine TA.all1 (i := 14) (by kernel_rfl) ?_
                        refine TB.of rfl ?_
                        obtain ⟨yq86_14_1, hkq86_14_2, hj93⟩ := bind_some hj93
                        refine TO.app (k := 6) (f := cU) kelemB_25_36_1_4_true (by decide) rfl rfl rfl (OwnS.rd (Ent.at 1 rfl)) hkq86_14_2 (fun x c hc => by simp [Value.oneCell'] at hc ⊢; first | (obtain rfl := hc; rfl) | (rcases hc with rfl <;> rfl)) rfl rfl fun vq86_14_3 => ?_
                        refine TA.back (.inr (fun _ s => by replace s := Sat.front 9 rfl s; replace s := Sat.front 9 rfl s; replace s := Sat.front 9 rfl s; replace s := Sat.front 6 rfl s; replace s := Sat.erase 4 s; replace s := Sat.erase 4 s; replace s := Sat.erase 4 s; replace s := Sat.erase 4 s; replace s := Sat.erase 4 s; replace s := Sat.erase 4 s; exact s)) ?_
                        refine TA.all1 (i := 16) (by kernel_rfl) ?_
                        refine TB.of rfl ?_
                        refine TO.pure (fun _ s => Rd.one (OwnS.rd (Ent.at 4 rfl)) s) fun ocq86_16_1 => ?_
                        refine TO.stB (us := [vq86_4_3]) 7 [vq86_4_3, v18, v21] rfl rfl rfl ksizeB_24_1_true ocq86_16_1.2 rfl rfl (by intro u hu; simp only [List.mem_cons, List.not_mem_nil, or_false] at hu; rcases hu with rfl <;> first | exact ocq86_16_1.1 | rfl) rfl ?_
                        refine TA.back (.inl (by kernel_rfl)) ?_
                        refine TA.takeW 17 rfl rfl rfl rfl (StepS.fld rfl kfieldB_27_1_1_true) (by kernel_rfl) (by kernel_rfl) (by kernel_rfl) rfl (.inl (by kernel_rfl)) ?_
                        refine TA.all1 (i := 18) (by kernel_rfl) ?_
                        refine TB.of rfl ?_
                        refine TO.pure (fun _ s => Rd.one (OwnS.rd (Ent.at 5 rfl)) s) fun ocq86_18_1 => ?_
                        refine TO.stB (us := [vq86_9_3]) 7 [vq86_4_3, vq86_9_3, v21] rfl rfl rfl ksizeB_25_1_true ocq86_18_1.2 rfl rfl (by intro u hu; simp only [List.mem_cons, List.not_mem_nil, or_false] at hu; rcases hu with rfl <;> first | exact ocq86_18_1.1 | rfl) rfl ?_
                        refine TA.back (.inl (by kernel_rfl)) ?_
                        refine TA.takeW 19 rfl rfl rfl rfl (StepS.fld rfl kfieldB_27_2_2_true) (by kernel_rfl) (by kernel_rfl) (by kernel_rfl) rfl (.inl (by kernel_rfl)) ?_
                        refine TA.all1 (i := 20) (by kernel_rfl) ?_
                        refine TB.of rfl ?_
                        refine TO.pure (fun _ s => Rd.one (OwnS.rd (Ent.at 6 rfl)) s) fun ocq86_20_1 => ?_
                        refine TO.stB (us := [vq86_14_3]) 7 [vq86_4_3, vq86_9_3, vq86_14_3] rfl rfl rfl ksizeB_25_1_true ocq86_20_1.2 rfl rfl (by intro u hu; simp only [List.mem_cons, List.not_mem_nil, or_false] at hu; rcases hu with rfl <;> first | exact ocq86_20_1.1 | rfl) rfl ?_
                        refine TA.back (.inl (by kernel_rfl)) ?_
                        cases hj93
                        refine TA.nil (by kernel_rfl) fun a w e s => ?_
                        exact ⟨vq86_4_3, vq86_9_3, vq86_14_3, e.sub (lk_of_allIn ⟨rfl, rfl, rfl, rfl, rfl, rfl, rfl, rfl, trivial⟩), s.mono fun _ => Sat.dropN 3⟩
                  · refine TB.of rfl ?_
                    refine TO.litS (f := cU) ([x74] : List (BitVec 32)) kelemB_25_36_1_4_true kinfo_36_bind_zero_some_U_0 rfl rfl (fun _ => rfl) rfl rfl (by kernel_rfl) rfl fun vq86_8_1 => ?_
                    refine TA.back (.inr (fun _ s => by replace s := Sat.front 7 rfl s; replace s := Sat.front 7 rfl s; replace s := Sat.front 7 rfl s; replace s := Sat.front 4 rfl s; replace s := Sat.erase 4 s; replace s := Sat.erase 4 s; replace s := Sat.erase 4 s; replace s := Sat.erase 4 s; exact s)) ?_
                    refine TA.all2 (i := 3) (j := 13) (by kernel_rfl) ?_ ?_
                    · refine TB.of rfl ?_
                      refine TO.litS (f := cI) ([x59] : List Int) kelemB_24_28_1_8_true kinfo_28_bind_zero_some_I_0 rfl rfl (fun _ => rfl) rfl rfl (by kernel_rfl) rfl fun vq86_3_1 => ?_
                      refine TA.back (.inr (fun _ s => by replace s := Sat.front 8 rfl s; replace s := Sat.front 8 rfl s; replace s := Sat.front 8 rfl s; replace s := Sat.front 5 rfl s; replace s := Sat.erase 4 s; replace s := Sat.erase 4 s; replace s := Sat.erase 4 s; replace s := Sat.erase 4 s; replace s := Sat.erase 4 s; exact s)) ?_
                      refine TA.all2 (i := 4) (j := 13) (by kernel_rfl) ?_ ?_
                      · refine TB.of rfl ?_
                        obtain ⟨yq86_4_1, hkq86_4_2, hj93⟩ := bind_some hj93
                        refine TO.app (k := 3) (f := cI) kelemB_24_28_1_8_true (by decide) rfl rfl rfl (OwnS.rd (Ent.at 0 rfl)) hkq86_4_2 (fun x c hc => by simp [Value.oneCell'] at hc ⊢; first | (obtain rfl := hc; rfl) | (rcases hc with rfl <;> rfl)) rfl rfl fun vq86_4_3 => ?_
                        refine TA.back (.inr (fun _ s => by replace s := Sat.front 8 rfl s; replace s := Sat.front 8 rfl s; replace s := Sat.front 8 rfl s; replace s := Sat.front 5 rfl s; replace s := Sat.erase 4 s; replace s := Sat.erase 4 s; replace s := Sat.erase 4 s; replace s := Sat.erase 4 s; replace s := Sat.erase 4 s; exact s)) ?_
                        refine TA.takeW 15 rfl rfl rfl rfl (StepS.fld rfl kfieldB_27_0_0_true) (by kernel_rfl) (by kernel_rfl) (by kernel_rfl) rfl (.inr (fun _ s => by replace s := Sat.front 8 rfl s; replace s := Sat.front 8 rfl s; replace s := Sat.front 8 rfl s; replace s := Sat.front 5 rfl s; replace s := Sat.erase 4 s; replace s := Sat.erase 4 s; replace s := Sat.erase 4 s; replace s := Sat.erase 4 s; replace s := Sat.erase 4 s; exact s)) ?_
                        refine TA.all2 (i := 9) (j := 13) (by kernel_rfl) ?_ ?_
                        · refine TB.of rfl ?_
                          obtain ⟨yq86_9_1, hkq86_9_2, hj93⟩ := bind_some hj93
                          refine TO.app (k := 4) (f := cU) kelemB_25_36_1_4_true (by decide) rfl rfl rfl (OwnS.rd (Ent.at 1 rfl)) hkq86_9_2 (fun x c hc => by simp [Value.oneCell'] at hc ⊢; first | (obtain rfl := hc; rfl) | (rcases hc with rfl <;> rfl)) rfl rfl fun vq86_9_3 => ?_
                          refine TA.back (.inr (fun _ s => by replace s := Sat.front 8 rfl s; replace s := Sat.front 8 rfl s; replace s := Sat.front 8 rfl s; replace s := Sat.front 5 rfl s; replace s := Sat.erase 4 s; replace s := Sat.erase 4 s; replace s := Sat.erase 4 s; replace s := Sat.erase 4 s; replace s := Sat.erase 4 s; exact s)) ?_
                          refine TA.all1 (i := 13) (by kernel_rfl) ?_
                          refine TB.of rfl ?_
                          refine TO.litS (f := cU) ([x81] : List (BitVec 32)) kelemB_25_36_1_4_true kinfo_36_bind_zero_some_U_0 rfl rfl (fun _ => rfl) rfl rfl (by kernel_rfl) rfl fun vq86_13_1 => ?_
                          refine TA.back (.inr (fun _ s => by replace s := Sat.front 9 rfl s; replace s := Sat.front 9 rfl s; replace s := Sat.front 9 rfl s; replace s := Sat.front 6 rfl s; replace s := Sat.erase 4 s; replace s := Sat.erase 4 s; replace s := Sat.erase 4 s; replace s := Sat.erase 4 s; replace s := Sat.erase 4 s; replace s := Sat.erase 4 s; exact s)) ?_
                          refine TA.all1 (i := 14) (by kernel_rfl) ?_
                          refine TB.of rfl ?_
                          obtain ⟨yq86_14_1, hkq86_14_2, hj93⟩ := bind_some hj93
                          refine TO.app (k := 6) (f := cU) kelemB_25_36_1_4_true (by decide) rfl rfl rfl (OwnS.rd (Ent.at 0 rfl)) hkq86_14_2 (fun x c hc => by simp [Value.oneCell'] at hc ⊢; first | (obtain rfl := hc; rfl) | (rcases hc with rfl <;> rfl)) rfl rfl fun vq86_14_3 => ?_
                          refine TA.back (.inr (fun _ s => by replace s := Sat.front 9 rfl s; replace s := Sat.front 9 rfl s; replace s := Sat.front 9 rfl s; replace s := Sat.front 6 rfl s; replace s := Sat.erase 4 s; replace s := Sat.erase 4 s; replace s := Sat.erase 4 s; replace s := Sat.erase 4 s; replace s := Sat.erase 4 s; replace s := Sat.erase 4 s; exact s)) ?_
                          refine TA.all1 (i := 16) (by kernel_rfl) ?_
                          refine TB.of rfl ?_
                          refine TO.pure (fun _ s => Rd.one (OwnS.rd (Ent.at 4 rfl)) s) fun ocq86_16_1 => ?_
                          refine TO.stB (us := [vq86_4_3]) 7 [vq86_4_3, v18, v21] rfl rfl rfl ksizeB_24_1_true ocq86_16_1.2 rfl rfl (by intro u hu; simp only [List.mem_cons, List.not_mem_nil, or_false] at hu; rcases hu with rfl <;> first | exact ocq86_16_1.1 | rfl) rfl ?_
                          refine TA.back (.inl (by kernel_rfl)) ?_
                          refine TA.takeW 17 rfl rfl rfl rfl (StepS.fld rfl kfieldB_27_1_1_true) (by kernel_rfl) (by kernel_rfl) (by kernel_rfl) rfl (.inl (by kernel_rfl)) ?_
                          refine TA.all1 (i := 18) (by kernel_rfl) ?_
                          refine TB.of rfl ?_
                          refine TO.pure (fun _ s => Rd.one (OwnS.rd (Ent.at 5 rfl)) s) fun ocq86_18_1 => ?_
                          refine TO.stB (us := [vq86_9_3]) 7 [vq86_4_3, vq86_9_3, v21] rfl rfl rfl ksizeB_25_1_true ocq86_18_1.2 rfl rfl (by intro u hu; simp only [List.mem_cons, List.not_mem_nil, or_false] at hu; rcases hu with rfl <;> first | exact ocq86_18_1.1 | rfl) rfl ?_
                          refine TA.back (.inl (by kernel_rfl)) ?_
                          refine TA.takeW 19 rfl rfl rfl rfl (StepS.fld rfl kfieldB_27_2_2_true) (by kernel_rfl) (by kernel_rfl) (by kernel_rfl) rfl (.inl (by kernel_rfl)) ?_
                          refine TA.all1 (i := 20) (by kernel_rfl) ?_
                          refine TB.of rfl ?_
                          refine TO.pure (fun _ s => Rd.one (OwnS.rd (Ent.at 6 rfl)) s) fun ocq86_20_1 => ?_
                          refine TO.stB (us := [vq86_14_3]) 7 [vq86_4_3, vq86_9_3, vq86_14_3] rfl rfl rfl ksizeB_25_1_true ocq86_20_1.2 rfl rfl (by intro u hu; simp only [List.mem_cons, List.not_mem_nil, or_false] at hu; rcases hu with rfl <;> first | exact ocq86_20_1.1 | rfl) rfl ?_
                          refine TA.back (.inl (by kernel_rfl)) ?_
                          cases hj93
                          refine TA.nil (by kernel_rfl) fun a w e s => ?_
                          exact ⟨vq86_4_3, vq86_9_3, vq86_14_3, e.sub (lk_of_allIn ⟨rfl, rfl, rfl, rfl, rfl, rfl, rfl, rfl, trivial⟩), s.mono fun _ => Sat.dropN 3⟩
                        · refine TB.of rfl ?_
                          refine TO.litS (f := cU) ([x81] : List (BitVec 32)) kelemB_25_36_1_4_true kinfo_36_bind_zero_some_U_0 rfl rfl (fun _ => rfl) rfl rfl (by kernel_rfl) rfl fun vq86_13_1 => ?_
                          refine TA.back (.inr (fun _ s => by replace s := Sat.front 9 rfl s; replace s := Sat.front 9 rfl s; replace s := Sat.front 9 rfl s; replace s := Sat.front 6 rfl s; replace s := Sat.erase 4 s; replace s := Sat.erase 4 s; replace s := Sat.erase 4 s; replace s := Sat.erase 4 s; replace s := Sat.erase 4 s; replace s := Sat.erase 4 s; exact s)) ?_
                          refine TA.all1 (i := 9) (by kernel_rfl) ?_
                          refine TB.of rfl ?_
                          obtain ⟨yq86_9_1, hkq86_9_2, hj93⟩ := bind_some hj93
                          refine TO.app (k := 5) (f := cU) kelemB_25_36_1_4_true (by decide) rfl rfl rfl (OwnS.rd (Ent.at 2 rfl)) hkq86_9_2 (fun x c hc => by simp [Value.oneCell'] at hc ⊢; first | (obtain rfl := hc; rfl) | (rcases hc with rfl <;> rfl)) rfl rfl fun vq86_9_3 => ?_
                          refine TA.back (.inr (fun _ s => by replace s := Sat.front 9 rfl s; replace s := Sat.front 9 rfl s; replace s := Sat.front 9 rfl s; replace s := Sat.front 6 rfl s; replace s := Sat.erase 4 s; replace s := Sat.erase 4 s; replace s := Sat.erase 4 s; replace s := Sat.erase 4 s; replace s := Sat.erase 4 s; replace s := Sat.erase 4 s; exact s)) ?_
                          refine TA.all1 (i := 14) (by kernel_rfl) ?_
                          refine TB.of rfl ?_
                          obtain ⟨yq86_14_1, hkq86_14_2, hj93⟩ := bind_some hj93
                          refine TO.app (k := 6) (f := cU) kelemB_25_36_1_4_true (by decide) rfl rfl rfl (OwnS.rd (Ent.at 0 rfl)) hkq86_14_2 (fun x c hc => by simp [Value.oneCell'] at hc ⊢; first | (obtain rfl := hc; rfl) | (rcases hc with rfl <;> rfl)) rfl rfl fun vq86_14_3 => ?_
                          refine TA.back (.inr (fun _ s => by replace s := Sat.front 9 rfl s; replace s := Sat.front 9 rfl s; replace s := Sat.front 9 rfl s; replace s := Sat.front 6 rfl s; replace s := Sat.erase 4 s; replace s := Sat.erase 4 s; replace s := Sat.erase 4 s; replace s := Sat.erase 4 s; replace s := Sat.erase 4 s; replace s := Sat.erase 4 s; exact s)) ?_
                          refine TA.all1 (i := 16) (by kernel_rfl) ?_
                          refine TB.of rfl ?_
                          refine TO.pure (fun _ s => Rd.one (OwnS.rd (Ent.at 4 rfl)) s) fun ocq86_16_1 => ?_
                          refine TO.stB (us := [vq86_4_3]) 7 [vq86_4_3, v18, v21] rfl rfl rfl ksizeB_24_1_true ocq86_16_1.2 rfl rfl (by intro u hu; simp only [List.mem_cons, List.not_mem_nil, or_false] at hu; rcases hu with rfl <;> first | exact ocq86_16_1.1 | rfl) rfl ?_
                          refine TA.back (.inl (by kernel_rfl)) ?_
                          refine TA.takeW 17 rfl rfl rfl rfl (StepS.fld rfl kfieldB_27_1_1_true) (by kernel_rfl) (by kernel_rfl) (by kernel_rfl) rfl (.inl (by kernel_rfl)) ?_
                          refine TA.all1 (i := 18) (by kernel_rfl) ?_
                          refine TB.of rfl ?_
                          refine TO.pure (fun _ s => Rd.one (OwnS.rd (Ent.at 5 rfl)) s) fun ocq86_18_1 => ?_
                          refine TO.stB (us := [vq86_9_3]) 7 [vq86_4_3, vq86_9_3, v21] rfl rfl rfl ksizeB_25_1_true ocq86_18_1.2 rfl rfl (by intro u hu; simp only [List.mem_cons, List.not_mem_nil, or_false] at hu; rcases hu with rfl <;> first | exact ocq86_18_1.1 | rfl) rfl ?_
                          refine TA.back (.inl (by kernel_rfl)) ?_
                          refine TA.takeW 19 rfl rfl rfl rfl (StepS.fld rfl kfieldB_27_2_2_true) (by kernel_rfl) (by kernel_rfl) (by kernel_rfl) rfl (.inl (by kernel_rfl)) ?_
                          refine TA.all1 (i := 20) (by kernel_rfl) ?_
                          refine TB.of rfl ?_
                          refine TO.pure (fun _ s => Rd.one (OwnS.rd (Ent.at 6 rfl)) s) fun ocq86_20_1 => ?_
                          refine TO.stB (us := [vq86_14_3]) 7 [vq86_4_3, vq86_9_3, vq86_14_3] rfl rfl rfl ksizeB_25_1_true ocq86_20_1.2 rfl rfl (by intro u hu; simp only [List.mem_cons, List.not_mem_nil, or_false] at hu; rcases hu with rfl <;> first | exact ocq86_20_1.1 | rfl) rfl ?_
                          refine TA.back (.inl (by kernel_rfl)) ?_
                          cases hj93
                          refine TA.nil (by kernel_rfl) fun a w e s => ?_
                          exact ⟨vq86_4_3, vq86_9_3, vq86_14_3, e.sub (lk_of_allIn ⟨rfl, rfl, rfl, rfl, rfl, rfl, rfl, rfl, trivial⟩), s.mono fun _ => Sat.dropN 3⟩
                      · refine TB.of rfl ?_
                        refine TO.litS (f := cU) ([x81] : List (BitVec 32)) kelemB_25_36_1_4_true kinfo_36_bind_zero_some_U_0 rfl rfl (fun _ => rfl) rfl rfl (by kernel_rfl) rfl fun vq86_13_1 => ?_
                        refine TA.back (.inr (fun _ s => by replace s := Sat.front 9 rfl s; replace s := Sat.front 9 rfl s; replace s := Sat.front 9 rfl s; replace s := Sat.front 6 rfl s; replace s := Sat.erase 4 s; replace s := Sat.erase 4 s; replace s := Sat.erase 4 s; replace s := Sat.erase 4 s; replace s := Sat.erase 4 s; replace s := Sat.erase 4 s; exact s)) ?_
                        refine TA.all1 (i := 4) (by kernel_rfl) ?_
                        refine TB.of rfl ?_
                        obtain ⟨yq86_4_1, hkq86_4_2, hj93⟩ := bind_some hj93
                        refine TO.app (k := 4) (f := cI) kelemB_24_28_1_8_true (by decide) rfl rfl rfl (OwnS.rd (Ent.at 1 rfl)) hkq86_4_2 (fun x c hc => by simp [Value.oneCell'] at hc ⊢; first | (obtain rfl := hc; rfl) | (rcases hc with rfl <;> rfl)) rfl rfl fun vq86_4_3 => ?_
                        refine TA.back (.inr (fun _ s => by replace s := Sat.front 9 rfl s; replace s := Sat.front 9 rfl s; replace s := Sat.front 9 rfl s; replace s := Sat.front 6 rfl s; replace s := Sat.erase 4 s; replace s := Sat.erase 4 s; replace s := Sat.erase 4 s; replace s := Sat.erase 4 s; replace s := Sat.erase 4 s; replace s := Sat.erase 4 s; exact s)) ?_
                        refine TA.takeW 15 rfl rfl rfl rfl (StepS.fld rfl kfieldB_27_0_0_true) (by kernel_rfl) (by kernel_rfl) (by kernel_rfl) rfl (.inr (fun _ s => by replace s := Sat.front 9 rfl s; replace s := Sat.front 9 rfl s; replace s := Sat.front 9 rfl s; replace s := Sat.front 6 rfl s; replace s := Sat.erase 4 s; replace s := Sat.erase 4 s; replace s := Sat.erase 4 s; replace s := Sat.erase 4 s; replace s := Sat.erase 4 s; replace s := Sat.erase 4 s; exact s)) ?_
                        refine TA.all1 (i := 9) (by kernel_rfl) ?_
                        refine TB.of rfl ?_
                        obtain ⟨yq86_9_1, hkq86_9_2, hj93⟩ := bind_some hj93
                        refine TO.app (k := 5) (f := cU) kelemB_25_36_1_4_true (by decide) rfl rfl rfl (OwnS.rd (Ent.at 2 rfl)) hkq86_9_2 (fun x c hc => by simp [Value.oneCell'] at hc ⊢; first | (obtain rfl := hc; rfl) | (rcases hc with rfl <;> rfl)) rfl rfl fun vq86_9_3 => ?_
                        refine TA.back (.inr (fun _ s => by replace s := Sat.front 9 rfl s; replace s := Sat.front 9 rfl s; replace s := Sat.front 9 rfl s; replace s := Sat.front 6 rfl s; replace s := Sat.erase 4 s; replace s := Sat.erase 4 s; replace s := Sat.erase 4 s; replace s := Sat.erase 4 s; replace s := Sat.erase 4 s; replace s := Sat.erase 4 s; exact s)) ?_
                        refine TA.all1 (i := 14) (by kernel_rfl) ?_
                        refine TB.of rfl ?_
                        obtain ⟨yq86_14_1, hkq86_14_2, hj93⟩ := bind_some hj93
                        refine TO.app (k := 6) (f := cU) kelemB_25_36_1_4_true (by decide) rfl rfl rfl (OwnS.rd (Ent.at 0 rfl)) hkq86_14_2 (fun x c hc => by simp [Value.oneCell'] at hc ⊢; first | (obtain rfl := hc; rfl) | (rcases hc with rfl <;> rfl)) rfl rfl fun vq86_14_3 => ?_
                        refine TA.back (.inr (fun _ s => by replace s := Sat.front 9 rfl s; replace s := Sat.front 9 rfl s; replace s := Sat.front 9 rfl s; replace s := Sat.front 6 rfl s; replace s := Sat.erase 4 s; replace s := Sat.erase 4 s; replace s := Sat.erase 4 s; replace s := Sat.erase 4 s; replace s := Sat.erase 4 s; replace s := Sat.erase 4 s; exact s)) ?_
                        refine TA.all1 (i := 16) (by kernel_rfl) ?_
                        refine TB.of rfl ?_
                        refine TO.pure (fun _ s => Rd.one (OwnS.rd (Ent.at 4 rfl)) s) fun ocq86_16_1 => ?_
                        refine TO.stB (us := [vq86_4_3]) 7 [vq86_4_3, v18, v21] rfl rfl rfl ksizeB_24_1_true ocq86_16_1.2 rfl rfl (by intro u hu; simp only [List.mem_cons, List.not_mem_nil, or_false] at hu; rcases hu with rfl <;> first | exact ocq86_16_1.1 | rfl) rfl ?_
                        refine TA.back (.inl (by kernel_rfl)) ?_
                        refine TA.takeW 17 rfl rfl rfl rfl (StepS.fld rfl kfieldB_27_1_1_true) (by kernel_rfl) (by kernel_rfl) (by kernel_rfl) rfl (.inl (by kernel_rfl)) ?_
                        refine TA.all1 (i := 18) (by kernel_rfl) ?_
                        refine TB.of rfl ?_
                        refine TO.pure (fun _ s => Rd.one (OwnS.rd (Ent.at 5 rfl)) s) fun ocq86_18_1 => ?_
                        refine TO.stB (us := [vq86_9_3]) 7 [vq86_4_3, vq86_9_3, v21] rfl rfl rfl ksizeB_25_1_true ocq86_18_1.2 rfl rfl (by intro u hu; simp only [List.mem_cons, List.not_mem_nil, or_false] at hu; rcases hu with rfl <;> first | exact ocq86_18_1.1 | rfl) rfl ?_
                        refine TA.back (.inl (by kernel_rfl)) ?_
                        refine TA.takeW 19 rfl rfl rfl rfl (StepS.fld rfl kfieldB_27_2_2_true) (by kernel_rfl) (by kernel_rfl) (by kernel_rfl) rfl (.inl (by kernel_rfl)) ?_
                        refine TA.all1 (i := 20) (by kernel_rfl) ?_
                        refine TB.of rfl ?_
                        refine TO.pure (fun _ s => Rd.one (OwnS.rd (Ent.at 6 rfl)) s) fun ocq86_20_1 => ?_
                        refine TO.stB (us := [vq86_14_3]) 7 [vq86_4_3, vq86_9_3, vq86_14_3] rfl rfl rfl ksizeB_25_1_true ocq86_20_1.2 rfl rfl (by intro u hu; simp only [List.mem_cons, List.not_mem_nil, or_false] at hu; rcases hu with rfl <;> first | exact ocq86_20_1.1 | rfl) rfl ?_
                        refine TA.back (.inl (by kernel_rfl)) ?_
                        cases hj93
                        refine TA.nil (by kernel_rfl) fun a w e s => ?_
                        exact ⟨vq86_4_3, vq86_9_3, vq86_14_3, e.sub (lk_of_allIn ⟨rfl, rfl, rfl, rfl, rfl, rfl, rfl, rfl, trivial⟩), s.mono fun _ => Sat.dropN 3⟩
                    · refine TB.of rfl ?_
                      refine TO.litS (f := cU) ([x81] : List (BitVec 32)) kelemB_25_36_1_4_true kinfo_36_bind_zero_some_U_0 rfl rfl (fun _ => rfl) rfl rfl (by kernel_rfl) rfl fun vq86_13_1 => ?_
                      refine TA.back (.inr (fun _ s => by replace s := Sat.front 8 rfl s; replace s := Sat.front 8 rfl s; replace s := Sat.front 8 rfl s; replace s := Sat.front 5 rfl s; replace s := Sat.erase 4 s; replace s := Sat.erase 4 s; replace s := Sat.erase 4 s; replace s := Sat.erase 4 s; replace s := Sat.erase 4 s; exact s)) ?_
                      refine TA.all1 (i := 3) (by kernel_rfl) ?_
                      refine TB.of rfl ?_
                      refine TO.litS (f := cI) ([x59] : List Int) kelemB_24_28_1_8_true kinfo_28_bind_zero_some_I_0 rfl rfl (fun _ => rfl) rfl rfl (by kernel_rfl) rfl fun vq86_3_1 => ?_
                      refine TA.back (.inr (fun _ s => by replace s := Sat.front 9 rfl s; replace s := Sat.front 9 rfl s; replace s := Sat.front 9 rfl s; replace s := Sat.front 6 rfl s; replace s := Sat.erase 4 s; replace s := Sat.erase 4 s; replace s := Sat.erase 4 s; replace s := Sat.erase 4 s; replace s := Sat.erase 4 s; replace s := Sat.erase 4 s; exact s)) ?_
                      refine TA.all1 (i := 4) (by kernel_rfl) ?_
                      refine TB.of rfl ?_
                      obtain ⟨yq86_4_1, hkq86_4_2, hj93⟩ := bind_some hj93
                      refine TO.app (k := 4) (f := cI) kelemB_24_28_1_8_true (by decide) rfl rfl rfl (OwnS.rd (Ent.at 0 rfl)) hkq86_4_2 (fun x c hc => by simp [Value.oneCell'] at hc ⊢; first | (obtain rfl := hc; rfl) | (rcases hc with rfl <;> rfl)) rfl rfl fun vq86_4_3 => ?_
                      refine TA.back (.inr (fun _ s => by replace s := Sat.front 9 rfl s; replace s := Sat.front 9 rfl s; replace s := Sat.front 9 rfl s; replace s := Sat.front 6 rfl s; replace s := Sat.erase 4 s; replace s := Sat.erase 4 s; replace s := Sat.erase 4 s; replace s := Sat.erase 4 s; replace s := Sat.erase 4 s; replace s := Sat.erase 4 s; exact s)) ?_
                      refine TA.takeW 15 rfl rfl rfl rfl (StepS.fld rfl kfieldB_27_0_0_true) (by kernel_rfl) (by kernel_rfl) (by kernel_rfl) rfl (.inr (fun _ s => by replace s := Sat.front 9 rfl s; replace s := Sat.front 9 rfl s; replace s := Sat.front 9 rfl s; replace s := Sat.front 6 rfl s; replace s := Sat.erase 4 s; replace s := Sat.erase 4 s; replace s := Sat.erase 4 s; replace s := Sat.erase 4 s; replace s := Sat.erase 4 s; replace s := Sat.erase 4 s; exact s)) ?_
                      refine TA.all1 (i := 9) (by kernel_rfl) ?_
                      refine TB.of rfl ?_
                      obtain ⟨yq86_9_1, hkq86_9_2, hj93⟩ := bind_some hj93
                      refine TO.app (k := 5) (f := cU) kelemB_25_36_1_4_true (by decide) rfl rfl rfl (OwnS.rd (Ent.at 2 rfl)) hkq86_9_2 (fun x c hc => by simp [Value.oneCell'] at hc ⊢; first | (obtain rfl := hc; rfl) | (rcases hc with rfl <;> rfl)) rfl rfl fun vq86_9_3 => ?_
                      refine TA.back (.inr (fun _ s => by replace s := Sat.front 9 rfl s; replace s := Sat.front 9 rfl s; replace s := Sat.front 9 rfl s; replace s := Sat.front 6 rfl s; replace s := Sat.erase 4 s; replace s := Sat.erase 4 s; replace s := Sat.erase 4 s; replace s := Sat.erase 4 s; replace s := Sat.erase 4 s; replace s := Sat.erase 4 s; exact s)) ?_
                      refine TA.all1 (i := 14) (by kernel_rfl) ?_
                      refine TB.of rfl ?_
                      obtain ⟨yq86_14_1, hkq86_14_2, hj93⟩ := bind_some hj93
                      refine TO.app (k := 6) (f := cU) kelemB_25_36_1_4_true (by decide) rfl rfl rfl (OwnS.rd (Ent.at 1 rfl)) hkq86_14_2 (fun x c hc => by simp [Value.oneCell'] at hc ⊢; first | (obtain rfl := hc; rfl) | (rcases hc with rfl <;> rfl)) rfl rfl fun vq86_14_3 => ?_
                      refine TA.back (.inr (fun _ s => by replace s := Sat.front 9 rfl s; replace s := Sat.front 9 rfl s; replace s := Sat.front 9 rfl s; replace s := Sat.front 6 rfl s; replace s := Sat.erase 4 s; replace s := Sat.erase 4 s; replace s := Sat.erase 4 s; replace s := Sat.erase 4 s; replace s := Sat.erase 4 s; replace s := Sat.erase 4 s; exact s)) ?_
                      refine TA.all1 (i := 16) (by kernel_rfl) ?_
                      refine TB.of rfl ?_
                      refine TO.pure (fun _ s => Rd.one (OwnS.rd (Ent.at 4 rfl)) s) fun ocq86_16_1 => ?_
                      refine TO.stB (us := [vq86_4_3]) 7 [vq86_4_3, v18, v21] rfl rfl rfl ksizeB_24_1_true ocq86_16_1.2 rfl rfl (by intro u hu; simp only [List.mem_cons, List.not_mem_nil, or_false] at hu; rcases hu with rfl <;> first | exact ocq86_16_1.1 | rfl) rfl ?_
                      refine TA.back (.inl (by kernel_rfl)) ?_
                      refine TA.takeW 17 rfl rfl rfl rfl (StepS.fld rfl kfieldB_27_1_1_true) (by kernel_rfl) (by kernel_rfl) (by kernel_rfl) rfl (.inl (by kernel_rfl)) ?_
                      refine TA.all1 (i := 18) (by kernel_rfl) ?_
                      refine TB.of rfl ?_
                      refine TO.pure (fun _ s => Rd.one (OwnS.rd (Ent.at 5 rfl)) s) fun ocq86_18_1 => ?_
                      refine TO.stB (us := [vq86_9_3]) 7 [vq86_4_3, vq86_9_3, v21] rfl rfl rfl ksizeB_25_1_true ocq86_18_1.2 rfl rfl (by intro u hu; simp only [List.mem_cons, List.not_mem_nil, or_false] at hu; rcases hu with rfl <;> first | exact ocq86_18_1.1 | rfl) rfl ?_
                      refine TA.back (.inl (by kernel_rfl)) ?_
                      refine TA.takeW 19 rfl rfl rfl rfl (StepS.fld rfl kfieldB_27_2_2_true) (by kernel_rfl) (by kernel_rfl) (by kernel_rfl) rfl (.inl (by kernel_rfl)) ?_
                      refine TA.all1 (i := 20) (by kernel_rfl) ?_
                      refine TB.of rfl ?_
                      refine TO.pure (fun _ s => Rd.one (OwnS.rd (Ent.at 6 rfl)) s) fun ocq86_20_1 => ?_
                      refine TO.stB (us := [vq86_14_3]) 7 [vq86_4_3, vq86_9_3, vq86_14_3] rfl rfl rfl ksizeB_25_1_true ocq86_20_1.2 rfl rfl (by intro u hu; simp only [List.mem_cons, List.not_mem_nil, or_false] at hu; rcases hu with rfl <;> first | exact ocq86_20_1.1 | rfl) rfl ?_
                      refine TA.back (.inl (by kernel_rfl)) ?_
                      cases hj93
                      refine TA.nil (by kernel_rfl) fun a w e s => ?_
                      exact ⟨vq86_4_3, vq86_9_3, vq86_14_3, e.sub (lk_of_allIn ⟨rfl, rfl, rfl, rfl, rfl, rfl, rfl, rfl, trivial⟩), s.mono fun _ => Sat.dropN 3⟩
                  · refine TB.of rfl ?_
                    refine TO.litS (f := cU) ([x81] : List (BitVec 32)) kelemB_25_36_1_4_true kinfo_36_bind_zero_some_U_0 rfl rfl (fun _ => rfl) rfl rfl (by kernel_rfl) rfl fun vq86_13_1 => ?_
                    refine TA.back (.inr (fun _ s => by replace s := Sat.front 7 rfl s; replace s := Sat.front 7 rfl s; replace s := Sat.front 7 rfl s; replace s := Sat.front 4 rfl s; replace s := Sat.erase 4 s; replace s := Sat.erase 4 s; replace s := Sat.erase 4 s; replace s := Sat.erase 4 s; exact s)) ?_
                    refine TA.all2 (i := 3) (j := 8) (by kernel_rfl) ?_ ?_
                    · refine TB.of rfl ?_
                      refine TO.litS (f := cI) ([x59] : List Int) kelemB_24_28_1_8_true kinfo_28_bind_zero_some_I_0 rfl rfl (fun _ => rfl) rfl rfl (by kernel_rfl) rfl fun vq86_3_1 => ?_
                      refine TA.back (.inr (fun _ s => by replace s := Sat.front 8 rfl s; replace s := Sat.front 8 rfl s; replace s := Sat.front 8 rfl s; replace s := Sat.front 5 rfl s; replace s := Sat.erase 4 s; replace s := Sat.erase 4 s; replace s := Sat.erase 4 s; replace s := Sat.erase 4 s; replace s := Sat.erase 4 s; exact s)) ?_
                      refine TA.all2 (i := 4) (j := 8) (by kernel_rfl) ?_ ?_
                      · refine TB.of rfl ?_
                        obtain ⟨yq86_4_1, hkq86_4_2, hj93⟩ := bind_some hj93
                        refine TO.app (k := 3) (f := cI) kelemB_24_28_1_8_true (by decide) rfl rfl rfl (OwnS.rd (Ent.at 0 rfl)) hkq86_4_2 (fun x c hc => by simp [Value.oneCell'] at hc ⊢; first | (obtain rfl := hc; rfl) | (rcases hc with rfl <;> rfl)) rfl rfl fun vq86_4_3 => ?_
                        refine TA.back (.inr (fun _ s => by replace s := Sat.front 8 rfl s; replace s := Sat.front 8 rfl s; replace s := Sat.front 8 rfl s; replace s := Sat.front 5 rfl s; replace s := Sat.erase 4 s; replace s := Sat.erase 4 s; replace s := Sat.erase 4 s; replace s := Sat.erase 4 s; replace s := Sat.erase 4 s; exact s)) ?_
                        refine TA.takeW 15 rfl rfl rfl rfl (StepS.fld rfl kfieldB_27_0_0_true) (by kernel_rfl) (by kernel_rfl) (by kernel_rfl) rfl (.inr (fun _ s => by replace s := Sat.front 8 rfl s; replace s := Sat.front 8 rfl s; replace s := Sat.front 8 rfl s; replace s := Sat.front 5 rfl s; replace s := Sat.erase 4 s; replace s := Sat.erase 4 s; replace s := Sat.erase 4 s; replace s := Sat.erase 4 s; replace s := Sat.erase 4 s; exact s)) ?_
                        refine TA.all1 (i := 8) (by kernel_rfl) ?_
                        refine TB.of rfl ?_
                        refine TO.litS (f := cU) ([x74] : List (BitVec 32)) kelemB_25_36_1_4_true kinfo_36_bind_zero_some_U_0 rfl rfl (fun _ => rfl) rfl rfl (by kernel_rfl) rfl fun vq86_8_1 => ?_
                        refine TA.back (.inr (fun _ s => by replace s := Sat.front 9 rfl s; replace s := Sat.front 9 rfl s; replace s := Sat.front 9 rfl s; replace s := Sat.front 6 rfl s; replace s := Sat.erase 4 s; replace s := Sat.erase 4 s; replace s := Sat.erase 4 s; replace s := Sat.erase 4 s; replace s := Sat.erase 4 s; replace s := Sat.erase 4 s; exact s)) ?_
                        refine TA.all1 (i := 9) (by kernel_rfl) ?_
                        refine TB.of rfl ?_
                        obtain ⟨yq86_9_1, hkq86_9_2, hj93⟩ := bind_some hj93
                        refine TO.app (k := 5) (f := cU) kelemB_25_36_1_4_true (by decide) rfl rfl rfl (OwnS.rd (Ent.at 0 rfl)) hkq86_9_2 (fun x c hc => by simp [Value.oneCell'] at hc ⊢; first | (obtain rfl := hc; rfl) | (rcases hc with rfl <;> rfl)) rfl rfl fun vq86_9_3 => ?_
                        refine TA.back (.inr (fun _ s => by replace s := Sat.front 9 rfl s; replace s := Sat.front 9 rfl s; replace s := Sat.front 9 rfl s; replace s := Sat.front 6 rfl s; replace s := Sat.erase 4 s; replace s := Sat.erase 4 s; replace s := Sat.erase 4 s; replace s := Sat.erase 4 s; replace s := Sat.erase 4 s; replace s := Sat.erase 4 s; exact s)) ?_
                        refine TA.all1 (i := 14) (by kernel_rfl) ?_
                        refine TB.of rfl ?_
                        obtain ⟨yq86_14_1, hkq86_14_2, hj93⟩ := bind_some hj93
                        refine TO.app (k := 6) (f := cU) kelemB_25_36_1_4_true (by decide) rfl rfl rfl (OwnS.rd (Ent.at 2 rfl)) hkq86_14_2 (fun x c hc => by simp [Value.oneCell'] at hc ⊢; first | (obtain rfl := hc; rfl) | (rcases hc with rfl <;> rfl)) rfl rfl fun vq86_14_3 => ?_
                        refine TA.back (.inr (fun _ s => by replace s := Sat.front 9 rfl s; replace s := Sat.front 9 rfl s; replace s := Sat.front 9 rfl s; replace s := Sat.front 6 rfl s; replace s := Sat.erase 4 s; replace s := Sat.erase 4 s; replace s := Sat.erase 4 s; replace s := Sat.erase 4 s; replace s := Sat.erase 4 s; replace s := Sat.erase 4 s; exact s)) ?_
                        refine TA.all1 (i := 16) (by kernel_rfl) ?_
                        refine TB.of rfl ?_
                        refine TO.pure (fun _ s => Rd.one (OwnS.rd (Ent.at 4 rfl)) s) fun ocq86_16_1 => ?_
                        refine TO.stB (us := [vq86_4_3]) 7 [vq86_4_3, v18, v21] rfl rfl rfl ksizeB_24_1_true ocq86_16_1.2 rfl rfl (by intro u hu; simp only [List.mem_cons, List.not_mem_nil, or_false] at hu; rcases hu with rfl <;> first | exact ocq86_16_1.1 | rfl) rfl ?_
                        refine TA.back (.inl (by kernel_rfl)) ?_
                        refine TA.takeW 17 rfl rfl rfl rfl (StepS.fld rfl kfieldB_27_1_1_true) (by kernel_rfl) (by kernel_rfl) (by kernel_rfl) rfl (.inl (by kernel_rfl)) ?_
                        refine TA.all1 (i := 18) (by kernel_rfl) ?_
                        refine TB.of rfl ?_
                        refine TO.pure (fun _ s => Rd.one (OwnS.rd (Ent.at 5 rfl)) s) fun ocq86_18_1 => ?_
                        refine TO.stB (us := [vq86_9_3]) 7 [vq86_4_3, vq86_9_3, v21] rfl rfl rfl ksizeB_25_1_true ocq86_18_1.2 rfl rfl (by intro u hu; simp only [List.mem_cons, List.not_mem_nil, or_false] at hu; rcases hu with rfl <;> first | exact ocq86_18_1.1 | rfl) rfl ?_
                        refine TA.back (.inl (by kernel_rfl)) ?_
                        refine TA.takeW 19 rfl rfl rfl rfl (StepS.fld rfl kfieldB_27_2_2_true) (by kernel_rfl) (by kernel_rfl) (by kernel_rfl) rfl (.inl (by kernel_rfl)) ?_
                        refine TA.all1 (i := 20) (by kernel_rfl) ?_
                        refine TB.of rfl ?_
                        refine TO.pure (fun _ s => Rd.one (OwnS.rd (Ent.at 6 rfl)) s) fun ocq86_20_1 => ?_
                        refine TO.stB (us := [vq86_14_3]) 7 [vq86_4_3, vq86_9_3, vq86_14_3] rfl rfl rfl ksizeB_25_1_true ocq86_20_1.2 rfl rfl (by intro u hu; simp only [List.mem_cons, List.not_mem_nil, or_false] at hu; rcases hu with rfl <;> first | exact ocq86_20_1.1 | rfl) rfl ?_
                        refine TA.back (.inl (by kernel_rfl)) ?_
                        cases hj93
                        refine TA.nil (by kernel_rfl) fun a w e s => ?_
                        exact ⟨vq86_4_3, vq86_9_3, vq86_14_3, e.sub (lk_of_allIn ⟨rfl, rfl, rfl, rfl, rfl, rfl, rfl, rfl, trivial⟩), s.mono fun _ => Sat.dropN 3⟩
                      · refine TB.of rfl ?_
                        refine TO.litS (f := cU) ([x74] : List (BitVec 32)) kelemB_25_36_1_4_true kinfo_36_bind_zero_some_U_0 rfl rfl (fun _ => rfl) rfl rfl (by kernel_rfl) rfl fun vq86_8_1 => ?_
                        refine TA.back (.inr (fun _ s => by replace s := Sat.front 9 rfl s; replace s := Sat.front 9 rfl s; replace s := Sat.front 9 rfl s; replace s := Sat.front 6 rfl s; replace s := Sat.erase 4 s; replace s := Sat.erase 4 s; replace s := Sat.erase 4 s; replace s := Sat.erase 4 s; replace s := Sat.erase 4 s; replace s := Sat.erase 4 s; exact s)) ?_
                        refine TA.all1 (i := 4) (by kernel_rfl) ?_
                        refine TB.of rfl ?_
                        obtain ⟨yq86_4_1, hkq86_4_2, hj93⟩ := bind_some hj93
                        refine TO.app (k := 4) (f := cI) kelemB_24_28_1_8_true (by decide) rfl rfl rfl (OwnS.rd (Ent.at 1 rfl)) hkq86_4_2 (fun x c hc => by simp [Value.oneCell'] at hc ⊢; first | (obtain rfl := hc; rfl) | (rcases hc with rfl <;> rfl)) rfl rfl fun vq86_4_3 => ?_
                        refine TA.back (.inr (fun _ s => by replace s := Sat.front 9 rfl s; replace s := Sat.front 9 rfl s; replace s := Sat.front 9 rfl s; replace s := Sat.front 6 rfl s; replace s := Sat.erase 4 s; replace s := Sat.erase 4 s; replace s := Sat.erase 4 s; replace s := Sat.erase 4 s; replace s := Sat.erase 4 s; replace s := Sat.erase 4 s; exact s)) ?_
                        refine TA.takeW 15 rfl rfl rfl rfl (StepS.fld rfl kfieldB_27_0_0_true) (by kernel_rfl) (by kernel_rfl) (by kernel_rfl) rfl (.inr (fun _ s => by replace s := Sat.front 9 rfl s; replace s := Sat.front 9 rfl s; replace s := Sat.front 9 rfl s; replace s := Sat.front 6 rfl s; replace s := Sat.erase 4 s; replace s := Sat.erase 4 s; replace s := Sat.erase 4 s; replace s := Sat.erase 4 s; replace s := Sat.erase 4 s; replace s := Sat.erase 4 s; exact s)) ?_
                        refine TA.all1 (i := 9) (by kernel_rfl) ?_
                        refine TB.of rfl ?_
                        obtain ⟨yq86_9_1, hkq86_9_2, hj93⟩ := bind_some hj93
                        refine TO.app (k := 5) (f := cU) kelemB_25_36_1_4_true (by decide) rfl rfl rfl (OwnS.rd (Ent.at 0 rfl)) hkq86_9_2 (fun x c hc => by simp [Value.oneCell'] at hc ⊢; first | (obtain rfl := hc; rfl) | (rcases hc with rfl <;> rfl)) rfl rfl fun vq86_9_3 => ?_
                        refine TA.back (.inr (fun _ s => by replace s := Sat.front 9 rfl s; replace s := Sat.front 9 rfl s; replace s := Sat.front 9 rfl s; replace s := Sat.front 6 rfl s; replace s := Sat.erase 4 s; replace s := Sat.erase 4 s; replace s := Sat.erase 4 s; replace s := Sat.erase 4 s; replace s := Sat.erase 4 s; replace s := Sat.erase 4 s; exact s)) ?_
                        refine TA.all1 (i := 14) (by kernel_rfl) ?_
                        refine TB.of rfl ?_
                        obtain ⟨yq86_14_1, hkq86_14_2, hj93⟩ := bind_some hj93
                        refine TO.app (k := 6) (f := cU) kelemB_25_36_1_4_true (by decide) rfl rfl rfl (OwnS.rd (Ent.at 2 rfl)) hkq86_14_2 (fun x c hc => by simp [Value.oneCell'] at hc ⊢; first | (obtain rfl := hc; rfl) | (rcases hc with rfl <;> rfl)) rfl rfl fun vq86_14_3 => ?_
                        refine TA.back (.inr (fun _ s => by replace s := Sat.front 9 rfl s; replace s := Sat.front 9 rfl s; replace s := Sat.front 9 rfl s; replace s := Sat.front 6 rfl s; replace s := Sat.erase 4 s; replace s := Sat.erase 4 s; replace s := Sat.erase 4 s; replace s := Sat.erase 4 s; replace s := Sat.erase 4 s; replace s := Sat.erase 4 s; exact s)) ?_
                        refine TA.all1 (i := 16) (by kernel_rfl) ?_
                        refine TB.of rfl ?_
                        refine TO.pure (fun _ s => Rd.one (OwnS.rd (Ent.at 4 rfl)) s) fun ocq86_16_1 => ?_
                        refine TO.stB (us := [vq86_4_3]) 7 [vq86_4_3, v18, v21] rfl rfl rfl ksizeB_24_1_true ocq86_16_1.2 rfl rfl (by intro u hu; simp only [List.mem_cons, List.not_mem_nil, or_false] at hu; rcases hu with rfl <;> first | exact ocq86_16_1.1 | rfl) rfl ?_
                        refine TA.back (.inl (by kernel_rfl)) ?_
                        refine TA.takeW 17 rfl rfl rfl rfl (StepS.fld rfl kfieldB_27_1_1_true) (by kernel_rfl) (by kernel_rfl) (by kernel_rfl) rfl (.inl (by kernel_rfl)) ?_
                        refine TA.all1 (i := 18) (by kernel_rfl) ?_
                        refine TB.of rfl ?_
                        refine TO.pure (fun _ s => Rd.one (OwnS.rd (Ent.at 5 rfl)) s) fun ocq86_18_1 => ?_
                        refine TO.stB (us := [vq86_9_3]) 7 [vq86_4_3, vq86_9_3, v21] rfl rfl rfl ksizeB_25_1_true ocq86_18_1.2 rfl rfl (by intro u hu; simp only [List.mem_cons, List.not_mem_nil, or_false] at hu; rcases hu with rfl <;> first | exact ocq86_18_1.1 | rfl) rfl ?_
                        refine TA.back (.inl (by kernel_rfl)) ?_
                        refine TA.takeW 19 rfl rfl rfl rfl (StepS.fld rfl kfieldB_27_2_2_true) (by kernel_rfl) (by kernel_rfl) (by kernel_rfl) rfl (.inl (by kernel_rfl)) ?_
                        refine TA.all1 (i := 20) (by kernel_rfl) ?_
                        refine TB.of rfl ?_
                        refine TO.pure (fun _ s => Rd.one (OwnS.rd (Ent.at 6 rfl)) s) fun ocq86_20_1 => ?_
                        refine TO.stB (us := [vq86_14_3]) 7 [vq86_4_3, vq86_9_3, vq86_14_3] rfl rfl rfl ksizeB_25_1_true ocq86_20_1.2 rfl rfl (by intro u hu; simp only [List.mem_cons, List.not_mem_nil, or_false] at hu; rcases hu with rfl <;> first | exact ocq86_20_1.1 | rfl) rfl ?_
                        refine TA.back (.inl (by kernel_rfl)) ?_
                        cases hj93
                        refine TA.nil (by kernel_rfl) fun a w e s => ?_
                        exact ⟨vq86_4_3, vq86_9_3, vq86_14_3, e.sub (lk_of_allIn ⟨rfl, rfl, rfl, rfl, rfl, rfl, rfl, rfl, trivial⟩), s.mono fun _ => Sat.dropN 3⟩
                    · refine TB.of rfl ?_
                      refine TO.litS (f := cU) ([x74] : List (BitVec 32)) kelemB_25_36_1_4_true kinfo_36_bind_zero_some_U_0 rfl rfl (fun _ => rfl) rfl rfl (by kernel_rfl) rfl fun vq86_8_1 => ?_
                      refine TA.back (.inr (fun _ s => by replace s := Sat.front 8 rfl s; replace s := Sat.front 8 rfl s; replace s := Sat.front 8 rfl s; replace s := Sat.front 5 rfl s; replace s := Sat.erase 4 s; replace s := Sat.erase 4 s; replace s := Sat.erase 4 s; replace s := Sat.erase 4 s; replace s := Sat.erase 4 s; exact s)) ?_
                      refine TA.all1 (i := 3) (by kernel_rfl) ?_
                      refine TB.of rfl ?_
                      refine TO.litS (f := cI) ([x59] : List Int) kelemB_24_28_1_8_true kinfo_28_bind_zero_some_I_0 rfl rfl (fun _ => rfl) rfl rfl (by kernel_rfl) rfl fun vq86_3_1 => ?_
                      refine TA.back (.inr (fun _ s => by replace s := Sat.front 9 rfl s; replace s := Sat.front 9 rfl s; replace s := Sat.front 9 rfl s; replace s := Sat.front 6 rfl s; replace s := Sat.erase 4 s; replace s := Sat.erase 4 s; replace s := Sat.erase 4 s; replace s := Sat.erase 4 s; replace s := Sat.erase 4 s; replace s := Sat.erase 4 s; exact s)) ?_
                      refine TA.all1 (i := 4) (by kernel_rfl) ?_
                      refine TB.of rfl ?_
                      obtain ⟨yq86_4_1, hkq86_4_2, hj93⟩ := bind_some hj93
                      refine TO.app (k := 4) (f := cI) kelemB_24_28_1_8_true (by decide) rfl rfl rfl (OwnS.rd (Ent.at 0 rfl)) hkq86_4_2 (fun x c hc => by simp [Value.oneCell'] at hc ⊢; first | (obtain rfl := hc; rfl) | (rcases hc with rfl <;> rfl)) rfl rfl fun vq86_4_3 => ?_
                      refine TA.back (.inr (fun _ s => by replace s := Sat.front 9 rfl s; replace s := Sat.front 9 rfl s; replace s := Sat.front 9 rfl s; replace s := Sat.front 6 rfl s; replace s := Sat.erase 4 s; replace s := Sat.erase 4 s; replace s := Sat.erase 4 s; replace s := Sat.erase 4 s; replace s := Sat.erase 4 s; replace s := Sat.erase 4 s; exact s)) ?_
                      refine TA.takeW 15 rfl rfl rfl rfl (StepS.fld rfl kfieldB_27_0_0_true) (by kernel_rfl) (by kernel_rfl) (by kernel_rfl) rfl (.inr (fun _ s => by replace s := Sat.front 9 rfl s; replace s := Sat.front 9 rfl s; replace s := Sat.front 9 rfl s; replace s := Sat.front 6 rfl s; replace s := Sat.erase 4 s; replace s := Sat.erase 4 s; replace s := Sat.erase 4 s; replace s := Sat.erase 4 s; replace s := Sat.erase 4 s; replace s := Sat.erase 4 s; exact s)) ?_
                      refine TA.all1 (i := 9) (by kernel_rfl) ?_
                      refine TB.of rfl ?_
                      obtain ⟨yq86_9_1, hkq86_9_2, hj93⟩ := bind_some hj93
                      refine TO.app (k := 5) (f := cU) kelemB_25_36_1_4_true (by decide) rfl rfl rfl (OwnS.rd (Ent.at 1 rfl)) hkq86_9_2 (fun x c hc => by simp [Value.oneCell'] at hc ⊢; first | (obtain rfl := hc; rfl) | (rcases hc with rfl <;> rfl)) rfl rfl fun vq86_9_3 => ?_
                      refine TA.back (.inr (fun _ s => by replace s := Sat.front 9 rfl s; replace s := Sat.front 9 rfl s; replace s := Sat.front 9 rfl s; replace s := Sat.front 6 rfl s; replace s := Sat.erase 4 s; replace s := Sat.erase 4 s; replace s := Sat.erase 4 s; replace s := Sat.erase 4 s; replace s := Sat.erase 4 s; replace s := Sat.erase 4 s; exact s)) ?_
                      refine TA.all1 (i := 14) (by kernel_rfl) ?_
                      refine TB.of rfl ?_
                      obtain ⟨yq86_14_1, hkq86_14_2, hj93⟩ := bind_some hj93
                      refine TO.app (k := 6) (f := cU) kelemB_25_36_1_4_true (by decide) rfl rfl rfl (OwnS.rd (Ent.at 2 rfl)) hkq86_14_2 (fun x c hc => by simp [Value.oneCell'] at hc ⊢; first | (obtain rfl := hc; rfl) | (rcases hc with rfl <;> rfl)) rfl rfl fun vq86_14_3 => ?_
                      refine TA.back (.inr (fun _ s => by replace s := Sat.front 9 rfl s; replace s := Sat.front 9 rfl s; replace s := Sat.front 9 rfl s; replace s := Sat.front 6 rfl s; replace s := Sat.erase 4 s; replace s := Sat.erase 4 s; replace s := Sat.erase 4 s; replace s := Sat.erase 4 s; replace s := Sat.erase 4 s; replace s := Sat.erase 4 s; exact s)) ?_
                      refine TA.all1 (i := 16) (by kernel_rfl) ?_
                      refine TB.of rfl ?_
                      refine TO.pure (fun _ s => Rd.one (OwnS.rd (Ent.at 4 rfl)) s) fun ocq86_16_1 => ?_
                      refine TO.stB (us := [vq86_4_3]) 7 [vq86_4_3, v18, v21] rfl rfl rfl ksizeB_24_1_true ocq86_16_1.2 rfl rfl (by intro u hu; simp only [List.mem_cons, List.not_mem_nil, or_false] at hu; rcases hu with rfl <;> first | exact ocq86_16_1.1 | rfl) rfl ?_
                      refine TA.back (.inl (by kernel_rfl)) ?_
                      refine TA.takeW 17 rfl rfl rfl rfl (StepS.fld rfl kfieldB_27_1_1_true) (by kernel_rfl) (by kernel_rfl) (by kernel_rfl) rfl (.inl (by kernel_rfl)) ?_
                      refine TA.all1 (i := 18) (by kernel_rfl) ?_
                      refine TB.of rfl ?_
                      refine TO.pure (fun _ s => Rd.one (OwnS.rd (Ent.at 5 rfl)) s) fun ocq86_18_1 => ?_
                      refine TO.stB (us := [vq86_9_3]) 7 [vq86_4_3, vq86_9_3, v21] rfl rfl rfl ksizeB_25_1_true ocq86_18_1.2 rfl rfl (by intro u hu; simp only [List.mem_cons, List.not_mem_nil, or_false] at hu; rcases hu with rfl <;> first | exact ocq86_18_1.1 | rfl) rfl ?_
                      refine TA.back (.inl (by kernel_rfl)) ?_
                      refine TA.takeW 19 rfl rfl rfl rfl (StepS.fld rfl kfieldB_27_2_2_true) (by kernel_rfl) (by kernel_rfl) (by kernel_rfl) rfl (.inl (by kernel_rfl)) ?_
                      refine TA.all1 (i := 20) (by kernel_rfl) ?_
                      refine TB.of rfl ?_
                      refine TO.pure (fun _ s => Rd.one (OwnS.rd (Ent.at 6 rfl)) s) fun ocq86_20_1 => ?_
                      refine TO.stB (us := [vq86_14_3]) 7 [vq86_4_3, vq86_9_3, vq86_14_3] rfl rfl rfl ksizeB_25_1_true ocq86_20_1.2 rfl rfl (by intro u hu; simp only [List.mem_cons, List.not_mem_nil, or_false] at hu; rcases hu with rfl <;> first | exact ocq86_20_1.1 | rfl) rfl ?_
                      refine TA.back (.inl (by kernel_rfl)) ?_
                      cases hj93
                      refine TA.nil (by kernel_rfl) fun a w e s => ?_
                      exact ⟨vq86_4_3, vq86_9_3, vq86_14_3, e.sub (lk_of_allIn ⟨rfl, rfl, rfl, rfl, rfl, rfl, rfl, rfl, trivial⟩), s.mono fun _ => Sat.dropN 3⟩
                · intro a w ⟨v88, v90, v92, he, hs⟩
                  refine TC.use ?_ he hs
                  refine TC.region ?_
                  refine TO.s rfl rfl rfl (StepS.ari rfl rfl rfl) ?_
                  refine TO.s rfl rfl rfl (StepS.move rfl) ?_
                  cases hb52
                  refine TO.nil fun a w e s => ?_
                  exact ⟨v88, v90, v92, e.sub (lk_of_allIn ⟨rfl, rfl, rfl, rfl, rfl, rfl, rfl, rfl, trivial⟩), s.mono fun _ => Sat.dropN 1⟩
        · replace hb52 := cond_f hc53 hb52
          cases hb52
          refine TC.exit rfl fun a w e s => ?_
          exact ⟨v15, v18, v21, e.sub (lk_of_allIn ⟨rfl, rfl, trivial⟩), s⟩
      · exact fun a w e s => ⟨.slice none 0 0, .slice none 0 0, .slice none 0 0, e.sub (lk_of_allIn ⟨rfl, rfl, rfl, rfl, rfl, rfl, rfl, rfl, trivial⟩), s.mono fun _ s => (by replace s := Sat.front 2 rfl s; replace s := Sat.front 2 rfl s; replace s := Sat.front 2 rfl s; replace s := Sat.nilS (e := 36) (sz := 1) (f := cU) s; replace s := Sat.nilS (e := 36) (sz := 1) (f := cU) s; replace s := Sat.nilS (e := 28) (sz := 1) (f := cI) s; exact s)⟩
      · rintro ⟨y41, y44, y47, x48, x49⟩ rfl a w ⟨v39, v42, v45, he, hs⟩
        dsimp only [Ctl.on] at hm
        refine TC.use ?_ he hs
        refine TC.k ?_
        refine TC.region ?_
        refine TO.s rfl rfl rfl (StepS.ldBA rfl (Ent.at 3 rfl) kaggB_27_3_true rfl rfl) ?_
        refine TO.pure (fun _ s => Rd.one (OwnS.rd (Ent.at 0 rfl)) s) fun oc94 => ?_
        refine TO.pure (fun _ s => Rd.one (OwnS.rd (Ent.at 1 rfl)) s) fun oc95 => ?_
        refine TO.pure (fun _ s => Rd.one (OwnS.rd (Ent.at 2 rfl)) s) fun oc96 => ?_
        refine TO.stB (us := [v39, v42, v45]) 5 [v39, v42, v45] rfl rfl rfl ksizeB_27_3_true rfl rfl rfl (by intro u hu; simp only [List.mem_cons, List.not_mem_nil, or_false] at hu; rcases hu with rfl | rfl | rfl <;> first | exact oc94.1 | exact oc95.1 | exact oc96.1 | rfl) rfl ?_
        refine TO.s rfl rfl rfl (StepS.assign rfl) ?_
        refine TO.code ?_
        cases hm
        refine TC.ret fun a w e s => ?_
        refine FRet.cell2 (P := Try.prog) (fn := Try.f15) e s rfl rfl rfl (Ent.at 5 rfl) kaggB_27_3_true rfl ?_
        refine ⟨_, _, rfl, ⟨(v39), (v42), (v45), rfl, rfl⟩, ?_⟩
        refine s.mono fun _ s => ?_
        replace s := Sat.front 2 rfl s
        replace s := Sat.front 2 rfl s
        replace s := Sat.front 2 rfl s
        replace s := Sat.erase 3 s
        replace s := Sat.erase 3 s
        replace s := Sat.erase 3 s
        exact s
      · rintro r rfl
        exact fun a w h => h.elim

set_option maxRecDepth 100000 in
theorem C21 {B : World} {L : List HP} {a0 : Int} {a1 : Int} {r0 : Int} (hm : F21 a0 a1 = some r0) {w : World} (st : St B L w) : Calls Try.prog 21 #[I a0, I a1] w (fun e w' => (e = .returned (I r0) ∧ St B (L) w')) := by
  refine calls_of (N := 15) (L := L) (args := [I a0, I a1]) Try.func21 rfl rfl rfl ?_ st
  dsimp only [F21] at hm
  refine TC.k ?_
  refine TC.region ?_
  refine TO.s rfl rfl rfl (StepS.assign rfl) ?_
  refine TO.code ?_
  refine TC.k ?_
  refine TC.k ?_
  refine TC.region ?_
  refine TO.s rfl rfl rfl (StepS.move rfl) ?_
  refine TO.s rfl rfl rfl (StepS.cmp rfl rfl rfl) ?_
  refine TO.s rfl rfl rfl (StepS.move rfl) ?_
  refine TO.mid1 3 10 (.bool ((decide (a0 < 1)) || (decide (a0 > 6)))) ?_ ?_
  · refine bcase ((decide (a0 < 1))) (fun hb1 => ?_) (fun hb1 => ?_)
    · refine TO.skip rfl rfl rfl (skipT hb1) rfl rfl ?_
      refine TO.skip rfl rfl rfl (skipT hb1) rfl rfl ?_
      refine TO.s rfl rfl rfl (StepS.pickT rfl hb1 rfl) ?_
      exact TO.up1 3 0 rfl rfl (by rw [hb1]; rfl) rfl
    · refine TO.sw rfl rfl rfl hb1 rfl rfl (StepS.move rfl) ?_
      refine TO.sw rfl rfl rfl hb1 rfl rfl (StepS.cmp rfl rfl rfl) ?_
      refine TO.s rfl rfl rfl (StepS.pickF rfl hb1 rfl) ?_
      exact TO.up1 3 0 rfl rfl (by rw [hb1]; rfl) rfl
  refine TO.s rfl rfl rfl (StepS.move rfl) ?_
  refine TO.mid1 3 14 (.bool (((decide (a0 < 1)) || (decide (a0 > 6))) || (decide (a1 > 60)))) ?_ ?_
  · refine bcase (((decide (a0 < 1)) || (decide (a0 > 6)))) (fun hb2 => ?_) (fun hb2 => ?_)
    · refine TO.skip rfl rfl rfl (skipT hb2) rfl rfl ?_
      refine TO.skip rfl rfl rfl (skipT hb2) rfl rfl ?_
      refine TO.s rfl rfl rfl (StepS.pickT rfl hb2 rfl) ?_
      exact TO.up1 3 0 rfl rfl (by rw [hb2]; rfl) rfl
    · refine TO.sw rfl rfl rfl hb2 rfl rfl (StepS.move rfl) ?_
      refine TO.sw rfl rfl rfl hb2 rfl rfl (StepS.cmp rfl rfl rfl) ?_
      refine TO.s rfl rfl rfl (StepS.pickF rfl hb2 rfl) ?_
      exact TO.up1 3 0 rfl rfl (by rw [hb2]; rfl) rfl
  refine TO.code ?_
  refine TC.cond rfl (fun hc3 => ?_) (fun hc3 => ?_)
  · replace hm := cond_t hc3 hm
    refine TC.k ?_
    refine TC.region ?_
    refine TO.s rfl rfl rfl (StepS.assign rfl) ?_
    refine TO.code ?_
    cases hm
    refine TC.ret fun a w e s => ?_
    refine FRet.mk1 (P := Try.prog) (fn := Try.f21) (t := 4) e rfl rfl ?_
    exact ⟨rfl, s.mono fun _ => Sat.dropN 0⟩
  · replace hm := cond_f hc3 hm
    refine TC.skipk ?_
    refine TC.k ?_
    refine TC.region ?_
    refine TO.s rfl rfl rfl (StepS.assign rfl) ?_
    refine TO.code ?_
    cases hm
    refine TC.ret fun a w e s => ?_
    refine FRet.mk1 (P := Try.prog) (fn := Try.f21) (t := 4) e rfl rfl ?_
    exact ⟨rfl, s.mono fun _ => Sat.dropN 0⟩

set_option maxRecDepth 100000 in
theorem C16 {B : World} {L : List HP} {a0 : List Int} {a1 : Int} {a2 : Int} {h0 : Value} {r0 : Int} (e0 : Ent L (Rd 1 h0 (a0.map cI))) (hm : F16 a0 a1 a2 = some r0) {w : World} (st : St B L w) : Calls Try.prog 16 #[h0, I a1, I a2] w (fun e w' => (e = .returned (I r0) ∧ St B (L) w')) := by
  refine calls_of (N := 42) (L := L) (args := [h0, I a1, I a2]) Try.func16 rfl rfl rfl ?_ st
  dsimp only [F16] at hm
  refine TC.k ?_
  refine TC.region ?_
  refine TO.s rfl rfl rfl (StepS.assign rfl) ?_
  refine TO.code ?_
  refine TC.k ?_
  refine TC.region ?_
  refine TO.s rfl rfl rfl (StepS.move rfl) ?_
  refine TO.s rfl rfl rfl (StepS.lenm rfl e0 ksliceB_22_3_1_true rfl) ?_
  refine TO.s rfl rfl rfl (StepS.move rfl) ?_
  obtain ⟨r1, hc2, hm⟩ := bind_some hm
  refine TO.q rfl rfl rfl (StepQ.call kcallB_21_true rfl rfl (fun _ st => C21  hc2 st)) ?_
  refine TO.s rfl rfl rfl (StepS.assign rfl) ?_
  refine TO.code ?_
  refine TC.k ?_
  refine TC.k ?_
  refine TC.region ?_
  refine TO.s rfl rfl rfl (StepS.move rfl) ?_
  refine TO.s rfl rfl rfl (StepS.lenm rfl e0 ksliceB_22_3_1_true rfl) ?_
  refine TO.s rfl rfl rfl (StepS.move rfl) ?_
  refine TO.code ?_
  obtain ⟨o8, hw9, hm⟩ := bind_some hm
  refine TC.loop hw9 (fun (x3, x4) => fun a w => Mid 42 B [(1, I a1), (7, I x3), (14, h0), (15, I (a0.length : Int)), (16, I x4)] (L) a w) (fun x7 => fun a w => Mid 42 B [(1, I a1), (7, I x7)] (L) a w) (fun (_ : Unit) _ _ => False) ?_ ?_ ?_ ?_
  · rintro ⟨x3, x4⟩ o8r hb10 a w ⟨he, hs⟩
    dsimp only [F16_L0] at hb10
    refine TC.use ?_ he hs
    refine TC.k ?_
    refine TC.region ?_
    refine TO.s rfl rfl rfl (StepS.cmp rfl rfl rfl) ?_
    refine TO.code ?_
    refine TC.k ?_
    refine TC.cond rfl (fun hc11 => ?_) (fun hc11 => ?_)
    · replace hb10 := cond_t hc11 hb10
      refine TC.skipk ?_
      refine TC.k ?_
      obtain ⟨x12, hj13, hb10⟩ := bind_some hb10
      refine TC.cutM (fun a w => Mid 42 B [(1, I a1), (7, I x12), (14, h0), (15, I (a0.length : Int)), (16, I x4)] (L) a w) ?_ ?_
      · refine TC.block ?_
        refine TC.k ?_
        refine TC.region ?_
        obtain ⟨x14, hx15, hj13⟩ := bind_some hj13
        refine TO.s rfl rfl rfl (StepS.idx rfl rfl e0 ksliceB_22_3_1_true (idx_spec hx15).1 (idxm_lt hx15)) ?_
        refine TO.s rfl rfl rfl (StepS.ld0 rfl e0 kscalB_3_true rfl (idxm hx15) rfl) ?_
        refine TO.s rfl rfl rfl (StepS.assign rfl) ?_
        refine TO.code ?_
        refine TC.k ?_
        refine TC.region ?_
        refine TO.s rfl rfl rfl (StepS.move rfl) ?_
        refine TO.s rfl rfl rfl (StepS.cmp rfl rfl rfl) ?_
        refine TO.s rfl rfl rfl (StepS.move rfl) ?_
        refine TO.mid1 7 29 (.bool ((x3 == 0) && ((decide (x14 < 9)) || (decide (x14 > 11))))) ?_ ?_
        · refine bcase ((x3 == 0)) (fun hb16 => ?_) (fun hb16 => ?_)
          · refine TO.sw rfl rfl rfl hb16 rfl rfl (StepS.move rfl) ?_
            refine TO.sw rfl rfl rfl hb16 rfl rfl (StepS.cmp rfl rfl rfl) ?_
            refine TO.sw rfl rfl rfl hb16 rfl rfl (StepS.move rfl) ?_
            refine TO.mid1 3 28 (.bool ((decide (x14 < 9)) || (decide (x14 > 11)))) ?_ ?_
            · refine bcase ((decide (x14 < 9))) (fun hb17 => ?_) (fun hb17 => ?_)
              · refine TO.skip rfl rfl rfl (skipT hb17) rfl rfl ?_
                refine TO.skip rfl rfl rfl (skipT hb17) rfl rfl ?_
                refine TO.sw rfl rfl rfl hb16 rfl rfl (StepS.pickT rfl hb17 rfl) ?_
                exact TO.up1 3 0 rfl rfl (by rw [hb17]; rfl) rfl
              · refine TO.sw rfl rfl rfl hb17 rfl rfl (StepS.move rfl) ?_
                refine TO.sw rfl rfl rfl hb17 rfl rfl (StepS.cmp rfl rfl rfl) ?_
                refine TO.sw rfl rfl rfl hb16 rfl rfl (StepS.pickF rfl hb17 rfl) ?_
                exact TO.up1 3 0 rfl rfl (by rw [hb17]; rfl) rfl
            refine TO.s rfl rfl rfl (StepS.pickT rfl hb16 rfl) ?_
            exact TO.up1 5 0 rfl rfl (by rw [hb16]; rfl) rfl
          · refine TO.skip rfl rfl rfl (skipF hb16) rfl rfl ?_
            refine TO.skip rfl rfl rfl (skipF hb16) rfl rfl ?_
            refine TO.skip rfl rfl rfl (skipF hb16) rfl rfl ?_
            refine TO.skip rfl rfl rfl skipU rfl rfl ?_
            refine TO.skip rfl rfl rfl skipU rfl rfl ?_
            refine TO.skip rfl rfl rfl (skipF hb16) rfl rfl ?_
            refine TO.s rfl rfl rfl (StepS.pickF rfl hb16 rfl) ?_
            exact TO.up1 7 0 rfl rfl (by rw [hb16]; rfl) rfl
        refine TO.code ?_
        refine TC.cond rfl (fun hc18 => ?_) (fun hc18 => ?_)
        · replace hj13 := cond_t hc18 hj13
          refine TC.region ?_
          refine TO.s rfl rfl rfl (StepS.assign rfl) ?_
          cases hj13
          refine TO.nil fun a w e s => ?_
          exact ⟨e.sub (lk_of_allIn ⟨rfl, rfl, rfl, rfl, rfl, trivial⟩), s⟩
        · replace hj13 := cond_f hc18 hj13
          cases hj13
          refine TC.skip fun a w e s => ?_
          exact ⟨e.sub (lk_of_allIn ⟨rfl, rfl, rfl, rfl, rfl, trivial⟩), s⟩
      · intro a w ⟨he, hs⟩
        refine TC.use ?_ he hs
        refine TC.region ?_
        refine TO.s rfl rfl rfl (StepS.ari rfl rfl rfl) ?_
        refine TO.s rfl rfl rfl (StepS.move rfl) ?_
        cases hb10
        refine TO.nil fun a w e s => ?_
        exact ⟨e.sub (lk_of_allIn ⟨rfl, rfl, rfl, rfl, rfl, trivial⟩), s⟩
    · replace hb10 := cond_f hc11 hb10
      cases hb10
      refine TC.exit rfl fun a w e s => ?_
      exact ⟨e.sub (lk_of_allIn ⟨rfl, rfl, trivial⟩), s⟩
  · exact fun a w e s => ⟨e.sub (lk_of_allIn ⟨rfl, rfl, rfl, rfl, rfl, trivial⟩), s⟩
  · rintro x7 rfl a w ⟨he, hs⟩
    dsimp only [Ctl.on] at hm
    refine TC.use ?_ he hs
    refine TC.k ?_
    refine TC.k ?_
    refine TC.region ?_
    refine TO.s rfl rfl rfl (StepS.move rfl) ?_
    refine TO.s rfl rfl rfl (StepS.cmp rfl rfl rfl) ?_
    refine TO.s rfl rfl rfl (StepS.move rfl) ?_
    refine TO.mid1 7 40 (.bool ((x7 == 0) && ((decide (a1 < 1)) || (decide (a1 > 99))))) ?_ ?_
    · refine bcase ((x7 == 0)) (fun hb19 => ?_) (fun hb19 => ?_)
      · refine TO.sw rfl rfl rfl hb19 rfl rfl (StepS.move rfl) ?_
        refine TO.sw rfl rfl rfl hb19 rfl rfl (StepS.cmp rfl rfl rfl) ?_
        refine TO.sw rfl rfl rfl hb19 rfl rfl (StepS.move rfl) ?_
        refine TO.mid1 3 39 (.bool ((decide (a1 < 1)) || (decide (a1 > 99)))) ?_ ?_
        · refine bcase ((decide (a1 < 1))) (fun hb20 => ?_) (fun hb20 => ?_)
          · refine TO.skip rfl rfl rfl (skipT hb20) rfl rfl ?_
            refine TO.skip rfl rfl rfl (skipT hb20) rfl rfl ?_
            refine TO.sw rfl rfl rfl hb19 rfl rfl (StepS.pickT rfl hb20 rfl) ?_
            exact TO.up1 3 0 rfl rfl (by rw [hb20]; rfl) rfl
          · refine TO.sw rfl rfl rfl hb20 rfl rfl (StepS.move rfl) ?_
            refine TO.sw rfl rfl rfl hb20 rfl rfl (StepS.cmp rfl rfl rfl) ?_
            refine TO.sw rfl rfl rfl hb19 rfl rfl (StepS.pickF rfl hb20 rfl) ?_
            exact TO.up1 3 0 rfl rfl (by rw [hb20]; rfl) rfl
        refine TO.s rfl rfl rfl (StepS.pickT rfl hb19 rfl) ?_
        exact TO.up1 5 0 rfl rfl (by rw [hb19]; rfl) rfl
      · refine TO.skip rfl rfl rfl (skipF hb19) rfl rfl ?_
        refine TO.skip rfl rfl rfl (skipF hb19) rfl rfl ?_
        refine TO.skip rfl rfl rfl (skipF hb19) rfl rfl ?_
        refine TO.skip rfl rfl rfl skipU rfl rfl ?_
        refine TO.skip rfl rfl rfl skipU rfl rfl ?_
        refine TO.skip rfl rfl rfl (skipF hb19) rfl rfl ?_
        refine TO.s rfl rfl rfl (StepS.pickF rfl hb19 rfl) ?_
        exact TO.up1 7 0 rfl rfl (by rw [hb19]; rfl) rfl
    refine TO.code ?_
    obtain ⟨x21, hj22, hm⟩ := bind_some hm
    refine TC.cutM (fun a w => Mid 42 B [(7, I x21)] (L) a w) ?_ ?_
    · refine TC.cond rfl (fun hc23 => ?_) (fun hc23 => ?_)
      · replace hj22 := cond_t hc23 hj22
        refine TC.region ?_
        refine TO.s rfl rfl rfl (StepS.assign rfl) ?_
        cases hj22
        refine TO.nil fun a w e s => ?_
        exact ⟨e.sub (lk_of_allIn ⟨rfl, trivial⟩), s⟩
      · replace hj22 := cond_f hc23 hj22
        cases hj22
        refine TC.skip fun a w e s => ?_
        exact ⟨e.sub (lk_of_allIn ⟨rfl, trivial⟩), s⟩
    · intro a w ⟨he, hs⟩
      refine TC.use ?_ he hs
      refine TC.k ?_
      refine TC.region ?_
      refine TO.s rfl rfl rfl (StepS.move rfl) ?_
      refine TO.s rfl rfl rfl (StepS.assign rfl) ?_
      refine TO.code ?_
      cases hm
      refine TC.ret fun a w e s => ?_
      refine FRet.mk1 (P := Try.prog) (fn := Try.f16) (t := 6) e rfl rfl ?_
      exact ⟨rfl, s.mono fun _ => Sat.dropN 0⟩
  · rintro r rfl
    exact fun a w h => h.elim

set_option maxHeartbeats 4000000 in
set_option maxRecDepth 100000 in
theorem C17 {B : World} {L : List HP} {a0 : List Int} {a1 : Int} {a2 : List (Int × Int × Int × Int)} {h0 : Value} {h2 : Value} {r0 : (List Int) × (List (BitVec 32)) × List (BitVec 32)} (e0 : Ent L (Rd 1 h0 (a0.map cI))) (e2 : Ent L (Rd 4 h2 (a2.map cTiiii))) (hm : F17 a0 a1 a2 = some r0) {w : World} (st : St B L w) : Calls Try.prog 17 #[h0, I a1, h2] w (fun e w' => ∃ v M, e = .returned v ∧ (∃ (qv1 : Value) (qv2 : Value) (qv3 : Value), v = .agg #[qv1, qv2, qv3] ∧ M = (OwnS 28 1 qv1 (r0.1.map cI) :: OwnS 36 1 qv2 (r0.2.1.map cU) :: OwnS 36 1 qv3 (r0.2.2.map cU) :: L)) ∧ St B M w') := by
  refine calls_of (N := 176) (L := L) (args := [h0, I a1, h2]) Try.func17 rfl rfl rfl ?_ st
  dsimp only [F17] at hm
  refine TC.k ?_
  refine TC.region ?_
  refine TO.alloc kinfo_27_bind_zero_some_agg_slice_none_0_0_slice_none_0_0_slice_none_0_0 rfl rfl fun b4 => ?_
  refine TO.code ?_
  refine TC.k ?_
  refine TC.region ?_
  refine TO.s rfl rfl rfl (StepS.build (cs := [.slice none 0 0, .slice none 0 0, .slice none 0 0]) rfl (by kernel_rfl)) ?_
  refine TO.alloc kinfo_27_bind_zero_some_agg_slice_none_0_0_slice_none_0_0_slice_none_0_0 rfl rfl fun b5 => ?_
  refine TO.stB (us := [.slice none 0 0, .slice none 0 0, .slice none 0 0]) 0 [.slice none 0 0, .slice none 0 0, .slice none 0 0] rfl rfl rfl ksizeB_27_3_true rfl rfl rfl (by simp [Value.oneCell']) rfl ?_
  refine TO.code ?_
  refine TC.k ?_
  refine TC.region ?_
  refine TO.s rfl rfl rfl (StepS.move rfl) ?_
  refine TO.s rfl rfl rfl (StepS.lenm rfl e0.tl.tl ksliceB_22_3_1_true rfl) ?_
  refine TO.s rfl rfl rfl (StepS.assign rfl) ?_
  refine TO.code ?_
  refine TC.k ?_
  refine TC.region ?_
  refine TO.s rfl rfl rfl (StepS.assign rfl) ?_
  refine TO.code ?_
  refine TC.k ?_
  refine TC.region ?_
  refine TO.s rfl rfl rfl (StepS.move rfl) ?_
  obtain ⟨y6, hk7, hm⟩ := bind_some hm
  refine TO.mkS (f := cI) (za := 0) kelemB_22_3_1_8_true kinfo_3_bind_zero_some_I_0 rfl (by decide) rfl rfl hk7 rfl fun v8 => ?_
  refine TO.s rfl rfl rfl (StepS.assign rfl) ?_
  refine TO.code ?_
  refine TC.k ?_
  refine TC.k ?_
  refine TC.region ?_
  refine TO.s rfl rfl rfl (StepS.assign rfl) ?_
  refine TO.code ?_
  obtain ⟨o18, hw19, hm⟩ := bind_some hm
  refine TC.loop hw19 (fun (y10, x12) => fun a w => ∃ v11 : Value, Mid 176 B [(0, h0), (1, I a1), (2, h2), (6, .pointer (some ⟨b4, 0, none⟩)), (7, .pointer (some ⟨b5, 0, none⟩)), (8, I (a0.length : Int)), (9, I 0), (10, v11), (11, I x12)] (OwnS 3 1 v11 (y10.map cI) :: Bx b5 27 [.slice none 0 0, .slice none 0 0, .slice none 0 0] :: Bx b4 27 [.slice none 0 0, .slice none 0 0, .slice none 0 0] :: L) a w) (fun y16 => fun a w => ∃ v17 : Value, Mid 176 B [(0, h0), (1, I a1), (2, h2), (6, .pointer (some ⟨b4, 0, none⟩)), (7, .pointer (some ⟨b5, 0, none⟩)), (8, I (a0.length : Int)), (9, I 0), (10, v17)] (OwnS 3 1 v17 (y16.map cI) :: Bx b5 27 [.slice none 0 0, .slice none 0 0, .slice none 0 0] :: Bx b4 27 [.slice none 0 0, .slice none 0 0, .slice none 0 0] :: L) a w) (fun (_ : Unit) _ _ => False) ?_ ?_ ?_ ?_
  · rintro ⟨y10, x12⟩ o18r hb20 a w ⟨v11, he, hs⟩
    dsimp only [F17_L0] at hb20
    refine TC.use ?_ he hs
    refine TC.k ?_
    refine TC.k ?_
    refine TC.region ?_
    refine TO.s rfl rfl rfl (StepS.move rfl) ?_
    refine TO.s rfl rfl rfl (StepS.move rfl) ?_
    refine TO.s rfl rfl rfl (StepS.cmp rfl rfl rfl) ?_
    refine TO.code ?_
    refine TC.cond rfl (fun hc21 => ?_) (fun hc21 => ?_)
    · replace hb20 := cond_t hc21 hb20
      refine TC.skipk ?_
      refine TC.k ?_
      refine TC.block ?_
      refine TC.region ?_
      refine TO.s rfl rfl rfl (StepS.move rfl) ?_
      refine TO.s rfl rfl rfl (StepS.move rfl) ?_
      obtain ⟨x22, hx23, hb20⟩ := bind_some hb20
      refine TO.s rfl rfl rfl (StepS.idx rfl rfl (OwnS.rd (Ent.at 0 rfl)) ksliceB_22_3_1_true (idx_spec hx23).1 (idxm_lt hx23)) ?_
      refine TO.stO (i := x12.toNat) (off := 0) (us := [I (-1)]) 0 (-1) rfl rfl rfl ksizeB_3_1_true rfl rfl rfl (idx_spec hx23).2 rfl (by simp [Value.oneCell']) rfl ?_
      refine TO.code ?_
      refine TC.region ?_
      refine TO.s rfl rfl rfl (StepS.move rfl) ?_
      refine TO.s rfl rfl rfl (StepS.ari rfl rfl rfl) ?_
      refine TO.s rfl rfl rfl (StepS.assign rfl) ?_
      cases hb20
      refine TO.nil fun a w e s => ?_
      exact ⟨v11, e.sub (lk_of_allIn ⟨rfl, rfl, rfl, rfl, rfl, rfl, rfl, rfl, rfl, trivial⟩), s⟩
    · replace hb20 := cond_f hc21 hb20
      cases hb20
      refine TC.exit rfl fun a w e s => ?_
      exact ⟨v11, e.sub (lk_of_allIn ⟨rfl, rfl, rfl, rfl, rfl, rfl, rfl, rfl, trivial⟩), s⟩
  · exact fun a w e s => ⟨v8, e.sub (lk_of_allIn ⟨rfl, rfl, rfl, rfl, rfl, rfl, rfl, rfl, rfl, trivial⟩), s⟩
  · rintro y16 rfl a w ⟨v17, he, hs⟩
    dsimp only [Ctl.on] at hm
    refine TC.use ?_ he hs
    refine TC.k ?_
    refine TC.region ?_
    refine TO.s rfl rfl rfl (StepS.assign rfl) ?_
    refine TO.code ?_
    refine TC.k ?_
    refine TC.k ?_
    refine TC.region ?_
    refine TO.s rfl rfl rfl (StepS.move rfl) ?_
    refine TO.s rfl rfl rfl (StepS.lenm rfl e2.tl.tl.tl ksliceB_23_106_4_true rfl) ?_
    refine TO.s rfl rfl rfl (StepS.move rfl) ?_
    refine TO.code ?_
    obtain ⟨o63, hw64, hm⟩ := bind_some hm
    refine TC.loop hw64 (fun (y26, y29, y32, y33, x35, x36, x37) => fun a w => ∃ v24 : Value, ∃ v27 : Value, ∃ v30 : Value, ∃ v34 : Value, Mid 176 B [(0, h0), (1, I a1), (6, .pointer (some ⟨b4, 0, none⟩)), (7, .pointer (some ⟨b5, 0, none⟩)), (8, I (a0.length : Int)), (9, I x35), (10, v34), (12, I x36), (33, h2), (34, I (a2.length : Int)), (35, I x37)] (OwnS 28 1 v24 (y26.map cI) :: OwnS 36 1 v27 (y29.map cU) :: OwnS 36 1 v30 (y32.map cU) :: OwnS 3 1 v34 (y33.map cI) :: Bx b5 27 [v24, v27, v30] :: Bx b4 27 [.slice none 0 0, .slice none 0 0, .slice none 0 0] :: L) a w) (fun (y54, y57, y60, y61) => fun a w => ∃ v52 : Value, ∃ v55 : Value, ∃ v58 : Value, ∃ v62 : Value, Mid 176 B [(6, .pointer (some ⟨b4, 0, none⟩)), (7, .pointer (some ⟨b5, 0, none⟩))] (OwnS 28 1 v52 (y54.map cI) :: OwnS 36 1 v55 (y57.map cU) :: OwnS 36 1 v58 (y60.map cU) :: OwnS 3 1 v62 (y61.map cI) :: Bx b5 27 [v52, v55, v58] :: Bx b4 27 [.slice none 0 0, .slice none 0 0, .slice none 0 0] :: L) a w) (fun (_ : Unit) _ _ => False) ?_ ?_ ?_ ?_
    · rintro ⟨y26, y29, y32, y33, x35, x36, x37⟩ o63r hb65 a w ⟨v24, v27, v30, v34, he, hs⟩
      dsimp only [F17_L1] at hb65
      refine TC.use ?_ he hs
      refine TC.k ?_
      refine TC.region ?_
      refine TO.s rfl rfl rfl (StepS.cmp rfl rfl rfl) ?_
      refine TO.code ?_
      refine TC.k ?_
      refine TC.cond rfl (fun hc66 => ?_) (fun hc66 => ?_)
      · replace hb65 := cond_t hc66 hb65
        refine TC.skipk ?_
        refine TC.k ?_
        refine TC.block ?_
        refine TC.k ?_
        refine TC.region ?_
        obtain ⟨x67, hx68, hb65⟩ := bind_some hb65
        refine TO.s rfl rfl rfl (StepS.idx rfl rfl e2.tl.tl.tl.tl.tl.tl ksliceB_23_106_4_true (idx_spec hx68).1 (idxm_lt hx68)) ?_
        refine TO.s rfl rfl rfl (StepS.ldE rfl e2.tl.tl.tl.tl.tl.tl kaggB_106_4_true rfl (idxm hx68)) ?_
        refine TO.alloc kinfo_106_bind_zero_some_agg_I_0_I_0_I_0_I_0 rfl rfl fun b69 => ?_
        refine TO.stB (us := [I x67.1, I x67.2.1, I x67.2.2.1, I x67.2.2.2]) 0 [I x67.1, I x67.2.1, I x67.2.2.1, I x67.2.2.2] rfl rfl rfl ksizeB_106_4_true rfl rfl rfl (by simp [Value.oneCell']) rfl ?_
        refine TO.code ?_
        refine TC.k ?_
        refine TC.region ?_
        refine TO.s rfl rfl rfl (StepS.assign rfl) ?_
        refine TO.code ?_
        refine TC.k ?_
        refine TC.region_still kfollows_mixedOrders_true (by kernel_rfl) ?_
        refine TS.s rfl rfl rfl (StepS.move rfl) ?_
        refine TS.s rfl rfl rfl (StepS.cmp rfl rfl rfl) ?_
        refine TS.s rfl rfl rfl (StepS.move rfl) ?_
        obtain ⟨b71, hj72, hb65⟩ := bind_some hb65
        refine TS.mid1 13 54 (.bool b71) ?_ ?_
        · refine bcase ((decide (x36 > 0))) (fun hb70 => ?_) (fun hb70 => ?_)
          · replace hj72 := cond_t hb70 hj72
            refine TS.sw rfl rfl rfl hb70 rfl rfl (StepS.move rfl) ?_
            refine TS.sw rfl rfl rfl hb70 rfl rfl (StepS.move rfl) ?_
            refine TS.sw rfl rfl rfl hb70 rfl rfl (StepS.move rfl) ?_
            obtain ⟨x73, hx74, hj72⟩ := bind_some hj72
            refine TS.sw rfl rfl rfl hb70 rfl rfl (StepS.idx rfl rfl (OwnS.rd (Ent.at 4 rfl)) ksliceB_22_3_1_true (idx_spec hx74).1 (idxm_lt hx74)) ?_
            refine TS.sw rfl rfl rfl hb70 rfl rfl (StepS.ld0 rfl (OwnS.rd (Ent.at 4 rfl)) kscalB_3_true rfl (idxm hx74) rfl) ?_
            refine TS.sw rfl rfl rfl hb70 rfl rfl (StepS.ari rfl rfl rfl) ?_
            refine TS.sw rfl rfl rfl hb70 rfl rfl (StepS.move rfl) ?_
            obtain ⟨x75, hx76, hj72⟩ := bind_some hj72
            refine TS.sw rfl rfl rfl hb70 rfl rfl (StepS.idx rfl rfl e0.tl.tl.tl.tl.tl.tl.tl ksliceB_22_3_1_true (idx_spec hx76).1 (idxm_lt hx76)) ?_
            refine TS.sw rfl rfl rfl hb70 rfl rfl (StepS.ld0 rfl e0.tl.tl.tl.tl.tl.tl.tl kscalB_3_true rfl (idxm hx76) rfl) ?_
            refine TS.sw rfl rfl rfl hb70 rfl rfl (StepS.ari rfl rfl rfl) ?_
            refine TS.sw rfl rfl rfl hb70 rfl rfl (StepS.move rfl) ?_
            refine TS.sw rfl rfl rfl hb70 rfl rfl (StepS.cmp rfl rfl rfl) ?_
            cases hj72
            refine TS.s rfl rfl rfl (StepS.pickT rfl hb70 rfl) ?_
            exact TS.up1 13 0 rfl rfl rfl rfl
          · replace hj72 := cond_f hb70 hj72
            cases hj72
            refine TS.skip rfl rfl rfl (skipF hb70) rfl rfl ?_
            refine TS.skip rfl rfl rfl (skipF hb70) rfl rfl ?_
            refine TS.skip rfl rfl rfl (skipF hb70) rfl rfl ?_
            refine TS.skip rfl rfl rfl (skipF hb70) rfl rfl ?_
            refine TS.skip rfl rfl rfl (skipF hb70) rfl rfl ?_
            refine TS.skip rfl rfl rfl (skipF hb70) rfl rfl ?_
            refine TS.skip rfl rfl rfl (skipF hb70) rfl rfl ?_
            refine TS.skip rfl rfl rfl (skipF hb70) rfl rfl ?_
            refine TS.skip rfl rfl rfl (skipF hb70) rfl rfl ?_
            refine TS.skip rfl rfl rfl (skipF hb70) rfl rfl ?_
            refine TS.skip rfl rfl rfl (skipF hb70) rfl rfl ?_
            refine TS.skip rfl rfl rfl (skipF hb70) rfl rfl ?_
            refine TS.s rfl rfl rfl (StepS.pickF rfl hb70 rfl) ?_
            exact TS.up1 13 0 rfl rfl rfl rfl
        refine TS.s rfl rfl rfl (StepS.assign rfl) ?_
        refine TS.code ?_
        refine TC.k ?_
        refine TC.k ?_
        refine TC.region ?_
        refine TO.s rfl rfl rfl (StepS.fld rfl kfieldB_106_0_0_true) ?_
        refine TO.s rfl rfl rfl (StepS.ldB rfl (Ent.at 0 rfl) kscalB_3_true rfl) ?_
        refine TO.s rfl rfl rfl (StepS.cmp rfl rfl rfl) ?_
        refine TO.s rfl rfl rfl (StepS.move rfl) ?_
        refine TO.mid1 4 62 (.bool ((x67.1 != 1) && (x67.1 != 2))) ?_ ?_
        · refine bcase ((x67.1 != 1)) (fun hb77 => ?_) (fun hb77 => ?_)
          · refine TO.sw rfl rfl rfl hb77 rfl rfl (StepS.fld rfl kfieldB_106_0_0_true) ?_
            refine TO.sw rfl rfl rfl hb77 rfl rfl (StepS.ldB rfl (Ent.at 0 rfl) kscalB_3_true rfl) ?_
            refine TO.sw rfl rfl rfl hb77 rfl rfl (StepS.cmp rfl rfl rfl) ?_
            refine TO.s rfl rfl rfl (StepS.pickT rfl hb77 rfl) ?_
            exact TO.up1 4 0 rfl rfl (by rw [hb77]; rfl) rfl
          · refine TO.skip rfl rfl rfl (skipF hb77) rfl rfl ?_
            refine TO.skip rfl rfl rfl (skipF hb77) rfl rfl ?_
            refine TO.skip rfl rfl rfl (skipF hb77) rfl rfl ?_
            refine TO.s rfl rfl rfl (StepS.pickF rfl hb77 rfl) ?_
            exact TO.up1 4 0 rfl rfl (by rw [hb77]; rfl) rfl
        refine TO.code ?_
        obtain ⟨⟨y78, x80, x81, x82⟩, hj83, hb65⟩ := bind_some hb65
        refine TC.cutM (fun a w => ∃ v79 : Value, Mid 176 B [(0, h0), (1, I a1), (6, .pointer (some ⟨b4, 0, none⟩)), (7, .pointer (some ⟨b5, 0, none⟩)), (8, I (a0.length : Int)), (9, I x80), (10, v79), (12, I x81), (15, I x82), (33, h2), (34, I (a2.length : Int)), (35, I x37)] (Bx b69 106 [I x67.1, I x67.2.1, I x67.2.2.1, I x67.2.2.2] :: OwnS 28 1 v24 (y26.map cI) :: OwnS 36 1 v27 (y29.map cU) :: OwnS 36 1 v30 (y32.map cU) :: OwnS 3 1 v79 (y78.map cI) :: Bx b5 27 [v24, v27, v30] :: Bx b4 27 [.slice none 0 0, .slice none 0 0, .slice none 0 0] :: L) a w) ?_ ?_
        · refine TC.cond rfl (fun hc84 => ?_) (fun hc84 => ?_)
          · replace hj83 := cond_t hc84 hj83
            refine TC.region ?_
            refine TO.s rfl rfl rfl (StepS.assign rfl) ?_
            cases hj83
            refine TO.nil fun a w e s => ?_
            exact ⟨v34, e.sub (lk_of_allIn ⟨rfl, rfl, rfl, rfl, rfl, rfl, rfl, rfl, rfl, rfl, rfl, rfl, trivial⟩), s⟩
          · replace hj83 := cond_f hc84 hj83
            refine TC.k ?_
            refine TC.region ?_
            refine TO.s rfl rfl rfl (StepS.fld rfl kfieldB_106_0_0_true) ?_
            refine TO.s rfl rfl rfl (StepS.ldB rfl (Ent.at 0 rfl) kscalB_3_true rfl) ?_
            refine TO.s rfl rfl rfl (StepS.cmp rfl rfl rfl) ?_
            refine TO.code ?_
            refine TC.cond rfl (fun hc85 => ?_) (fun hc85 => ?_)
            · replace hj83 := cond_t hc85 hj83
              refine TC.k ?_
              refine TC.region ?_
              refine TO.s rfl rfl rfl (StepS.fld rfl kfieldB_106_3_3_true) ?_
              refine TO.s rfl rfl rfl (StepS.ldB rfl (Ent.at 0 rfl) kscalB_3_true rfl) ?_
              refine TO.s rfl rfl rfl (StepS.cmp rfl rfl rfl) ?_
              refine TO.s rfl rfl rfl (StepS.move rfl) ?_
              refine TO.mid1 4 73 (.bool ((decide (x67.2.2.2 < 0)) || (decide (x67.2.2.2 > 1000)))) ?_ ?_
              · refine bcase ((decide (x67.2.2.2 < 0))) (fun hb86 => ?_) (fun hb86 => ?_)
                · refine TO.skip rfl rfl rfl (skipT hb86) rfl rfl ?_
                  refine TO.skip rfl rfl rfl (skipT hb86) rfl rfl ?_
                  refine TO.skip rfl rfl rfl (skipT hb86) rfl rfl ?_
                  refine TO.s rfl rfl rfl (StepS.pickT rfl hb86 rfl) ?_
                  exact TO.up1 4 0 rfl rfl (by rw [hb86]; rfl) rfl
                · refine TO.sw rfl rfl rfl hb86 rfl rfl (StepS.fld rfl kfieldB_106_3_3_true) ?_
                  refine TO.sw rfl rfl rfl hb86 rfl rfl (StepS.ldB rfl (Ent.at 0 rfl) kscalB_3_true rfl) ?_
                  refine TO.sw rfl rfl rfl hb86 rfl rfl (StepS.cmp rfl rfl rfl) ?_
                  refine TO.s rfl rfl rfl (StepS.pickF rfl hb86 rfl) ?_
                  exact TO.up1 4 0 rfl rfl (by rw [hb86]; rfl) rfl
              refine TO.code ?_
              refine TC.cond rfl (fun hc87 => ?_) (fun hc87 => ?_)
              · replace hj83 := cond_t hc87 hj83
                refine TC.region ?_
                refine TO.s rfl rfl rfl (StepS.assign rfl) ?_
                cases hj83
                refine TO.nil fun a w e s => ?_
                exact ⟨v34, e.sub (lk_of_allIn ⟨rfl, rfl, rfl, rfl, rfl, rfl, rfl, rfl, rfl, rfl, rfl, rfl, trivial⟩), s⟩
              · replace hj83 := cond_f hc87 hj83
                refine TC.region ?_
                refine TO.s rfl rfl rfl (StepS.move rfl) ?_
                refine TO.s rfl rfl rfl (StepS.fld rfl kfieldB_106_3_3_true) ?_
                refine TO.s rfl rfl rfl (StepS.ldB rfl (Ent.at 0 rfl) kscalB_3_true rfl) ?_
                refine TO.s rfl rfl rfl (StepS.ari rfl rfl rfl) ?_
                refine TO.s rfl rfl rfl (StepS.assign rfl) ?_
                cases hj83
                refine TO.nil fun a w e s => ?_
                exact ⟨v34, e.sub (lk_of_allIn ⟨rfl, rfl, rfl, rfl, rfl, rfl, rfl, rfl, rfl, rfl, rfl, rfl, trivial⟩), s⟩
            · replace hj83 := cond_f hc85 hj83
              refine TC.k ?_
              refine TC.region ?_
              refine TO.s rfl rfl rfl (StepS.fld rfl kfieldB_106_2_2_true) ?_
              refine TO.s rfl rfl rfl (StepS.ldB rfl (Ent.at 0 rfl) kscalB_3_true rfl) ?_
              refine TO.s rfl rfl rfl (StepS.cmp rfl rfl rfl) ?_
              refine TO.s rfl rfl rfl (StepS.move rfl) ?_
              refine TO.mid1 5 86 (.bool ((decide (x67.2.2.1 < 1)) || (decide (x67.2.2.1 ≥ (a0.length : Int))))) ?_ ?_
              · refine bcase ((decide (x67.2.2.1 < 1))) (fun hb88 => ?_) (fun hb88 => ?_)
                · refine TO.skip rfl rfl rfl (skipT hb88) rfl rfl ?_
                  refine TO.skip rfl rfl rfl (skipT hb88) rfl rfl ?_
                  refine TO.skip rfl rfl rfl (skipT hb88) rfl rfl ?_
                  refine TO.skip rfl rfl rfl (skipT hb88) rfl rfl ?_
                  refine TO.s rfl rfl rfl (StepS.pickT rfl hb88 rfl) ?_
                  exact TO.up1 5 0 rfl rfl (by rw [hb88]; rfl) rfl
                · refine TO.sw rfl rfl rfl hb88 rfl rfl (StepS.fld rfl kfieldB_106_2_2_true) ?_
                  refine TO.sw rfl rfl rfl hb88 rfl rfl (StepS.ldB rfl (Ent.at 0 rfl) kscalB_3_true rfl) ?_
                  refine TO.sw rfl rfl rfl hb88 rfl rfl (StepS.move rfl) ?_
                  refine TO.sw rfl rfl rfl hb88 rfl rfl (StepS.cmp rfl rfl rfl) ?_
                  refine TO.s rfl rfl rfl (StepS.pickF rfl hb88 rfl) ?_
                  exact TO.up1 5 0 rfl rfl (by rw [hb88]; rfl) rfl
              refine TO.code ?_
              refine TC.cond rfl (fun hc89 => ?_) (fun hc89 => ?_)
              · replace hj83 := cond_t hc89 hj83
                refine TC.region ?_
                refine TO.s rfl rfl rfl (StepS.assign rfl) ?_
                cases hj83
                refine TO.nil fun a w e s => ?_
                exact ⟨v34, e.sub (lk_of_allIn ⟨rfl, rfl, rfl, rfl, rfl, rfl, rfl, rfl, rfl, rfl, rfl, rfl, trivial⟩), s⟩
              · replace hj83 := cond_f hc89 hj83
                refine TC.k ?_
                refine TC.region ?_
                refine TO.s rfl rfl rfl (StepS.move rfl) ?_
                refine TO.s rfl rfl rfl (StepS.move rfl) ?_
                refine TO.mid1 5 93 (.bool (b71 && (x67.2.2.1 != x36))) ?_ ?_
                · refine bcase (b71) (fun hb90 => ?_) (fun hb90 => ?_)
                  · refine TO.sw rfl rfl rfl hb90 rfl rfl (StepS.fld rfl kfieldB_106_2_2_true) ?_
                    refine TO.sw rfl rfl rfl hb90 rfl rfl (StepS.ldB rfl (Ent.at 0 rfl) kscalB_3_true rfl) ?_
                    refine TO.sw rfl rfl rfl hb90 rfl rfl (StepS.move rfl) ?_
                    refine TO.sw rfl rfl rfl hb90 rfl rfl (StepS.cmp rfl rfl rfl) ?_
                    refine TO.s rfl rfl rfl (StepS.pickT rfl hb90 rfl) ?_
                    exact TO.up1 5 0 rfl rfl (by rw [hb90]; rfl) rfl
                  · refine TO.skip rfl rfl rfl (skipF hb90) rfl rfl ?_
                    refine TO.skip rfl rfl rfl (skipF hb90) rfl rfl ?_
                    refine TO.skip rfl rfl rfl (skipF hb90) rfl rfl ?_
                    refine TO.skip rfl rfl rfl (skipF hb90) rfl rfl ?_
                    refine TO.s rfl rfl rfl (StepS.pickF rfl hb90 rfl) ?_
                    exact TO.up1 5 0 rfl rfl (by rw [hb90]; rfl) rfl
                refine TO.code ?_
                refine TC.cond rfl (fun hc91 => ?_) (fun hc91 => ?_)
                · replace hj83 := cond_t hc91 hj83
                  refine TC.region ?_
                  refine TO.s rfl rfl rfl (StepS.assign rfl) ?_
                  cases hj83
                  refine TO.nil fun a w e s => ?_
                  exact ⟨v34, e.sub (lk_of_allIn ⟨rfl, rfl, rfl, rfl, rfl, rfl, rfl, rfl, rfl, rfl, rfl, rfl, trivial⟩), s⟩
                · replace hj83 := cond_f hc91 hj83
                  refine TC.k ?_
                  refine TC.region ?_
                  refine TO.s rfl rfl rfl (StepS.fld rfl kfieldB_106_2_2_true) ?_
                  refine TO.s rfl rfl rfl (StepS.ldB rfl (Ent.at 0 rfl) kscalB_3_true rfl) ?_
                  refine TO.s rfl rfl rfl (StepS.assign rfl) ?_
                  refine TO.code ?_
                  refine TC.region ?_
                  refine TO.s rfl rfl rfl (StepS.move rfl) ?_
                  refine TO.s rfl rfl rfl (StepS.move rfl) ?_
                  refine TO.s rfl rfl rfl (StepS.move rfl) ?_
                  obtain ⟨x92, hx93, hj83⟩ := bind_some hj83
                  refine TO.s rfl rfl rfl (StepS.idx rfl rfl (OwnS.rd (Ent.at 4 rfl)) ksliceB_22_3_1_true (idx_spec hx93).1 (idxm_lt hx93)) ?_
                  refine TO.stO (i := x67.2.2.1.toNat) (off := 0) (us := [I x35]) 4 x35 rfl rfl rfl ksizeB_3_1_true rfl rfl rfl (idx_spec hx93).2 rfl (by simp [Value.oneCell']) rfl ?_
                  cases hj83
                  refine TO.nil fun a w e s => ?_
                  exact ⟨v34, e.sub (lk_of_allIn ⟨rfl, rfl, rfl, rfl, rfl, rfl, rfl, rfl, rfl, rfl, rfl, rfl, trivial⟩), s⟩
        · intro a w ⟨v79, he, hs⟩
          refine TC.use ?_ he hs
          refine TC.k ?_
          refine TC.region ?_
          refine TO.s rfl rfl rfl (StepS.assign rfl) ?_
          refine TO.code ?_
          refine TC.k ?_
          refine TC.region ?_
          refine TO.s rfl rfl rfl (StepS.assign rfl) ?_
          refine TO.code ?_
          refine TC.k ?_
          refine TC.k ?_
          refine TC.region ?_
          refine TO.s rfl rfl rfl (StepS.assign rfl) ?_
          refine TO.code ?_
          obtain ⟨o102, hw103, hb65⟩ := bind_some hb65
          refine TC.loop hw103 (fun (x94, x95, x96) => fun a w => Mid 176 B [(0, h0), (1, I a1), (6, .pointer (some ⟨b4, 0, none⟩)), (7, .pointer (some ⟨b5, 0, none⟩)), (8, I (a0.length : Int)), (9, I x80), (10, v79), (12, I x81), (15, I x82), (17, U x94), (18, U x95), (19, I x96), (33, h2), (34, I (a2.length : Int)), (35, I x37)] (Bx b69 106 [I x67.1, I x67.2.1, I x67.2.2.1, I x67.2.2.2] :: OwnS 28 1 v24 (y26.map cI) :: OwnS 36 1 v27 (y29.map cU) :: OwnS 36 1 v30 (y32.map cU) :: OwnS 3 1 v79 (y78.map cI) :: Bx b5 27 [v24, v27, v30] :: Bx b4 27 [.slice none 0 0, .slice none 0 0, .slice none 0 0] :: L) a w) (fun (x100, x101) => fun a w => Mid 176 B [(0, h0), (1, I a1), (6, .pointer (some ⟨b4, 0, none⟩)), (7, .pointer (some ⟨b5, 0, none⟩)), (8, I (a0.length : Int)), (9, I x80), (10, v79), (12, I x81), (15, I x82), (17, U x100), (18, U x101), (33, h2), (34, I (a2.length : Int)), (35, I x37)] (Bx b69 106 [I x67.1, I x67.2.1, I x67.2.2.1, I x67.2.2.2] :: OwnS 28 1 v24 (y26.map cI) :: OwnS 36 1 v27 (y29.map cU) :: OwnS 36 1 v30 (y32.map cU) :: OwnS 3 1 v79 (y78.map cI) :: Bx b5 27 [v24, v27, v30] :: Bx b4 27 [.slice none 0 0, .slice none 0 0, .slice none 0 0] :: L) a w) (fun (_ : Unit) _ _ => False) ?_ ?_ ?_ ?_
          · rintro ⟨x94, x95, x96⟩ o102r hb104 a w ⟨he, hs⟩
            dsimp only [F17_L2] at hb104
            refine TC.use ?_ he hs
            refine TC.k ?_
            refine TC.k ?_
            refine TC.region ?_
            refine TO.s rfl rfl rfl (StepS.move rfl) ?_
            refine TO.s rfl rfl rfl (StepS.move rfl) ?_
            refine TO.s rfl rfl rfl (StepS.cmp rfl rfl rfl) ?_
            refine TO.code ?_
            refine TC.cond rfl (fun hc105 => ?_) (fun hc105 => ?_)
            · replace hb104 := cond_t hc105 hb104
              refine TC.skipk ?_
              refine TC.k ?_
              obtain ⟨⟨x106, x107⟩, hj108, hb104⟩ := bind_some hb104
              refine TC.cutM (fun a w => Mid 176 B [(0, h0), (1, I a1), (6, .pointer (some ⟨b4, 0, none⟩)), (7, .pointer (some ⟨b5, 0, none⟩)), (8, I (a0.length : Int)), (9, I x80), (10, v79), (12, I x81), (15, I x82), (17, U x106), (18, U x107), (19, I x96), (33, h2), (34, I (a2.length : Int)), (35, I x37)] (Bx b69 106 [I x67.1, I x67.2.1, I x67.2.2.1, I x67.2.2.2] :: OwnS 28 1 v24 (y26.map cI) :: OwnS 36 1 v27 (y29.map cU) :: OwnS 36 1 v30 (y32.map cU) :: OwnS 3 1 v79 (y78.map cI) :: Bx b5 27 [v24, v27, v30] :: Bx b4 27 [.slice none 0 0, .slice none 0 0, .slice none 0 0] :: L) a w) ?_ ?_
              · refine TC.block ?_
                refine TC.k ?_
                refine TC.k ?_
                refine TC.region_still kfollows_mixedOrders_true (by kernel_rfl) ?_
                refine TS.s rfl rfl rfl (StepS.move rfl) ?_
                refine TS.s rfl rfl rfl (StepS.move rfl) ?_
                obtain ⟨x109, hx110, hj108⟩ := bind_some hj108
                refine TS.s rfl rfl rfl (StepS.idx rfl rfl (OwnS.rd (Ent.at 4 rfl)) ksliceB_22_3_1_true (idx_spec hx110).1 (idxm_lt hx110)) ?_
                refine TS.s rfl rfl rfl (StepS.ld0 rfl (OwnS.rd (Ent.at 4 rfl)) kscalB_3_true rfl (idxm hx110) rfl) ?_
                refine TS.s rfl rfl rfl (StepS.cmp rfl rfl rfl) ?_
                refine TS.s rfl rfl rfl (StepS.move rfl) ?_
                obtain ⟨b112, hj113, hj108⟩ := bind_some hj108
                refine TS.mid1 16 126 (.bool b112) ?_ ?_
                · refine bcase ((decide (x109 ≥ 0))) (fun hb111 => ?_) (fun hb111 => ?_)
                  · replace hj113 := cond_t hb111 hj113
                    refine TS.sw rfl rfl rfl hb111 rfl rfl (StepS.move rfl) ?_
                    refine TS.sw rfl rfl rfl hb111 rfl rfl (StepS.move rfl) ?_
                    refine TS.sw rfl rfl rfl hb111 rfl rfl (StepS.move rfl) ?_
                    obtain ⟨x114, hx115, hj113⟩ := bind_some hj113
                    refine TS.sw rfl rfl rfl hb111 rfl rfl (StepS.idx rfl rfl (OwnS.rd (Ent.at 4 rfl)) ksliceB_22_3_1_true (idx_spec hx115).1 (idxm_lt hx115)) ?_
                    refine TS.sw rfl rfl rfl hb111 rfl rfl (StepS.ld0 rfl (OwnS.rd (Ent.at 4 rfl)) kscalB_3_true rfl (idxm hx115) rfl) ?_
                    refine TS.sw rfl rfl rfl hb111 rfl rfl (StepS.ari rfl rfl rfl) ?_
                    refine TS.sw rfl rfl rfl hb111 rfl rfl (StepS.move rfl) ?_
                    refine TS.sw rfl rfl rfl hb111 rfl rfl (StepS.move rfl) ?_
                    obtain ⟨x116, hx117, hj113⟩ := bind_some hj113
                    refine TS.sw rfl rfl rfl hb111 rfl rfl (StepS.idx rfl rfl e0.tl.tl.tl.tl.tl.tl.tl ksliceB_22_3_1_true (idx_spec hx117).1 (idxm_lt hx117)) ?_
                    refine TS.sw rfl rfl rfl hb111 rfl rfl (StepS.ld0 rfl e0.tl.tl.tl.tl.tl.tl.tl kscalB_3_true rfl (idxm hx117) rfl) ?_
                    refine TS.sw rfl rfl rfl hb111 rfl rfl (StepS.ari rfl rfl rfl) ?_
                    refine TS.sw rfl rfl rfl hb111 rfl rfl (StepS.ari rfl rfl rfl) ?_
                    refine TS.sw rfl rfl rfl hb111 rfl rfl (StepS.move rfl) ?_
                    refine TS.sw rfl rfl rfl hb111 rfl rfl (StepS.ari rfl rfl rfl) ?_
                    refine TS.sw rfl rfl rfl hb111 rfl rfl (StepS.cmp rfl rfl rfl) ?_
                    cases hj113
                    refine TS.s rfl rfl rfl (StepS.pickT rfl hb111 rfl) ?_
                    exact TS.up1 16 0 rfl rfl rfl rfl
                  · replace hj113 := cond_f hb111 hj113
                    cases hj113
                    refine TS.skip rfl rfl rfl (skipF hb111) rfl rfl ?_
                    refine TS.skip rfl rfl rfl (skipF hb111) rfl rfl ?_
                    refine TS.skip rfl rfl rfl (skipF hb111) rfl rfl ?_
                    refine TS.skip rfl rfl rfl (skipF hb111) rfl rfl ?_
                    refine TS.skip rfl rfl rfl (skipF hb111) rfl rfl ?_
                    refine TS.skip rfl rfl rfl (skipF hb111) rfl rfl ?_
                    refine TS.skip rfl rfl rfl (skipF hb111) rfl rfl ?_
                    refine TS.skip rfl rfl rfl (skipF hb111) rfl rfl ?_
                    refine TS.skip rfl rfl rfl (skipF hb111) rfl rfl ?_
                    refine TS.skip rfl rfl rfl (skipF hb111) rfl rfl ?_
                    refine TS.skip rfl rfl rfl (skipF hb111) rfl rfl ?_
                    refine TS.skip rfl rfl rfl (skipF hb111) rfl rfl ?_
                    refine TS.skip rfl rfl rfl (skipF hb111) rfl rfl ?_
                    refine TS.skip rfl rfl rfl (skipF hb111) rfl rfl ?_
                    refine TS.skip rfl rfl rfl (skipF hb111) rfl rfl ?_
                    refine TS.s rfl rfl rfl (StepS.pickF rfl hb111 rfl) ?_
                    exact TS.up1 16 0 rfl rfl rfl rfl
                refine TS.code ?_
                obtain ⟨x118, hj119, hj108⟩ := bind_some hj108
                refine TC.cutM (fun a w => Mid 176 B [(0, h0), (1, I a1), (6, .pointer (some ⟨b4, 0, none⟩)), (7, .pointer (some ⟨b5, 0, none⟩)), (8, I (a0.length : Int)), (9, I x80), (10, v79), (12, I x81), (15, I x82), (17, U x118), (18, U x95), (19, I x96), (33, h2), (34, I (a2.length : Int)), (35, I x37)] (Bx b69 106 [I x67.1, I x67.2.1, I x67.2.2.1, I x67.2.2.2] :: OwnS 28 1 v24 (y26.map cI) :: OwnS 36 1 v27 (y29.map cU) :: OwnS 36 1 v30 (y32.map cU) :: OwnS 3 1 v79 (y78.map cI) :: Bx b5 27 [v24, v27, v30] :: Bx b4 27 [.slice none 0 0, .slice none 0 0, .slice none 0 0] :: L) a w) ?_ ?_
                · refine TC.cond rfl (fun hc120 => ?_) (fun hc120 => ?_)
                  · replace hj119 := cond_t hc120 hj119
                    refine TC.region ?_
                    refine TO.s rfl rfl rfl (StepS.move rfl) ?_
                    refine TO.s rfl rfl rfl (StepS.move rfl) ?_
                    refine TO.s rfl rfl rfl (StepS.cvIV kintB_3_i64_true kintB_108_u64_true rfl) ?_
                    refine TO.s rfl rfl rfl (StepS.shl (m := 1#32) rfl rfl (u64_nonneg _)) ?_
                    refine TO.s rfl rfl rfl (StepS.bitU rfl rfl rfl) ?_
                    refine TO.s rfl rfl rfl (StepS.assign rfl) ?_
                    cases hj119
                    refine TO.nil fun a w e s => ?_
                    exact ⟨e.sub (lk_of_allIn ⟨rfl, rfl, rfl, rfl, rfl, rfl, rfl, rfl, rfl, rfl, rfl, rfl, rfl, rfl, rfl, trivial⟩), s⟩
                  · replace hj119 := cond_f hc120 hj119
                    cases hj119
                    refine TC.skip fun a w e s => ?_
                    exact ⟨e.sub (lk_of_allIn ⟨rfl, rfl, rfl, rfl, rfl, rfl, rfl, rfl, rfl, rfl, rfl, rfl, rfl, rfl, rfl, trivial⟩), s⟩
                · intro a w ⟨he, hs⟩
                  refine TC.use ?_ he hs
                  refine TC.k ?_
                  refine TC.region_still kfollows_mixedOrders_true (by kernel_rfl) ?_
                  refine TS.s rfl rfl rfl (StepS.move rfl) ?_
                  refine TS.s rfl rfl rfl (StepS.move rfl) ?_
                  obtain ⟨x121, hx122, hj108⟩ := bind_some hj108
                  refine TS.s rfl rfl rfl (StepS.idx rfl rfl (OwnS.rd (Ent.at 4 rfl)) ksliceB_22_3_1_true (idx_spec hx122).1 (idxm_lt hx122)) ?_
                  refine TS.s rfl rfl rfl (StepS.ld0 rfl (OwnS.rd (Ent.at 4 rfl)) kscalB_3_true rfl (idxm hx122) rfl) ?_
                  refine TS.s rfl rfl rfl (StepS.cmp rfl rfl rfl) ?_
                  refine TS.s rfl rfl rfl (StepS.move rfl) ?_
                  obtain ⟨b124, hj125, hj108⟩ := bind_some hj108
                  refine TS.mid1 13 150 (.bool b124) ?_ ?_
                  · refine bcase ((decide (x121 ≥ 0))) (fun hb123 => ?_) (fun hb123 => ?_)
                    · replace hj125 := cond_t hb123 hj125
                      refine TS.sw rfl rfl rfl hb123 rfl rfl (StepS.move rfl) ?_
                      refine TS.sw rfl rfl rfl hb123 rfl rfl (StepS.move rfl) ?_
                      refine TS.sw rfl rfl rfl hb123 rfl rfl (StepS.move rfl) ?_
                      obtain ⟨x126, hx127, hj125⟩ := bind_some hj125
                      refine TS.sw rfl rfl rfl hb123 rfl rfl (StepS.idx rfl rfl (OwnS.rd (Ent.at 4 rfl)) ksliceB_22_3_1_true (idx_spec hx127).1 (idxm_lt hx127)) ?_
                      refine TS.sw rfl rfl rfl hb123 rfl rfl (StepS.ld0 rfl (OwnS.rd (Ent.at 4 rfl)) kscalB_3_true rfl (idxm hx127) rfl) ?_
                      refine TS.sw rfl rfl rfl hb123 rfl rfl (StepS.ari rfl rfl rfl) ?_
                      refine TS.sw rfl rfl rfl hb123 rfl rfl (StepS.move rfl) ?_
                      obtain ⟨x128, hx129, hj125⟩ := bind_some hj125
                      refine TS.sw rfl rfl rfl hb123 rfl rfl (StepS.idx rfl rfl e0.tl.tl.tl.tl.tl.tl.tl ksliceB_22_3_1_true (idx_spec hx129).1 (idxm_lt hx129)) ?_
                      refine TS.sw rfl rfl rfl hb123 rfl rfl (StepS.ld0 rfl e0.tl.tl.tl.tl.tl.tl.tl kscalB_3_true rfl (idxm hx129) rfl) ?_
                      refine TS.sw rfl rfl rfl hb123 rfl rfl (StepS.ari rfl rfl rfl) ?_
                      refine TS.sw rfl rfl rfl hb123 rfl rfl (StepS.move rfl) ?_
                      refine TS.sw rfl rfl rfl hb123 rfl rfl (StepS.cmp rfl rfl rfl) ?_
                      cases hj125
                      refine TS.s rfl rfl rfl (StepS.pickT rfl hb123 rfl) ?_
                      exact TS.up1 13 0 rfl rfl rfl rfl
                    · replace hj125 := cond_f hb123 hj125
                      cases hj125
                      refine TS.skip rfl rfl rfl (skipF hb123) rfl rfl ?_
                      refine TS.skip rfl rfl rfl (skipF hb123) rfl rfl ?_
                      refine TS.skip rfl rfl rfl (skipF hb123) rfl rfl ?_
                      refine TS.skip rfl rfl rfl (skipF hb123) rfl rfl ?_
                      refine TS.skip rfl rfl rfl (skipF hb123) rfl rfl ?_
                      refine TS.skip rfl rfl rfl (skipF hb123) rfl rfl ?_
                      refine TS.skip rfl rfl rfl (skipF hb123) rfl rfl ?_
                      refine TS.skip rfl rfl rfl (skipF hb123) rfl rfl ?_
                      refine TS.skip rfl rfl rfl (skipF hb123) rfl rfl ?_
                      refine TS.skip rfl rfl rfl (skipF hb123) rfl rfl ?_
                      refine TS.skip rfl rfl rfl (skipF hb123) rfl rfl ?_
                      refine TS.skip rfl rfl rfl (skipF hb123) rfl rfl ?_
                      refine TS.s rfl rfl rfl (StepS.pickF rfl hb123 rfl) ?_
                      exact TS.up1 13 0 rfl rfl rfl rfl
                  refine TS.code ?_
                  refine TC.cond rfl (fun hc130 => ?_) (fun hc130 => ?_)
                  · replace hj108 := cond_t hc130 hj108
                    refine TC.region ?_
                    refine TO.s rfl rfl rfl (StepS.move rfl) ?_
                    refine TO.s rfl rfl rfl (StepS.move rfl) ?_
                    refine TO.s rfl rfl rfl (StepS.cvIV kintB_3_i64_true kintB_108_u64_true rfl) ?_
                    refine TO.s rfl rfl rfl (StepS.shl (m := 1#32) rfl rfl (u64_nonneg _)) ?_
                    refine TO.s rfl rfl rfl (StepS.bitU rfl rfl rfl) ?_
                    refine TO.s rfl rfl rfl (StepS.assign rfl) ?_
                    cases hj108
                    refine TO.nil fun a w e s => ?_
                    exact ⟨e.sub (lk_of_allIn ⟨rfl, rfl, rfl, rfl, rfl, rfl, rfl, rfl, rfl, rfl, rfl, rfl, rfl, rfl, rfl, trivial⟩), s⟩
                  · replace hj108 := cond_f hc130 hj108
                    cases hj108
                    refine TC.skip fun a w e s => ?_
                    exact ⟨e.sub (lk_of_allIn ⟨rfl, rfl, rfl, rfl, rfl, rfl, rfl, rfl, rfl, rfl, rfl, rfl, rfl, rfl, rfl, trivial⟩), s⟩
              · intro a w ⟨he, hs⟩
                refine TC.use ?_ he hs
                refine TC.region ?_
                refine TO.s rfl rfl rfl (StepS.move rfl) ?_
                refine TO.s rfl rfl rfl (StepS.ari rfl rfl rfl) ?_
                refine TO.s rfl rfl rfl (StepS.assign rfl) ?_
                cases hb104
                refine TO.nil fun a w e s => ?_
                exact ⟨e.sub (lk_of_allIn ⟨rfl, rfl, rfl, rfl, rfl, rfl, rfl, rfl, rfl, rfl, rfl, rfl, rfl, rfl, rfl, trivial⟩), s⟩
            · replace hb104 := cond_f hc105 hb104
              cases hb104
              refine TC.exit rfl fun a w e s => ?_
              exact ⟨e.sub (lk_of_allIn ⟨rfl, rfl, rfl, rfl, rfl, rfl, rfl, rfl, rfl, rfl, rfl, rfl, rfl, rfl, trivial⟩), s⟩
          · exact fun a w e s => ⟨e.sub (lk_of_allIn ⟨rfl, rfl, rfl, rfl, rfl, rfl, rfl, rfl, rfl, rfl, rfl, rfl, rfl, rfl, rfl, trivial⟩), s⟩
          · rintro ⟨x100, x101⟩ rfl a w ⟨he, hs⟩
            dsimp only [Ctl.on] at hb65
            refine TC.use ?_ he hs
            refine TC.k ?_
            refine TC.region ?_
            refine TO.s rfl rfl rfl (StepS.fld rfl kfieldB_27_0_0_true) ?_
            refine TO.s rfl rfl rfl (StepS.ldB rfl (Ent.at 5 rfl) kscalB_24_true rfl) ?_
            refine TO.s rfl rfl rfl (StepS.move rfl) ?_
            refine TO.litS (f := cI) ([x82] : List Int) kelemB_24_28_1_8_true kinfo_28_bind_zero_some_I_0 rfl rfl (fun _ => rfl) rfl rfl (by kernel_rfl) rfl fun v131 => ?_
            obtain ⟨y133, hk134, hb65⟩ := bind_some hb65
            refine TO.app (k := 2) (f := cI) kelemB_24_28_1_8_true (by decide) rfl rfl rfl (OwnS.rd (Ent.at 0 rfl)) hk134 (fun x c hc => by simp [Value.oneCell'] at hc ⊢; first | (obtain rfl := hc; rfl) | (rcases hc with rfl <;> rfl)) rfl rfl fun v135 => ?_
            refine TO.s rfl rfl rfl (StepS.fld rfl kfieldB_27_0_0_true) ?_
            refine TO.pure (fun _ s => Rd.one (OwnS.rd (Ent.at 2 rfl)) s) fun oc136 => ?_
            refine TO.stB (us := [v135]) 6 [v135, v27, v30] rfl rfl rfl ksizeB_24_1_true oc136.2 rfl rfl (by intro u hu; simp only [List.mem_cons, List.not_mem_nil, or_false] at hu; rcases hu with rfl <;> first | exact oc136.1 | rfl) rfl ?_
            refine TO.code ?_
            refine TC.k ?_
            refine TC.region ?_
            refine TO.s rfl rfl rfl (StepS.fld rfl kfieldB_27_1_1_true) ?_
            refine TO.s rfl rfl rfl (StepS.ldB rfl (Ent.at 6 rfl) kscalB_25_true rfl) ?_
            refine TO.s rfl rfl rfl (StepS.move rfl) ?_
            refine TO.litS (f := cU) ([x100] : List (BitVec 32)) kelemB_25_36_1_4_true kinfo_36_bind_zero_some_U_0 rfl rfl (fun _ => rfl) rfl rfl (by kernel_rfl) rfl fun v137 => ?_
            obtain ⟨y139, hk140, hb65⟩ := bind_some hb65
            refine TO.app (k := 4) (f := cU) kelemB_25_36_1_4_true (by decide) rfl rfl rfl (OwnS.rd (Ent.at 0 rfl)) hk140 (fun x c hc => by simp [Value.oneCell'] at hc ⊢; first | (obtain rfl := hc; rfl) | (rcases hc with rfl <;> rfl)) rfl rfl fun v141 => ?_
            refine TO.s rfl rfl rfl (StepS.fld rfl kfieldB_27_1_1_true) ?_
            refine TO.pure (fun _ s => Rd.one (OwnS.rd (Ent.at 4 rfl)) s) fun oc142 => ?_
            refine TO.stB (us := [v141]) 7 [v135, v141, v30] rfl rfl rfl ksizeB_25_1_true oc142.2 rfl rfl (by intro u hu; simp only [List.mem_cons, List.not_mem_nil, or_false] at hu; rcases hu with rfl <;> first | exact oc142.1 | rfl) rfl ?_
            refine TO.code ?_
            refine TC.region ?_
            refine TO.s rfl rfl rfl (StepS.fld rfl kfieldB_27_2_2_true) ?_
            refine TO.s rfl rfl rfl (StepS.ldB rfl (Ent.at 7 rfl) kscalB_25_true rfl) ?_
            refine TO.s rfl rfl rfl (StepS.move rfl) ?_
            refine TO.litS (f := cU) ([x101] : List (BitVec 32)) kelemB_25_36_1_4_true kinfo_36_bind_zero_some_U_0 rfl rfl (fun _ => rfl) rfl rfl (by kernel_rfl) rfl fun v143 => ?_
            obtain ⟨y145, hk146, hb65⟩ := bind_some hb65
            refine TO.app (k := 6) (f := cU) kelemB_25_36_1_4_true (by decide) rfl rfl rfl (OwnS.rd (Ent.at 0 rfl)) hk146 (fun x c hc => by simp [Value.oneCell'] at hc ⊢; first | (obtain rfl := hc; rfl) | (rcases hc with rfl <;> rfl)) rfl rfl fun v147 => ?_
            refine TO.s rfl rfl rfl (StepS.fld rfl kfieldB_27_2_2_true) ?_
            refine TO.pure (fun _ s => Rd.one (OwnS.rd (Ent.at 6 rfl)) s) fun oc148 => ?_
            refine TO.stB (us := [v147]) 8 [v135, v141, v147] rfl rfl rfl ksizeB_25_1_true oc148.2 rfl rfl (by intro u hu; simp only [List.mem_cons, List.not_mem_nil, or_false] at hu; rcases hu with rfl <;> first | exact oc148.1 | rfl) rfl ?_
            refine TO.code ?_
            refine TC.region ?_
            refine TO.s rfl rfl rfl (StepS.ari rfl rfl rfl) ?_
            refine TO.s rfl rfl rfl (StepS.move rfl) ?_
            cases hb65
            refine TO.nil fun a w e s => ?_
            exact ⟨v135, v141, v147, v79, e.sub (lk_of_allIn ⟨rfl, rfl, rfl, rfl, rfl, rfl, rfl, rfl, rfl, rfl, rfl, trivial⟩), s.mono fun _ => Sat.dropN 4⟩
          · rintro r rfl
            exact fun a w h => h.elim
      · replace hb65 := cond_f hc66 hb65
        cases hb65
        refine TC.exit rfl fun a w e s => ?_
        exact ⟨v24, v27, v30, v34, e.sub (lk_of_allIn ⟨rfl, rfl, trivial⟩), s⟩
    · exact fun a w e s => ⟨.slice none 0 0, .slice none 0 0, .slice none 0 0, v17, e.sub (lk_of_allIn ⟨rfl, rfl, rfl, rfl, rfl, rfl, rfl, rfl, rfl, rfl, rfl, trivial⟩), s.mono fun _ s => (by replace s := Sat.front 2 rfl s; replace s := Sat.front 2 rfl s; replace s := Sat.front 2 rfl s; replace s := Sat.nilS (e := 36) (sz := 1) (f := cU) s; replace s := Sat.nilS (e := 36) (sz := 1) (f := cU) s; replace s := Sat.nilS (e := 28) (sz := 1) (f := cI) s; exact s)⟩
    · rintro ⟨y54, y57, y60, y61⟩ rfl a w ⟨v52, v55, v58, v62, he, hs⟩
      dsimp only [Ctl.on] at hm
      refine TC.use ?_ he hs
      refine TC.k ?_
      refine TC.region ?_
      refine TO.s rfl rfl rfl (StepS.ldBA rfl (Ent.at 4 rfl) kaggB_27_3_true rfl rfl) ?_
      refine TO.pure (fun _ s => Rd.one (OwnS.rd (Ent.at 0 rfl)) s) fun oc149 => ?_
      refine TO.pure (fun _ s => Rd.one (OwnS.rd (Ent.at 1 rfl)) s) fun oc150 => ?_
      refine TO.pure (fun _ s => Rd.one (OwnS.rd (Ent.at 2 rfl)) s) fun oc151 => ?_
      refine TO.stB (us := [v52, v55, v58]) 5 [v52, v55, v58] rfl rfl rfl ksizeB_27_3_true rfl rfl rfl (by intro u hu; simp only [List.mem_cons, List.not_mem_nil, or_false] at hu; rcases hu with rfl | rfl | rfl <;> first | exact oc149.1 | exact oc150.1 | exact oc151.1 | rfl) rfl ?_
      refine TO.code ?_
      cases hm
      refine TC.ret fun a w e s => ?_
      refine FRet.cell1 (P := Try.prog) (fn := Try.f17) e s rfl rfl (Ent.at 5 rfl) kaggB_27_3_true rfl ?_
      refine ⟨_, _, rfl, ⟨(v52), (v55), (v58), rfl, rfl⟩, ?_⟩
      refine s.mono fun _ s => ?_
      replace s := Sat.front 2 rfl s
      replace s := Sat.front 2 rfl s
      replace s := Sat.front 2 rfl s
      replace s := Sat.erase 3 s
      replace s := Sat.erase 3 s
      replace s := Sat.erase 3 s
      exact s
    · rintro r rfl
      exact fun a w h => h.elim
  · rintro r rfl
    exact fun a w h => h.elim

set_option maxRecDepth 100000 in
theorem C18 {B : World} {L : List HP} {a0 : List Int} {a1 : List Int} {h0 : Value} {h1 : Value} {r0 : Bool} (e0 : Ent L (Rd 1 h0 (a0.map cI))) (e1 : Ent L (Rd 1 h1 (a1.map cI))) (hm : F18 a0 a1 = some r0) {w : World} (st : St B L w) : Calls Try.prog 18 #[h0, h1] w (fun e w' => (e = .returned (.bool r0) ∧ St B (L) w')) := by
  refine calls_of (N := 26) (L := L) (args := [h0, h1]) Try.func18 rfl rfl rfl ?_ st
  dsimp only [F18] at hm
  refine TC.k ?_
  refine TC.region ?_
  refine TO.s rfl rfl rfl (StepS.assign rfl) ?_
  refine TO.code ?_
  refine TC.k ?_
  refine TC.k ?_
  refine TC.region ?_
  refine TO.s rfl rfl rfl (StepS.move rfl) ?_
  refine TO.s rfl rfl rfl (StepS.lenm rfl e0 ksliceB_24_28_1_true rfl) ?_
  refine TO.s rfl rfl rfl (StepS.move rfl) ?_
  refine TO.s rfl rfl rfl (StepS.lenm rfl e1 ksliceB_24_28_1_true rfl) ?_
  refine TO.s rfl rfl rfl (StepS.cmp rfl rfl rfl) ?_
  refine TO.code ?_
  refine TC.cond rfl (fun hc1 => ?_) (fun hc1 => ?_)
  · replace hm := cond_t hc1 hm
    refine TC.k ?_
    refine TC.region ?_
    refine TO.s rfl rfl rfl (StepS.assign rfl) ?_
    refine TO.code ?_
    cases hm
    refine TC.ret fun a w e s => ?_
    refine FRet.mk1 (P := Try.prog) (fn := Try.f18) (t := 4) e rfl rfl ?_
    exact ⟨rfl, s.mono fun _ => Sat.dropN 0⟩
  · replace hm := cond_f hc1 hm
    refine TC.skipk ?_
    refine TC.k ?_
    refine TC.k ?_
    refine TC.region ?_
    refine TO.s rfl rfl rfl (StepS.assign rfl) ?_
    refine TO.code ?_
    obtain ⟨o4, hw5, hm⟩ := bind_some hm
    refine TC.loop hw5 (fun x2 => fun a w => Mid 26 B [(0, h0), (1, h1), (5, I x2)] (L) a w) (fun _ => fun a w => Mid 26 B [] (L) a w) (fun r0 => FRet Try.prog Try.f18 (fun e w' => (e = .returned (.bool r0) ∧ St B (L) w'))) ?_ ?_ ?_ ?_
    · rintro x2 o4r hb6 a w ⟨he, hs⟩
      dsimp only [F18_L0] at hb6
      refine TC.use ?_ he hs
      refine TC.k ?_
      refine TC.k ?_
      refine TC.region ?_
      refine TO.s rfl rfl rfl (StepS.move rfl) ?_
      refine TO.s rfl rfl rfl (StepS.move rfl) ?_
      refine TO.s rfl rfl rfl (StepS.lenm rfl e0 ksliceB_24_28_1_true rfl) ?_
      refine TO.s rfl rfl rfl (StepS.cmp rfl rfl rfl) ?_
      refine TO.code ?_
      refine TC.cond rfl (fun hc7 => ?_) (fun hc7 => ?_)
      · replace hb6 := cond_t hc7 hb6
        refine TC.skipk ?_
        refine TC.k ?_
        refine TC.block ?_
        refine TC.k ?_
        refine TC.region_still kfollows_mixedOrders_true (by kernel_rfl) ?_
        refine TS.s rfl rfl rfl (StepS.move rfl) ?_
        refine TS.s rfl rfl rfl (StepS.move rfl) ?_
        obtain ⟨x8, hx9, hb6⟩ := bind_some hb6
        refine TS.s rfl rfl rfl (StepS.idx rfl rfl e0 ksliceB_24_28_1_true (idx_spec hx9).1 (idxm_lt hx9)) ?_
        refine TS.s rfl rfl rfl (StepS.ld0 rfl e0 kscalB_28_true rfl (idxm hx9) rfl) ?_
        refine TS.s rfl rfl rfl (StepS.move rfl) ?_
        refine TS.s rfl rfl rfl (StepS.move rfl) ?_
        obtain ⟨x10, hx11, hb6⟩ := bind_some hb6
        refine TS.s rfl rfl rfl (StepS.idx rfl rfl e1 ksliceB_24_28_1_true (idx_spec hx11).1 (idxm_lt hx11)) ?_
        refine TS.s rfl rfl rfl (StepS.ld0 rfl e1 kscalB_28_true rfl (idxm hx11) rfl) ?_
        refine TS.s rfl rfl rfl (StepS.cmp rfl rfl rfl) ?_
        refine TS.code ?_
        refine TC.cond rfl (fun hc12 => ?_) (fun hc12 => ?_)
        · replace hb6 := cond_t hc12 hb6
          refine TC.k ?_
          refine TC.region ?_
          refine TO.s rfl rfl rfl (StepS.assign rfl) ?_
          refine TO.code ?_
          cases hb6
          refine TC.ret fun a w e s => ?_
          refine FRet.mk1 (P := Try.prog) (fn := Try.f18) (t := 4) e rfl rfl ?_
          exact ⟨rfl, s.mono fun _ => Sat.dropN 0⟩
        · replace hb6 := cond_f hc12 hb6
          refine TC.skipk ?_
          refine TC.region ?_
          refine TO.s rfl rfl rfl (StepS.move rfl) ?_
          refine TO.s rfl rfl rfl (StepS.ari rfl rfl rfl) ?_
          refine TO.s rfl rfl rfl (StepS.assign rfl) ?_
          cases hb6
          refine TO.nil fun a w e s => ?_
          exact ⟨e.sub (lk_of_allIn ⟨rfl, rfl, rfl, trivial⟩), s⟩
      · replace hb6 := cond_f hc7 hb6
        cases hb6
        refine TC.exit rfl fun a w e s => ?_
        exact ⟨e.sub (lk_of_allIn trivial), s⟩
    · exact fun a w e s => ⟨e.sub (lk_of_allIn ⟨rfl, rfl, rfl, trivial⟩), s⟩
    · rintro _ rfl a w ⟨he, hs⟩
      dsimp only [Ctl.on] at hm
      refine TC.use ?_ he hs
      refine TC.k ?_
      refine TC.region ?_
      refine TO.s rfl rfl rfl (StepS.assign rfl) ?_
      refine TO.code ?_
      cases hm
      refine TC.ret fun a w e s => ?_
      refine FRet.mk1 (P := Try.prog) (fn := Try.f18) (t := 4) e rfl rfl ?_
      exact ⟨rfl, s.mono fun _ => Sat.dropN 0⟩
    · rintro r rfl
      cases hm
      exact fun a w h => h

set_option maxRecDepth 100000 in
theorem C19 {B : World} {L : List HP} {a0 : List (BitVec 32)} {a1 : List (BitVec 32)} {h0 : Value} {h1 : Value} {r0 : Bool} (e0 : Ent L (Rd 1 h0 (a0.map cU))) (e1 : Ent L (Rd 1 h1 (a1.map cU))) (hm : F19 a0 a1 = some r0) {w : World} (st : St B L w) : Calls Try.prog 19 #[h0, h1] w (fun e w' => (e = .returned (.bool r0) ∧ St B (L) w')) := by
  refine calls_of (N := 26) (L := L) (args := [h0, h1]) Try.func19 rfl rfl rfl ?_ st
  dsimp only [F19] at hm
  refine TC.k ?_
  refine TC.region ?_
  refine TO.s rfl rfl rfl (StepS.assign rfl) ?_
  refine TO.code ?_
  refine TC.k ?_
  refine TC.k ?_
  refine TC.region ?_
  refine TO.s rfl rfl rfl (StepS.move rfl) ?_
  refine TO.s rfl rfl rfl (StepS.lenm rfl e0 ksliceB_25_36_1_true rfl) ?_
  refine TO.s rfl rfl rfl (StepS.move rfl) ?_
  refine TO.s rfl rfl rfl (StepS.lenm rfl e1 ksliceB_25_36_1_true rfl) ?_
  refine TO.s rfl rfl rfl (StepS.cmp rfl rfl rfl) ?_
  refine TO.code ?_
  refine TC.cond rfl (fun hc1 => ?_) (fun hc1 => ?_)
  · replace hm := cond_t hc1 hm
    refine TC.k ?_
    refine TC.region ?_
    refine TO.s rfl rfl rfl (StepS.assign rfl) ?_
    refine TO.code ?_
    cases hm
    refine TC.ret fun a w e s => ?_
    refine FRet.mk1 (P := Try.prog) (fn := Try.f19) (t := 4) e rfl rfl ?_
    exact ⟨rfl, s.mono fun _ => Sat.dropN 0⟩
  · replace hm := cond_f hc1 hm
    refine TC.skipk ?_
    refine TC.k ?_
    refine TC.k ?_
    refine TC.region ?_
    refine TO.s rfl rfl rfl (StepS.assign rfl) ?_
    refine TO.code ?_
    obtain ⟨o4, hw5, hm⟩ := bind_some hm
    refine TC.loop hw5 (fun x2 => fun a w => Mid 26 B [(0, h0), (1, h1), (5, I x2)] (L) a w) (fun _ => fun a w => Mid 26 B [] (L) a w) (fun r0 => FRet Try.prog Try.f19 (fun e w' => (e = .returned (.bool r0) ∧ St B (L) w'))) ?_ ?_ ?_ ?_
    · rintro x2 o4r hb6 a w ⟨he, hs⟩
      dsimp only [F19_L0] at hb6
      refine TC.use ?_ he hs
      refine TC.k ?_
      refine TC.k ?_
      refine TC.region ?_
      refine TO.s rfl rfl rfl (StepS.move rfl) ?_
      refine TO.s rfl rfl rfl (StepS.move rfl) ?_
      refine TO.s rfl rfl rfl (StepS.lenm rfl e0 ksliceB_25_36_1_true rfl) ?_
      refine TO.s rfl rfl rfl (StepS.cmp rfl rfl rfl) ?_
      refine TO.code ?_
      refine TC.cond rfl (fun hc7 => ?_) (fun hc7 => ?_)
      · replace hb6 := cond_t hc7 hb6
        refine TC.skipk ?_
        refine TC.k ?_
        refine TC.block ?_
        refine TC.k ?_
        refine TC.region_still kfollows_mixedOrders_true (by kernel_rfl) ?_
        refine TS.s rfl rfl rfl (StepS.move rfl) ?_
        refine TS.s rfl rfl rfl (StepS.move rfl) ?_
        obtain ⟨x8, hx9, hb6⟩ := bind_some hb6
        refine TS.s rfl rfl rfl (StepS.idx rfl rfl e0 ksliceB_25_36_1_true (idx_spec hx9).1 (idxm_lt hx9)) ?_
        refine TS.s rfl rfl rfl (StepS.ld0 rfl e0 kscalB_36_true rfl (idxm hx9) rfl) ?_
        refine TS.s rfl rfl rfl (StepS.move rfl) ?_
        refine TS.s rfl rfl rfl (StepS.move rfl) ?_
        obtain ⟨x10, hx11, hb6⟩ := bind_some hb6
        refine TS.s rfl rfl rfl (StepS.idx rfl rfl e1 ksliceB_25_36_1_true (idx_spec hx11).1 (idxm_lt hx11)) ?_
        refine TS.s rfl rfl rfl (StepS.ld0 rfl e1 kscalB_36_true rfl (idxm hx11) rfl) ?_
        refine TS.s rfl rfl rfl (StepS.cmpU rfl rfl rfl) ?_
        refine TS.code ?_
        refine TC.cond rfl (fun hc12 => ?_) (fun hc12 => ?_)
        · replace hb6 := cond_t hc12 hb6
          refine TC.k ?_
          refine TC.region ?_
          refine TO.s rfl rfl rfl (StepS.assign rfl) ?_
          refine TO.code ?_
          cases hb6
          refine TC.ret fun a w e s => ?_
          refine FRet.mk1 (P := Try.prog) (fn := Try.f19) (t := 4) e rfl rfl ?_
          exact ⟨rfl, s.mono fun _ => Sat.dropN 0⟩
        · replace hb6 := cond_f hc12 hb6
          refine TC.skipk ?_
          refine TC.region ?_
          refine TO.s rfl rfl rfl (StepS.move rfl) ?_
          refine TO.s rfl rfl rfl (StepS.ari rfl rfl rfl) ?_
          refine TO.s rfl rfl rfl (StepS.assign rfl) ?_
          cases hb6
          refine TO.nil fun a w e s => ?_
          exact ⟨e.sub (lk_of_allIn ⟨rfl, rfl, rfl, trivial⟩), s⟩
      · replace hb6 := cond_f hc7 hb6
        cases hb6
        refine TC.exit rfl fun a w e s => ?_
        exact ⟨e.sub (lk_of_allIn trivial), s⟩
    · exact fun a w e s => ⟨e.sub (lk_of_allIn ⟨rfl, rfl, rfl, trivial⟩), s⟩
    · rintro _ rfl a w ⟨he, hs⟩
      dsimp only [Ctl.on] at hm
      refine TC.use ?_ he hs
      refine TC.k ?_
      refine TC.region ?_
      refine TO.s rfl rfl rfl (StepS.assign rfl) ?_
      refine TO.code ?_
      cases hm
      refine TC.ret fun a w e s => ?_
      refine FRet.mk1 (P := Try.prog) (fn := Try.f19) (t := 4) e rfl rfl ?_
      exact ⟨rfl, s.mono fun _ => Sat.dropN 0⟩
    · rintro r rfl
      cases hm
      exact fun a w h => h

set_option maxRecDepth 100000 in
theorem C3 {B : World} {L : List HP} {a0 : List Int} {a1 : Int} {a2 : List (Int × Int × Int × Int)} {h0 : Value} {h2 : Value} {r0 : Bool} (e0 : Ent L (Rd 1 h0 (a0.map cI))) (e2 : Ent L (Rd 4 h2 (a2.map cTiiii))) (hm : F3 a0 a1 a2 = some r0) {w : World} (st : St B L w) : Calls Try.prog 3 #[h0, I a1, h2] w (fun e w' => (e = .returned (.bool r0) ∧ St B (L) w')) := by
  refine calls_of (N := 54) (L := L) (args := [h0, I a1, h2]) Try.func3 rfl rfl rfl ?_ st
  dsimp only [F3] at hm
  refine TC.k ?_
  refine TC.region ?_
  refine TO.s rfl rfl rfl (StepS.assign rfl) ?_
  refine TO.code ?_
  refine TC.k ?_
  refine TC.region ?_
  refine TO.s rfl rfl rfl (StepS.move rfl) ?_
  refine TO.s rfl rfl rfl (StepS.move rfl) ?_
  refine TO.s rfl rfl rfl (StepS.move rfl) ?_
  obtain ⟨⟨r1, r2⟩, hc3, hm⟩ := bind_some hm
  refine TO.callO kcallB_15_true rfl rfl rfl (fun _ st => C15 e0 e2 hc3 st) ?_
  rintro _ _ ⟨v4, v6, v8, rfl, rfl⟩
  refine TO.s rfl rfl rfl (StepS.move rfl) ?_
  refine TO.s rfl rfl rfl (StepS.extract rfl rfl) ?_
  refine TO.s rfl rfl rfl (StepS.extract rfl rfl) ?_
  refine TO.alloc kinfo_27_bind_zero_some_agg_slice_none_0_0_slice_none_0_0_slice_none_0_0 rfl rfl fun b10 => ?_
  refine TO.pure (fun _ s => Rd.one (OwnS.rd (Ent.at 1 rfl)) s) fun oc11 => ?_
  refine TO.pure (fun _ s => Rd.one (OwnS.rd (Ent.at 2 rfl)) s) fun oc12 => ?_
  refine TO.pure (fun _ s => Rd.one (OwnS.rd (Ent.at 3 rfl)) s) fun oc13 => ?_
  refine TO.stB (us := [v4, v6, v8]) 0 [v4, v6, v8] rfl rfl rfl ksizeB_27_3_true rfl rfl rfl (by intro u hu; simp only [List.mem_cons, List.not_mem_nil, or_false] at hu; rcases hu with rfl | rfl | rfl <;> first | exact oc11.1 | exact oc12.1 | exact oc13.1 | rfl) rfl ?_
  refine TO.s rfl rfl rfl (StepS.assign rfl) ?_
  refine TO.code ?_
  refine TC.k ?_
  refine TC.region ?_
  refine TO.s rfl rfl rfl (StepS.move rfl) ?_
  refine TO.s rfl rfl rfl (StepS.move rfl) ?_
  refine TO.s rfl rfl rfl (StepS.move rfl) ?_
  refine TO.s rfl rfl rfl (StepS.lenm rfl e2.tl.tl.tl.tl ksliceB_23_106_4_true rfl) ?_
  obtain ⟨r14, hc15, hm⟩ := bind_some hm
  refine TO.q rfl rfl rfl (StepQ.call kcallB_16_true rfl rfl (fun _ st => C16 e0.tl.tl.tl.tl hc15 st)) ?_
  refine TO.s rfl rfl rfl (StepS.assign rfl) ?_
  refine TO.code ?_
  refine TC.k ?_
  refine TC.region ?_
  refine TO.s rfl rfl rfl (StepS.build (cs := [.slice none 0 0, .slice none 0 0, .slice none 0 0]) rfl (by kernel_rfl)) ?_
  refine TO.alloc kinfo_27_bind_zero_some_agg_slice_none_0_0_slice_none_0_0_slice_none_0_0 rfl rfl fun b16 => ?_
  refine TO.stB (us := [.slice none 0 0, .slice none 0 0, .slice none 0 0]) 0 [.slice none 0 0, .slice none 0 0, .slice none 0 0] rfl rfl rfl ksizeB_27_3_true rfl rfl rfl (by simp [Value.oneCell']) rfl ?_
  refine TO.code ?_
  refine TC.k ?_
  refine TC.k ?_
  refine TC.region ?_
  refine TO.s rfl rfl rfl (StepS.move rfl) ?_
  refine TO.s rfl rfl rfl (StepS.cmp rfl rfl rfl) ?_
  refine TO.code ?_
  obtain ⟨⟨y19, y22, y25⟩, hj26, hm⟩ := bind_some hm
  refine TC.cutM (fun a w => ∃ v17 : Value, ∃ v20 : Value, ∃ v23 : Value, Mid 54 B [(7, .pointer (some ⟨b10, 0, none⟩)), (8, I r2), (9, I r14), (10, .pointer (some ⟨b16, 0, none⟩))] (OwnS 28 1 v17 (y19.map cI) :: OwnS 36 1 v20 (y22.map cU) :: OwnS 36 1 v23 (y25.map cU) :: Bx b16 27 [v17, v20, v23] :: Bx b10 27 [v4, v6, v8] :: OwnS 28 1 v4 (r1.1.map cI) :: OwnS 36 1 v6 (r1.2.1.map cU) :: OwnS 36 1 v8 (r1.2.2.map cU) :: L) a w) ?_ ?_
  · refine TC.cond rfl (fun hc27 => ?_) (fun hc27 => ?_)
    · replace hj26 := cond_t hc27 hj26
      refine TC.region ?_
      refine TO.s rfl rfl rfl (StepS.move rfl) ?_
      refine TO.s rfl rfl rfl (StepS.move rfl) ?_
      refine TO.s rfl rfl rfl (StepS.move rfl) ?_
      obtain ⟨r28, hc29, hj26⟩ := bind_some hj26
      refine TO.callO kcallB_17_true rfl rfl rfl (fun _ st => C17 e0.tl.tl.tl.tl.tl e2.tl.tl.tl.tl.tl hc29 st) ?_
      rintro _ _ ⟨v30, v32, v34, rfl, rfl⟩
      refine TO.pure (fun _ s => Rd.one (OwnS.rd (Ent.at 0 rfl)) s) fun oc36 => ?_
      refine TO.pure (fun _ s => Rd.one (OwnS.rd (Ent.at 1 rfl)) s) fun oc37 => ?_
      refine TO.pure (fun _ s => Rd.one (OwnS.rd (Ent.at 2 rfl)) s) fun oc38 => ?_
      refine TO.stB (us := [v30, v32, v34]) 3 [v30, v32, v34] rfl rfl rfl ksizeB_27_3_true rfl rfl rfl (by intro u hu; simp only [List.mem_cons, List.not_mem_nil, or_false] at hu; rcases hu with rfl | rfl | rfl <;> first | exact oc36.1 | exact oc37.1 | exact oc38.1 | rfl) rfl ?_
      cases hj26
      refine TO.nil fun a w e s => ?_
      exact ⟨v30, v32, v34, e.sub (lk_of_allIn ⟨rfl, rfl, rfl, rfl, trivial⟩), s⟩
    · replace hj26 := cond_f hc27 hj26
      cases hj26
      refine TC.skip fun a w e s => ?_
      exact ⟨.slice none 0 0, .slice none 0 0, .slice none 0 0, e.sub (lk_of_allIn ⟨rfl, rfl, rfl, rfl, trivial⟩), s.mono fun _ s => (by replace s := Sat.front 4 rfl s; replace s := Sat.front 4 rfl s; replace s := Sat.front 4 rfl s; replace s := Sat.front 4 rfl s; replace s := Sat.front 4 rfl s; replace s := Sat.nilS (e := 36) (sz := 1) (f := cU) s; replace s := Sat.nilS (e := 36) (sz := 1) (f := cU) s; replace s := Sat.nilS (e := 28) (sz := 1) (f := cI) s; exact s)⟩
  · intro a w ⟨v17, v20, v23, he, hs⟩
    refine TC.use ?_ he hs
    refine TC.k ?_
    refine TC.region ?_
    refine TO.s rfl rfl rfl (StepS.move rfl) ?_
    refine TO.s rfl rfl rfl (StepS.move rfl) ?_
    refine TO.s rfl rfl rfl (StepS.cmp rfl rfl rfl) ?_
    refine TO.s rfl rfl rfl (StepS.move rfl) ?_
    obtain ⟨b40, hj41, hm⟩ := bind_some hm
    refine TO.mid1 6 39 (.bool b40) ?_ ?_
    · refine bcase ((r2 == r14)) (fun hb39 => ?_) (fun hb39 => ?_)
      · replace hj41 := cond_t hb39 hj41
        refine TO.sw rfl rfl rfl hb39 rfl rfl (StepS.fld rfl kfieldB_27_0_0_true) ?_
        refine TO.sw rfl rfl rfl hb39 rfl rfl (StepS.ldB rfl (Ent.at 4 rfl) kscalB_24_true rfl) ?_
        refine TO.sw rfl rfl rfl hb39 rfl rfl (StepS.fld rfl kfieldB_27_0_0_true) ?_
        refine TO.sw rfl rfl rfl hb39 rfl rfl (StepS.ldB rfl (Ent.at 3 rfl) kscalB_24_true rfl) ?_
        obtain ⟨r42, hc43, hj41⟩ := bind_some hj41
        refine TO.qw rfl rfl rfl hb39 rfl rfl (StepQ.call kcallB_18_true rfl rfl (fun _ st => C18 (OwnS.rd (Ent.at 5 rfl)) (OwnS.rd (Ent.at 0 rfl)) hc43 st)) ?_
        cases hj41
        refine TO.s rfl rfl rfl (StepS.pickT rfl hb39 rfl) ?_
        exact TO.up1 6 0 rfl rfl rfl rfl
      · replace hj41 := cond_f hb39 hj41
        cases hj41
        refine TO.skip rfl rfl rfl (skipF hb39) rfl rfl ?_
        refine TO.skip rfl rfl rfl (skipF hb39) rfl rfl ?_
        refine TO.skip rfl rfl rfl (skipF hb39) rfl rfl ?_
        refine TO.skip rfl rfl rfl (skipF hb39) rfl rfl ?_
        refine TO.skip rfl rfl rfl (skipF hb39) rfl rfl ?_
        refine TO.s rfl rfl rfl (StepS.pickF rfl hb39 rfl) ?_
        exact TO.up1 6 0 rfl rfl rfl rfl
    refine TO.s rfl rfl rfl (StepS.move rfl) ?_
    obtain ⟨b45, hj46, hm⟩ := bind_some hm
    refine TO.mid1 6 46 (.bool b45) ?_ ?_
    · refine bcase (b40) (fun hb44 => ?_) (fun hb44 => ?_)
      · replace hj46 := cond_t hb44 hj46
        refine TO.sw rfl rfl rfl hb44 rfl rfl (StepS.fld rfl kfieldB_27_1_1_true) ?_
        refine TO.sw rfl rfl rfl hb44 rfl rfl (StepS.ldB rfl (Ent.at 4 rfl) kscalB_25_true rfl) ?_
        refine TO.sw rfl rfl rfl hb44 rfl rfl (StepS.fld rfl kfieldB_27_1_1_true) ?_
        refine TO.sw rfl rfl rfl hb44 rfl rfl (StepS.ldB rfl (Ent.at 3 rfl) kscalB_25_true rfl) ?_
        obtain ⟨r47, hc48, hj46⟩ := bind_some hj46
        refine TO.qw rfl rfl rfl hb44 rfl rfl (StepQ.call kcallB_19_true rfl rfl (fun _ st => C19 (OwnS.rd (Ent.at 6 rfl)) (OwnS.rd (Ent.at 1 rfl)) hc48 st)) ?_
        cases hj46
        refine TO.s rfl rfl rfl (StepS.pickT rfl hb44 rfl) ?_
        exact TO.up1 6 0 rfl rfl rfl rfl
      · replace hj46 := cond_f hb44 hj46
        cases hj46
        refine TO.skip rfl rfl rfl (skipF hb44) rfl rfl ?_
        refine TO.skip rfl rfl rfl (skipF hb44) rfl rfl ?_
        refine TO.skip rfl rfl rfl (skipF hb44) rfl rfl ?_
        refine TO.skip rfl rfl rfl (skipF hb44) rfl rfl ?_
        refine TO.skip rfl rfl rfl (skipF hb44) rfl rfl ?_
        refine TO.s rfl rfl rfl (StepS.pickF rfl hb44 rfl) ?_
        exact TO.up1 6 0 rfl rfl rfl rfl
    refine TO.s rfl rfl rfl (StepS.move rfl) ?_
    obtain ⟨b50, hj51, hm⟩ := bind_some hm
    refine TO.mid1 6 53 (.bool b50) ?_ ?_
    · refine bcase (b45) (fun hb49 => ?_) (fun hb49 => ?_)
      · replace hj51 := cond_t hb49 hj51
        refine TO.sw rfl rfl rfl hb49 rfl rfl (StepS.fld rfl kfieldB_27_2_2_true) ?_
        refine TO.sw rfl rfl rfl hb49 rfl rfl (StepS.ldB rfl (Ent.at 4 rfl) kscalB_25_true rfl) ?_
        refine TO.sw rfl rfl rfl hb49 rfl rfl (StepS.fld rfl kfieldB_27_2_2_true) ?_
        refine TO.sw rfl rfl rfl hb49 rfl rfl (StepS.ldB rfl (Ent.at 3 rfl) kscalB_25_true rfl) ?_
        obtain ⟨r52, hc53, hj51⟩ := bind_some hj51
        refine TO.qw rfl rfl rfl hb49 rfl rfl (StepQ.call kcallB_19_true rfl rfl (fun _ st => C19 (OwnS.rd (Ent.at 7 rfl)) (OwnS.rd (Ent.at 2 rfl)) hc53 st)) ?_
        cases hj51
        refine TO.s rfl rfl rfl (StepS.pickT rfl hb49 rfl) ?_
        exact TO.up1 6 0 rfl rfl rfl rfl
      · replace hj51 := cond_f hb49 hj51
        cases hj51
        refine TO.skip rfl rfl rfl (skipF hb49) rfl rfl ?_
        refine TO.skip rfl rfl rfl (skipF hb49) rfl rfl ?_
        refine TO.skip rfl rfl rfl (skipF hb49) rfl rfl ?_
        refine TO.skip rfl rfl rfl (skipF hb49) rfl rfl ?_
        refine TO.skip rfl rfl rfl (skipF hb49) rfl rfl ?_
        refine TO.s rfl rfl rfl (StepS.pickF rfl hb49 rfl) ?_
        exact TO.up1 6 0 rfl rfl rfl rfl
    refine TO.s rfl rfl rfl (StepS.assign rfl) ?_
    refine TO.code ?_
    cases hm
    refine TC.ret fun a w e s => ?_
    refine FRet.mk1 (P := Try.prog) (fn := Try.f3) (t := 6) e rfl rfl ?_
    exact ⟨rfl, s.mono fun _ => Sat.dropN 8⟩
end Go.Proofs.Ythfkdepcnhhepaa
