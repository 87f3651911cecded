/-
  The walks: each Go function returns what its model says. Written by a program (gen.py).
-/
import Derived.Test.YtdjmlbjkendobaaProg
import Derived.KernelRfl
import Derived.Test.YtdjmlbjkendobaaAM
namespace Go.Proofs.Ytdjmlbjkendobaa
open Go Go.Bk
set_option linter.unusedVariables false
theorem ksliceB_30_81_2_true : sliceB Try.prog 30 81 2 = true := by kernel_rfl
theorem kfollows_mixedOrders_true : Try.prog.follows .mixedOrders = true := by kernel_rfl
theorem kaggB_81_2_true : aggB Try.prog 81 2 = true := by kernel_rfl
theorem kunderlying_81_some_array_2_3 : Try.prog.underlying 81 = some (.array 2 3) := by kernel_rfl
theorem kunderlying_3_some_int_i64 : Try.prog.underlying 3 = some (.int .i64) := by kernel_rfl
theorem ksizeB_3_1_true : sizeB Try.prog 3 1 = true := by kernel_rfl
theorem kscalB_3_true : scalB Try.prog 3 = true := by kernel_rfl
theorem keqGuardType_depth_81_false : Try.prog.eqGuardType Try.prog.depth 81 = false := by kernel_rfl
theorem kcallB_89_true : callB Try.prog 89 = true := by kernel_rfl
theorem kinfo_81_bind_zero_some_agg_I_0_I_0 : (Try.prog.info? 81).bind (·.zero) = some (.agg #[I 0, I 0]) := by kernel_rfl
theorem ksizeB_81_2_true : sizeB Try.prog 81 2 = true := by kernel_rfl
theorem karrB_81_2_3_1_true : arrB Try.prog 81 2 3 1 = true := by kernel_rfl
theorem kcallB_77_true : callB Try.prog 77 = true := by kernel_rfl
theorem kcallB_49_true : callB Try.prog 49 = true := by kernel_rfl
theorem kcallB_50_true : callB Try.prog 50 = true := by kernel_rfl
theorem kcallB_42_true : callB Try.prog 42 = true := by kernel_rfl
theorem kcallB_43_true : callB Try.prog 43 = true := by kernel_rfl
theorem kintB_3_i64_true : intB Try.prog 3 .i64 = true := by kernel_rfl
theorem kintB_42_u64_true : intB Try.prog 42 .u64 = true := by kernel_rfl
theorem kcallB_19_true : callB Try.prog 19 = true := by kernel_rfl
theorem kcallB_20_true : callB Try.prog 20 = true := by kernel_rfl
theorem kcallB_21_true : callB Try.prog 21 = true := by kernel_rfl

set_option maxRecDepth 100000 in
theorem C89 {B : World} {L : List HP} {a0 : List (Int × Int)} {a1 : Int × Int} {h0 : Value} {r0 : Int} (e0 : Ent L (Rd 2 h0 (a0.map cTii))) (hm : F89 a0 a1 = some r0) {w : World} (st : St B L w) : Calls Try.prog 89 #[h0, .agg (cTii a1).toArray] w (fun e w' => (e = .returned (I r0) ∧ St B (L) w')) := by
  refine calls_of (N := 19) (L := L) (args := [h0, .agg (cTii a1).toArray]) Try.func89 rfl rfl rfl ?_ st
  dsimp only [F89] at hm
  refine TC.k ?_
  refine TC.region ?_
  refine TO.box (cs := [I a1.1, I a1.2]) rfl rfl rfl fun b1 => ?_
  refine TO.s rfl rfl rfl (StepS.assign rfl) ?_
  refine TO.code ?_
  refine TC.k ?_
  refine TC.k ?_
  refine TC.region ?_
  refine TO.s rfl rfl rfl (StepS.move rfl) ?_
  refine TO.s rfl rfl rfl (StepS.lenm rfl e0.tl ksliceB_30_81_2_true rfl) ?_
  refine TO.s rfl rfl rfl (StepS.move rfl) ?_
  refine TO.code ?_
  obtain ⟨o4, hw5, hm⟩ := bind_some hm
  refine TC.loop hw5 (fun x2 => fun a w => Mid 19 B [(0, h0), (3, .pointer (some ⟨b1, 0, none⟩)), (7, I (a0.length : Int)), (8, I x2)] (Bx b1 81 [I a1.1, I a1.2] :: L) a w) (fun _ => fun a w => Mid 19 B [] (Bx b1 81 [I a1.1, I a1.2] :: L) a w) (fun r0 => FRet Try.prog Try.f89 (fun e w' => (e = .returned (I r0) ∧ St B (L) w'))) ?_ ?_ ?_ ?_
  · rintro x2 o4r hb6 a w ⟨he, hs⟩
    dsimp only [F89_L0] at hb6
    refine TC.use ?_ he hs
    refine TC.k ?_
    refine TC.region ?_
    refine TO.s rfl rfl rfl (StepS.cmp rfl rfl rfl) ?_
    refine TO.code ?_
    refine TC.k ?_
    refine TC.cond rfl (fun hc7 => ?_) (fun hc7 => ?_)
    · replace hb6 := cond_t hc7 hb6
      refine TC.skipk ?_
      refine TC.k ?_
      refine TC.block ?_
      refine TC.k ?_
      refine TC.region ?_
      refine TO.s rfl rfl rfl (StepS.move rfl) ?_
      refine TO.s rfl rfl rfl (StepS.assign rfl) ?_
      refine TO.code ?_
      refine TC.k ?_
      refine TC.region_still kfollows_mixedOrders_true (by kernel_rfl) ?_
      refine TS.s rfl rfl rfl (StepS.ldBA rfl (Ent.at 0 rfl) kaggB_81_2_true rfl rfl) ?_
      refine TS.s rfl rfl rfl (StepS.move rfl) ?_
      refine TS.s rfl rfl rfl (StepS.move rfl) ?_
      obtain ⟨x8, hx9, hb6⟩ := bind_some hb6
      refine TS.s rfl rfl rfl (StepS.idx rfl rfl e0.tl ksliceB_30_81_2_true (idx_spec hx9).1 (idxm_lt hx9)) ?_
      refine TS.s rfl rfl rfl (StepS.ldE rfl e0.tl kaggB_81_2_true rfl (idxm hx9)) ?_
      refine TS.s rfl rfl rfl (StepS.eq2 kunderlying_81_some_array_2_3 kunderlying_3_some_int_i64 ksizeB_3_1_true kscalB_3_true keqGuardType_depth_81_false rfl rfl) ?_
      refine TS.code ?_
      refine TC.cond rfl (fun hc10 => ?_) (fun hc10 => ?_)
      · replace hb6 := cond_t hc10 hb6
        refine TC.k ?_
        refine TC.region ?_
        refine TO.s rfl rfl rfl (StepS.move rfl) ?_
        refine TO.s rfl rfl rfl (StepS.assign rfl) ?_
        refine TO.code ?_
        cases hb6
        refine TC.ret fun a w e s => ?_
        refine FRet.mk1 (P := Try.prog) (fn := Try.f89) (t := 4) e rfl rfl ?_
        exact ⟨rfl, s.mono fun _ => Sat.dropN 1⟩
      · replace hb6 := cond_f hc10 hb6
        refine TC.skipk ?_
        refine TC.region ?_
        refine TO.s rfl rfl rfl (StepS.ari rfl rfl rfl) ?_
        refine TO.s rfl rfl rfl (StepS.move rfl) ?_
        cases hb6
        refine TO.nil fun a w e s => ?_
        exact ⟨e.sub (lk_of_allIn ⟨rfl, rfl, rfl, rfl, trivial⟩), s⟩
    · replace hb6 := cond_f hc7 hb6
      cases hb6
      refine TC.exit rfl fun a w e s => ?_
      exact ⟨e.sub (lk_of_allIn trivial), s⟩
  · exact fun a w e s => ⟨e.sub (lk_of_allIn ⟨rfl, rfl, rfl, rfl, trivial⟩), s⟩
  · rintro _ rfl a w ⟨he, hs⟩
    dsimp only [Ctl.on] at hm
    refine TC.use ?_ he hs
    refine TC.k ?_
    refine TC.region ?_
    refine TO.s rfl rfl rfl (StepS.assign rfl) ?_
    refine TO.code ?_
    cases hm
    refine TC.ret fun a w e s => ?_
    refine FRet.mk1 (P := Try.prog) (fn := Try.f89) (t := 4) e rfl rfl ?_
    exact ⟨rfl, s.mono fun _ => Sat.dropN 1⟩
  · rintro r rfl
    cases hm
    exact fun a w h => h

set_option maxRecDepth 100000 in
theorem C77 {B : World} {L : List HP} {a0 : List (Int × Int)} {a1 : Int × Int} {h0 : Value} {r0 : Bool} (e0 : Ent L (Rd 2 h0 (a0.map cTii))) (hm : F77 a0 a1 = some r0) {w : World} (st : St B L w) : Calls Try.prog 77 #[h0, .agg (cTii a1).toArray] w (fun e w' => (e = .returned (.bool r0) ∧ St B (L) w')) := by
  refine calls_of (N := 9) (L := L) (args := [h0, .agg (cTii a1).toArray]) Try.func77 rfl rfl rfl ?_ st
  dsimp only [F77] at hm
  refine TC.k ?_
  refine TC.region ?_
  refine TO.box (cs := [I a1.1, I a1.2]) rfl rfl rfl fun b1 => ?_
  refine TO.s rfl rfl rfl (StepS.assign rfl) ?_
  refine TO.code ?_
  refine TC.k ?_
  refine TC.region ?_
  refine TO.s rfl rfl rfl (StepS.move rfl) ?_
  refine TO.s rfl rfl rfl (StepS.ldBA rfl (Ent.at 0 rfl) kaggB_81_2_true rfl rfl) ?_
  obtain ⟨r2, hc3, hm⟩ := bind_some hm
  refine TO.q rfl rfl rfl (StepQ.call kcallB_89_true rfl rfl (fun _ st => C89 e0.tl hc3 st)) ?_
  refine TO.s rfl rfl rfl (StepS.cmp rfl rfl rfl) ?_
  refine TO.s rfl rfl rfl (StepS.assign rfl) ?_
  refine TO.code ?_
  cases hm
  refine TC.ret fun a w e s => ?_
  refine FRet.mk1 (P := Try.prog) (fn := Try.f77) (t := 4) e rfl rfl ?_
  exact ⟨rfl, s.mono fun _ => Sat.dropN 1⟩

set_option maxRecDepth 100000 in
theorem C49 {B : World} {L : List HP} {a0 : Int} {a1 : List (Int × Int)} {h1 : Value} {r0 : Int} (e1 : Ent L (Rd 2 h1 (a1.map cTii))) (hm : F49 a0 a1 = some r0) {w : World} (st : St B L w) : Calls Try.prog 49 #[I a0, h1] w (fun e w' => (e = .returned (I r0) ∧ St B (L) w')) := by
  refine calls_of (N := 73) (L := L) (args := [I a0, h1]) Try.func49 rfl rfl rfl ?_ st
  dsimp only [F49] at hm
  refine TC.k ?_
  refine TC.region ?_
  refine TO.s rfl rfl rfl (StepS.assign rfl) ?_
  refine TO.code ?_
  refine TC.k ?_
  refine TC.k ?_
  refine TC.region ?_
  refine TO.s rfl rfl rfl (StepS.move rfl) ?_
  refine TO.s rfl rfl rfl (StepS.cmp rfl rfl rfl) ?_
  refine TO.s rfl rfl rfl (StepS.move rfl) ?_
  refine TO.mid1 3 14 (.bool ((decide (a0 < 1)) || (decide (a0 > 6)))) ?_ ?_
  · refine bcase ((decide (a0 < 1))) (fun hb1 => ?_) (fun hb1 => ?_)
    · refine TO.skip rfl rfl rfl (skipT hb1) rfl rfl ?_
      refine TO.skip rfl rfl rfl (skipT hb1) rfl rfl ?_
      refine TO.s rfl rfl rfl (StepS.pickT rfl hb1 rfl) ?_
      exact TO.up1 3 0 rfl rfl (by rw [hb1]; rfl) rfl
    · refine TO.sw rfl rfl rfl hb1 rfl rfl (StepS.move rfl) ?_
      refine TO.sw rfl rfl rfl hb1 rfl rfl (StepS.cmp rfl rfl rfl) ?_
      refine TO.s rfl rfl rfl (StepS.pickF rfl hb1 rfl) ?_
      exact TO.up1 3 0 rfl rfl (by rw [hb1]; rfl) rfl
  refine TO.s rfl rfl rfl (StepS.move rfl) ?_
  refine TO.mid1 4 19 (.bool (((decide (a0 < 1)) || (decide (a0 > 6))) || (decide ((a1.length : Int) > 15)))) ?_ ?_
  · refine bcase (((decide (a0 < 1)) || (decide (a0 > 6)))) (fun hb2 => ?_) (fun hb2 => ?_)
    · refine TO.skip rfl rfl rfl (skipT hb2) rfl rfl ?_
      refine TO.skip rfl rfl rfl (skipT hb2) rfl rfl ?_
      refine TO.skip rfl rfl rfl (skipT hb2) rfl rfl ?_
      refine TO.s rfl rfl rfl (StepS.pickT rfl hb2 rfl) ?_
      exact TO.up1 4 0 rfl rfl (by rw [hb2]; rfl) rfl
    · refine TO.sw rfl rfl rfl hb2 rfl rfl (StepS.move rfl) ?_
      refine TO.sw rfl rfl rfl hb2 rfl rfl (StepS.lenm rfl e1 ksliceB_30_81_2_true rfl) ?_
      refine TO.sw rfl rfl rfl hb2 rfl rfl (StepS.cmp rfl rfl rfl) ?_
      refine TO.s rfl rfl rfl (StepS.pickF rfl hb2 rfl) ?_
      exact TO.up1 4 0 rfl rfl (by rw [hb2]; rfl) rfl
  refine TO.code ?_
  refine TC.cond rfl (fun hc3 => ?_) (fun hc3 => ?_)
  · replace hm := cond_t hc3 hm
    refine TC.k ?_
    refine TC.region ?_
    refine TO.s rfl rfl rfl (StepS.assign rfl) ?_
    refine TO.code ?_
    cases hm
    refine TC.ret fun a w e s => ?_
    refine FRet.mk1 (P := Try.prog) (fn := Try.f49) (t := 4) e rfl rfl ?_
    exact ⟨rfl, s.mono fun _ => Sat.dropN 0⟩
  · replace hm := cond_f hc3 hm
    refine TC.skipk ?_
    refine TC.k ?_
    refine TC.k ?_
    refine TC.region ?_
    refine TO.s rfl rfl rfl (StepS.move rfl) ?_
    refine TO.s rfl rfl rfl (StepS.lenm rfl e1 ksliceB_30_81_2_true rfl) ?_
    refine TO.s rfl rfl rfl (StepS.move rfl) ?_
    refine TO.code ?_
    obtain ⟨o6, hw7, hm⟩ := bind_some hm
    refine TC.loop hw7 (fun x4 => fun a w => Mid 73 B [(0, I a0), (1, h1), (20, h1), (21, I (a1.length : Int)), (22, I x4)] (L) a w) (fun _ => fun a w => Mid 73 B [(1, h1)] (L) a w) (fun r0 => FRet Try.prog Try.f49 (fun e w' => (e = .returned (I r0) ∧ St B (L) w'))) ?_ ?_ ?_ ?_
    · rintro x4 o6r hb8 a w ⟨he, hs⟩
      dsimp only [F49_L0] at hb8
      refine TC.use ?_ he hs
      refine TC.k ?_
      refine TC.region ?_
      refine TO.s rfl rfl rfl (StepS.cmp rfl rfl rfl) ?_
      refine TO.code ?_
      refine TC.k ?_
      refine TC.cond rfl (fun hc9 => ?_) (fun hc9 => ?_)
      · replace hb8 := cond_t hc9 hb8
        refine TC.skipk ?_
        refine TC.k ?_
        refine TC.block ?_
        refine TC.k ?_
        refine TC.region ?_
        obtain ⟨x10, hx11, hb8⟩ := bind_some hb8
        refine TO.s rfl rfl rfl (StepS.idx rfl rfl e1 ksliceB_30_81_2_true (idx_spec hx11).1 (idxm_lt hx11)) ?_
        refine TO.s rfl rfl rfl (StepS.ldE rfl e1 kaggB_81_2_true rfl (idxm hx11)) ?_
        refine TO.alloc kinfo_81_bind_zero_some_agg_I_0_I_0 rfl rfl fun b12 => ?_
        refine TO.stB (us := [I x10.1, I x10.2]) 0 [I x10.1, I x10.2] rfl rfl rfl ksizeB_81_2_true rfl rfl rfl (by simp [Value.oneCell']) rfl ?_
        refine TO.code ?_
        refine TC.k ?_
        refine TC.region ?_
        refine TO.s rfl rfl rfl (StepS.aidx (j := 0) rfl rfl karrB_81_2_3_1_true ⟨by decide, by decide⟩ rfl) ?_
        refine TO.s rfl rfl rfl (StepS.ldB rfl (Ent.at 0 rfl) kscalB_3_true rfl) ?_
        refine TO.s rfl rfl rfl (StepS.aidx (j := 1) rfl rfl karrB_81_2_3_1_true ⟨by decide, by decide⟩ rfl) ?_
        refine TO.s rfl rfl rfl (StepS.ldB rfl (Ent.at 0 rfl) kscalB_3_true rfl) ?_
        refine TO.s rfl rfl rfl (StepS.min2 rfl rfl) ?_
        refine TO.s rfl rfl rfl (StepS.cmp rfl rfl rfl) ?_
        refine TO.s rfl rfl rfl (StepS.move rfl) ?_
        refine TO.mid1 8 40 (.bool ((decide ((mn x10.1 x10.2) < 0)) || (decide ((mx x10.1 x10.2) ≥ a0)))) ?_ ?_
        · refine bcase ((decide ((mn x10.1 x10.2) < 0))) (fun hb13 => ?_) (fun hb13 => ?_)
          · refine TO.skip rfl rfl rfl (skipT hb13) rfl rfl ?_
            refine TO.skip rfl rfl rfl (skipT hb13) rfl rfl ?_
            refine TO.skip rfl rfl rfl (skipT hb13) rfl rfl ?_
            refine TO.skip rfl rfl rfl (skipT hb13) rfl rfl ?_
            refine TO.skip rfl rfl rfl (skipT hb13) rfl rfl ?_
            refine TO.skip rfl rfl rfl (skipT hb13) rfl rfl ?_
            refine TO.skip rfl rfl rfl (skipT hb13) rfl rfl ?_
            refine TO.s rfl rfl rfl (StepS.pickT rfl hb13 rfl) ?_
            exact TO.up1 8 0 rfl rfl (by rw [hb13]; rfl) rfl
          · refine TO.sw rfl rfl rfl hb13 rfl rfl (StepS.aidx (j := 0) rfl rfl karrB_81_2_3_1_true ⟨by decide, by decide⟩ rfl) ?_
            refine TO.sw rfl rfl rfl hb13 rfl rfl (StepS.ldB rfl (Ent.at 0 rfl) kscalB_3_true rfl) ?_
            refine TO.sw rfl rfl rfl hb13 rfl rfl (StepS.aidx (j := 1) rfl rfl karrB_81_2_3_1_true ⟨by decide, by decide⟩ rfl) ?_
            refine TO.sw rfl rfl rfl hb13 rfl rfl (StepS.ldB rfl (Ent.at 0 rfl) kscalB_3_true rfl) ?_
            refine TO.sw rfl rfl rfl hb13 rfl rfl (StepS.max2 rfl rfl) ?_
            refine TO.sw rfl rfl rfl hb13 rfl rfl (StepS.move rfl) ?_
            refine TO.sw rfl rfl rfl hb13 rfl rfl (StepS.cmp rfl rfl rfl) ?_
            refine TO.s rfl rfl rfl (StepS.pickF rfl hb13 rfl) ?_
            exact TO.up1 8 0 rfl rfl (by rw [hb13]; rfl) rfl
        refine TO.s rfl rfl rfl (StepS.move rfl) ?_
        refine TO.mid1 6 47 (.bool (((decide ((mn x10.1 x10.2) < 0)) || (decide ((mx x10.1 x10.2) ≥ a0))) || (x10.1 == x10.2))) ?_ ?_
        · refine bcase (((decide ((mn x10.1 x10.2) < 0)) || (decide ((mx x10.1 x10.2) ≥ a0)))) (fun hb14 => ?_) (fun hb14 => ?_)
          · refine TO.skip rfl rfl rfl (skipT hb14) rfl rfl ?_
            refine TO.skip rfl rfl rfl (skipT hb14) rfl rfl ?_
            refine TO.skip rfl rfl rfl (skipT hb14) rfl rfl ?_
            refine TO.skip rfl rfl rfl (skipT hb14) rfl rfl ?_
            refine TO.skip rfl rfl rfl (skipT hb14) rfl rfl ?_
            refine TO.s rfl rfl rfl (StepS.pickT rfl hb14 rfl) ?_
            exact TO.up1 6 0 rfl rfl (by rw [hb14]; rfl) rfl
          · refine TO.sw rfl rfl rfl hb14 rfl rfl (StepS.aidx (j := 0) rfl rfl karrB_81_2_3_1_true ⟨by decide, by decide⟩ rfl) ?_
            refine TO.sw rfl rfl rfl hb14 rfl rfl (StepS.ldB rfl (Ent.at 0 rfl) kscalB_3_true rfl) ?_
            refine TO.sw rfl rfl rfl hb14 rfl rfl (StepS.aidx (j := 1) rfl rfl karrB_81_2_3_1_true ⟨by decide, by decide⟩ rfl) ?_
            refine TO.sw rfl rfl rfl hb14 rfl rfl (StepS.ldB rfl (Ent.at 0 rfl) kscalB_3_true rfl) ?_
            refine TO.sw rfl rfl rfl hb14 rfl rfl (StepS.cmp rfl rfl rfl) ?_
            refine TO.s rfl rfl rfl (StepS.pickF rfl hb14 rfl) ?_
            exact TO.up1 6 0 rfl rfl (by rw [hb14]; rfl) rfl
        refine TO.code ?_
        refine TC.cond rfl (fun hc15 => ?_) (fun hc15 => ?_)
        · replace hb8 := cond_t hc15 hb8
          refine TC.k ?_
          refine TC.region ?_
          refine TO.s rfl rfl rfl (StepS.assign rfl) ?_
          refine TO.code ?_
          cases hb8
          refine TC.ret fun a w e s => ?_
          refine FRet.mk1 (P := Try.prog) (fn := Try.f49) (t := 4) e rfl rfl ?_
          exact ⟨rfl, s.mono fun _ => Sat.dropN 1⟩
        · replace hb8 := cond_f hc15 hb8
          refine TC.skipk ?_
          refine TC.region ?_
          refine TO.s rfl rfl rfl (StepS.ari rfl rfl rfl) ?_
          refine TO.s rfl rfl rfl (StepS.move rfl) ?_
          cases hb8
          refine TO.nil fun a w e s => ?_
          exact ⟨e.sub (lk_of_allIn ⟨rfl, rfl, rfl, rfl, rfl, trivial⟩), s.mono fun _ => Sat.dropN 1⟩
      · replace hb8 := cond_f hc9 hb8
        cases hb8
        refine TC.exit rfl fun a w e s => ?_
        exact ⟨e.sub (lk_of_allIn ⟨rfl, trivial⟩), s⟩
    · exact fun a w e s => ⟨e.sub (lk_of_allIn ⟨rfl, rfl, rfl, rfl, rfl, trivial⟩), s⟩
    · rintro _ rfl a w ⟨he, hs⟩
      dsimp only [Ctl.on] at hm
      refine TC.use ?_ he hs
      refine TC.k ?_
      refine TC.k ?_
      refine TC.region ?_
      refine TO.s rfl rfl rfl (StepS.move rfl) ?_
      refine TO.s rfl rfl rfl (StepS.lenm rfl e1 ksliceB_30_81_2_true rfl) ?_
      refine TO.s rfl rfl rfl (StepS.move rfl) ?_
      refine TO.code ?_
      obtain ⟨o18, hw19, hm⟩ := bind_some hm
      refine TC.loop hw19 (fun x16 => fun a w => Mid 73 B [(1, h1), (49, h1), (50, I (a1.length : Int)), (51, I x16)] (L) a w) (fun _ => fun a w => Mid 73 B [] (L) a w) (fun r0 => FRet Try.prog Try.f49 (fun e w' => (e = .returned (I r0) ∧ St B (L) w'))) ?_ ?_ ?_ ?_
      · rintro x16 o18r hb20 a w ⟨he, hs⟩
        dsimp only [F49_L1] at hb20
        refine TC.use ?_ he hs
        refine TC.k ?_
        refine TC.region ?_
        refine TO.s rfl rfl rfl (StepS.cmp rfl rfl rfl) ?_
        refine TO.code ?_
        refine TC.k ?_
        refine TC.cond rfl (fun hc21 => ?_) (fun hc21 => ?_)
        · replace hb20 := cond_t hc21 hb20
          refine TC.skipk ?_
          refine TC.k ?_
          refine TC.block ?_
          refine TC.k ?_
          refine TC.region ?_
          refine TO.s rfl rfl rfl (StepS.move rfl) ?_
          obtain ⟨x22, hx23, hb20⟩ := bind_some hb20
          refine TO.s rfl rfl rfl (StepS.idx rfl rfl e1 ksliceB_30_81_2_true (idx_spec hx23).1 (idxm_lt hx23)) ?_
          refine TO.s rfl rfl rfl (StepS.ldE rfl e1 kaggB_81_2_true rfl (idxm hx23)) ?_
          refine TO.alloc kinfo_81_bind_zero_some_agg_I_0_I_0 rfl rfl fun b24 => ?_
          refine TO.s rfl rfl rfl (StepS.assign rfl) ?_
          refine TO.stB (us := [I x22.1, I x22.2]) 0 [I x22.1, I x22.2] rfl rfl rfl ksizeB_81_2_true rfl rfl rfl (by simp [Value.oneCell']) rfl ?_
          refine TO.code ?_
          refine TC.k ?_
          refine TC.region_quiet kfollows_mixedOrders_true (by kernel_rfl) ?_
          refine TQ.s rfl rfl rfl (StepS.move rfl).q ?_
          refine TQ.s rfl rfl rfl (StepS.move rfl).q ?_
          obtain ⟨y25, hs26, hb20⟩ := bind_some hb20
          obtain ⟨hs26a, hs26b, hs26c, _⟩ := slI_spec hs26
          refine TQ.s rfl rfl rfl (StepS.slc rfl e1.tl ksliceB_30_81_2_true rfl rfl hs26a hs26b (by simpa using hs26c)).q ?_
          refine TQ.s rfl rfl rfl (StepS.ldBA rfl (Ent.at 0 rfl) kaggB_81_2_true rfl rfl).q ?_
          obtain ⟨r28, hc29, hb20⟩ := bind_some hb20
          refine TQ.s rfl rfl rfl (StepQ.call kcallB_77_true rfl rfl (fun _ st => C77 (Ent.sub e1.tl hs26) hc29 st)) ?_
          refine TQ.s rfl rfl rfl (StepS.move rfl).q ?_
          obtain ⟨b31, hj32, hb20⟩ := bind_some hb20
          refine TQ.mid1 10 71 (.bool b31) ?_ ?_
          · refine bcase (r28) (fun hb30 => ?_) (fun hb30 => ?_)
            · replace hj32 := cond_t hb30 hj32
              cases hj32
              refine TQ.skip rfl rfl rfl (skipT hb30) rfl rfl ?_
              refine TQ.skip rfl rfl rfl (skipT hb30) rfl rfl ?_
              refine TQ.skip rfl rfl rfl (skipT hb30) rfl rfl ?_
              refine TQ.skip rfl rfl rfl (skipT hb30) rfl rfl ?_
              refine TQ.skip rfl rfl rfl (skipT hb30) rfl rfl ?_
              refine TQ.skip rfl rfl rfl (skipT hb30) rfl rfl ?_
              refine TQ.skip rfl rfl rfl (skipT hb30) rfl rfl ?_
              refine TQ.skip rfl rfl rfl (skipT hb30) rfl rfl ?_
              refine TQ.skip rfl rfl rfl (skipT hb30) rfl rfl ?_
              refine TQ.s rfl rfl rfl (StepS.pickT rfl hb30 rfl).q ?_
              exact TQ.up1 10 0 rfl rfl rfl rfl
            · replace hj32 := cond_f hb30 hj32
              refine TQ.sw rfl rfl rfl hb30 rfl rfl (StepS.move rfl).q ?_
              refine TQ.sw rfl rfl rfl hb30 rfl rfl (StepS.move rfl).q ?_
              obtain ⟨y33, hs34, hj32⟩ := bind_some hj32
              obtain ⟨hs34a, hs34b, hs34c, _⟩ := slI_spec hs34
              refine TQ.sw rfl rfl rfl hb30 rfl rfl (StepS.slc rfl e1.tl ksliceB_30_81_2_true rfl rfl hs34a hs34b (by simpa using hs34c)).q ?_
              refine TQ.sw rfl rfl rfl hb30 rfl rfl (StepS.aidx (j := 1) rfl rfl karrB_81_2_3_1_true ⟨by decide, by decide⟩ rfl).q ?_
              refine TQ.sw rfl rfl rfl hb30 rfl rfl (StepS.ldB rfl (Ent.at 0 rfl) kscalB_3_true rfl).q ?_
              refine TQ.sw rfl rfl rfl hb30 rfl rfl (StepS.aidx (j := 0) rfl rfl karrB_81_2_3_1_true ⟨by decide, by decide⟩ rfl).q ?_
              refine TQ.sw rfl rfl rfl hb30 rfl rfl (StepS.ldB rfl (Ent.at 0 rfl) kscalB_3_true rfl).q ?_
              refine TQ.sw rfl rfl rfl hb30 rfl rfl (StepS.build (cs := [I x22.2, I x22.1]) rfl (by kernel_rfl)).q ?_
              obtain ⟨r36, hc37, hj32⟩ := bind_some hj32
              refine TQ.sw rfl rfl rfl hb30 rfl rfl (StepQ.call kcallB_77_true rfl rfl (fun _ st => C77 (Ent.sub e1.tl hs34) hc37 st)) ?_
              cases hj32
              refine TQ.s rfl rfl rfl (StepS.pickF rfl hb30 rfl).q ?_
              exact TQ.up1 10 0 rfl rfl rfl rfl
          refine TQ.code ?_
          refine TC.cond rfl (fun hc38 => ?_) (fun hc38 => ?_)
          · replace hb20 := cond_t hc38 hb20
            refine TC.k ?_
            refine TC.region ?_
            refine TO.s rfl rfl rfl (StepS.assign rfl) ?_
            refine TO.code ?_
            cases hb20
            refine TC.ret fun a w e s => ?_
            refine FRet.mk1 (P := Try.prog) (fn := Try.f49) (t := 4) e rfl rfl ?_
            exact ⟨rfl, s.mono fun _ => Sat.dropN 1⟩
          · replace hb20 := cond_f hc38 hb20
            refine TC.skipk ?_
            refine TC.region ?_
            refine TO.s rfl rfl rfl (StepS.ari rfl rfl rfl) ?_
            refine TO.s rfl rfl rfl (StepS.move rfl) ?_
            cases hb20
            refine TO.nil fun a w e s => ?_
            exact ⟨e.sub (lk_of_allIn ⟨rfl, rfl, rfl, rfl, trivial⟩), s.mono fun _ => Sat.dropN 1⟩
        · replace hb20 := cond_f hc21 hb20
          cases hb20
          refine TC.exit rfl fun a w e s => ?_
          exact ⟨e.sub (lk_of_allIn trivial), s⟩
      · exact fun a w e s => ⟨e.sub (lk_of_allIn ⟨rfl, rfl, rfl, rfl, trivial⟩), s⟩
      · rintro _ rfl a w ⟨he, hs⟩
        dsimp only [Ctl.on] at hm
        refine TC.use ?_ he hs
        refine TC.k ?_
        refine TC.region ?_
        refine TO.s rfl rfl rfl (StepS.assign rfl) ?_
        refine TO.code ?_
        cases hm
        refine TC.ret fun a w e s => ?_
        refine FRet.mk1 (P := Try.prog) (fn := Try.f49) (t := 4) e rfl rfl ?_
        exact ⟨rfl, s.mono fun _ => Sat.dropN 0⟩
      · rintro r rfl
        cases hm
        exact fun a w h => h
    · rintro r rfl
      cases hm
      exact fun a w h => h

set_option maxRecDepth 100000 in
theorem C50 {B : World} {L : List HP} {a0 : Int} {a1 : List (Int × Int)} {h1 : Value} {r0 : BitVec 32} (e1 : Ent L (Rd 2 h1 (a1.map cTii))) (hm : F50 a0 a1 = some r0) {w : World} (st : St B L w) : Calls Try.prog 50 #[I a0, h1] w (fun e w' => (e = .returned (U r0) ∧ St B (L) w')) := by
  refine calls_of (N := 24) (L := L) (args := [I a0, h1]) Try.func50 rfl rfl rfl ?_ st
  dsimp only [F50] at hm
  refine TC.k ?_
  refine TC.region ?_
  refine TO.s rfl rfl rfl (StepS.assign rfl) ?_
  refine TO.code ?_
  refine TC.k ?_
  refine TC.region ?_
  refine TO.s rfl rfl rfl (StepS.move rfl) ?_
  obtain ⟨k1, hk2, hm⟩ := bind_some hm
  refine TO.s rfl rfl rfl (StepS.shlk (m := 1#32) rfl rfl hk2) ?_
  refine TO.s rfl rfl rfl (StepS.bitU (n := 1#32) rfl rfl rfl) ?_
  refine TO.s rfl rfl rfl (StepS.assign rfl) ?_
  refine TO.code ?_
  refine TC.k ?_
  refine TC.k ?_
  refine TC.region ?_
  refine TO.s rfl rfl rfl (StepS.move rfl) ?_
  refine TO.s rfl rfl rfl (StepS.lenm rfl e1 ksliceB_30_81_2_true rfl) ?_
  refine TO.s rfl rfl rfl (StepS.move rfl) ?_
  refine TO.code ?_
  obtain ⟨o8, hw9, hm⟩ := bind_some hm
  refine TC.loop hw9 (fun (x3, x4) => fun a w => Mid 24 B [(5, U x3), (11, h1), (12, I (a1.length : Int)), (13, I x4)] (L) a w) (fun x7 => fun a w => Mid 24 B [(5, U x7)] (L) a w) (fun (_ : Unit) _ _ => False) ?_ ?_ ?_ ?_
  · rintro ⟨x3, x4⟩ o8r hb10 a w ⟨he, hs⟩
    dsimp only [F50_L0] at hb10
    refine TC.use ?_ he hs
    refine TC.k ?_
    refine TC.region ?_
    refine TO.s rfl rfl rfl (StepS.cmp rfl rfl rfl) ?_
    refine TO.code ?_
    refine TC.k ?_
    refine TC.cond rfl (fun hc11 => ?_) (fun hc11 => ?_)
    · replace hb10 := cond_t hc11 hb10
      refine TC.skipk ?_
      refine TC.k ?_
      refine TC.block ?_
      refine TC.k ?_
      refine TC.region ?_
      obtain ⟨x12, hx13, hb10⟩ := bind_some hb10
      refine TO.s rfl rfl rfl (StepS.idx rfl rfl e1 ksliceB_30_81_2_true (idx_spec hx13).1 (idxm_lt hx13)) ?_
      refine TO.s rfl rfl rfl (StepS.ldE rfl e1 kaggB_81_2_true rfl (idxm hx13)) ?_
      refine TO.alloc kinfo_81_bind_zero_some_agg_I_0_I_0 rfl rfl fun b14 => ?_
      refine TO.stB (us := [I x12.1, I x12.2]) 0 [I x12.1, I x12.2] rfl rfl rfl ksizeB_81_2_true rfl rfl rfl (by simp [Value.oneCell']) rfl ?_
      refine TO.code ?_
      refine TC.region ?_
      refine TO.s rfl rfl rfl (StepS.move rfl) ?_
      refine TO.s rfl rfl rfl (StepS.aidx (j := 0) rfl rfl karrB_81_2_3_1_true ⟨by decide, by decide⟩ rfl) ?_
      refine TO.s rfl rfl rfl (StepS.ldB rfl (Ent.at 0 rfl) kscalB_3_true rfl) ?_
      obtain ⟨k15, hk16, hb10⟩ := bind_some hb10
      refine TO.s rfl rfl rfl (StepS.shlk (m := 1#32) rfl rfl hk16) ?_
      refine TO.s rfl rfl rfl (StepS.bitU rfl rfl rfl) ?_
      refine TO.s rfl rfl rfl (StepS.assign rfl) ?_
      refine TO.code ?_
      refine TC.region ?_
      refine TO.s rfl rfl rfl (StepS.ari rfl rfl rfl) ?_
      refine TO.s rfl rfl rfl (StepS.move rfl) ?_
      cases hb10
      refine TO.nil fun a w e s => ?_
      exact ⟨e.sub (lk_of_allIn ⟨rfl, rfl, rfl, rfl, trivial⟩), s.mono fun _ => Sat.dropN 1⟩
    · replace hb10 := cond_f hc11 hb10
      cases hb10
      refine TC.exit rfl fun a w e s => ?_
      exact ⟨e.sub (lk_of_allIn ⟨rfl, trivial⟩), s⟩
  · exact fun a w e s => ⟨e.sub (lk_of_allIn ⟨rfl, rfl, rfl, rfl, trivial⟩), s⟩
  · rintro x7 rfl a w ⟨he, hs⟩
    dsimp only [Ctl.on] at hm
    refine TC.use ?_ he hs
    refine TC.k ?_
    refine TC.region ?_
    refine TO.s rfl rfl rfl (StepS.move rfl) ?_
    refine TO.s rfl rfl rfl (StepS.assign rfl) ?_
    refine TO.code ?_
    cases hm
    refine TC.ret fun a w e s => ?_
    refine FRet.mk1 (P := Try.prog) (fn := Try.f50) (t := 4) e rfl rfl ?_
    exact ⟨rfl, s.mono fun _ => Sat.dropN 0⟩
  · rintro r rfl
    exact fun a w h => h.elim

set_option maxRecDepth 100000 in
theorem C19 {B : World} {L : List HP} {a0 : Int} {a1 : List (Int × Int)} {h1 : Value} {r0 : BitVec 32} {r1 : Int} (e1 : Ent L (Rd 2 h1 (a1.map cTii))) (hm : F19 a0 a1 = some (r0, r1)) {w : World} (st : St B L w) : Calls Try.prog 19 #[I a0, h1] w (fun e w' => (e = .returned (.tuple #[U r0, I r1]) ∧ St B (L) w')) := by
  refine calls_of (N := 16) (L := L) (args := [I a0, h1]) Try.func19 rfl rfl rfl ?_ st
  dsimp only [F19] at hm
  refine TC.k ?_
  refine TC.region ?_
  refine TO.s rfl rfl rfl (StepS.assign rfl) ?_
  refine TO.s rfl rfl rfl (StepS.assign rfl) ?_
  refine TO.code ?_
  refine TC.k ?_
  refine TC.k ?_
  refine TC.region ?_
  refine TO.s rfl rfl rfl (StepS.move rfl) ?_
  refine TO.s rfl rfl rfl (StepS.move rfl) ?_
  obtain ⟨r1, hc2, hm⟩ := bind_some hm
  refine TO.q rfl rfl rfl (StepQ.call kcallB_49_true rfl rfl (fun _ st => C49 e1 hc2 st)) ?_
  refine TO.s rfl rfl rfl (StepS.assign rfl) ?_
  refine TO.code ?_
  refine TC.k ?_
  refine TC.region ?_
  refine TO.s rfl rfl rfl (StepS.move rfl) ?_
  refine TO.s rfl rfl rfl (StepS.cmp rfl rfl rfl) ?_
  refine TO.code ?_
  refine TC.cond rfl (fun hc3 => ?_) (fun hc3 => ?_)
  · replace hm := cond_t hc3 hm
    refine TC.k ?_
    refine TC.region ?_
    refine TO.s rfl rfl rfl (StepS.move rfl) ?_
    refine TO.s rfl rfl rfl (StepS.assign rfl) ?_
    refine TO.s rfl rfl rfl (StepS.assign rfl) ?_
    refine TO.code ?_
    cases hm
    refine TC.ret fun a w e s => ?_
    refine FRet.mk2 (P := Try.prog) (fn := Try.f19) (t := 4) (u := 5) e rfl rfl rfl ?_
    exact ⟨rfl, s.mono fun _ => Sat.dropN 0⟩
  · replace hm := cond_f hc3 hm
    refine TC.skipk ?_
    refine TC.k ?_
    refine TC.region ?_
    refine TO.s rfl rfl rfl (StepS.move rfl) ?_
    refine TO.s rfl rfl rfl (StepS.move rfl) ?_
    obtain ⟨r4, hc5, hm⟩ := bind_some hm
    refine TO.q rfl rfl rfl (StepQ.call kcallB_50_true rfl rfl (fun _ st => C50 e1 hc5 st)) ?_
    refine TO.s rfl rfl rfl (StepS.assign rfl) ?_
    refine TO.s rfl rfl rfl (StepS.assign rfl) ?_
    refine TO.code ?_
    cases hm
    refine TC.ret fun a w e s => ?_
    refine FRet.mk2 (P := Try.prog) (fn := Try.f19) (t := 4) (u := 5) e rfl rfl rfl ?_
    exact ⟨rfl, s.mono fun _ => Sat.dropN 0⟩

set_option maxRecDepth 100000 in
theorem C42 {B : World} {L : List HP} {a0 : Int} {a1 : List (Int × Int)} {h1 : Value} {r0 : Int} (e1 : Ent L (Rd 2 h1 (a1.map cTii))) (hm : F42 a0 a1 = some r0) {w : World} (st : St B L w) : Calls Try.prog 42 #[I a0, h1] w (fun e w' => (e = .returned (I r0) ∧ St B (L) w')) := by
  refine calls_of (N := 52) (L := L) (args := [I a0, h1]) Try.func42 rfl rfl rfl ?_ st
  dsimp only [F42] at hm
  refine TC.k ?_
  refine TC.region ?_
  refine TO.s rfl rfl rfl (StepS.assign rfl) ?_
  refine TO.code ?_
  refine TC.k ?_
  refine TC.k ?_
  refine TC.region ?_
  refine TO.s rfl rfl rfl (StepS.move rfl) ?_
  refine TO.s rfl rfl rfl (StepS.cmp rfl rfl rfl) ?_
  refine TO.s rfl rfl rfl (StepS.move rfl) ?_
  refine TO.mid1 3 12 (.bool ((decide (a0 < 1)) || (decide (a0 > 6)))) ?_ ?_
  · refine bcase ((decide (a0 < 1))) (fun hb1 => ?_) (fun hb1 => ?_)
    · refine TO.skip rfl rfl rfl (skipT hb1) rfl rfl ?_
      refine TO.skip rfl rfl rfl (skipT hb1) rfl rfl ?_
      refine TO.s rfl rfl rfl (StepS.pickT rfl hb1 rfl) ?_
      exact TO.up1 3 0 rfl rfl (by rw [hb1]; rfl) rfl
    · refine TO.sw rfl rfl rfl hb1 rfl rfl (StepS.move rfl) ?_
      refine TO.sw rfl rfl rfl hb1 rfl rfl (StepS.cmp rfl rfl rfl) ?_
      refine TO.s rfl rfl rfl (StepS.pickF rfl hb1 rfl) ?_
      exact TO.up1 3 0 rfl rfl (by rw [hb1]; rfl) rfl
  refine TO.s rfl rfl rfl (StepS.move rfl) ?_
  refine TO.mid1 4 17 (.bool (((decide (a0 < 1)) || (decide (a0 > 6))) || (decide ((a1.length : Int) > 15)))) ?_ ?_
  · refine bcase (((decide (a0 < 1)) || (decide (a0 > 6)))) (fun hb2 => ?_) (fun hb2 => ?_)
    · refine TO.skip rfl rfl rfl (skipT hb2) rfl rfl ?_
      refine TO.skip rfl rfl rfl (skipT hb2) rfl rfl ?_
      refine TO.skip rfl rfl rfl (skipT hb2) rfl rfl ?_
      refine TO.s rfl rfl rfl (StepS.pickT rfl hb2 rfl) ?_
      exact TO.up1 4 0 rfl rfl (by rw [hb2]; rfl) rfl
    · refine TO.sw rfl rfl rfl hb2 rfl rfl (StepS.move rfl) ?_
      refine TO.sw rfl rfl rfl hb2 rfl rfl (StepS.lenm rfl e1 ksliceB_30_81_2_true rfl) ?_
      refine TO.sw rfl rfl rfl hb2 rfl rfl (StepS.cmp rfl rfl rfl) ?_
      refine TO.s rfl rfl rfl (StepS.pickF rfl hb2 rfl) ?_
      exact TO.up1 4 0 rfl rfl (by rw [hb2]; rfl) rfl
  refine TO.code ?_
  refine TC.cond rfl (fun hc3 => ?_) (fun hc3 => ?_)
  · replace hm := cond_t hc3 hm
    refine TC.k ?_
    refine TC.region ?_
    refine TO.s rfl rfl rfl (StepS.assign rfl) ?_
    refine TO.code ?_
    cases hm
    refine TC.ret fun a w e s => ?_
    refine FRet.mk1 (P := Try.prog) (fn := Try.f42) (t := 4) e rfl rfl ?_
    exact ⟨rfl, s.mono fun _ => Sat.dropN 0⟩
  · replace hm := cond_f hc3 hm
    refine TC.skipk ?_
    refine TC.k ?_
    refine TC.k ?_
    refine TC.region ?_
    refine TO.s rfl rfl rfl (StepS.move rfl) ?_
    refine TO.s rfl rfl rfl (StepS.lenm rfl e1 ksliceB_30_81_2_true rfl) ?_
    refine TO.s rfl rfl rfl (StepS.move rfl) ?_
    refine TO.code ?_
    obtain ⟨o6, hw7, hm⟩ := bind_some hm
    refine TC.loop hw7 (fun x4 => fun a w => Mid 52 B [(0, I a0), (18, h1), (19, I (a1.length : Int)), (20, I x4)] (L) a w) (fun _ => fun a w => Mid 52 B [] (L) a w) (fun r0 => FRet Try.prog Try.f42 (fun e w' => (e = .returned (I r0) ∧ St B (L) w'))) ?_ ?_ ?_ ?_
    · rintro x4 o6r hb8 a w ⟨he, hs⟩
      dsimp only [F42_L0] at hb8
      refine TC.use ?_ he hs
      refine TC.k ?_
      refine TC.region ?_
      refine TO.s rfl rfl rfl (StepS.cmp rfl rfl rfl) ?_
      refine TO.code ?_
      refine TC.k ?_
      refine TC.cond rfl (fun hc9 => ?_) (fun hc9 => ?_)
      · replace hb8 := cond_t hc9 hb8
        refine TC.skipk ?_
        refine TC.k ?_
        refine TC.block ?_
        refine TC.k ?_
        refine TC.region ?_
        obtain ⟨x10, hx11, hb8⟩ := bind_some hb8
        refine TO.s rfl rfl rfl (StepS.idx rfl rfl e1 ksliceB_30_81_2_true (idx_spec hx11).1 (idxm_lt hx11)) ?_
        refine TO.s rfl rfl rfl (StepS.ldE rfl e1 kaggB_81_2_true rfl (idxm hx11)) ?_
        refine TO.alloc kinfo_81_bind_zero_some_agg_I_0_I_0 rfl rfl fun b12 => ?_
        refine TO.stB (us := [I x10.1, I x10.2]) 0 [I x10.1, I x10.2] rfl rfl rfl ksizeB_81_2_true rfl rfl rfl (by simp [Value.oneCell']) rfl ?_
        refine TO.code ?_
        refine TC.k ?_
        refine TC.region ?_
        refine TO.s rfl rfl rfl (StepS.aidx (j := 0) rfl rfl karrB_81_2_3_1_true ⟨by decide, by decide⟩ rfl) ?_
        refine TO.s rfl rfl rfl (StepS.ldB rfl (Ent.at 0 rfl) kscalB_3_true rfl) ?_
        refine TO.s rfl rfl rfl (StepS.cmp rfl rfl rfl) ?_
        refine TO.s rfl rfl rfl (StepS.move rfl) ?_
        refine TO.mid1 5 32 (.bool ((decide (x10.1 < 0)) || (decide (x10.1 ≥ a0)))) ?_ ?_
        · refine bcase ((decide (x10.1 < 0))) (fun hb13 => ?_) (fun hb13 => ?_)
          · refine TO.skip rfl rfl rfl (skipT hb13) rfl rfl ?_
            refine TO.skip rfl rfl rfl (skipT hb13) rfl rfl ?_
            refine TO.skip rfl rfl rfl (skipT hb13) rfl rfl ?_
            refine TO.skip rfl rfl rfl (skipT hb13) rfl rfl ?_
            refine TO.s rfl rfl rfl (StepS.pickT rfl hb13 rfl) ?_
            exact TO.up1 5 0 rfl rfl (by rw [hb13]; rfl) rfl
          · refine TO.sw rfl rfl rfl hb13 rfl rfl (StepS.aidx (j := 0) rfl rfl karrB_81_2_3_1_true ⟨by decide, by decide⟩ rfl) ?_
            refine TO.sw rfl rfl rfl hb13 rfl rfl (StepS.ldB rfl (Ent.at 0 rfl) kscalB_3_true rfl) ?_
            refine TO.sw rfl rfl rfl hb13 rfl rfl (StepS.move rfl) ?_
            refine TO.sw rfl rfl rfl hb13 rfl rfl (StepS.cmp rfl rfl rfl) ?_
            refine TO.s rfl rfl rfl (StepS.pickF rfl hb13 rfl) ?_
            exact TO.up1 5 0 rfl rfl (by rw [hb13]; rfl) rfl
        refine TO.s rfl rfl rfl (StepS.move rfl) ?_
        refine TO.mid1 4 37 (.bool (((decide (x10.1 < 0)) || (decide (x10.1 ≥ a0))) || (decide (x10.2 < 0)))) ?_ ?_
        · refine bcase (((decide (x10.1 < 0)) || (decide (x10.1 ≥ a0)))) (fun hb14 => ?_) (fun hb14 => ?_)
          · refine TO.skip rfl rfl rfl (skipT hb14) rfl rfl ?_
            refine TO.skip rfl rfl rfl (skipT hb14) rfl rfl ?_
            refine TO.skip rfl rfl rfl (skipT hb14) rfl rfl ?_
            refine TO.s rfl rfl rfl (StepS.pickT rfl hb14 rfl) ?_
            exact TO.up1 4 0 rfl rfl (by rw [hb14]; rfl) rfl
          · refine TO.sw rfl rfl rfl hb14 rfl rfl (StepS.aidx (j := 1) rfl rfl karrB_81_2_3_1_true ⟨by decide, by decide⟩ rfl) ?_
            refine TO.sw rfl rfl rfl hb14 rfl rfl (StepS.ldB rfl (Ent.at 0 rfl) kscalB_3_true rfl) ?_
            refine TO.sw rfl rfl rfl hb14 rfl rfl (StepS.cmp rfl rfl rfl) ?_
            refine TO.s rfl rfl rfl (StepS.pickF rfl hb14 rfl) ?_
            exact TO.up1 4 0 rfl rfl (by rw [hb14]; rfl) rfl
        refine TO.s rfl rfl rfl (StepS.move rfl) ?_
        refine TO.mid1 5 43 (.bool ((((decide (x10.1 < 0)) || (decide (x10.1 ≥ a0))) || (decide (x10.2 < 0))) || (decide (x10.2 ≥ a0)))) ?_ ?_
        · refine bcase ((((decide (x10.1 < 0)) || (decide (x10.1 ≥ a0))) || (decide (x10.2 < 0)))) (fun hb15 => ?_) (fun hb15 => ?_)
          · refine TO.skip rfl rfl rfl (skipT hb15) rfl rfl ?_
            refine TO.skip rfl rfl rfl (skipT hb15) rfl rfl ?_
            refine TO.skip rfl rfl rfl (skipT hb15) rfl rfl ?_
            refine TO.skip rfl rfl rfl (skipT hb15) rfl rfl ?_
            refine TO.s rfl rfl rfl (StepS.pickT rfl hb15 rfl) ?_
            exact TO.up1 5 0 rfl rfl (by rw [hb15]; rfl) rfl
          · refine TO.sw rfl rfl rfl hb15 rfl rfl (StepS.aidx (j := 1) rfl rfl karrB_81_2_3_1_true ⟨by decide, by decide⟩ rfl) ?_
            refine TO.sw rfl rfl rfl hb15 rfl rfl (StepS.ldB rfl (Ent.at 0 rfl) kscalB_3_true rfl) ?_
            refine TO.sw rfl rfl rfl hb15 rfl rfl (StepS.move rfl) ?_
            refine TO.sw rfl rfl rfl hb15 rfl rfl (StepS.cmp rfl rfl rfl) ?_
            refine TO.s rfl rfl rfl (StepS.pickF rfl hb15 rfl) ?_
            exact TO.up1 5 0 rfl rfl (by rw [hb15]; rfl) rfl
        refine TO.s rfl rfl rfl (StepS.move rfl) ?_
        refine TO.mid1 6 50 (.bool (((((decide (x10.1 < 0)) || (decide (x10.1 ≥ a0))) || (decide (x10.2 < 0))) || (decide (x10.2 ≥ a0))) || (x10.1 == x10.2))) ?_ ?_
        · refine bcase (((((decide (x10.1 < 0)) || (decide (x10.1 ≥ a0))) || (decide (x10.2 < 0))) || (decide (x10.2 ≥ a0)))) (fun hb16 => ?_) (fun hb16 => ?_)
          · refine TO.skip rfl rfl rfl (skipT hb16) rfl rfl ?_
            refine TO.skip rfl rfl rfl (skipT hb16) rfl rfl ?_
            refine TO.skip rfl rfl rfl (skipT hb16) rfl rfl ?_
            refine TO.skip rfl rfl rfl (skipT hb16) rfl rfl ?_
            refine TO.skip rfl rfl rfl (skipT hb16) rfl rfl ?_
            refine TO.s rfl rfl rfl (StepS.pickT rfl hb16 rfl) ?_
            exact TO.up1 6 0 rfl rfl (by rw [hb16]; rfl) rfl
          · refine TO.sw rfl rfl rfl hb16 rfl rfl (StepS.aidx (j := 0) rfl rfl karrB_81_2_3_1_true ⟨by decide, by decide⟩ rfl) ?_
            refine TO.sw rfl rfl rfl hb16 rfl rfl (StepS.ldB rfl (Ent.at 0 rfl) kscalB_3_true rfl) ?_
            refine TO.sw rfl rfl rfl hb16 rfl rfl (StepS.aidx (j := 1) rfl rfl karrB_81_2_3_1_true ⟨by decide, by decide⟩ rfl) ?_
            refine TO.sw rfl rfl rfl hb16 rfl rfl (StepS.ldB rfl (Ent.at 0 rfl) kscalB_3_true rfl) ?_
            refine TO.sw rfl rfl rfl hb16 rfl rfl (StepS.cmp rfl rfl rfl) ?_
            refine TO.s rfl rfl rfl (StepS.pickF rfl hb16 rfl) ?_
            exact TO.up1 6 0 rfl rfl (by rw [hb16]; rfl) rfl
        refine TO.code ?_
        refine TC.cond rfl (fun hc17 => ?_) (fun hc17 => ?_)
        · replace hb8 := cond_t hc17 hb8
          refine TC.k ?_
          refine TC.region ?_
          refine TO.s rfl rfl rfl (StepS.assign rfl) ?_
          refine TO.code ?_
          cases hb8
          refine TC.ret fun a w e s => ?_
          refine FRet.mk1 (P := Try.prog) (fn := Try.f42) (t := 4) e rfl rfl ?_
          exact ⟨rfl, s.mono fun _ => Sat.dropN 1⟩
        · replace hb8 := cond_f hc17 hb8
          refine TC.skipk ?_
          refine TC.region ?_
          refine TO.s rfl rfl rfl (StepS.ari rfl rfl rfl) ?_
          refine TO.s rfl rfl rfl (StepS.move rfl) ?_
          cases hb8
          refine TO.nil fun a w e s => ?_
          exact ⟨e.sub (lk_of_allIn ⟨rfl, rfl, rfl, rfl, trivial⟩), s.mono fun _ => Sat.dropN 1⟩
      · replace hb8 := cond_f hc9 hb8
        cases hb8
        refine TC.exit rfl fun a w e s => ?_
        exact ⟨e.sub (lk_of_allIn trivial), s⟩
    · exact fun a w e s => ⟨e.sub (lk_of_allIn ⟨rfl, rfl, rfl, rfl, trivial⟩), s⟩
    · rintro _ rfl a w ⟨he, hs⟩
      dsimp only [Ctl.on] at hm
      refine TC.use ?_ he hs
      refine TC.k ?_
      refine TC.region ?_
      refine TO.s rfl rfl rfl (StepS.assign rfl) ?_
      refine TO.code ?_
      cases hm
      refine TC.ret fun a w e s => ?_
      refine FRet.mk1 (P := Try.prog) (fn := Try.f42) (t := 4) e rfl rfl ?_
      exact ⟨rfl, s.mono fun _ => Sat.dropN 0⟩
    · rintro r rfl
      cases hm
      exact fun a w h => h

set_option maxRecDepth 100000 in
theorem C43 {B : World} {L : List HP} {a0 : List (Int × Int)} {h0 : Value} {r0 : Bool} (e0 : Ent L (Rd 2 h0 (a0.map cTii))) (hm : F43 a0 = some r0) {w : World} (st : St B L w) : Calls Try.prog 43 #[h0] w (fun e w' => (e = .returned (.bool r0) ∧ St B (L) w')) := by
  refine calls_of (N := 50) (L := L) (args := [h0]) Try.func43 rfl rfl rfl ?_ st
  dsimp only [F43] at hm
  refine TC.k ?_
  refine TC.region ?_
  refine TO.s rfl rfl rfl (StepS.assign rfl) ?_
  refine TO.code ?_
  refine TC.k ?_
  refine TC.k ?_
  refine TC.region ?_
  refine TO.s rfl rfl rfl (StepS.move rfl) ?_
  refine TO.s rfl rfl rfl (StepS.lenm rfl e0 ksliceB_30_81_2_true rfl) ?_
  refine TO.s rfl rfl rfl (StepS.move rfl) ?_
  refine TO.code ?_
  obtain ⟨o3, hw4, hm⟩ := bind_some hm
  refine TC.loop hw4 (fun x1 => fun a w => Mid 50 B [(0, h0), (7, h0), (8, I (a0.length : Int)), (9, I x1)] (L) a w) (fun _ => fun a w => Mid 50 B [] (L) a w) (fun r0 => FRet Try.prog Try.f43 (fun e w' => (e = .returned (.bool r0) ∧ St B (L) w'))) ?_ ?_ ?_ ?_
  · rintro x1 o3r hb5 a w ⟨he, hs⟩
    dsimp only [F43_L0] at hb5
    refine TC.use ?_ he hs
    refine TC.k ?_
    refine TC.region ?_
    refine TO.s rfl rfl rfl (StepS.cmp rfl rfl rfl) ?_
    refine TO.code ?_
    refine TC.k ?_
    refine TC.cond rfl (fun hc6 => ?_) (fun hc6 => ?_)
    · replace hb5 := cond_t hc6 hb5
      refine TC.skipk ?_
      refine TC.k ?_
      refine TC.block ?_
      refine TC.k ?_
      refine TC.region ?_
      refine TO.s rfl rfl rfl (StepS.move rfl) ?_
      obtain ⟨x7, hx8, hb5⟩ := bind_some hb5
      refine TO.s rfl rfl rfl (StepS.idx rfl rfl e0 ksliceB_30_81_2_true (idx_spec hx8).1 (idxm_lt hx8)) ?_
      refine TO.s rfl rfl rfl (StepS.ldE rfl e0 kaggB_81_2_true rfl (idxm hx8)) ?_
      refine TO.alloc kinfo_81_bind_zero_some_agg_I_0_I_0 rfl rfl fun b9 => ?_
      refine TO.s rfl rfl rfl (StepS.assign rfl) ?_
      refine TO.stB (us := [I x7.1, I x7.2]) 0 [I x7.1, I x7.2] rfl rfl rfl ksizeB_81_2_true rfl rfl rfl (by simp [Value.oneCell']) rfl ?_
      refine TO.code ?_
      refine TC.k ?_
      refine TC.region ?_
      refine TO.s rfl rfl rfl (StepS.move rfl) ?_
      refine TO.s rfl rfl rfl (StepS.move rfl) ?_
      obtain ⟨y10, hs11, hb5⟩ := bind_some hb5
      obtain ⟨hs11a, hs11b, hs11c, _⟩ := slI_spec hs11
      refine TO.s rfl rfl rfl (StepS.slc rfl e0.tl ksliceB_30_81_2_true rfl rfl hs11a hs11b (by simpa using hs11c)) ?_
      refine TO.s rfl rfl rfl (StepS.lenm rfl (Ent.sub e0.tl hs11) ksliceB_30_81_2_true rfl) ?_
      refine TO.s rfl rfl rfl (StepS.move rfl) ?_
      refine TO.code ?_
      obtain ⟨o15, hw16, hb5⟩ := bind_some hb5
      refine TC.loop hw16 (fun x13 => fun a w => Mid 50 B [(0, h0), (4, .pointer (some ⟨b9, 0, none⟩)), (7, h0), (8, I (a0.length : Int)), (9, I x1), (16, (subv h0 0 x1 2)), (17, I (y10.length : Int)), (18, I x13)] (Bx b9 81 [I x7.1, I x7.2] :: L) a w) (fun _ => fun a w => Mid 50 B [(0, h0), (7, h0), (8, I (a0.length : Int)), (9, I x1)] (Bx b9 81 [I x7.1, I x7.2] :: L) a w) (fun r0 => FRet Try.prog Try.f43 (fun e w' => (e = .returned (.bool r0) ∧ St B (L) w'))) ?_ ?_ ?_ ?_
      · rintro x13 o15r hb17 a w ⟨he, hs⟩
        dsimp only [F43_L1] at hb17
        refine TC.use ?_ he hs
        refine TC.k ?_
        refine TC.region ?_
        refine TO.s rfl rfl rfl (StepS.cmp rfl rfl rfl) ?_
        refine TO.code ?_
        refine TC.k ?_
        refine TC.cond rfl (fun hc18 => ?_) (fun hc18 => ?_)
        · replace hb17 := cond_t hc18 hb17
          refine TC.skipk ?_
          refine TC.k ?_
          refine TC.block ?_
          refine TC.k ?_
          refine TC.region ?_
          obtain ⟨x19, hx20, hb17⟩ := bind_some hb17
          refine TO.s rfl rfl rfl (StepS.idx rfl rfl (Ent.sub e0.tl hs11) ksliceB_30_81_2_true (idx_spec hx20).1 (idxm_lt hx20)) ?_
          refine TO.s rfl rfl rfl (StepS.ldE rfl (Ent.sub e0.tl hs11) kaggB_81_2_true rfl (idxm hx20)) ?_
          refine TO.alloc kinfo_81_bind_zero_some_agg_I_0_I_0 rfl rfl fun b21 => ?_
          refine TO.stB (us := [I x19.1, I x19.2]) 0 [I x19.1, I x19.2] rfl rfl rfl ksizeB_81_2_true rfl rfl rfl (by simp [Value.oneCell']) rfl ?_
          refine TO.code ?_
          refine TC.k ?_
          refine TC.region ?_
          refine TO.s rfl rfl rfl (StepS.aidx (j := 0) rfl rfl karrB_81_2_3_1_true ⟨by decide, by decide⟩ rfl) ?_
          refine TO.s rfl rfl rfl (StepS.ldB rfl (Ent.at 1 rfl) kscalB_3_true rfl) ?_
          refine TO.s rfl rfl rfl (StepS.aidx (j := 0) rfl rfl karrB_81_2_3_1_true ⟨by decide, by decide⟩ rfl) ?_
          refine TO.s rfl rfl rfl (StepS.ldB rfl (Ent.at 0 rfl) kscalB_3_true rfl) ?_
          refine TO.s rfl rfl rfl (StepS.cmp rfl rfl rfl) ?_
          refine TO.s rfl rfl rfl (StepS.move rfl) ?_
          refine TO.mid1 6 33 (.bool ((x7.1 == x19.1) && (x7.2 == x19.2))) ?_ ?_
          · refine bcase ((x7.1 == x19.1)) (fun hb22 => ?_) (fun hb22 => ?_)
            · refine TO.sw rfl rfl rfl hb22 rfl rfl (StepS.aidx (j := 1) rfl rfl karrB_81_2_3_1_true ⟨by decide, by decide⟩ rfl) ?_
              refine TO.sw rfl rfl rfl hb22 rfl rfl (StepS.ldB rfl (Ent.at 1 rfl) kscalB_3_true rfl) ?_
              refine TO.sw rfl rfl rfl hb22 rfl rfl (StepS.aidx (j := 1) rfl rfl karrB_81_2_3_1_true ⟨by decide, by decide⟩ rfl) ?_
              refine TO.sw rfl rfl rfl hb22 rfl rfl (StepS.ldB rfl (Ent.at 0 rfl) kscalB_3_true rfl) ?_
              refine TO.sw rfl rfl rfl hb22 rfl rfl (StepS.cmp rfl rfl rfl) ?_
              refine TO.s rfl rfl rfl (StepS.pickT rfl hb22 rfl) ?_
              exact TO.up1 6 0 rfl rfl (by rw [hb22]; rfl) rfl
            · refine TO.skip rfl rfl rfl (skipF hb22) rfl rfl ?_
              refine TO.skip rfl rfl rfl (skipF hb22) rfl rfl ?_
              refine TO.skip rfl rfl rfl (skipF hb22) rfl rfl ?_
              refine TO.skip rfl rfl rfl (skipF hb22) rfl rfl ?_
              refine TO.skip rfl rfl rfl (skipF hb22) rfl rfl ?_
              refine TO.s rfl rfl rfl (StepS.pickF rfl hb22 rfl) ?_
              exact TO.up1 6 0 rfl rfl (by rw [hb22]; rfl) rfl
          refine TO.s rfl rfl rfl (StepS.move rfl) ?_
          refine TO.mid1 13 47 (.bool (((x7.1 == x19.1) && (x7.2 == x19.2)) || ((x7.1 == x19.2) && (x7.2 == x19.1)))) ?_ ?_
          · refine bcase (((x7.1 == x19.1) && (x7.2 == x19.2))) (fun hb23 => ?_) (fun hb23 => ?_)
            · refine TO.skip rfl rfl rfl (skipT hb23) rfl rfl ?_
              refine TO.skip rfl rfl rfl (skipT hb23) rfl rfl ?_
              refine TO.skip rfl rfl rfl (skipT hb23) rfl rfl ?_
              refine TO.skip rfl rfl rfl (skipT hb23) rfl rfl ?_
              refine TO.skip rfl rfl rfl (skipT hb23) rfl rfl ?_
              refine TO.skip rfl rfl rfl (skipT hb23) rfl rfl ?_
              refine TO.skip rfl rfl rfl skipU rfl rfl ?_
              refine TO.skip rfl rfl rfl skipU rfl rfl ?_
              refine TO.skip rfl rfl rfl skipU rfl rfl ?_
              refine TO.skip rfl rfl rfl skipU rfl rfl ?_
              refine TO.skip rfl rfl rfl skipU rfl rfl ?_
              refine TO.skip rfl rfl rfl (skipT hb23) rfl rfl ?_
              refine TO.s rfl rfl rfl (StepS.pickT rfl hb23 rfl) ?_
              exact TO.up1 13 0 rfl rfl (by rw [hb23]; rfl) rfl
            · refine TO.sw rfl rfl rfl hb23 rfl rfl (StepS.aidx (j := 0) rfl rfl karrB_81_2_3_1_true ⟨by decide, by decide⟩ rfl) ?_
              refine TO.sw rfl rfl rfl hb23 rfl rfl (StepS.ldB rfl (Ent.at 1 rfl) kscalB_3_true rfl) ?_
              refine TO.sw rfl rfl rfl hb23 rfl rfl (StepS.aidx (j := 1) rfl rfl karrB_81_2_3_1_true ⟨by decide, by decide⟩ rfl) ?_
              refine TO.sw rfl rfl rfl hb23 rfl rfl (StepS.ldB rfl (Ent.at 0 rfl) kscalB_3_true rfl) ?_
              refine TO.sw rfl rfl rfl hb23 rfl rfl (StepS.cmp rfl rfl rfl) ?_
              refine TO.sw rfl rfl rfl hb23 rfl rfl (StepS.move rfl) ?_
              refine TO.mid1 6 46 (.bool ((x7.1 == x19.2) && (x7.2 == x19.1))) ?_ ?_
              · refine bcase ((x7.1 == x19.2)) (fun hb24 => ?_) (fun hb24 => ?_)
                · refine TO.sw rfl rfl rfl hb24 rfl rfl (StepS.aidx (j := 1) rfl rfl karrB_81_2_3_1_true ⟨by decide, by decide⟩ rfl) ?_
                  refine TO.sw rfl rfl rfl hb24 rfl rfl (StepS.ldB rfl (Ent.at 1 rfl) kscalB_3_true rfl) ?_
                  refine TO.sw rfl rfl rfl hb24 rfl rfl (StepS.aidx (j := 0) rfl rfl karrB_81_2_3_1_true ⟨by decide, by decide⟩ rfl) ?_
                  refine TO.sw rfl rfl rfl hb24 rfl rfl (StepS.ldB rfl (Ent.at 0 rfl) kscalB_3_true rfl) ?_
                  refine TO.sw rfl rfl rfl hb24 rfl rfl (StepS.cmp rfl rfl rfl) ?_
                  refine TO.sw rfl rfl rfl hb23 rfl rfl (StepS.pickT rfl hb24 rfl) ?_
                  exact TO.up1 6 0 rfl rfl (by rw [hb24]; rfl) rfl
                · refine TO.skip rfl rfl rfl (skipF hb24) rfl rfl ?_
                  refine TO.skip rfl rfl rfl (skipF hb24) rfl rfl ?_
                  refine TO.skip rfl rfl rfl (skipF hb24) rfl rfl ?_
                  refine TO.skip rfl rfl rfl (skipF hb24) rfl rfl ?_
                  refine TO.skip rfl rfl rfl (skipF hb24) rfl rfl ?_
                  refine TO.sw rfl rfl rfl hb23 rfl rfl (StepS.pickF rfl hb24 rfl) ?_
                  exact TO.up1 6 0 rfl rfl (by rw [hb24]; rfl) rfl
              refine TO.s rfl rfl rfl (StepS.pickF rfl hb23 rfl) ?_
              exact TO.up1 8 0 rfl rfl (by rw [hb23]; rfl) rfl
          refine TO.code ?_
          refine TC.cond rfl (fun hc25 => ?_) (fun hc25 => ?_)
          · replace hb17 := cond_t hc25 hb17
            refine TC.k ?_
            refine TC.region ?_
            refine TO.s rfl rfl rfl (StepS.assign rfl) ?_
            refine TO.code ?_
            cases hb17
            refine TC.ret fun a w e s => ?_
            refine FRet.mk1 (P := Try.prog) (fn := Try.f43) (t := 2) e rfl rfl ?_
            exact ⟨rfl, s.mono fun _ => Sat.dropN 2⟩
          · replace hb17 := cond_f hc25 hb17
            refine TC.skipk ?_
            refine TC.region ?_
            refine TO.s rfl rfl rfl (StepS.ari rfl rfl rfl) ?_
            refine TO.s rfl rfl rfl (StepS.move rfl) ?_
            cases hb17
            refine TO.nil fun a w e s => ?_
            exact ⟨e.sub (lk_of_allIn ⟨rfl, rfl, rfl, rfl, rfl, rfl, rfl, rfl, trivial⟩), s.mono fun _ => Sat.dropN 1⟩
        · replace hb17 := cond_f hc18 hb17
          cases hb17
          refine TC.exit rfl fun a w e s => ?_
          exact ⟨e.sub (lk_of_allIn ⟨rfl, rfl, rfl, rfl, trivial⟩), s⟩
      · exact fun a w e s => ⟨e.sub (lk_of_allIn ⟨rfl, rfl, rfl, rfl, rfl, rfl, rfl, rfl, trivial⟩), s⟩
      · rintro _ rfl a w ⟨he, hs⟩
        dsimp only [Ctl.on] at hb5
        refine TC.use ?_ he hs
        refine TC.region ?_
        refine TO.s rfl rfl rfl (StepS.ari rfl rfl rfl) ?_
        refine TO.s rfl rfl rfl (StepS.move rfl) ?_
        cases hb5
        refine TO.nil fun a w e s => ?_
        exact ⟨e.sub (lk_of_allIn ⟨rfl, rfl, rfl, rfl, trivial⟩), s.mono fun _ => Sat.dropN 1⟩
      · rintro r rfl
        cases hb5
        exact fun a w h => h
    · replace hb5 := cond_f hc6 hb5
      cases hb5
      refine TC.exit rfl fun a w e s => ?_
      exact ⟨e.sub (lk_of_allIn trivial), s⟩
  · exact fun a w e s => ⟨e.sub (lk_of_allIn ⟨rfl, rfl, rfl, rfl, trivial⟩), s⟩
  · rintro _ rfl a w ⟨he, hs⟩
    dsimp only [Ctl.on] at hm
    refine TC.use ?_ he hs
    refine TC.k ?_
    refine TC.region ?_
    refine TO.s rfl rfl rfl (StepS.assign rfl) ?_
    refine TO.code ?_
    cases hm
    refine TC.ret fun a w e s => ?_
    refine FRet.mk1 (P := Try.prog) (fn := Try.f43) (t := 2) e rfl rfl ?_
    exact ⟨rfl, s.mono fun _ => Sat.dropN 0⟩
  · rintro r rfl
    cases hm
    exact fun a w h => h

set_option maxRecDepth 100000 in
theorem C20 {B : World} {L : List HP} {a0 : Int} {a1 : List (Int × Int)} {h1 : Value} {r0 : Int} (e1 : Ent L (Rd 2 h1 (a1.map cTii))) (hm : F20 a0 a1 = some r0) {w : World} (st : St B L w) : Calls Try.prog 20 #[I a0, h1] w (fun e w' => (e = .returned (I r0) ∧ St B (L) w')) := by
  refine calls_of (N := 16) (L := L) (args := [I a0, h1]) Try.func20 rfl rfl rfl ?_ st
  dsimp only [F20] at hm
  refine TC.k ?_
  refine TC.region ?_
  refine TO.s rfl rfl rfl (StepS.assign rfl) ?_
  refine TO.code ?_
  refine TC.k ?_
  refine TC.region ?_
  refine TO.s rfl rfl rfl (StepS.move rfl) ?_
  refine TO.s rfl rfl rfl (StepS.move rfl) ?_
  obtain ⟨r1, hc2, hm⟩ := bind_some hm
  refine TO.q rfl rfl rfl (StepQ.call kcallB_42_true rfl rfl (fun _ st => C42 e1 hc2 st)) ?_
  refine TO.s rfl rfl rfl (StepS.assign rfl) ?_
  refine TO.code ?_
  refine TC.k ?_
  refine TC.k ?_
  refine TC.region ?_
  refine TO.s rfl rfl rfl (StepS.move rfl) ?_
  refine TO.s rfl rfl rfl (StepS.cmp rfl rfl rfl) ?_
  refine TO.s rfl rfl rfl (StepS.move rfl) ?_
  obtain ⟨b4, hj5, hm⟩ := bind_some hm
  refine TO.mid1 3 14 (.bool b4) ?_ ?_
  · refine bcase ((r1 == 0)) (fun hb3 => ?_) (fun hb3 => ?_)
    · replace hj5 := cond_t hb3 hj5
      refine TO.sw rfl rfl rfl hb3 rfl rfl (StepS.move rfl) ?_
      obtain ⟨r6, hc7, hj5⟩ := bind_some hj5
      refine TO.qw rfl rfl rfl hb3 rfl rfl (StepQ.call kcallB_43_true rfl rfl (fun _ st => C43 e1 hc7 st)) ?_
      cases hj5
      refine TO.s rfl rfl rfl (StepS.pickT rfl hb3 rfl) ?_
      exact TO.up1 3 0 rfl rfl rfl rfl
    · replace hj5 := cond_f hb3 hj5
      cases hj5
      refine TO.skip rfl rfl rfl (skipF hb3) rfl rfl ?_
      refine TO.skip rfl rfl rfl (skipF hb3) rfl rfl ?_
      refine TO.s rfl rfl rfl (StepS.pickF rfl hb3 rfl) ?_
      exact TO.up1 3 0 rfl rfl rfl rfl
  refine TO.code ?_
  obtain ⟨x8, hj9, hm⟩ := bind_some hm
  refine TC.cutM (fun a w => Mid 16 B [(5, I x8)] (L) a w) ?_ ?_
  · refine TC.cond rfl (fun hc10 => ?_) (fun hc10 => ?_)
    · replace hj9 := cond_t hc10 hj9
      refine TC.region ?_
      refine TO.s rfl rfl rfl (StepS.assign rfl) ?_
      cases hj9
      refine TO.nil fun a w e s => ?_
      exact ⟨e.sub (lk_of_allIn ⟨rfl, trivial⟩), s⟩
    · replace hj9 := cond_f hc10 hj9
      cases hj9
      refine TC.skip fun a w e s => ?_
      exact ⟨e.sub (lk_of_allIn ⟨rfl, trivial⟩), s⟩
  · intro a w ⟨he, hs⟩
    refine TC.use ?_ he hs
    refine TC.k ?_
    refine TC.region ?_
    refine TO.s rfl rfl rfl (StepS.move rfl) ?_
    refine TO.s rfl rfl rfl (StepS.assign rfl) ?_
    refine TO.code ?_
    cases hm
    refine TC.ret fun a w e s => ?_
    refine FRet.mk1 (P := Try.prog) (fn := Try.f20) (t := 4) e rfl rfl ?_
    exact ⟨rfl, s.mono fun _ => Sat.dropN 0⟩

set_option maxRecDepth 100000 in
theorem C21 {B : World} {L : List HP} {a0 : Int} {a1 : List (Int × Int)} {h1 : Value} {r0 : BitVec 32} (e1 : Ent L (Rd 2 h1 (a1.map cTii))) (hm : F21 a0 a1 = some r0) {w : World} (st : St B L w) : Calls Try.prog 21 #[I a0, h1] w (fun e w' => (e = .returned (U r0) ∧ St B (L) w')) := by
  refine calls_of (N := 36) (L := L) (args := [I a0, h1]) Try.func21 rfl rfl rfl ?_ st
  dsimp only [F21] at hm
  refine TC.k ?_
  refine TC.region ?_
  refine TO.s rfl rfl rfl (StepS.assign rfl) ?_
  refine TO.code ?_
  refine TC.k ?_
  refine TC.region ?_
  refine TO.s rfl rfl rfl (StepS.assign rfl) ?_
  refine TO.code ?_
  refine TC.k ?_
  refine TC.k ?_
  refine TC.region ?_
  refine TO.s rfl rfl rfl (StepS.assign rfl) ?_
  refine TO.code ?_
  obtain ⟨o6, hw7, hm⟩ := bind_some hm
  refine TC.loop hw7 (fun (x1, x2) => fun a w => Mid 36 B [(0, I a0), (1, h1), (5, U x1), (6, I x2)] (L) a w) (fun x5 => fun a w => Mid 36 B [(5, U x5)] (L) a w) (fun (_ : Unit) _ _ => False) ?_ ?_ ?_ ?_
  · rintro ⟨x1, x2⟩ o6r hb8 a w ⟨he, hs⟩
    dsimp only [F21_L0] at hb8
    refine TC.use ?_ he hs
    refine TC.k ?_
    refine TC.k ?_
    refine TC.region ?_
    refine TO.s rfl rfl rfl (StepS.move rfl) ?_
    refine TO.s rfl rfl rfl (StepS.move rfl) ?_
    refine TO.s rfl rfl rfl (StepS.cmp rfl rfl rfl) ?_
    refine TO.code ?_
    refine TC.cond rfl (fun hc9 => ?_) (fun hc9 => ?_)
    · replace hb8 := cond_t hc9 hb8
      refine TC.skipk ?_
      refine TC.k ?_
      obtain ⟨x10, hj11, hb8⟩ := bind_some hb8
      refine TC.cutM (fun a w => Mid 36 B [(0, I a0), (1, h1), (5, U x10), (6, I x2)] (L) a w) ?_ ?_
      · refine TC.block ?_
        refine TC.k ?_
        refine TC.region ?_
        refine TO.s rfl rfl rfl (StepS.assign rfl) ?_
        refine TO.code ?_
        refine TC.k ?_
        refine TC.k ?_
        refine TC.region ?_
        refine TO.s rfl rfl rfl (StepS.move rfl) ?_
        refine TO.s rfl rfl rfl (StepS.lenm rfl e1 ksliceB_30_81_2_true rfl) ?_
        refine TO.s rfl rfl rfl (StepS.move rfl) ?_
        refine TO.code ?_
        obtain ⟨o17, hw18, hj11⟩ := bind_some hj11
        refine TC.loop hw18 (fun (b12, x13) => fun a w => Mid 36 B [(0, I a0), (1, h1), (5, U x1), (6, I x2), (7, .bool b12), (15, h1), (16, I (a1.length : Int)), (17, I x13)] (L) a w) (fun b16 => fun a w => Mid 36 B [(0, I a0), (1, h1), (5, U x1), (6, I x2), (7, .bool b16)] (L) a w) (fun (_ : Unit) _ _ => False) ?_ ?_ ?_ ?_
        · rintro ⟨b12, x13⟩ o17r hb19 a w ⟨he, hs⟩
          dsimp only [F21_L1] at hb19
          refine TC.use ?_ he hs
          refine TC.k ?_
          refine TC.region ?_
          refine TO.s rfl rfl rfl (StepS.cmp rfl rfl rfl) ?_
          refine TO.code ?_
          refine TC.k ?_
          refine TC.cond rfl (fun hc20 => ?_) (fun hc20 => ?_)
          · replace hb19 := cond_t hc20 hb19
            refine TC.skipk ?_
            refine TC.k ?_
            refine TC.block ?_
            refine TC.k ?_
            refine TC.region ?_
            obtain ⟨x21, hx22, hb19⟩ := bind_some hb19
            refine TO.s rfl rfl rfl (StepS.idx rfl rfl e1 ksliceB_30_81_2_true (idx_spec hx22).1 (idxm_lt hx22)) ?_
            refine TO.s rfl rfl rfl (StepS.ldE rfl e1 kaggB_81_2_true rfl (idxm hx22)) ?_
            refine TO.alloc kinfo_81_bind_zero_some_agg_I_0_I_0 rfl rfl fun b23 => ?_
            refine TO.stB (us := [I x21.1, I x21.2]) 0 [I x21.1, I x21.2] rfl rfl rfl ksizeB_81_2_true rfl rfl rfl (by simp [Value.oneCell']) rfl ?_
            refine TO.code ?_
            refine TC.region ?_
            refine TO.s rfl rfl rfl (StepS.move rfl) ?_
            refine TO.s rfl rfl rfl (StepS.move rfl) ?_
            refine TO.mid1 5 27 (.bool (b12 && (x21.1 != x2))) ?_ ?_
            · refine bcase (b12) (fun hb24 => ?_) (fun hb24 => ?_)
              · refine TO.sw rfl rfl rfl hb24 rfl rfl (StepS.aidx (j := 0) rfl rfl karrB_81_2_3_1_true ⟨by decide, by decide⟩ rfl) ?_
                refine TO.sw rfl rfl rfl hb24 rfl rfl (StepS.ldB rfl (Ent.at 0 rfl) kscalB_3_true rfl) ?_
                refine TO.sw rfl rfl rfl hb24 rfl rfl (StepS.move rfl) ?_
                refine TO.sw rfl rfl rfl hb24 rfl rfl (StepS.cmp rfl rfl rfl) ?_
                refine TO.s rfl rfl rfl (StepS.pickT rfl hb24 rfl) ?_
                exact TO.up1 5 0 rfl rfl (by rw [hb24]; rfl) rfl
              · refine TO.skip rfl rfl rfl (skipF hb24) rfl rfl ?_
                refine TO.skip rfl rfl rfl (skipF hb24) rfl rfl ?_
                refine TO.skip rfl rfl rfl (skipF hb24) rfl rfl ?_
                refine TO.skip rfl rfl rfl (skipF hb24) rfl rfl ?_
                refine TO.s rfl rfl rfl (StepS.pickF rfl hb24 rfl) ?_
                exact TO.up1 5 0 rfl rfl (by rw [hb24]; rfl) rfl
            refine TO.s rfl rfl rfl (StepS.assign rfl) ?_
            refine TO.code ?_
            refine TC.region ?_
            refine TO.s rfl rfl rfl (StepS.ari rfl rfl rfl) ?_
            refine TO.s rfl rfl rfl (StepS.move rfl) ?_
            cases hb19
            refine TO.nil fun a w e s => ?_
            exact ⟨e.sub (lk_of_allIn ⟨rfl, rfl, rfl, rfl, rfl, rfl, rfl, rfl, trivial⟩), s.mono fun _ => Sat.dropN 1⟩
          · replace hb19 := cond_f hc20 hb19
            cases hb19
            refine TC.exit rfl fun a w e s => ?_
            exact ⟨e.sub (lk_of_allIn ⟨rfl, rfl, rfl, rfl, rfl, trivial⟩), s⟩
        · exact fun a w e s => ⟨e.sub (lk_of_allIn ⟨rfl, rfl, rfl, rfl, rfl, rfl, rfl, rfl, trivial⟩), s⟩
        · rintro b16 rfl a w ⟨he, hs⟩
          dsimp only [Ctl.on] at hj11
          refine TC.use ?_ he hs
          refine TC.k ?_
          refine TC.region ?_
          refine TO.s rfl rfl rfl (StepS.move rfl) ?_
          refine TO.code ?_
          refine TC.cond rfl (fun hc25 => ?_) (fun hc25 => ?_)
          · replace hj11 := cond_t hc25 hj11
            refine TC.region ?_
            refine TO.s rfl rfl rfl (StepS.move rfl) ?_
            refine TO.s rfl rfl rfl (StepS.move rfl) ?_
            refine TO.s rfl rfl rfl (StepS.cvIV kintB_3_i64_true kintB_42_u64_true rfl) ?_
            refine TO.s rfl rfl rfl (StepS.shl (m := 1#32) rfl rfl (u64_nonneg _)) ?_
            refine TO.s rfl rfl rfl (StepS.bitU rfl rfl rfl) ?_
            refine TO.s rfl rfl rfl (StepS.assign rfl) ?_
            cases hj11
            refine TO.nil fun a w e s => ?_
            exact ⟨e.sub (lk_of_allIn ⟨rfl, rfl, rfl, rfl, trivial⟩), s⟩
          · replace hj11 := cond_f hc25 hj11
            cases hj11
            refine TC.skip fun a w e s => ?_
            exact ⟨e.sub (lk_of_allIn ⟨rfl, rfl, rfl, rfl, trivial⟩), s⟩
        · rintro r rfl
          exact fun a w h => h.elim
      · intro a w ⟨he, hs⟩
        refine TC.use ?_ he hs
        refine TC.region ?_
        refine TO.s rfl rfl rfl (StepS.move rfl) ?_
        refine TO.s rfl rfl rfl (StepS.ari rfl rfl rfl) ?_
        refine TO.s rfl rfl rfl (StepS.assign rfl) ?_
        cases hb8
        refine TO.nil fun a w e s => ?_
        exact ⟨e.sub (lk_of_allIn ⟨rfl, rfl, rfl, rfl, trivial⟩), s⟩
    · replace hb8 := cond_f hc9 hb8
      cases hb8
      refine TC.exit rfl fun a w e s => ?_
      exact ⟨e.sub (lk_of_allIn ⟨rfl, trivial⟩), s⟩
  · exact fun a w e s => ⟨e.sub (lk_of_allIn ⟨rfl, rfl, rfl, rfl, trivial⟩), s⟩
  · rintro x5 rfl a w ⟨he, hs⟩
    dsimp only [Ctl.on] at hm
    refine TC.use ?_ he hs
    refine TC.k ?_
    refine TC.region ?_
    refine TO.s rfl rfl rfl (StepS.move rfl) ?_
    refine TO.s rfl rfl rfl (StepS.assign rfl) ?_
    refine TO.code ?_
    cases hm
    refine TC.ret fun a w e s => ?_
    refine FRet.mk1 (P := Try.prog) (fn := Try.f21) (t := 4) e rfl rfl ?_
    exact ⟨rfl, s.mono fun _ => Sat.dropN 0⟩
  · rintro r rfl
    exact fun a w h => h.elim

set_option maxRecDepth 100000 in
theorem C5 {B : World} {L : List HP} {a0 : Int} {a1 : List (Int × Int)} {h1 : Value} {r0 : Bool} (e1 : Ent L (Rd 2 h1 (a1.map cTii))) (hm : F5 a0 a1 = some r0) {w : World} (st : St B L w) : Calls Try.prog 5 #[I a0, h1] w (fun e w' => (e = .returned (.bool r0) ∧ St B (L) w')) := by
  refine calls_of (N := 35) (L := L) (args := [I a0, h1]) Try.func5 rfl rfl rfl ?_ st
  dsimp only [F5] at hm
  refine TC.k ?_
  refine TC.region ?_
  refine TO.s rfl rfl rfl (StepS.assign rfl) ?_
  refine TO.code ?_
  refine TC.k ?_
  refine TC.region ?_
  refine TO.s rfl rfl rfl (StepS.move rfl) ?_
  refine TO.s rfl rfl rfl (StepS.move rfl) ?_
  obtain ⟨⟨r1, r2⟩, hc3, hm⟩ := bind_some hm
  refine TO.q rfl rfl rfl (StepQ.call kcallB_19_true rfl rfl (fun _ st => C19 e1 hc3 st)) ?_
  refine TO.s rfl rfl rfl (StepS.move rfl) ?_
  refine TO.s rfl rfl rfl (StepS.extract rfl rfl) ?_
  refine TO.s rfl rfl rfl (StepS.extract rfl rfl) ?_
  refine TO.s rfl rfl rfl (StepS.assign rfl) ?_
  refine TO.s rfl rfl rfl (StepS.assign rfl) ?_
  refine TO.code ?_
  refine TC.k ?_
  refine TC.region ?_
  refine TO.s rfl rfl rfl (StepS.move rfl) ?_
  refine TO.s rfl rfl rfl (StepS.move rfl) ?_
  obtain ⟨r4, hc5, hm⟩ := bind_some hm
  refine TO.q rfl rfl rfl (StepQ.call kcallB_20_true rfl rfl (fun _ st => C20 e1 hc5 st)) ?_
  refine TO.s rfl rfl rfl (StepS.assign rfl) ?_
  refine TO.code ?_
  refine TC.k ?_
  refine TC.k ?_
  refine TC.region ?_
  refine TO.s rfl rfl rfl (StepS.move rfl) ?_
  refine TO.s rfl rfl rfl (StepS.cmp rfl rfl rfl) ?_
  refine TO.code ?_
  refine TC.cond rfl (fun hc6 => ?_) (fun hc6 => ?_)
  · replace hm := cond_t hc6 hm
    refine TC.k ?_
    refine TC.region ?_
    refine TO.s rfl rfl rfl (StepS.move rfl) ?_
    refine TO.s rfl rfl rfl (StepS.move rfl) ?_
    refine TO.s rfl rfl rfl (StepS.cmp rfl rfl rfl) ?_
    refine TO.s rfl rfl rfl (StepS.move rfl) ?_
    refine TO.mid1 3 25 (.bool ((r2 == r4) && (r1 == (0#32)))) ?_ ?_
    · refine bcase ((r2 == r4)) (fun hb7 => ?_) (fun hb7 => ?_)
      · refine TO.sw rfl rfl rfl hb7 rfl rfl (StepS.move rfl) ?_
        refine TO.sw rfl rfl rfl hb7 rfl rfl (StepS.cmpU (n := 0#32) rfl rfl rfl) ?_
        refine TO.s rfl rfl rfl (StepS.pickT rfl hb7 rfl) ?_
        exact TO.up1 3 0 rfl rfl (by rw [hb7]; rfl) rfl
      · refine TO.skip rfl rfl rfl (skipF hb7) rfl rfl ?_
        refine TO.skip rfl rfl rfl (skipF hb7) rfl rfl ?_
        refine TO.s rfl rfl rfl (StepS.pickF rfl hb7 rfl) ?_
        exact TO.up1 3 0 rfl rfl (by rw [hb7]; rfl) rfl
    refine TO.s rfl rfl rfl (StepS.assign rfl) ?_
    refine TO.code ?_
    cases hm
    refine TC.ret fun a w e s => ?_
    refine FRet.mk1 (P := Try.prog) (fn := Try.f5) (t := 4) e rfl rfl ?_
    exact ⟨rfl, s.mono fun _ => Sat.dropN 0⟩
  · replace hm := cond_f hc6 hm
    refine TC.skipk ?_
    refine TC.k ?_
    refine TC.region ?_
    refine TO.s rfl rfl rfl (StepS.move rfl) ?_
    refine TO.s rfl rfl rfl (StepS.cmp rfl rfl rfl) ?_
    refine TO.s rfl rfl rfl (StepS.move rfl) ?_
    obtain ⟨b9, hj10, hm⟩ := bind_some hm
    refine TO.mid1 6 34 (.bool b9) ?_ ?_
    · refine bcase ((r2 == 0)) (fun hb8 => ?_) (fun hb8 => ?_)
      · replace hj10 := cond_t hb8 hj10
        refine TO.sw rfl rfl rfl hb8 rfl rfl (StepS.move rfl) ?_
        refine TO.sw rfl rfl rfl hb8 rfl rfl (StepS.move rfl) ?_
        refine TO.sw rfl rfl rfl hb8 rfl rfl (StepS.move rfl) ?_
        obtain ⟨r11, hc12, hj10⟩ := bind_some hj10
        refine TO.qw rfl rfl rfl hb8 rfl rfl (StepQ.call kcallB_21_true rfl rfl (fun _ st => C21 e1 hc12 st)) ?_
        refine TO.sw rfl rfl rfl hb8 rfl rfl (StepS.cmpU rfl rfl rfl) ?_
        cases hj10
        refine TO.s rfl rfl rfl (StepS.pickT rfl hb8 rfl) ?_
        exact TO.up1 6 0 rfl rfl rfl rfl
      · replace hj10 := cond_f hb8 hj10
        cases hj10
        refine TO.skip rfl rfl rfl (skipF hb8) rfl rfl ?_
        refine TO.skip rfl rfl rfl (skipF hb8) rfl rfl ?_
        refine TO.skip rfl rfl rfl (skipF hb8) rfl rfl ?_
        refine TO.skip rfl rfl rfl (skipF hb8) rfl rfl ?_
        refine TO.skip rfl rfl rfl (skipF hb8) rfl rfl ?_
        refine TO.s rfl rfl rfl (StepS.pickF rfl hb8 rfl) ?_
        exact TO.up1 6 0 rfl rfl rfl rfl
    refine TO.s rfl rfl rfl (StepS.assign rfl) ?_
    refine TO.code ?_
    cases hm
    refine TC.ret fun a w e s => ?_
    refine FRet.mk1 (P := Try.prog) (fn := Try.f5) (t := 4) e rfl rfl ?_
    exact ⟨rfl, s.mono fun _ => Sat.dropN 0⟩
end Go.Proofs.Ytdjmlbjkendobaa
