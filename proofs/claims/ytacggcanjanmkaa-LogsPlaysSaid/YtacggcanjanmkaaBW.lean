/-
  The walks: each Go function returns what its model says. Written by a program (gen.py).
-/
import Derived.Test.YtacggcanjanmkaaProg
import Derived.KernelRfl
import Derived.Test.YtacggcanjanmkaaAW
import Derived.Test.YtacggcanjanmkaaBM
namespace Go.Proofs.Ytacggcanjanmkaa
open Go Go.Bk
set_option linter.unusedVariables false
set_option linter.unnecessarySimpa false
theorem kintB_65_u32_true : intB Try.prog 65 .u32 = true := by kernel_rfl
theorem kintB_90_u64_true : intB Try.prog 90 .u64 = true := by kernel_rfl
theorem kintB_85_u64_true : intB Try.prog 85 .u64 = true := by kernel_rfl
theorem kcallB_40_true : callB Try.prog 40 = true := by kernel_rfl
theorem kcallB_41_true : callB Try.prog 41 = true := by kernel_rfl
theorem kcallB_39_true : callB Try.prog 39 = true := by kernel_rfl
theorem kelemB_24_3_1_8_true : elemB Try.prog 24 3 1 8 = true := by kernel_rfl
theorem kinfo_3_bind_zero_some_I_0 : (Try.prog.info? 3).bind (·.zero) = some (I 0) := by kernel_rfl
theorem kfieldB_43_1_1_true : fieldB Try.prog 43 1 1 = true := by kernel_rfl
theorem kscalB_41_true : scalB Try.prog 41 = true := by kernel_rfl
theorem ksliceB_41_48_4_true : sliceB Try.prog 41 48 4 = true := by kernel_rfl
theorem kfieldB_48_2_2_true : fieldB Try.prog 48 2 2 = true := by kernel_rfl
theorem ksizeB_24_1_true : sizeB Try.prog 24 1 = true := by kernel_rfl
theorem kfieldB_48_0_0_true : fieldB Try.prog 48 0 0 = true := by kernel_rfl
theorem kscalB_36_true : scalB Try.prog 36 = true := by kernel_rfl
theorem kcallB_35_true : callB Try.prog 35 = true := by kernel_rfl
theorem kfieldB_48_3_3_true : fieldB Try.prog 48 3 3 = true := by kernel_rfl
theorem kfieldB_43_0_0_true : fieldB Try.prog 43 0 0 = true := by kernel_rfl
theorem kscalB_39_true : scalB Try.prog 39 = true := by kernel_rfl
theorem kcallB_28_true : callB Try.prog 28 = true := by kernel_rfl
theorem kcallB_13_true : callB Try.prog 13 = true := by kernel_rfl
theorem kcallB_29_true : callB Try.prog 29 = true := by kernel_rfl
theorem kfieldB_52_0_0_true : fieldB Try.prog 52 0 0 = true := by kernel_rfl
theorem kcallB_37_true : callB Try.prog 37 = true := by kernel_rfl
theorem kcallB_31_true : callB Try.prog 31 = true := by kernel_rfl
theorem kcallB_30_true : callB Try.prog 30 = true := by kernel_rfl
theorem kscalB_38_true : scalB Try.prog 38 = true := by kernel_rfl

set_option maxRecDepth 100000 in
theorem C40 {B : World} {L : List HP} {a0 : BitVec 32} {a1 : BitVec 32} {r0 : BitVec 32} {r1 : BitVec 32} (hm : F40 a0 a1 = some (r0, r1)) {w : World} (st : St B L w) : Calls Try.prog 40 #[U a0, U a1] w (fun e w' => (e = .returned (.tuple #[U r0, U r1]) ∧ St B (L) w')) := by
  refine calls_of (N := 17) (L := L) (args := [U a0, U a1]) Try.func40 rfl rfl rfl ?_ st
  dsimp only [F40] at hm
  refine TC.k ?_
  refine TC.region ?_
  refine TO.s rfl rfl rfl (StepS.assign rfl) ?_
  refine TO.s rfl rfl rfl (StepS.assign rfl) ?_
  refine TO.code ?_
  refine TC.k ?_
  refine TC.region ?_
  refine TO.s rfl rfl rfl (StepS.move rfl) ?_
  refine TO.s rfl rfl rfl (StepS.cvUV kintB_65_u32_true kintB_90_u64_true rfl) ?_
  refine TO.s rfl rfl rfl (StepS.move rfl) ?_
  refine TO.s rfl rfl rfl (StepS.cvUV kintB_65_u32_true kintB_90_u64_true rfl) ?_
  refine TO.s rfl rfl rfl (StepS.ariV rfl rfl rfl) ?_
  refine TO.s rfl rfl rfl (StepS.assign rfl) ?_
  refine TO.code ?_
  refine TC.k ?_
  refine TC.region ?_
  refine TO.s rfl rfl rfl (StepS.move rfl) ?_
  refine TO.s rfl rfl rfl (StepS.shrV rfl rfl (by decide)) ?_
  refine TO.s rfl rfl rfl (StepS.cvVU kintB_90_u64_true kintB_65_u32_true rfl) ?_
  refine TO.s rfl rfl rfl (StepS.move rfl) ?_
  refine TO.s rfl rfl rfl (StepS.cvVU kintB_90_u64_true kintB_65_u32_true rfl) ?_
  refine TO.s rfl rfl rfl (StepS.assign rfl) ?_
  refine TO.s rfl rfl rfl (StepS.assign rfl) ?_
  refine TO.code ?_
  cases hm
  refine TC.ret fun a w e s => ?_
  refine FRet.mk2 (P := Try.prog) (fn := Try.f40) (t := 4) (u := 5) e rfl rfl rfl ?_
  exact ⟨rfl, s.mono fun _ => Sat.dropN 0⟩

set_option maxRecDepth 100000 in
theorem C41 {B : World} {L : List HP} {a0 : Int} {a1 : Int} {r0 : Int} {r1 : Int} (hm : F41 a0 a1 = some (r0, r1)) {w : World} (st : St B L w) : Calls Try.prog 41 #[.int .u64 a0, .int .u64 a1] w (fun e w' => (e = .returned (.tuple #[.int .u64 r0, .int .u64 r1]) ∧ St B (L) w')) := by
  refine calls_of (N := 51) (L := L) (args := [.int .u64 a0, .int .u64 a1]) Try.func41 rfl rfl rfl ?_ st
  dsimp only [F41] at hm
  refine TC.k ?_
  refine TC.region ?_
  refine TO.s rfl rfl rfl (StepS.assign rfl) ?_
  refine TO.s rfl rfl rfl (StepS.assign rfl) ?_
  refine TO.code ?_
  refine TC.k ?_
  refine TC.region ?_
  refine TO.s rfl rfl rfl (StepS.move rfl) ?_
  refine TO.s rfl rfl rfl (StepS.andV rfl rfl) ?_
  refine TO.s rfl rfl rfl (StepS.assign rfl) ?_
  refine TO.code ?_
  refine TC.k ?_
  refine TC.region ?_
  refine TO.s rfl rfl rfl (StepS.move rfl) ?_
  refine TO.s rfl rfl rfl (StepS.shrV rfl rfl (by decide)) ?_
  refine TO.s rfl rfl rfl (StepS.assign rfl) ?_
  refine TO.code ?_
  refine TC.k ?_
  refine TC.region ?_
  refine TO.s rfl rfl rfl (StepS.move rfl) ?_
  refine TO.s rfl rfl rfl (StepS.andV rfl rfl) ?_
  refine TO.s rfl rfl rfl (StepS.assign rfl) ?_
  refine TO.code ?_
  refine TC.k ?_
  refine TC.region ?_
  refine TO.s rfl rfl rfl (StepS.move rfl) ?_
  refine TO.s rfl rfl rfl (StepS.shrV rfl rfl (by decide)) ?_
  refine TO.s rfl rfl rfl (StepS.assign rfl) ?_
  refine TO.code ?_
  refine TC.k ?_
  refine TC.region ?_
  refine TO.s rfl rfl rfl (StepS.move rfl) ?_
  refine TO.s rfl rfl rfl (StepS.move rfl) ?_
  refine TO.s rfl rfl rfl (StepS.ariV rfl rfl rfl) ?_
  refine TO.s rfl rfl rfl (StepS.assign rfl) ?_
  refine TO.code ?_
  refine TC.k ?_
  refine TC.region ?_
  refine TO.s rfl rfl rfl (StepS.move rfl) ?_
  refine TO.s rfl rfl rfl (StepS.move rfl) ?_
  refine TO.s rfl rfl rfl (StepS.ariV rfl rfl rfl) ?_
  refine TO.s rfl rfl rfl (StepS.move rfl) ?_
  refine TO.s rfl rfl rfl (StepS.shrV rfl rfl (by decide)) ?_
  refine TO.s rfl rfl rfl (StepS.ariV rfl rfl rfl) ?_
  refine TO.s rfl rfl rfl (StepS.assign rfl) ?_
  refine TO.code ?_
  refine TC.k ?_
  refine TC.region ?_
  refine TO.s rfl rfl rfl (StepS.move rfl) ?_
  refine TO.s rfl rfl rfl (StepS.andV rfl rfl) ?_
  refine TO.s rfl rfl rfl (StepS.assign rfl) ?_
  refine TO.code ?_
  refine TC.k ?_
  refine TC.region ?_
  refine TO.s rfl rfl rfl (StepS.move rfl) ?_
  refine TO.s rfl rfl rfl (StepS.shrV rfl rfl (by decide)) ?_
  refine TO.s rfl rfl rfl (StepS.assign rfl) ?_
  refine TO.code ?_
  refine TC.k ?_
  refine TC.region ?_
  refine TO.s rfl rfl rfl (StepS.move rfl) ?_
  refine TO.s rfl rfl rfl (StepS.move rfl) ?_
  refine TO.s rfl rfl rfl (StepS.move rfl) ?_
  refine TO.s rfl rfl rfl (StepS.ariV rfl rfl rfl) ?_
  refine TO.s rfl rfl rfl (StepS.ariV rfl rfl rfl) ?_
  refine TO.s rfl rfl rfl (StepS.assign rfl) ?_
  refine TO.code ?_
  refine TC.k ?_
  refine TC.region ?_
  refine TO.s rfl rfl rfl (StepS.move rfl) ?_
  refine TO.s rfl rfl rfl (StepS.move rfl) ?_
  refine TO.s rfl rfl rfl (StepS.ariV rfl rfl rfl) ?_
  refine TO.s rfl rfl rfl (StepS.move rfl) ?_
  refine TO.s rfl rfl rfl (StepS.ariV rfl rfl rfl) ?_
  refine TO.s rfl rfl rfl (StepS.move rfl) ?_
  refine TO.s rfl rfl rfl (StepS.shrV rfl rfl (by decide)) ?_
  refine TO.s rfl rfl rfl (StepS.ariV rfl rfl rfl) ?_
  refine TO.s rfl rfl rfl (StepS.assign rfl) ?_
  refine TO.code ?_
  refine TC.k ?_
  refine TC.region ?_
  refine TO.s rfl rfl rfl (StepS.move rfl) ?_
  refine TO.s rfl rfl rfl (StepS.move rfl) ?_
  refine TO.s rfl rfl rfl (StepS.ariV rfl rfl rfl) ?_
  refine TO.s rfl rfl rfl (StepS.assign rfl) ?_
  refine TO.code ?_
  cases hm
  refine TC.ret fun a w e s => ?_
  refine FRet.mk2 (P := Try.prog) (fn := Try.f41) (t := 4) (u := 5) e rfl rfl rfl ?_
  exact ⟨rfl, s.mono fun _ => Sat.dropN 0⟩

set_option maxRecDepth 100000 in
theorem C39 {B : World} {L : List HP} {a0 : Int} {a1 : Int} {r0 : Int} {r1 : Int} (hm : F39 a0 a1 = some (r0, r1)) {w : World} (st : St B L w) : Calls Try.prog 39 #[.int .u64 a0, .int .u64 a1] w (fun e w' => (e = .returned (.tuple #[.int .u64 r0, .int .u64 r1]) ∧ St B (L) w')) := by
  refine calls_of (N := 30) (L := L) (args := [.int .u64 a0, .int .u64 a1]) Try.func39 rfl rfl rfl ?_ st
  dsimp only [F39] at hm
  refine TC.k ?_
  refine TC.region ?_
  refine TO.s rfl rfl rfl (StepS.assign rfl) ?_
  refine TO.s rfl rfl rfl (StepS.assign rfl) ?_
  refine TO.code ?_
  refine TC.k ?_
  refine TC.cond rfl (fun hc1 => ?_) (fun hc1 => ?_)
  · replace hm := cond_t hc1 hm
    refine TC.k ?_
    refine TC.region ?_
    refine TO.s rfl rfl rfl (StepS.move rfl) ?_
    refine TO.s rfl rfl rfl (StepS.cvVU kintB_85_u64_true kintB_65_u32_true rfl) ?_
    refine TO.s rfl rfl rfl (StepS.move rfl) ?_
    refine TO.s rfl rfl rfl (StepS.cvVU kintB_85_u64_true kintB_65_u32_true rfl) ?_
    obtain ⟨⟨r2, r3⟩, hc4, hm⟩ := bind_some hm
    refine TO.q rfl rfl rfl (StepQ.call kcallB_40_true rfl rfl (fun _ st => C40  hc4 st)) ?_
    refine TO.s rfl rfl rfl (StepS.move rfl) ?_
    refine TO.s rfl rfl rfl (StepS.extract rfl rfl) ?_
    refine TO.s rfl rfl rfl (StepS.extract rfl rfl) ?_
    refine TO.s rfl rfl rfl (StepS.assign rfl) ?_
    refine TO.s rfl rfl rfl (StepS.assign rfl) ?_
    refine TO.code ?_
    refine TC.k ?_
    refine TC.region ?_
    refine TO.s rfl rfl rfl (StepS.move rfl) ?_
    refine TO.s rfl rfl rfl (StepS.cvUV kintB_65_u32_true kintB_85_u64_true rfl) ?_
    refine TO.s rfl rfl rfl (StepS.move rfl) ?_
    refine TO.s rfl rfl rfl (StepS.cvUV kintB_65_u32_true kintB_85_u64_true rfl) ?_
    refine TO.s rfl rfl rfl (StepS.assign rfl) ?_
    refine TO.s rfl rfl rfl (StepS.assign rfl) ?_
    refine TO.code ?_
    cases hm
    refine TC.ret fun a w e s => ?_
    refine FRet.mk2 (P := Try.prog) (fn := Try.f39) (t := 4) (u := 5) e rfl rfl rfl ?_
    exact ⟨rfl, s.mono fun _ => Sat.dropN 0⟩
  · replace hm := cond_f hc1 hm
    refine TC.skipk ?_
    refine TC.k ?_
    refine TC.region ?_
    refine TO.s rfl rfl rfl (StepS.move rfl) ?_
    refine TO.s rfl rfl rfl (StepS.move rfl) ?_
    obtain ⟨⟨r5, r6⟩, hc7, hm⟩ := bind_some hm
    refine TO.q rfl rfl rfl (StepQ.call kcallB_41_true rfl rfl (fun _ st => C41  hc7 st)) ?_
    refine TO.s rfl rfl rfl (StepS.move rfl) ?_
    refine TO.s rfl rfl rfl (StepS.extract rfl rfl) ?_
    refine TO.s rfl rfl rfl (StepS.extract rfl rfl) ?_
    refine TO.s rfl rfl rfl (StepS.assign rfl) ?_
    refine TO.s rfl rfl rfl (StepS.assign rfl) ?_
    refine TO.code ?_
    refine TC.k ?_
    refine TC.region ?_
    refine TO.s rfl rfl rfl (StepS.move rfl) ?_
    refine TO.s rfl rfl rfl (StepS.move rfl) ?_
    refine TO.s rfl rfl rfl (StepS.assign rfl) ?_
    refine TO.s rfl rfl rfl (StepS.assign rfl) ?_
    refine TO.code ?_
    cases hm
    refine TC.ret fun a w e s => ?_
    refine FRet.mk2 (P := Try.prog) (fn := Try.f39) (t := 4) (u := 5) e rfl rfl rfl ?_
    exact ⟨rfl, s.mono fun _ => Sat.dropN 0⟩

set_option maxRecDepth 100000 in
theorem C35 {B : World} {L : List HP} {a0 : List Int} {a1 : Int} {h0 : Value} {r0 : List Int} (e0 : Ent L (Rd 1 h0 (a0.map cI))) (hm : F35 a0 a1 = some r0) {w : World} (st : St B L w) : Calls Try.prog 35 #[h0, I a1] w (fun e w' => ∃ v M, e = .returned v ∧ (∃ (qv1 : Value), v = qv1 ∧ M = (OwnS 3 1 qv1 (r0.map cI) :: L)) ∧ St B M w') := by
  refine calls_of (N := 48) (L := L) (args := [h0, I a1]) Try.func35 rfl rfl rfl ?_ st
  dsimp only [F35] at hm
  refine TC.k ?_
  refine TC.region ?_
  refine TO.s rfl rfl rfl (StepS.assign rfl) ?_
  refine TO.code ?_
  refine TC.k ?_
  refine TC.k ?_
  refine TC.region ?_
  refine TO.s rfl rfl rfl (StepS.move rfl) ?_
  refine TO.s rfl rfl rfl (StepS.cmp rfl rfl rfl) ?_
  refine TO.code ?_
  refine TC.cond rfl (fun hc2 => ?_) (fun hc2 => ?_)
  · replace hm := cond_t hc2 hm
    refine TC.region ?_
    cases hm
  · replace hm := cond_f hc2 hm
    refine TC.skipk ?_
    refine TC.k ?_
    refine TC.region ?_
    refine TO.s rfl rfl rfl (StepS.move rfl) ?_
    refine TO.s rfl rfl rfl (StepS.lenm rfl e0 ksliceB_24_3_1_true rfl) ?_
    refine TO.s rfl rfl rfl (StepS.cvIV kintB_3_i64_true kintB_85_u64_true rfl) ?_
    refine TO.s rfl rfl rfl (StepS.move rfl) ?_
    refine TO.s rfl rfl rfl (StepS.cvIV kintB_3_i64_true kintB_85_u64_true rfl) ?_
    obtain ⟨⟨r3, r4⟩, hc5, hm⟩ := bind_some hm
    refine TO.q rfl rfl rfl (StepQ.call kcallB_39_true rfl rfl (fun _ st => C39  hc5 st)) ?_
    refine TO.s rfl rfl rfl (StepS.move rfl) ?_
    refine TO.s rfl rfl rfl (StepS.extract rfl rfl) ?_
    refine TO.s rfl rfl rfl (StepS.extract rfl rfl) ?_
    refine TO.s rfl rfl rfl (StepS.assign rfl) ?_
    refine TO.s rfl rfl rfl (StepS.assign rfl) ?_
    refine TO.code ?_
    refine TC.k ?_
    refine TC.k ?_
    refine TC.region ?_
    refine TO.s rfl rfl rfl (StepS.move rfl) ?_
    refine TO.s rfl rfl rfl (StepS.cmp rfl rfl rfl) ?_
    refine TO.s rfl rfl rfl (StepS.move rfl) ?_
    refine TO.mid1 3 26 (.bool ((decide (r3 > 0)) || (decide (r4 > 9223372036854775807)))) ?_ ?_
    · refine bcase ((decide (r3 > 0))) (fun hb6 => ?_) (fun hb6 => ?_)
      · refine TO.skip rfl rfl rfl (skipT hb6) rfl rfl ?_
        refine TO.skip rfl rfl rfl (skipT hb6) rfl rfl ?_
        refine TO.s rfl rfl rfl (StepS.pickT rfl hb6 rfl) ?_
        exact TO.up1 3 0 rfl rfl (by rw [hb6]; rfl) rfl
      · refine TO.sw rfl rfl rfl hb6 rfl rfl (StepS.move rfl) ?_
        refine TO.sw rfl rfl rfl hb6 rfl rfl (StepS.cmp rfl rfl rfl) ?_
        refine TO.s rfl rfl rfl (StepS.pickF rfl hb6 rfl) ?_
        exact TO.up1 3 0 rfl rfl (by rw [hb6]; rfl) rfl
    refine TO.code ?_
    refine TC.cond rfl (fun hc7 => ?_) (fun hc7 => ?_)
    · replace hm := cond_t hc7 hm
      refine TC.region ?_
      cases hm
    · replace hm := cond_f hc7 hm
      refine TC.skipk ?_
      refine TC.k ?_
      refine TC.region ?_
      refine TO.s rfl rfl rfl (StepS.move rfl) ?_
      refine TO.s rfl rfl rfl (StepS.cvVI kintB_85_u64_true kintB_3_i64_true rfl) ?_
      obtain ⟨y8, hk9, hm⟩ := bind_some hm
      refine TO.mkS (f := cI) (za := 0) kelemB_24_3_1_8_true kinfo_3_bind_zero_some_I_0 rfl (by decide) rfl rfl hk9 rfl fun v10 => ?_
      refine TO.s rfl rfl rfl (StepS.assign rfl) ?_
      refine TO.code ?_
      refine TC.k ?_
      refine TC.region ?_
      refine TO.s rfl rfl rfl (StepS.move rfl) ?_
      refine TO.s rfl rfl rfl (StepS.move rfl) ?_
      refine TO.copyO (f := cI) (l := y8) (m := a0) (o := 0) 0 ksliceB_24_3_1_true ⟨by decide, by omega⟩ rfl subv_self' rfl rfl e0.tl (fun x c hc => by simp [Value.oneCell'] at hc ⊢; first | (obtain rfl := hc; rfl)) rfl rfl ?_
      refine TO.s rfl rfl rfl (StepS.assign rfl) ?_
      refine TO.code ?_
      refine TC.k ?_
      obtain ⟨o17, hw18, hm⟩ := bind_some hm
      refine TC.loop hw18 (fun (y12, x13) => fun a w => Mid 48 B [(7, v10), (8, I x13)] (OwnS 3 1 v10 (y12.map cI) :: L) a w) (fun y16 => fun a w => Mid 48 B [(7, v10)] (OwnS 3 1 v10 (y16.map cI) :: L) a w) (fun (_ : Unit) _ _ => False) ?_ ?_ ?_ ?_
      · rintro ⟨y12, x13⟩ o17r hb19 a w ⟨he, hs⟩
        dsimp only [F35_L0] at hb19
        refine TC.use ?_ he hs
        refine TC.k ?_
        refine TC.k ?_
        refine TC.region ?_
        refine TO.s rfl rfl rfl (StepS.move rfl) ?_
        refine TO.s rfl rfl rfl (StepS.move rfl) ?_
        refine TO.s rfl rfl rfl (StepS.lenm rfl (OwnS.rd (Ent.at 0 rfl)) ksliceB_24_3_1_true rfl) ?_
        refine TO.s rfl rfl rfl (StepS.cmp rfl rfl rfl) ?_
        refine TO.code ?_
        refine TC.cond rfl (fun hc20 => ?_) (fun hc20 => ?_)
        · replace hb19 := cond_t hc20 hb19
          refine TC.skipk ?_
          refine TC.block ?_
          obtain ⟨⟨y22, x23⟩, hj24, hb19⟩ := bind_some hb19
          first | refine TC.cutM (fun a w => Mid 48 B [(7, v10), (8, I x23)] (OwnS 3 1 v10 (y22.map cI) :: L) a w) ?_ ?_ | refine TC.cutX (fun a w => Mid 48 B [(7, v10), (8, I x23)] (OwnS 3 1 v10 (y22.map cI) :: L) a w) ?_ ?_
          · obtain ⟨yq21_3_1, hsq21_3_2, hj24⟩ := bind_some hj24
            obtain ⟨yq21_6_1, hsq21_6_2, hj24⟩ := bind_some hj24
            refine TC.region_any (L) 10 10 kfollows_mixedOrders_true rfl ?_
            refine TA.takeW 0 rfl rfl rfl rfl (StepS.move rfl) (by kernel_rfl) (by kernel_rfl) (by kernel_rfl) rfl (.inr (fun _ s => Sat.by [] 0 1 (by kernel_rfl) s)) ?_
            refine TA.takeW 1 rfl rfl rfl rfl (StepS.move rfl) (by kernel_rfl) (by kernel_rfl) (by kernel_rfl) rfl (.inr (fun _ s => Sat.by [] 0 1 (by kernel_rfl) s)) ?_
            refine TA.takeW 2 rfl rfl rfl rfl (StepS.move rfl) (by kernel_rfl) (by kernel_rfl) (by kernel_rfl) rfl (.inr (fun _ s => Sat.by [] 0 1 (by kernel_rfl) s)) ?_
            refine TA.takeW 4 rfl rfl rfl rfl (StepS.move rfl) (by kernel_rfl) (by kernel_rfl) (by kernel_rfl) rfl (.inr (fun _ s => Sat.by [] 0 1 (by kernel_rfl) s)) ?_
            refine TA.takeW 5 rfl rfl rfl rfl (StepS.move rfl) (by kernel_rfl) (by kernel_rfl) (by kernel_rfl) rfl (.inr (fun _ s => Sat.by [] 0 1 (by kernel_rfl) s)) ?_
            refine TA.all2 (i := 3) (j := 6) (by kernel_rfl) ?_ ?_
            · refine TB.of rfl ?_
              obtain ⟨hsq21_3_2a, hsq21_3_2b, hsq21_3_2c, _⟩ := slI_spec hsq21_3_2
              refine TO.s rfl rfl rfl (StepS.slc rfl (OwnS.rd (Ent.at 0 rfl)) ksliceB_24_3_1_true rfl (by simp [bnd]) hsq21_3_2a hsq21_3_2b (by simpa using hsq21_3_2c)) ?_
              refine TA.back (.inr (fun _ s => Sat.by [] 0 1 (by kernel_rfl) s)) ?_
              refine TA.asL (L' := (OwnS 3 1 v10 (y12.map cI) :: L)) (listed' := #[true, true, true, true, true, true, false, false, false, false]) (by kernel_rfl) (by kernel_rfl) ?_
              refine TA.all1 (i := 6) (by kernel_rfl) ?_
              refine TB.of rfl ?_
              obtain ⟨hsq21_6_2a, hsq21_6_2b, hsq21_6_2c, _⟩ := slI_spec hsq21_6_2
              refine TO.s rfl rfl rfl (StepS.slc rfl (OwnS.rd (Ent.at 0 rfl)) ksliceB_24_3_1_true rfl rfl hsq21_6_2a hsq21_6_2b (by simpa using hsq21_6_2c)) ?_
              refine TA.back (.inr (fun _ s => Sat.by [] 0 1 (by kernel_rfl) s)) ?_
              refine TA.asL (L' := (OwnS 3 1 v10 (y12.map cI) :: L)) (listed' := #[true, true, true, true, true, true, true, false, false, false]) (by kernel_rfl) (by kernel_rfl) ?_
              refine TA.all1 (i := 7) (by kernel_rfl) ?_
              refine TB.of rfl ?_
              refine TO.copyO (f := cI) (l := y12) (m := yq21_6_1) (o := x13) 0 ksliceB_24_3_1_true ⟨hsq21_3_2a, hsq21_3_2b⟩ rfl (fun _ _ => rfl) rfl rfl (Ent.sub (OwnS.rd (Ent.at 0 rfl)) hsq21_6_2) (fun x c hc => by simp [Value.oneCell'] at hc ⊢; first | (obtain rfl := hc; rfl)) rfl rfl ?_
              refine TA.back (.inr (fun _ s => Sat.by [] 0 1 (by kernel_rfl) s)) ?_
              refine TA.asL (L' := (OwnS 3 1 v10 ((cpy y12 x13.toNat yq21_6_1).map cI) :: L)) (listed' := #[true, true, true, true, true, true, true, true, false, false]) (by kernel_rfl) (by kernel_rfl) ?_
              refine TA.takeW 8 rfl rfl rfl rfl (StepS.ari rfl rfl rfl) (by kernel_rfl) (by kernel_rfl) (by kernel_rfl) rfl (.inr (fun _ s => Sat.by [] 0 1 (by kernel_rfl) s)) ?_
              refine TA.takeW 9 rfl rfl rfl rfl (StepS.assign rfl) (by kernel_rfl) (by kernel_rfl) (by kernel_rfl) rfl (.inr (fun _ s => Sat.by [] 0 1 (by kernel_rfl) s)) ?_
              cases hj24
              refine TA.nil (by kernel_rfl) fun a w e s => ?_
              exact ⟨e.sub (lk_of_allIn ⟨rfl, rfl, trivial⟩), s⟩
            · refine TB.of rfl ?_
              obtain ⟨hsq21_6_2a, hsq21_6_2b, hsq21_6_2c, _⟩ := slI_spec hsq21_6_2
              refine TO.s rfl rfl rfl (StepS.slc rfl (OwnS.rd (Ent.at 0 rfl)) ksliceB_24_3_1_true rfl rfl hsq21_6_2a hsq21_6_2b (by simpa using hsq21_6_2c)) ?_
              refine TA.back (.inr (fun _ s => Sat.by [] 0 1 (by kernel_rfl) s)) ?_
              refine TA.asL (L' := (OwnS 3 1 v10 (y12.map cI) :: L)) (listed' := #[true, true, true, false, true, true, true, false, false, false]) (by kernel_rfl) (by kernel_rfl) ?_
              refine TA.all1 (i := 3) (by kernel_rfl) ?_
              refine TB.of rfl ?_
              obtain ⟨hsq21_3_2a, hsq21_3_2b, hsq21_3_2c, _⟩ := slI_spec hsq21_3_2
              refine TO.s rfl rfl rfl (StepS.slc rfl (OwnS.rd (Ent.at 0 rfl)) ksliceB_24_3_1_true rfl (by simp [bnd]) hsq21_3_2a hsq21_3_2b (by simpa using hsq21_3_2c)) ?_
              refine TA.back (.inr (fun _ s => Sat.by [] 0 1 (by kernel_rfl) s)) ?_
              refine TA.asL (L' := (OwnS 3 1 v10 (y12.map cI) :: L)) (listed' := #[true, true, true, true, true, true, true, false, false, false]) (by kernel_rfl) (by kernel_rfl) ?_
              refine TA.all1 (i := 7) (by kernel_rfl) ?_
              refine TB.of rfl ?_
              refine TO.copyO (f := cI) (l := y12) (m := yq21_6_1) (o := x13) 0 ksliceB_24_3_1_true ⟨hsq21_3_2a, hsq21_3_2b⟩ rfl (fun _ _ => rfl) rfl rfl (Ent.sub (OwnS.rd (Ent.at 0 rfl)) hsq21_6_2) (fun x c hc => by simp [Value.oneCell'] at hc ⊢; first | (obtain rfl := hc; rfl)) rfl rfl ?_
              refine TA.back (.inr (fun _ s => Sat.by [] 0 1 (by kernel_rfl) s)) ?_
              refine TA.asL (L' := (OwnS 3 1 v10 ((cpy y12 x13.toNat yq21_6_1).map cI) :: L)) (listed' := #[true, true, true, true, true, true, true, true, false, false]) (by kernel_rfl) (by kernel_rfl) ?_
              refine TA.takeW 8 rfl rfl rfl rfl (StepS.ari rfl rfl rfl) (by kernel_rfl) (by kernel_rfl) (by kernel_rfl) rfl (.inr (fun _ s => Sat.by [] 0 1 (by kernel_rfl) s)) ?_
              refine TA.takeW 9 rfl rfl rfl rfl (StepS.assign rfl) (by kernel_rfl) (by kernel_rfl) (by kernel_rfl) rfl (.inr (fun _ s => Sat.by [] 0 1 (by kernel_rfl) s)) ?_
              cases hj24
              refine TA.nil (by kernel_rfl) fun a w e s => ?_
              exact ⟨e.sub (lk_of_allIn ⟨rfl, rfl, trivial⟩), s⟩
          · intro a w ⟨he, hs⟩
            cases hb19
            have e := he; have s := hs
            exact ⟨e.sub (lk_of_allIn ⟨rfl, rfl, trivial⟩), s⟩
        · replace hb19 := cond_f hc20 hb19
          cases hb19
          refine TC.exit rfl fun a w e s => ?_
          exact ⟨e.sub (lk_of_allIn ⟨rfl, trivial⟩), s⟩
      · exact fun a w e s => ⟨e.sub (lk_of_allIn ⟨rfl, rfl, trivial⟩), s⟩
      · rintro y16 rfl a w ⟨he, hs⟩
        dsimp only [Ctl.on] at hm
        refine TC.use ?_ he hs
        refine TC.k ?_
        refine TC.region ?_
        refine TO.s rfl rfl rfl (StepS.move rfl) ?_
        refine TO.s rfl rfl rfl (StepS.assign rfl) ?_
        refine TO.code ?_
        cases hm
        refine TC.ret fun a w e s => ?_
        refine FRet.mk1 (P := Try.prog) (fn := Try.f35) (t := 4) e rfl rfl ?_
        refine ⟨_, _, rfl, ⟨(v10), rfl, rfl⟩, ?_⟩
        refine s.mono fun _ s => ?_
        replace s := Sat.front 0 rfl s
        exact s
      · rintro r rfl
        exact fun a w h => h.elim

set_option maxRecDepth 100000 in
theorem C29 {B : World} {L : List HP} {a0 : List ((List (Int × Int)) × Int × (List Int) × List Int)} {a1 : Int} {b0_ : Nat} {u0_0 : Value} {h0_1 : Value} {h0_2 : List (List Value)} {s0 : List ((List (Int × Int)) × Int × (List Int) × List Int)} (hm : F29 a0 a1 = some s0) {w : World} (st : St B (Bx b0_ 43 [u0_0, h0_1] :: SN 48 4 nT48 h0_1 h0_2 (a0) :: L) w) : Calls Try.prog 29 #[.pointer (some ⟨b0_, 0, none⟩), I a1] w (fun e w' => ∃ v M, e = .returned v ∧ (∃ (qhs1 : List (List Value)), v = .tuple #[] ∧ M = (Bx b0_ 43 [u0_0, h0_1] :: SN 48 4 nT48 h0_1 qhs1 (s0) :: L)) ∧ St B M w') := by
  refine calls_of (N := 40) (L := (Bx b0_ 43 [u0_0, h0_1] :: SN 48 4 nT48 h0_1 h0_2 (a0) :: L)) (args := [.pointer (some ⟨b0_, 0, none⟩), I a1]) Try.func29 rfl rfl rfl ?_ st
  dsimp only [F29] at hm
  refine TC.k ?_
  refine TC.region_any (Bx b0_ 43 [u0_0, h0_1] :: SN 48 4 nT48 h0_1 h0_2 (a0) :: L) 13 14 kfollows_mixedOrders_true rfl ?_
  refine TA.takeW 0 rfl rfl rfl rfl (StepS.move rfl) (by kernel_rfl) (by kernel_rfl) (by kernel_rfl) rfl (.inr (fun _ s => s)) ?_
  refine TA.takeW 1 rfl rfl rfl rfl (StepS.nilc rfl) (by kernel_rfl) (by kernel_rfl) (by kernel_rfl) rfl (.inr (fun _ s => s)) ?_
  refine TA.takeW 2 rfl rfl rfl rfl (StepS.fld rfl kfieldB_43_1_1_true) (by kernel_rfl) (by kernel_rfl) (by kernel_rfl) rfl (.inr (fun _ s => s)) ?_
  refine TA.take 3 rfl rfl rfl rfl (StepS.ldB rfl (Ent.at 0 rfl) kscalB_41_true rfl) (by kernel_rfl) (by kernel_rfl) (by kernel_rfl) (by kernel_rfl) (by kernel_rfl) (fun _ s => s) ?_
  refine TA.takeW 4 rfl rfl rfl rfl (StepS.move rfl) (by kernel_rfl) (by kernel_rfl) (by kernel_rfl) rfl (.inr (fun _ s => s)) ?_
  refine TA.takeW 5 rfl rfl rfl rfl (StepS.move rfl) (by kernel_rfl) (by kernel_rfl) (by kernel_rfl) rfl (.inr (fun _ s => s)) ?_
  refine TA.takeW 6 rfl rfl rfl rfl (StepS.nilc rfl) (by kernel_rfl) (by kernel_rfl) (by kernel_rfl) rfl (.inr (fun _ s => s)) ?_
  refine TA.takeW 7 rfl rfl rfl rfl (StepS.fld rfl kfieldB_43_1_1_true) (by kernel_rfl) (by kernel_rfl) (by kernel_rfl) rfl (.inr (fun _ s => s)) ?_
  refine TA.take 8 rfl rfl rfl rfl (StepS.ldB rfl (Ent.at 0 rfl) kscalB_41_true rfl) (by kernel_rfl) (by kernel_rfl) (by kernel_rfl) (by kernel_rfl) (by kernel_rfl) (fun _ s => s) ?_
  refine TA.take 9 rfl rfl rfl rfl (StepS.lenN rfl (Ent.at 1 rfl) ksliceB_41_48_4_true rfl) (by kernel_rfl) (by kernel_rfl) (by kernel_rfl) (by kernel_rfl) (by kernel_rfl) (fun _ s => s) ?_
  refine TA.all1 (i := 10) (by kernel_rfl) ?_
  refine TB.of rfl ?_
  obtain ⟨yq3_10_1, hkq3_10_2, hm⟩ := bind_some hm
  refine TO.mkS (f := cI) (za := 0) kelemB_24_3_1_8_true kinfo_3_bind_zero_some_I_0 rfl (by decide) rfl rfl hkq3_10_2 rfl fun vq3_10_3 => ?_
  refine TA.back (.inr (fun _ s => Sat.by [2, 2] 2 1 (by kernel_rfl) s)) ?_
  refine TA.asL (L' := (OwnS 3 1 vq3_10_3 (yq3_10_1.map cI) :: Bx b0_ 43 [u0_0, h0_1] :: SN 48 4 nT48 h0_1 h0_2 (a0) :: L)) (listed' := #[true, true, true, true, true, true, true, true, true, true, true, false, false, false]) (by kernel_rfl) (by kernel_rfl) ?_
  refine TA.all1 (i := 11) (by kernel_rfl) ?_
  refine TB.of rfl ?_
  obtain ⟨xq3_11_1, hxq3_11_2, hm⟩ := bind_some hm
  refine TO.s rfl rfl rfl (StepS.idxN rfl rfl (Ent.at 2 rfl) ksliceB_41_48_4_true hxq3_11_2) ?_
  refine TA.back (.inr (fun _ s => Sat.by [2, 2] 2 1 (by kernel_rfl) s)) ?_
  refine TA.asL (L' := (OwnS 3 1 vq3_10_3 (yq3_10_1.map cI) :: Bx b0_ 43 [u0_0, h0_1] :: SN 48 4 nT48 h0_1 h0_2 (a0) :: L)) (listed' := #[true, true, true, true, true, true, true, true, true, true, true, true, false, false]) (by kernel_rfl) (by kernel_rfl) ?_
  refine TA.takeW 12 rfl rfl rfl rfl (StepS.ptrf rfl kfieldB_48_2_2_true) (by kernel_rfl) (by kernel_rfl) (by kernel_rfl) rfl (.inr (fun _ s => Sat.by [2, 2] 2 1 (by kernel_rfl) s)) ?_
  refine TA.all1 (i := 13) (by kernel_rfl) ?_
  refine TB.of rfl ?_
  refine TO.ghost (fun _ s => Sat.front 2 rfl s) ?_
  refine TO.openN (L' := (OwnS 52 2 (cv (gr h0_2 a1.toNat) 0) (xq3_11_1.1.map cTii) :: OwnS 3 1 (cv (gr h0_2 a1.toNat) 1) (xq3_11_1.2.2.1.map cI) :: OwnS 3 1 (cv (gr h0_2 a1.toNat) 2) (xq3_11_1.2.2.2.map cI) :: SNh 48 4 nT48 h0_1 h0_2 (a0) a1.toNat [(cv (gr h0_2 a1.toNat) 0), I xq3_11_1.2.1, (cv (gr h0_2 a1.toNat) 1), (cv (gr h0_2 a1.toNat) 2)] :: OwnS 3 1 vq3_10_3 (yq3_10_1.map cI) :: Bx b0_ 43 [u0_0, h0_1] :: L)) rfl hxq3_11_2 rfl ?_
  refine TO.pure (fun _ s => Rd.one (OwnS.rd (Ent.at 4 rfl)) s) fun ocq3_13_4 => ?_
  refine TO.ghost (fun _ s => Sat.front 3 rfl s) ?_
  refine TO.stNh (i := a1) (off := 2) (us := [vq3_10_3]) (cs' := [(cv (gr h0_2 a1.toNat) 0), I xq3_11_1.2.1, vq3_10_3, (cv (gr h0_2 a1.toNat) 2)]) rfl rfl ksizeB_24_1_true ocq3_13_4.2 rfl rfl hxq3_11_2 rfl (by intro u hu; simp only [List.mem_cons, List.not_mem_nil, or_false] at hu; rcases hu with rfl <;> first | exact ocq3_13_4.1 | rfl) rfl ?_
  refine TO.ghost (fun _ s => Sat.front 3 rfl s) ?_
  refine TO.ghost (fun _ s => Sat.front 4 rfl s) ?_
  refine TO.ghost (fun _ s => Sat.front 3 rfl s) ?_
  obtain ⟨yq3_13_6, hyq3_13_7, hm⟩ := bind_some hm
  refine TO.closeN (T := nT48) (cs := [(cv (gr h0_2 a1.toNat) 0), I xq3_11_1.2.1, vq3_10_3, (cv (gr h0_2 a1.toNat) 2)]) [(cv (gr h0_2 a1.toNat) 0), vq3_10_3, (cv (gr h0_2 a1.toNat) 2)] (xq3_11_1.1, xq3_11_1.2.1, yq3_10_1, xq3_11_1.2.2.2) rfl rfl hxq3_11_2 (Option.some.inj hyq3_13_7) fun hsq3_13_5 => ?_
  refine TA.back (.inl (by kernel_rfl)) ?_
  refine TA.asL (L' := (SN 48 4 nT48 h0_1 hsq3_13_5 (yq3_13_6) :: OwnS 3 1 (cv (gr h0_2 a1.toNat) 1) (xq3_11_1.2.2.1.map cI) :: Bx b0_ 43 [u0_0, h0_1] :: L)) (listed' := #[true, true, true, true, true, true, true, true, true, true, true, true, true, true]) (by kernel_rfl) (by kernel_rfl) ?_
  refine TA.code (by kernel_rfl) ?_
  refine TC.region_any (SN 48 4 nT48 h0_1 hsq3_13_5 (yq3_13_6) :: OwnS 3 1 (cv (gr h0_2 a1.toNat) 1) (xq3_11_1.2.2.1.map cI) :: Bx b0_ 43 [u0_0, h0_1] :: L) 23 24 kfollows_mixedOrders_true rfl ?_
  refine TA.takeW 0 rfl rfl rfl rfl (StepS.move rfl) (by kernel_rfl) (by kernel_rfl) (by kernel_rfl) rfl (.inr (fun _ s => s)) ?_
  refine TA.takeW 1 rfl rfl rfl rfl (StepS.nilc rfl) (by kernel_rfl) (by kernel_rfl) (by kernel_rfl) rfl (.inr (fun _ s => s)) ?_
  refine TA.takeW 2 rfl rfl rfl rfl (StepS.fld rfl kfieldB_43_1_1_true) (by kernel_rfl) (by kernel_rfl) (by kernel_rfl) rfl (.inr (fun _ s => s)) ?_
  refine TA.take 3 rfl rfl rfl rfl (StepS.ldB rfl (Ent.at 2 rfl) kscalB_41_true rfl) (by kernel_rfl) (by kernel_rfl) (by kernel_rfl) (by kernel_rfl) (by kernel_rfl) (fun _ s => s) ?_
  refine TA.takeW 4 rfl rfl rfl rfl (StepS.move rfl) (by kernel_rfl) (by kernel_rfl) (by kernel_rfl) rfl (.inr (fun _ s => s)) ?_
  refine TA.takeW 5 rfl rfl rfl rfl (StepS.move rfl) (by kernel_rfl) (by kernel_rfl) (by kernel_rfl) rfl (.inr (fun _ s => s)) ?_
  refine TA.takeW 6 rfl rfl rfl rfl (StepS.nilc rfl) (by kernel_rfl) (by kernel_rfl) (by kernel_rfl) rfl (.inr (fun _ s => s)) ?_
  refine TA.takeW 7 rfl rfl rfl rfl (StepS.fld rfl kfieldB_43_1_1_true) (by kernel_rfl) (by kernel_rfl) (by kernel_rfl) rfl (.inr (fun _ s => s)) ?_
  refine TA.take 8 rfl rfl rfl rfl (StepS.ldB rfl (Ent.at 2 rfl) kscalB_41_true rfl) (by kernel_rfl) (by kernel_rfl) (by kernel_rfl) (by kernel_rfl) (by kernel_rfl) (fun _ s => s) ?_
  refine TA.takeW 9 rfl rfl rfl rfl (StepS.move rfl) (by kernel_rfl) (by kernel_rfl) (by kernel_rfl) rfl (.inr (fun _ s => s)) ?_
  obtain ⟨xq4_10_1, hxq4_10_2, hm⟩ := bind_some hm
  refine TA.take 10 rfl rfl rfl rfl (StepS.idxN rfl rfl (Ent.at 0 rfl) ksliceB_41_48_4_true hxq4_10_2) (by kernel_rfl) (by kernel_rfl) (by kernel_rfl) (by kernel_rfl) (by kernel_rfl) (fun _ s => s) ?_
  refine TA.takeW 11 rfl rfl rfl rfl (StepS.ptrf rfl kfieldB_48_0_0_true) (by kernel_rfl) (by kernel_rfl) (by kernel_rfl) rfl (.inr (fun _ s => s)) ?_
  refine TA.take 12 rfl rfl rfl rfl (StepS.ldN (j := 0) rfl (Ent.at 0 rfl) kscalB_36_true hxq4_10_2 rfl rfl) (by kernel_rfl) (by kernel_rfl) (by kernel_rfl) (by kernel_rfl) (by kernel_rfl) (fun _ s => s) ?_
  refine TA.take 13 rfl rfl rfl rfl (StepS.lenm rfl (OwnS.rd (SN.piece (Ent.at 0 rfl) hxq4_10_2 0 rfl)) ksliceB_36_52_2_true rfl) (by kernel_rfl) (by kernel_rfl) (by kernel_rfl) (by kernel_rfl) (by kernel_rfl) (fun _ s => s) ?_
  refine TA.takeW 15 rfl rfl rfl rfl (StepS.move rfl) (by kernel_rfl) (by kernel_rfl) (by kernel_rfl) rfl (.inr (fun _ s => s)) ?_
  refine TA.takeW 16 rfl rfl rfl rfl (StepS.nilc rfl) (by kernel_rfl) (by kernel_rfl) (by kernel_rfl) rfl (.inr (fun _ s => s)) ?_
  refine TA.takeW 17 rfl rfl rfl rfl (StepS.fld rfl kfieldB_43_1_1_true) (by kernel_rfl) (by kernel_rfl) (by kernel_rfl) rfl (.inr (fun _ s => s)) ?_
  refine TA.take 18 rfl rfl rfl rfl (StepS.ldB rfl (Ent.at 2 rfl) kscalB_41_true rfl) (by kernel_rfl) (by kernel_rfl) (by kernel_rfl) (by kernel_rfl) (by kernel_rfl) (fun _ s => s) ?_
  refine TA.take 19 rfl rfl rfl rfl (StepS.lenN rfl (Ent.at 0 rfl) ksliceB_41_48_4_true rfl) (by kernel_rfl) (by kernel_rfl) (by kernel_rfl) (by kernel_rfl) (by kernel_rfl) (fun _ s => s) ?_
  refine TA.all1 (i := 14) (by kernel_rfl) ?_
  refine TB.of rfl ?_
  refine TO.litS (f := cI) ([(xq4_10_1.1.length : Int)] : List Int) kelemB_24_3_1_8_true kinfo_3_bind_zero_some_I_0 rfl rfl (fun _ => rfl) rfl rfl (by kernel_rfl) rfl fun vq4_14_1 => ?_
  refine TA.back (.inr (fun _ s => Sat.by [3, 3, 3] 3 1 (by kernel_rfl) s)) ?_
  refine TA.asL (L' := (OwnS 3 1 vq4_14_1 (([(xq4_10_1.1.length : Int)] : List Int).map cI) :: SN 48 4 nT48 h0_1 hsq3_13_5 (yq3_13_6) :: OwnS 3 1 (cv (gr h0_2 a1.toNat) 1) (xq3_11_1.2.2.1.map cI) :: Bx b0_ 43 [u0_0, h0_1] :: L)) (listed' := #[true, true, true, true, true, true, true, true, true, true, true, true, true, true, true, true, true, true, true, true, false, false, false, false]) (by kernel_rfl) (by kernel_rfl) ?_
  refine TA.all1 (i := 20) (by kernel_rfl) ?_
  refine TB.of rfl ?_
  obtain ⟨rq4_20_1, hcq4_20_2, hm⟩ := bind_some hm
  refine TO.callO kcallB_35_true rfl rfl rfl (fun _ st => C35 (OwnS.rd (Ent.at 0 rfl)) hcq4_20_2 st) ?_
  rintro vq4_20_3 _ ⟨_, rfl, rfl⟩
  refine TA.back (.inr (fun _ s => Sat.by [4, 4, 4] 3 2 (by kernel_rfl) s)) ?_
  refine TA.asL (L' := (OwnS 3 1 vq4_20_3 (rq4_20_1.map cI) :: OwnS 3 1 vq4_14_1 (([(xq4_10_1.1.length : Int)] : List Int).map cI) :: SN 48 4 nT48 h0_1 hsq3_13_5 (yq3_13_6) :: OwnS 3 1 (cv (gr h0_2 a1.toNat) 1) (xq3_11_1.2.2.1.map cI) :: Bx b0_ 43 [u0_0, h0_1] :: L)) (listed' := #[true, true, true, true, true, true, true, true, true, true, true, true, true, true, true, true, true, true, true, true, true, false, false, false]) (by kernel_rfl) (by kernel_rfl) ?_
  refine TA.all1 (i := 21) (by kernel_rfl) ?_
  refine TB.of rfl ?_
  obtain ⟨xq4_21_1, hxq4_21_2, hm⟩ := bind_some hm
  refine TO.s rfl rfl rfl (StepS.idxN rfl rfl (Ent.at 2 rfl) ksliceB_41_48_4_true hxq4_21_2) ?_
  refine TA.back (.inr (fun _ s => Sat.by [4, 4, 4] 3 2 (by kernel_rfl) s)) ?_
  refine TA.asL (L' := (OwnS 3 1 vq4_20_3 (rq4_20_1.map cI) :: OwnS 3 1 vq4_14_1 (([(xq4_10_1.1.length : Int)] : List Int).map cI) :: SN 48 4 nT48 h0_1 hsq3_13_5 (yq3_13_6) :: OwnS 3 1 (cv (gr h0_2 a1.toNat) 1) (xq3_11_1.2.2.1.map cI) :: Bx b0_ 43 [u0_0, h0_1] :: L)) (listed' := #[true, true, true, true, true, true, true, true, true, true, true, true, true, true, true, true, true, true, true, true, true, true, false, false]) (by kernel_rfl) (by kernel_rfl) ?_
  refine TA.takeW 22 rfl rfl rfl rfl (StepS.ptrf rfl kfieldB_48_3_3_true) (by kernel_rfl) (by kernel_rfl) (by kernel_rfl) rfl (.inr (fun _ s => Sat.by [4, 4, 4] 3 2 (by kernel_rfl) s)) ?_
  refine TA.all1 (i := 23) (by kernel_rfl) ?_
  refine TB.of rfl ?_
  refine TO.ghost (fun _ s => Sat.front 2 rfl s) ?_
  refine TO.openN (L' := (OwnS 52 2 (cv (gr hsq3_13_5 a1.toNat) 0) (xq4_21_1.1.map cTii) :: OwnS 3 1 (cv (gr hsq3_13_5 a1.toNat) 1) (xq4_21_1.2.2.1.map cI) :: OwnS 3 1 (cv (gr hsq3_13_5 a1.toNat) 2) (xq4_21_1.2.2.2.map cI) :: SNh 48 4 nT48 h0_1 hsq3_13_5 (yq3_13_6) a1.toNat [(cv (gr hsq3_13_5 a1.toNat) 0), I xq4_21_1.2.1, (cv (gr hsq3_13_5 a1.toNat) 1), (cv (gr hsq3_13_5 a1.toNat) 2)] :: OwnS 3 1 vq4_20_3 (rq4_20_1.map cI) :: OwnS 3 1 vq4_14_1 (([(xq4_10_1.1.length : Int)] : List Int).map cI) :: OwnS 3 1 (cv (gr h0_2 a1.toNat) 1) (xq3_11_1.2.2.1.map cI) :: Bx b0_ 43 [u0_0, h0_1] :: L)) rfl hxq4_21_2 rfl ?_
  refine TO.pure (fun _ s => Rd.one (OwnS.rd (Ent.at 4 rfl)) s) fun ocq4_23_4 => ?_
  refine TO.ghost (fun _ s => Sat.front 3 rfl s) ?_
  refine TO.stNh (i := a1) (off := 3) (us := [vq4_20_3]) (cs' := [(cv (gr hsq3_13_5 a1.toNat) 0), I xq4_21_1.2.1, (cv (gr hsq3_13_5 a1.toNat) 1), vq4_20_3]) rfl rfl ksizeB_24_1_true ocq4_23_4.2 rfl rfl hxq4_21_2 rfl (by intro u hu; simp only [List.mem_cons, List.not_mem_nil, or_false] at hu; rcases hu with rfl <;> first | exact ocq4_23_4.1 | rfl) rfl ?_
  refine TO.ghost (fun _ s => Sat.front 4 rfl s) ?_
  refine TO.ghost (fun _ s => Sat.front 3 rfl s) ?_
  refine TO.ghost (fun _ s => Sat.front 3 rfl s) ?_
  obtain ⟨yq4_23_6, hyq4_23_7, hm⟩ := bind_some hm
  refine TO.closeN (T := nT48) (cs := [(cv (gr hsq3_13_5 a1.toNat) 0), I xq4_21_1.2.1, (cv (gr hsq3_13_5 a1.toNat) 1), vq4_20_3]) [(cv (gr hsq3_13_5 a1.toNat) 0), (cv (gr hsq3_13_5 a1.toNat) 1), vq4_20_3] (xq4_21_1.1, xq4_21_1.2.1, xq4_21_1.2.2.1, rq4_20_1) rfl rfl hxq4_21_2 (Option.some.inj hyq4_23_7) fun hsq4_23_5 => ?_
  refine TA.back (.inl (by kernel_rfl)) ?_
  refine TA.asL (L' := (SN 48 4 nT48 h0_1 hsq4_23_5 (yq4_23_6) :: OwnS 3 1 (cv (gr hsq3_13_5 a1.toNat) 2) (xq4_21_1.2.2.2.map cI) :: OwnS 3 1 vq4_14_1 (([(xq4_10_1.1.length : Int)] : List Int).map cI) :: OwnS 3 1 (cv (gr h0_2 a1.toNat) 1) (xq3_11_1.2.2.1.map cI) :: Bx b0_ 43 [u0_0, h0_1] :: L)) (listed' := #[true, true, true, true, true, true, true, true, true, true, true, true, true, true, true, true, true, true, true, true, true, true, true, true]) (by kernel_rfl) (by kernel_rfl) ?_
  cases hm
  refine TA.nil (by kernel_rfl) fun a w e s => ?_
  refine FRet.mk0 (P := Try.prog) (fn := Try.f29) e rfl ?_
  refine ⟨_, _, rfl, ⟨(hsq4_23_5), rfl, rfl⟩, ?_⟩
  refine s.mono fun _ s => ?_
  replace s := Sat.front 0 rfl s
  replace s := Sat.front 4 rfl s
  replace s := Sat.erase 2 s
  replace s := Sat.erase 2 s
  replace s := Sat.erase 2 s
  exact s

set_option maxRecDepth 100000 in
theorem C19 {B : World} {L : List HP} {a0 : ((List (Int × Int × Int × BitVec 32)) × List (Int × Int)) × List ((List (Int × Int)) × Int × (List Int) × List Int)} {a1 : Int} {b0_ : Nat} {h0_1 : Nat} {h0_2 : Value} {h0_3 : Value} {h0_4 : Value} {h0_5 : List (List Value)} {r0 : Int} {s0 : ((List (Int × Int × Int × BitVec 32)) × List (Int × Int)) × List ((List (Int × Int)) × Int × (List Int) × List Int)} (hm : F19 a0 a1 = some (r0, s0)) {w : World} (st : St B (Bx b0_ 43 [.pointer (some ⟨h0_1, 0, none⟩), h0_4] :: Bx h0_1 64 [h0_2, h0_3] :: OwnS 67 4 h0_2 (a0.1.1.map cTiiiiu32) :: OwnS 79 2 h0_3 (a0.1.2.map cTii) :: SN 48 4 nT48 h0_4 h0_5 (a0.2) :: L) w) : Calls Try.prog 19 #[.pointer (some ⟨b0_, 0, none⟩), I a1] w (fun e w' => ∃ v M, e = .returned v ∧ (∃ (qv1 : Value) (qhs2 : List (List Value)), v = I r0 ∧ M = (Bx b0_ 43 [.pointer (some ⟨h0_1, 0, none⟩), h0_4] :: Bx h0_1 64 [h0_2, qv1] :: OwnS 67 4 h0_2 (s0.1.1.map cTiiiiu32) :: OwnS 79 2 qv1 (s0.1.2.map cTii) :: SN 48 4 nT48 h0_4 qhs2 (s0.2) :: L)) ∧ St B M w') := by
  refine calls_of (N := 27) (L := (Bx b0_ 43 [.pointer (some ⟨h0_1, 0, none⟩), h0_4] :: Bx h0_1 64 [h0_2, h0_3] :: OwnS 67 4 h0_2 (a0.1.1.map cTiiiiu32) :: OwnS 79 2 h0_3 (a0.1.2.map cTii) :: SN 48 4 nT48 h0_4 h0_5 (a0.2) :: L)) (args := [.pointer (some ⟨b0_, 0, none⟩), I a1]) Try.func19 rfl rfl rfl ?_ st
  dsimp only [F19] at hm
  refine TC.k ?_
  refine TC.region ?_
  refine TO.s rfl rfl rfl (StepS.assign rfl) ?_
  refine TO.code ?_
  refine TC.k ?_
  refine TC.region ?_
  refine TO.s rfl rfl rfl (StepS.move rfl) ?_
  refine TO.s rfl rfl rfl (StepS.nilc rfl) ?_
  refine TO.s rfl rfl rfl (StepS.fld rfl kfieldB_43_0_0_true) ?_
  refine TO.s rfl rfl rfl (StepS.ldB rfl (Ent.at 0 rfl) kscalB_39_true rfl) ?_
  refine TO.s rfl rfl rfl (StepS.move rfl) ?_
  refine TO.ghost (fun _ s => Sat.front 3 rfl s) ?_
  refine TO.ghost (fun _ s => Sat.front 3 rfl s) ?_
  refine TO.ghost (fun _ s => Sat.front 3 rfl s) ?_
  obtain ⟨⟨r7, r8⟩, hc9, hm⟩ := bind_some hm
  refine TO.callO kcallB_28_true rfl rfl rfl (fun _ st => C28 (a0 := (a0.1.1, a0.1.2))  hc9 st) ?_
  rintro _ _ ⟨v11, rfl, rfl⟩
  refine TO.s rfl rfl rfl (StepS.assign rfl) ?_
  refine TO.code ?_
  refine TC.k ?_
  refine TC.k ?_
  refine TC.region ?_
  refine TO.s rfl rfl rfl (StepS.move rfl) ?_
  refine TO.s rfl rfl rfl (StepS.cmp rfl rfl rfl) ?_
  refine TO.s rfl rfl rfl (StepS.move rfl) ?_
  obtain ⟨b14, hj15, hm⟩ := bind_some hm
  refine TO.mid1 8 22 (.bool b14) ?_ ?_
  · refine bcase ((r7 == 0)) (fun hb13 => ?_) (fun hb13 => ?_)
    · replace hj15 := cond_t hb13 hj15
      refine TO.sw rfl rfl rfl hb13 rfl rfl (StepS.move rfl) ?_
      refine TO.sw rfl rfl rfl hb13 rfl rfl (StepS.nilc rfl) ?_
      refine TO.sw rfl rfl rfl hb13 rfl rfl (StepS.fld rfl kfieldB_43_0_0_true) ?_
      refine TO.sw rfl rfl rfl hb13 rfl rfl (StepS.ldB rfl (Ent.at 3 rfl) kscalB_39_true rfl) ?_
      refine TO.sw rfl rfl rfl hb13 rfl rfl (StepS.move rfl) ?_
      obtain ⟨r16, hc17, hj15⟩ := bind_some hj15
      refine TO.qw rfl rfl rfl hb13 rfl rfl (StepQ.call kcallB_13_true rfl rfl (fun _ st => C13 (Ent.at 0 rfl) (OwnS.rd (Ent.at 1 rfl)) (OwnS.rd (Ent.at 2 rfl)) hc17 st)) ?_
      refine TO.sw rfl rfl rfl hb13 rfl rfl (StepS.cmp rfl rfl rfl) ?_
      cases hj15
      refine TO.s rfl rfl rfl (StepS.pickT rfl hb13 rfl) ?_
      exact TO.up1 8 0 rfl rfl rfl rfl
    · replace hj15 := cond_f hb13 hj15
      cases hj15
      refine TO.skip rfl rfl rfl (skipF hb13) rfl rfl ?_
      refine TO.skip rfl rfl rfl (skipF hb13) rfl rfl ?_
      refine TO.skip rfl rfl rfl (skipF hb13) rfl rfl ?_
      refine TO.skip rfl rfl rfl (skipF hb13) rfl rfl ?_
      refine TO.skip rfl rfl rfl (skipF hb13) rfl rfl ?_
      refine TO.skip rfl rfl rfl (skipF hb13) rfl rfl ?_
      refine TO.skip rfl rfl rfl (skipF hb13) rfl rfl ?_
      refine TO.s rfl rfl rfl (StepS.pickF rfl hb13 rfl) ?_
      exact TO.up1 8 0 rfl rfl rfl rfl
  refine TO.code ?_
  obtain ⟨y18, hj20, hm⟩ := bind_some hm
  first | refine TC.cutM (fun a w => ∃ hs19 : List (List Value), Mid 27 B [(5, I r7)] (Bx h0_1 64 [h0_2, v11] :: OwnS 67 4 h0_2 (r8.1.map cTiiiiu32) :: OwnS 79 2 v11 (r8.2.map cTii) :: Bx b0_ 43 [.pointer (some ⟨h0_1, 0, none⟩), h0_4] :: SN 48 4 nT48 h0_4 hs19 (y18) :: L) a w) ?_ ?_ | refine TC.cutX (fun a w => ∃ hs19 : List (List Value), Mid 27 B [(5, I r7)] (Bx h0_1 64 [h0_2, v11] :: OwnS 67 4 h0_2 (r8.1.map cTiiiiu32) :: OwnS 79 2 v11 (r8.2.map cTii) :: Bx b0_ 43 [.pointer (some ⟨h0_1, 0, none⟩), h0_4] :: SN 48 4 nT48 h0_4 hs19 (y18) :: L) a w) ?_ ?_
  · refine TC.cond rfl (fun hc21 => ?_) (fun hc21 => ?_)
    · replace hj20 := cond_t hc21 hj20
      refine TC.region ?_
      refine TO.s rfl rfl rfl (StepS.move rfl) ?_
      refine TO.s rfl rfl rfl (StepS.move rfl) ?_
      refine TO.ghost (fun _ s => Sat.front 4 rfl s) ?_
      refine TO.ghost (fun _ s => Sat.front 4 rfl s) ?_
      obtain ⟨r22, hc23, hj20⟩ := bind_some hj20
      refine TO.callO kcallB_29_true rfl rfl rfl (fun _ st => C29 (a0 := a0.2)  hc23 st) ?_
      rintro _ _ ⟨hs24, rfl, rfl⟩
      cases hj20
      refine TO.nil fun a w e s => ?_
      exact ⟨hs24, e.sub (lk_of_allIn ⟨rfl, trivial⟩), s.mono fun _ s => (by exact Sat.by [1, 1, 4, 4, 4] 5 0 (by kernel_rfl) s)⟩
    · replace hj20 := cond_f hc21 hj20
      cases hj20
      refine TC.skip fun a w e s => ?_
      exact ⟨h0_5, e.sub (lk_of_allIn ⟨rfl, trivial⟩), s⟩
  · intro a w ⟨hs19, he, hs⟩
    refine TC.use ?_ he hs
    refine TC.k ?_
    refine TC.region ?_
    refine TO.s rfl rfl rfl (StepS.move rfl) ?_
    refine TO.s rfl rfl rfl (StepS.assign rfl) ?_
    refine TO.code ?_
    cases hm
    refine TC.ret fun a w e s => ?_
    refine FRet.mk1 (P := Try.prog) (fn := Try.f19) (t := 4) e rfl rfl ?_
    refine ⟨_, _, rfl, ⟨(v11), (hs19), rfl, rfl⟩, ?_⟩
    refine s.mono fun _ s => ?_
    exact Sat.by [4, 3, 3, 3, 4] 5 0 (by kernel_rfl) s

set_option maxRecDepth 100000 in
theorem C37 {B : World} {L : List HP} {a0 : List (Int × Int)} {b0_ o0_ : Nat} {u0_1 : Value} {u0_2 : Value} {u0_3 : Value} {h0_1 : Value} {r0 : Int} {r1 : Int} (g0 : Ent L (Cel b0_ o0_ [h0_1, u0_1, u0_2, u0_3])) (eh0_1 : Ent L (Rd 2 h0_1 (a0.map cTii))) (hm : F37 a0 = some (r0, r1)) {w : World} (st : St B L w) : Calls Try.prog 37 #[.pointer (some ⟨b0_, o0_, none⟩)] w (fun e w' => (e = .returned (.tuple #[I r0, I r1]) ∧ St B (L) w')) := by
  refine calls_of (N := 28) (L := L) (args := [.pointer (some ⟨b0_, o0_, none⟩)]) Try.func37 rfl rfl rfl ?_ st
  dsimp only [F37] at hm
  refine TC.k ?_
  refine TC.region ?_
  refine TO.s rfl rfl rfl (StepS.assign rfl) ?_
  refine TO.s rfl rfl rfl (StepS.assign rfl) ?_
  refine TO.code ?_
  refine TC.k ?_
  refine TC.k ?_
  refine TC.region ?_
  refine TO.s rfl rfl rfl (StepS.move rfl) ?_
  refine TO.s rfl rfl rfl (StepS.nilc rfl) ?_
  refine TO.s rfl rfl rfl (StepS.fld rfl kfieldB_48_0_0_true) ?_
  refine TO.s rfl rfl rfl (StepS.ldC (j := 0) rfl g0 kscalB_36_true rfl rfl) ?_
  refine TO.s rfl rfl rfl (StepS.lenm rfl eh0_1 ksliceB_36_52_2_true rfl) ?_
  refine TO.s rfl rfl rfl (StepS.cmp rfl rfl rfl) ?_
  refine TO.code ?_
  refine TC.cond rfl (fun hc2 => ?_) (fun hc2 => ?_)
  · replace hm := cond_t hc2 hm
    refine TC.k ?_
    refine TC.region ?_
    refine TO.s rfl rfl rfl (StepS.assign rfl) ?_
    refine TO.s rfl rfl rfl (StepS.assign rfl) ?_
    refine TO.code ?_
    cases hm
    refine TC.ret fun a w e s => ?_
    refine FRet.mk2 (P := Try.prog) (fn := Try.f37) (t := 2) (u := 3) e rfl rfl rfl ?_
    exact ⟨rfl, s.mono fun _ => Sat.dropN 0⟩
  · replace hm := cond_f hc2 hm
    refine TC.skipk ?_
    refine TC.k ?_
    refine TC.region_still kfollows_mixedOrders_true (by kernel_rfl) ?_
    refine TS.s rfl rfl rfl (StepS.move rfl) ?_
    refine TS.s rfl rfl rfl (StepS.nilc rfl) ?_
    refine TS.s rfl rfl rfl (StepS.fld rfl kfieldB_48_0_0_true) ?_
    refine TS.s rfl rfl rfl (StepS.ldC (j := 0) rfl g0 kscalB_36_true rfl rfl) ?_
    refine TS.s rfl rfl rfl (StepS.move rfl) ?_
    refine TS.s rfl rfl rfl (StepS.nilc rfl) ?_
    refine TS.s rfl rfl rfl (StepS.fld rfl kfieldB_48_0_0_true) ?_
    refine TS.s rfl rfl rfl (StepS.ldC (j := 0) rfl g0 kscalB_36_true rfl rfl) ?_
    refine TS.s rfl rfl rfl (StepS.lenm rfl eh0_1 ksliceB_36_52_2_true rfl) ?_
    refine TS.s rfl rfl rfl (StepS.ari rfl rfl rfl) ?_
    obtain ⟨x3, hx4, hm⟩ := bind_some hm
    refine TS.s rfl rfl rfl (StepS.idx rfl rfl eh0_1 ksliceB_36_52_2_true (idx_spec hx4).1 (idxm_lt hx4)) ?_
    refine TS.s rfl rfl rfl (StepS.ptrf rfl kfieldB_52_0_0_true) ?_
    refine TS.s rfl rfl rfl (StepS.ld1 rfl eh0_1 kscalB_3_true rfl (idxm hx4) rfl) ?_
    refine TS.s rfl rfl rfl (StepS.move rfl) ?_
    refine TS.s rfl rfl rfl (StepS.nilc rfl) ?_
    refine TS.s rfl rfl rfl (StepS.fld rfl kfieldB_48_0_0_true) ?_
    refine TS.s rfl rfl rfl (StepS.ldC (j := 0) rfl g0 kscalB_36_true rfl rfl) ?_
    refine TS.s rfl rfl rfl (StepS.lenm rfl eh0_1 ksliceB_36_52_2_true rfl) ?_
    refine TS.s rfl rfl rfl (StepS.assign rfl) ?_
    refine TS.s rfl rfl rfl (StepS.assign rfl) ?_
    refine TS.code ?_
    cases hm
    refine TC.ret fun a w e s => ?_
    refine FRet.mk2 (P := Try.prog) (fn := Try.f37) (t := 2) (u := 3) e rfl rfl rfl ?_
    exact ⟨rfl, s.mono fun _ => Sat.dropN 0⟩

set_option maxRecDepth 100000 in
theorem C31 {B : World} {L : List HP} {a0 : List (Int × Int)} {a1 : List (Int × Int)} {b0_ o0_ : Nat} {u0_1 : Value} {u0_2 : Value} {u0_3 : Value} {h0_1 : Value} {b1_ o1_ : Nat} {u1_1 : Value} {u1_2 : Value} {u1_3 : Value} {h1_1 : Value} {r0 : Bool} (g0 : Ent L (Cel b0_ o0_ [h0_1, u0_1, u0_2, u0_3])) (eh0_1 : Ent L (Rd 2 h0_1 (a0.map cTii))) (g1 : Ent L (Cel b1_ o1_ [h1_1, u1_1, u1_2, u1_3])) (eh1_1 : Ent L (Rd 2 h1_1 (a1.map cTii))) (hm : F31 a0 a1 = some r0) {w : World} (st : St B L w) : Calls Try.prog 31 #[.pointer (some ⟨b0_, o0_, none⟩), .pointer (some ⟨b1_, o1_, none⟩)] w (fun e w' => (e = .returned (.bool r0) ∧ St B (L) w')) := by
  refine calls_of (N := 32) (L := L) (args := [.pointer (some ⟨b0_, o0_, none⟩), .pointer (some ⟨b1_, o1_, none⟩)]) Try.func31 rfl rfl rfl ?_ st
  dsimp only [F31] at hm
  refine TC.k ?_
  refine TC.region ?_
  refine TO.s rfl rfl rfl (StepS.assign rfl) ?_
  refine TO.code ?_
  refine TC.k ?_
  refine TC.region ?_
  refine TO.s rfl rfl rfl (StepS.move rfl) ?_
  obtain ⟨⟨r3, r4⟩, hc5, hm⟩ := bind_some hm
  refine TO.q rfl rfl rfl (StepQ.call kcallB_37_true rfl rfl (fun _ st => C37 (a0 := a0) g0 eh0_1 hc5 st)) ?_
  refine TO.s rfl rfl rfl (StepS.move rfl) ?_
  refine TO.s rfl rfl rfl (StepS.extract rfl rfl) ?_
  refine TO.s rfl rfl rfl (StepS.extract rfl rfl) ?_
  refine TO.s rfl rfl rfl (StepS.assign rfl) ?_
  refine TO.s rfl rfl rfl (StepS.assign rfl) ?_
  refine TO.code ?_
  refine TC.k ?_
  refine TC.region ?_
  refine TO.s rfl rfl rfl (StepS.move rfl) ?_
  obtain ⟨⟨r6, r7⟩, hc8, hm⟩ := bind_some hm
  refine TO.q rfl rfl rfl (StepQ.call kcallB_37_true rfl rfl (fun _ st => C37 (a0 := a1) g1 eh1_1 hc8 st)) ?_
  refine TO.s rfl rfl rfl (StepS.move rfl) ?_
  refine TO.s rfl rfl rfl (StepS.extract rfl rfl) ?_
  refine TO.s rfl rfl rfl (StepS.extract rfl rfl) ?_
  refine TO.s rfl rfl rfl (StepS.assign rfl) ?_
  refine TO.s rfl rfl rfl (StepS.assign rfl) ?_
  refine TO.code ?_
  refine TC.k ?_
  refine TC.region ?_
  refine TO.s rfl rfl rfl (StepS.move rfl) ?_
  refine TO.s rfl rfl rfl (StepS.move rfl) ?_
  refine TO.s rfl rfl rfl (StepS.cmp rfl rfl rfl) ?_
  refine TO.s rfl rfl rfl (StepS.move rfl) ?_
  refine TO.mid1 9 31 (.bool ((decide (r3 > r6)) || ((r3 == r6) && (decide (r4 ≥ r7))))) ?_ ?_
  · refine bcase ((decide (r3 > r6))) (fun hb9 => ?_) (fun hb9 => ?_)
    · refine TO.skip rfl rfl rfl (skipT hb9) rfl rfl ?_
      refine TO.skip rfl rfl rfl (skipT hb9) rfl rfl ?_
      refine TO.skip rfl rfl rfl (skipT hb9) rfl rfl ?_
      refine TO.skip rfl rfl rfl (skipT hb9) rfl rfl ?_
      refine TO.skip rfl rfl rfl skipU rfl rfl ?_
      refine TO.skip rfl rfl rfl skipU rfl rfl ?_
      refine TO.skip rfl rfl rfl skipU rfl rfl ?_
      refine TO.skip rfl rfl rfl (skipT hb9) rfl rfl ?_
      refine TO.s rfl rfl rfl (StepS.pickT rfl hb9 rfl) ?_
      exact TO.up1 9 0 rfl rfl (by rw [hb9]; rfl) rfl
    · refine TO.sw rfl rfl rfl hb9 rfl rfl (StepS.move rfl) ?_
      refine TO.sw rfl rfl rfl hb9 rfl rfl (StepS.move rfl) ?_
      refine TO.sw rfl rfl rfl hb9 rfl rfl (StepS.cmp rfl rfl rfl) ?_
      refine TO.sw rfl rfl rfl hb9 rfl rfl (StepS.move rfl) ?_
      refine TO.mid1 4 30 (.bool ((r3 == r6) && (decide (r4 ≥ r7)))) ?_ ?_
      · refine bcase ((r3 == r6)) (fun hb10 => ?_) (fun hb10 => ?_)
        · refine TO.sw rfl rfl rfl hb10 rfl rfl (StepS.move rfl) ?_
          refine TO.sw rfl rfl rfl hb10 rfl rfl (StepS.move rfl) ?_
          refine TO.sw rfl rfl rfl hb10 rfl rfl (StepS.cmp rfl rfl rfl) ?_
          refine TO.sw rfl rfl rfl hb9 rfl rfl (StepS.pickT rfl hb10 rfl) ?_
          exact TO.up1 4 0 rfl rfl (by rw [hb10]; rfl) rfl
        · refine TO.skip rfl rfl rfl (skipF hb10) rfl rfl ?_
          refine TO.skip rfl rfl rfl (skipF hb10) rfl rfl ?_
          refine TO.skip rfl rfl rfl (skipF hb10) rfl rfl ?_
          refine TO.sw rfl rfl rfl hb9 rfl rfl (StepS.pickF rfl hb10 rfl) ?_
          exact TO.up1 4 0 rfl rfl (by rw [hb10]; rfl) rfl
      refine TO.s rfl rfl rfl (StepS.pickF rfl hb9 rfl) ?_
      exact TO.up1 6 0 rfl rfl (by rw [hb9]; rfl) rfl
  refine TO.s rfl rfl rfl (StepS.assign rfl) ?_
  refine TO.code ?_
  cases hm
  refine TC.ret fun a w e s => ?_
  refine FRet.mk1 (P := Try.prog) (fn := Try.f31) (t := 4) e rfl rfl ?_
  exact ⟨rfl, s.mono fun _ => Sat.dropN 0⟩

set_option maxRecDepth 100000 in
theorem C20 {B : World} {L : List HP} {a0 : ((List (Int × Int × Int × BitVec 32)) × List (Int × Int)) × List ((List (Int × Int)) × Int × (List Int) × List Int)} {a1 : Int} {a2 : Int} {b0_ : Nat} {h0_1 : Nat} {h0_2 : Value} {h0_3 : Value} {h0_4 : Value} {h0_5 : List (List Value)} {r0 : Int} {s0 : ((List (Int × Int × Int × BitVec 32)) × List (Int × Int)) × List ((List (Int × Int)) × Int × (List Int) × List Int)} (hm : F20 a0 a1 a2 = some (r0, s0)) {w : World} (st : St B (Bx b0_ 43 [.pointer (some ⟨h0_1, 0, none⟩), h0_4] :: Bx h0_1 64 [h0_2, h0_3] :: OwnS 67 4 h0_2 (a0.1.1.map cTiiiiu32) :: OwnS 79 2 h0_3 (a0.1.2.map cTii) :: SN 48 4 nT48 h0_4 h0_5 (a0.2) :: L) w) : Calls Try.prog 20 #[.pointer (some ⟨b0_, 0, none⟩), I a1, I a2] w (fun e w' => ∃ v M, e = .returned v ∧ (∃ (qv1 : Value) (qhs2 : List (List Value)), v = I r0 ∧ M = (Bx b0_ 43 [.pointer (some ⟨h0_1, 0, none⟩), h0_4] :: Bx h0_1 64 [h0_2, qv1] :: OwnS 67 4 h0_2 (s0.1.1.map cTiiiiu32) :: OwnS 79 2 qv1 (s0.1.2.map cTii) :: SN 48 4 nT48 h0_4 qhs2 (s0.2) :: L)) ∧ St B M w') := by
  refine calls_of (N := 51) (L := (Bx b0_ 43 [.pointer (some ⟨h0_1, 0, none⟩), h0_4] :: Bx h0_1 64 [h0_2, h0_3] :: OwnS 67 4 h0_2 (a0.1.1.map cTiiiiu32) :: OwnS 79 2 h0_3 (a0.1.2.map cTii) :: SN 48 4 nT48 h0_4 h0_5 (a0.2) :: L)) (args := [.pointer (some ⟨b0_, 0, none⟩), I a1, I a2]) Try.func20 rfl rfl rfl ?_ st
  dsimp only [F20] at hm
  refine TC.k ?_
  refine TC.region ?_
  refine TO.s rfl rfl rfl (StepS.assign rfl) ?_
  refine TO.code ?_
  refine TC.k ?_
  refine TC.region ?_
  refine TO.s rfl rfl rfl (StepS.move rfl) ?_
  refine TO.s rfl rfl rfl (StepS.nilc rfl) ?_
  refine TO.s rfl rfl rfl (StepS.fld rfl kfieldB_43_0_0_true) ?_
  refine TO.s rfl rfl rfl (StepS.ldB rfl (Ent.at 0 rfl) kscalB_39_true rfl) ?_
  refine TO.s rfl rfl rfl (StepS.move rfl) ?_
  obtain ⟨r7, hc8, hm⟩ := bind_some hm
  refine TO.q rfl rfl rfl (StepQ.call kcallB_13_true rfl rfl (fun _ st => C13 (Ent.at 1 rfl) (OwnS.rd (Ent.at 2 rfl)) (OwnS.rd (Ent.at 3 rfl)) hc8 st)) ?_
  refine TO.s rfl rfl rfl (StepS.cmp rfl rfl rfl) ?_
  refine TO.s rfl rfl rfl (StepS.assign rfl) ?_
  refine TO.code ?_
  refine TC.k ?_
  refine TC.region_any (Bx b0_ 43 [.pointer (some ⟨h0_1, 0, none⟩), h0_4] :: SN 48 4 nT48 h0_4 h0_5 (a0.2) :: L) 21 21 kfollows_mixedOrders_true rfl ?_
  refine TA.takeW 0 rfl rfl rfl rfl (StepS.move rfl) (by kernel_rfl) (by kernel_rfl) (by kernel_rfl) rfl (.inr (fun _ s => Sat.by [4, 1] 2 3 (by kernel_rfl) s)) ?_
  refine TA.takeW 1 rfl rfl rfl rfl (StepS.nilc rfl) (by kernel_rfl) (by kernel_rfl) (by kernel_rfl) rfl (.inr (fun _ s => Sat.by [4, 1] 2 3 (by kernel_rfl) s)) ?_
  refine TA.takeW 2 rfl rfl rfl rfl (StepS.fld rfl kfieldB_43_0_0_true) (by kernel_rfl) (by kernel_rfl) (by kernel_rfl) rfl (.inr (fun _ s => Sat.by [4, 1] 2 3 (by kernel_rfl) s)) ?_
  refine TA.take 3 rfl rfl rfl rfl (StepS.ldB rfl (Ent.at 0 rfl) kscalB_39_true rfl) (by kernel_rfl) (by kernel_rfl) (by kernel_rfl) (by kernel_rfl) (by kernel_rfl) (fun _ s => Sat.by [4, 1] 2 3 (by kernel_rfl) s) ?_
  refine TA.takeW 4 rfl rfl rfl rfl (StepS.move rfl) (by kernel_rfl) (by kernel_rfl) (by kernel_rfl) rfl (.inr (fun _ s => Sat.by [4, 1] 2 3 (by kernel_rfl) s)) ?_
  refine TA.takeW 5 rfl rfl rfl rfl (StepS.move rfl) (by kernel_rfl) (by kernel_rfl) (by kernel_rfl) rfl (.inr (fun _ s => Sat.by [4, 1] 2 3 (by kernel_rfl) s)) ?_
  refine TA.takeW 6 rfl rfl rfl rfl (StepS.move rfl) (by kernel_rfl) (by kernel_rfl) (by kernel_rfl) rfl (.inr (fun _ s => Sat.by [4, 1] 2 3 (by kernel_rfl) s)) ?_
  refine TA.takeW 7 rfl rfl rfl rfl (StepS.nilc rfl) (by kernel_rfl) (by kernel_rfl) (by kernel_rfl) rfl (.inr (fun _ s => Sat.by [4, 1] 2 3 (by kernel_rfl) s)) ?_
  refine TA.takeW 8 rfl rfl rfl rfl (StepS.fld rfl kfieldB_43_1_1_true) (by kernel_rfl) (by kernel_rfl) (by kernel_rfl) rfl (.inr (fun _ s => Sat.by [4, 1] 2 3 (by kernel_rfl) s)) ?_
  refine TA.take 9 rfl rfl rfl rfl (StepS.ldB rfl (Ent.at 0 rfl) kscalB_41_true rfl) (by kernel_rfl) (by kernel_rfl) (by kernel_rfl) (by kernel_rfl) (by kernel_rfl) (fun _ s => Sat.by [4, 1] 2 3 (by kernel_rfl) s) ?_
  refine TA.takeW 10 rfl rfl rfl rfl (StepS.move rfl) (by kernel_rfl) (by kernel_rfl) (by kernel_rfl) rfl (.inr (fun _ s => Sat.by [4, 1] 2 3 (by kernel_rfl) s)) ?_
  obtain ⟨xq9_11_1, hxq9_11_2, hm⟩ := bind_some hm
  refine TA.take 11 rfl rfl rfl rfl (StepS.idxN rfl rfl (Ent.at 1 rfl) ksliceB_41_48_4_true hxq9_11_2) (by kernel_rfl) (by kernel_rfl) (by kernel_rfl) (by kernel_rfl) (by kernel_rfl) (fun _ s => Sat.by [4, 1] 2 3 (by kernel_rfl) s) ?_
  refine TA.takeW 12 rfl rfl rfl rfl (StepS.move rfl) (by kernel_rfl) (by kernel_rfl) (by kernel_rfl) rfl (.inr (fun _ s => Sat.by [4, 1] 2 3 (by kernel_rfl) s)) ?_
  refine TA.takeW 13 rfl rfl rfl rfl (StepS.nilc rfl) (by kernel_rfl) (by kernel_rfl) (by kernel_rfl) rfl (.inr (fun _ s => Sat.by [4, 1] 2 3 (by kernel_rfl) s)) ?_
  refine TA.takeW 14 rfl rfl rfl rfl (StepS.fld rfl kfieldB_43_1_1_true) (by kernel_rfl) (by kernel_rfl) (by kernel_rfl) rfl (.inr (fun _ s => Sat.by [4, 1] 2 3 (by kernel_rfl) s)) ?_
  refine TA.take 15 rfl rfl rfl rfl (StepS.ldB rfl (Ent.at 0 rfl) kscalB_41_true rfl) (by kernel_rfl) (by kernel_rfl) (by kernel_rfl) (by kernel_rfl) (by kernel_rfl) (fun _ s => Sat.by [4, 1] 2 3 (by kernel_rfl) s) ?_
  refine TA.takeW 16 rfl rfl rfl rfl (StepS.move rfl) (by kernel_rfl) (by kernel_rfl) (by kernel_rfl) rfl (.inr (fun _ s => Sat.by [4, 1] 2 3 (by kernel_rfl) s)) ?_
  obtain ⟨xq9_17_1, hxq9_17_2, hm⟩ := bind_some hm
  refine TA.take 17 rfl rfl rfl rfl (StepS.idxN rfl rfl (Ent.at 1 rfl) ksliceB_41_48_4_true hxq9_17_2) (by kernel_rfl) (by kernel_rfl) (by kernel_rfl) (by kernel_rfl) (by kernel_rfl) (fun _ s => Sat.by [4, 1] 2 3 (by kernel_rfl) s) ?_
  refine TA.all1 (i := 18) (by kernel_rfl) ?_
  refine TB.of rfl ?_
  obtain ⟨rq9_18_1, hcq9_18_2, hm⟩ := bind_some hm
  refine TO.q rfl rfl rfl (StepQ.call kcallB_31_true rfl rfl (fun _ st => C31 (a0 := xq9_11_1.1) (a1 := xq9_17_1.1) (SN.cel (e := 48) (sz := 4) (T := nT48) (v := h0_4) (gs := h0_5) (xs := a0.2) (Ent.at 4 rfl) hxq9_11_2) (OwnS.rd (SN.piece (Ent.at 4 rfl) hxq9_11_2 0 rfl)) (SN.cel (e := 48) (sz := 4) (T := nT48) (v := h0_4) (gs := h0_5) (xs := a0.2) (Ent.at 4 rfl) hxq9_17_2) (OwnS.rd (SN.piece (Ent.at 4 rfl) hxq9_17_2 0 rfl)) hcq9_18_2 st)) ?_
  refine TA.back (.inr (fun _ s => Sat.by [4, 1] 2 3 (by kernel_rfl) s)) ?_
  refine TA.asL (L' := (Bx b0_ 43 [.pointer (some ⟨h0_1, 0, none⟩), h0_4] :: Bx h0_1 64 [h0_2, h0_3] :: OwnS 67 4 h0_2 (a0.1.1.map cTiiiiu32) :: OwnS 79 2 h0_3 (a0.1.2.map cTii) :: SN 48 4 nT48 h0_4 h0_5 (a0.2) :: L)) (listed' := #[true, true, true, true, true, true, true, true, true, true, true, true, true, true, true, true, true, true, true, false, false]) (by kernel_rfl) (by kernel_rfl) ?_
  refine TA.all1 (i := 19) (by kernel_rfl) ?_
  refine TB.of rfl ?_
  refine TO.ghost (fun _ s => Sat.front 3 rfl s) ?_
  refine TO.ghost (fun _ s => Sat.front 3 rfl s) ?_
  refine TO.ghost (fun _ s => Sat.front 3 rfl s) ?_
  obtain ⟨⟨rq9_19_1, rq9_19_2⟩, hcq9_19_3, hm⟩ := bind_some hm
  refine TO.callO kcallB_30_true rfl rfl rfl (fun _ st => C30 (a0 := (a0.1.1, a0.1.2))  hcq9_19_3 st) ?_
  rintro _ _ ⟨vq9_19_5, rfl, rfl⟩
  refine TA.back (.inr (fun _ s => Sat.by [4, 4] 2 3 (by kernel_rfl) s)) ?_
  refine TA.asL (L' := (Bx h0_1 64 [h0_2, vq9_19_5] :: OwnS 67 4 h0_2 (rq9_19_2.1.map cTiiiiu32) :: OwnS 79 2 vq9_19_5 (rq9_19_2.2.map cTii) :: Bx b0_ 43 [.pointer (some ⟨h0_1, 0, none⟩), h0_4] :: SN 48 4 nT48 h0_4 h0_5 (a0.2) :: L)) (listed' := #[true, true, true, true, true, true, true, true, true, true, true, true, true, true, true, true, true, true, true, true, false]) (by kernel_rfl) (by kernel_rfl) ?_
  refine TA.takeW 20 rfl rfl rfl rfl (StepS.assign rfl) (by kernel_rfl) (by kernel_rfl) (by kernel_rfl) rfl (.inr (fun _ s => Sat.by [4, 4] 2 3 (by kernel_rfl) s)) ?_
  refine TA.code (by kernel_rfl) ?_
  refine TC.k ?_
  refine TC.k ?_
  refine TC.region ?_
  refine TO.s rfl rfl rfl (StepS.move rfl) ?_
  refine TO.s rfl rfl rfl (StepS.not rfl) ?_
  refine TO.s rfl rfl rfl (StepS.move rfl) ?_
  obtain ⟨b11, hj12, hm⟩ := bind_some hm
  refine TO.mid1 8 46 (.bool b11) ?_ ?_
  · refine bcase ((!(r7 == 2))) (fun hb10 => ?_) (fun hb10 => ?_)
    · replace hj12 := cond_t hb10 hj12
      refine TO.sw rfl rfl rfl hb10 rfl rfl (StepS.move rfl) ?_
      refine TO.sw rfl rfl rfl hb10 rfl rfl (StepS.nilc rfl) ?_
      refine TO.sw rfl rfl rfl hb10 rfl rfl (StepS.fld rfl kfieldB_43_0_0_true) ?_
      refine TO.sw rfl rfl rfl hb10 rfl rfl (StepS.ldB rfl (Ent.at 3 rfl) kscalB_39_true rfl) ?_
      refine TO.sw rfl rfl rfl hb10 rfl rfl (StepS.move rfl) ?_
      obtain ⟨r13, hc14, hj12⟩ := bind_some hj12
      refine TO.qw rfl rfl rfl hb10 rfl rfl (StepQ.call kcallB_13_true rfl rfl (fun _ st => C13 (Ent.at 0 rfl) (OwnS.rd (Ent.at 1 rfl)) (OwnS.rd (Ent.at 2 rfl)) hc14 st)) ?_
      refine TO.sw rfl rfl rfl hb10 rfl rfl (StepS.cmp rfl rfl rfl) ?_
      cases hj12
      refine TO.s rfl rfl rfl (StepS.pickT rfl hb10 rfl) ?_
      exact TO.up1 8 0 rfl rfl rfl rfl
    · replace hj12 := cond_f hb10 hj12
      cases hj12
      refine TO.skip rfl rfl rfl (skipF hb10) rfl rfl ?_
      refine TO.skip rfl rfl rfl (skipF hb10) rfl rfl ?_
      refine TO.skip rfl rfl rfl (skipF hb10) rfl rfl ?_
      refine TO.skip rfl rfl rfl (skipF hb10) rfl rfl ?_
      refine TO.skip rfl rfl rfl (skipF hb10) rfl rfl ?_
      refine TO.skip rfl rfl rfl (skipF hb10) rfl rfl ?_
      refine TO.skip rfl rfl rfl (skipF hb10) rfl rfl ?_
      refine TO.s rfl rfl rfl (StepS.pickF rfl hb10 rfl) ?_
      exact TO.up1 8 0 rfl rfl rfl rfl
  refine TO.code ?_
  obtain ⟨y15, hj17, hm⟩ := bind_some hm
  first | refine TC.cutM (fun a w => ∃ hs16 : List (List Value), Mid 51 B [(8, I rq9_19_1)] (Bx h0_1 64 [h0_2, vq9_19_5] :: OwnS 67 4 h0_2 (rq9_19_2.1.map cTiiiiu32) :: OwnS 79 2 vq9_19_5 (rq9_19_2.2.map cTii) :: Bx b0_ 43 [.pointer (some ⟨h0_1, 0, none⟩), h0_4] :: SN 48 4 nT48 h0_4 hs16 (y15) :: L) a w) ?_ ?_ | refine TC.cutX (fun a w => ∃ hs16 : List (List Value), Mid 51 B [(8, I rq9_19_1)] (Bx h0_1 64 [h0_2, vq9_19_5] :: OwnS 67 4 h0_2 (rq9_19_2.1.map cTiiiiu32) :: OwnS 79 2 vq9_19_5 (rq9_19_2.2.map cTii) :: Bx b0_ 43 [.pointer (some ⟨h0_1, 0, none⟩), h0_4] :: SN 48 4 nT48 h0_4 hs16 (y15) :: L) a w) ?_ ?_
  · refine TC.cond rfl (fun hc18 => ?_) (fun hc18 => ?_)
    · replace hj17 := cond_t hc18 hj17
      refine TC.region ?_
      refine TO.s rfl rfl rfl (StepS.move rfl) ?_
      refine TO.s rfl rfl rfl (StepS.move rfl) ?_
      refine TO.ghost (fun _ s => Sat.front 4 rfl s) ?_
      refine TO.ghost (fun _ s => Sat.front 4 rfl s) ?_
      obtain ⟨r19, hc20, hj17⟩ := bind_some hj17
      refine TO.callO kcallB_29_true rfl rfl rfl (fun _ st => C29 (a0 := a0.2)  hc20 st) ?_
      rintro _ _ ⟨hs21, rfl, rfl⟩
      cases hj17
      refine TO.nil fun a w e s => ?_
      exact ⟨hs21, e.sub (lk_of_allIn ⟨rfl, trivial⟩), s.mono fun _ s => (by exact Sat.by [1, 1, 4, 4, 4] 5 0 (by kernel_rfl) s)⟩
    · replace hj17 := cond_f hc18 hj17
      cases hj17
      refine TC.skip fun a w e s => ?_
      exact ⟨h0_5, e.sub (lk_of_allIn ⟨rfl, trivial⟩), s⟩
  · intro a w ⟨hs16, he, hs⟩
    refine TC.use ?_ he hs
    refine TC.k ?_
    refine TC.region ?_
    refine TO.s rfl rfl rfl (StepS.move rfl) ?_
    refine TO.s rfl rfl rfl (StepS.assign rfl) ?_
    refine TO.code ?_
    cases hm
    refine TC.ret fun a w e s => ?_
    refine FRet.mk1 (P := Try.prog) (fn := Try.f20) (t := 6) e rfl rfl ?_
    refine ⟨_, _, rfl, ⟨(vq9_19_5), (hs16), rfl, rfl⟩, ?_⟩
    refine s.mono fun _ s => ?_
    exact Sat.by [4, 3, 3, 3, 4] 5 0 (by kernel_rfl) s

set_option maxRecDepth 100000 in
theorem C18 {B : World} {L : List HP} {a0 : Int} {a1_1 : Nat} {b1_ : Nat} {c1_ : Nat} {u1_0_0 : Value} {h1_1 : Value} {r0 : Bool} (g1 : Ent L (Bx b1_ 38 [.pointer (some ⟨c1_, 0, none⟩)])) (gg1 : Ent L (Bx c1_ 43 [u1_0_0, h1_1])) (e1_1 : Ent L (Hd h1_1 a1_1)) (hm : F18 a0 a1_1 = some r0) {w : World} (st : St B L w) : Calls Try.prog 18 #[I a0, .pointer (some ⟨b1_, 0, none⟩)] w (fun e w' => (e = .returned (.bool r0) ∧ St B (L) w')) := by
  refine calls_of (N := 15) (L := L) (args := [I a0, .pointer (some ⟨b1_, 0, none⟩)]) Try.func18 rfl rfl rfl ?_ st
  dsimp only [F18] at hm
  refine TC.k ?_
  refine TC.region ?_
  refine TO.s rfl rfl rfl (StepS.assign rfl) ?_
  refine TO.code ?_
  refine TC.k ?_
  refine TC.region ?_
  refine TO.s rfl rfl rfl (StepS.move rfl) ?_
  refine TO.s rfl rfl rfl (StepS.cmp rfl rfl rfl) ?_
  refine TO.s rfl rfl rfl (StepS.move rfl) ?_
  refine TO.mid1 8 14 (.bool ((decide (a0 < 0)) || (decide (a0 ≥ (a1_1 : Int))))) ?_ ?_
  · refine bcase ((decide (a0 < 0))) (fun hb1 => ?_) (fun hb1 => ?_)
    · refine TO.skip rfl rfl rfl (skipT hb1) rfl rfl ?_
      refine TO.skip rfl rfl rfl (skipT hb1) rfl rfl ?_
      refine TO.skip rfl rfl rfl (skipT hb1) rfl rfl ?_
      refine TO.skip rfl rfl rfl (skipT hb1) rfl rfl ?_
      refine TO.skip rfl rfl rfl (skipT hb1) rfl rfl ?_
      refine TO.skip rfl rfl rfl (skipT hb1) rfl rfl ?_
      refine TO.skip rfl rfl rfl (skipT hb1) rfl rfl ?_
      refine TO.s rfl rfl rfl (StepS.pickT rfl hb1 rfl) ?_
      exact TO.up1 8 0 rfl rfl (by rw [hb1]; rfl) rfl
    · refine TO.sw rfl rfl rfl hb1 rfl rfl (StepS.move rfl) ?_
      refine TO.sw rfl rfl rfl hb1 rfl rfl (StepS.ldB rfl g1 kscalB_38_true rfl) ?_
      refine TO.sw rfl rfl rfl hb1 rfl rfl (StepS.nilc rfl) ?_
      refine TO.sw rfl rfl rfl hb1 rfl rfl (StepS.fld rfl kfieldB_43_1_1_true) ?_
      refine TO.sw rfl rfl rfl hb1 rfl rfl (StepS.ldB rfl gg1 kscalB_41_true rfl) ?_
      refine TO.sw rfl rfl rfl hb1 rfl rfl (StepS.lenHd rfl e1_1 ksliceB_41_48_4_true rfl) ?_
      refine TO.sw rfl rfl rfl hb1 rfl rfl (StepS.cmp rfl rfl rfl) ?_
      refine TO.s rfl rfl rfl (StepS.pickF rfl hb1 rfl) ?_
      exact TO.up1 8 0 rfl rfl (by rw [hb1]; rfl) rfl
  refine TO.s rfl rfl rfl (StepS.assign rfl) ?_
  refine TO.code ?_
  cases hm
  refine TC.ret fun a w e s => ?_
  refine FRet.mk1 (P := Try.prog) (fn := Try.f18) (t := 3) e rfl rfl ?_
  exact ⟨rfl, s.mono fun _ => Sat.dropN 0⟩
end Go.Proofs.Ytacggcanjanmkaa
