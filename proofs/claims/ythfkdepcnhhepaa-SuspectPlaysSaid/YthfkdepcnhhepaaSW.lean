/-
  The walks: each Go function returns what its model says. Written by a program (gen.py).
-/
import Derived.Test.YthfkdepcnhhepaaProg
import Derived.KernelRfl
import Derived.Test.YthfkdepcnhhepaaSM
namespace Go.Proofs.Ythfkdepcnhhepaa
open Go Go.Bk
set_option linter.unusedVariables false
set_option linter.unnecessarySimpa false
theorem kintB_36_u32_true : intB Try.prog 36 .u32 = true := by kernel_rfl
theorem kintB_231_u64_true : intB Try.prog 231 .u64 = true := by kernel_rfl
theorem kintB_108_u64_true : intB Try.prog 108 .u64 = true := by kernel_rfl
theorem kcallB_130_true : callB Try.prog 130 = true := by kernel_rfl
theorem kcallB_131_true : callB Try.prog 131 = true := by kernel_rfl
theorem ksliceB_22_3_1_true : sliceB Try.prog 22 3 1 = true := by kernel_rfl
theorem kintB_3_i64_true : intB Try.prog 3 .i64 = true := by kernel_rfl
theorem kcallB_95_true : callB Try.prog 95 = true := by kernel_rfl
theorem kelemB_22_3_1_8_true : elemB Try.prog 22 3 1 8 = true := by kernel_rfl
theorem kinfo_3_bind_zero_some_I_0 : (Try.prog.info? 3).bind (·.zero) = some (I 0) := by kernel_rfl
theorem kfollows_mixedOrders_true : Try.prog.follows .mixedOrders = true := by kernel_rfl
theorem kinfo_58_bind_zero_some_agg_slice_none_0_0_U_0_I_0_slice_none_0_0 : (Try.prog.info? 58).bind (·.zero) = some (.agg #[.slice none 0 0, U 0, I 0, .slice none 0 0]) := by kernel_rfl
theorem ksliceB_23_106_4_true : sliceB Try.prog 23 106 4 = true := by kernel_rfl
theorem ksizeB_58_4_true : sizeB Try.prog 58 4 = true := by kernel_rfl
theorem kaggB_58_4_true : aggB Try.prog 58 4 = true := by kernel_rfl
theorem kcallB_63_true : callB Try.prog 63 = true := by kernel_rfl
theorem kaggB_106_4_true : aggB Try.prog 106 4 = true := by kernel_rfl
theorem kinfo_106_bind_zero_some_agg_I_0_I_0_I_0_I_0 : (Try.prog.info? 106).bind (·.zero) = some (.agg #[I 0, I 0, I 0, I 0]) := by kernel_rfl
theorem ksizeB_106_4_true : sizeB Try.prog 106 4 = true := by kernel_rfl
theorem kfieldB_106_0_0_true : fieldB Try.prog 106 0 0 = true := by kernel_rfl
theorem kscalB_3_true : scalB Try.prog 3 = true := by kernel_rfl
theorem kfieldB_58_3_3_true : fieldB Try.prog 58 3 3 = true := by kernel_rfl
theorem kscalB_22_true : scalB Try.prog 22 = true := by kernel_rfl
theorem kfieldB_58_1_1_true : fieldB Try.prog 58 1 1 = true := by kernel_rfl
theorem kscalB_36_true : scalB Try.prog 36 = true := by kernel_rfl
theorem ksizeB_36_1_true : sizeB Try.prog 36 1 = true := by kernel_rfl
theorem kfieldB_106_1_1_true : fieldB Try.prog 106 1 1 = true := by kernel_rfl
theorem kfieldB_58_2_2_true : fieldB Try.prog 58 2 2 = true := by kernel_rfl
theorem ksizeB_3_1_true : sizeB Try.prog 3 1 = true := by kernel_rfl
theorem kfieldB_58_0_0_true : fieldB Try.prog 58 0 0 = true := by kernel_rfl
theorem kscalB_24_true : scalB Try.prog 24 = true := by kernel_rfl
theorem kelemB_24_28_1_8_true : elemB Try.prog 24 28 1 8 = true := by kernel_rfl
theorem kinfo_28_bind_zero_some_I_0 : (Try.prog.info? 28).bind (·.zero) = some (I 0) := by kernel_rfl
theorem ksizeB_24_1_true : sizeB Try.prog 24 1 = true := by kernel_rfl
theorem ksizeB_22_1_true : sizeB Try.prog 22 1 = true := by kernel_rfl
theorem kcallB_64_true : callB Try.prog 64 = true := by kernel_rfl
theorem ksliceB_24_28_1_true : sliceB Try.prog 24 28 1 = true := by kernel_rfl
theorem kscalB_28_true : scalB Try.prog 28 = true := by kernel_rfl
theorem kcallB_29_true : callB Try.prog 29 = true := by kernel_rfl
theorem kcallB_21_true : callB Try.prog 21 = true := by kernel_rfl
theorem kcallB_30_true : callB Try.prog 30 = true := by kernel_rfl
theorem kcallB_18_true : callB Try.prog 18 = true := by kernel_rfl
theorem kcallB_25_true : callB Try.prog 25 = true := by kernel_rfl

set_option maxRecDepth 100000 in
theorem C130 {B : World} {L : List HP} {a0 : BitVec 32} {a1 : BitVec 32} {r0 : BitVec 32} {r1 : BitVec 32} (hm : F130 a0 a1 = some (r0, r1)) {w : World} (st : St B L w) : Calls Try.prog 130 #[U a0, U a1] w (fun e w' => (e = .returned (.tuple #[U r0, U r1]) ∧ St B (L) w')) := by
  refine calls_of (N := 17) (L := L) (args := [U a0, U a1]) Try.func130 rfl rfl rfl ?_ st
  dsimp only [F130] at hm
  refine TC.k ?_
  refine TC.region ?_
  refine TO.s rfl rfl rfl (StepS.assign rfl) ?_
  refine TO.s rfl rfl rfl (StepS.assign rfl) ?_
  refine TO.code ?_
  refine TC.k ?_
  refine TC.region ?_
  refine TO.s rfl rfl rfl (StepS.move rfl) ?_
  refine TO.s rfl rfl rfl (StepS.cvUV kintB_36_u32_true kintB_231_u64_true rfl) ?_
  refine TO.s rfl rfl rfl (StepS.move rfl) ?_
  refine TO.s rfl rfl rfl (StepS.cvUV kintB_36_u32_true kintB_231_u64_true rfl) ?_
  refine TO.s rfl rfl rfl (StepS.ariV rfl rfl rfl) ?_
  refine TO.s rfl rfl rfl (StepS.assign rfl) ?_
  refine TO.code ?_
  refine TC.k ?_
  refine TC.region ?_
  refine TO.s rfl rfl rfl (StepS.move rfl) ?_
  refine TO.s rfl rfl rfl (StepS.shrV rfl rfl (by decide)) ?_
  refine TO.s rfl rfl rfl (StepS.cvVU kintB_231_u64_true kintB_36_u32_true rfl) ?_
  refine TO.s rfl rfl rfl (StepS.move rfl) ?_
  refine TO.s rfl rfl rfl (StepS.cvVU kintB_231_u64_true kintB_36_u32_true rfl) ?_
  refine TO.s rfl rfl rfl (StepS.assign rfl) ?_
  refine TO.s rfl rfl rfl (StepS.assign rfl) ?_
  refine TO.code ?_
  cases hm
  refine TC.ret fun a w e s => ?_
  refine FRet.mk2 (P := Try.prog) (fn := Try.f130) (t := 4) (u := 5) e rfl rfl rfl ?_
  exact ⟨rfl, s.mono fun _ => Sat.dropN 0⟩

set_option maxRecDepth 100000 in
theorem C131 {B : World} {L : List HP} {a0 : Int} {a1 : Int} {r0 : Int} {r1 : Int} (hm : F131 a0 a1 = some (r0, r1)) {w : World} (st : St B L w) : Calls Try.prog 131 #[.int .u64 a0, .int .u64 a1] w (fun e w' => (e = .returned (.tuple #[.int .u64 r0, .int .u64 r1]) ∧ St B (L) w')) := by
  refine calls_of (N := 51) (L := L) (args := [.int .u64 a0, .int .u64 a1]) Try.func131 rfl rfl rfl ?_ st
  dsimp only [F131] at hm
  refine TC.k ?_
  refine TC.region ?_
  refine TO.s rfl rfl rfl (StepS.assign rfl) ?_
  refine TO.s rfl rfl rfl (StepS.assign rfl) ?_
  refine TO.code ?_
  refine TC.k ?_
  refine TC.region ?_
  refine TO.s rfl rfl rfl (StepS.move rfl) ?_
  refine TO.s rfl rfl rfl (StepS.andV rfl rfl) ?_
  refine TO.s rfl rfl rfl (StepS.assign rfl) ?_
  refine TO.code ?_
  refine TC.k ?_
  refine TC.region ?_
  refine TO.s rfl rfl rfl (StepS.move rfl) ?_
  refine TO.s rfl rfl rfl (StepS.shrV rfl rfl (by decide)) ?_
  refine TO.s rfl rfl rfl (StepS.assign rfl) ?_
  refine TO.code ?_
  refine TC.k ?_
  refine TC.region ?_
  refine TO.s rfl rfl rfl (StepS.move rfl) ?_
  refine TO.s rfl rfl rfl (StepS.andV rfl rfl) ?_
  refine TO.s rfl rfl rfl (StepS.assign rfl) ?_
  refine TO.code ?_
  refine TC.k ?_
  refine TC.region ?_
  refine TO.s rfl rfl rfl (StepS.move rfl) ?_
  refine TO.s rfl rfl rfl (StepS.shrV rfl rfl (by decide)) ?_
  refine TO.s rfl rfl rfl (StepS.assign rfl) ?_
  refine TO.code ?_
  refine TC.k ?_
  refine TC.region ?_
  refine TO.s rfl rfl rfl (StepS.move rfl) ?_
  refine TO.s rfl rfl rfl (StepS.move rfl) ?_
  refine TO.s rfl rfl rfl (StepS.ariV rfl rfl rfl) ?_
  refine TO.s rfl rfl rfl (StepS.assign rfl) ?_
  refine TO.code ?_
  refine TC.k ?_
  refine TC.region ?_
  refine TO.s rfl rfl rfl (StepS.move rfl) ?_
  refine TO.s rfl rfl rfl (StepS.move rfl) ?_
  refine TO.s rfl rfl rfl (StepS.ariV rfl rfl rfl) ?_
  refine TO.s rfl rfl rfl (StepS.move rfl) ?_
  refine TO.s rfl rfl rfl (StepS.shrV rfl rfl (by decide)) ?_
  refine TO.s rfl rfl rfl (StepS.ariV rfl rfl rfl) ?_
  refine TO.s rfl rfl rfl (StepS.assign rfl) ?_
  refine TO.code ?_
  refine TC.k ?_
  refine TC.region ?_
  refine TO.s rfl rfl rfl (StepS.move rfl) ?_
  refine TO.s rfl rfl rfl (StepS.andV rfl rfl) ?_
  refine TO.s rfl rfl rfl (StepS.assign rfl) ?_
  refine TO.code ?_
  refine TC.k ?_
  refine TC.region ?_
  refine TO.s rfl rfl rfl (StepS.move rfl) ?_
  refine TO.s rfl rfl rfl (StepS.shrV rfl rfl (by decide)) ?_
  refine TO.s rfl rfl rfl (StepS.assign rfl) ?_
  refine TO.code ?_
  refine TC.k ?_
  refine TC.region ?_
  refine TO.s rfl rfl rfl (StepS.move rfl) ?_
  refine TO.s rfl rfl rfl (StepS.move rfl) ?_
  refine TO.s rfl rfl rfl (StepS.move rfl) ?_
  refine TO.s rfl rfl rfl (StepS.ariV rfl rfl rfl) ?_
  refine TO.s rfl rfl rfl (StepS.ariV rfl rfl rfl) ?_
  refine TO.s rfl rfl rfl (StepS.assign rfl) ?_
  refine TO.code ?_
  refine TC.k ?_
  refine TC.region ?_
  refine TO.s rfl rfl rfl (StepS.move rfl) ?_
  refine TO.s rfl rfl rfl (StepS.move rfl) ?_
  refine TO.s rfl rfl rfl (StepS.ariV rfl rfl rfl) ?_
  refine TO.s rfl rfl rfl (StepS.move rfl) ?_
  refine TO.s rfl rfl rfl (StepS.ariV rfl rfl rfl) ?_
  refine TO.s rfl rfl rfl (StepS.move rfl) ?_
  refine TO.s rfl rfl rfl (StepS.shrV rfl rfl (by decide)) ?_
  refine TO.s rfl rfl rfl (StepS.ariV rfl rfl rfl) ?_
  refine TO.s rfl rfl rfl (StepS.assign rfl) ?_
  refine TO.code ?_
  refine TC.k ?_
  refine TC.region ?_
  refine TO.s rfl rfl rfl (StepS.move rfl) ?_
  refine TO.s rfl rfl rfl (StepS.move rfl) ?_
  refine TO.s rfl rfl rfl (StepS.ariV rfl rfl rfl) ?_
  refine TO.s rfl rfl rfl (StepS.assign rfl) ?_
  refine TO.code ?_
  cases hm
  refine TC.ret fun a w e s => ?_
  refine FRet.mk2 (P := Try.prog) (fn := Try.f131) (t := 4) (u := 5) e rfl rfl rfl ?_
  exact ⟨rfl, s.mono fun _ => Sat.dropN 0⟩

set_option maxRecDepth 100000 in
theorem C95 {B : World} {L : List HP} {a0 : Int} {a1 : Int} {r0 : Int} {r1 : Int} (hm : F95 a0 a1 = some (r0, r1)) {w : World} (st : St B L w) : Calls Try.prog 95 #[.int .u64 a0, .int .u64 a1] w (fun e w' => (e = .returned (.tuple #[.int .u64 r0, .int .u64 r1]) ∧ St B (L) w')) := by
  refine calls_of (N := 30) (L := L) (args := [.int .u64 a0, .int .u64 a1]) Try.func95 rfl rfl rfl ?_ st
  dsimp only [F95] at hm
  refine TC.k ?_
  refine TC.region ?_
  refine TO.s rfl rfl rfl (StepS.assign rfl) ?_
  refine TO.s rfl rfl rfl (StepS.assign rfl) ?_
  refine TO.code ?_
  refine TC.k ?_
  refine TC.cond rfl (fun hc1 => ?_) (fun hc1 => ?_)
  · replace hm := cond_t hc1 hm
    refine TC.k ?_
    refine TC.region ?_
    refine TO.s rfl rfl rfl (StepS.move rfl) ?_
    refine TO.s rfl rfl rfl (StepS.cvVU kintB_108_u64_true kintB_36_u32_true rfl) ?_
    refine TO.s rfl rfl rfl (StepS.move rfl) ?_
    refine TO.s rfl rfl rfl (StepS.cvVU kintB_108_u64_true kintB_36_u32_true rfl) ?_
    obtain ⟨⟨r2, r3⟩, hc4, hm⟩ := bind_some hm
    refine TO.q rfl rfl rfl (StepQ.call kcallB_130_true rfl rfl (fun _ st => C130  hc4 st)) ?_
    refine TO.s rfl rfl rfl (StepS.move rfl) ?_
    refine TO.s rfl rfl rfl (StepS.extract rfl rfl) ?_
    refine TO.s rfl rfl rfl (StepS.extract rfl rfl) ?_
    refine TO.s rfl rfl rfl (StepS.assign rfl) ?_
    refine TO.s rfl rfl rfl (StepS.assign rfl) ?_
    refine TO.code ?_
    refine TC.k ?_
    refine TC.region ?_
    refine TO.s rfl rfl rfl (StepS.move rfl) ?_
    refine TO.s rfl rfl rfl (StepS.cvUV kintB_36_u32_true kintB_108_u64_true rfl) ?_
    refine TO.s rfl rfl rfl (StepS.move rfl) ?_
    refine TO.s rfl rfl rfl (StepS.cvUV kintB_36_u32_true kintB_108_u64_true rfl) ?_
    refine TO.s rfl rfl rfl (StepS.assign rfl) ?_
    refine TO.s rfl rfl rfl (StepS.assign rfl) ?_
    refine TO.code ?_
    cases hm
    refine TC.ret fun a w e s => ?_
    refine FRet.mk2 (P := Try.prog) (fn := Try.f95) (t := 4) (u := 5) e rfl rfl rfl ?_
    exact ⟨rfl, s.mono fun _ => Sat.dropN 0⟩
  · replace hm := cond_f hc1 hm
    refine TC.skipk ?_
    refine TC.k ?_
    refine TC.region ?_
    refine TO.s rfl rfl rfl (StepS.move rfl) ?_
    refine TO.s rfl rfl rfl (StepS.move rfl) ?_
    obtain ⟨⟨r5, r6⟩, hc7, hm⟩ := bind_some hm
    refine TO.q rfl rfl rfl (StepQ.call kcallB_131_true rfl rfl (fun _ st => C131  hc7 st)) ?_
    refine TO.s rfl rfl rfl (StepS.move rfl) ?_
    refine TO.s rfl rfl rfl (StepS.extract rfl rfl) ?_
    refine TO.s rfl rfl rfl (StepS.extract rfl rfl) ?_
    refine TO.s rfl rfl rfl (StepS.assign rfl) ?_
    refine TO.s rfl rfl rfl (StepS.assign rfl) ?_
    refine TO.code ?_
    refine TC.k ?_
    refine TC.region ?_
    refine TO.s rfl rfl rfl (StepS.move rfl) ?_
    refine TO.s rfl rfl rfl (StepS.move rfl) ?_
    refine TO.s rfl rfl rfl (StepS.assign rfl) ?_
    refine TO.s rfl rfl rfl (StepS.assign rfl) ?_
    refine TO.code ?_
    cases hm
    refine TC.ret fun a w e s => ?_
    refine FRet.mk2 (P := Try.prog) (fn := Try.f95) (t := 4) (u := 5) e rfl rfl rfl ?_
    exact ⟨rfl, s.mono fun _ => Sat.dropN 0⟩

set_option maxRecDepth 100000 in
theorem C63 {B : World} {L : List HP} {a0 : List Int} {a1 : Int} {h0 : Value} {r0 : List Int} (e0 : Ent L (Rd 1 h0 (a0.map cI))) (hm : F63 a0 a1 = some r0) {w : World} (st : St B L w) : Calls Try.prog 63 #[h0, I a1] w (fun e w' => ∃ v M, e = .returned v ∧ (∃ (qv1 : Value), v = qv1 ∧ M = (OwnS 3 1 qv1 (r0.map cI) :: L)) ∧ St B M w') := by
  refine calls_of (N := 48) (L := L) (args := [h0, I a1]) Try.func63 rfl rfl rfl ?_ st
  dsimp only [F63] at hm
  refine TC.k ?_
  refine TC.region ?_
  refine TO.s rfl rfl rfl (StepS.assign rfl) ?_
  refine TO.code ?_
  refine TC.k ?_
  refine TC.k ?_
  refine TC.region ?_
  refine TO.s rfl rfl rfl (StepS.move rfl) ?_
  refine TO.s rfl rfl rfl (StepS.cmp rfl rfl rfl) ?_
  refine TO.code ?_
  refine TC.cond rfl (fun hc2 => ?_) (fun hc2 => ?_)
  · replace hm := cond_t hc2 hm
    refine TC.region ?_
    cases hm
  · replace hm := cond_f hc2 hm
    refine TC.skipk ?_
    refine TC.k ?_
    refine TC.region ?_
    refine TO.s rfl rfl rfl (StepS.move rfl) ?_
    refine TO.s rfl rfl rfl (StepS.lenm rfl e0 ksliceB_22_3_1_true rfl) ?_
    refine TO.s rfl rfl rfl (StepS.cvIV kintB_3_i64_true kintB_108_u64_true rfl) ?_
    refine TO.s rfl rfl rfl (StepS.move rfl) ?_
    refine TO.s rfl rfl rfl (StepS.cvIV kintB_3_i64_true kintB_108_u64_true rfl) ?_
    obtain ⟨⟨r3, r4⟩, hc5, hm⟩ := bind_some hm
    refine TO.q rfl rfl rfl (StepQ.call kcallB_95_true rfl rfl (fun _ st => C95  hc5 st)) ?_
    refine TO.s rfl rfl rfl (StepS.move rfl) ?_
    refine TO.s rfl rfl rfl (StepS.extract rfl rfl) ?_
    refine TO.s rfl rfl rfl (StepS.extract rfl rfl) ?_
    refine TO.s rfl rfl rfl (StepS.assign rfl) ?_
    refine TO.s rfl rfl rfl (StepS.assign rfl) ?_
    refine TO.code ?_
    refine TC.k ?_
    refine TC.k ?_
    refine TC.region ?_
    refine TO.s rfl rfl rfl (StepS.move rfl) ?_
    refine TO.s rfl rfl rfl (StepS.cmp rfl rfl rfl) ?_
    refine TO.s rfl rfl rfl (StepS.move rfl) ?_
    refine TO.mid1 3 26 (.bool ((decide (r3 > 0)) || (decide (r4 > 9223372036854775807)))) ?_ ?_
    · refine bcase ((decide (r3 > 0))) (fun hb6 => ?_) (fun hb6 => ?_)
      · refine TO.skip rfl rfl rfl (skipT hb6) rfl rfl ?_
        refine TO.skip rfl rfl rfl (skipT hb6) rfl rfl ?_
        refine TO.s rfl rfl rfl (StepS.pickT rfl hb6 rfl) ?_
        exact TO.up1 3 0 rfl rfl (by rw [hb6]; rfl) rfl
      · refine TO.sw rfl rfl rfl hb6 rfl rfl (StepS.move rfl) ?_
        refine TO.sw rfl rfl rfl hb6 rfl rfl (StepS.cmp rfl rfl rfl) ?_
        refine TO.s rfl rfl rfl (StepS.pickF rfl hb6 rfl) ?_
        exact TO.up1 3 0 rfl rfl (by rw [hb6]; rfl) rfl
    refine TO.code ?_
    refine TC.cond rfl (fun hc7 => ?_) (fun hc7 => ?_)
    · replace hm := cond_t hc7 hm
      refine TC.region ?_
      cases hm
    · replace hm := cond_f hc7 hm
      refine TC.skipk ?_
      refine TC.k ?_
      refine TC.region ?_
      refine TO.s rfl rfl rfl (StepS.move rfl) ?_
      refine TO.s rfl rfl rfl (StepS.cvVI kintB_108_u64_true kintB_3_i64_true rfl) ?_
      obtain ⟨y8, hk9, hm⟩ := bind_some hm
      refine TO.mkS (f := cI) (za := 0) kelemB_22_3_1_8_true kinfo_3_bind_zero_some_I_0 rfl (by decide) rfl rfl hk9 rfl fun v10 => ?_
      refine TO.s rfl rfl rfl (StepS.assign rfl) ?_
      refine TO.code ?_
      refine TC.k ?_
      refine TC.region ?_
      refine TO.s rfl rfl rfl (StepS.move rfl) ?_
      refine TO.s rfl rfl rfl (StepS.move rfl) ?_
      refine TO.copyO (f := cI) (l := y8) (m := a0) (o := 0) 0 ksliceB_22_3_1_true ⟨by decide, by omega⟩ rfl subv_self' rfl rfl e0.tl (fun x c hc => by simp [Value.oneCell'] at hc ⊢; first | (obtain rfl := hc; rfl)) rfl rfl ?_
      refine TO.s rfl rfl rfl (StepS.assign rfl) ?_
      refine TO.code ?_
      refine TC.k ?_
      obtain ⟨o20, hw21, hm⟩ := bind_some hm
      refine TC.loop hw21 (fun (y12, x14) => fun a w => ∃ v13 : Value, Mid 48 B [(7, v13), (8, I x14)] (OwnS 3 1 v13 (y12.map cI) :: L) a w) (fun y18 => fun a w => ∃ v19 : Value, Mid 48 B [(7, v19)] (OwnS 3 1 v19 (y18.map cI) :: L) a w) (fun (_ : Unit) _ _ => False) ?_ ?_ ?_ ?_
      · rintro ⟨y12, x14⟩ o20r hb22 a w ⟨v13, he, hs⟩
        dsimp only [F63_L0] at hb22
        refine TC.use ?_ he hs
        refine TC.k ?_
        refine TC.k ?_
        refine TC.region ?_
        refine TO.s rfl rfl rfl (StepS.move rfl) ?_
        refine TO.s rfl rfl rfl (StepS.move rfl) ?_
        refine TO.s rfl rfl rfl (StepS.lenm rfl (OwnS.rd (Ent.at 0 rfl)) ksliceB_22_3_1_true rfl) ?_
        refine TO.s rfl rfl rfl (StepS.cmp rfl rfl rfl) ?_
        refine TO.code ?_
        refine TC.cond rfl (fun hc23 => ?_) (fun hc23 => ?_)
        · replace hb22 := cond_t hc23 hb22
          refine TC.skipk ?_
          refine TC.block ?_
          obtain ⟨⟨y25, x27⟩, hj28, hb22⟩ := bind_some hb22
          first | refine TC.cutM (fun a w => ∃ v26 : Value, Mid 48 B [(7, v26), (8, I x27)] (OwnS 3 1 v26 (y25.map cI) :: L) a w) ?_ ?_ | refine TC.cutX (fun a w => ∃ v26 : Value, Mid 48 B [(7, v26), (8, I x27)] (OwnS 3 1 v26 (y25.map cI) :: L) a w) ?_ ?_
          · obtain ⟨yq24_3_1, hsq24_3_2, hj28⟩ := bind_some hj28
            obtain ⟨yq24_6_1, hsq24_6_2, hj28⟩ := bind_some hj28
            refine TC.region_any (L) 10 10 kfollows_mixedOrders_true rfl ?_
            refine TA.takeW 0 rfl rfl rfl rfl (StepS.move rfl) (by kernel_rfl) (by kernel_rfl) (by kernel_rfl) rfl (.inr (fun _ s => by replace s := Sat.erase 0 s; exact s)) ?_
            refine TA.takeW 1 rfl rfl rfl rfl (StepS.move rfl) (by kernel_rfl) (by kernel_rfl) (by kernel_rfl) rfl (.inr (fun _ s => by replace s := Sat.erase 0 s; exact s)) ?_
            refine TA.takeW 2 rfl rfl rfl rfl (StepS.move rfl) (by kernel_rfl) (by kernel_rfl) (by kernel_rfl) rfl (.inr (fun _ s => by replace s := Sat.erase 0 s; exact s)) ?_
            refine TA.takeW 4 rfl rfl rfl rfl (StepS.move rfl) (by kernel_rfl) (by kernel_rfl) (by kernel_rfl) rfl (.inr (fun _ s => by replace s := Sat.erase 0 s; exact s)) ?_
            refine TA.takeW 5 rfl rfl rfl rfl (StepS.move rfl) (by kernel_rfl) (by kernel_rfl) (by kernel_rfl) rfl (.inr (fun _ s => by replace s := Sat.erase 0 s; exact s)) ?_
            refine TA.all2 (i := 3) (j := 6) (by kernel_rfl) ?_ ?_
            · refine TB.of rfl ?_
              obtain ⟨hsq24_3_2a, hsq24_3_2b, hsq24_3_2c, _⟩ := slI_spec hsq24_3_2
              refine TO.s rfl rfl rfl (StepS.slc rfl (OwnS.rd (Ent.at 0 rfl)) ksliceB_22_3_1_true rfl (by simp [bnd]) hsq24_3_2a hsq24_3_2b (by simpa using hsq24_3_2c)) ?_
              refine TA.back (.inr (fun _ s => by replace s := Sat.erase 0 s; exact s)) ?_
              refine TA.all1 (i := 6) (by kernel_rfl) ?_
              refine TB.of rfl ?_
              obtain ⟨hsq24_6_2a, hsq24_6_2b, hsq24_6_2c, _⟩ := slI_spec hsq24_6_2
              refine TO.s rfl rfl rfl (StepS.slc rfl (OwnS.rd (Ent.at 0 rfl)) ksliceB_22_3_1_true rfl rfl hsq24_6_2a hsq24_6_2b (by simpa using hsq24_6_2c)) ?_
              refine TA.back (.inr (fun _ s => by replace s := Sat.erase 0 s; exact s)) ?_
              refine TA.all1 (i := 7) (by kernel_rfl) ?_
              refine TB.of rfl ?_
              refine TO.copyO (f := cI) (l := y12) (m := yq24_6_1) (o := x14) 0 ksliceB_22_3_1_true ⟨hsq24_3_2a, hsq24_3_2b⟩ rfl (fun _ _ => rfl) rfl rfl (Ent.sub (OwnS.rd (Ent.at 0 rfl)) hsq24_6_2) (fun x c hc => by simp [Value.oneCell'] at hc ⊢; first | (obtain rfl := hc; rfl)) rfl rfl ?_
              refine TA.back (.inr (fun _ s => by replace s := Sat.erase 0 s; exact s)) ?_
              refine TA.takeW 8 rfl rfl rfl rfl (StepS.ari rfl rfl rfl) (by kernel_rfl) (by kernel_rfl) (by kernel_rfl) rfl (.inr (fun _ s => by replace s := Sat.erase 0 s; exact s)) ?_
              refine TA.takeW 9 rfl rfl rfl rfl (StepS.assign rfl) (by kernel_rfl) (by kernel_rfl) (by kernel_rfl) rfl (.inr (fun _ s => by replace s := Sat.erase 0 s; exact s)) ?_
              cases hj28
              refine TA.nil (by kernel_rfl) fun a w e s => ?_
              exact ⟨v13, e.sub (lk_of_allIn ⟨rfl, rfl, trivial⟩), s⟩
            · refine TB.of rfl ?_
              obtain ⟨hsq24_6_2a, hsq24_6_2b, hsq24_6_2c, _⟩ := slI_spec hsq24_6_2
              refine TO.s rfl rfl rfl (StepS.slc rfl (OwnS.rd (Ent.at 0 rfl)) ksliceB_22_3_1_true rfl rfl hsq24_6_2a hsq24_6_2b (by simpa using hsq24_6_2c)) ?_
              refine TA.back (.inr (fun _ s => by replace s := Sat.erase 0 s; exact s)) ?_
              refine TA.all1 (i := 3) (by kernel_rfl) ?_
              refine TB.of rfl ?_
              obtain ⟨hsq24_3_2a, hsq24_3_2b, hsq24_3_2c, _⟩ := slI_spec hsq24_3_2
              refine TO.s rfl rfl rfl (StepS.slc rfl (OwnS.rd (Ent.at 0 rfl)) ksliceB_22_3_1_true rfl (by simp [bnd]) hsq24_3_2a hsq24_3_2b (by simpa using hsq24_3_2c)) ?_
              refine TA.back (.inr (fun _ s => by replace s := Sat.erase 0 s; exact s)) ?_
              refine TA.all1 (i := 7) (by kernel_rfl) ?_
              refine TB.of rfl ?_
              refine TO.copyO (f := cI) (l := y12) (m := yq24_6_1) (o := x14) 0 ksliceB_22_3_1_true ⟨hsq24_3_2a, hsq24_3_2b⟩ rfl (fun _ _ => rfl) rfl rfl (Ent.sub (OwnS.rd (Ent.at 0 rfl)) hsq24_6_2) (fun x c hc => by simp [Value.oneCell'] at hc ⊢; first | (obtain rfl := hc; rfl)) rfl rfl ?_
              refine TA.back (.inr (fun _ s => by replace s := Sat.erase 0 s; exact s)) ?_
              refine TA.takeW 8 rfl rfl rfl rfl (StepS.ari rfl rfl rfl) (by kernel_rfl) (by kernel_rfl) (by kernel_rfl) rfl (.inr (fun _ s => by replace s := Sat.erase 0 s; exact s)) ?_
              refine TA.takeW 9 rfl rfl rfl rfl (StepS.assign rfl) (by kernel_rfl) (by kernel_rfl) (by kernel_rfl) rfl (.inr (fun _ s => by replace s := Sat.erase 0 s; exact s)) ?_
              cases hj28
              refine TA.nil (by kernel_rfl) fun a w e s => ?_
              exact ⟨v13, e.sub (lk_of_allIn ⟨rfl, rfl, trivial⟩), s⟩
          · intro a w ⟨v26, he, hs⟩
            cases hb22
            have e := he; have s := hs
            exact ⟨v26, e.sub (lk_of_allIn ⟨rfl, rfl, trivial⟩), s⟩
        · replace hb22 := cond_f hc23 hb22
          cases hb22
          refine TC.exit rfl fun a w e s => ?_
          exact ⟨v13, e.sub (lk_of_allIn ⟨rfl, trivial⟩), s⟩
      · exact fun a w e s => ⟨v10, e.sub (lk_of_allIn ⟨rfl, rfl, trivial⟩), s⟩
      · rintro y18 rfl a w ⟨v19, he, hs⟩
        dsimp only [Ctl.on] at hm
        refine TC.use ?_ he hs
        refine TC.k ?_
        refine TC.region ?_
        refine TO.s rfl rfl rfl (StepS.move rfl) ?_
        refine TO.s rfl rfl rfl (StepS.assign rfl) ?_
        refine TO.code ?_
        cases hm
        refine TC.ret fun a w e s => ?_
        refine FRet.mk1 (P := Try.prog) (fn := Try.f63) (t := 4) e rfl rfl ?_
        refine ⟨_, _, rfl, ⟨(v19), rfl, rfl⟩, ?_⟩
        refine s.mono fun _ s => ?_
        replace s := Sat.front 0 rfl s
        exact s
      · rintro r rfl
        exact fun a w h => h.elim

set_option maxRecDepth 100000 in
theorem C29 {B : World} {L : List HP} {a0 : Int} {a1 : List (Int × Int × Int × Int)} {h1 : Value} {r0 : (List Int) × (BitVec 32) × Int × List Int} {r1 : Int} (e1 : Ent L (Rd 4 h1 (a1.map cTiiii))) (hm : F29 a0 a1 = some (r0, r1)) {w : World} (st : St B L w) : Calls Try.prog 29 #[I a0, h1] w (fun e w' => ∃ v M, e = .returned v ∧ (∃ (qv1 : Value) (qv2 : Value), v = .tuple #[.agg #[qv1, U r0.2.1, I r0.2.2.1, qv2], I r1] ∧ M = (OwnS 28 1 qv1 (r0.1.map cI) :: OwnS 3 1 qv2 (r0.2.2.2.map cI) :: L)) ∧ St B M w') := by
  refine calls_of (N := 125) (L := L) (args := [I a0, h1]) Try.func29 rfl rfl rfl ?_ st
  dsimp only [F29] at hm
  refine TC.k ?_
  refine TC.region ?_
  refine TO.alloc kinfo_58_bind_zero_some_agg_slice_none_0_0_U_0_I_0_slice_none_0_0 rfl rfl fun b3 => ?_
  refine TO.s rfl rfl rfl (StepS.assign rfl) ?_
  refine TO.code ?_
  refine TC.k ?_
  refine TC.k ?_
  refine TC.region ?_
  refine TO.s rfl rfl rfl (StepS.move rfl) ?_
  refine TO.s rfl rfl rfl (StepS.cmp rfl rfl rfl) ?_
  refine TO.s rfl rfl rfl (StepS.move rfl) ?_
  refine TO.mid1 3 19 (.bool ((decide (a0 < 1)) || (decide (a0 > 6)))) ?_ ?_
  · refine bcase ((decide (a0 < 1))) (fun hb4 => ?_) (fun hb4 => ?_)
    · refine TO.skip rfl rfl rfl (skipT hb4) rfl rfl ?_
      refine TO.skip rfl rfl rfl (skipT hb4) rfl rfl ?_
      refine TO.s rfl rfl rfl (StepS.pickT rfl hb4 rfl) ?_
      exact TO.up1 3 0 rfl rfl (by rw [hb4]; rfl) rfl
    · refine TO.sw rfl rfl rfl hb4 rfl rfl (StepS.move rfl) ?_
      refine TO.sw rfl rfl rfl hb4 rfl rfl (StepS.cmp rfl rfl rfl) ?_
      refine TO.s rfl rfl rfl (StepS.pickF rfl hb4 rfl) ?_
      exact TO.up1 3 0 rfl rfl (by rw [hb4]; rfl) rfl
  refine TO.s rfl rfl rfl (StepS.move rfl) ?_
  refine TO.mid1 4 24 (.bool (((decide (a0 < 1)) || (decide (a0 > 6))) || (decide ((a1.length : Int) > 60)))) ?_ ?_
  · refine bcase (((decide (a0 < 1)) || (decide (a0 > 6)))) (fun hb5 => ?_) (fun hb5 => ?_)
    · refine TO.skip rfl rfl rfl (skipT hb5) rfl rfl ?_
      refine TO.skip rfl rfl rfl (skipT hb5) rfl rfl ?_
      refine TO.skip rfl rfl rfl (skipT hb5) rfl rfl ?_
      refine TO.s rfl rfl rfl (StepS.pickT rfl hb5 rfl) ?_
      exact TO.up1 4 0 rfl rfl (by rw [hb5]; rfl) rfl
    · refine TO.sw rfl rfl rfl hb5 rfl rfl (StepS.move rfl) ?_
      refine TO.sw rfl rfl rfl hb5 rfl rfl (StepS.lenm rfl e1.tl ksliceB_23_106_4_true rfl) ?_
      refine TO.sw rfl rfl rfl hb5 rfl rfl (StepS.cmp rfl rfl rfl) ?_
      refine TO.s rfl rfl rfl (StepS.pickF rfl hb5 rfl) ?_
      exact TO.up1 4 0 rfl rfl (by rw [hb5]; rfl) rfl
  refine TO.code ?_
  refine TC.cond rfl (fun hc6 => ?_) (fun hc6 => ?_)
  · replace hm := cond_t hc6 hm
    refine TC.k ?_
    refine TC.region ?_
    refine TO.s rfl rfl rfl (StepS.build (cs := [.slice none 0 0, U 0, I 0, .slice none 0 0]) rfl (by kernel_rfl)) ?_
    refine TO.stB (us := [.slice none 0 0, U 0, I 0, .slice none 0 0]) 0 [.slice none 0 0, U 0, I 0, .slice none 0 0] rfl rfl rfl ksizeB_58_4_true rfl rfl rfl (by simp [Value.oneCell']) rfl ?_
    refine TO.s rfl rfl rfl (StepS.assign rfl) ?_
    refine TO.code ?_
    cases hm
    refine TC.ret fun a w e s => ?_
    refine FRet.cell2 (P := Try.prog) (fn := Try.f29) e s rfl rfl rfl (Ent.at 0 rfl) kaggB_58_4_true rfl ?_
    refine ⟨_, _, rfl, ⟨(.slice none 0 0), (.slice none 0 0), rfl, rfl⟩, ?_⟩
    refine s.mono fun _ s => ?_
    replace s := Sat.nilS (e := 3) (sz := 1) (f := cI) s
    replace s := Sat.nilS (e := 28) (sz := 1) (f := cI) s
    replace s := Sat.erase 2 s
    exact s
  · replace hm := cond_f hc6 hm
    refine TC.skipk ?_
    refine TC.k ?_
    refine TC.region ?_
    refine TO.litS (f := cI) ([1] : List Int) kelemB_22_3_1_8_true kinfo_3_bind_zero_some_I_0 rfl rfl (fun _ => rfl) rfl rfl (by kernel_rfl) rfl fun v7 => ?_
    refine TO.s rfl rfl rfl (StepS.move rfl) ?_
    obtain ⟨r9, hc10, hm⟩ := bind_some hm
    refine TO.callO kcallB_63_true rfl rfl rfl (fun _ st => C63 (OwnS.rd (Ent.at 0 rfl)) hc10 st) ?_
    rintro v11 _ ⟨_, rfl, rfl⟩
    refine TO.pure (fun _ s => Rd.one (OwnS.rd (Ent.at 0 rfl)) s) fun oc13 => ?_
    refine TO.s rfl rfl rfl (StepS.buildS (us := [(3, .agg #[v11])]) (cs := [.slice none 0 0, U 0, I 0, v11]) rfl (by simp only [List.map_cons, List.map_nil, oc13.2]; rfl) (by kernel_rfl)) ?_
    refine TO.alloc kinfo_58_bind_zero_some_agg_slice_none_0_0_U_0_I_0_slice_none_0_0 rfl rfl fun b14 => ?_
    refine TO.pure (fun _ s => Rd.one (OwnS.rd (Ent.at 1 rfl)) s) fun oc15 => ?_
    refine TO.stB (us := [.slice none 0 0, U 0, I 0, v11]) 0 [.slice none 0 0, U 0, I 0, v11] rfl rfl rfl ksizeB_58_4_true rfl rfl rfl (by intro u hu; simp only [List.mem_cons, List.not_mem_nil, or_false] at hu; rcases hu with rfl | rfl | rfl | rfl <;> first | exact oc15.1 | rfl) rfl ?_
    refine TO.code ?_
    refine TC.k ?_
    refine TC.region ?_
    refine TO.s rfl rfl rfl (StepS.assign rfl) ?_
    refine TO.code ?_
    refine TC.k ?_
    refine TC.region ?_
    refine TO.s rfl rfl rfl (StepS.move rfl) ?_
    obtain ⟨y16, hk17, hm⟩ := bind_some hm
    refine TO.mkS (f := cI) (za := 0) kelemB_22_3_1_8_true kinfo_3_bind_zero_some_I_0 rfl (by decide) rfl rfl hk17 rfl fun v18 => ?_
    refine TO.s rfl rfl rfl (StepS.assign rfl) ?_
    refine TO.code ?_
    refine TC.k ?_
    refine TC.k ?_
    refine TC.region ?_
    refine TO.s rfl rfl rfl (StepS.move rfl) ?_
    refine TO.s rfl rfl rfl (StepS.lenm rfl e1.tl.tl.tl.tl.tl ksliceB_23_106_4_true rfl) ?_
    refine TO.s rfl rfl rfl (StepS.move rfl) ?_
    refine TO.code ?_
    obtain ⟨o51, hw52, hm⟩ := bind_some hm
    refine TC.loop hw52 (fun (y22, y23, y25, x27, x28, x29, x30) => fun a w => ∃ v20 : Value, ∃ v24 : Value, ∃ v26 : Value, Mid 125 B [(0, I a0), (4, .pointer (some ⟨b3, 0, none⟩)), (6, .pointer (some ⟨b14, 0, none⟩)), (7, I x29), (8, v24), (32, h1), (33, I (a1.length : Int)), (34, I x30)] (OwnS 28 1 v20 (y22.map cI) :: OwnS 3 1 v24 (y23.map cI) :: Bx b14 58 [v20, U x27, I x28, v26] :: OwnS 3 1 v26 (y25.map cI) :: OwnS 3 1 v7 (([1] : List Int).map cI) :: Bx b3 58 [.slice none 0 0, U 0, I 0, .slice none 0 0] :: L) a w) (fun (y44, y45, y47, x49, x50) => fun a w => ∃ v42 : Value, ∃ v46 : Value, ∃ v48 : Value, Mid 125 B [(4, .pointer (some ⟨b3, 0, none⟩)), (6, .pointer (some ⟨b14, 0, none⟩))] (OwnS 28 1 v42 (y44.map cI) :: OwnS 3 1 v46 (y45.map cI) :: Bx b14 58 [v42, U x49, I x50, v48] :: OwnS 3 1 v48 (y47.map cI) :: OwnS 3 1 v7 (([1] : List Int).map cI) :: Bx b3 58 [.slice none 0 0, U 0, I 0, .slice none 0 0] :: L) a w) (fun (_ : Unit) _ _ => False) ?_ ?_ ?_ ?_
    · rintro ⟨y22, y23, y25, x27, x28, x29, x30⟩ o51r hb53 a w ⟨v20, v24, v26, he, hs⟩
      dsimp only [F29_L0] at hb53
      refine TC.use ?_ he hs
      refine TC.k ?_
      refine TC.region ?_
      refine TO.s rfl rfl rfl (StepS.cmp rfl rfl rfl) ?_
      refine TO.code ?_
      refine TC.k ?_
      refine TC.cond rfl (fun hc54 => ?_) (fun hc54 => ?_)
      · replace hb53 := cond_t hc54 hb53
        refine TC.skipk ?_
        refine TC.k ?_
        refine TC.block ?_
        refine TC.k ?_
        refine TC.region ?_
        obtain ⟨x55, hx56, hb53⟩ := bind_some hb53
        refine TO.s rfl rfl rfl (StepS.idx rfl rfl e1.tl.tl.tl.tl.tl.tl ksliceB_23_106_4_true (idx_spec hx56).1 (idxm_lt hx56)) ?_
        refine TO.s rfl rfl rfl (StepS.ldE rfl e1.tl.tl.tl.tl.tl.tl kaggB_106_4_true rfl (idxm hx56)) ?_
        refine TO.alloc kinfo_106_bind_zero_some_agg_I_0_I_0_I_0_I_0 rfl rfl fun b57 => ?_
        refine TO.stB (us := [I x55.1, I x55.2.1, I x55.2.2.1, I x55.2.2.2]) 0 [I x55.1, I x55.2.1, I x55.2.2.1, I x55.2.2.2] rfl rfl rfl ksizeB_106_4_true rfl rfl rfl (by simp [Value.oneCell']) rfl ?_
        refine TO.code ?_
        refine TC.k ?_
        refine TC.region ?_
        refine TO.s rfl rfl rfl (StepS.assign rfl) ?_
        refine TO.code ?_
        refine TC.k ?_
        obtain ⟨⟨y58, y60, x62, x63, x64, x65⟩, hj66, hb53⟩ := bind_some hb53
        first | refine TC.cutM (fun a w => ∃ v59 : Value, ∃ v61 : Value, Mid 125 B [(0, I a0), (4, .pointer (some ⟨b3, 0, none⟩)), (6, .pointer (some ⟨b14, 0, none⟩)), (7, I x64), (8, v59), (11, I x65), (32, h1), (33, I (a1.length : Int)), (34, I x30)] (Bx b57 106 [I x55.1, I x55.2.1, I x55.2.2.1, I x55.2.2.2] :: OwnS 28 1 v20 (y22.map cI) :: OwnS 3 1 v59 (y58.map cI) :: Bx b14 58 [v20, U x62, I x63, v61] :: OwnS 3 1 v61 (y60.map cI) :: OwnS 3 1 v7 (([1] : List Int).map cI) :: Bx b3 58 [.slice none 0 0, U 0, I 0, .slice none 0 0] :: L) a w) ?_ ?_ | refine TC.cutX (fun a w => ∃ v59 : Value, ∃ v61 : Value, Mid 125 B [(0, I a0), (4, .pointer (some ⟨b3, 0, none⟩)), (6, .pointer (some ⟨b14, 0, none⟩)), (7, I x64), (8, v59), (11, I x65), (32, h1), (33, I (a1.length : Int)), (34, I x30)] (Bx b57 106 [I x55.1, I x55.2.1, I x55.2.2.1, I x55.2.2.2] :: OwnS 28 1 v20 (y22.map cI) :: OwnS 3 1 v59 (y58.map cI) :: Bx b14 58 [v20, U x62, I x63, v61] :: OwnS 3 1 v61 (y60.map cI) :: OwnS 3 1 v7 (([1] : List Int).map cI) :: Bx b3 58 [.slice none 0 0, U 0, I 0, .slice none 0 0] :: L) a w) ?_ ?_
        · refine TC.block ?_
          refine TC.k ?_
          refine TC.region ?_
          refine TO.s rfl rfl rfl (StepS.fld rfl kfieldB_106_0_0_true) ?_
          refine TO.s rfl rfl rfl (StepS.ldB rfl (Ent.at 0 rfl) kscalB_3_true rfl) ?_
          refine TO.s rfl rfl rfl (StepS.cmp rfl rfl rfl) ?_
          refine TO.s rfl rfl rfl (StepS.move rfl) ?_
          refine TO.mid1 4 77 (.bool ((x55.1 != 1) && (x55.1 != 2))) ?_ ?_
          · refine bcase ((x55.1 != 1)) (fun hb67 => ?_) (fun hb67 => ?_)
            · refine TO.sw rfl rfl rfl hb67 rfl rfl (StepS.fld rfl kfieldB_106_0_0_true) ?_
              refine TO.sw rfl rfl rfl hb67 rfl rfl (StepS.ldB rfl (Ent.at 0 rfl) kscalB_3_true rfl) ?_
              refine TO.sw rfl rfl rfl hb67 rfl rfl (StepS.cmp rfl rfl rfl) ?_
              refine TO.s rfl rfl rfl (StepS.pickT rfl hb67 rfl) ?_
              exact TO.up1 4 0 rfl rfl (by rw [hb67]; rfl) rfl
            · refine TO.skip rfl rfl rfl (skipF hb67) rfl rfl ?_
              refine TO.skip rfl rfl rfl (skipF hb67) rfl rfl ?_
              refine TO.skip rfl rfl rfl (skipF hb67) rfl rfl ?_
              refine TO.s rfl rfl rfl (StepS.pickF rfl hb67 rfl) ?_
              exact TO.up1 4 0 rfl rfl (by rw [hb67]; rfl) rfl
          refine TO.s rfl rfl rfl (StepS.assign rfl) ?_
          refine TO.code ?_
          refine TC.cond rfl (fun hc68 => ?_) (fun hc68 => ?_)
          · replace hj66 := cond_t hc68 hj66
            refine TC.region ?_
            refine TO.s rfl rfl rfl (StepS.assign rfl) ?_
            cases hj66
            refine TO.nil fun a w e s => ?_
            exact ⟨v24, v26, e.sub (lk_of_allIn ⟨rfl, rfl, rfl, rfl, rfl, rfl, rfl, rfl, rfl, trivial⟩), s⟩
          · replace hj66 := cond_f hc68 hj66
            refine TC.k ?_
            refine TC.region ?_
            refine TO.s rfl rfl rfl (StepS.fld rfl kfieldB_106_0_0_true) ?_
            refine TO.s rfl rfl rfl (StepS.ldB rfl (Ent.at 0 rfl) kscalB_3_true rfl) ?_
            refine TO.s rfl rfl rfl (StepS.cmp rfl rfl rfl) ?_
            refine TO.s rfl rfl rfl (StepS.assign rfl) ?_
            refine TO.code ?_
            refine TC.cond rfl (fun hc69 => ?_) (fun hc69 => ?_)
            · replace hj66 := cond_t hc69 hj66
              refine TC.k ?_
              refine TC.region ?_
              refine TO.s rfl rfl rfl (StepS.move rfl) ?_
              refine TO.s rfl rfl rfl (StepS.ari rfl rfl rfl) ?_
              refine TO.s rfl rfl rfl (StepS.assign rfl) ?_
              refine TO.code ?_
              refine TC.k ?_
              refine TC.region ?_
              refine TO.s rfl rfl rfl (StepS.move rfl) ?_
              refine TO.s rfl rfl rfl (StepS.lenm rfl (OwnS.rd (Ent.at 2 rfl)) ksliceB_22_3_1_true rfl) ?_
              refine TO.s rfl rfl rfl (StepS.move rfl) ?_
              refine TO.code ?_
              obtain ⟨o75, hw76, hj66⟩ := bind_some hj66
              refine TC.loop hw76 (fun (x70, x71) => fun a w => Mid 125 B [(0, I a0), (4, .pointer (some ⟨b3, 0, none⟩)), (6, .pointer (some ⟨b14, 0, none⟩)), (7, I (w64 (x29 + 1))), (8, v24), (11, I 0), (32, h1), (33, I (a1.length : Int)), (34, I x30), (84, v24), (85, I (y23.length : Int)), (86, I x71)] (Bx b57 106 [I x55.1, I x55.2.1, I x55.2.2.1, I x55.2.2.2] :: OwnS 28 1 v20 (y22.map cI) :: OwnS 3 1 v24 (y23.map cI) :: Bx b14 58 [v20, U x70, I x28, v26] :: OwnS 3 1 v26 (y25.map cI) :: OwnS 3 1 v7 (([1] : List Int).map cI) :: Bx b3 58 [.slice none 0 0, U 0, I 0, .slice none 0 0] :: L) a w) (fun x74 => fun a w => Mid 125 B [(0, I a0), (4, .pointer (some ⟨b3, 0, none⟩)), (6, .pointer (some ⟨b14, 0, none⟩)), (7, I (w64 (x29 + 1))), (8, v24), (11, I 0), (32, h1), (33, I (a1.length : Int)), (34, I x30)] (Bx b57 106 [I x55.1, I x55.2.1, I x55.2.2.1, I x55.2.2.2] :: OwnS 28 1 v20 (y22.map cI) :: OwnS 3 1 v24 (y23.map cI) :: Bx b14 58 [v20, U x74, I x28, v26] :: OwnS 3 1 v26 (y25.map cI) :: OwnS 3 1 v7 (([1] : List Int).map cI) :: Bx b3 58 [.slice none 0 0, U 0, I 0, .slice none 0 0] :: L) a w) (fun (_ : Unit) _ _ => False) ?_ ?_ ?_ ?_
              · rintro ⟨x70, x71⟩ o75r hb77 a w ⟨he, hs⟩
                dsimp only [F29_L1] at hb77
                refine TC.use ?_ he hs
                refine TC.k ?_
                refine TC.region ?_
                refine TO.s rfl rfl rfl (StepS.cmp rfl rfl rfl) ?_
                refine TO.code ?_
                refine TC.k ?_
                refine TC.cond rfl (fun hc78 => ?_) (fun hc78 => ?_)
                · replace hb77 := cond_t hc78 hb77
                  refine TC.skipk ?_
                  refine TC.k ?_
                  obtain ⟨x79, hj80, hb77⟩ := bind_some hb77
                  first | refine TC.cutM (fun a w => Mid 125 B [(0, I a0), (4, .pointer (some ⟨b3, 0, none⟩)), (6, .pointer (some ⟨b14, 0, none⟩)), (7, I (w64 (x29 + 1))), (8, v24), (11, I 0), (32, h1), (33, I (a1.length : Int)), (34, I x30), (84, v24), (85, I (y23.length : Int)), (86, I x71)] (Bx b57 106 [I x55.1, I x55.2.1, I x55.2.2.1, I x55.2.2.2] :: OwnS 28 1 v20 (y22.map cI) :: OwnS 3 1 v24 (y23.map cI) :: Bx b14 58 [v20, U x79, I x28, v26] :: OwnS 3 1 v26 (y25.map cI) :: OwnS 3 1 v7 (([1] : List Int).map cI) :: Bx b3 58 [.slice none 0 0, U 0, I 0, .slice none 0 0] :: L) a w) ?_ ?_ | refine TC.cutX (fun a w => Mid 125 B [(0, I a0), (4, .pointer (some ⟨b3, 0, none⟩)), (6, .pointer (some ⟨b14, 0, none⟩)), (7, I (w64 (x29 + 1))), (8, v24), (11, I 0), (32, h1), (33, I (a1.length : Int)), (34, I x30), (84, v24), (85, I (y23.length : Int)), (86, I x71)] (Bx b57 106 [I x55.1, I x55.2.1, I x55.2.2.1, I x55.2.2.2] :: OwnS 28 1 v20 (y22.map cI) :: OwnS 3 1 v24 (y23.map cI) :: Bx b14 58 [v20, U x79, I x28, v26] :: OwnS 3 1 v26 (y25.map cI) :: OwnS 3 1 v7 (([1] : List Int).map cI) :: Bx b3 58 [.slice none 0 0, U 0, I 0, .slice none 0 0] :: L) a w) ?_ ?_
                  · refine TC.block ?_
                    refine TC.k ?_
                    refine TC.region ?_
                    refine TO.s rfl rfl rfl (StepS.move rfl) ?_
                    obtain ⟨x81, hx82, hj80⟩ := bind_some hj80
                    refine TO.s rfl rfl rfl (StepS.idx rfl rfl (OwnS.rd (Ent.at 2 rfl)) ksliceB_22_3_1_true (idx_spec hx82).1 (idxm_lt hx82)) ?_
                    refine TO.s rfl rfl rfl (StepS.ld0 rfl (OwnS.rd (Ent.at 2 rfl)) kscalB_3_true rfl (idxm hx82) rfl) ?_
                    refine TO.s rfl rfl rfl (StepS.assign rfl) ?_
                    refine TO.s rfl rfl rfl (StepS.assign rfl) ?_
                    refine TO.code ?_
                    refine TC.k ?_
                    refine TC.region ?_
                    refine TO.s rfl rfl rfl (StepS.move rfl) ?_
                    refine TO.s rfl rfl rfl (StepS.move rfl) ?_
                    refine TO.s rfl rfl rfl (StepS.ari rfl rfl rfl) ?_
                    refine TO.s rfl rfl rfl (StepS.fld rfl kfieldB_58_3_3_true) ?_
                    refine TO.s rfl rfl rfl (StepS.ldB rfl (Ent.at 3 rfl) kscalB_22_true rfl) ?_
                    refine TO.s rfl rfl rfl (StepS.move rfl) ?_
                    obtain ⟨x83, hx84, hj80⟩ := bind_some hj80
                    refine TO.s rfl rfl rfl (StepS.idx rfl rfl (OwnS.rd (Ent.at 4 rfl)) ksliceB_22_3_1_true (idx_spec hx84).1 (idxm_lt hx84)) ?_
                    refine TO.s rfl rfl rfl (StepS.ld0 rfl (OwnS.rd (Ent.at 4 rfl)) kscalB_3_true rfl (idxm hx84) rfl) ?_
                    refine TO.s rfl rfl rfl (StepS.cmp rfl rfl rfl) ?_
                    refine TO.code ?_
                    refine TC.cond rfl (fun hc85 => ?_) (fun hc85 => ?_)
                    · replace hj80 := cond_t hc85 hj80
                      refine TC.region_tail 6 kfollows_mixedOrders_true (by kernel_rfl) ?_
                      refine TS.s rfl rfl rfl (StepS.fld rfl kfieldB_58_1_1_true) ?_
                      refine TS.s rfl rfl rfl (StepS.ldB rfl (Ent.at 3 rfl) kscalB_36_true rfl) ?_
                      refine TS.s rfl rfl rfl (StepS.move rfl) ?_
                      obtain ⟨k86, hk87, hj80⟩ := bind_some hj80
                      refine TS.s rfl rfl rfl (StepS.shlk (m := 1#32) rfl rfl hk87) ?_
                      refine TS.s rfl rfl rfl (StepS.bitU rfl rfl rfl) ?_
                      refine TS.s rfl rfl rfl (StepS.fld rfl kfieldB_58_1_1_true) ?_
                      refine TS.nil ?_
                      refine TO.at ?_
                      refine TO.stB (us := [U (x70 ||| ((1#32) <<< k86))]) 3 [v20, U (x70 ||| ((1#32) <<< k86)), I x28, v26] rfl rfl rfl ksizeB_36_1_true rfl rfl rfl (by simp [Value.oneCell']) rfl ?_
                      cases hj80
                      refine TO.nil fun a w e s => ?_
                      exact ⟨e.sub (lk_of_allIn ⟨rfl, rfl, rfl, rfl, rfl, rfl, rfl, rfl, rfl, rfl, rfl, rfl, trivial⟩), s⟩
                    · replace hj80 := cond_f hc85 hj80
                      cases hj80
                      refine TC.skip fun a w e s => ?_
                      exact ⟨e.sub (lk_of_allIn ⟨rfl, rfl, rfl, rfl, rfl, rfl, rfl, rfl, rfl, rfl, rfl, rfl, trivial⟩), s⟩
                  · intro a w ⟨he, hs⟩
                    refine TC.use ?_ he hs
                    refine TC.region ?_
                    refine TO.s rfl rfl rfl (StepS.ari rfl rfl rfl) ?_
                    refine TO.s rfl rfl rfl (StepS.move rfl) ?_
                    cases hb77
                    refine TO.nil fun a w e s => ?_
                    exact ⟨e.sub (lk_of_allIn ⟨rfl, rfl, rfl, rfl, rfl, rfl, rfl, rfl, rfl, rfl, rfl, rfl, trivial⟩), s⟩
                · replace hb77 := cond_f hc78 hb77
                  cases hb77
                  refine TC.exit rfl fun a w e s => ?_
                  exact ⟨e.sub (lk_of_allIn ⟨rfl, rfl, rfl, rfl, rfl, rfl, rfl, rfl, rfl, trivial⟩), s⟩
              · exact fun a w e s => ⟨e.sub (lk_of_allIn ⟨rfl, rfl, rfl, rfl, rfl, rfl, rfl, rfl, rfl, rfl, rfl, rfl, trivial⟩), s⟩
              · rintro x74 rfl a w ⟨he, hs⟩
                dsimp only [Ctl.on] at hj66
                cases hj66
                have e := he; have s := hs
                exact ⟨v24, v26, e.sub (lk_of_allIn ⟨rfl, rfl, rfl, rfl, rfl, rfl, rfl, rfl, rfl, trivial⟩), s⟩
              · rintro r rfl
                exact fun a w h => h.elim
            · replace hj66 := cond_f hc69 hj66
              refine TC.k ?_
              refine TC.region ?_
              refine TO.s rfl rfl rfl (StepS.fld rfl kfieldB_106_1_1_true) ?_
              refine TO.s rfl rfl rfl (StepS.ldB rfl (Ent.at 0 rfl) kscalB_3_true rfl) ?_
              refine TO.s rfl rfl rfl (StepS.cmp rfl rfl rfl) ?_
              refine TO.s rfl rfl rfl (StepS.move rfl) ?_
              refine TO.mid1 5 116 (.bool ((decide (x55.2.1 < 0)) || (decide (x55.2.1 ≥ a0)))) ?_ ?_
              · refine bcase ((decide (x55.2.1 < 0))) (fun hb88 => ?_) (fun hb88 => ?_)
                · refine TO.skip rfl rfl rfl (skipT hb88) rfl rfl ?_
                  refine TO.skip rfl rfl rfl (skipT hb88) rfl rfl ?_
                  refine TO.skip rfl rfl rfl (skipT hb88) rfl rfl ?_
                  refine TO.skip rfl rfl rfl (skipT hb88) rfl rfl ?_
                  refine TO.s rfl rfl rfl (StepS.pickT rfl hb88 rfl) ?_
                  exact TO.up1 5 0 rfl rfl (by rw [hb88]; rfl) rfl
                · refine TO.sw rfl rfl rfl hb88 rfl rfl (StepS.fld rfl kfieldB_106_1_1_true) ?_
                  refine TO.sw rfl rfl rfl hb88 rfl rfl (StepS.ldB rfl (Ent.at 0 rfl) kscalB_3_true rfl) ?_
                  refine TO.sw rfl rfl rfl hb88 rfl rfl (StepS.move rfl) ?_
                  refine TO.sw rfl rfl rfl hb88 rfl rfl (StepS.cmp rfl rfl rfl) ?_
                  refine TO.s rfl rfl rfl (StepS.pickF rfl hb88 rfl) ?_
                  exact TO.up1 5 0 rfl rfl (by rw [hb88]; rfl) rfl
              refine TO.s rfl rfl rfl (StepS.assign rfl) ?_
              refine TO.code ?_
              refine TC.cond rfl (fun hc89 => ?_) (fun hc89 => ?_)
              · replace hj66 := cond_t hc89 hj66
                refine TC.region ?_
                refine TO.s rfl rfl rfl (StepS.assign rfl) ?_
                cases hj66
                refine TO.nil fun a w e s => ?_
                exact ⟨v24, v26, e.sub (lk_of_allIn ⟨rfl, rfl, rfl, rfl, rfl, rfl, rfl, rfl, rfl, trivial⟩), s⟩
              · replace hj66 := cond_f hc89 hj66
                refine TC.k ?_
                refine TC.k ?_
                refine TC.region ?_
                refine TO.s rfl rfl rfl (StepS.fld rfl kfieldB_58_1_1_true) ?_
                refine TO.s rfl rfl rfl (StepS.ldB rfl (Ent.at 3 rfl) kscalB_36_true rfl) ?_
                refine TO.s rfl rfl rfl (StepS.fld rfl kfieldB_106_1_1_true) ?_
                refine TO.s rfl rfl rfl (StepS.ldB rfl (Ent.at 0 rfl) kscalB_3_true rfl) ?_
                obtain ⟨k90, hk91, hj66⟩ := bind_some hj66
                refine TO.s rfl rfl rfl (StepS.shrk rfl rfl hk91) ?_
                refine TO.s rfl rfl rfl (StepS.bitU (n := 1#32) rfl rfl rfl) ?_
                refine TO.s rfl rfl rfl (StepS.cmpU (n := 1#32) rfl rfl rfl) ?_
                refine TO.code ?_
                obtain ⟨⟨y92, x94, x95⟩, hj96, hj66⟩ := bind_some hj66
                first | refine TC.cutM (fun a w => ∃ v93 : Value, Mid 125 B [(0, I a0), (4, .pointer (some ⟨b3, 0, none⟩)), (6, .pointer (some ⟨b14, 0, none⟩)), (7, I x29), (8, v24), (10, .pointer (some ⟨b57, 0, none⟩)), (11, I 0), (32, h1), (33, I (a1.length : Int)), (34, I x30)] (Bx b57 106 [I x55.1, I x55.2.1, I x55.2.2.1, I x55.2.2.2] :: OwnS 28 1 v20 (y22.map cI) :: OwnS 3 1 v24 (y23.map cI) :: Bx b14 58 [v20, U x94, I x95, v93] :: OwnS 3 1 v93 (y92.map cI) :: OwnS 3 1 v7 (([1] : List Int).map cI) :: Bx b3 58 [.slice none 0 0, U 0, I 0, .slice none 0 0] :: L) a w) ?_ ?_ | refine TC.cutX (fun a w => ∃ v93 : Value, Mid 125 B [(0, I a0), (4, .pointer (some ⟨b3, 0, none⟩)), (6, .pointer (some ⟨b14, 0, none⟩)), (7, I x29), (8, v24), (10, .pointer (some ⟨b57, 0, none⟩)), (11, I 0), (32, h1), (33, I (a1.length : Int)), (34, I x30)] (Bx b57 106 [I x55.1, I x55.2.1, I x55.2.2.1, I x55.2.2.2] :: OwnS 28 1 v20 (y22.map cI) :: OwnS 3 1 v24 (y23.map cI) :: Bx b14 58 [v20, U x94, I x95, v93] :: OwnS 3 1 v93 (y92.map cI) :: OwnS 3 1 v7 (([1] : List Int).map cI) :: Bx b3 58 [.slice none 0 0, U 0, I 0, .slice none 0 0] :: L) a w) ?_ ?_
                · refine TC.cond rfl (fun hc97 => ?_) (fun hc97 => ?_)
                  · replace hj96 := cond_t hc97 hj96
                    refine TC.k ?_
                    refine TC.region_tail 7 kfollows_mixedOrders_true (by kernel_rfl) ?_
                    refine TS.s rfl rfl rfl (StepS.fld rfl kfieldB_58_1_1_true) ?_
                    refine TS.s rfl rfl rfl (StepS.ldB rfl (Ent.at 3 rfl) kscalB_36_true rfl) ?_
                    refine TS.s rfl rfl rfl (StepS.fld rfl kfieldB_106_1_1_true) ?_
                    refine TS.s rfl rfl rfl (StepS.ldB rfl (Ent.at 0 rfl) kscalB_3_true rfl) ?_
                    obtain ⟨k98, hk99, hj96⟩ := bind_some hj96
                    refine TS.s rfl rfl rfl (StepS.shlk (m := 1#32) rfl rfl hk99) ?_
                    refine TS.s rfl rfl rfl (StepS.bitU rfl rfl rfl) ?_
                    refine TS.s rfl rfl rfl (StepS.fld rfl kfieldB_58_1_1_true) ?_
                    refine TS.nil ?_
                    refine TO.at ?_
                    refine TO.stB (us := [U (x27 &&& ~~~((1#32) <<< k98))]) 3 [v20, U (x27 &&& ~~~((1#32) <<< k98)), I x28, v26] rfl rfl rfl ksizeB_36_1_true rfl rfl rfl (by simp [Value.oneCell']) rfl ?_
                    refine TO.code ?_
                    refine TC.k ?_
                    refine TC.region ?_
                    refine TO.s rfl rfl rfl (StepS.fld rfl kfieldB_58_2_2_true) ?_
                    refine TO.s rfl rfl rfl (StepS.ldB rfl (Ent.at 3 rfl) kscalB_3_true rfl) ?_
                    refine TO.s rfl rfl rfl (StepS.ari rfl rfl rfl) ?_
                    refine TO.s rfl rfl rfl (StepS.fld rfl kfieldB_58_2_2_true) ?_
                    refine TO.stB (us := [I (w64 (x28 + 1))]) 3 [v20, U (x27 &&& ~~~((1#32) <<< k98)), I (w64 (x28 + 1)), v26] rfl rfl rfl ksizeB_3_1_true rfl rfl rfl (by simp [Value.oneCell']) rfl ?_
                    refine TO.code ?_
                    refine TC.region ?_
                    refine TO.s rfl rfl rfl (StepS.fld rfl kfieldB_58_3_3_true) ?_
                    refine TO.s rfl rfl rfl (StepS.ldB rfl (Ent.at 3 rfl) kscalB_22_true rfl) ?_
                    refine TO.s rfl rfl rfl (StepS.fld rfl kfieldB_106_1_1_true) ?_
                    refine TO.s rfl rfl rfl (StepS.ldB rfl (Ent.at 0 rfl) kscalB_3_true rfl) ?_
                    obtain ⟨x100, hx101, hj96⟩ := bind_some hj96
                    refine TO.s rfl rfl rfl (StepS.idx rfl rfl (OwnS.rd (Ent.at 4 rfl)) ksliceB_22_3_1_true (idx_spec hx101).1 (idxm_lt hx101)) ?_
                    refine TO.s rfl rfl rfl (StepS.ld0 rfl (OwnS.rd (Ent.at 4 rfl)) kscalB_3_true rfl (idxm hx101) rfl) ?_
                    refine TO.s rfl rfl rfl (StepS.ari rfl rfl rfl) ?_
                    obtain ⟨x102, hx103, hj96⟩ := bind_some hj96
                    refine TO.s rfl rfl rfl (StepS.idx rfl rfl (OwnS.rd (Ent.at 4 rfl)) ksliceB_22_3_1_true (idx_spec hx103).1 (idxm_lt hx103)) ?_
                    refine TO.stO (i := x55.2.1.toNat) (off := 0) (us := [I (w64 (x100 + 1))]) 4 (w64 (x100 + 1)) rfl rfl rfl ksizeB_3_1_true rfl rfl rfl (idx_spec hx103).2 rfl (by simp [Value.oneCell']) rfl ?_
                    cases hj96
                    refine TO.nil fun a w e s => ?_
                    exact ⟨v26, e.sub (lk_of_allIn ⟨rfl, rfl, rfl, rfl, rfl, rfl, rfl, rfl, rfl, rfl, trivial⟩), s⟩
                  · replace hj96 := cond_f hc97 hj96
                    cases hj96
                    refine TC.skip fun a w e s => ?_
                    exact ⟨v26, e.sub (lk_of_allIn ⟨rfl, rfl, rfl, rfl, rfl, rfl, rfl, rfl, rfl, rfl, trivial⟩), s⟩
                · intro a w ⟨v93, he, hs⟩
                  refine TC.use ?_ he hs
                  refine TC.region ?_
                  refine TO.s rfl rfl rfl (StepS.move rfl) ?_
                  refine TO.s rfl rfl rfl (StepS.fld rfl kfieldB_106_1_1_true) ?_
                  refine TO.s rfl rfl rfl (StepS.ldB rfl (Ent.at 0 rfl) kscalB_3_true rfl) ?_
                  refine TO.s rfl rfl rfl (StepS.move rfl) ?_
                  obtain ⟨x104, hx105, hj66⟩ := bind_some hj66
                  refine TO.s rfl rfl rfl (StepS.idx rfl rfl (OwnS.rd (Ent.at 2 rfl)) ksliceB_22_3_1_true (idx_spec hx105).1 (idxm_lt hx105)) ?_
                  refine TO.stO (i := x55.2.1.toNat) (off := 0) (us := [I x29]) 2 x29 rfl rfl rfl ksizeB_3_1_true rfl rfl rfl (idx_spec hx105).2 rfl (by simp [Value.oneCell']) rfl ?_
                  cases hj66
                  refine TO.nil fun a w e s => ?_
                  exact ⟨v24, v93, e.sub (lk_of_allIn ⟨rfl, rfl, rfl, rfl, rfl, rfl, rfl, rfl, rfl, trivial⟩), s⟩
        · intro a w ⟨v59, v61, he, hs⟩
          refine TC.use ?_ he hs
          refine TC.region ?_
          refine TO.s rfl rfl rfl (StepS.fld rfl kfieldB_58_0_0_true) ?_
          refine TO.s rfl rfl rfl (StepS.ldB rfl (Ent.at 3 rfl) kscalB_24_true rfl) ?_
          refine TO.s rfl rfl rfl (StepS.move rfl) ?_
          refine TO.litS (f := cI) ([x65] : List Int) kelemB_24_28_1_8_true kinfo_28_bind_zero_some_I_0 rfl rfl (fun _ => rfl) rfl rfl (by kernel_rfl) rfl fun v106 => ?_
          obtain ⟨y108, hk109, hb53⟩ := bind_some hb53
          refine TO.app (k := 2) (f := cI) kelemB_24_28_1_8_true (by decide) rfl rfl rfl (OwnS.rd (Ent.at 0 rfl)) hk109 (fun x c hc => by simp [Value.oneCell'] at hc ⊢; first | (obtain rfl := hc; rfl) | (rcases hc with rfl <;> rfl)) rfl rfl fun v110 => ?_
          refine TO.s rfl rfl rfl (StepS.fld rfl kfieldB_58_0_0_true) ?_
          refine TO.pure (fun _ s => Rd.one (OwnS.rd (Ent.at 2 rfl)) s) fun oc111 => ?_
          refine TO.stB (us := [v110]) 4 [v110, U x62, I x63, v61] rfl rfl rfl ksizeB_24_1_true oc111.2 rfl rfl (by intro u hu; simp only [List.mem_cons, List.not_mem_nil, or_false] at hu; rcases hu with rfl <;> first | exact oc111.1 | rfl) rfl ?_
          refine TO.code ?_
          refine TC.region ?_
          refine TO.s rfl rfl rfl (StepS.ari rfl rfl rfl) ?_
          refine TO.s rfl rfl rfl (StepS.move rfl) ?_
          cases hb53
          refine TO.nil fun a w e s => ?_
          exact ⟨v110, v59, v61, e.sub (lk_of_allIn ⟨rfl, rfl, rfl, rfl, rfl, rfl, rfl, rfl, trivial⟩), s.mono fun _ => Sat.dropN 2⟩
      · replace hb53 := cond_f hc54 hb53
        cases hb53
        refine TC.exit rfl fun a w e s => ?_
        exact ⟨v20, v24, v26, e.sub (lk_of_allIn ⟨rfl, rfl, trivial⟩), s⟩
    · exact fun a w e s => ⟨.slice none 0 0, v18, v11, e.sub (lk_of_allIn ⟨rfl, rfl, rfl, rfl, rfl, rfl, rfl, rfl, trivial⟩), s.mono fun _ s => (by replace s := Sat.front 4 rfl s; replace s := Sat.front 4 rfl s; replace s := Sat.front 4 rfl s; replace s := Sat.front 4 rfl s; replace s := Sat.front 4 rfl s; replace s := Sat.nilS (e := 28) (sz := 1) (f := cI) s; exact s)⟩
    · rintro ⟨y44, y45, y47, x49, x50⟩ rfl a w ⟨v42, v46, v48, he, hs⟩
      dsimp only [Ctl.on] at hm
      refine TC.use ?_ he hs
      refine TC.k ?_
      refine TC.region ?_
      refine TO.s rfl rfl rfl (StepS.ldBA rfl (Ent.at 2 rfl) kaggB_58_4_true rfl rfl) ?_
      refine TO.pure (fun _ s => Rd.one (OwnS.rd (Ent.at 0 rfl)) s) fun oc112 => ?_
      refine TO.pure (fun _ s => Rd.one (OwnS.rd (Ent.at 3 rfl)) s) fun oc113 => ?_
      refine TO.stB (us := [v42, U x49, I x50, v48]) 5 [v42, U x49, I x50, v48] rfl rfl rfl ksizeB_58_4_true rfl rfl rfl (by intro u hu; simp only [List.mem_cons, List.not_mem_nil, or_false] at hu; rcases hu with rfl | rfl | rfl | rfl <;> first | exact oc112.1 | exact oc113.1 | rfl) rfl ?_
      refine TO.s rfl rfl rfl (StepS.assign rfl) ?_
      refine TO.code ?_
      cases hm
      refine TC.ret fun a w e s => ?_
      refine FRet.cell2 (P := Try.prog) (fn := Try.f29) e s rfl rfl rfl (Ent.at 5 rfl) kaggB_58_4_true rfl ?_
      refine ⟨_, _, rfl, ⟨(v42), (v48), rfl, rfl⟩, ?_⟩
      refine s.mono fun _ s => ?_
      replace s := Sat.front 3 rfl s
      replace s := Sat.front 1 rfl s
      replace s := Sat.erase 2 s
      replace s := Sat.erase 2 s
      replace s := Sat.erase 2 s
      replace s := Sat.erase 2 s
      exact s
    · rintro r rfl
      exact fun a w h => h.elim

set_option maxRecDepth 100000 in
theorem C21 {B : World} {L : List HP} {a0 : Int} {a1 : Int} {r0 : Int} (hm : F21 a0 a1 = some r0) {w : World} (st : St B L w) : Calls Try.prog 21 #[I a0, I a1] w (fun e w' => (e = .returned (I r0) ∧ St B (L) w')) := by
  refine calls_of (N := 15) (L := L) (args := [I a0, I a1]) Try.func21 rfl rfl rfl ?_ st
  dsimp only [F21] at hm
  refine TC.k ?_
  refine TC.region ?_
  refine TO.s rfl rfl rfl (StepS.assign rfl) ?_
  refine TO.code ?_
  refine TC.k ?_
  refine TC.k ?_
  refine TC.region ?_
  refine TO.s rfl rfl rfl (StepS.move rfl) ?_
  refine TO.s rfl rfl rfl (StepS.cmp rfl rfl rfl) ?_
  refine TO.s rfl rfl rfl (StepS.move rfl) ?_
  refine TO.mid1 3 10 (.bool ((decide (a0 < 1)) || (decide (a0 > 6)))) ?_ ?_
  · refine bcase ((decide (a0 < 1))) (fun hb1 => ?_) (fun hb1 => ?_)
    · refine TO.skip rfl rfl rfl (skipT hb1) rfl rfl ?_
      refine TO.skip rfl rfl rfl (skipT hb1) rfl rfl ?_
      refine TO.s rfl rfl rfl (StepS.pickT rfl hb1 rfl) ?_
      exact TO.up1 3 0 rfl rfl (by rw [hb1]; rfl) rfl
    · refine TO.sw rfl rfl rfl hb1 rfl rfl (StepS.move rfl) ?_
      refine TO.sw rfl rfl rfl hb1 rfl rfl (StepS.cmp rfl rfl rfl) ?_
      refine TO.s rfl rfl rfl (StepS.pickF rfl hb1 rfl) ?_
      exact TO.up1 3 0 rfl rfl (by rw [hb1]; rfl) rfl
  refine TO.s rfl rfl rfl (StepS.move rfl) ?_
  refine TO.mid1 3 14 (.bool (((decide (a0 < 1)) || (decide (a0 > 6))) || (decide (a1 > 60)))) ?_ ?_
  · refine bcase (((decide (a0 < 1)) || (decide (a0 > 6)))) (fun hb2 => ?_) (fun hb2 => ?_)
    · refine TO.skip rfl rfl rfl (skipT hb2) rfl rfl ?_
      refine TO.skip rfl rfl rfl (skipT hb2) rfl rfl ?_
      refine TO.s rfl rfl rfl (StepS.pickT rfl hb2 rfl) ?_
      exact TO.up1 3 0 rfl rfl (by rw [hb2]; rfl) rfl
    · refine TO.sw rfl rfl rfl hb2 rfl rfl (StepS.move rfl) ?_
      refine TO.sw rfl rfl rfl hb2 rfl rfl (StepS.cmp rfl rfl rfl) ?_
      refine TO.s rfl rfl rfl (StepS.pickF rfl hb2 rfl) ?_
      exact TO.up1 3 0 rfl rfl (by rw [hb2]; rfl) rfl
  refine TO.code ?_
  refine TC.cond rfl (fun hc3 => ?_) (fun hc3 => ?_)
  · replace hm := cond_t hc3 hm
    refine TC.k ?_
    refine TC.region ?_
    refine TO.s rfl rfl rfl (StepS.assign rfl) ?_
    refine TO.code ?_
    cases hm
    refine TC.ret fun a w e s => ?_
    refine FRet.mk1 (P := Try.prog) (fn := Try.f21) (t := 4) e rfl rfl ?_
    exact ⟨rfl, s.mono fun _ => Sat.dropN 0⟩
  · replace hm := cond_f hc3 hm
    refine TC.skipk ?_
    refine TC.k ?_
    refine TC.region ?_
    refine TO.s rfl rfl rfl (StepS.assign rfl) ?_
    refine TO.code ?_
    cases hm
    refine TC.ret fun a w e s => ?_
    refine FRet.mk1 (P := Try.prog) (fn := Try.f21) (t := 4) e rfl rfl ?_
    exact ⟨rfl, s.mono fun _ => Sat.dropN 0⟩

set_option maxRecDepth 100000 in
theorem C64 {B : World} {L : List HP} {a0 : BitVec 32} {a1 : Int} {r0 : Bool} (hm : F64 a0 a1 = some r0) {w : World} (st : St B L w) : Calls Try.prog 64 #[U a0, I a1] w (fun e w' => (e = .returned (.bool r0) ∧ St B (L) w')) := by
  refine calls_of (N := 19) (L := L) (args := [U a0, I a1]) Try.func64 rfl rfl rfl ?_ st
  dsimp only [F64] at hm
  refine TC.k ?_
  refine TC.region ?_
  refine TO.s rfl rfl rfl (StepS.assign rfl) ?_
  refine TO.code ?_
  refine TC.k ?_
  refine TC.region ?_
  refine TO.s rfl rfl rfl (StepS.move rfl) ?_
  refine TO.s rfl rfl rfl (StepS.cmp rfl rfl rfl) ?_
  refine TO.s rfl rfl rfl (StepS.move rfl) ?_
  refine TO.mid1 3 10 (.bool ((decide (a1 ≥ 0)) && (decide (a1 < 32)))) ?_ ?_
  · refine bcase ((decide (a1 ≥ 0))) (fun hb1 => ?_) (fun hb1 => ?_)
    · refine TO.sw rfl rfl rfl hb1 rfl rfl (StepS.move rfl) ?_
      refine TO.sw rfl rfl rfl hb1 rfl rfl (StepS.cmp rfl rfl rfl) ?_
      refine TO.s rfl rfl rfl (StepS.pickT rfl hb1 rfl) ?_
      exact TO.up1 3 0 rfl rfl (by rw [hb1]; rfl) rfl
    · refine TO.skip rfl rfl rfl (skipF hb1) rfl rfl ?_
      refine TO.skip rfl rfl rfl (skipF hb1) rfl rfl ?_
      refine TO.s rfl rfl rfl (StepS.pickF rfl hb1 rfl) ?_
      exact TO.up1 3 0 rfl rfl (by rw [hb1]; rfl) rfl
  refine TO.s rfl rfl rfl (StepS.move rfl) ?_
  refine TO.mid1 7 18 (.bool (((decide (a1 ≥ 0)) && (decide (a1 < 32))) && ((a0 &&& ((1#32) <<< (u64 a1).toNat)) != (0#32)))) ?_ ?_
  · refine bcase (((decide (a1 ≥ 0)) && (decide (a1 < 32)))) (fun hb2 => ?_) (fun hb2 => ?_)
    · refine TO.sw rfl rfl rfl hb2 rfl rfl (StepS.move rfl) ?_
      refine TO.sw rfl rfl rfl hb2 rfl rfl (StepS.move rfl) ?_
      refine TO.sw rfl rfl rfl hb2 rfl rfl (StepS.cvIV kintB_3_i64_true kintB_108_u64_true rfl) ?_
      refine TO.sw rfl rfl rfl hb2 rfl rfl (StepS.shl (m := 1#32) rfl rfl (u64_nonneg _)) ?_
      refine TO.sw rfl rfl rfl hb2 rfl rfl (StepS.bitU rfl rfl rfl) ?_
      refine TO.sw rfl rfl rfl hb2 rfl rfl (StepS.cmpU (n := 0#32) rfl rfl rfl) ?_
      refine TO.s rfl rfl rfl (StepS.pickT rfl hb2 rfl) ?_
      exact TO.up1 7 0 rfl rfl (by rw [hb2]; rfl) rfl
    · refine TO.skip rfl rfl rfl (skipF hb2) rfl rfl ?_
      refine TO.skip rfl rfl rfl (skipF hb2) rfl rfl ?_
      refine TO.skip rfl rfl rfl (skipF hb2) rfl rfl ?_
      refine TO.skip rfl rfl rfl (skipF hb2) rfl rfl ?_
      refine TO.skip rfl rfl rfl (skipF hb2) rfl rfl ?_
      refine TO.skip rfl rfl rfl (skipF hb2) rfl rfl ?_
      refine TO.s rfl rfl rfl (StepS.pickF rfl hb2 rfl) ?_
      exact TO.up1 7 0 rfl rfl (by rw [hb2]; rfl) rfl
  refine TO.s rfl rfl rfl (StepS.assign rfl) ?_
  refine TO.code ?_
  cases hm
  refine TC.ret fun a w e s => ?_
  refine FRet.mk1 (P := Try.prog) (fn := Try.f64) (t := 4) e rfl rfl ?_
  exact ⟨rfl, s.mono fun _ => Sat.dropN 0⟩

set_option maxRecDepth 100000 in
theorem C30 {B : World} {L : List HP} {a0 : Int} {a1 : List (Int × Int × Int × Int)} {h1 : Value} {r0 : (List Int) × (BitVec 32) × Int × List Int} (e1 : Ent L (Rd 4 h1 (a1.map cTiiii))) (hm : F30 a0 a1 = some r0) {w : World} (st : St B L w) : Calls Try.prog 30 #[I a0, h1] w (fun e w' => ∃ v M, e = .returned v ∧ (∃ (qv1 : Value) (qv2 : Value), v = .agg #[qv1, U r0.2.1, I r0.2.2.1, qv2] ∧ M = (OwnS 28 1 qv1 (r0.1.map cI) :: OwnS 3 1 qv2 (r0.2.2.2.map cI) :: L)) ∧ St B M w') := by
  refine calls_of (N := 119) (L := L) (args := [I a0, h1]) Try.func30 rfl rfl rfl ?_ st
  dsimp only [F30] at hm
  refine TC.k ?_
  refine TC.region ?_
  refine TO.alloc kinfo_58_bind_zero_some_agg_slice_none_0_0_U_0_I_0_slice_none_0_0 rfl rfl fun b3 => ?_
  refine TO.code ?_
  refine TC.k ?_
  refine TC.region ?_
  refine TO.s rfl rfl rfl (StepS.build (cs := [.slice none 0 0, U 0, I 0, .slice none 0 0]) rfl (by kernel_rfl)) ?_
  refine TO.alloc kinfo_58_bind_zero_some_agg_slice_none_0_0_U_0_I_0_slice_none_0_0 rfl rfl fun b4 => ?_
  refine TO.stB (us := [.slice none 0 0, U 0, I 0, .slice none 0 0]) 0 [.slice none 0 0, U 0, I 0, .slice none 0 0] rfl rfl rfl ksizeB_58_4_true rfl rfl rfl (by simp [Value.oneCell']) rfl ?_
  refine TO.code ?_
  refine TC.k ?_
  refine TC.region ?_
  refine TO.s rfl rfl rfl (StepS.move rfl) ?_
  obtain ⟨y5, hk6, hm⟩ := bind_some hm
  refine TO.mkS (f := cI) (za := 0) kelemB_22_3_1_8_true kinfo_3_bind_zero_some_I_0 rfl (by decide) rfl rfl hk6 rfl fun v7 => ?_
  refine TO.s rfl rfl rfl (StepS.assign rfl) ?_
  refine TO.code ?_
  refine TC.k ?_
  refine TC.region ?_
  refine TO.s rfl rfl rfl (StepS.move rfl) ?_
  obtain ⟨y9, hk10, hm⟩ := bind_some hm
  refine TO.mkS (f := cI) (za := 0) kelemB_22_3_1_8_true kinfo_3_bind_zero_some_I_0 rfl (by decide) rfl rfl hk10 rfl fun v11 => ?_
  refine TO.s rfl rfl rfl (StepS.fld rfl kfieldB_58_3_3_true) ?_
  refine TO.pure (fun _ s => Rd.one (OwnS.rd (Ent.at 0 rfl)) s) fun oc13 => ?_
  refine TO.stB (us := [v11]) 2 [.slice none 0 0, U 0, I 0, v11] rfl rfl rfl ksizeB_22_1_true oc13.2 rfl rfl (by intro u hu; simp only [List.mem_cons, List.not_mem_nil, or_false] at hu; rcases hu with rfl <;> first | exact oc13.1 | rfl) rfl ?_
  refine TO.code ?_
  refine TC.k ?_
  refine TC.k ?_
  refine TC.region ?_
  refine TO.s rfl rfl rfl (StepS.assign rfl) ?_
  refine TO.code ?_
  obtain ⟨o22, hw23, hm⟩ := bind_some hm
  refine TC.loop hw23 (fun (y14, x16) => fun a w => ∃ v15 : Value, Mid 119 B [(0, I a0), (1, h1), (4, .pointer (some ⟨b3, 0, none⟩)), (5, .pointer (some ⟨b4, 0, none⟩)), (6, v7), (7, I x16)] (OwnS 3 1 v15 (y14.map cI) :: OwnS 3 1 v7 (y5.map cI) :: Bx b4 58 [.slice none 0 0, U 0, I 0, v15] :: Bx b3 58 [.slice none 0 0, U 0, I 0, .slice none 0 0] :: L) a w) (fun y20 => fun a w => ∃ v21 : Value, Mid 119 B [(0, I a0), (1, h1), (4, .pointer (some ⟨b3, 0, none⟩)), (5, .pointer (some ⟨b4, 0, none⟩)), (6, v7)] (OwnS 3 1 v21 (y20.map cI) :: OwnS 3 1 v7 (y5.map cI) :: Bx b4 58 [.slice none 0 0, U 0, I 0, v21] :: Bx b3 58 [.slice none 0 0, U 0, I 0, .slice none 0 0] :: L) a w) (fun (_ : Unit) _ _ => False) ?_ ?_ ?_ ?_
  · rintro ⟨y14, x16⟩ o22r hb24 a w ⟨v15, he, hs⟩
    dsimp only [F30_L0] at hb24
    refine TC.use ?_ he hs
    refine TC.k ?_
    refine TC.k ?_
    refine TC.region ?_
    refine TO.s rfl rfl rfl (StepS.move rfl) ?_
    refine TO.s rfl rfl rfl (StepS.move rfl) ?_
    refine TO.s rfl rfl rfl (StepS.cmp rfl rfl rfl) ?_
    refine TO.code ?_
    refine TC.cond rfl (fun hc25 => ?_) (fun hc25 => ?_)
    · replace hb24 := cond_t hc25 hb24
      refine TC.skipk ?_
      refine TC.k ?_
      refine TC.block ?_
      refine TC.region ?_
      refine TO.s rfl rfl rfl (StepS.fld rfl kfieldB_58_3_3_true) ?_
      refine TO.s rfl rfl rfl (StepS.ldB rfl (Ent.at 2 rfl) kscalB_22_true rfl) ?_
      refine TO.s rfl rfl rfl (StepS.move rfl) ?_
      obtain ⟨x26, hx27, hb24⟩ := bind_some hb24
      refine TO.s rfl rfl rfl (StepS.idx rfl rfl (OwnS.rd (Ent.at 0 rfl)) ksliceB_22_3_1_true (idx_spec hx27).1 (idxm_lt hx27)) ?_
      refine TO.stO (i := x16.toNat) (off := 0) (us := [I 1]) 0 1 rfl rfl rfl ksizeB_3_1_true rfl rfl rfl (idx_spec hx27).2 rfl (by simp [Value.oneCell']) rfl ?_
      refine TO.code ?_
      refine TC.region ?_
      refine TO.s rfl rfl rfl (StepS.move rfl) ?_
      refine TO.s rfl rfl rfl (StepS.ari rfl rfl rfl) ?_
      refine TO.s rfl rfl rfl (StepS.assign rfl) ?_
      cases hb24
      refine TO.nil fun a w e s => ?_
      exact ⟨v15, e.sub (lk_of_allIn ⟨rfl, rfl, rfl, rfl, rfl, rfl, trivial⟩), s⟩
    · replace hb24 := cond_f hc25 hb24
      cases hb24
      refine TC.exit rfl fun a w e s => ?_
      exact ⟨v15, e.sub (lk_of_allIn ⟨rfl, rfl, rfl, rfl, rfl, trivial⟩), s⟩
  · exact fun a w e s => ⟨v11, e.sub (lk_of_allIn ⟨rfl, rfl, rfl, rfl, rfl, rfl, trivial⟩), s⟩
  · rintro y20 rfl a w ⟨v21, he, hs⟩
    dsimp only [Ctl.on] at hm
    refine TC.use ?_ he hs
    refine TC.k ?_
    refine TC.k ?_
    refine TC.region ?_
    refine TO.s rfl rfl rfl (StepS.move rfl) ?_
    refine TO.s rfl rfl rfl (StepS.lenm rfl e1.tl.tl.tl.tl ksliceB_23_106_4_true rfl) ?_
    refine TO.s rfl rfl rfl (StepS.move rfl) ?_
    refine TO.code ?_
    obtain ⟨o57, hw58, hm⟩ := bind_some hm
    refine TC.loop hw58 (fun (y30, y31, y33, x35, x36, x37) => fun a w => ∃ v28 : Value, ∃ v32 : Value, ∃ v34 : Value, Mid 119 B [(0, I a0), (4, .pointer (some ⟨b3, 0, none⟩)), (5, .pointer (some ⟨b4, 0, none⟩)), (6, v34), (27, h1), (28, I (a1.length : Int)), (29, I x37)] (OwnS 28 1 v28 (y30.map cI) :: OwnS 3 1 v32 (y31.map cI) :: OwnS 3 1 v34 (y33.map cI) :: Bx b4 58 [v28, U x35, I x36, v32] :: Bx b3 58 [.slice none 0 0, U 0, I 0, .slice none 0 0] :: L) a w) (fun (y50, y51, y53, x55, x56) => fun a w => ∃ v48 : Value, ∃ v52 : Value, ∃ v54 : Value, Mid 119 B [(4, .pointer (some ⟨b3, 0, none⟩)), (5, .pointer (some ⟨b4, 0, none⟩))] (OwnS 28 1 v48 (y50.map cI) :: OwnS 3 1 v52 (y51.map cI) :: OwnS 3 1 v54 (y53.map cI) :: Bx b4 58 [v48, U x55, I x56, v52] :: Bx b3 58 [.slice none 0 0, U 0, I 0, .slice none 0 0] :: L) a w) (fun (_ : Unit) _ _ => False) ?_ ?_ ?_ ?_
    · rintro ⟨y30, y31, y33, x35, x36, x37⟩ o57r hb59 a w ⟨v28, v32, v34, he, hs⟩
      dsimp only [F30_L1] at hb59
      refine TC.use ?_ he hs
      refine TC.k ?_
      refine TC.region ?_
      refine TO.s rfl rfl rfl (StepS.cmp rfl rfl rfl) ?_
      refine TO.code ?_
      refine TC.k ?_
      refine TC.cond rfl (fun hc60 => ?_) (fun hc60 => ?_)
      · replace hb59 := cond_t hc60 hb59
        refine TC.skipk ?_
        refine TC.k ?_
        refine TC.block ?_
        refine TC.k ?_
        refine TC.region ?_
        obtain ⟨x61, hx62, hb59⟩ := bind_some hb59
        refine TO.s rfl rfl rfl (StepS.idx rfl rfl e1.tl.tl.tl.tl.tl ksliceB_23_106_4_true (idx_spec hx62).1 (idxm_lt hx62)) ?_
        refine TO.s rfl rfl rfl (StepS.ldE rfl e1.tl.tl.tl.tl.tl kaggB_106_4_true rfl (idxm hx62)) ?_
        refine TO.alloc kinfo_106_bind_zero_some_agg_I_0_I_0_I_0_I_0 rfl rfl fun b63 => ?_
        refine TO.stB (us := [I x61.1, I x61.2.1, I x61.2.2.1, I x61.2.2.2]) 0 [I x61.1, I x61.2.1, I x61.2.2.1, I x61.2.2.2] rfl rfl rfl ksizeB_106_4_true rfl rfl rfl (by simp [Value.oneCell']) rfl ?_
        refine TO.code ?_
        refine TC.k ?_
        refine TC.region ?_
        refine TO.s rfl rfl rfl (StepS.assign rfl) ?_
        refine TO.code ?_
        refine TC.k ?_
        refine TC.k ?_
        refine TC.region ?_
        refine TO.s rfl rfl rfl (StepS.fld rfl kfieldB_106_0_0_true) ?_
        refine TO.s rfl rfl rfl (StepS.ldB rfl (Ent.at 0 rfl) kscalB_3_true rfl) ?_
        refine TO.s rfl rfl rfl (StepS.cmp rfl rfl rfl) ?_
        refine TO.code ?_
        obtain ⟨⟨y64, y66, x68, x69, x70⟩, hj71, hb59⟩ := bind_some hb59
        first | refine TC.cutM (fun a w => ∃ v65 : Value, ∃ v67 : Value, Mid 119 B [(0, I a0), (4, .pointer (some ⟨b3, 0, none⟩)), (5, .pointer (some ⟨b4, 0, none⟩)), (6, v67), (10, I x70), (27, h1), (28, I (a1.length : Int)), (29, I x37)] (Bx b63 106 [I x61.1, I x61.2.1, I x61.2.2.1, I x61.2.2.2] :: OwnS 28 1 v28 (y30.map cI) :: OwnS 3 1 v65 (y64.map cI) :: OwnS 3 1 v67 (y66.map cI) :: Bx b4 58 [v28, U x68, I x69, v65] :: Bx b3 58 [.slice none 0 0, U 0, I 0, .slice none 0 0] :: L) a w) ?_ ?_ | refine TC.cutX (fun a w => ∃ v65 : Value, ∃ v67 : Value, Mid 119 B [(0, I a0), (4, .pointer (some ⟨b3, 0, none⟩)), (5, .pointer (some ⟨b4, 0, none⟩)), (6, v67), (10, I x70), (27, h1), (28, I (a1.length : Int)), (29, I x37)] (Bx b63 106 [I x61.1, I x61.2.1, I x61.2.2.1, I x61.2.2.2] :: OwnS 28 1 v28 (y30.map cI) :: OwnS 3 1 v65 (y64.map cI) :: OwnS 3 1 v67 (y66.map cI) :: Bx b4 58 [v28, U x68, I x69, v65] :: Bx b3 58 [.slice none 0 0, U 0, I 0, .slice none 0 0] :: L) a w) ?_ ?_
        · refine TC.cond rfl (fun hc72 => ?_) (fun hc72 => ?_)
          · replace hj71 := cond_t hc72 hj71
            refine TC.k ?_
            refine TC.region ?_
            refine TO.s rfl rfl rfl (StepS.assign rfl) ?_
            refine TO.code ?_
            obtain ⟨o84, hw85, hj71⟩ := bind_some hj71
            refine TC.loop hw85 (fun (y73, x75, x76) => fun a w => ∃ v74 : Value, Mid 119 B [(0, I a0), (4, .pointer (some ⟨b3, 0, none⟩)), (5, .pointer (some ⟨b4, 0, none⟩)), (6, v74), (10, I 0), (11, I x76), (27, h1), (28, I (a1.length : Int)), (29, I x37)] (Bx b63 106 [I x61.1, I x61.2.1, I x61.2.2.1, I x61.2.2.2] :: OwnS 28 1 v28 (y30.map cI) :: OwnS 3 1 v32 (y31.map cI) :: OwnS 3 1 v74 (y73.map cI) :: Bx b4 58 [v28, U x75, I x36, v32] :: Bx b3 58 [.slice none 0 0, U 0, I 0, .slice none 0 0] :: L) a w) (fun (y81, x83) => fun a w => ∃ v82 : Value, Mid 119 B [(0, I a0), (4, .pointer (some ⟨b3, 0, none⟩)), (5, .pointer (some ⟨b4, 0, none⟩)), (6, v82), (10, I 0), (27, h1), (28, I (a1.length : Int)), (29, I x37)] (Bx b63 106 [I x61.1, I x61.2.1, I x61.2.2.1, I x61.2.2.2] :: OwnS 28 1 v28 (y30.map cI) :: OwnS 3 1 v32 (y31.map cI) :: OwnS 3 1 v82 (y81.map cI) :: Bx b4 58 [v28, U x83, I x36, v32] :: Bx b3 58 [.slice none 0 0, U 0, I 0, .slice none 0 0] :: L) a w) (fun (_ : Unit) _ _ => False) ?_ ?_ ?_ ?_
            · rintro ⟨y73, x75, x76⟩ o84r hb86 a w ⟨v74, he, hs⟩
              dsimp only [F30_L2] at hb86
              refine TC.use ?_ he hs
              refine TC.k ?_
              refine TC.k ?_
              refine TC.region ?_
              refine TO.s rfl rfl rfl (StepS.move rfl) ?_
              refine TO.s rfl rfl rfl (StepS.move rfl) ?_
              refine TO.s rfl rfl rfl (StepS.cmp rfl rfl rfl) ?_
              refine TO.code ?_
              refine TC.cond rfl (fun hc87 => ?_) (fun hc87 => ?_)
              · replace hb86 := cond_t hc87 hb86
                refine TC.skipk ?_
                refine TC.k ?_
                obtain ⟨⟨y88, x90⟩, hj91, hb86⟩ := bind_some hb86
                first | refine TC.cutM (fun a w => ∃ v89 : Value, Mid 119 B [(0, I a0), (4, .pointer (some ⟨b3, 0, none⟩)), (5, .pointer (some ⟨b4, 0, none⟩)), (6, v89), (10, I 0), (11, I x76), (27, h1), (28, I (a1.length : Int)), (29, I x37)] (Bx b63 106 [I x61.1, I x61.2.1, I x61.2.2.1, I x61.2.2.2] :: OwnS 28 1 v28 (y30.map cI) :: OwnS 3 1 v32 (y31.map cI) :: OwnS 3 1 v89 (y88.map cI) :: Bx b4 58 [v28, U x90, I x36, v32] :: Bx b3 58 [.slice none 0 0, U 0, I 0, .slice none 0 0] :: L) a w) ?_ ?_ | refine TC.cutX (fun a w => ∃ v89 : Value, Mid 119 B [(0, I a0), (4, .pointer (some ⟨b3, 0, none⟩)), (5, .pointer (some ⟨b4, 0, none⟩)), (6, v89), (10, I 0), (11, I x76), (27, h1), (28, I (a1.length : Int)), (29, I x37)] (Bx b63 106 [I x61.1, I x61.2.1, I x61.2.2.1, I x61.2.2.2] :: OwnS 28 1 v28 (y30.map cI) :: OwnS 3 1 v32 (y31.map cI) :: OwnS 3 1 v89 (y88.map cI) :: Bx b4 58 [v28, U x90, I x36, v32] :: Bx b3 58 [.slice none 0 0, U 0, I 0, .slice none 0 0] :: L) a w) ?_ ?_
                · refine TC.block ?_
                  refine TC.k ?_
                  refine TC.region ?_
                  refine TO.s rfl rfl rfl (StepS.move rfl) ?_
                  refine TO.s rfl rfl rfl (StepS.move rfl) ?_
                  refine TO.s rfl rfl rfl (StepS.move rfl) ?_
                  refine TO.s rfl rfl rfl (StepS.move rfl) ?_
                  obtain ⟨x92, hx93, hj91⟩ := bind_some hj91
                  refine TO.s rfl rfl rfl (StepS.idx rfl rfl (OwnS.rd (Ent.at 3 rfl)) ksliceB_22_3_1_true (idx_spec hx93).1 (idxm_lt hx93)) ?_
                  refine TO.s rfl rfl rfl (StepS.ld0 rfl (OwnS.rd (Ent.at 3 rfl)) kscalB_3_true rfl (idxm hx93) rfl) ?_
                  refine TO.s rfl rfl rfl (StepS.ari rfl rfl rfl) ?_
                  obtain ⟨x94, hx95, hj91⟩ := bind_some hj91
                  refine TO.s rfl rfl rfl (StepS.idx rfl rfl (OwnS.rd (Ent.at 3 rfl)) ksliceB_22_3_1_true (idx_spec hx95).1 (idxm_lt hx95)) ?_
                  refine TO.stO (i := x76.toNat) (off := 0) (us := [I (w64 (x92 + 1))]) 3 (w64 (x92 + 1)) rfl rfl rfl ksizeB_3_1_true rfl rfl rfl (idx_spec hx95).2 rfl (by simp [Value.oneCell']) rfl ?_
                  refine TO.code ?_
                  refine TC.k ?_
                  refine TC.region_still kfollows_mixedOrders_true (by kernel_rfl) ?_
                  refine TS.s rfl rfl rfl (StepS.move rfl) ?_
                  refine TS.s rfl rfl rfl (StepS.move rfl) ?_
                  obtain ⟨x96, hx97, hj91⟩ := bind_some hj91
                  refine TS.s rfl rfl rfl (StepS.idx rfl rfl (OwnS.rd (Ent.at 3 rfl)) ksliceB_22_3_1_true (idx_spec hx97).1 (idxm_lt hx97)) ?_
                  refine TS.s rfl rfl rfl (StepS.ld0 rfl (OwnS.rd (Ent.at 3 rfl)) kscalB_3_true rfl (idxm hx97) rfl) ?_
                  refine TS.s rfl rfl rfl (StepS.fld rfl kfieldB_58_3_3_true) ?_
                  refine TS.s rfl rfl rfl (StepS.ldB rfl (Ent.at 4 rfl) kscalB_22_true rfl) ?_
                  refine TS.s rfl rfl rfl (StepS.move rfl) ?_
                  obtain ⟨x98, hx99, hj91⟩ := bind_some hj91
                  refine TS.s rfl rfl rfl (StepS.idx rfl rfl (OwnS.rd (Ent.at 2 rfl)) ksliceB_22_3_1_true (idx_spec hx99).1 (idxm_lt hx99)) ?_
                  refine TS.s rfl rfl rfl (StepS.ld0 rfl (OwnS.rd (Ent.at 2 rfl)) kscalB_3_true rfl (idxm hx99) rfl) ?_
                  refine TS.s rfl rfl rfl (StepS.cmp rfl rfl rfl) ?_
                  refine TS.code ?_
                  refine TC.cond rfl (fun hc100 => ?_) (fun hc100 => ?_)
                  · replace hj91 := cond_t hc100 hj91
                    refine TC.region ?_
                    refine TO.s rfl rfl rfl (StepS.fld rfl kfieldB_58_1_1_true) ?_
                    refine TO.s rfl rfl rfl (StepS.ldB rfl (Ent.at 4 rfl) kscalB_36_true rfl) ?_
                    refine TO.s rfl rfl rfl (StepS.move rfl) ?_
                    refine TO.s rfl rfl rfl (StepS.cvIV kintB_3_i64_true kintB_108_u64_true rfl) ?_
                    refine TO.s rfl rfl rfl (StepS.shl (m := 1#32) rfl rfl (u64_nonneg _)) ?_
                    refine TO.s rfl rfl rfl (StepS.bitU rfl rfl rfl) ?_
                    refine TO.s rfl rfl rfl (StepS.fld rfl kfieldB_58_1_1_true) ?_
                    refine TO.stB (us := [U (x75 ||| ((1#32) <<< (u64 x76).toNat))]) 4 [v28, U (x75 ||| ((1#32) <<< (u64 x76).toNat)), I x36, v32] rfl rfl rfl ksizeB_36_1_true rfl rfl rfl (by simp [Value.oneCell']) rfl ?_
                    cases hj91
                    refine TO.nil fun a w e s => ?_
                    exact ⟨v74, e.sub (lk_of_allIn ⟨rfl, rfl, rfl, rfl, rfl, rfl, rfl, rfl, rfl, trivial⟩), s⟩
                  · replace hj91 := cond_f hc100 hj91
                    cases hj91
                    refine TC.skip fun a w e s => ?_
                    exact ⟨v74, e.sub (lk_of_allIn ⟨rfl, rfl, rfl, rfl, rfl, rfl, rfl, rfl, rfl, trivial⟩), s⟩
                · intro a w ⟨v89, he, hs⟩
                  refine TC.use ?_ he hs
                  refine TC.region ?_
                  refine TO.s rfl rfl rfl (StepS.move rfl) ?_
                  refine TO.s rfl rfl rfl (StepS.ari rfl rfl rfl) ?_
                  refine TO.s rfl rfl rfl (StepS.assign rfl) ?_
                  cases hb86
                  refine TO.nil fun a w e s => ?_
                  exact ⟨v89, e.sub (lk_of_allIn ⟨rfl, rfl, rfl, rfl, rfl, rfl, rfl, rfl, rfl, trivial⟩), s⟩
              · replace hb86 := cond_f hc87 hb86
                cases hb86
                refine TC.exit rfl fun a w e s => ?_
                exact ⟨v74, e.sub (lk_of_allIn ⟨rfl, rfl, rfl, rfl, rfl, rfl, rfl, rfl, trivial⟩), s⟩
            · exact fun a w e s => ⟨v34, e.sub (lk_of_allIn ⟨rfl, rfl, rfl, rfl, rfl, rfl, rfl, rfl, rfl, trivial⟩), s⟩
            · rintro ⟨y81, x83⟩ rfl a w ⟨v82, he, hs⟩
              dsimp only [Ctl.on] at hj71
              cases hj71
              have e := he; have s := hs
              exact ⟨v32, v82, e.sub (lk_of_allIn ⟨rfl, rfl, rfl, rfl, rfl, rfl, rfl, rfl, trivial⟩), s⟩
            · rintro r rfl
              exact fun a w h => h.elim
          · replace hj71 := cond_f hc72 hj71
            refine TC.k ?_
            refine TC.region ?_
            refine TO.s rfl rfl rfl (StepS.fld rfl kfieldB_106_0_0_true) ?_
            refine TO.s rfl rfl rfl (StepS.ldB rfl (Ent.at 0 rfl) kscalB_3_true rfl) ?_
            refine TO.s rfl rfl rfl (StepS.cmp rfl rfl rfl) ?_
            refine TO.code ?_
            refine TC.cond rfl (fun hc101 => ?_) (fun hc101 => ?_)
            · replace hj71 := cond_t hc101 hj71
              refine TC.region ?_
              refine TO.s rfl rfl rfl (StepS.assign rfl) ?_
              cases hj71
              refine TO.nil fun a w e s => ?_
              exact ⟨v32, v34, e.sub (lk_of_allIn ⟨rfl, rfl, rfl, rfl, rfl, rfl, rfl, rfl, trivial⟩), s⟩
            · replace hj71 := cond_f hc101 hj71
              refine TC.k ?_
              refine TC.region ?_
              refine TO.s rfl rfl rfl (StepS.fld rfl kfieldB_106_1_1_true) ?_
              refine TO.s rfl rfl rfl (StepS.ldB rfl (Ent.at 0 rfl) kscalB_3_true rfl) ?_
              refine TO.s rfl rfl rfl (StepS.cmp rfl rfl rfl) ?_
              refine TO.s rfl rfl rfl (StepS.move rfl) ?_
              refine TO.mid1 5 77 (.bool ((decide (x61.2.1 < 0)) || (decide (x61.2.1 ≥ a0)))) ?_ ?_
              · refine bcase ((decide (x61.2.1 < 0))) (fun hb102 => ?_) (fun hb102 => ?_)
                · refine TO.skip rfl rfl rfl (skipT hb102) rfl rfl ?_
                  refine TO.skip rfl rfl rfl (skipT hb102) rfl rfl ?_
                  refine TO.skip rfl rfl rfl (skipT hb102) rfl rfl ?_
                  refine TO.skip rfl rfl rfl (skipT hb102) rfl rfl ?_
                  refine TO.s rfl rfl rfl (StepS.pickT rfl hb102 rfl) ?_
                  exact TO.up1 5 0 rfl rfl (by rw [hb102]; rfl) rfl
                · refine TO.sw rfl rfl rfl hb102 rfl rfl (StepS.fld rfl kfieldB_106_1_1_true) ?_
                  refine TO.sw rfl rfl rfl hb102 rfl rfl (StepS.ldB rfl (Ent.at 0 rfl) kscalB_3_true rfl) ?_
                  refine TO.sw rfl rfl rfl hb102 rfl rfl (StepS.move rfl) ?_
                  refine TO.sw rfl rfl rfl hb102 rfl rfl (StepS.cmp rfl rfl rfl) ?_
                  refine TO.s rfl rfl rfl (StepS.pickF rfl hb102 rfl) ?_
                  exact TO.up1 5 0 rfl rfl (by rw [hb102]; rfl) rfl
              refine TO.code ?_
              refine TC.cond rfl (fun hc103 => ?_) (fun hc103 => ?_)
              · replace hj71 := cond_t hc103 hj71
                refine TC.region ?_
                refine TO.s rfl rfl rfl (StepS.assign rfl) ?_
                cases hj71
                refine TO.nil fun a w e s => ?_
                exact ⟨v32, v34, e.sub (lk_of_allIn ⟨rfl, rfl, rfl, rfl, rfl, rfl, rfl, rfl, trivial⟩), s⟩
              · replace hj71 := cond_f hc103 hj71
                refine TC.k ?_
                refine TC.k ?_
                refine TC.region ?_
                refine TO.s rfl rfl rfl (StepS.fld rfl kfieldB_58_1_1_true) ?_
                refine TO.s rfl rfl rfl (StepS.ldB rfl (Ent.at 4 rfl) kscalB_36_true rfl) ?_
                refine TO.s rfl rfl rfl (StepS.fld rfl kfieldB_106_1_1_true) ?_
                refine TO.s rfl rfl rfl (StepS.ldB rfl (Ent.at 0 rfl) kscalB_3_true rfl) ?_
                obtain ⟨r104, hc105, hj71⟩ := bind_some hj71
                refine TO.q rfl rfl rfl (StepQ.call kcallB_64_true rfl rfl (fun _ st => C64  hc105 st)) ?_
                refine TO.code ?_
                obtain ⟨⟨y106, x108, x109⟩, hj110, hj71⟩ := bind_some hj71
                first | refine TC.cutM (fun a w => ∃ v107 : Value, Mid 119 B [(0, I a0), (4, .pointer (some ⟨b3, 0, none⟩)), (5, .pointer (some ⟨b4, 0, none⟩)), (6, v34), (9, .pointer (some ⟨b63, 0, none⟩)), (10, I 0), (27, h1), (28, I (a1.length : Int)), (29, I x37)] (Bx b63 106 [I x61.1, I x61.2.1, I x61.2.2.1, I x61.2.2.2] :: OwnS 28 1 v28 (y30.map cI) :: OwnS 3 1 v107 (y106.map cI) :: OwnS 3 1 v34 (y33.map cI) :: Bx b4 58 [v28, U x108, I x109, v107] :: Bx b3 58 [.slice none 0 0, U 0, I 0, .slice none 0 0] :: L) a w) ?_ ?_ | refine TC.cutX (fun a w => ∃ v107 : Value, Mid 119 B [(0, I a0), (4, .pointer (some ⟨b3, 0, none⟩)), (5, .pointer (some ⟨b4, 0, none⟩)), (6, v34), (9, .pointer (some ⟨b63, 0, none⟩)), (10, I 0), (27, h1), (28, I (a1.length : Int)), (29, I x37)] (Bx b63 106 [I x61.1, I x61.2.1, I x61.2.2.1, I x61.2.2.2] :: OwnS 28 1 v28 (y30.map cI) :: OwnS 3 1 v107 (y106.map cI) :: OwnS 3 1 v34 (y33.map cI) :: Bx b4 58 [v28, U x108, I x109, v107] :: Bx b3 58 [.slice none 0 0, U 0, I 0, .slice none 0 0] :: L) a w) ?_ ?_
                · refine TC.cond rfl (fun hc111 => ?_) (fun hc111 => ?_)
                  · replace hj110 := cond_t hc111 hj110
                    refine TC.k ?_
                    refine TC.region ?_
                    refine TO.s rfl rfl rfl (StepS.fld rfl kfieldB_58_1_1_true) ?_
                    refine TO.s rfl rfl rfl (StepS.ldB rfl (Ent.at 4 rfl) kscalB_36_true rfl) ?_
                    refine TO.s rfl rfl rfl (StepS.fld rfl kfieldB_106_1_1_true) ?_
                    refine TO.s rfl rfl rfl (StepS.ldB rfl (Ent.at 0 rfl) kscalB_3_true rfl) ?_
                    refine TO.s rfl rfl rfl (StepS.cvIV kintB_3_i64_true kintB_108_u64_true rfl) ?_
                    refine TO.s rfl rfl rfl (StepS.shl (m := 1#32) rfl rfl (u64_nonneg _)) ?_
                    refine TO.s rfl rfl rfl (StepS.bitU rfl rfl rfl) ?_
                    refine TO.s rfl rfl rfl (StepS.fld rfl kfieldB_58_1_1_true) ?_
                    refine TO.stB (us := [U (x35 - ((1#32) <<< (u64 x61.2.1).toNat))]) 4 [v28, U (x35 - ((1#32) <<< (u64 x61.2.1).toNat)), I x36, v32] rfl rfl rfl ksizeB_36_1_true rfl rfl rfl (by simp [Value.oneCell']) rfl ?_
                    refine TO.code ?_
                    refine TC.k ?_
                    refine TC.region ?_
                    refine TO.s rfl rfl rfl (StepS.fld rfl kfieldB_58_2_2_true) ?_
                    refine TO.s rfl rfl rfl (StepS.ldB rfl (Ent.at 4 rfl) kscalB_3_true rfl) ?_
                    refine TO.s rfl rfl rfl (StepS.ari rfl rfl rfl) ?_
                    refine TO.s rfl rfl rfl (StepS.fld rfl kfieldB_58_2_2_true) ?_
                    refine TO.stB (us := [I (w64 (x36 + 1))]) 4 [v28, U (x35 - ((1#32) <<< (u64 x61.2.1).toNat)), I (w64 (x36 + 1)), v32] rfl rfl rfl ksizeB_3_1_true rfl rfl rfl (by simp [Value.oneCell']) rfl ?_
                    refine TO.code ?_
                    refine TC.region_tail 12 kfollows_mixedOrders_true (by kernel_rfl) ?_
                    refine TS.s rfl rfl rfl (StepS.fld rfl kfieldB_58_3_3_true) ?_
                    refine TS.s rfl rfl rfl (StepS.ldB rfl (Ent.at 4 rfl) kscalB_22_true rfl) ?_
                    refine TS.s rfl rfl rfl (StepS.fld rfl kfieldB_106_1_1_true) ?_
                    refine TS.s rfl rfl rfl (StepS.ldB rfl (Ent.at 0 rfl) kscalB_3_true rfl) ?_
                    refine TS.s rfl rfl rfl (StepS.fld rfl kfieldB_58_3_3_true) ?_
                    refine TS.s rfl rfl rfl (StepS.ldB rfl (Ent.at 4 rfl) kscalB_22_true rfl) ?_
                    refine TS.s rfl rfl rfl (StepS.fld rfl kfieldB_106_1_1_true) ?_
                    refine TS.s rfl rfl rfl (StepS.ldB rfl (Ent.at 0 rfl) kscalB_3_true rfl) ?_
                    obtain ⟨x112, hx113, hj110⟩ := bind_some hj110
                    refine TS.s rfl rfl rfl (StepS.idx rfl rfl (OwnS.rd (Ent.at 2 rfl)) ksliceB_22_3_1_true (idx_spec hx113).1 (idxm_lt hx113)) ?_
                    refine TS.s rfl rfl rfl (StepS.ld0 rfl (OwnS.rd (Ent.at 2 rfl)) kscalB_3_true rfl (idxm hx113) rfl) ?_
                    refine TS.s rfl rfl rfl (StepS.ari rfl rfl rfl) ?_
                    obtain ⟨x114, hx115, hj110⟩ := bind_some hj110
                    refine TS.s rfl rfl rfl (StepS.idx rfl rfl (OwnS.rd (Ent.at 2 rfl)) ksliceB_22_3_1_true (idx_spec hx115).1 (idxm_lt hx115)) ?_
                    refine TS.nil ?_
                    refine TO.at ?_
                    refine TO.stO (i := x61.2.1.toNat) (off := 0) (us := [I (w64 (x112 + 1))]) 2 (w64 (x112 + 1)) rfl rfl rfl ksizeB_3_1_true rfl rfl rfl (idx_spec hx115).2 rfl (by simp [Value.oneCell']) rfl ?_
                    cases hj110
                    refine TO.nil fun a w e s => ?_
                    exact ⟨v32, e.sub (lk_of_allIn ⟨rfl, rfl, rfl, rfl, rfl, rfl, rfl, rfl, rfl, trivial⟩), s⟩
                  · replace hj110 := cond_f hc111 hj110
                    cases hj110
                    refine TC.skip fun a w e s => ?_
                    exact ⟨v32, e.sub (lk_of_allIn ⟨rfl, rfl, rfl, rfl, rfl, rfl, rfl, rfl, rfl, trivial⟩), s⟩
                · intro a w ⟨v107, he, hs⟩
                  refine TC.use ?_ he hs
                  refine TC.region ?_
                  refine TO.s rfl rfl rfl (StepS.move rfl) ?_
                  refine TO.s rfl rfl rfl (StepS.fld rfl kfieldB_106_1_1_true) ?_
                  refine TO.s rfl rfl rfl (StepS.ldB rfl (Ent.at 0 rfl) kscalB_3_true rfl) ?_
                  obtain ⟨x116, hx117, hj71⟩ := bind_some hj71
                  refine TO.s rfl rfl rfl (StepS.idx rfl rfl (OwnS.rd (Ent.at 3 rfl)) ksliceB_22_3_1_true (idx_spec hx117).1 (idxm_lt hx117)) ?_
                  refine TO.stO (i := x61.2.1.toNat) (off := 0) (us := [I 0]) 3 0 rfl rfl rfl ksizeB_3_1_true rfl rfl rfl (idx_spec hx117).2 rfl (by simp [Value.oneCell']) rfl ?_
                  cases hj71
                  refine TO.nil fun a w e s => ?_
                  exact ⟨v107, v34, e.sub (lk_of_allIn ⟨rfl, rfl, rfl, rfl, rfl, rfl, rfl, rfl, trivial⟩), s⟩
        · intro a w ⟨v65, v67, he, hs⟩
          refine TC.use ?_ he hs
          refine TC.region ?_
          refine TO.s rfl rfl rfl (StepS.fld rfl kfieldB_58_0_0_true) ?_
          refine TO.s rfl rfl rfl (StepS.ldB rfl (Ent.at 4 rfl) kscalB_24_true rfl) ?_
          refine TO.s rfl rfl rfl (StepS.move rfl) ?_
          refine TO.litS (f := cI) ([x70] : List Int) kelemB_24_28_1_8_true kinfo_28_bind_zero_some_I_0 rfl rfl (fun _ => rfl) rfl rfl (by kernel_rfl) rfl fun v118 => ?_
          obtain ⟨y120, hk121, hb59⟩ := bind_some hb59
          refine TO.app (k := 2) (f := cI) kelemB_24_28_1_8_true (by decide) rfl rfl rfl (OwnS.rd (Ent.at 0 rfl)) hk121 (fun x c hc => by simp [Value.oneCell'] at hc ⊢; first | (obtain rfl := hc; rfl) | (rcases hc with rfl <;> rfl)) rfl rfl fun v122 => ?_
          refine TO.s rfl rfl rfl (StepS.fld rfl kfieldB_58_0_0_true) ?_
          refine TO.pure (fun _ s => Rd.one (OwnS.rd (Ent.at 2 rfl)) s) fun oc123 => ?_
          refine TO.stB (us := [v122]) 5 [v122, U x68, I x69, v65] rfl rfl rfl ksizeB_24_1_true oc123.2 rfl rfl (by intro u hu; simp only [List.mem_cons, List.not_mem_nil, or_false] at hu; rcases hu with rfl <;> first | exact oc123.1 | rfl) rfl ?_
          refine TO.code ?_
          refine TC.region ?_
          refine TO.s rfl rfl rfl (StepS.ari rfl rfl rfl) ?_
          refine TO.s rfl rfl rfl (StepS.move rfl) ?_
          cases hb59
          refine TO.nil fun a w e s => ?_
          exact ⟨v122, v65, v67, e.sub (lk_of_allIn ⟨rfl, rfl, rfl, rfl, rfl, rfl, rfl, trivial⟩), s.mono fun _ => Sat.dropN 2⟩
      · replace hb59 := cond_f hc60 hb59
        cases hb59
        refine TC.exit rfl fun a w e s => ?_
        exact ⟨v28, v32, v34, e.sub (lk_of_allIn ⟨rfl, rfl, trivial⟩), s⟩
    · exact fun a w e s => ⟨.slice none 0 0, v21, v7, e.sub (lk_of_allIn ⟨rfl, rfl, rfl, rfl, rfl, rfl, rfl, trivial⟩), s.mono fun _ s => (by replace s := Sat.front 3 rfl s; replace s := Sat.front 3 rfl s; replace s := Sat.front 3 rfl s; replace s := Sat.front 3 rfl s; replace s := Sat.nilS (e := 28) (sz := 1) (f := cI) s; exact s)⟩
    · rintro ⟨y50, y51, y53, x55, x56⟩ rfl a w ⟨v48, v52, v54, he, hs⟩
      dsimp only [Ctl.on] at hm
      refine TC.use ?_ he hs
      refine TC.k ?_
      refine TC.region ?_
      refine TO.s rfl rfl rfl (StepS.ldBA rfl (Ent.at 3 rfl) kaggB_58_4_true rfl rfl) ?_
      refine TO.pure (fun _ s => Rd.one (OwnS.rd (Ent.at 0 rfl)) s) fun oc124 => ?_
      refine TO.pure (fun _ s => Rd.one (OwnS.rd (Ent.at 1 rfl)) s) fun oc125 => ?_
      refine TO.stB (us := [v48, U x55, I x56, v52]) 4 [v48, U x55, I x56, v52] rfl rfl rfl ksizeB_58_4_true rfl rfl rfl (by intro u hu; simp only [List.mem_cons, List.not_mem_nil, or_false] at hu; rcases hu with rfl | rfl | rfl | rfl <;> first | exact oc124.1 | exact oc125.1 | rfl) rfl ?_
      refine TO.code ?_
      cases hm
      refine TC.ret fun a w e s => ?_
      refine FRet.cell1 (P := Try.prog) (fn := Try.f30) e s rfl rfl (Ent.at 4 rfl) kaggB_58_4_true rfl ?_
      refine ⟨_, _, rfl, ⟨(v48), (v52), rfl, rfl⟩, ?_⟩
      refine s.mono fun _ s => ?_
      replace s := Sat.front 1 rfl s
      replace s := Sat.front 1 rfl s
      replace s := Sat.erase 2 s
      replace s := Sat.erase 2 s
      replace s := Sat.erase 2 s
      exact s
    · rintro r rfl
      exact fun a w h => h.elim
  · rintro r rfl
    exact fun a w h => h.elim

set_option maxRecDepth 100000 in
theorem C18 {B : World} {L : List HP} {a0 : List Int} {a1 : List Int} {h0 : Value} {h1 : Value} {r0 : Bool} (e0 : Ent L (Rd 1 h0 (a0.map cI))) (e1 : Ent L (Rd 1 h1 (a1.map cI))) (hm : F18 a0 a1 = some r0) {w : World} (st : St B L w) : Calls Try.prog 18 #[h0, h1] w (fun e w' => (e = .returned (.bool r0) ∧ St B (L) w')) := by
  refine calls_of (N := 26) (L := L) (args := [h0, h1]) Try.func18 rfl rfl rfl ?_ st
  dsimp only [F18] at hm
  refine TC.k ?_
  refine TC.region ?_
  refine TO.s rfl rfl rfl (StepS.assign rfl) ?_
  refine TO.code ?_
  refine TC.k ?_
  refine TC.k ?_
  refine TC.region ?_
  refine TO.s rfl rfl rfl (StepS.move rfl) ?_
  refine TO.s rfl rfl rfl (StepS.lenm rfl e0 ksliceB_24_28_1_true rfl) ?_
  refine TO.s rfl rfl rfl (StepS.move rfl) ?_
  refine TO.s rfl rfl rfl (StepS.lenm rfl e1 ksliceB_24_28_1_true rfl) ?_
  refine TO.s rfl rfl rfl (StepS.cmp rfl rfl rfl) ?_
  refine TO.code ?_
  refine TC.cond rfl (fun hc1 => ?_) (fun hc1 => ?_)
  · replace hm := cond_t hc1 hm
    refine TC.k ?_
    refine TC.region ?_
    refine TO.s rfl rfl rfl (StepS.assign rfl) ?_
    refine TO.code ?_
    cases hm
    refine TC.ret fun a w e s => ?_
    refine FRet.mk1 (P := Try.prog) (fn := Try.f18) (t := 4) e rfl rfl ?_
    exact ⟨rfl, s.mono fun _ => Sat.dropN 0⟩
  · replace hm := cond_f hc1 hm
    refine TC.skipk ?_
    refine TC.k ?_
    refine TC.k ?_
    refine TC.region ?_
    refine TO.s rfl rfl rfl (StepS.assign rfl) ?_
    refine TO.code ?_
    obtain ⟨o4, hw5, hm⟩ := bind_some hm
    refine TC.loop hw5 (fun x2 => fun a w => Mid 26 B [(0, h0), (1, h1), (5, I x2)] (L) a w) (fun _ => fun a w => Mid 26 B [] (L) a w) (fun r0 => FRet Try.prog Try.f18 (fun e w' => (e = .returned (.bool r0) ∧ St B (L) w'))) ?_ ?_ ?_ ?_
    · rintro x2 o4r hb6 a w ⟨he, hs⟩
      dsimp only [F18_L0] at hb6
      refine TC.use ?_ he hs
      refine TC.k ?_
      refine TC.k ?_
      refine TC.region ?_
      refine TO.s rfl rfl rfl (StepS.move rfl) ?_
      refine TO.s rfl rfl rfl (StepS.move rfl) ?_
      refine TO.s rfl rfl rfl (StepS.lenm rfl e0 ksliceB_24_28_1_true rfl) ?_
      refine TO.s rfl rfl rfl (StepS.cmp rfl rfl rfl) ?_
      refine TO.code ?_
      refine TC.cond rfl (fun hc7 => ?_) (fun hc7 => ?_)
      · replace hb6 := cond_t hc7 hb6
        refine TC.skipk ?_
        refine TC.k ?_
        refine TC.block ?_
        refine TC.k ?_
        refine TC.region_still kfollows_mixedOrders_true (by kernel_rfl) ?_
        refine TS.s rfl rfl rfl (StepS.move rfl) ?_
        refine TS.s rfl rfl rfl (StepS.move rfl) ?_
        obtain ⟨x8, hx9, hb6⟩ := bind_some hb6
        refine TS.s rfl rfl rfl (StepS.idx rfl rfl e0 ksliceB_24_28_1_true (idx_spec hx9).1 (idxm_lt hx9)) ?_
        refine TS.s rfl rfl rfl (StepS.ld0 rfl e0 kscalB_28_true rfl (idxm hx9) rfl) ?_
        refine TS.s rfl rfl rfl (StepS.move rfl) ?_
        refine TS.s rfl rfl rfl (StepS.move rfl) ?_
        obtain ⟨x10, hx11, hb6⟩ := bind_some hb6
        refine TS.s rfl rfl rfl (StepS.idx rfl rfl e1 ksliceB_24_28_1_true (idx_spec hx11).1 (idxm_lt hx11)) ?_
        refine TS.s rfl rfl rfl (StepS.ld0 rfl e1 kscalB_28_true rfl (idxm hx11) rfl) ?_
        refine TS.s rfl rfl rfl (StepS.cmp rfl rfl rfl) ?_
        refine TS.code ?_
        refine TC.cond rfl (fun hc12 => ?_) (fun hc12 => ?_)
        · replace hb6 := cond_t hc12 hb6
          refine TC.k ?_
          refine TC.region ?_
          refine TO.s rfl rfl rfl (StepS.assign rfl) ?_
          refine TO.code ?_
          cases hb6
          refine TC.ret fun a w e s => ?_
          refine FRet.mk1 (P := Try.prog) (fn := Try.f18) (t := 4) e rfl rfl ?_
          exact ⟨rfl, s.mono fun _ => Sat.dropN 0⟩
        · replace hb6 := cond_f hc12 hb6
          refine TC.skipk ?_
          refine TC.region ?_
          refine TO.s rfl rfl rfl (StepS.move rfl) ?_
          refine TO.s rfl rfl rfl (StepS.ari rfl rfl rfl) ?_
          refine TO.s rfl rfl rfl (StepS.assign rfl) ?_
          cases hb6
          refine TO.nil fun a w e s => ?_
          exact ⟨e.sub (lk_of_allIn ⟨rfl, rfl, rfl, trivial⟩), s⟩
      · replace hb6 := cond_f hc7 hb6
        cases hb6
        refine TC.exit rfl fun a w e s => ?_
        exact ⟨e.sub (lk_of_allIn trivial), s⟩
    · exact fun a w e s => ⟨e.sub (lk_of_allIn ⟨rfl, rfl, rfl, trivial⟩), s⟩
    · rintro _ rfl a w ⟨he, hs⟩
      dsimp only [Ctl.on] at hm
      refine TC.use ?_ he hs
      refine TC.k ?_
      refine TC.region ?_
      refine TO.s rfl rfl rfl (StepS.assign rfl) ?_
      refine TO.code ?_
      cases hm
      refine TC.ret fun a w e s => ?_
      refine FRet.mk1 (P := Try.prog) (fn := Try.f18) (t := 4) e rfl rfl ?_
      exact ⟨rfl, s.mono fun _ => Sat.dropN 0⟩
    · rintro r rfl
      cases hm
      exact fun a w h => h

set_option maxRecDepth 100000 in
theorem C25 {B : World} {L : List HP} {a0 : List Int} {a1 : List Int} {h0 : Value} {h1 : Value} {r0 : Bool} (e0 : Ent L (Rd 1 h0 (a0.map cI))) (e1 : Ent L (Rd 1 h1 (a1.map cI))) (hm : F25 a0 a1 = some r0) {w : World} (st : St B L w) : Calls Try.prog 25 #[h0, h1] w (fun e w' => (e = .returned (.bool r0) ∧ St B (L) w')) := by
  refine calls_of (N := 26) (L := L) (args := [h0, h1]) Try.func25 rfl rfl rfl ?_ st
  dsimp only [F25] at hm
  refine TC.k ?_
  refine TC.region ?_
  refine TO.s rfl rfl rfl (StepS.assign rfl) ?_
  refine TO.code ?_
  refine TC.k ?_
  refine TC.k ?_
  refine TC.region ?_
  refine TO.s rfl rfl rfl (StepS.move rfl) ?_
  refine TO.s rfl rfl rfl (StepS.lenm rfl e0 ksliceB_22_3_1_true rfl) ?_
  refine TO.s rfl rfl rfl (StepS.move rfl) ?_
  refine TO.s rfl rfl rfl (StepS.lenm rfl e1 ksliceB_22_3_1_true rfl) ?_
  refine TO.s rfl rfl rfl (StepS.cmp rfl rfl rfl) ?_
  refine TO.code ?_
  refine TC.cond rfl (fun hc1 => ?_) (fun hc1 => ?_)
  · replace hm := cond_t hc1 hm
    refine TC.k ?_
    refine TC.region ?_
    refine TO.s rfl rfl rfl (StepS.assign rfl) ?_
    refine TO.code ?_
    cases hm
    refine TC.ret fun a w e s => ?_
    refine FRet.mk1 (P := Try.prog) (fn := Try.f25) (t := 4) e rfl rfl ?_
    exact ⟨rfl, s.mono fun _ => Sat.dropN 0⟩
  · replace hm := cond_f hc1 hm
    refine TC.skipk ?_
    refine TC.k ?_
    refine TC.k ?_
    refine TC.region ?_
    refine TO.s rfl rfl rfl (StepS.assign rfl) ?_
    refine TO.code ?_
    obtain ⟨o4, hw5, hm⟩ := bind_some hm
    refine TC.loop hw5 (fun x2 => fun a w => Mid 26 B [(0, h0), (1, h1), (5, I x2)] (L) a w) (fun _ => fun a w => Mid 26 B [] (L) a w) (fun r0 => FRet Try.prog Try.f25 (fun e w' => (e = .returned (.bool r0) ∧ St B (L) w'))) ?_ ?_ ?_ ?_
    · rintro x2 o4r hb6 a w ⟨he, hs⟩
      dsimp only [F25_L0] at hb6
      refine TC.use ?_ he hs
      refine TC.k ?_
      refine TC.k ?_
      refine TC.region ?_
      refine TO.s rfl rfl rfl (StepS.move rfl) ?_
      refine TO.s rfl rfl rfl (StepS.move rfl) ?_
      refine TO.s rfl rfl rfl (StepS.lenm rfl e0 ksliceB_22_3_1_true rfl) ?_
      refine TO.s rfl rfl rfl (StepS.cmp rfl rfl rfl) ?_
      refine TO.code ?_
      refine TC.cond rfl (fun hc7 => ?_) (fun hc7 => ?_)
      · replace hb6 := cond_t hc7 hb6
        refine TC.skipk ?_
        refine TC.k ?_
        refine TC.block ?_
        refine TC.k ?_
        refine TC.region_still kfollows_mixedOrders_true (by kernel_rfl) ?_
        refine TS.s rfl rfl rfl (StepS.move rfl) ?_
        refine TS.s rfl rfl rfl (StepS.move rfl) ?_
        obtain ⟨x8, hx9, hb6⟩ := bind_some hb6
        refine TS.s rfl rfl rfl (StepS.idx rfl rfl e0 ksliceB_22_3_1_true (idx_spec hx9).1 (idxm_lt hx9)) ?_
        refine TS.s rfl rfl rfl (StepS.ld0 rfl e0 kscalB_3_true rfl (idxm hx9) rfl) ?_
        refine TS.s rfl rfl rfl (StepS.move rfl) ?_
        refine TS.s rfl rfl rfl (StepS.move rfl) ?_
        obtain ⟨x10, hx11, hb6⟩ := bind_some hb6
        refine TS.s rfl rfl rfl (StepS.idx rfl rfl e1 ksliceB_22_3_1_true (idx_spec hx11).1 (idxm_lt hx11)) ?_
        refine TS.s rfl rfl rfl (StepS.ld0 rfl e1 kscalB_3_true rfl (idxm hx11) rfl) ?_
        refine TS.s rfl rfl rfl (StepS.cmp rfl rfl rfl) ?_
        refine TS.code ?_
        refine TC.cond rfl (fun hc12 => ?_) (fun hc12 => ?_)
        · replace hb6 := cond_t hc12 hb6
          refine TC.k ?_
          refine TC.region ?_
          refine TO.s rfl rfl rfl (StepS.assign rfl) ?_
          refine TO.code ?_
          cases hb6
          refine TC.ret fun a w e s => ?_
          refine FRet.mk1 (P := Try.prog) (fn := Try.f25) (t := 4) e rfl rfl ?_
          exact ⟨rfl, s.mono fun _ => Sat.dropN 0⟩
        · replace hb6 := cond_f hc12 hb6
          refine TC.skipk ?_
          refine TC.region ?_
          refine TO.s rfl rfl rfl (StepS.move rfl) ?_
          refine TO.s rfl rfl rfl (StepS.ari rfl rfl rfl) ?_
          refine TO.s rfl rfl rfl (StepS.assign rfl) ?_
          cases hb6
          refine TO.nil fun a w e s => ?_
          exact ⟨e.sub (lk_of_allIn ⟨rfl, rfl, rfl, trivial⟩), s⟩
      · replace hb6 := cond_f hc7 hb6
        cases hb6
        refine TC.exit rfl fun a w e s => ?_
        exact ⟨e.sub (lk_of_allIn trivial), s⟩
    · exact fun a w e s => ⟨e.sub (lk_of_allIn ⟨rfl, rfl, rfl, trivial⟩), s⟩
    · rintro _ rfl a w ⟨he, hs⟩
      dsimp only [Ctl.on] at hm
      refine TC.use ?_ he hs
      refine TC.k ?_
      refine TC.region ?_
      refine TO.s rfl rfl rfl (StepS.assign rfl) ?_
      refine TO.code ?_
      cases hm
      refine TC.ret fun a w e s => ?_
      refine FRet.mk1 (P := Try.prog) (fn := Try.f25) (t := 4) e rfl rfl ?_
      exact ⟨rfl, s.mono fun _ => Sat.dropN 0⟩
    · rintro r rfl
      cases hm
      exact fun a w h => h

set_option maxRecDepth 100000 in
theorem C7 {B : World} {L : List HP} {a0 : Int} {a1 : List (Int × Int × Int × Int)} {h1 : Value} {r0 : Bool} (e1 : Ent L (Rd 4 h1 (a1.map cTiiii))) (hm : F7 a0 a1 = some r0) {w : World} (st : St B L w) : Calls Try.prog 7 #[I a0, h1] w (fun e w' => (e = .returned (.bool r0) ∧ St B (L) w')) := by
  refine calls_of (N := 56) (L := L) (args := [I a0, h1]) Try.func7 rfl rfl rfl ?_ st
  dsimp only [F7] at hm
  refine TC.k ?_
  refine TC.region ?_
  refine TO.s rfl rfl rfl (StepS.assign rfl) ?_
  refine TO.code ?_
  refine TC.k ?_
  refine TC.region ?_
  refine TO.s rfl rfl rfl (StepS.move rfl) ?_
  refine TO.s rfl rfl rfl (StepS.move rfl) ?_
  obtain ⟨⟨r1, r2⟩, hc3, hm⟩ := bind_some hm
  refine TO.callO kcallB_29_true rfl rfl rfl (fun _ st => C29 e1 hc3 st) ?_
  rintro _ _ ⟨v4, v6, rfl, rfl⟩
  refine TO.s rfl rfl rfl (StepS.move rfl) ?_
  refine TO.s rfl rfl rfl (StepS.extract rfl rfl) ?_
  refine TO.s rfl rfl rfl (StepS.extract rfl rfl) ?_
  refine TO.alloc kinfo_58_bind_zero_some_agg_slice_none_0_0_U_0_I_0_slice_none_0_0 rfl rfl fun b8 => ?_
  refine TO.pure (fun _ s => Rd.one (OwnS.rd (Ent.at 1 rfl)) s) fun oc9 => ?_
  refine TO.pure (fun _ s => Rd.one (OwnS.rd (Ent.at 2 rfl)) s) fun oc10 => ?_
  refine TO.stB (us := [v4, U r1.2.1, I r1.2.2.1, v6]) 0 [v4, U r1.2.1, I r1.2.2.1, v6] rfl rfl rfl ksizeB_58_4_true rfl rfl rfl (by intro u hu; simp only [List.mem_cons, List.not_mem_nil, or_false] at hu; rcases hu with rfl | rfl | rfl | rfl <;> first | exact oc9.1 | exact oc10.1 | rfl) rfl ?_
  refine TO.s rfl rfl rfl (StepS.assign rfl) ?_
  refine TO.code ?_
  refine TC.k ?_
  refine TC.region ?_
  refine TO.s rfl rfl rfl (StepS.move rfl) ?_
  refine TO.s rfl rfl rfl (StepS.move rfl) ?_
  refine TO.s rfl rfl rfl (StepS.lenm rfl e1.tl.tl.tl ksliceB_23_106_4_true rfl) ?_
  obtain ⟨r11, hc12, hm⟩ := bind_some hm
  refine TO.q rfl rfl rfl (StepQ.call kcallB_21_true rfl rfl (fun _ st => C21  hc12 st)) ?_
  refine TO.s rfl rfl rfl (StepS.assign rfl) ?_
  refine TO.code ?_
  refine TC.k ?_
  refine TC.region ?_
  refine TO.s rfl rfl rfl (StepS.build (cs := [.slice none 0 0, U 0, I 0, .slice none 0 0]) rfl (by kernel_rfl)) ?_
  refine TO.alloc kinfo_58_bind_zero_some_agg_slice_none_0_0_U_0_I_0_slice_none_0_0 rfl rfl fun b13 => ?_
  refine TO.stB (us := [.slice none 0 0, U 0, I 0, .slice none 0 0]) 0 [.slice none 0 0, U 0, I 0, .slice none 0 0] rfl rfl rfl ksizeB_58_4_true rfl rfl rfl (by simp [Value.oneCell']) rfl ?_
  refine TO.code ?_
  refine TC.k ?_
  refine TC.k ?_
  refine TC.region ?_
  refine TO.s rfl rfl rfl (StepS.move rfl) ?_
  refine TO.s rfl rfl rfl (StepS.cmp rfl rfl rfl) ?_
  refine TO.code ?_
  obtain ⟨⟨y16, y19, x20, x21⟩, hj22, hm⟩ := bind_some hm
  first | refine TC.cutM (fun a w => ∃ v14 : Value, ∃ v17 : Value, Mid 56 B [(5, .pointer (some ⟨b8, 0, none⟩)), (6, I r2), (7, I r11), (8, .pointer (some ⟨b13, 0, none⟩))] (OwnS 28 1 v14 (y16.map cI) :: OwnS 3 1 v17 (y19.map cI) :: Bx b13 58 [v14, U x20, I x21, v17] :: Bx b8 58 [v4, U r1.2.1, I r1.2.2.1, v6] :: OwnS 28 1 v4 (r1.1.map cI) :: OwnS 3 1 v6 (r1.2.2.2.map cI) :: L) a w) ?_ ?_ | refine TC.cutX (fun a w => ∃ v14 : Value, ∃ v17 : Value, Mid 56 B [(5, .pointer (some ⟨b8, 0, none⟩)), (6, I r2), (7, I r11), (8, .pointer (some ⟨b13, 0, none⟩))] (OwnS 28 1 v14 (y16.map cI) :: OwnS 3 1 v17 (y19.map cI) :: Bx b13 58 [v14, U x20, I x21, v17] :: Bx b8 58 [v4, U r1.2.1, I r1.2.2.1, v6] :: OwnS 28 1 v4 (r1.1.map cI) :: OwnS 3 1 v6 (r1.2.2.2.map cI) :: L) a w) ?_ ?_
  · refine TC.cond rfl (fun hc23 => ?_) (fun hc23 => ?_)
    · replace hj22 := cond_t hc23 hj22
      refine TC.region ?_
      refine TO.s rfl rfl rfl (StepS.move rfl) ?_
      refine TO.s rfl rfl rfl (StepS.move rfl) ?_
      obtain ⟨r24, hc25, hj22⟩ := bind_some hj22
      refine TO.callO kcallB_30_true rfl rfl rfl (fun _ st => C30 e1.tl.tl.tl.tl hc25 st) ?_
      rintro _ _ ⟨v26, v28, rfl, rfl⟩
      refine TO.pure (fun _ s => Rd.one (OwnS.rd (Ent.at 0 rfl)) s) fun oc30 => ?_
      refine TO.pure (fun _ s => Rd.one (OwnS.rd (Ent.at 1 rfl)) s) fun oc31 => ?_
      refine TO.stB (us := [v26, U r24.2.1, I r24.2.2.1, v28]) 2 [v26, U r24.2.1, I r24.2.2.1, v28] rfl rfl rfl ksizeB_58_4_true rfl rfl rfl (by intro u hu; simp only [List.mem_cons, List.not_mem_nil, or_false] at hu; rcases hu with rfl | rfl | rfl | rfl <;> first | exact oc30.1 | exact oc31.1 | rfl) rfl ?_
      cases hj22
      refine TO.nil fun a w e s => ?_
      exact ⟨v26, v28, e.sub (lk_of_allIn ⟨rfl, rfl, rfl, rfl, trivial⟩), s⟩
    · replace hj22 := cond_f hc23 hj22
      cases hj22
      refine TC.skip fun a w e s => ?_
      exact ⟨.slice none 0 0, .slice none 0 0, e.sub (lk_of_allIn ⟨rfl, rfl, rfl, rfl, trivial⟩), s.mono fun _ s => (by replace s := Sat.front 3 rfl s; replace s := Sat.front 3 rfl s; replace s := Sat.front 3 rfl s; replace s := Sat.front 3 rfl s; replace s := Sat.nilS (e := 3) (sz := 1) (f := cI) s; replace s := Sat.nilS (e := 28) (sz := 1) (f := cI) s; exact s)⟩
  · intro a w ⟨v14, v17, he, hs⟩
    refine TC.use ?_ he hs
    refine TC.k ?_
    refine TC.region ?_
    refine TO.s rfl rfl rfl (StepS.move rfl) ?_
    refine TO.s rfl rfl rfl (StepS.move rfl) ?_
    refine TO.s rfl rfl rfl (StepS.cmp rfl rfl rfl) ?_
    refine TO.s rfl rfl rfl (StepS.move rfl) ?_
    obtain ⟨b33, hj34, hm⟩ := bind_some hm
    refine TO.mid1 6 34 (.bool b33) ?_ ?_
    · refine bcase ((r2 == r11)) (fun hb32 => ?_) (fun hb32 => ?_)
      · replace hj34 := cond_t hb32 hj34
        refine TO.sw rfl rfl rfl hb32 rfl rfl (StepS.fld rfl kfieldB_58_0_0_true) ?_
        refine TO.sw rfl rfl rfl hb32 rfl rfl (StepS.ldB rfl (Ent.at 3 rfl) kscalB_24_true rfl) ?_
        refine TO.sw rfl rfl rfl hb32 rfl rfl (StepS.fld rfl kfieldB_58_0_0_true) ?_
        refine TO.sw rfl rfl rfl hb32 rfl rfl (StepS.ldB rfl (Ent.at 2 rfl) kscalB_24_true rfl) ?_
        obtain ⟨r35, hc36, hj34⟩ := bind_some hj34
        refine TO.qw rfl rfl rfl hb32 rfl rfl (StepQ.call kcallB_18_true rfl rfl (fun _ st => C18 (OwnS.rd (Ent.at 4 rfl)) (OwnS.rd (Ent.at 0 rfl)) hc36 st)) ?_
        cases hj34
        refine TO.s rfl rfl rfl (StepS.pickT rfl hb32 rfl) ?_
        exact TO.up1 6 0 rfl rfl rfl rfl
      · replace hj34 := cond_f hb32 hj34
        cases hj34
        refine TO.skip rfl rfl rfl (skipF hb32) rfl rfl ?_
        refine TO.skip rfl rfl rfl (skipF hb32) rfl rfl ?_
        refine TO.skip rfl rfl rfl (skipF hb32) rfl rfl ?_
        refine TO.skip rfl rfl rfl (skipF hb32) rfl rfl ?_
        refine TO.skip rfl rfl rfl (skipF hb32) rfl rfl ?_
        refine TO.s rfl rfl rfl (StepS.pickF rfl hb32 rfl) ?_
        exact TO.up1 6 0 rfl rfl rfl rfl
    refine TO.s rfl rfl rfl (StepS.move rfl) ?_
    refine TO.mid1 6 41 (.bool (b33 && (r1.2.1 == x20))) ?_ ?_
    · refine bcase (b33) (fun hb37 => ?_) (fun hb37 => ?_)
      · refine TO.sw rfl rfl rfl hb37 rfl rfl (StepS.fld rfl kfieldB_58_1_1_true) ?_
        refine TO.sw rfl rfl rfl hb37 rfl rfl (StepS.ldB rfl (Ent.at 3 rfl) kscalB_36_true rfl) ?_
        refine TO.sw rfl rfl rfl hb37 rfl rfl (StepS.fld rfl kfieldB_58_1_1_true) ?_
        refine TO.sw rfl rfl rfl hb37 rfl rfl (StepS.ldB rfl (Ent.at 2 rfl) kscalB_36_true rfl) ?_
        refine TO.sw rfl rfl rfl hb37 rfl rfl (StepS.cmpU rfl rfl rfl) ?_
        refine TO.s rfl rfl rfl (StepS.pickT rfl hb37 rfl) ?_
        exact TO.up1 6 0 rfl rfl (by rw [hb37]; rfl) rfl
      · refine TO.skip rfl rfl rfl (skipF hb37) rfl rfl ?_
        refine TO.skip rfl rfl rfl (skipF hb37) rfl rfl ?_
        refine TO.skip rfl rfl rfl (skipF hb37) rfl rfl ?_
        refine TO.skip rfl rfl rfl (skipF hb37) rfl rfl ?_
        refine TO.skip rfl rfl rfl (skipF hb37) rfl rfl ?_
        refine TO.s rfl rfl rfl (StepS.pickF rfl hb37 rfl) ?_
        exact TO.up1 6 0 rfl rfl (by rw [hb37]; rfl) rfl
    refine TO.s rfl rfl rfl (StepS.move rfl) ?_
    refine TO.mid1 6 48 (.bool ((b33 && (r1.2.1 == x20)) && (r1.2.2.1 == x21))) ?_ ?_
    · refine bcase ((b33 && (r1.2.1 == x20))) (fun hb38 => ?_) (fun hb38 => ?_)
      · refine TO.sw rfl rfl rfl hb38 rfl rfl (StepS.fld rfl kfieldB_58_2_2_true) ?_
        refine TO.sw rfl rfl rfl hb38 rfl rfl (StepS.ldB rfl (Ent.at 3 rfl) kscalB_3_true rfl) ?_
        refine TO.sw rfl rfl rfl hb38 rfl rfl (StepS.fld rfl kfieldB_58_2_2_true) ?_
        refine TO.sw rfl rfl rfl hb38 rfl rfl (StepS.ldB rfl (Ent.at 2 rfl) kscalB_3_true rfl) ?_
        refine TO.sw rfl rfl rfl hb38 rfl rfl (StepS.cmp rfl rfl rfl) ?_
        refine TO.s rfl rfl rfl (StepS.pickT rfl hb38 rfl) ?_
        exact TO.up1 6 0 rfl rfl (by rw [hb38]; rfl) rfl
      · refine TO.skip rfl rfl rfl (skipF hb38) rfl rfl ?_
        refine TO.skip rfl rfl rfl (skipF hb38) rfl rfl ?_
        refine TO.skip rfl rfl rfl (skipF hb38) rfl rfl ?_
        refine TO.skip rfl rfl rfl (skipF hb38) rfl rfl ?_
        refine TO.skip rfl rfl rfl (skipF hb38) rfl rfl ?_
        refine TO.s rfl rfl rfl (StepS.pickF rfl hb38 rfl) ?_
        exact TO.up1 6 0 rfl rfl (by rw [hb38]; rfl) rfl
    refine TO.s rfl rfl rfl (StepS.move rfl) ?_
    obtain ⟨b40, hj41, hm⟩ := bind_some hm
    refine TO.mid1 6 55 (.bool b40) ?_ ?_
    · refine bcase (((b33 && (r1.2.1 == x20)) && (r1.2.2.1 == x21))) (fun hb39 => ?_) (fun hb39 => ?_)
      · replace hj41 := cond_t hb39 hj41
        refine TO.sw rfl rfl rfl hb39 rfl rfl (StepS.fld rfl kfieldB_58_3_3_true) ?_
        refine TO.sw rfl rfl rfl hb39 rfl rfl (StepS.ldB rfl (Ent.at 3 rfl) kscalB_22_true rfl) ?_
        refine TO.sw rfl rfl rfl hb39 rfl rfl (StepS.fld rfl kfieldB_58_3_3_true) ?_
        refine TO.sw rfl rfl rfl hb39 rfl rfl (StepS.ldB rfl (Ent.at 2 rfl) kscalB_22_true rfl) ?_
        obtain ⟨r42, hc43, hj41⟩ := bind_some hj41
        refine TO.qw rfl rfl rfl hb39 rfl rfl (StepQ.call kcallB_25_true rfl rfl (fun _ st => C25 (OwnS.rd (Ent.at 5 rfl)) (OwnS.rd (Ent.at 1 rfl)) hc43 st)) ?_
        cases hj41
        refine TO.s rfl rfl rfl (StepS.pickT rfl hb39 rfl) ?_
        exact TO.up1 6 0 rfl rfl rfl rfl
      · replace hj41 := cond_f hb39 hj41
        cases hj41
        refine TO.skip rfl rfl rfl (skipF hb39) rfl rfl ?_
        refine TO.skip rfl rfl rfl (skipF hb39) rfl rfl ?_
        refine TO.skip rfl rfl rfl (skipF hb39) rfl rfl ?_
        refine TO.skip rfl rfl rfl (skipF hb39) rfl rfl ?_
        refine TO.skip rfl rfl rfl (skipF hb39) rfl rfl ?_
        refine TO.s rfl rfl rfl (StepS.pickF rfl hb39 rfl) ?_
        exact TO.up1 6 0 rfl rfl rfl rfl
    refine TO.s rfl rfl rfl (StepS.assign rfl) ?_
    refine TO.code ?_
    cases hm
    refine TC.ret fun a w e s => ?_
    refine FRet.mk1 (P := Try.prog) (fn := Try.f7) (t := 4) e rfl rfl ?_
    exact ⟨rfl, s.mono fun _ => Sat.dropN 6⟩
end Go.Proofs.Ythfkdepcnhhepaa
