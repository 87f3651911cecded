/-
  The walks: each Go function returns what its model says. Written by a program (gen.py).
-/
import Derived.Test.YthfkdepcnhhepaaProg
import Derived.KernelRfl
import Derived.Test.YthfkdepcnhhepaaEW
import Derived.Test.YthfkdepcnhhepaaDM
namespace Go.Proofs.Ythfkdepcnhhepaa
open Go Go.Bk
set_option linter.unusedVariables false
set_option linter.unnecessarySimpa false
theorem kfieldB_158_2_2_true : fieldB Try.prog 158 2 2 = true := by kernel_rfl
theorem karrB_156_6_155_8_true : arrB Try.prog 156 6 155 8 = true := by kernel_rfl
theorem kfieldB_158_0_0_true : fieldB Try.prog 158 0 0 = true := by kernel_rfl
theorem kscalB_151_true : scalB Try.prog 151 = true := by kernel_rfl
theorem ksliceB_151_153_2_true : sliceB Try.prog 151 153 2 = true := by kernel_rfl
theorem kfieldB_155_4_4_true : fieldB Try.prog 155 4 4 = true := by kernel_rfl
theorem kscalB_36_true : scalB Try.prog 36 = true := by kernel_rfl
theorem ksizeB_36_1_true : sizeB Try.prog 36 1 = true := by kernel_rfl
theorem kfieldB_155_5_5_true : fieldB Try.prog 155 5 5 = true := by kernel_rfl
theorem kfieldB_155_0_0_true : fieldB Try.prog 155 0 0 = true := by kernel_rfl
theorem kfieldB_153_0_0_true : fieldB Try.prog 153 0 0 = true := by kernel_rfl
theorem kfieldB_155_6_6_true : fieldB Try.prog 155 6 6 = true := by kernel_rfl
theorem kaggB_153_2_true : aggB Try.prog 153 2 = true := by kernel_rfl
theorem ksizeB_153_2_true : sizeB Try.prog 153 2 = true := by kernel_rfl
theorem kfieldB_155_2_2_true : fieldB Try.prog 155 2 2 = true := by kernel_rfl
theorem kcallB_133_true : callB Try.prog 133 = true := by kernel_rfl
theorem kfieldB_155_3_3_true : fieldB Try.prog 155 3 3 = true := by kernel_rfl
theorem kfieldB_158_3_50_true : fieldB Try.prog 158 3 50 = true := by kernel_rfl
theorem kfieldB_155_1_1_true : fieldB Try.prog 155 1 1 = true := by kernel_rfl
theorem kfieldB_153_1_1_true : fieldB Try.prog 153 1 1 = true := by kernel_rfl
theorem kfieldB_158_1_1_true : fieldB Try.prog 158 1 1 = true := by kernel_rfl
theorem kunderlying_4_some_bool : Try.prog.underlying 4 = some .bool := by kernel_rfl
theorem kcallB_99_true : callB Try.prog 99 = true := by kernel_rfl
theorem kaggB_155_8_true : aggB Try.prog 155 8 = true := by kernel_rfl
theorem ksizeB_155_8_true : sizeB Try.prog 155 8 = true := by kernel_rfl
theorem kcallB_100_true : callB Try.prog 100 = true := by kernel_rfl
theorem kelemB_151_153_2_16_true : elemB Try.prog 151 153 2 16 = true := by kernel_rfl
theorem kinfo_153_bind_zero_some_agg_I_0_I_0 : (Try.prog.info? 153).bind (·.zero) = some (.agg #[I 0, I 0]) := by kernel_rfl
theorem kcallB_67_true : callB Try.prog 67 = true := by kernel_rfl
theorem ksliceB_24_28_1_true : sliceB Try.prog 24 28 1 = true := by kernel_rfl
theorem kscalB_28_true : scalB Try.prog 28 = true := by kernel_rfl
theorem kunderlying_161_some_struct_fieldsOf_161 : Try.prog.underlying 161 = some (.struct (Try.prog.fieldsOf 161)) := by kernel_rfl
theorem kstoodInHeld_161_false : Try.prog.stoodInHeld 161 = false := by kernel_rfl
theorem keqGuardType_depth_161_false : Try.prog.eqGuardType Try.prog.depth 161 = false := by kernel_rfl
theorem kcallB_33_true : callB Try.prog 33 = true := by kernel_rfl
theorem kcallB_21_true : callB Try.prog 21 = true := by kernel_rfl
theorem kcallB_34_true : callB Try.prog 34 = true := by kernel_rfl
theorem kcallB_18_true : callB Try.prog 18 = true := by kernel_rfl
theorem kcallB_35_true : callB Try.prog 35 = true := by kernel_rfl
theorem kcallB_25_true : callB Try.prog 25 = true := by kernel_rfl

set_option maxRecDepth 100000 in
theorem C99 {B : World} {L : List HP} {a0 : Int × Int × Int × Int} {a1 : Int} {r0 : Int × Int × Bool × Int × (BitVec 32) × Int × Int × Int} (hm : F99 a0 a1 = some r0) {w : World} (st : St B L w) : Calls Try.prog 99 #[.agg (cTiiii a0).toArray, I a1] w (fun e w' => ∃ v M, e = .returned v ∧ (∃ (qb1 : Nat), v = .pointer (some ⟨qb1, 0, none⟩) ∧ M = (Bx qb1 155 [I r0.1, I r0.2.1, .bool r0.2.2.1, I r0.2.2.2.1, U r0.2.2.2.2.1, I r0.2.2.2.2.2.1, I r0.2.2.2.2.2.2.1, I r0.2.2.2.2.2.2.2] :: L)) ∧ St B M w') := by
  refine calls_of (N := 14) (L := L) (args := [.agg (cTiiii a0).toArray, I a1]) Try.func99 rfl rfl rfl ?_ st
  dsimp only [F99] at hm
  refine TC.k ?_
  refine TC.region ?_
  refine TO.box (cs := [I a0.1, I a0.2.1, I a0.2.2.1, I a0.2.2.2]) rfl rfl rfl fun b1 => ?_
  refine TO.s rfl rfl rfl (StepS.assign rfl) ?_
  refine TO.code ?_
  refine TC.k ?_
  refine TC.region ?_
  refine TO.s rfl rfl rfl (StepS.move rfl) ?_
  refine TO.s rfl rfl rfl (StepS.fld rfl kfieldB_106_3_3_true) ?_
  refine TO.s rfl rfl rfl (StepS.ldB rfl (Ent.at 0 rfl) kscalB_3_true rfl) ?_
  refine TO.s rfl rfl rfl (StepS.cmp rfl rfl rfl) ?_
  refine TO.s rfl rfl rfl (StepS.fld rfl kfieldB_106_3_3_true) ?_
  refine TO.s rfl rfl rfl (StepS.ldB rfl (Ent.at 0 rfl) kscalB_3_true rfl) ?_
  refine TO.s rfl rfl rfl (StepS.max2 rfl rfl) ?_
  refine TO.s rfl rfl rfl (StepS.build (cs := [I 1, I a1, .bool (decide (a0.2.2.2 ≥ 0)), I (mx a0.2.2.2 0), U 0, I 0, I 0, I 0]) rfl (by kernel_rfl)) ?_
  refine TO.box (cs := [I 1, I a1, .bool (decide (a0.2.2.2 ≥ 0)), I (mx a0.2.2.2 0), U 0, I 0, I 0, I 0]) rfl rfl rfl fun b2 => ?_
  refine TO.s rfl rfl rfl (StepS.assign rfl) ?_
  refine TO.code ?_
  cases hm
  refine TC.ret fun a w e s => ?_
  refine FRet.mk1 (P := Try.prog) (fn := Try.f99) (t := 4) e rfl rfl ?_
  refine ⟨_, _, rfl, ⟨b2, rfl, rfl⟩, ?_⟩
  refine s.mono fun _ s => ?_
  replace s := Sat.front 0 rfl s
  replace s := Sat.erase 1 s
  exact s

set_option maxRecDepth 100000 in
theorem C133 {B : World} {L : List HP} {a0 : Int} {a1 : Int} {r0 : Int} (hm : F133 a0 a1 = some r0) {w : World} (st : St B L w) : Calls Try.prog 133 #[I a0, I a1] w (fun e w' => (e = .returned (I r0) ∧ St B (L) w')) := by
  refine calls_of (N := 18) (L := L) (args := [I a0, I a1]) Try.func133 rfl rfl rfl ?_ st
  dsimp only [F133] at hm
  refine TC.k ?_
  refine TC.region ?_
  refine TO.s rfl rfl rfl (StepS.assign rfl) ?_
  refine TO.code ?_
  refine TC.k ?_
  refine TC.region ?_
  refine TO.s rfl rfl rfl (StepS.move rfl) ?_
  refine TO.s rfl rfl rfl (StepS.move rfl) ?_
  refine TO.s rfl rfl rfl (StepS.rem rfl rfl (by decide)) ?_
  refine TO.s rfl rfl rfl (StepS.ari rfl rfl rfl) ?_
  refine TO.s rfl rfl rfl (StepS.move rfl) ?_
  refine TO.s rfl rfl rfl (StepS.ari rfl rfl rfl) ?_
  refine TO.s rfl rfl rfl (StepS.assign rfl) ?_
  refine TO.code ?_
  refine TC.k ?_
  refine TC.k ?_
  refine TC.region ?_
  refine TO.s rfl rfl rfl (StepS.move rfl) ?_
  refine TO.s rfl rfl rfl (StepS.move rfl) ?_
  refine TO.s rfl rfl rfl (StepS.cmp rfl rfl rfl) ?_
  refine TO.code ?_
  obtain ⟨x1, hj2, hm⟩ := bind_some hm
  first | refine TC.cutM (fun a w => Mid 18 B [(5, I x1)] (L) a w) ?_ ?_ | refine TC.cutX (fun a w => Mid 18 B [(5, I x1)] (L) a w) ?_ ?_
  · refine TC.cond rfl (fun hc3 => ?_) (fun hc3 => ?_)
    · replace hj2 := cond_t hc3 hj2
      refine TC.region ?_
      refine TO.s rfl rfl rfl (StepS.move rfl) ?_
      refine TO.s rfl rfl rfl (StepS.ari rfl rfl rfl) ?_
      refine TO.s rfl rfl rfl (StepS.assign rfl) ?_
      cases hj2
      refine TO.nil fun a w e s => ?_
      exact ⟨e.sub (lk_of_allIn ⟨rfl, trivial⟩), s⟩
    · replace hj2 := cond_f hc3 hj2
      cases hj2
      refine TC.skip fun a w e s => ?_
      exact ⟨e.sub (lk_of_allIn ⟨rfl, trivial⟩), s⟩
  · intro a w ⟨he, hs⟩
    refine TC.use ?_ he hs
    refine TC.k ?_
    refine TC.region ?_
    refine TO.s rfl rfl rfl (StepS.move rfl) ?_
    refine TO.s rfl rfl rfl (StepS.assign rfl) ?_
    refine TO.code ?_
    cases hm
    refine TC.ret fun a w e s => ?_
    refine FRet.mk1 (P := Try.prog) (fn := Try.f133) (t := 4) e rfl rfl ?_
    exact ⟨rfl, s.mono fun _ => Sat.dropN 0⟩

set_option maxRecDepth 100000 in
theorem C100 {B : World} {L : List HP} {a0 : (List (Int × Int)) × (T6 (Int × Int × Bool × Int × (BitVec 32) × Int × Int × Int)) × List (Int × Int × Int × Bool × Int)} {a1 : Int} {a2 : Int} {a3 : Int} {b0_ : Nat} {u0_1 : Value} {h0_1 : Value} {h0_2 : Value} {s0 : (List (Int × Int)) × (T6 (Int × Int × Bool × Int × (BitVec 32) × Int × Int × Int)) × List (Int × Int × Int × Bool × Int)} (hm : F100 a0 a1 a2 a3 = some s0) {w : World} (st : St B (Bx b0_ 158 [h0_1, u0_1, I a0.2.1.1.1, I a0.2.1.1.2.1, .bool a0.2.1.1.2.2.1, I a0.2.1.1.2.2.2.1, U a0.2.1.1.2.2.2.2.1, I a0.2.1.1.2.2.2.2.2.1, I a0.2.1.1.2.2.2.2.2.2.1, I a0.2.1.1.2.2.2.2.2.2.2, I a0.2.1.2.1.1, I a0.2.1.2.1.2.1, .bool a0.2.1.2.1.2.2.1, I a0.2.1.2.1.2.2.2.1, U a0.2.1.2.1.2.2.2.2.1, I a0.2.1.2.1.2.2.2.2.2.1, I a0.2.1.2.1.2.2.2.2.2.2.1, I a0.2.1.2.1.2.2.2.2.2.2.2, I a0.2.1.2.2.1.1, I a0.2.1.2.2.1.2.1, .bool a0.2.1.2.2.1.2.2.1, I a0.2.1.2.2.1.2.2.2.1, U a0.2.1.2.2.1.2.2.2.2.1, I a0.2.1.2.2.1.2.2.2.2.2.1, I a0.2.1.2.2.1.2.2.2.2.2.2.1, I a0.2.1.2.2.1.2.2.2.2.2.2.2, I a0.2.1.2.2.2.1.1, I a0.2.1.2.2.2.1.2.1, .bool a0.2.1.2.2.2.1.2.2.1, I a0.2.1.2.2.2.1.2.2.2.1, U a0.2.1.2.2.2.1.2.2.2.2.1, I a0.2.1.2.2.2.1.2.2.2.2.2.1, I a0.2.1.2.2.2.1.2.2.2.2.2.2.1, I a0.2.1.2.2.2.1.2.2.2.2.2.2.2, I a0.2.1.2.2.2.2.1.1, I a0.2.1.2.2.2.2.1.2.1, .bool a0.2.1.2.2.2.2.1.2.2.1, I a0.2.1.2.2.2.2.1.2.2.2.1, U a0.2.1.2.2.2.2.1.2.2.2.2.1, I a0.2.1.2.2.2.2.1.2.2.2.2.2.1, I a0.2.1.2.2.2.2.1.2.2.2.2.2.2.1, I a0.2.1.2.2.2.2.1.2.2.2.2.2.2.2, I a0.2.1.2.2.2.2.2.1, I a0.2.1.2.2.2.2.2.2.1, .bool a0.2.1.2.2.2.2.2.2.2.1, I a0.2.1.2.2.2.2.2.2.2.2.1, U a0.2.1.2.2.2.2.2.2.2.2.2.1, I a0.2.1.2.2.2.2.2.2.2.2.2.2.1, I a0.2.1.2.2.2.2.2.2.2.2.2.2.2.1, I a0.2.1.2.2.2.2.2.2.2.2.2.2.2.2, h0_2] :: OwnS 153 2 h0_1 (a0.1.map cTii) :: OwnS 161 5 h0_2 (a0.2.2.map cTiiibi) :: L) w) : Calls Try.prog 100 #[.pointer (some ⟨b0_, 0, none⟩), I a1, I a2, I a3] w (fun e w' => ∃ v M, e = .returned v ∧ (∃ (qv1 : Value) (qv2 : Value), v = .tuple #[] ∧ M = (Bx b0_ 158 [qv1, u0_1, I s0.2.1.1.1, I s0.2.1.1.2.1, .bool s0.2.1.1.2.2.1, I s0.2.1.1.2.2.2.1, U s0.2.1.1.2.2.2.2.1, I s0.2.1.1.2.2.2.2.2.1, I s0.2.1.1.2.2.2.2.2.2.1, I s0.2.1.1.2.2.2.2.2.2.2, I s0.2.1.2.1.1, I s0.2.1.2.1.2.1, .bool s0.2.1.2.1.2.2.1, I s0.2.1.2.1.2.2.2.1, U s0.2.1.2.1.2.2.2.2.1, I s0.2.1.2.1.2.2.2.2.2.1, I s0.2.1.2.1.2.2.2.2.2.2.1, I s0.2.1.2.1.2.2.2.2.2.2.2, I s0.2.1.2.2.1.1, I s0.2.1.2.2.1.2.1, .bool s0.2.1.2.2.1.2.2.1, I s0.2.1.2.2.1.2.2.2.1, U s0.2.1.2.2.1.2.2.2.2.1, I s0.2.1.2.2.1.2.2.2.2.2.1, I s0.2.1.2.2.1.2.2.2.2.2.2.1, I s0.2.1.2.2.1.2.2.2.2.2.2.2, I s0.2.1.2.2.2.1.1, I s0.2.1.2.2.2.1.2.1, .bool s0.2.1.2.2.2.1.2.2.1, I s0.2.1.2.2.2.1.2.2.2.1, U s0.2.1.2.2.2.1.2.2.2.2.1, I s0.2.1.2.2.2.1.2.2.2.2.2.1, I s0.2.1.2.2.2.1.2.2.2.2.2.2.1, I s0.2.1.2.2.2.1.2.2.2.2.2.2.2, I s0.2.1.2.2.2.2.1.1, I s0.2.1.2.2.2.2.1.2.1, .bool s0.2.1.2.2.2.2.1.2.2.1, I s0.2.1.2.2.2.2.1.2.2.2.1, U s0.2.1.2.2.2.2.1.2.2.2.2.1, I s0.2.1.2.2.2.2.1.2.2.2.2.2.1, I s0.2.1.2.2.2.2.1.2.2.2.2.2.2.1, I s0.2.1.2.2.2.2.1.2.2.2.2.2.2.2, I s0.2.1.2.2.2.2.2.1, I s0.2.1.2.2.2.2.2.2.1, .bool s0.2.1.2.2.2.2.2.2.2.1, I s0.2.1.2.2.2.2.2.2.2.2.1, U s0.2.1.2.2.2.2.2.2.2.2.2.1, I s0.2.1.2.2.2.2.2.2.2.2.2.2.1, I s0.2.1.2.2.2.2.2.2.2.2.2.2.2.1, I s0.2.1.2.2.2.2.2.2.2.2.2.2.2.2, qv2] :: OwnS 153 2 qv1 (s0.1.map cTii) :: OwnS 161 5 qv2 (s0.2.2.map cTiiibi) :: L)) ∧ St B M w') := by
  refine calls_of (N := 157) (L := (Bx b0_ 158 [h0_1, u0_1, I a0.2.1.1.1, I a0.2.1.1.2.1, .bool a0.2.1.1.2.2.1, I a0.2.1.1.2.2.2.1, U a0.2.1.1.2.2.2.2.1, I a0.2.1.1.2.2.2.2.2.1, I a0.2.1.1.2.2.2.2.2.2.1, I a0.2.1.1.2.2.2.2.2.2.2, I a0.2.1.2.1.1, I a0.2.1.2.1.2.1, .bool a0.2.1.2.1.2.2.1, I a0.2.1.2.1.2.2.2.1, U a0.2.1.2.1.2.2.2.2.1, I a0.2.1.2.1.2.2.2.2.2.1, I a0.2.1.2.1.2.2.2.2.2.2.1, I a0.2.1.2.1.2.2.2.2.2.2.2, I a0.2.1.2.2.1.1, I a0.2.1.2.2.1.2.1, .bool a0.2.1.2.2.1.2.2.1, I a0.2.1.2.2.1.2.2.2.1, U a0.2.1.2.2.1.2.2.2.2.1, I a0.2.1.2.2.1.2.2.2.2.2.1, I a0.2.1.2.2.1.2.2.2.2.2.2.1, I a0.2.1.2.2.1.2.2.2.2.2.2.2, I a0.2.1.2.2.2.1.1, I a0.2.1.2.2.2.1.2.1, .bool a0.2.1.2.2.2.1.2.2.1, I a0.2.1.2.2.2.1.2.2.2.1, U a0.2.1.2.2.2.1.2.2.2.2.1, I a0.2.1.2.2.2.1.2.2.2.2.2.1, I a0.2.1.2.2.2.1.2.2.2.2.2.2.1, I a0.2.1.2.2.2.1.2.2.2.2.2.2.2, I a0.2.1.2.2.2.2.1.1, I a0.2.1.2.2.2.2.1.2.1, .bool a0.2.1.2.2.2.2.1.2.2.1, I a0.2.1.2.2.2.2.1.2.2.2.1, U a0.2.1.2.2.2.2.1.2.2.2.2.1, I a0.2.1.2.2.2.2.1.2.2.2.2.2.1, I a0.2.1.2.2.2.2.1.2.2.2.2.2.2.1, I a0.2.1.2.2.2.2.1.2.2.2.2.2.2.2, I a0.2.1.2.2.2.2.2.1, I a0.2.1.2.2.2.2.2.2.1, .bool a0.2.1.2.2.2.2.2.2.2.1, I a0.2.1.2.2.2.2.2.2.2.2.1, U a0.2.1.2.2.2.2.2.2.2.2.2.1, I a0.2.1.2.2.2.2.2.2.2.2.2.2.1, I a0.2.1.2.2.2.2.2.2.2.2.2.2.2.1, I a0.2.1.2.2.2.2.2.2.2.2.2.2.2.2, h0_2] :: OwnS 153 2 h0_1 (a0.1.map cTii) :: OwnS 161 5 h0_2 (a0.2.2.map cTiiibi) :: L)) (args := [.pointer (some ⟨b0_, 0, none⟩), I a1, I a2, I a3]) Try.func100 rfl rfl rfl ?_ st
  dsimp only [F100] at hm
  refine TC.k ?_
  refine TC.region_still kfollows_mixedOrders_true (by kernel_rfl) ?_
  refine TS.s rfl rfl rfl (StepS.move rfl) ?_
  refine TS.s rfl rfl rfl (StepS.move rfl) ?_
  refine TS.s rfl rfl rfl (StepS.nilc rfl) ?_
  refine TS.s rfl rfl rfl (StepS.fld rfl kfieldB_158_2_2_true) ?_
  obtain ⟨x5, hx6, hm⟩ := bind_some hm
  refine TS.s rfl rfl rfl (StepS.aidx (j := a1.toNat * 8) rfl rfl karrB_156_6_155_8_true ⟨(idx_spec hx6).1, idx_lt hx6⟩ rfl) ?_
  refine TS.s rfl rfl rfl (StepS.move rfl) ?_
  refine TS.s rfl rfl rfl (StepS.nilc rfl) ?_
  refine TS.s rfl rfl rfl (StepS.fld rfl kfieldB_158_0_0_true) ?_
  refine TS.s rfl rfl rfl (StepS.ldB rfl (Ent.at 0 rfl) kscalB_151_true rfl) ?_
  refine TS.s rfl rfl rfl (StepS.move rfl) ?_
  obtain ⟨x7, hx8, hm⟩ := bind_some hm
  refine TS.s rfl rfl rfl (StepS.idx rfl rfl (OwnS.rd (Ent.at 1 rfl)) ksliceB_151_153_2_true (idx_spec hx8).1 (idxm_lt hx8)) ?_
  refine TS.s rfl rfl rfl (StepS.assign rfl) ?_
  refine TS.s rfl rfl rfl (StepS.assign rfl) ?_
  refine TS.code ?_
  refine TC.k ?_
  refine TC.region_tail 9 kfollows_mixedOrders_true (by kernel_rfl) ?_
  refine TS.s rfl rfl rfl (StepS.move rfl) ?_
  refine TS.s rfl rfl rfl (StepS.nilc rfl) ?_
  refine TS.s rfl rfl rfl (StepS.fld rfl kfieldB_155_4_4_true) ?_
  refine TS.s rfl rfl rfl (StepS.ldD (i := a1) (sz := 8) (k := 4) [h0_1, u0_1] [h0_2] (f := cTiibiiu32iii) (xs := tl6 a0.2.1) (y := x5) rfl (Ent.at 0 rfl) kscalB_36_true rfl (by simp only [List.length_cons, List.length_nil] <;> omega) (fun _ => rfl) hx6 rfl) ?_
  refine TS.s rfl rfl rfl (StepS.move rfl) ?_
  obtain ⟨k9, hk10, hm⟩ := bind_some hm
  refine TS.s rfl rfl rfl (StepS.shlk (m := 1#32) rfl rfl hk10) ?_
  refine TS.s rfl rfl rfl (StepS.bitU rfl rfl rfl) ?_
  refine TS.s rfl rfl rfl (StepS.nilc rfl) ?_
  refine TS.s rfl rfl rfl (StepS.fld rfl kfieldB_155_4_4_true) ?_
  refine TS.nil ?_
  refine TO.at ?_
  obtain ⟨z11, hz12, hm⟩ := bind_some hm
  refine TO.stD (i := a1) (sz := 8) (j := 4) (us := [U (x5.2.2.2.2.1 ||| ((1#32) <<< k9))]) (cs' := [h0_1, u0_1, I z11.1.1, I z11.1.2.1, .bool z11.1.2.2.1, I z11.1.2.2.2.1, U z11.1.2.2.2.2.1, I z11.1.2.2.2.2.2.1, I z11.1.2.2.2.2.2.2.1, I z11.1.2.2.2.2.2.2.2, I z11.2.1.1, I z11.2.1.2.1, .bool z11.2.1.2.2.1, I z11.2.1.2.2.2.1, U z11.2.1.2.2.2.2.1, I z11.2.1.2.2.2.2.2.1, I z11.2.1.2.2.2.2.2.2.1, I z11.2.1.2.2.2.2.2.2.2, I z11.2.2.1.1, I z11.2.2.1.2.1, .bool z11.2.2.1.2.2.1, I z11.2.2.1.2.2.2.1, U z11.2.2.1.2.2.2.2.1, I z11.2.2.1.2.2.2.2.2.1, I z11.2.2.1.2.2.2.2.2.2.1, I z11.2.2.1.2.2.2.2.2.2.2, I z11.2.2.2.1.1, I z11.2.2.2.1.2.1, .bool z11.2.2.2.1.2.2.1, I z11.2.2.2.1.2.2.2.1, U z11.2.2.2.1.2.2.2.2.1, I z11.2.2.2.1.2.2.2.2.2.1, I z11.2.2.2.1.2.2.2.2.2.2.1, I z11.2.2.2.1.2.2.2.2.2.2.2, I z11.2.2.2.2.1.1, I z11.2.2.2.2.1.2.1, .bool z11.2.2.2.2.1.2.2.1, I z11.2.2.2.2.1.2.2.2.1, U z11.2.2.2.2.1.2.2.2.2.1, I z11.2.2.2.2.1.2.2.2.2.2.1, I z11.2.2.2.2.1.2.2.2.2.2.2.1, I z11.2.2.2.2.1.2.2.2.2.2.2.2, I z11.2.2.2.2.2.1, I z11.2.2.2.2.2.2.1, .bool z11.2.2.2.2.2.2.2.1, I z11.2.2.2.2.2.2.2.2.1, U z11.2.2.2.2.2.2.2.2.2.1, I z11.2.2.2.2.2.2.2.2.2.2.1, I z11.2.2.2.2.2.2.2.2.2.2.2.1, I z11.2.2.2.2.2.2.2.2.2.2.2.2, h0_2]) 0 [h0_1, u0_1] [h0_2] (f := cTiibiiu32iii) (xs := tl6 a0.2.1) (xs' := tl6 z11) (y0 := x5) (y1 := (x5.1, x5.2.1, x5.2.2.1, x5.2.2.2.1, (x5.2.2.2.2.1 ||| ((1#32) <<< k9)), x5.2.2.2.2.2.1, (x5.2.2.2.2.2.2.1, x5.2.2.2.2.2.2.2))) rfl rfl rfl ksizeB_36_1_true rfl rfl (by simp [Value.oneCell']) rfl (by simp only [List.length_cons, List.length_nil] <;> omega) (fun _ => rfl) hx6 rfl rfl (as6_spec hz12) rfl ?_
  refine TO.code ?_
  refine TC.k ?_
  refine TC.region ?_
  refine TO.s rfl rfl rfl (StepS.move rfl) ?_
  refine TO.s rfl rfl rfl (StepS.nilc rfl) ?_
  refine TO.s rfl rfl rfl (StepS.fld rfl kfieldB_155_5_5_true) ?_
  obtain ⟨x13, hx14, hm⟩ := bind_some hm
  refine TO.s rfl rfl rfl (StepS.ldD (i := a1) (sz := 8) (k := 5) [h0_1, u0_1] [h0_2] (f := cTiibiiu32iii) (xs := tl6 z11) (y := x13) rfl (Ent.at 0 rfl) kscalB_3_true rfl (by simp only [List.length_cons, List.length_nil] <;> omega) (fun _ => rfl) hx14 rfl) ?_
  refine TO.s rfl rfl rfl (StepS.ari rfl rfl rfl) ?_
  refine TO.s rfl rfl rfl (StepS.nilc rfl) ?_
  refine TO.s rfl rfl rfl (StepS.fld rfl kfieldB_155_5_5_true) ?_
  obtain ⟨x15, hx16, hm⟩ := bind_some hm
  obtain ⟨z17, hz18, hm⟩ := bind_some hm
  refine TO.stD (i := a1) (sz := 8) (j := 5) (us := [I (w64 (x13.2.2.2.2.2.1 + 1))]) (cs' := [h0_1, u0_1, I z17.1.1, I z17.1.2.1, .bool z17.1.2.2.1, I z17.1.2.2.2.1, U z17.1.2.2.2.2.1, I z17.1.2.2.2.2.2.1, I z17.1.2.2.2.2.2.2.1, I z17.1.2.2.2.2.2.2.2, I z17.2.1.1, I z17.2.1.2.1, .bool z17.2.1.2.2.1, I z17.2.1.2.2.2.1, U z17.2.1.2.2.2.2.1, I z17.2.1.2.2.2.2.2.1, I z17.2.1.2.2.2.2.2.2.1, I z17.2.1.2.2.2.2.2.2.2, I z17.2.2.1.1, I z17.2.2.1.2.1, .bool z17.2.2.1.2.2.1, I z17.2.2.1.2.2.2.1, U z17.2.2.1.2.2.2.2.1, I z17.2.2.1.2.2.2.2.2.1, I z17.2.2.1.2.2.2.2.2.2.1, I z17.2.2.1.2.2.2.2.2.2.2, I z17.2.2.2.1.1, I z17.2.2.2.1.2.1, .bool z17.2.2.2.1.2.2.1, I z17.2.2.2.1.2.2.2.1, U z17.2.2.2.1.2.2.2.2.1, I z17.2.2.2.1.2.2.2.2.2.1, I z17.2.2.2.1.2.2.2.2.2.2.1, I z17.2.2.2.1.2.2.2.2.2.2.2, I z17.2.2.2.2.1.1, I z17.2.2.2.2.1.2.1, .bool z17.2.2.2.2.1.2.2.1, I z17.2.2.2.2.1.2.2.2.1, U z17.2.2.2.2.1.2.2.2.2.1, I z17.2.2.2.2.1.2.2.2.2.2.1, I z17.2.2.2.2.1.2.2.2.2.2.2.1, I z17.2.2.2.2.1.2.2.2.2.2.2.2, I z17.2.2.2.2.2.1, I z17.2.2.2.2.2.2.1, .bool z17.2.2.2.2.2.2.2.1, I z17.2.2.2.2.2.2.2.2.1, U z17.2.2.2.2.2.2.2.2.2.1, I z17.2.2.2.2.2.2.2.2.2.2.1, I z17.2.2.2.2.2.2.2.2.2.2.2.1, I z17.2.2.2.2.2.2.2.2.2.2.2.2, h0_2]) 0 [h0_1, u0_1] [h0_2] (f := cTiibiiu32iii) (xs := tl6 z11) (xs' := tl6 z17) (y0 := x15) (y1 := (x15.1, x15.2.1, x15.2.2.1, x15.2.2.2.1, x15.2.2.2.2.1, w64 (x13.2.2.2.2.2.1 + 1), (x15.2.2.2.2.2.2.1, x15.2.2.2.2.2.2.2))) rfl rfl rfl ksizeB_3_1_true rfl rfl (by simp [Value.oneCell']) rfl (by simp only [List.length_cons, List.length_nil] <;> omega) (fun _ => rfl) hx16 rfl rfl (as6_spec hz18) rfl ?_
  refine TO.code ?_
  refine TC.k ?_
  obtain ⟨⟨y19, z20⟩, hj21, hm⟩ := bind_some hm
  first | refine TC.cutM (fun a w => Mid 157 B [(0, .pointer (some ⟨b0_, 0, none⟩)), (1, I a1), (3, I a3), (8, .pointer (some ⟨b0_, 0 + 2 + a1.toNat * 8, none⟩))] (Bx b0_ 158 [h0_1, u0_1, I z20.1.1, I z20.1.2.1, .bool z20.1.2.2.1, I z20.1.2.2.2.1, U z20.1.2.2.2.2.1, I z20.1.2.2.2.2.2.1, I z20.1.2.2.2.2.2.2.1, I z20.1.2.2.2.2.2.2.2, I z20.2.1.1, I z20.2.1.2.1, .bool z20.2.1.2.2.1, I z20.2.1.2.2.2.1, U z20.2.1.2.2.2.2.1, I z20.2.1.2.2.2.2.2.1, I z20.2.1.2.2.2.2.2.2.1, I z20.2.1.2.2.2.2.2.2.2, I z20.2.2.1.1, I z20.2.2.1.2.1, .bool z20.2.2.1.2.2.1, I z20.2.2.1.2.2.2.1, U z20.2.2.1.2.2.2.2.1, I z20.2.2.1.2.2.2.2.2.1, I z20.2.2.1.2.2.2.2.2.2.1, I z20.2.2.1.2.2.2.2.2.2.2, I z20.2.2.2.1.1, I z20.2.2.2.1.2.1, .bool z20.2.2.2.1.2.2.1, I z20.2.2.2.1.2.2.2.1, U z20.2.2.2.1.2.2.2.2.1, I z20.2.2.2.1.2.2.2.2.2.1, I z20.2.2.2.1.2.2.2.2.2.2.1, I z20.2.2.2.1.2.2.2.2.2.2.2, I z20.2.2.2.2.1.1, I z20.2.2.2.2.1.2.1, .bool z20.2.2.2.2.1.2.2.1, I z20.2.2.2.2.1.2.2.2.1, U z20.2.2.2.2.1.2.2.2.2.1, I z20.2.2.2.2.1.2.2.2.2.2.1, I z20.2.2.2.2.1.2.2.2.2.2.2.1, I z20.2.2.2.2.1.2.2.2.2.2.2.2, I z20.2.2.2.2.2.1, I z20.2.2.2.2.2.2.1, .bool z20.2.2.2.2.2.2.2.1, I z20.2.2.2.2.2.2.2.2.1, U z20.2.2.2.2.2.2.2.2.2.1, I z20.2.2.2.2.2.2.2.2.2.2.1, I z20.2.2.2.2.2.2.2.2.2.2.2.1, I z20.2.2.2.2.2.2.2.2.2.2.2.2, h0_2] :: OwnS 153 2 h0_1 (y19.map cTii) :: OwnS 161 5 h0_2 (a0.2.2.map cTiiibi) :: L) a w) ?_ ?_ | refine TC.cutX (fun a w => Mid 157 B [(0, .pointer (some ⟨b0_, 0, none⟩)), (1, I a1), (3, I a3), (8, .pointer (some ⟨b0_, 0 + 2 + a1.toNat * 8, none⟩))] (Bx b0_ 158 [h0_1, u0_1, I z20.1.1, I z20.1.2.1, .bool z20.1.2.2.1, I z20.1.2.2.2.1, U z20.1.2.2.2.2.1, I z20.1.2.2.2.2.2.1, I z20.1.2.2.2.2.2.2.1, I z20.1.2.2.2.2.2.2.2, I z20.2.1.1, I z20.2.1.2.1, .bool z20.2.1.2.2.1, I z20.2.1.2.2.2.1, U z20.2.1.2.2.2.2.1, I z20.2.1.2.2.2.2.2.1, I z20.2.1.2.2.2.2.2.2.1, I z20.2.1.2.2.2.2.2.2.2, I z20.2.2.1.1, I z20.2.2.1.2.1, .bool z20.2.2.1.2.2.1, I z20.2.2.1.2.2.2.1, U z20.2.2.1.2.2.2.2.1, I z20.2.2.1.2.2.2.2.2.1, I z20.2.2.1.2.2.2.2.2.2.1, I z20.2.2.1.2.2.2.2.2.2.2, I z20.2.2.2.1.1, I z20.2.2.2.1.2.1, .bool z20.2.2.2.1.2.2.1, I z20.2.2.2.1.2.2.2.1, U z20.2.2.2.1.2.2.2.2.1, I z20.2.2.2.1.2.2.2.2.2.1, I z20.2.2.2.1.2.2.2.2.2.2.1, I z20.2.2.2.1.2.2.2.2.2.2.2, I z20.2.2.2.2.1.1, I z20.2.2.2.2.1.2.1, .bool z20.2.2.2.2.1.2.2.1, I z20.2.2.2.2.1.2.2.2.1, U z20.2.2.2.2.1.2.2.2.2.1, I z20.2.2.2.2.1.2.2.2.2.2.1, I z20.2.2.2.2.1.2.2.2.2.2.2.1, I z20.2.2.2.2.1.2.2.2.2.2.2.2, I z20.2.2.2.2.2.1, I z20.2.2.2.2.2.2.1, .bool z20.2.2.2.2.2.2.2.1, I z20.2.2.2.2.2.2.2.2.1, U z20.2.2.2.2.2.2.2.2.2.1, I z20.2.2.2.2.2.2.2.2.2.2.1, I z20.2.2.2.2.2.2.2.2.2.2.2.1, I z20.2.2.2.2.2.2.2.2.2.2.2.2, h0_2] :: OwnS 153 2 h0_1 (y19.map cTii) :: OwnS 161 5 h0_2 (a0.2.2.map cTiiibi) :: L) a w) ?_ ?_
  · refine TC.block ?_
    refine TC.k ?_
    refine TC.region_still kfollows_mixedOrders_true (by kernel_rfl) ?_
    refine TS.s rfl rfl rfl (StepS.move rfl) ?_
    refine TS.s rfl rfl rfl (StepS.nilc rfl) ?_
    refine TS.s rfl rfl rfl (StepS.fld rfl kfieldB_155_0_0_true) ?_
    obtain ⟨x22, hx23, hj21⟩ := bind_some hj21
    refine TS.s rfl rfl rfl (StepS.ldD (i := a1) (sz := 8) (k := 0) [h0_1, u0_1] [h0_2] (f := cTiibiiu32iii) (xs := tl6 z17) (y := x22) rfl (Ent.at 0 rfl) kscalB_3_true rfl (by simp only [List.length_cons, List.length_nil] <;> omega) (fun _ => rfl) hx23 rfl) ?_
    refine TS.s rfl rfl rfl (StepS.cmp rfl rfl rfl) ?_
    refine TS.s rfl rfl rfl (StepS.move rfl) ?_
    obtain ⟨b25, hj26, hj21⟩ := bind_some hj21
    refine TS.mid1 11 54 (.bool b25) ?_ ?_
    · refine bcase ((x22.1 == 1)) (fun hb24 => ?_) (fun hb24 => ?_)
      · replace hj26 := cond_t hb24 hj26
        refine TS.sw rfl rfl rfl hb24 rfl rfl (StepS.move rfl) ?_
        refine TS.sw rfl rfl rfl hb24 rfl rfl (StepS.nilc rfl) ?_
        refine TS.sw rfl rfl rfl hb24 rfl rfl (StepS.ptrf rfl kfieldB_153_0_0_true) ?_
        refine TS.sw rfl rfl rfl hb24 rfl rfl (StepS.ld1 rfl (OwnS.rd (Ent.at 1 rfl)) kscalB_3_true rfl (idxm hx8) rfl) ?_
        refine TS.sw rfl rfl rfl hb24 rfl rfl (StepS.move rfl) ?_
        refine TS.sw rfl rfl rfl hb24 rfl rfl (StepS.nilc rfl) ?_
        refine TS.sw rfl rfl rfl hb24 rfl rfl (StepS.fld rfl kfieldB_155_6_6_true) ?_
        refine TS.sw rfl rfl rfl hb24 rfl rfl (StepS.fld rfl kfieldB_153_0_0_true) ?_
        obtain ⟨x27, hx28, hj26⟩ := bind_some hj26
        refine TS.sw rfl rfl rfl hb24 rfl rfl (StepS.ldD (i := a1) (sz := 8) (k := 6) [h0_1, u0_1] [h0_2] (f := cTiibiiu32iii) (xs := tl6 z17) (y := x27) rfl (Ent.at 0 rfl) kscalB_3_true rfl (by simp only [List.length_cons, List.length_nil] <;> omega) (fun _ => rfl) hx28 rfl) ?_
        refine TS.sw rfl rfl rfl hb24 rfl rfl (StepS.cmp rfl rfl rfl) ?_
        cases hj26
        refine TS.s rfl rfl rfl (StepS.pickT rfl hb24 rfl) ?_
        exact TS.up1 11 0 rfl rfl rfl rfl
      · replace hj26 := cond_f hb24 hj26
        cases hj26
        refine TS.skip rfl rfl rfl (skipF hb24) rfl rfl ?_
        refine TS.skip rfl rfl rfl (skipF hb24) rfl rfl ?_
        refine TS.skip rfl rfl rfl (skipF hb24) rfl rfl ?_
        refine TS.skip rfl rfl rfl (skipF hb24) rfl rfl ?_
        refine TS.skip rfl rfl rfl (skipF hb24) rfl rfl ?_
        refine TS.skip rfl rfl rfl (skipF hb24) rfl rfl ?_
        refine TS.skip rfl rfl rfl (skipF hb24) rfl rfl ?_
        refine TS.skip rfl rfl rfl (skipF hb24) rfl rfl ?_
        refine TS.skip rfl rfl rfl (skipF hb24) rfl rfl ?_
        refine TS.skip rfl rfl rfl (skipF hb24) rfl rfl ?_
        refine TS.s rfl rfl rfl (StepS.pickF rfl hb24 rfl) ?_
        exact TS.up1 11 0 rfl rfl rfl rfl
    refine TS.s rfl rfl rfl (StepS.assign rfl) ?_
    refine TS.code ?_
    refine TC.cond rfl (fun hc29 => ?_) (fun hc29 => ?_)
    · replace hj21 := cond_t hc29 hj21
      refine TC.region ?_
      refine TO.s rfl rfl rfl (StepS.move rfl) ?_
      refine TO.s rfl rfl rfl (StepS.move rfl) ?_
      refine TO.s rfl rfl rfl (StepS.nilc rfl) ?_
      refine TO.s rfl rfl rfl (StepS.ldE rfl (OwnS.rd (Ent.at 1 rfl)) kaggB_153_2_true rfl (idxm hx8)) ?_
      refine TO.s rfl rfl rfl (StepS.nilc rfl) ?_
      refine TO.s rfl rfl rfl (StepS.fld rfl kfieldB_155_6_6_true) ?_
      obtain ⟨x30, hx31, hj21⟩ := bind_some hj21
      obtain ⟨z32, hz33, hj21⟩ := bind_some hj21
      refine TO.stD (i := a1) (sz := 8) (j := 6) (us := [I x7.1, I x7.2]) (cs' := [h0_1, u0_1, I z32.1.1, I z32.1.2.1, .bool z32.1.2.2.1, I z32.1.2.2.2.1, U z32.1.2.2.2.2.1, I z32.1.2.2.2.2.2.1, I z32.1.2.2.2.2.2.2.1, I z32.1.2.2.2.2.2.2.2, I z32.2.1.1, I z32.2.1.2.1, .bool z32.2.1.2.2.1, I z32.2.1.2.2.2.1, U z32.2.1.2.2.2.2.1, I z32.2.1.2.2.2.2.2.1, I z32.2.1.2.2.2.2.2.2.1, I z32.2.1.2.2.2.2.2.2.2, I z32.2.2.1.1, I z32.2.2.1.2.1, .bool z32.2.2.1.2.2.1, I z32.2.2.1.2.2.2.1, U z32.2.2.1.2.2.2.2.1, I z32.2.2.1.2.2.2.2.2.1, I z32.2.2.1.2.2.2.2.2.2.1, I z32.2.2.1.2.2.2.2.2.2.2, I z32.2.2.2.1.1, I z32.2.2.2.1.2.1, .bool z32.2.2.2.1.2.2.1, I z32.2.2.2.1.2.2.2.1, U z32.2.2.2.1.2.2.2.2.1, I z32.2.2.2.1.2.2.2.2.2.1, I z32.2.2.2.1.2.2.2.2.2.2.1, I z32.2.2.2.1.2.2.2.2.2.2.2, I z32.2.2.2.2.1.1, I z32.2.2.2.2.1.2.1, .bool z32.2.2.2.2.1.2.2.1, I z32.2.2.2.2.1.2.2.2.1, U z32.2.2.2.2.1.2.2.2.2.1, I z32.2.2.2.2.1.2.2.2.2.2.1, I z32.2.2.2.2.1.2.2.2.2.2.2.1, I z32.2.2.2.2.1.2.2.2.2.2.2.2, I z32.2.2.2.2.2.1, I z32.2.2.2.2.2.2.1, .bool z32.2.2.2.2.2.2.2.1, I z32.2.2.2.2.2.2.2.2.1, U z32.2.2.2.2.2.2.2.2.2.1, I z32.2.2.2.2.2.2.2.2.2.2.1, I z32.2.2.2.2.2.2.2.2.2.2.2.1, I z32.2.2.2.2.2.2.2.2.2.2.2.2, h0_2]) 0 [h0_1, u0_1] [h0_2] (f := cTiibiiu32iii) (xs := tl6 z17) (xs' := tl6 z32) (y0 := x30) (y1 := (x30.1, x30.2.1, x30.2.2.1, x30.2.2.2.1, x30.2.2.2.2.1, x30.2.2.2.2.2.1, (x7.1, x7.2))) rfl rfl rfl ksizeB_153_2_true rfl rfl (by simp [Value.oneCell']) rfl (by simp only [List.length_cons, List.length_nil] <;> omega) (fun _ => rfl) hx31 rfl rfl (as6_spec hz33) rfl ?_
      cases hj21
      refine TO.nil fun a w e s => ?_
      exact ⟨e.sub (lk_of_allIn ⟨rfl, rfl, rfl, rfl, trivial⟩), s⟩
    · replace hj21 := cond_f hc29 hj21
      refine TC.k ?_
      refine TC.region_still kfollows_mixedOrders_true (by kernel_rfl) ?_
      refine TS.s rfl rfl rfl (StepS.move rfl) ?_
      refine TS.s rfl rfl rfl (StepS.nilc rfl) ?_
      refine TS.s rfl rfl rfl (StepS.fld rfl kfieldB_155_0_0_true) ?_
      obtain ⟨x34, hx35, hj21⟩ := bind_some hj21
      refine TS.s rfl rfl rfl (StepS.ldD (i := a1) (sz := 8) (k := 0) [h0_1, u0_1] [h0_2] (f := cTiibiiu32iii) (xs := tl6 z17) (y := x34) rfl (Ent.at 0 rfl) kscalB_3_true rfl (by simp only [List.length_cons, List.length_nil] <;> omega) (fun _ => rfl) hx35 rfl) ?_
      refine TS.s rfl rfl rfl (StepS.cmp rfl rfl rfl) ?_
      refine TS.s rfl rfl rfl (StepS.move rfl) ?_
      obtain ⟨b37, hj38, hj21⟩ := bind_some hj21
      refine TS.mid1 11 78 (.bool b37) ?_ ?_
      · refine bcase ((x34.1 == 2)) (fun hb36 => ?_) (fun hb36 => ?_)
        · replace hj38 := cond_t hb36 hj38
          refine TS.sw rfl rfl rfl hb36 rfl rfl (StepS.move rfl) ?_
          refine TS.sw rfl rfl rfl hb36 rfl rfl (StepS.nilc rfl) ?_
          refine TS.sw rfl rfl rfl hb36 rfl rfl (StepS.fld rfl kfieldB_155_6_6_true) ?_
          refine TS.sw rfl rfl rfl hb36 rfl rfl (StepS.fld rfl kfieldB_153_0_0_true) ?_
          obtain ⟨x39, hx40, hj38⟩ := bind_some hj38
          refine TS.sw rfl rfl rfl hb36 rfl rfl (StepS.ldD (i := a1) (sz := 8) (k := 6) [h0_1, u0_1] [h0_2] (f := cTiibiiu32iii) (xs := tl6 z17) (y := x39) rfl (Ent.at 0 rfl) kscalB_3_true rfl (by simp only [List.length_cons, List.length_nil] <;> omega) (fun _ => rfl) hx40 rfl) ?_
          refine TS.sw rfl rfl rfl hb36 rfl rfl (StepS.move rfl) ?_
          refine TS.sw rfl rfl rfl hb36 rfl rfl (StepS.nilc rfl) ?_
          refine TS.sw rfl rfl rfl hb36 rfl rfl (StepS.ptrf rfl kfieldB_153_0_0_true) ?_
          refine TS.sw rfl rfl rfl hb36 rfl rfl (StepS.ld1 rfl (OwnS.rd (Ent.at 1 rfl)) kscalB_3_true rfl (idxm hx8) rfl) ?_
          refine TS.sw rfl rfl rfl hb36 rfl rfl (StepS.cmp rfl rfl rfl) ?_
          cases hj38
          refine TS.s rfl rfl rfl (StepS.pickT rfl hb36 rfl) ?_
          exact TS.up1 11 0 rfl rfl rfl rfl
        · replace hj38 := cond_f hb36 hj38
          cases hj38
          refine TS.skip rfl rfl rfl (skipF hb36) rfl rfl ?_
          refine TS.skip rfl rfl rfl (skipF hb36) rfl rfl ?_
          refine TS.skip rfl rfl rfl (skipF hb36) rfl rfl ?_
          refine TS.skip rfl rfl rfl (skipF hb36) rfl rfl ?_
          refine TS.skip rfl rfl rfl (skipF hb36) rfl rfl ?_
          refine TS.skip rfl rfl rfl (skipF hb36) rfl rfl ?_
          refine TS.skip rfl rfl rfl (skipF hb36) rfl rfl ?_
          refine TS.skip rfl rfl rfl (skipF hb36) rfl rfl ?_
          refine TS.skip rfl rfl rfl (skipF hb36) rfl rfl ?_
          refine TS.skip rfl rfl rfl (skipF hb36) rfl rfl ?_
          refine TS.s rfl rfl rfl (StepS.pickF rfl hb36 rfl) ?_
          exact TS.up1 11 0 rfl rfl rfl rfl
      refine TS.s rfl rfl rfl (StepS.assign rfl) ?_
      refine TS.code ?_
      refine TC.cond rfl (fun hc41 => ?_) (fun hc41 => ?_)
      · replace hj21 := cond_t hc41 hj21
        refine TC.region ?_
        refine TO.s rfl rfl rfl (StepS.move rfl) ?_
        refine TO.s rfl rfl rfl (StepS.move rfl) ?_
        refine TO.s rfl rfl rfl (StepS.nilc rfl) ?_
        refine TO.s rfl rfl rfl (StepS.fld rfl kfieldB_155_6_6_true) ?_
        obtain ⟨x42, hx43, hj21⟩ := bind_some hj21
        refine TO.s rfl rfl rfl (StepS.ldDP (i := a1) (sz := 8) (k := 6) (ds := [I x42.2.2.2.2.2.2.1, I x42.2.2.2.2.2.2.2]) [h0_1, u0_1] [h0_2] (f := cTiibiiu32iii) (xs := tl6 z17) (y := x42) rfl (Ent.at 0 rfl) kaggB_153_2_true rfl (by simp only [List.length_cons, List.length_nil] <;> omega) (fun _ => rfl) hx43 (by decide) rfl) ?_
        refine TO.s rfl rfl rfl (StepS.nilc rfl) ?_
        refine TO.stO (i := a2.toNat) (off := 0) (us := [I x42.2.2.2.2.2.2.1, I x42.2.2.2.2.2.2.2]) 1 (x42.2.2.2.2.2.2.1, x42.2.2.2.2.2.2.2) rfl rfl rfl ksizeB_153_2_true rfl rfl rfl (idx_spec hx8).2 rfl (by simp [Value.oneCell']) rfl ?_
        cases hj21
        refine TO.nil fun a w e s => ?_
        exact ⟨e.sub (lk_of_allIn ⟨rfl, rfl, rfl, rfl, trivial⟩), s⟩
      · replace hj21 := cond_f hc41 hj21
        cases hj21
        refine TC.skip fun a w e s => ?_
        exact ⟨e.sub (lk_of_allIn ⟨rfl, rfl, rfl, rfl, trivial⟩), s⟩
  · intro a w ⟨he, hs⟩
    refine TC.use ?_ he hs
    refine TC.k ?_
    refine TC.k ?_
    refine TC.region_still kfollows_mixedOrders_true (by kernel_rfl) ?_
    refine TS.s rfl rfl rfl (StepS.move rfl) ?_
    refine TS.s rfl rfl rfl (StepS.nilc rfl) ?_
    refine TS.s rfl rfl rfl (StepS.fld rfl kfieldB_155_5_5_true) ?_
    obtain ⟨x44, hx45, hm⟩ := bind_some hm
    refine TS.s rfl rfl rfl (StepS.ldD (i := a1) (sz := 8) (k := 5) [h0_1, u0_1] [h0_2] (f := cTiibiiu32iii) (xs := tl6 z20) (y := x44) rfl (Ent.at 0 rfl) kscalB_3_true rfl (by simp only [List.length_cons, List.length_nil] <;> omega) (fun _ => rfl) hx45 rfl) ?_
    refine TS.s rfl rfl rfl (StepS.ari rfl rfl rfl) ?_
    refine TS.s rfl rfl rfl (StepS.move rfl) ?_
    refine TS.s rfl rfl rfl (StepS.nilc rfl) ?_
    refine TS.s rfl rfl rfl (StepS.fld rfl kfieldB_158_0_0_true) ?_
    refine TS.s rfl rfl rfl (StepS.ldB rfl (Ent.at 0 rfl) kscalB_151_true rfl) ?_
    refine TS.s rfl rfl rfl (StepS.lenm rfl (OwnS.rd (Ent.at 1 rfl)) ksliceB_151_153_2_true rfl) ?_
    refine TS.s rfl rfl rfl (StepS.cmp rfl rfl rfl) ?_
    refine TS.code ?_
    refine TC.cond rfl (fun hc46 => ?_) (fun hc46 => ?_)
    · replace hm := cond_t hc46 hm
      cases hm
      refine TC.ret fun a w e s => ?_
      refine FRet.mk0 (P := Try.prog) (fn := Try.f100) e rfl ?_
      refine ⟨_, _, rfl, ⟨(h0_1), (h0_2), rfl, rfl⟩, ?_⟩
      refine s.mono fun _ s => ?_
      replace s := Sat.front 2 rfl s
      replace s := Sat.front 2 rfl s
      replace s := Sat.front 2 rfl s
      exact s
    · replace hm := cond_f hc46 hm
      refine TC.skipk ?_
      refine TC.k ?_
      refine TC.region ?_
      refine TO.s rfl rfl rfl (StepS.move rfl) ?_
      refine TO.s rfl rfl rfl (StepS.move rfl) ?_
      refine TO.s rfl rfl rfl (StepS.nilc rfl) ?_
      refine TO.s rfl rfl rfl (StepS.fld rfl kfieldB_155_4_4_true) ?_
      obtain ⟨x47, hx48, hm⟩ := bind_some hm
      obtain ⟨z49, hz50, hm⟩ := bind_some hm
      refine TO.stD (i := a1) (sz := 8) (j := 4) (us := [U (0#32)]) (cs' := [h0_1, u0_1, I z49.1.1, I z49.1.2.1, .bool z49.1.2.2.1, I z49.1.2.2.2.1, U z49.1.2.2.2.2.1, I z49.1.2.2.2.2.2.1, I z49.1.2.2.2.2.2.2.1, I z49.1.2.2.2.2.2.2.2, I z49.2.1.1, I z49.2.1.2.1, .bool z49.2.1.2.2.1, I z49.2.1.2.2.2.1, U z49.2.1.2.2.2.2.1, I z49.2.1.2.2.2.2.2.1, I z49.2.1.2.2.2.2.2.2.1, I z49.2.1.2.2.2.2.2.2.2, I z49.2.2.1.1, I z49.2.2.1.2.1, .bool z49.2.2.1.2.2.1, I z49.2.2.1.2.2.2.1, U z49.2.2.1.2.2.2.2.1, I z49.2.2.1.2.2.2.2.2.1, I z49.2.2.1.2.2.2.2.2.2.1, I z49.2.2.1.2.2.2.2.2.2.2, I z49.2.2.2.1.1, I z49.2.2.2.1.2.1, .bool z49.2.2.2.1.2.2.1, I z49.2.2.2.1.2.2.2.1, U z49.2.2.2.1.2.2.2.2.1, I z49.2.2.2.1.2.2.2.2.2.1, I z49.2.2.2.1.2.2.2.2.2.2.1, I z49.2.2.2.1.2.2.2.2.2.2.2, I z49.2.2.2.2.1.1, I z49.2.2.2.2.1.2.1, .bool z49.2.2.2.2.1.2.2.1, I z49.2.2.2.2.1.2.2.2.1, U z49.2.2.2.2.1.2.2.2.2.1, I z49.2.2.2.2.1.2.2.2.2.2.1, I z49.2.2.2.2.1.2.2.2.2.2.2.1, I z49.2.2.2.2.1.2.2.2.2.2.2.2, I z49.2.2.2.2.2.1, I z49.2.2.2.2.2.2.1, .bool z49.2.2.2.2.2.2.2.1, I z49.2.2.2.2.2.2.2.2.1, U z49.2.2.2.2.2.2.2.2.2.1, I z49.2.2.2.2.2.2.2.2.2.2.1, I z49.2.2.2.2.2.2.2.2.2.2.2.1, I z49.2.2.2.2.2.2.2.2.2.2.2.2, h0_2]) 0 [h0_1, u0_1] [h0_2] (f := cTiibiiu32iii) (xs := tl6 z20) (xs' := tl6 z49) (y0 := x47) (y1 := (x47.1, x47.2.1, x47.2.2.1, x47.2.2.2.1, 0#32, x47.2.2.2.2.2.1, (x47.2.2.2.2.2.2.1, x47.2.2.2.2.2.2.2))) rfl rfl rfl ksizeB_36_1_true rfl rfl (by simp [Value.oneCell']) rfl (by simp only [List.length_cons, List.length_nil] <;> omega) (fun _ => rfl) hx48 rfl rfl (as6_spec hz50) rfl ?_
      refine TO.s rfl rfl rfl (StepS.nilc rfl) ?_
      refine TO.s rfl rfl rfl (StepS.fld rfl kfieldB_155_5_5_true) ?_
      obtain ⟨x51, hx52, hm⟩ := bind_some hm
      obtain ⟨z53, hz54, hm⟩ := bind_some hm
      refine TO.stD (i := a1) (sz := 8) (j := 5) (us := [I 0]) (cs' := [h0_1, u0_1, I z53.1.1, I z53.1.2.1, .bool z53.1.2.2.1, I z53.1.2.2.2.1, U z53.1.2.2.2.2.1, I z53.1.2.2.2.2.2.1, I z53.1.2.2.2.2.2.2.1, I z53.1.2.2.2.2.2.2.2, I z53.2.1.1, I z53.2.1.2.1, .bool z53.2.1.2.2.1, I z53.2.1.2.2.2.1, U z53.2.1.2.2.2.2.1, I z53.2.1.2.2.2.2.2.1, I z53.2.1.2.2.2.2.2.2.1, I z53.2.1.2.2.2.2.2.2.2, I z53.2.2.1.1, I z53.2.2.1.2.1, .bool z53.2.2.1.2.2.1, I z53.2.2.1.2.2.2.1, U z53.2.2.1.2.2.2.2.1, I z53.2.2.1.2.2.2.2.2.1, I z53.2.2.1.2.2.2.2.2.2.1, I z53.2.2.1.2.2.2.2.2.2.2, I z53.2.2.2.1.1, I z53.2.2.2.1.2.1, .bool z53.2.2.2.1.2.2.1, I z53.2.2.2.1.2.2.2.1, U z53.2.2.2.1.2.2.2.2.1, I z53.2.2.2.1.2.2.2.2.2.1, I z53.2.2.2.1.2.2.2.2.2.2.1, I z53.2.2.2.1.2.2.2.2.2.2.2, I z53.2.2.2.2.1.1, I z53.2.2.2.2.1.2.1, .bool z53.2.2.2.2.1.2.2.1, I z53.2.2.2.2.1.2.2.2.1, U z53.2.2.2.2.1.2.2.2.2.1, I z53.2.2.2.2.1.2.2.2.2.2.1, I z53.2.2.2.2.1.2.2.2.2.2.2.1, I z53.2.2.2.2.1.2.2.2.2.2.2.2, I z53.2.2.2.2.2.1, I z53.2.2.2.2.2.2.1, .bool z53.2.2.2.2.2.2.2.1, I z53.2.2.2.2.2.2.2.2.1, U z53.2.2.2.2.2.2.2.2.2.1, I z53.2.2.2.2.2.2.2.2.2.2.1, I z53.2.2.2.2.2.2.2.2.2.2.2.1, I z53.2.2.2.2.2.2.2.2.2.2.2.2, h0_2]) 0 [h0_1, u0_1] [h0_2] (f := cTiibiiu32iii) (xs := tl6 z49) (xs' := tl6 z53) (y0 := x51) (y1 := (x51.1, x51.2.1, x51.2.2.1, x51.2.2.2.1, x51.2.2.2.2.1, 0, (x51.2.2.2.2.2.2.1, x51.2.2.2.2.2.2.2))) rfl rfl rfl ksizeB_3_1_true rfl rfl (by simp [Value.oneCell']) rfl (by simp only [List.length_cons, List.length_nil] <;> omega) (fun _ => rfl) hx52 rfl rfl (as6_spec hz54) rfl ?_
      refine TO.code ?_
      refine TC.k ?_
      refine TC.k ?_
      refine TC.region ?_
      refine TO.s rfl rfl rfl (StepS.move rfl) ?_
      refine TO.s rfl rfl rfl (StepS.nilc rfl) ?_
      refine TO.s rfl rfl rfl (StepS.fld rfl kfieldB_155_0_0_true) ?_
      obtain ⟨x55, hx56, hm⟩ := bind_some hm
      refine TO.s rfl rfl rfl (StepS.ldD (i := a1) (sz := 8) (k := 0) [h0_1, u0_1] [h0_2] (f := cTiibiiu32iii) (xs := tl6 z53) (y := x55) rfl (Ent.at 0 rfl) kscalB_3_true rfl (by simp only [List.length_cons, List.length_nil] <;> omega) (fun _ => rfl) hx56 rfl) ?_
      refine TO.s rfl rfl rfl (StepS.cmp rfl rfl rfl) ?_
      refine TO.code ?_
      refine TC.cond rfl (fun hc57 => ?_) (fun hc57 => ?_)
      · replace hm := cond_t hc57 hm
        refine TC.k ?_
        refine TC.region ?_
        refine TO.s rfl rfl rfl (StepS.move rfl) ?_
        refine TO.s rfl rfl rfl (StepS.nilc rfl) ?_
        refine TO.s rfl rfl rfl (StepS.fld rfl kfieldB_155_0_0_true) ?_
        obtain ⟨x58, hx59, hm⟩ := bind_some hm
        obtain ⟨z60, hz61, hm⟩ := bind_some hm
        refine TO.stD (i := a1) (sz := 8) (j := 0) (us := [I 2]) (cs' := [h0_1, u0_1, I z60.1.1, I z60.1.2.1, .bool z60.1.2.2.1, I z60.1.2.2.2.1, U z60.1.2.2.2.2.1, I z60.1.2.2.2.2.2.1, I z60.1.2.2.2.2.2.2.1, I z60.1.2.2.2.2.2.2.2, I z60.2.1.1, I z60.2.1.2.1, .bool z60.2.1.2.2.1, I z60.2.1.2.2.2.1, U z60.2.1.2.2.2.2.1, I z60.2.1.2.2.2.2.2.1, I z60.2.1.2.2.2.2.2.2.1, I z60.2.1.2.2.2.2.2.2.2, I z60.2.2.1.1, I z60.2.2.1.2.1, .bool z60.2.2.1.2.2.1, I z60.2.2.1.2.2.2.1, U z60.2.2.1.2.2.2.2.1, I z60.2.2.1.2.2.2.2.2.1, I z60.2.2.1.2.2.2.2.2.2.1, I z60.2.2.1.2.2.2.2.2.2.2, I z60.2.2.2.1.1, I z60.2.2.2.1.2.1, .bool z60.2.2.2.1.2.2.1, I z60.2.2.2.1.2.2.2.1, U z60.2.2.2.1.2.2.2.2.1, I z60.2.2.2.1.2.2.2.2.2.1, I z60.2.2.2.1.2.2.2.2.2.2.1, I z60.2.2.2.1.2.2.2.2.2.2.2, I z60.2.2.2.2.1.1, I z60.2.2.2.2.1.2.1, .bool z60.2.2.2.2.1.2.2.1, I z60.2.2.2.2.1.2.2.2.1, U z60.2.2.2.2.1.2.2.2.2.1, I z60.2.2.2.2.1.2.2.2.2.2.1, I z60.2.2.2.2.1.2.2.2.2.2.2.1, I z60.2.2.2.2.1.2.2.2.2.2.2.2, I z60.2.2.2.2.2.1, I z60.2.2.2.2.2.2.1, .bool z60.2.2.2.2.2.2.2.1, I z60.2.2.2.2.2.2.2.2.1, U z60.2.2.2.2.2.2.2.2.2.1, I z60.2.2.2.2.2.2.2.2.2.2.1, I z60.2.2.2.2.2.2.2.2.2.2.2.1, I z60.2.2.2.2.2.2.2.2.2.2.2.2, h0_2]) 0 [h0_1, u0_1] [h0_2] (f := cTiibiiu32iii) (xs := tl6 z53) (xs' := tl6 z60) (y0 := x58) (y1 := (2, x58.2.1, x58.2.2.1, x58.2.2.2.1, x58.2.2.2.2.1, x58.2.2.2.2.2.1, (x58.2.2.2.2.2.2.1, x58.2.2.2.2.2.2.2))) rfl rfl rfl ksizeB_3_1_true rfl rfl (by simp [Value.oneCell']) rfl (by simp only [List.length_cons, List.length_nil] <;> omega) (fun _ => rfl) hx59 rfl rfl (as6_spec hz61) rfl ?_
        refine TO.code ?_
        refine TC.k ?_
        refine TC.k ?_
        refine TC.region ?_
        refine TO.s rfl rfl rfl (StepS.move rfl) ?_
        refine TO.s rfl rfl rfl (StepS.nilc rfl) ?_
        refine TO.s rfl rfl rfl (StepS.fld rfl kfieldB_155_2_2_true) ?_
        obtain ⟨x62, hx63, hm⟩ := bind_some hm
        refine TO.s rfl rfl rfl (StepS.ldD (i := a1) (sz := 8) (k := 2) [h0_1, u0_1] [h0_2] (f := cTiibiiu32iii) (xs := tl6 z60) (y := x62) rfl (Ent.at 0 rfl) kscalB_4_true rfl (by simp only [List.length_cons, List.length_nil] <;> omega) (fun _ => rfl) hx63 rfl) ?_
        refine TO.code ?_
        obtain ⟨z64, hj65, hm⟩ := bind_some hm
        first | refine TC.cutM (fun a w => Mid 157 B [] (Bx b0_ 158 [h0_1, u0_1, I z64.1.1, I z64.1.2.1, .bool z64.1.2.2.1, I z64.1.2.2.2.1, U z64.1.2.2.2.2.1, I z64.1.2.2.2.2.2.1, I z64.1.2.2.2.2.2.2.1, I z64.1.2.2.2.2.2.2.2, I z64.2.1.1, I z64.2.1.2.1, .bool z64.2.1.2.2.1, I z64.2.1.2.2.2.1, U z64.2.1.2.2.2.2.1, I z64.2.1.2.2.2.2.2.1, I z64.2.1.2.2.2.2.2.2.1, I z64.2.1.2.2.2.2.2.2.2, I z64.2.2.1.1, I z64.2.2.1.2.1, .bool z64.2.2.1.2.2.1, I z64.2.2.1.2.2.2.1, U z64.2.2.1.2.2.2.2.1, I z64.2.2.1.2.2.2.2.2.1, I z64.2.2.1.2.2.2.2.2.2.1, I z64.2.2.1.2.2.2.2.2.2.2, I z64.2.2.2.1.1, I z64.2.2.2.1.2.1, .bool z64.2.2.2.1.2.2.1, I z64.2.2.2.1.2.2.2.1, U z64.2.2.2.1.2.2.2.2.1, I z64.2.2.2.1.2.2.2.2.2.1, I z64.2.2.2.1.2.2.2.2.2.2.1, I z64.2.2.2.1.2.2.2.2.2.2.2, I z64.2.2.2.2.1.1, I z64.2.2.2.2.1.2.1, .bool z64.2.2.2.2.1.2.2.1, I z64.2.2.2.2.1.2.2.2.1, U z64.2.2.2.2.1.2.2.2.2.1, I z64.2.2.2.2.1.2.2.2.2.2.1, I z64.2.2.2.2.1.2.2.2.2.2.2.1, I z64.2.2.2.2.1.2.2.2.2.2.2.2, I z64.2.2.2.2.2.1, I z64.2.2.2.2.2.2.1, .bool z64.2.2.2.2.2.2.2.1, I z64.2.2.2.2.2.2.2.2.1, U z64.2.2.2.2.2.2.2.2.2.1, I z64.2.2.2.2.2.2.2.2.2.2.1, I z64.2.2.2.2.2.2.2.2.2.2.2.1, I z64.2.2.2.2.2.2.2.2.2.2.2.2, h0_2] :: OwnS 153 2 h0_1 (y19.map cTii) :: OwnS 161 5 h0_2 (a0.2.2.map cTiiibi) :: L) a w) ?_ ?_ | refine TC.cutX (fun a w => Mid 157 B [] (Bx b0_ 158 [h0_1, u0_1, I z64.1.1, I z64.1.2.1, .bool z64.1.2.2.1, I z64.1.2.2.2.1, U z64.1.2.2.2.2.1, I z64.1.2.2.2.2.2.1, I z64.1.2.2.2.2.2.2.1, I z64.1.2.2.2.2.2.2.2, I z64.2.1.1, I z64.2.1.2.1, .bool z64.2.1.2.2.1, I z64.2.1.2.2.2.1, U z64.2.1.2.2.2.2.1, I z64.2.1.2.2.2.2.2.1, I z64.2.1.2.2.2.2.2.2.1, I z64.2.1.2.2.2.2.2.2.2, I z64.2.2.1.1, I z64.2.2.1.2.1, .bool z64.2.2.1.2.2.1, I z64.2.2.1.2.2.2.1, U z64.2.2.1.2.2.2.2.1, I z64.2.2.1.2.2.2.2.2.1, I z64.2.2.1.2.2.2.2.2.2.1, I z64.2.2.1.2.2.2.2.2.2.2, I z64.2.2.2.1.1, I z64.2.2.2.1.2.1, .bool z64.2.2.2.1.2.2.1, I z64.2.2.2.1.2.2.2.1, U z64.2.2.2.1.2.2.2.2.1, I z64.2.2.2.1.2.2.2.2.2.1, I z64.2.2.2.1.2.2.2.2.2.2.1, I z64.2.2.2.1.2.2.2.2.2.2.2, I z64.2.2.2.2.1.1, I z64.2.2.2.2.1.2.1, .bool z64.2.2.2.2.1.2.2.1, I z64.2.2.2.2.1.2.2.2.1, U z64.2.2.2.2.1.2.2.2.2.1, I z64.2.2.2.2.1.2.2.2.2.2.1, I z64.2.2.2.2.1.2.2.2.2.2.2.1, I z64.2.2.2.2.1.2.2.2.2.2.2.2, I z64.2.2.2.2.2.1, I z64.2.2.2.2.2.2.1, .bool z64.2.2.2.2.2.2.2.1, I z64.2.2.2.2.2.2.2.2.1, U z64.2.2.2.2.2.2.2.2.2.1, I z64.2.2.2.2.2.2.2.2.2.2.1, I z64.2.2.2.2.2.2.2.2.2.2.2.1, I z64.2.2.2.2.2.2.2.2.2.2.2.2, h0_2] :: OwnS 153 2 h0_1 (y19.map cTii) :: OwnS 161 5 h0_2 (a0.2.2.map cTiiibi) :: L) a w) ?_ ?_
        · refine TC.cond rfl (fun hc66 => ?_) (fun hc66 => ?_)
          · replace hj65 := cond_t hc66 hj65
            refine TC.region_any (Bx b0_ 158 [h0_1, u0_1, I z60.1.1, I z60.1.2.1, .bool z60.1.2.2.1, I z60.1.2.2.2.1, U z60.1.2.2.2.2.1, I z60.1.2.2.2.2.2.1, I z60.1.2.2.2.2.2.2.1, I z60.1.2.2.2.2.2.2.2, I z60.2.1.1, I z60.2.1.2.1, .bool z60.2.1.2.2.1, I z60.2.1.2.2.2.1, U z60.2.1.2.2.2.2.1, I z60.2.1.2.2.2.2.2.1, I z60.2.1.2.2.2.2.2.2.1, I z60.2.1.2.2.2.2.2.2.2, I z60.2.2.1.1, I z60.2.2.1.2.1, .bool z60.2.2.1.2.2.1, I z60.2.2.1.2.2.2.1, U z60.2.2.1.2.2.2.2.1, I z60.2.2.1.2.2.2.2.2.1, I z60.2.2.1.2.2.2.2.2.2.1, I z60.2.2.1.2.2.2.2.2.2.2, I z60.2.2.2.1.1, I z60.2.2.2.1.2.1, .bool z60.2.2.2.1.2.2.1, I z60.2.2.2.1.2.2.2.1, U z60.2.2.2.1.2.2.2.2.1, I z60.2.2.2.1.2.2.2.2.2.1, I z60.2.2.2.1.2.2.2.2.2.2.1, I z60.2.2.2.1.2.2.2.2.2.2.2, I z60.2.2.2.2.1.1, I z60.2.2.2.2.1.2.1, .bool z60.2.2.2.2.1.2.2.1, I z60.2.2.2.2.1.2.2.2.1, U z60.2.2.2.2.1.2.2.2.2.1, I z60.2.2.2.2.1.2.2.2.2.2.1, I z60.2.2.2.2.1.2.2.2.2.2.2.1, I z60.2.2.2.2.1.2.2.2.2.2.2.2, I z60.2.2.2.2.2.1, I z60.2.2.2.2.2.2.1, .bool z60.2.2.2.2.2.2.2.1, I z60.2.2.2.2.2.2.2.2.1, U z60.2.2.2.2.2.2.2.2.2.1, I z60.2.2.2.2.2.2.2.2.2.2.1, I z60.2.2.2.2.2.2.2.2.2.2.2.1, I z60.2.2.2.2.2.2.2.2.2.2.2.2, h0_2] :: OwnS 153 2 h0_1 (y19.map cTii) :: OwnS 161 5 h0_2 (a0.2.2.map cTiiibi) :: L) 15 16 kfollows_mixedOrders_true rfl ?_
            refine TA.takeW 0 rfl rfl rfl rfl (StepS.move rfl) (by kernel_rfl) (by kernel_rfl) (by kernel_rfl) rfl (.inr (fun _ s => s)) ?_
            refine TA.takeW 1 rfl rfl rfl rfl (StepS.move rfl) (by kernel_rfl) (by kernel_rfl) (by kernel_rfl) rfl (.inr (fun _ s => s)) ?_
            refine TA.takeW 2 rfl rfl rfl rfl (StepS.nilc rfl) (by kernel_rfl) (by kernel_rfl) (by kernel_rfl) rfl (.inr (fun _ s => s)) ?_
            refine TA.takeW 3 rfl rfl rfl rfl (StepS.fld rfl kfieldB_155_6_6_true) (by kernel_rfl) (by kernel_rfl) (by kernel_rfl) rfl (.inr (fun _ s => s)) ?_
            refine TA.takeW 4 rfl rfl rfl rfl (StepS.fld rfl kfieldB_153_0_0_true) (by kernel_rfl) (by kernel_rfl) (by kernel_rfl) rfl (.inr (fun _ s => s)) ?_
            obtain ⟨xq67_5_1, hxq67_5_2, hj65⟩ := bind_some hj65
            refine TA.take 5 rfl rfl rfl rfl (StepS.ldD (i := a1) (sz := 8) (k := 6) [h0_1, u0_1] [h0_2] (f := cTiibiiu32iii) (xs := tl6 z60) (y := xq67_5_1) rfl (Ent.at 0 rfl) kscalB_3_true rfl (by simp only [List.length_cons, List.length_nil] <;> omega) (fun _ => rfl) hxq67_5_2 rfl) (by kernel_rfl) (by kernel_rfl) (by kernel_rfl) (by kernel_rfl) (by kernel_rfl) (fun _ s => s) ?_
            refine TA.takeW 6 rfl rfl rfl rfl (StepS.move rfl) (by kernel_rfl) (by kernel_rfl) (by kernel_rfl) rfl (.inr (fun _ s => s)) ?_
            refine TA.takeW 8 rfl rfl rfl rfl (StepS.move rfl) (by kernel_rfl) (by kernel_rfl) (by kernel_rfl) rfl (.inr (fun _ s => s)) ?_
            refine TA.takeW 9 rfl rfl rfl rfl (StepS.nilc rfl) (by kernel_rfl) (by kernel_rfl) (by kernel_rfl) rfl (.inr (fun _ s => s)) ?_
            refine TA.takeW 10 rfl rfl rfl rfl (StepS.fld rfl kfieldB_155_3_3_true) (by kernel_rfl) (by kernel_rfl) (by kernel_rfl) rfl (.inr (fun _ s => s)) ?_
            obtain ⟨xq67_11_1, hxq67_11_2, hj65⟩ := bind_some hj65
            refine TA.take 11 rfl rfl rfl rfl (StepS.ldD (i := a1) (sz := 8) (k := 3) [h0_1, u0_1] [h0_2] (f := cTiibiiu32iii) (xs := tl6 z60) (y := xq67_11_1) rfl (Ent.at 0 rfl) kscalB_3_true rfl (by simp only [List.length_cons, List.length_nil] <;> omega) (fun _ => rfl) hxq67_11_2 rfl) (by kernel_rfl) (by kernel_rfl) (by kernel_rfl) (by kernel_rfl) (by kernel_rfl) (fun _ s => s) ?_
            refine TA.all1 (i := 7) (by kernel_rfl) ?_
            refine TB.of rfl ?_
            obtain ⟨rq67_7_1, hcq67_7_2, hj65⟩ := bind_some hj65
            refine TO.q rfl rfl rfl (StepQ.call kcallB_133_true rfl rfl (fun _ st => C133  hcq67_7_2 st)) ?_
            refine TA.back (.inr (fun _ s => s)) ?_
            refine TA.asL (L' := (Bx b0_ 158 [h0_1, u0_1, I z60.1.1, I z60.1.2.1, .bool z60.1.2.2.1, I z60.1.2.2.2.1, U z60.1.2.2.2.2.1, I z60.1.2.2.2.2.2.1, I z60.1.2.2.2.2.2.2.1, I z60.1.2.2.2.2.2.2.2, I z60.2.1.1, I z60.2.1.2.1, .bool z60.2.1.2.2.1, I z60.2.1.2.2.2.1, U z60.2.1.2.2.2.2.1, I z60.2.1.2.2.2.2.2.1, I z60.2.1.2.2.2.2.2.2.1, I z60.2.1.2.2.2.2.2.2.2, I z60.2.2.1.1, I z60.2.2.1.2.1, .bool z60.2.2.1.2.2.1, I z60.2.2.1.2.2.2.1, U z60.2.2.1.2.2.2.2.1, I z60.2.2.1.2.2.2.2.2.1, I z60.2.2.1.2.2.2.2.2.2.1, I z60.2.2.1.2.2.2.2.2.2.2, I z60.2.2.2.1.1, I z60.2.2.2.1.2.1, .bool z60.2.2.2.1.2.2.1, I z60.2.2.2.1.2.2.2.1, U z60.2.2.2.1.2.2.2.2.1, I z60.2.2.2.1.2.2.2.2.2.1, I z60.2.2.2.1.2.2.2.2.2.2.1, I z60.2.2.2.1.2.2.2.2.2.2.2, I z60.2.2.2.2.1.1, I z60.2.2.2.2.1.2.1, .bool z60.2.2.2.2.1.2.2.1, I z60.2.2.2.2.1.2.2.2.1, U z60.2.2.2.2.1.2.2.2.2.1, I z60.2.2.2.2.1.2.2.2.2.2.1, I z60.2.2.2.2.1.2.2.2.2.2.2.1, I z60.2.2.2.2.1.2.2.2.2.2.2.2, I z60.2.2.2.2.2.1, I z60.2.2.2.2.2.2.1, .bool z60.2.2.2.2.2.2.2.1, I z60.2.2.2.2.2.2.2.2.1, U z60.2.2.2.2.2.2.2.2.2.1, I z60.2.2.2.2.2.2.2.2.2.2.1, I z60.2.2.2.2.2.2.2.2.2.2.2.1, I z60.2.2.2.2.2.2.2.2.2.2.2.2, h0_2] :: OwnS 153 2 h0_1 (y19.map cTii) :: OwnS 161 5 h0_2 (a0.2.2.map cTiiibi) :: L)) (listed' := #[true, true, true, true, true, true, true, true, true, true, true, true, false, false, false, false]) (by kernel_rfl) (by kernel_rfl) ?_
            refine TA.takeW 12 rfl rfl rfl rfl (StepS.build (cs := [I rq67_7_1, I xq67_11_1.2.2.2.1]) rfl (by kernel_rfl)) (by kernel_rfl) (by kernel_rfl) (by kernel_rfl) rfl (.inr (fun _ s => s)) ?_
            refine TA.takeW 13 rfl rfl rfl rfl (StepS.nilc rfl) (by kernel_rfl) (by kernel_rfl) (by kernel_rfl) rfl (.inr (fun _ s => s)) ?_
            refine TA.takeW 14 rfl rfl rfl rfl (StepS.fld rfl kfieldB_155_6_6_true) (by kernel_rfl) (by kernel_rfl) (by kernel_rfl) rfl (.inr (fun _ s => s)) ?_
            refine TA.all1 (i := 15) (by kernel_rfl) ?_
            refine TB.of rfl ?_
            obtain ⟨xq67_15_1, hxq67_15_2, hj65⟩ := bind_some hj65
            obtain ⟨zq67_15_3, hzq67_15_4, hj65⟩ := bind_some hj65
            refine TO.stD (i := a1) (sz := 8) (j := 6) (us := [I rq67_7_1, I xq67_11_1.2.2.2.1]) (cs' := [h0_1, u0_1, I zq67_15_3.1.1, I zq67_15_3.1.2.1, .bool zq67_15_3.1.2.2.1, I zq67_15_3.1.2.2.2.1, U zq67_15_3.1.2.2.2.2.1, I zq67_15_3.1.2.2.2.2.2.1, I zq67_15_3.1.2.2.2.2.2.2.1, I zq67_15_3.1.2.2.2.2.2.2.2, I zq67_15_3.2.1.1, I zq67_15_3.2.1.2.1, .bool zq67_15_3.2.1.2.2.1, I zq67_15_3.2.1.2.2.2.1, U zq67_15_3.2.1.2.2.2.2.1, I zq67_15_3.2.1.2.2.2.2.2.1, I zq67_15_3.2.1.2.2.2.2.2.2.1, I zq67_15_3.2.1.2.2.2.2.2.2.2, I zq67_15_3.2.2.1.1, I zq67_15_3.2.2.1.2.1, .bool zq67_15_3.2.2.1.2.2.1, I zq67_15_3.2.2.1.2.2.2.1, U zq67_15_3.2.2.1.2.2.2.2.1, I zq67_15_3.2.2.1.2.2.2.2.2.1, I zq67_15_3.2.2.1.2.2.2.2.2.2.1, I zq67_15_3.2.2.1.2.2.2.2.2.2.2, I zq67_15_3.2.2.2.1.1, I zq67_15_3.2.2.2.1.2.1, .bool zq67_15_3.2.2.2.1.2.2.1, I zq67_15_3.2.2.2.1.2.2.2.1, U zq67_15_3.2.2.2.1.2.2.2.2.1, I zq67_15_3.2.2.2.1.2.2.2.2.2.1, I zq67_15_3.2.2.2.1.2.2.2.2.2.2.1, I zq67_15_3.2.2.2.1.2.2.2.2.2.2.2, I zq67_15_3.2.2.2.2.1.1, I zq67_15_3.2.2.2.2.1.2.1, .bool zq67_15_3.2.2.2.2.1.2.2.1, I zq67_15_3.2.2.2.2.1.2.2.2.1, U zq67_15_3.2.2.2.2.1.2.2.2.2.1, I zq67_15_3.2.2.2.2.1.2.2.2.2.2.1, I zq67_15_3.2.2.2.2.1.2.2.2.2.2.2.1, I zq67_15_3.2.2.2.2.1.2.2.2.2.2.2.2, I zq67_15_3.2.2.2.2.2.1, I zq67_15_3.2.2.2.2.2.2.1, .bool zq67_15_3.2.2.2.2.2.2.2.1, I zq67_15_3.2.2.2.2.2.2.2.2.1, U zq67_15_3.2.2.2.2.2.2.2.2.2.1, I zq67_15_3.2.2.2.2.2.2.2.2.2.2.1, I zq67_15_3.2.2.2.2.2.2.2.2.2.2.2.1, I zq67_15_3.2.2.2.2.2.2.2.2.2.2.2.2, h0_2]) 0 [h0_1, u0_1] [h0_2] (f := cTiibiiu32iii) (xs := tl6 z60) (xs' := tl6 zq67_15_3) (y0 := xq67_15_1) (y1 := (xq67_15_1.1, xq67_15_1.2.1, xq67_15_1.2.2.1, xq67_15_1.2.2.2.1, xq67_15_1.2.2.2.2.1, xq67_15_1.2.2.2.2.2.1, (rq67_7_1, xq67_11_1.2.2.2.1))) rfl rfl rfl ksizeB_153_2_true rfl rfl (by simp [Value.oneCell']) rfl (by simp only [List.length_cons, List.length_nil] <;> omega) (fun _ => rfl) hxq67_15_2 rfl rfl (as6_spec hzq67_15_4) rfl ?_
            refine TA.back (.inl (by kernel_rfl)) ?_
            refine TA.asL (L' := (Bx b0_ 158 [h0_1, u0_1, I zq67_15_3.1.1, I zq67_15_3.1.2.1, .bool zq67_15_3.1.2.2.1, I zq67_15_3.1.2.2.2.1, U zq67_15_3.1.2.2.2.2.1, I zq67_15_3.1.2.2.2.2.2.1, I zq67_15_3.1.2.2.2.2.2.2.1, I zq67_15_3.1.2.2.2.2.2.2.2, I zq67_15_3.2.1.1, I zq67_15_3.2.1.2.1, .bool zq67_15_3.2.1.2.2.1, I zq67_15_3.2.1.2.2.2.1, U zq67_15_3.2.1.2.2.2.2.1, I zq67_15_3.2.1.2.2.2.2.2.1, I zq67_15_3.2.1.2.2.2.2.2.2.1, I zq67_15_3.2.1.2.2.2.2.2.2.2, I zq67_15_3.2.2.1.1, I zq67_15_3.2.2.1.2.1, .bool zq67_15_3.2.2.1.2.2.1, I zq67_15_3.2.2.1.2.2.2.1, U zq67_15_3.2.2.1.2.2.2.2.1, I zq67_15_3.2.2.1.2.2.2.2.2.1, I zq67_15_3.2.2.1.2.2.2.2.2.2.1, I zq67_15_3.2.2.1.2.2.2.2.2.2.2, I zq67_15_3.2.2.2.1.1, I zq67_15_3.2.2.2.1.2.1, .bool zq67_15_3.2.2.2.1.2.2.1, I zq67_15_3.2.2.2.1.2.2.2.1, U zq67_15_3.2.2.2.1.2.2.2.2.1, I zq67_15_3.2.2.2.1.2.2.2.2.2.1, I zq67_15_3.2.2.2.1.2.2.2.2.2.2.1, I zq67_15_3.2.2.2.1.2.2.2.2.2.2.2, I zq67_15_3.2.2.2.2.1.1, I zq67_15_3.2.2.2.2.1.2.1, .bool zq67_15_3.2.2.2.2.1.2.2.1, I zq67_15_3.2.2.2.2.1.2.2.2.1, U zq67_15_3.2.2.2.2.1.2.2.2.2.1, I zq67_15_3.2.2.2.2.1.2.2.2.2.2.1, I zq67_15_3.2.2.2.2.1.2.2.2.2.2.2.1, I zq67_15_3.2.2.2.2.1.2.2.2.2.2.2.2, I zq67_15_3.2.2.2.2.2.1, I zq67_15_3.2.2.2.2.2.2.1, .bool zq67_15_3.2.2.2.2.2.2.2.1, I zq67_15_3.2.2.2.2.2.2.2.2.1, U zq67_15_3.2.2.2.2.2.2.2.2.2.1, I zq67_15_3.2.2.2.2.2.2.2.2.2.2.1, I zq67_15_3.2.2.2.2.2.2.2.2.2.2.2.1, I zq67_15_3.2.2.2.2.2.2.2.2.2.2.2.2, h0_2] :: OwnS 153 2 h0_1 (y19.map cTii) :: OwnS 161 5 h0_2 (a0.2.2.map cTiiibi) :: L)) (listed' := #[true, true, true, true, true, true, true, true, true, true, true, true, true, true, true, true]) (by kernel_rfl) (by kernel_rfl) ?_
            cases hj65
            refine TA.nil (by kernel_rfl) fun a w e s => ?_
            exact ⟨e.sub (lk_of_allIn trivial), s⟩
          · replace hj65 := cond_f hc66 hj65
            cases hj65
            refine TC.skip fun a w e s => ?_
            exact ⟨e.sub (lk_of_allIn trivial), s⟩
        · intro a w ⟨he, hs⟩
          refine TC.use ?_ he hs
          cases hm
          refine TC.ret fun a w e s => ?_
          refine FRet.mk0 (P := Try.prog) (fn := Try.f100) e rfl ?_
          refine ⟨_, _, rfl, ⟨(h0_1), (h0_2), rfl, rfl⟩, ?_⟩
          refine s.mono fun _ s => ?_
          replace s := Sat.front 2 rfl s
          replace s := Sat.front 2 rfl s
          replace s := Sat.front 2 rfl s
          exact s
      · replace hm := cond_f hc57 hm
        refine TC.skipk ?_
        refine TC.k ?_
        refine TC.region ?_
        refine TO.s rfl rfl rfl (StepS.move rfl) ?_
        refine TO.s rfl rfl rfl (StepS.nilc rfl) ?_
        refine TO.s rfl rfl rfl (StepS.fld rfl kfieldB_155_0_0_true) ?_
        obtain ⟨x68, hx69, hm⟩ := bind_some hm
        obtain ⟨z70, hz71, hm⟩ := bind_some hm
        refine TO.stD (i := a1) (sz := 8) (j := 0) (us := [I 0]) (cs' := [h0_1, u0_1, I z70.1.1, I z70.1.2.1, .bool z70.1.2.2.1, I z70.1.2.2.2.1, U z70.1.2.2.2.2.1, I z70.1.2.2.2.2.2.1, I z70.1.2.2.2.2.2.2.1, I z70.1.2.2.2.2.2.2.2, I z70.2.1.1, I z70.2.1.2.1, .bool z70.2.1.2.2.1, I z70.2.1.2.2.2.1, U z70.2.1.2.2.2.2.1, I z70.2.1.2.2.2.2.2.1, I z70.2.1.2.2.2.2.2.2.1, I z70.2.1.2.2.2.2.2.2.2, I z70.2.2.1.1, I z70.2.2.1.2.1, .bool z70.2.2.1.2.2.1, I z70.2.2.1.2.2.2.1, U z70.2.2.1.2.2.2.2.1, I z70.2.2.1.2.2.2.2.2.1, I z70.2.2.1.2.2.2.2.2.2.1, I z70.2.2.1.2.2.2.2.2.2.2, I z70.2.2.2.1.1, I z70.2.2.2.1.2.1, .bool z70.2.2.2.1.2.2.1, I z70.2.2.2.1.2.2.2.1, U z70.2.2.2.1.2.2.2.2.1, I z70.2.2.2.1.2.2.2.2.2.1, I z70.2.2.2.1.2.2.2.2.2.2.1, I z70.2.2.2.1.2.2.2.2.2.2.2, I z70.2.2.2.2.1.1, I z70.2.2.2.2.1.2.1, .bool z70.2.2.2.2.1.2.2.1, I z70.2.2.2.2.1.2.2.2.1, U z70.2.2.2.2.1.2.2.2.2.1, I z70.2.2.2.2.1.2.2.2.2.2.1, I z70.2.2.2.2.1.2.2.2.2.2.2.1, I z70.2.2.2.2.1.2.2.2.2.2.2.2, I z70.2.2.2.2.2.1, I z70.2.2.2.2.2.2.1, .bool z70.2.2.2.2.2.2.2.1, I z70.2.2.2.2.2.2.2.2.1, U z70.2.2.2.2.2.2.2.2.2.1, I z70.2.2.2.2.2.2.2.2.2.2.1, I z70.2.2.2.2.2.2.2.2.2.2.2.1, I z70.2.2.2.2.2.2.2.2.2.2.2.2, h0_2]) 0 [h0_1, u0_1] [h0_2] (f := cTiibiiu32iii) (xs := tl6 z53) (xs' := tl6 z70) (y0 := x68) (y1 := (0, x68.2.1, x68.2.2.1, x68.2.2.2.1, x68.2.2.2.2.1, x68.2.2.2.2.2.1, (x68.2.2.2.2.2.2.1, x68.2.2.2.2.2.2.2))) rfl rfl rfl ksizeB_3_1_true rfl rfl (by simp [Value.oneCell']) rfl (by simp only [List.length_cons, List.length_nil] <;> omega) (fun _ => rfl) hx69 rfl rfl (as6_spec hz71) rfl ?_
        refine TO.code ?_
        refine TC.region_any (Bx b0_ 158 [h0_1, u0_1, I z70.1.1, I z70.1.2.1, .bool z70.1.2.2.1, I z70.1.2.2.2.1, U z70.1.2.2.2.2.1, I z70.1.2.2.2.2.2.1, I z70.1.2.2.2.2.2.2.1, I z70.1.2.2.2.2.2.2.2, I z70.2.1.1, I z70.2.1.2.1, .bool z70.2.1.2.2.1, I z70.2.1.2.2.2.1, U z70.2.1.2.2.2.2.1, I z70.2.1.2.2.2.2.2.1, I z70.2.1.2.2.2.2.2.2.1, I z70.2.1.2.2.2.2.2.2.2, I z70.2.2.1.1, I z70.2.2.1.2.1, .bool z70.2.2.1.2.2.1, I z70.2.2.1.2.2.2.1, U z70.2.2.1.2.2.2.2.1, I z70.2.2.1.2.2.2.2.2.1, I z70.2.2.1.2.2.2.2.2.2.1, I z70.2.2.1.2.2.2.2.2.2.2, I z70.2.2.2.1.1, I z70.2.2.2.1.2.1, .bool z70.2.2.2.1.2.2.1, I z70.2.2.2.1.2.2.2.1, U z70.2.2.2.1.2.2.2.2.1, I z70.2.2.2.1.2.2.2.2.2.1, I z70.2.2.2.1.2.2.2.2.2.2.1, I z70.2.2.2.1.2.2.2.2.2.2.2, I z70.2.2.2.2.1.1, I z70.2.2.2.2.1.2.1, .bool z70.2.2.2.2.1.2.2.1, I z70.2.2.2.2.1.2.2.2.1, U z70.2.2.2.2.1.2.2.2.2.1, I z70.2.2.2.2.1.2.2.2.2.2.1, I z70.2.2.2.2.1.2.2.2.2.2.2.1, I z70.2.2.2.2.1.2.2.2.2.2.2.2, I z70.2.2.2.2.2.1, I z70.2.2.2.2.2.2.1, .bool z70.2.2.2.2.2.2.2.1, I z70.2.2.2.2.2.2.2.2.1, U z70.2.2.2.2.2.2.2.2.2.1, I z70.2.2.2.2.2.2.2.2.2.2.1, I z70.2.2.2.2.2.2.2.2.2.2.2.1, I z70.2.2.2.2.2.2.2.2.2.2.2.2, h0_2] :: OwnS 153 2 h0_1 (y19.map cTii) :: L) 25 26 kfollows_mixedOrders_true rfl ?_
        refine TA.takeW 0 rfl rfl rfl rfl (StepS.move rfl) (by kernel_rfl) (by kernel_rfl) (by kernel_rfl) rfl (.inr (fun _ s => Sat.by [1, 1] 2 1 (by kernel_rfl) s)) ?_
        refine TA.takeW 1 rfl rfl rfl rfl (StepS.move rfl) (by kernel_rfl) (by kernel_rfl) (by kernel_rfl) rfl (.inr (fun _ s => Sat.by [1, 1] 2 1 (by kernel_rfl) s)) ?_
        refine TA.takeW 2 rfl rfl rfl rfl (StepS.nilc rfl) (by kernel_rfl) (by kernel_rfl) (by kernel_rfl) rfl (.inr (fun _ s => Sat.by [1, 1] 2 1 (by kernel_rfl) s)) ?_
        refine TA.takeW 3 rfl rfl rfl rfl (StepS.fld rfl kfieldB_158_3_50_true) (by kernel_rfl) (by kernel_rfl) (by kernel_rfl) rfl (.inr (fun _ s => Sat.by [1, 1] 2 1 (by kernel_rfl) s)) ?_
        refine TA.take 4 rfl rfl rfl rfl (StepS.ldB rfl (Ent.at 0 rfl) kscalB_67_true rfl) (by kernel_rfl) (by kernel_rfl) (by kernel_rfl) (by kernel_rfl) (by kernel_rfl) (fun _ s => Sat.by [1, 1] 2 1 (by kernel_rfl) s) ?_
        refine TA.takeW 5 rfl rfl rfl rfl (StepS.move rfl) (by kernel_rfl) (by kernel_rfl) (by kernel_rfl) rfl (.inr (fun _ s => Sat.by [1, 1] 2 1 (by kernel_rfl) s)) ?_
        refine TA.takeW 6 rfl rfl rfl rfl (StepS.move rfl) (by kernel_rfl) (by kernel_rfl) (by kernel_rfl) rfl (.inr (fun _ s => Sat.by [1, 1] 2 1 (by kernel_rfl) s)) ?_
        refine TA.takeW 7 rfl rfl rfl rfl (StepS.nilc rfl) (by kernel_rfl) (by kernel_rfl) (by kernel_rfl) rfl (.inr (fun _ s => Sat.by [1, 1] 2 1 (by kernel_rfl) s)) ?_
        refine TA.takeW 8 rfl rfl rfl rfl (StepS.fld rfl kfieldB_155_1_1_true) (by kernel_rfl) (by kernel_rfl) (by kernel_rfl) rfl (.inr (fun _ s => Sat.by [1, 1] 2 1 (by kernel_rfl) s)) ?_
        obtain ⟨xq72_9_1, hxq72_9_2, hm⟩ := bind_some hm
        refine TA.take 9 rfl rfl rfl rfl (StepS.ldD (i := a1) (sz := 8) (k := 1) [h0_1, u0_1] [h0_2] (f := cTiibiiu32iii) (xs := tl6 z70) (y := xq72_9_1) rfl (Ent.at 0 rfl) kscalB_3_true rfl (by simp only [List.length_cons, List.length_nil] <;> omega) (fun _ => rfl) hxq72_9_2 rfl) (by kernel_rfl) (by kernel_rfl) (by kernel_rfl) (by kernel_rfl) (by kernel_rfl) (fun _ s => Sat.by [1, 1] 2 1 (by kernel_rfl) s) ?_
        refine TA.takeW 10 rfl rfl rfl rfl (StepS.move rfl) (by kernel_rfl) (by kernel_rfl) (by kernel_rfl) rfl (.inr (fun _ s => Sat.by [1, 1] 2 1 (by kernel_rfl) s)) ?_
        refine TA.takeW 11 rfl rfl rfl rfl (StepS.move rfl) (by kernel_rfl) (by kernel_rfl) (by kernel_rfl) rfl (.inr (fun _ s => Sat.by [1, 1] 2 1 (by kernel_rfl) s)) ?_
        refine TA.takeW 12 rfl rfl rfl rfl (StepS.nilc rfl) (by kernel_rfl) (by kernel_rfl) (by kernel_rfl) rfl (.inr (fun _ s => Sat.by [1, 1] 2 1 (by kernel_rfl) s)) ?_
        refine TA.takeW 13 rfl rfl rfl rfl (StepS.fld rfl kfieldB_155_2_2_true) (by kernel_rfl) (by kernel_rfl) (by kernel_rfl) rfl (.inr (fun _ s => Sat.by [1, 1] 2 1 (by kernel_rfl) s)) ?_
        obtain ⟨xq72_14_1, hxq72_14_2, hm⟩ := bind_some hm
        refine TA.take 14 rfl rfl rfl rfl (StepS.ldD (i := a1) (sz := 8) (k := 2) [h0_1, u0_1] [h0_2] (f := cTiibiiu32iii) (xs := tl6 z70) (y := xq72_14_1) rfl (Ent.at 0 rfl) kscalB_4_true rfl (by simp only [List.length_cons, List.length_nil] <;> omega) (fun _ => rfl) hxq72_14_2 rfl) (by kernel_rfl) (by kernel_rfl) (by kernel_rfl) (by kernel_rfl) (by kernel_rfl) (fun _ s => Sat.by [1, 1] 2 1 (by kernel_rfl) s) ?_
        refine TA.takeW 15 rfl rfl rfl rfl (StepS.move rfl) (by kernel_rfl) (by kernel_rfl) (by kernel_rfl) rfl (.inr (fun _ s => Sat.by [1, 1] 2 1 (by kernel_rfl) s)) ?_
        refine TA.takeW 16 rfl rfl rfl rfl (StepS.nilc rfl) (by kernel_rfl) (by kernel_rfl) (by kernel_rfl) rfl (.inr (fun _ s => Sat.by [1, 1] 2 1 (by kernel_rfl) s)) ?_
        refine TA.takeW 17 rfl rfl rfl rfl (StepS.fld rfl kfieldB_155_6_6_true) (by kernel_rfl) (by kernel_rfl) (by kernel_rfl) rfl (.inr (fun _ s => Sat.by [1, 1] 2 1 (by kernel_rfl) s)) ?_
        refine TA.takeW 18 rfl rfl rfl rfl (StepS.fld rfl kfieldB_153_1_1_true) (by kernel_rfl) (by kernel_rfl) (by kernel_rfl) rfl (.inr (fun _ s => Sat.by [1, 1] 2 1 (by kernel_rfl) s)) ?_
        obtain ⟨xq72_19_1, hxq72_19_2, hm⟩ := bind_some hm
        refine TA.take 19 rfl rfl rfl rfl (StepS.ldD (i := a1) (sz := 8) (k := 7) [h0_1, u0_1] [h0_2] (f := cTiibiiu32iii) (xs := tl6 z70) (y := xq72_19_1) rfl (Ent.at 0 rfl) kscalB_3_true rfl (by simp only [List.length_cons, List.length_nil] <;> omega) (fun _ => rfl) hxq72_19_2 rfl) (by kernel_rfl) (by kernel_rfl) (by kernel_rfl) (by kernel_rfl) (by kernel_rfl) (fun _ s => Sat.by [1, 1] 2 1 (by kernel_rfl) s) ?_
        refine TA.takeW 20 rfl rfl rfl rfl (StepS.build (cs := [I a1, I xq72_9_1.2.1, I a3, .bool xq72_14_1.2.2.1, I xq72_19_1.2.2.2.2.2.2.2]) rfl (by kernel_rfl)) (by kernel_rfl) (by kernel_rfl) (by kernel_rfl) rfl (.inr (fun _ s => Sat.by [1, 1] 2 1 (by kernel_rfl) s)) ?_
        refine TA.all1 (i := 21) (by kernel_rfl) ?_
        refine TB.of rfl ?_
        refine TO.litS (f := cTiiibi) ([(a1, xq72_9_1.2.1, a3, xq72_14_1.2.2.1, xq72_19_1.2.2.2.2.2.2.2)] : List (Int × Int × Int × Bool × Int)) kelemB_67_161_5_40_true kinfo_161_bind_zero_some_agg_I_0_I_0_I_0_bool_false_I_0 rfl rfl (fun _ => rfl) rfl rfl (by kernel_rfl) rfl fun vq72_21_1 => ?_
        refine TA.back (.inr (fun _ s => Sat.by [2, 2] 2 2 (by kernel_rfl) s)) ?_
        refine TA.asL (L' := (OwnS 161 5 vq72_21_1 (([(a1, xq72_9_1.2.1, a3, xq72_14_1.2.2.1, xq72_19_1.2.2.2.2.2.2.2)] : List (Int × Int × Int × Bool × Int)).map cTiiibi) :: Bx b0_ 158 [h0_1, u0_1, I z70.1.1, I z70.1.2.1, .bool z70.1.2.2.1, I z70.1.2.2.2.1, U z70.1.2.2.2.2.1, I z70.1.2.2.2.2.2.1, I z70.1.2.2.2.2.2.2.1, I z70.1.2.2.2.2.2.2.2, I z70.2.1.1, I z70.2.1.2.1, .bool z70.2.1.2.2.1, I z70.2.1.2.2.2.1, U z70.2.1.2.2.2.2.1, I z70.2.1.2.2.2.2.2.1, I z70.2.1.2.2.2.2.2.2.1, I z70.2.1.2.2.2.2.2.2.2, I z70.2.2.1.1, I z70.2.2.1.2.1, .bool z70.2.2.1.2.2.1, I z70.2.2.1.2.2.2.1, U z70.2.2.1.2.2.2.2.1, I z70.2.2.1.2.2.2.2.2.1, I z70.2.2.1.2.2.2.2.2.2.1, I z70.2.2.1.2.2.2.2.2.2.2, I z70.2.2.2.1.1, I z70.2.2.2.1.2.1, .bool z70.2.2.2.1.2.2.1, I z70.2.2.2.1.2.2.2.1, U z70.2.2.2.1.2.2.2.2.1, I z70.2.2.2.1.2.2.2.2.2.1, I z70.2.2.2.1.2.2.2.2.2.2.1, I z70.2.2.2.1.2.2.2.2.2.2.2, I z70.2.2.2.2.1.1, I z70.2.2.2.2.1.2.1, .bool z70.2.2.2.2.1.2.2.1, I z70.2.2.2.2.1.2.2.2.1, U z70.2.2.2.2.1.2.2.2.2.1, I z70.2.2.2.2.1.2.2.2.2.2.1, I z70.2.2.2.2.1.2.2.2.2.2.2.1, I z70.2.2.2.2.1.2.2.2.2.2.2.2, I z70.2.2.2.2.2.1, I z70.2.2.2.2.2.2.1, .bool z70.2.2.2.2.2.2.2.1, I z70.2.2.2.2.2.2.2.2.1, U z70.2.2.2.2.2.2.2.2.2.1, I z70.2.2.2.2.2.2.2.2.2.2.1, I z70.2.2.2.2.2.2.2.2.2.2.2.1, I z70.2.2.2.2.2.2.2.2.2.2.2.2, h0_2] :: OwnS 153 2 h0_1 (y19.map cTii) :: OwnS 161 5 h0_2 (a0.2.2.map cTiiibi) :: L)) (listed' := #[true, true, true, true, true, true, true, true, true, true, true, true, true, true, true, true, true, true, true, true, true, true, false, false, false, false]) (by kernel_rfl) (by kernel_rfl) ?_
        refine TA.all1 (i := 22) (by kernel_rfl) ?_
        refine TB.of rfl ?_
        obtain ⟨yq72_22_1, hkq72_22_2, hm⟩ := bind_some hm
        refine TO.app (k := 3) (f := cTiiibi) kelemB_67_161_5_40_true (by decide) rfl rfl rfl (OwnS.rd (Ent.at 0 rfl)) hkq72_22_2 (fun x c hc => by simp [Value.oneCell'] at hc ⊢; first | (obtain rfl := hc; rfl) | (rcases hc with rfl | rfl | rfl | rfl | rfl <;> rfl)) rfl rfl fun vq72_22_3 => ?_
        refine TA.back (.inr (fun _ s => Sat.by [2, 2] 2 2 (by kernel_rfl) s)) ?_
        refine TA.asL (L' := (OwnS 161 5 vq72_21_1 (([(a1, xq72_9_1.2.1, a3, xq72_14_1.2.2.1, xq72_19_1.2.2.2.2.2.2.2)] : List (Int × Int × Int × Bool × Int)).map cTiiibi) :: Bx b0_ 158 [h0_1, u0_1, I z70.1.1, I z70.1.2.1, .bool z70.1.2.2.1, I z70.1.2.2.2.1, U z70.1.2.2.2.2.1, I z70.1.2.2.2.2.2.1, I z70.1.2.2.2.2.2.2.1, I z70.1.2.2.2.2.2.2.2, I z70.2.1.1, I z70.2.1.2.1, .bool z70.2.1.2.2.1, I z70.2.1.2.2.2.1, U z70.2.1.2.2.2.2.1, I z70.2.1.2.2.2.2.2.1, I z70.2.1.2.2.2.2.2.2.1, I z70.2.1.2.2.2.2.2.2.2, I z70.2.2.1.1, I z70.2.2.1.2.1, .bool z70.2.2.1.2.2.1, I z70.2.2.1.2.2.2.1, U z70.2.2.1.2.2.2.2.1, I z70.2.2.1.2.2.2.2.2.1, I z70.2.2.1.2.2.2.2.2.2.1, I z70.2.2.1.2.2.2.2.2.2.2, I z70.2.2.2.1.1, I z70.2.2.2.1.2.1, .bool z70.2.2.2.1.2.2.1, I z70.2.2.2.1.2.2.2.1, U z70.2.2.2.1.2.2.2.2.1, I z70.2.2.2.1.2.2.2.2.2.1, I z70.2.2.2.1.2.2.2.2.2.2.1, I z70.2.2.2.1.2.2.2.2.2.2.2, I z70.2.2.2.2.1.1, I z70.2.2.2.2.1.2.1, .bool z70.2.2.2.2.1.2.2.1, I z70.2.2.2.2.1.2.2.2.1, U z70.2.2.2.2.1.2.2.2.2.1, I z70.2.2.2.2.1.2.2.2.2.2.1, I z70.2.2.2.2.1.2.2.2.2.2.2.1, I z70.2.2.2.2.1.2.2.2.2.2.2.2, I z70.2.2.2.2.2.1, I z70.2.2.2.2.2.2.1, .bool z70.2.2.2.2.2.2.2.1, I z70.2.2.2.2.2.2.2.2.1, U z70.2.2.2.2.2.2.2.2.2.1, I z70.2.2.2.2.2.2.2.2.2.2.1, I z70.2.2.2.2.2.2.2.2.2.2.2.1, I z70.2.2.2.2.2.2.2.2.2.2.2.2, h0_2] :: OwnS 153 2 h0_1 (y19.map cTii) :: OwnS 161 5 vq72_22_3 (yq72_22_1.map cTiiibi) :: L)) (listed' := #[true, true, true, true, true, true, true, true, true, true, true, true, true, true, true, true, true, true, true, true, true, true, true, false, false, false]) (by kernel_rfl) (by kernel_rfl) ?_
        refine TA.takeW 23 rfl rfl rfl rfl (StepS.nilc rfl) (by kernel_rfl) (by kernel_rfl) (by kernel_rfl) rfl (.inr (fun _ s => Sat.by [2, 2] 2 2 (by kernel_rfl) s)) ?_
        refine TA.takeW 24 rfl rfl rfl rfl (StepS.fld rfl kfieldB_158_3_50_true) (by kernel_rfl) (by kernel_rfl) (by kernel_rfl) rfl (.inr (fun _ s => Sat.by [2, 2] 2 2 (by kernel_rfl) s)) ?_
        refine TA.all1 (i := 25) (by kernel_rfl) ?_
        refine TB.of rfl ?_
        refine TO.pure (fun _ s => Rd.one (OwnS.rd (Ent.at 3 rfl)) s) fun ocq72_25_1 => ?_
        refine TO.stB (us := [vq72_22_3]) 1 [h0_1, u0_1, I z70.1.1, I z70.1.2.1, .bool z70.1.2.2.1, I z70.1.2.2.2.1, U z70.1.2.2.2.2.1, I z70.1.2.2.2.2.2.1, I z70.1.2.2.2.2.2.2.1, I z70.1.2.2.2.2.2.2.2, I z70.2.1.1, I z70.2.1.2.1, .bool z70.2.1.2.2.1, I z70.2.1.2.2.2.1, U z70.2.1.2.2.2.2.1, I z70.2.1.2.2.2.2.2.1, I z70.2.1.2.2.2.2.2.2.1, I z70.2.1.2.2.2.2.2.2.2, I z70.2.2.1.1, I z70.2.2.1.2.1, .bool z70.2.2.1.2.2.1, I z70.2.2.1.2.2.2.1, U z70.2.2.1.2.2.2.2.1, I z70.2.2.1.2.2.2.2.2.1, I z70.2.2.1.2.2.2.2.2.2.1, I z70.2.2.1.2.2.2.2.2.2.2, I z70.2.2.2.1.1, I z70.2.2.2.1.2.1, .bool z70.2.2.2.1.2.2.1, I z70.2.2.2.1.2.2.2.1, U z70.2.2.2.1.2.2.2.2.1, I z70.2.2.2.1.2.2.2.2.2.1, I z70.2.2.2.1.2.2.2.2.2.2.1, I z70.2.2.2.1.2.2.2.2.2.2.2, I z70.2.2.2.2.1.1, I z70.2.2.2.2.1.2.1, .bool z70.2.2.2.2.1.2.2.1, I z70.2.2.2.2.1.2.2.2.1, U z70.2.2.2.2.1.2.2.2.2.1, I z70.2.2.2.2.1.2.2.2.2.2.1, I z70.2.2.2.2.1.2.2.2.2.2.2.1, I z70.2.2.2.2.1.2.2.2.2.2.2.2, I z70.2.2.2.2.2.1, I z70.2.2.2.2.2.2.1, .bool z70.2.2.2.2.2.2.2.1, I z70.2.2.2.2.2.2.2.2.1, U z70.2.2.2.2.2.2.2.2.2.1, I z70.2.2.2.2.2.2.2.2.2.2.1, I z70.2.2.2.2.2.2.2.2.2.2.2.1, I z70.2.2.2.2.2.2.2.2.2.2.2.2, vq72_22_3] rfl rfl rfl ksizeB_67_1_true ocq72_25_1.2 rfl rfl (by intro u hu; simp only [List.mem_cons, List.not_mem_nil, or_false] at hu; rcases hu with rfl <;> first | exact ocq72_25_1.1 | rfl) rfl ?_
        refine TA.back (.inl (by kernel_rfl)) ?_
        refine TA.asL (L' := (OwnS 161 5 vq72_21_1 (([(a1, xq72_9_1.2.1, a3, xq72_14_1.2.2.1, xq72_19_1.2.2.2.2.2.2.2)] : List (Int × Int × Int × Bool × Int)).map cTiiibi) :: Bx b0_ 158 [h0_1, u0_1, I z70.1.1, I z70.1.2.1, .bool z70.1.2.2.1, I z70.1.2.2.2.1, U z70.1.2.2.2.2.1, I z70.1.2.2.2.2.2.1, I z70.1.2.2.2.2.2.2.1, I z70.1.2.2.2.2.2.2.2, I z70.2.1.1, I z70.2.1.2.1, .bool z70.2.1.2.2.1, I z70.2.1.2.2.2.1, U z70.2.1.2.2.2.2.1, I z70.2.1.2.2.2.2.2.1, I z70.2.1.2.2.2.2.2.2.1, I z70.2.1.2.2.2.2.2.2.2, I z70.2.2.1.1, I z70.2.2.1.2.1, .bool z70.2.2.1.2.2.1, I z70.2.2.1.2.2.2.1, U z70.2.2.1.2.2.2.2.1, I z70.2.2.1.2.2.2.2.2.1, I z70.2.2.1.2.2.2.2.2.2.1, I z70.2.2.1.2.2.2.2.2.2.2, I z70.2.2.2.1.1, I z70.2.2.2.1.2.1, .bool z70.2.2.2.1.2.2.1, I z70.2.2.2.1.2.2.2.1, U z70.2.2.2.1.2.2.2.2.1, I z70.2.2.2.1.2.2.2.2.2.1, I z70.2.2.2.1.2.2.2.2.2.2.1, I z70.2.2.2.1.2.2.2.2.2.2.2, I z70.2.2.2.2.1.1, I z70.2.2.2.2.1.2.1, .bool z70.2.2.2.2.1.2.2.1, I z70.2.2.2.2.1.2.2.2.1, U z70.2.2.2.2.1.2.2.2.2.1, I z70.2.2.2.2.1.2.2.2.2.2.1, I z70.2.2.2.2.1.2.2.2.2.2.2.1, I z70.2.2.2.2.1.2.2.2.2.2.2.2, I z70.2.2.2.2.2.1, I z70.2.2.2.2.2.2.1, .bool z70.2.2.2.2.2.2.2.1, I z70.2.2.2.2.2.2.2.2.1, U z70.2.2.2.2.2.2.2.2.2.1, I z70.2.2.2.2.2.2.2.2.2.2.1, I z70.2.2.2.2.2.2.2.2.2.2.2.1, I z70.2.2.2.2.2.2.2.2.2.2.2.2, vq72_22_3] :: OwnS 153 2 h0_1 (y19.map cTii) :: OwnS 161 5 vq72_22_3 (yq72_22_1.map cTiiibi) :: L)) (listed' := #[true, true, true, true, true, true, true, true, true, true, true, true, true, true, true, true, true, true, true, true, true, true, true, true, true, true]) (by kernel_rfl) (by kernel_rfl) ?_
        cases hm
        refine TA.nil (by kernel_rfl) fun a w e s => ?_
        refine FRet.mk0 (P := Try.prog) (fn := Try.f100) e rfl ?_
        refine ⟨_, _, rfl, ⟨(h0_1), (vq72_22_3), rfl, rfl⟩, ?_⟩
        refine s.mono fun _ s => ?_
        replace s := Sat.front 3 rfl s
        replace s := Sat.front 3 rfl s
        replace s := Sat.front 3 rfl s
        replace s := Sat.erase 3 s
        exact s

set_option maxRecDepth 100000 in
theorem C67 {B : World} {L : List HP} {a0 : (List (Int × Int)) × (BitVec 32) × (T6 (Int × Int × Bool × Int × (BitVec 32) × Int × Int × Int)) × List (Int × Int × Int × Bool × Int)} {a1 : Int × Int × Int × Int} {a2 : Int} {b0_ : Nat} {h0_1 : Value} {h0_2 : Value} {r0 : Int} {s0 : (List (Int × Int)) × (BitVec 32) × (T6 (Int × Int × Bool × Int × (BitVec 32) × Int × Int × Int)) × List (Int × Int × Int × Bool × Int)} (hm : F67 a0 a1 a2 = some (r0, s0)) {w : World} (st : St B (Bx b0_ 158 [h0_1, U a0.2.1, I a0.2.2.1.1.1, I a0.2.2.1.1.2.1, .bool a0.2.2.1.1.2.2.1, I a0.2.2.1.1.2.2.2.1, U a0.2.2.1.1.2.2.2.2.1, I a0.2.2.1.1.2.2.2.2.2.1, I a0.2.2.1.1.2.2.2.2.2.2.1, I a0.2.2.1.1.2.2.2.2.2.2.2, I a0.2.2.1.2.1.1, I a0.2.2.1.2.1.2.1, .bool a0.2.2.1.2.1.2.2.1, I a0.2.2.1.2.1.2.2.2.1, U a0.2.2.1.2.1.2.2.2.2.1, I a0.2.2.1.2.1.2.2.2.2.2.1, I a0.2.2.1.2.1.2.2.2.2.2.2.1, I a0.2.2.1.2.1.2.2.2.2.2.2.2, I a0.2.2.1.2.2.1.1, I a0.2.2.1.2.2.1.2.1, .bool a0.2.2.1.2.2.1.2.2.1, I a0.2.2.1.2.2.1.2.2.2.1, U a0.2.2.1.2.2.1.2.2.2.2.1, I a0.2.2.1.2.2.1.2.2.2.2.2.1, I a0.2.2.1.2.2.1.2.2.2.2.2.2.1, I a0.2.2.1.2.2.1.2.2.2.2.2.2.2, I a0.2.2.1.2.2.2.1.1, I a0.2.2.1.2.2.2.1.2.1, .bool a0.2.2.1.2.2.2.1.2.2.1, I a0.2.2.1.2.2.2.1.2.2.2.1, U a0.2.2.1.2.2.2.1.2.2.2.2.1, I a0.2.2.1.2.2.2.1.2.2.2.2.2.1, I a0.2.2.1.2.2.2.1.2.2.2.2.2.2.1, I a0.2.2.1.2.2.2.1.2.2.2.2.2.2.2, I a0.2.2.1.2.2.2.2.1.1, I a0.2.2.1.2.2.2.2.1.2.1, .bool a0.2.2.1.2.2.2.2.1.2.2.1, I a0.2.2.1.2.2.2.2.1.2.2.2.1, U a0.2.2.1.2.2.2.2.1.2.2.2.2.1, I a0.2.2.1.2.2.2.2.1.2.2.2.2.2.1, I a0.2.2.1.2.2.2.2.1.2.2.2.2.2.2.1, I a0.2.2.1.2.2.2.2.1.2.2.2.2.2.2.2, I a0.2.2.1.2.2.2.2.2.1, I a0.2.2.1.2.2.2.2.2.2.1, .bool a0.2.2.1.2.2.2.2.2.2.2.1, I a0.2.2.1.2.2.2.2.2.2.2.2.1, U a0.2.2.1.2.2.2.2.2.2.2.2.2.1, I a0.2.2.1.2.2.2.2.2.2.2.2.2.2.1, I a0.2.2.1.2.2.2.2.2.2.2.2.2.2.2.1, I a0.2.2.1.2.2.2.2.2.2.2.2.2.2.2.2, h0_2] :: OwnS 153 2 h0_1 (a0.1.map cTii) :: OwnS 161 5 h0_2 (a0.2.2.2.map cTiiibi) :: L) w) : Calls Try.prog 67 #[.pointer (some ⟨b0_, 0, none⟩), .agg (cTiiii a1).toArray, I a2] w (fun e w' => ∃ v M, e = .returned v ∧ (∃ (qv1 : Value) (qv2 : Value), v = I r0 ∧ M = (Bx b0_ 158 [qv1, U s0.2.1, I s0.2.2.1.1.1, I s0.2.2.1.1.2.1, .bool s0.2.2.1.1.2.2.1, I s0.2.2.1.1.2.2.2.1, U s0.2.2.1.1.2.2.2.2.1, I s0.2.2.1.1.2.2.2.2.2.1, I s0.2.2.1.1.2.2.2.2.2.2.1, I s0.2.2.1.1.2.2.2.2.2.2.2, I s0.2.2.1.2.1.1, I s0.2.2.1.2.1.2.1, .bool s0.2.2.1.2.1.2.2.1, I s0.2.2.1.2.1.2.2.2.1, U s0.2.2.1.2.1.2.2.2.2.1, I s0.2.2.1.2.1.2.2.2.2.2.1, I s0.2.2.1.2.1.2.2.2.2.2.2.1, I s0.2.2.1.2.1.2.2.2.2.2.2.2, I s0.2.2.1.2.2.1.1, I s0.2.2.1.2.2.1.2.1, .bool s0.2.2.1.2.2.1.2.2.1, I s0.2.2.1.2.2.1.2.2.2.1, U s0.2.2.1.2.2.1.2.2.2.2.1, I s0.2.2.1.2.2.1.2.2.2.2.2.1, I s0.2.2.1.2.2.1.2.2.2.2.2.2.1, I s0.2.2.1.2.2.1.2.2.2.2.2.2.2, I s0.2.2.1.2.2.2.1.1, I s0.2.2.1.2.2.2.1.2.1, .bool s0.2.2.1.2.2.2.1.2.2.1, I s0.2.2.1.2.2.2.1.2.2.2.1, U s0.2.2.1.2.2.2.1.2.2.2.2.1, I s0.2.2.1.2.2.2.1.2.2.2.2.2.1, I s0.2.2.1.2.2.2.1.2.2.2.2.2.2.1, I s0.2.2.1.2.2.2.1.2.2.2.2.2.2.2, I s0.2.2.1.2.2.2.2.1.1, I s0.2.2.1.2.2.2.2.1.2.1, .bool s0.2.2.1.2.2.2.2.1.2.2.1, I s0.2.2.1.2.2.2.2.1.2.2.2.1, U s0.2.2.1.2.2.2.2.1.2.2.2.2.1, I s0.2.2.1.2.2.2.2.1.2.2.2.2.2.1, I s0.2.2.1.2.2.2.2.1.2.2.2.2.2.2.1, I s0.2.2.1.2.2.2.2.1.2.2.2.2.2.2.2, I s0.2.2.1.2.2.2.2.2.1, I s0.2.2.1.2.2.2.2.2.2.1, .bool s0.2.2.1.2.2.2.2.2.2.2.1, I s0.2.2.1.2.2.2.2.2.2.2.2.1, U s0.2.2.1.2.2.2.2.2.2.2.2.2.1, I s0.2.2.1.2.2.2.2.2.2.2.2.2.2.1, I s0.2.2.1.2.2.2.2.2.2.2.2.2.2.2.1, I s0.2.2.1.2.2.2.2.2.2.2.2.2.2.2.2, qv2] :: OwnS 153 2 qv1 (s0.1.map cTii) :: OwnS 161 5 qv2 (s0.2.2.2.map cTiiibi) :: L)) ∧ St B M w') := by
  refine calls_of (N := 133) (L := (Bx b0_ 158 [h0_1, U a0.2.1, I a0.2.2.1.1.1, I a0.2.2.1.1.2.1, .bool a0.2.2.1.1.2.2.1, I a0.2.2.1.1.2.2.2.1, U a0.2.2.1.1.2.2.2.2.1, I a0.2.2.1.1.2.2.2.2.2.1, I a0.2.2.1.1.2.2.2.2.2.2.1, I a0.2.2.1.1.2.2.2.2.2.2.2, I a0.2.2.1.2.1.1, I a0.2.2.1.2.1.2.1, .bool a0.2.2.1.2.1.2.2.1, I a0.2.2.1.2.1.2.2.2.1, U a0.2.2.1.2.1.2.2.2.2.1, I a0.2.2.1.2.1.2.2.2.2.2.1, I a0.2.2.1.2.1.2.2.2.2.2.2.1, I a0.2.2.1.2.1.2.2.2.2.2.2.2, I a0.2.2.1.2.2.1.1, I a0.2.2.1.2.2.1.2.1, .bool a0.2.2.1.2.2.1.2.2.1, I a0.2.2.1.2.2.1.2.2.2.1, U a0.2.2.1.2.2.1.2.2.2.2.1, I a0.2.2.1.2.2.1.2.2.2.2.2.1, I a0.2.2.1.2.2.1.2.2.2.2.2.2.1, I a0.2.2.1.2.2.1.2.2.2.2.2.2.2, I a0.2.2.1.2.2.2.1.1, I a0.2.2.1.2.2.2.1.2.1, .bool a0.2.2.1.2.2.2.1.2.2.1, I a0.2.2.1.2.2.2.1.2.2.2.1, U a0.2.2.1.2.2.2.1.2.2.2.2.1, I a0.2.2.1.2.2.2.1.2.2.2.2.2.1, I a0.2.2.1.2.2.2.1.2.2.2.2.2.2.1, I a0.2.2.1.2.2.2.1.2.2.2.2.2.2.2, I a0.2.2.1.2.2.2.2.1.1, I a0.2.2.1.2.2.2.2.1.2.1, .bool a0.2.2.1.2.2.2.2.1.2.2.1, I a0.2.2.1.2.2.2.2.1.2.2.2.1, U a0.2.2.1.2.2.2.2.1.2.2.2.2.1, I a0.2.2.1.2.2.2.2.1.2.2.2.2.2.1, I a0.2.2.1.2.2.2.2.1.2.2.2.2.2.2.1, I a0.2.2.1.2.2.2.2.1.2.2.2.2.2.2.2, I a0.2.2.1.2.2.2.2.2.1, I a0.2.2.1.2.2.2.2.2.2.1, .bool a0.2.2.1.2.2.2.2.2.2.2.1, I a0.2.2.1.2.2.2.2.2.2.2.2.1, U a0.2.2.1.2.2.2.2.2.2.2.2.2.1, I a0.2.2.1.2.2.2.2.2.2.2.2.2.2.1, I a0.2.2.1.2.2.2.2.2.2.2.2.2.2.2.1, I a0.2.2.1.2.2.2.2.2.2.2.2.2.2.2.2, h0_2] :: OwnS 153 2 h0_1 (a0.1.map cTii) :: OwnS 161 5 h0_2 (a0.2.2.2.map cTiiibi) :: L)) (args := [.pointer (some ⟨b0_, 0, none⟩), .agg (cTiiii a1).toArray, I a2]) Try.func67 rfl rfl rfl ?_ st
  dsimp only [F67] at hm
  refine TC.k ?_
  refine TC.region ?_
  refine TO.box (cs := [I a1.1, I a1.2.1, I a1.2.2.1, I a1.2.2.2]) rfl rfl rfl fun b5 => ?_
  refine TO.s rfl rfl rfl (StepS.assign rfl) ?_
  refine TO.code ?_
  refine TC.k ?_
  refine TC.region ?_
  refine TO.s rfl rfl rfl (StepS.fld rfl kfieldB_106_1_1_true) ?_
  refine TO.s rfl rfl rfl (StepS.ldB rfl (Ent.at 0 rfl) kscalB_3_true rfl) ?_
  refine TO.s rfl rfl rfl (StepS.cmp rfl rfl rfl) ?_
  refine TO.s rfl rfl rfl (StepS.move rfl) ?_
  refine TO.mid1 4 17 (.bool ((decide (a1.2.1 ≥ 0)) && (decide (a1.2.1 < 6)))) ?_ ?_
  · refine bcase ((decide (a1.2.1 ≥ 0))) (fun hb6 => ?_) (fun hb6 => ?_)
    · refine TO.sw rfl rfl rfl hb6 rfl rfl (StepS.fld rfl kfieldB_106_1_1_true) ?_
      refine TO.sw rfl rfl rfl hb6 rfl rfl (StepS.ldB rfl (Ent.at 0 rfl) kscalB_3_true rfl) ?_
      refine TO.sw rfl rfl rfl hb6 rfl rfl (StepS.cmp rfl rfl rfl) ?_
      refine TO.s rfl rfl rfl (StepS.pickT rfl hb6 rfl) ?_
      exact TO.up1 4 0 rfl rfl (by rw [hb6]; rfl) rfl
    · refine TO.skip rfl rfl rfl (skipF hb6) rfl rfl ?_
      refine TO.skip rfl rfl rfl (skipF hb6) rfl rfl ?_
      refine TO.skip rfl rfl rfl (skipF hb6) rfl rfl ?_
      refine TO.s rfl rfl rfl (StepS.pickF rfl hb6 rfl) ?_
      exact TO.up1 4 0 rfl rfl (by rw [hb6]; rfl) rfl
  refine TO.s rfl rfl rfl (StepS.assign rfl) ?_
  refine TO.code ?_
  refine TC.k ?_
  refine TC.region_still kfollows_mixedOrders_true (by kernel_rfl) ?_
  refine TS.s rfl rfl rfl (StepS.fld rfl kfieldB_106_2_2_true) ?_
  refine TS.s rfl rfl rfl (StepS.ldB rfl (Ent.at 0 rfl) kscalB_3_true rfl) ?_
  refine TS.s rfl rfl rfl (StepS.cmp rfl rfl rfl) ?_
  refine TS.s rfl rfl rfl (StepS.move rfl) ?_
  refine TS.mid1 9 30 (.bool ((decide (a1.2.2.1 ≥ 0)) && (decide (a1.2.2.1 < (a0.1.length : Int))))) ?_ ?_
  · refine bcase ((decide (a1.2.2.1 ≥ 0))) (fun hb7 => ?_) (fun hb7 => ?_)
    · refine TS.sw rfl rfl rfl hb7 rfl rfl (StepS.fld rfl kfieldB_106_2_2_true) ?_
      refine TS.sw rfl rfl rfl hb7 rfl rfl (StepS.ldB rfl (Ent.at 0 rfl) kscalB_3_true rfl) ?_
      refine TS.sw rfl rfl rfl hb7 rfl rfl (StepS.move rfl) ?_
      refine TS.sw rfl rfl rfl hb7 rfl rfl (StepS.nilc rfl) ?_
      refine TS.sw rfl rfl rfl hb7 rfl rfl (StepS.fld rfl kfieldB_158_0_0_true) ?_
      refine TS.sw rfl rfl rfl hb7 rfl rfl (StepS.ldB rfl (Ent.at 1 rfl) kscalB_151_true rfl) ?_
      refine TS.sw rfl rfl rfl hb7 rfl rfl (StepS.lenm rfl (OwnS.rd (Ent.at 2 rfl)) ksliceB_151_153_2_true rfl) ?_
      refine TS.sw rfl rfl rfl hb7 rfl rfl (StepS.cmp rfl rfl rfl) ?_
      refine TS.s rfl rfl rfl (StepS.pickT rfl hb7 rfl) ?_
      exact TS.up1 9 0 rfl rfl (by rw [hb7]; rfl) rfl
    · refine TS.skip rfl rfl rfl (skipF hb7) rfl rfl ?_
      refine TS.skip rfl rfl rfl (skipF hb7) rfl rfl ?_
      refine TS.skip rfl rfl rfl (skipF hb7) rfl rfl ?_
      refine TS.skip rfl rfl rfl (skipF hb7) rfl rfl ?_
      refine TS.skip rfl rfl rfl (skipF hb7) rfl rfl ?_
      refine TS.skip rfl rfl rfl (skipF hb7) rfl rfl ?_
      refine TS.skip rfl rfl rfl (skipF hb7) rfl rfl ?_
      refine TS.skip rfl rfl rfl (skipF hb7) rfl rfl ?_
      refine TS.s rfl rfl rfl (StepS.pickF rfl hb7 rfl) ?_
      exact TS.up1 9 0 rfl rfl (by rw [hb7]; rfl) rfl
  refine TS.s rfl rfl rfl (StepS.assign rfl) ?_
  refine TS.code ?_
  refine TC.k ?_
  refine TC.block ?_
  refine TC.k ?_
  refine TC.region ?_
  refine TO.s rfl rfl rfl (StepS.fld rfl kfieldB_106_0_0_true) ?_
  refine TO.s rfl rfl rfl (StepS.ldB rfl (Ent.at 0 rfl) kscalB_3_true rfl) ?_
  refine TO.s rfl rfl rfl (StepS.cmp rfl rfl rfl) ?_
  refine TO.s rfl rfl rfl (StepS.move rfl) ?_
  refine TO.mid1 4 39 (.bool ((decide (a1.1 < 1)) || (decide (a1.1 > 3)))) ?_ ?_
  · refine bcase ((decide (a1.1 < 1))) (fun hb8 => ?_) (fun hb8 => ?_)
    · refine TO.skip rfl rfl rfl (skipT hb8) rfl rfl ?_
      refine TO.skip rfl rfl rfl (skipT hb8) rfl rfl ?_
      refine TO.skip rfl rfl rfl (skipT hb8) rfl rfl ?_
      refine TO.s rfl rfl rfl (StepS.pickT rfl hb8 rfl) ?_
      exact TO.up1 4 0 rfl rfl (by rw [hb8]; rfl) rfl
    · refine TO.sw rfl rfl rfl hb8 rfl rfl (StepS.fld rfl kfieldB_106_0_0_true) ?_
      refine TO.sw rfl rfl rfl hb8 rfl rfl (StepS.ldB rfl (Ent.at 0 rfl) kscalB_3_true rfl) ?_
      refine TO.sw rfl rfl rfl hb8 rfl rfl (StepS.cmp rfl rfl rfl) ?_
      refine TO.s rfl rfl rfl (StepS.pickF rfl hb8 rfl) ?_
      exact TO.up1 4 0 rfl rfl (by rw [hb8]; rfl) rfl
  refine TO.s rfl rfl rfl (StepS.assign rfl) ?_
  refine TO.code ?_
  refine TC.cond rfl (fun hc9 => ?_) (fun hc9 => ?_)
  · replace hm := cond_t hc9 hm
    refine TC.k ?_
    refine TC.region ?_
    refine TO.s rfl rfl rfl (StepS.assign rfl) ?_
    refine TO.code ?_
    cases hm
    refine TC.ret fun a w e s => ?_
    refine FRet.mk1 (P := Try.prog) (fn := Try.f67) (t := 6) e rfl rfl ?_
    refine ⟨_, _, rfl, ⟨(h0_1), (h0_2), rfl, rfl⟩, ?_⟩
    refine s.mono fun _ s => ?_
    replace s := Sat.front 3 rfl s
    replace s := Sat.front 3 rfl s
    replace s := Sat.front 3 rfl s
    replace s := Sat.erase 3 s
    exact s
  · replace hm := cond_f hc9 hm
    refine TC.k ?_
    refine TC.region ?_
    refine TO.s rfl rfl rfl (StepS.fld rfl kfieldB_106_0_0_true) ?_
    refine TO.s rfl rfl rfl (StepS.ldB rfl (Ent.at 0 rfl) kscalB_3_true rfl) ?_
    refine TO.s rfl rfl rfl (StepS.cmp rfl rfl rfl) ?_
    refine TO.s rfl rfl rfl (StepS.move rfl) ?_
    refine TO.mid1 3 47 (.bool ((a1.1 != 3) && (!((decide (a1.2.1 ≥ 0)) && (decide (a1.2.1 < 6)))))) ?_ ?_
    · refine bcase ((a1.1 != 3)) (fun hb10 => ?_) (fun hb10 => ?_)
      · refine TO.sw rfl rfl rfl hb10 rfl rfl (StepS.move rfl) ?_
        refine TO.sw rfl rfl rfl hb10 rfl rfl (StepS.not rfl) ?_
        refine TO.s rfl rfl rfl (StepS.pickT rfl hb10 rfl) ?_
        exact TO.up1 3 0 rfl rfl (by rw [hb10]; rfl) rfl
      · refine TO.skip rfl rfl rfl (skipF hb10) rfl rfl ?_
        refine TO.skip rfl rfl rfl (skipF hb10) rfl rfl ?_
        refine TO.s rfl rfl rfl (StepS.pickF rfl hb10 rfl) ?_
        exact TO.up1 3 0 rfl rfl (by rw [hb10]; rfl) rfl
    refine TO.s rfl rfl rfl (StepS.move rfl) ?_
    refine TO.mid1 8 56 (.bool (((a1.1 != 3) && (!((decide (a1.2.1 ≥ 0)) && (decide (a1.2.1 < 6))))) || ((a1.1 != 1) && (!((decide (a1.2.2.1 ≥ 0)) && (decide (a1.2.2.1 < (a0.1.length : Int)))))))) ?_ ?_
    · refine bcase (((a1.1 != 3) && (!((decide (a1.2.1 ≥ 0)) && (decide (a1.2.1 < 6)))))) (fun hb11 => ?_) (fun hb11 => ?_)
      · refine TO.skip rfl rfl rfl (skipT hb11) rfl rfl ?_
        refine TO.skip rfl rfl rfl (skipT hb11) rfl rfl ?_
        refine TO.skip rfl rfl rfl (skipT hb11) rfl rfl ?_
        refine TO.skip rfl rfl rfl (skipT hb11) rfl rfl ?_
        refine TO.skip rfl rfl rfl skipU rfl rfl ?_
        refine TO.skip rfl rfl rfl skipU rfl rfl ?_
        refine TO.skip rfl rfl rfl (skipT hb11) rfl rfl ?_
        refine TO.s rfl rfl rfl (StepS.pickT rfl hb11 rfl) ?_
        exact TO.up1 8 0 rfl rfl (by rw [hb11]; rfl) rfl
      · refine TO.sw rfl rfl rfl hb11 rfl rfl (StepS.fld rfl kfieldB_106_0_0_true) ?_
        refine TO.sw rfl rfl rfl hb11 rfl rfl (StepS.ldB rfl (Ent.at 0 rfl) kscalB_3_true rfl) ?_
        refine TO.sw rfl rfl rfl hb11 rfl rfl (StepS.cmp rfl rfl rfl) ?_
        refine TO.sw rfl rfl rfl hb11 rfl rfl (StepS.move rfl) ?_
        refine TO.mid1 3 55 (.bool ((a1.1 != 1) && (!((decide (a1.2.2.1 ≥ 0)) && (decide (a1.2.2.1 < (a0.1.length : Int))))))) ?_ ?_
        · refine bcase ((a1.1 != 1)) (fun hb12 => ?_) (fun hb12 => ?_)
          · refine TO.sw rfl rfl rfl hb12 rfl rfl (StepS.move rfl) ?_
            refine TO.sw rfl rfl rfl hb12 rfl rfl (StepS.not rfl) ?_
            refine TO.sw rfl rfl rfl hb11 rfl rfl (StepS.pickT rfl hb12 rfl) ?_
            exact TO.up1 3 0 rfl rfl (by rw [hb12]; rfl) rfl
          · refine TO.skip rfl rfl rfl (skipF hb12) rfl rfl ?_
            refine TO.skip rfl rfl rfl (skipF hb12) rfl rfl ?_
            refine TO.sw rfl rfl rfl hb11 rfl rfl (StepS.pickF rfl hb12 rfl) ?_
            exact TO.up1 3 0 rfl rfl (by rw [hb12]; rfl) rfl
        refine TO.s rfl rfl rfl (StepS.pickF rfl hb11 rfl) ?_
        exact TO.up1 6 0 rfl rfl (by rw [hb11]; rfl) rfl
    refine TO.s rfl rfl rfl (StepS.assign rfl) ?_
    refine TO.code ?_
    refine TC.cond rfl (fun hc13 => ?_) (fun hc13 => ?_)
    · replace hm := cond_t hc13 hm
      refine TC.k ?_
      refine TC.region ?_
      refine TO.s rfl rfl rfl (StepS.assign rfl) ?_
      refine TO.code ?_
      cases hm
      refine TC.ret fun a w e s => ?_
      refine FRet.mk1 (P := Try.prog) (fn := Try.f67) (t := 6) e rfl rfl ?_
      refine ⟨_, _, rfl, ⟨(h0_1), (h0_2), rfl, rfl⟩, ?_⟩
      refine s.mono fun _ s => ?_
      replace s := Sat.front 3 rfl s
      replace s := Sat.front 3 rfl s
      replace s := Sat.front 3 rfl s
      replace s := Sat.erase 3 s
      exact s
    · replace hm := cond_f hc13 hm
      refine TC.k ?_
      refine TC.region ?_
      refine TO.s rfl rfl rfl (StepS.fld rfl kfieldB_106_0_0_true) ?_
      refine TO.s rfl rfl rfl (StepS.ldB rfl (Ent.at 0 rfl) kscalB_3_true rfl) ?_
      refine TO.s rfl rfl rfl (StepS.cmp rfl rfl rfl) ?_
      refine TO.s rfl rfl rfl (StepS.assign rfl) ?_
      refine TO.code ?_
      refine TC.cond rfl (fun hc14 => ?_) (fun hc14 => ?_)
      · replace hm := cond_t hc14 hm
        refine TC.k ?_
        refine TC.k ?_
        refine TC.region_still kfollows_mixedOrders_true (by kernel_rfl) ?_
        refine TS.s rfl rfl rfl (StepS.move rfl) ?_
        refine TS.s rfl rfl rfl (StepS.nilc rfl) ?_
        refine TS.s rfl rfl rfl (StepS.fld rfl kfieldB_158_1_1_true) ?_
        refine TS.s rfl rfl rfl (StepS.ldB rfl (Ent.at 1 rfl) kscalB_36_true rfl) ?_
        refine TS.s rfl rfl rfl (StepS.fld rfl kfieldB_106_2_2_true) ?_
        refine TS.s rfl rfl rfl (StepS.ldB rfl (Ent.at 0 rfl) kscalB_3_true rfl) ?_
        obtain ⟨k15, hk16, hm⟩ := bind_some hm
        refine TS.s rfl rfl rfl (StepS.shrk rfl rfl hk16) ?_
        refine TS.s rfl rfl rfl (StepS.bitU (n := 1#32) rfl rfl rfl) ?_
        refine TS.s rfl rfl rfl (StepS.cmpU (n := 1#32) rfl rfl rfl) ?_
        refine TS.code ?_
        refine TC.cond rfl (fun hc17 => ?_) (fun hc17 => ?_)
        · replace hm := cond_t hc17 hm
          refine TC.k ?_
          refine TC.region ?_
          refine TO.s rfl rfl rfl (StepS.assign rfl) ?_
          refine TO.code ?_
          cases hm
          refine TC.ret fun a w e s => ?_
          refine FRet.mk1 (P := Try.prog) (fn := Try.f67) (t := 6) e rfl rfl ?_
          refine ⟨_, _, rfl, ⟨(h0_1), (h0_2), rfl, rfl⟩, ?_⟩
          refine s.mono fun _ s => ?_
          replace s := Sat.front 3 rfl s
          replace s := Sat.front 3 rfl s
          replace s := Sat.front 3 rfl s
          replace s := Sat.erase 3 s
          exact s
        · replace hm := cond_f hc17 hm
          refine TC.skipk ?_
          refine TC.k ?_
          refine TC.region_tail 10 kfollows_mixedOrders_true (by kernel_rfl) ?_
          refine TS.s rfl rfl rfl (StepS.move rfl) ?_
          refine TS.s rfl rfl rfl (StepS.nilc rfl) ?_
          refine TS.s rfl rfl rfl (StepS.fld rfl kfieldB_158_1_1_true) ?_
          refine TS.s rfl rfl rfl (StepS.ldB rfl (Ent.at 1 rfl) kscalB_36_true rfl) ?_
          refine TS.s rfl rfl rfl (StepS.fld rfl kfieldB_106_2_2_true) ?_
          refine TS.s rfl rfl rfl (StepS.ldB rfl (Ent.at 0 rfl) kscalB_3_true rfl) ?_
          obtain ⟨k18, hk19, hm⟩ := bind_some hm
          refine TS.s rfl rfl rfl (StepS.shlk (m := 1#32) rfl rfl hk19) ?_
          refine TS.s rfl rfl rfl (StepS.bitU rfl rfl rfl) ?_
          refine TS.s rfl rfl rfl (StepS.nilc rfl) ?_
          refine TS.s rfl rfl rfl (StepS.fld rfl kfieldB_158_1_1_true) ?_
          refine TS.nil ?_
          refine TO.at ?_
          refine TO.stB (us := [U (a0.2.1 ||| ((1#32) <<< k18))]) 1 [h0_1, U (a0.2.1 ||| ((1#32) <<< k18)), I a0.2.2.1.1.1, I a0.2.2.1.1.2.1, .bool a0.2.2.1.1.2.2.1, I a0.2.2.1.1.2.2.2.1, U a0.2.2.1.1.2.2.2.2.1, I a0.2.2.1.1.2.2.2.2.2.1, I a0.2.2.1.1.2.2.2.2.2.2.1, I a0.2.2.1.1.2.2.2.2.2.2.2, I a0.2.2.1.2.1.1, I a0.2.2.1.2.1.2.1, .bool a0.2.2.1.2.1.2.2.1, I a0.2.2.1.2.1.2.2.2.1, U a0.2.2.1.2.1.2.2.2.2.1, I a0.2.2.1.2.1.2.2.2.2.2.1, I a0.2.2.1.2.1.2.2.2.2.2.2.1, I a0.2.2.1.2.1.2.2.2.2.2.2.2, I a0.2.2.1.2.2.1.1, I a0.2.2.1.2.2.1.2.1, .bool a0.2.2.1.2.2.1.2.2.1, I a0.2.2.1.2.2.1.2.2.2.1, U a0.2.2.1.2.2.1.2.2.2.2.1, I a0.2.2.1.2.2.1.2.2.2.2.2.1, I a0.2.2.1.2.2.1.2.2.2.2.2.2.1, I a0.2.2.1.2.2.1.2.2.2.2.2.2.2, I a0.2.2.1.2.2.2.1.1, I a0.2.2.1.2.2.2.1.2.1, .bool a0.2.2.1.2.2.2.1.2.2.1, I a0.2.2.1.2.2.2.1.2.2.2.1, U a0.2.2.1.2.2.2.1.2.2.2.2.1, I a0.2.2.1.2.2.2.1.2.2.2.2.2.1, I a0.2.2.1.2.2.2.1.2.2.2.2.2.2.1, I a0.2.2.1.2.2.2.1.2.2.2.2.2.2.2, I a0.2.2.1.2.2.2.2.1.1, I a0.2.2.1.2.2.2.2.1.2.1, .bool a0.2.2.1.2.2.2.2.1.2.2.1, I a0.2.2.1.2.2.2.2.1.2.2.2.1, U a0.2.2.1.2.2.2.2.1.2.2.2.2.1, I a0.2.2.1.2.2.2.2.1.2.2.2.2.2.1, I a0.2.2.1.2.2.2.2.1.2.2.2.2.2.2.1, I a0.2.2.1.2.2.2.2.1.2.2.2.2.2.2.2, I a0.2.2.1.2.2.2.2.2.1, I a0.2.2.1.2.2.2.2.2.2.1, .bool a0.2.2.1.2.2.2.2.2.2.2.1, I a0.2.2.1.2.2.2.2.2.2.2.2.1, U a0.2.2.1.2.2.2.2.2.2.2.2.2.1, I a0.2.2.1.2.2.2.2.2.2.2.2.2.2.1, I a0.2.2.1.2.2.2.2.2.2.2.2.2.2.2.1, I a0.2.2.1.2.2.2.2.2.2.2.2.2.2.2.2, h0_2] rfl rfl rfl ksizeB_36_1_true rfl rfl rfl (by simp [Value.oneCell']) rfl ?_
          refine TO.code ?_
          refine TC.k ?_
          refine TC.region ?_
          refine TO.s rfl rfl rfl (StepS.assign rfl) ?_
          refine TO.code ?_
          cases hm
          refine TC.ret fun a w e s => ?_
          refine FRet.mk1 (P := Try.prog) (fn := Try.f67) (t := 6) e rfl rfl ?_
          refine ⟨_, _, rfl, ⟨(h0_1), (h0_2), rfl, rfl⟩, ?_⟩
          refine s.mono fun _ s => ?_
          replace s := Sat.front 3 rfl s
          replace s := Sat.front 3 rfl s
          replace s := Sat.front 3 rfl s
          replace s := Sat.erase 3 s
          exact s
      · replace hm := cond_f hc14 hm
        refine TC.skipk ?_
        refine TC.k ?_
        refine TC.region_still kfollows_mixedOrders_true (by kernel_rfl) ?_
        refine TS.s rfl rfl rfl (StepS.move rfl) ?_
        refine TS.s rfl rfl rfl (StepS.fld rfl kfieldB_106_1_1_true) ?_
        refine TS.s rfl rfl rfl (StepS.ldB rfl (Ent.at 0 rfl) kscalB_3_true rfl) ?_
        refine TS.s rfl rfl rfl (StepS.nilc rfl) ?_
        refine TS.s rfl rfl rfl (StepS.fld rfl kfieldB_158_2_2_true) ?_
        obtain ⟨x20, hx21, hm⟩ := bind_some hm
        refine TS.s rfl rfl rfl (StepS.aidx (j := a1.2.1.toNat * 8) rfl rfl karrB_156_6_155_8_true ⟨(idx_spec hx21).1, idx_lt hx21⟩ rfl) ?_
        refine TS.s rfl rfl rfl (StepS.assign rfl) ?_
        refine TS.code ?_
        refine TC.k ?_
        refine TC.k ?_
        refine TC.region_still kfollows_mixedOrders_true (by kernel_rfl) ?_
        refine TS.s rfl rfl rfl (StepS.fld rfl kfieldB_106_0_0_true) ?_
        refine TS.s rfl rfl rfl (StepS.ldB rfl (Ent.at 0 rfl) kscalB_3_true rfl) ?_
        refine TS.s rfl rfl rfl (StepS.cmp rfl rfl rfl) ?_
        refine TS.s rfl rfl rfl (StepS.move rfl) ?_
        refine TS.s rfl rfl rfl (StepS.nilc rfl) ?_
        refine TS.s rfl rfl rfl (StepS.fld rfl kfieldB_155_0_0_true) ?_
        refine TS.s rfl rfl rfl (StepS.ldD (i := a1.2.1) (sz := 8) (k := 0) [h0_1, U a0.2.1] [h0_2] (f := cTiibiiu32iii) (xs := tl6 a0.2.2.1) (y := x20) rfl (Ent.at 1 rfl) kscalB_3_true rfl (by simp only [List.length_cons, List.length_nil] <;> omega) (fun _ => rfl) hx21 rfl) ?_
        refine TS.s rfl rfl rfl (StepS.cmp rfl rfl rfl) ?_
        refine TS.s rfl rfl rfl (StepS.eqB kunderlying_4_some_bool rfl rfl) ?_
        refine TS.code ?_
        refine TC.cond rfl (fun hc22 => ?_) (fun hc22 => ?_)
        · replace hm := cond_t hc22 hm
          refine TC.k ?_
          refine TC.region ?_
          refine TO.s rfl rfl rfl (StepS.assign rfl) ?_
          refine TO.code ?_
          cases hm
          refine TC.ret fun a w e s => ?_
          refine FRet.mk1 (P := Try.prog) (fn := Try.f67) (t := 6) e rfl rfl ?_
          refine ⟨_, _, rfl, ⟨(h0_1), (h0_2), rfl, rfl⟩, ?_⟩
          refine s.mono fun _ s => ?_
          replace s := Sat.front 3 rfl s
          replace s := Sat.front 3 rfl s
          replace s := Sat.front 3 rfl s
          replace s := Sat.erase 3 s
          exact s
        · replace hm := cond_f hc22 hm
          refine TC.skipk ?_
          refine TC.k ?_
          refine TC.block ?_
          refine TC.k ?_
          refine TC.region ?_
          refine TO.s rfl rfl rfl (StepS.fld rfl kfieldB_106_0_0_true) ?_
          refine TO.s rfl rfl rfl (StepS.ldB rfl (Ent.at 0 rfl) kscalB_3_true rfl) ?_
          refine TO.s rfl rfl rfl (StepS.cmp rfl rfl rfl) ?_
          refine TO.s rfl rfl rfl (StepS.assign rfl) ?_
          refine TO.code ?_
          refine TC.cond rfl (fun hc23 => ?_) (fun hc23 => ?_)
          · replace hm := cond_t hc23 hm
            refine TC.region ?_
            refine TO.s rfl rfl rfl (StepS.move rfl) ?_
            refine TO.s rfl rfl rfl (StepS.ldBA rfl (Ent.at 0 rfl) kaggB_106_4_true rfl rfl) ?_
            refine TO.s rfl rfl rfl (StepS.move rfl) ?_
            obtain ⟨r24, hc25, hm⟩ := bind_some hm
            refine TO.callO kcallB_99_true rfl rfl rfl (fun _ st => C99  hc25 st) ?_
            rintro _ _ ⟨b26, rfl, rfl⟩
            refine TO.s rfl rfl rfl (StepS.nilc rfl) ?_
            refine TO.s rfl rfl rfl (StepS.ldBA rfl (Ent.at 0 rfl) kaggB_155_8_true rfl rfl) ?_
            refine TO.s rfl rfl rfl (StepS.nilc rfl) ?_
            obtain ⟨z27, hz28, hm⟩ := bind_some hm
            refine TO.stD (i := a1.2.1) (sz := 8) (j := 0) (us := [I r24.1, I r24.2.1, .bool r24.2.2.1, I r24.2.2.2.1, U r24.2.2.2.2.1, I r24.2.2.2.2.2.1, I r24.2.2.2.2.2.2.1, I r24.2.2.2.2.2.2.2]) (cs' := [h0_1, U a0.2.1, I z27.1.1, I z27.1.2.1, .bool z27.1.2.2.1, I z27.1.2.2.2.1, U z27.1.2.2.2.2.1, I z27.1.2.2.2.2.2.1, I z27.1.2.2.2.2.2.2.1, I z27.1.2.2.2.2.2.2.2, I z27.2.1.1, I z27.2.1.2.1, .bool z27.2.1.2.2.1, I z27.2.1.2.2.2.1, U z27.2.1.2.2.2.2.1, I z27.2.1.2.2.2.2.2.1, I z27.2.1.2.2.2.2.2.2.1, I z27.2.1.2.2.2.2.2.2.2, I z27.2.2.1.1, I z27.2.2.1.2.1, .bool z27.2.2.1.2.2.1, I z27.2.2.1.2.2.2.1, U z27.2.2.1.2.2.2.2.1, I z27.2.2.1.2.2.2.2.2.1, I z27.2.2.1.2.2.2.2.2.2.1, I z27.2.2.1.2.2.2.2.2.2.2, I z27.2.2.2.1.1, I z27.2.2.2.1.2.1, .bool z27.2.2.2.1.2.2.1, I z27.2.2.2.1.2.2.2.1, U z27.2.2.2.1.2.2.2.2.1, I z27.2.2.2.1.2.2.2.2.2.1, I z27.2.2.2.1.2.2.2.2.2.2.1, I z27.2.2.2.1.2.2.2.2.2.2.2, I z27.2.2.2.2.1.1, I z27.2.2.2.2.1.2.1, .bool z27.2.2.2.2.1.2.2.1, I z27.2.2.2.2.1.2.2.2.1, U z27.2.2.2.2.1.2.2.2.2.1, I z27.2.2.2.2.1.2.2.2.2.2.1, I z27.2.2.2.2.1.2.2.2.2.2.2.1, I z27.2.2.2.2.1.2.2.2.2.2.2.2, I z27.2.2.2.2.2.1, I z27.2.2.2.2.2.2.1, .bool z27.2.2.2.2.2.2.2.1, I z27.2.2.2.2.2.2.2.2.1, U z27.2.2.2.2.2.2.2.2.2.1, I z27.2.2.2.2.2.2.2.2.2.2.1, I z27.2.2.2.2.2.2.2.2.2.2.2.1, I z27.2.2.2.2.2.2.2.2.2.2.2.2, h0_2]) 2 [h0_1, U a0.2.1] [h0_2] (f := cTiibiiu32iii) (xs := tl6 a0.2.2.1) (xs' := tl6 z27) (y0 := x20) (y1 := (r24.1, r24.2.1, r24.2.2.1, r24.2.2.2.1, r24.2.2.2.2.1, r24.2.2.2.2.2.1, (r24.2.2.2.2.2.2.1, r24.2.2.2.2.2.2.2))) rfl rfl rfl ksizeB_155_8_true rfl rfl (by simp [Value.oneCell']) rfl (by simp only [List.length_cons, List.length_nil] <;> omega) (fun _ => rfl) hx21 rfl rfl (as6_spec hz28) rfl ?_
            refine TO.code ?_
            refine TC.k ?_
            refine TC.region ?_
            refine TO.s rfl rfl rfl (StepS.assign rfl) ?_
            refine TO.code ?_
            cases hm
            refine TC.ret fun a w e s => ?_
            refine FRet.mk1 (P := Try.prog) (fn := Try.f67) (t := 6) e rfl rfl ?_
            refine ⟨_, _, rfl, ⟨(h0_1), (h0_2), rfl, rfl⟩, ?_⟩
            refine s.mono fun _ s => ?_
            replace s := Sat.front 4 rfl s
            replace s := Sat.front 4 rfl s
            replace s := Sat.front 4 rfl s
            replace s := Sat.erase 3 s
            replace s := Sat.erase 3 s
            exact s
          · replace hm := cond_f hc23 hm
            refine TC.k ?_
            refine TC.region_still kfollows_mixedOrders_true (by kernel_rfl) ?_
            refine TS.s rfl rfl rfl (StepS.move rfl) ?_
            refine TS.s rfl rfl rfl (StepS.nilc rfl) ?_
            refine TS.s rfl rfl rfl (StepS.fld rfl kfieldB_155_4_4_true) ?_
            refine TS.s rfl rfl rfl (StepS.ldD (i := a1.2.1) (sz := 8) (k := 4) [h0_1, U a0.2.1] [h0_2] (f := cTiibiiu32iii) (xs := tl6 a0.2.2.1) (y := x20) rfl (Ent.at 1 rfl) kscalB_36_true rfl (by simp only [List.length_cons, List.length_nil] <;> omega) (fun _ => rfl) hx21 rfl) ?_
            refine TS.s rfl rfl rfl (StepS.fld rfl kfieldB_106_2_2_true) ?_
            refine TS.s rfl rfl rfl (StepS.ldB rfl (Ent.at 0 rfl) kscalB_3_true rfl) ?_
            obtain ⟨k29, hk30, hm⟩ := bind_some hm
            refine TS.s rfl rfl rfl (StepS.shrk rfl rfl hk30) ?_
            refine TS.s rfl rfl rfl (StepS.bitU (n := 1#32) rfl rfl rfl) ?_
            refine TS.s rfl rfl rfl (StepS.cmpU (n := 1#32) rfl rfl rfl) ?_
            refine TS.s rfl rfl rfl (StepS.assign rfl) ?_
            refine TS.code ?_
            refine TC.cond rfl (fun hc31 => ?_) (fun hc31 => ?_)
            · replace hm := cond_t hc31 hm
              refine TC.k ?_
              refine TC.region ?_
              refine TO.s rfl rfl rfl (StepS.assign rfl) ?_
              refine TO.code ?_
              cases hm
              refine TC.ret fun a w e s => ?_
              refine FRet.mk1 (P := Try.prog) (fn := Try.f67) (t := 6) e rfl rfl ?_
              refine ⟨_, _, rfl, ⟨(h0_1), (h0_2), rfl, rfl⟩, ?_⟩
              refine s.mono fun _ s => ?_
              replace s := Sat.front 3 rfl s
              replace s := Sat.front 3 rfl s
              replace s := Sat.front 3 rfl s
              replace s := Sat.erase 3 s
              exact s
            · replace hm := cond_f hc31 hm
              refine TC.k ?_
              refine TC.region_still kfollows_mixedOrders_true (by kernel_rfl) ?_
              refine TS.s rfl rfl rfl (StepS.move rfl) ?_
              refine TS.s rfl rfl rfl (StepS.nilc rfl) ?_
              refine TS.s rfl rfl rfl (StepS.fld rfl kfieldB_158_1_1_true) ?_
              refine TS.s rfl rfl rfl (StepS.ldB rfl (Ent.at 1 rfl) kscalB_36_true rfl) ?_
              refine TS.s rfl rfl rfl (StepS.fld rfl kfieldB_106_2_2_true) ?_
              refine TS.s rfl rfl rfl (StepS.ldB rfl (Ent.at 0 rfl) kscalB_3_true rfl) ?_
              obtain ⟨k32, hk33, hm⟩ := bind_some hm
              refine TS.s rfl rfl rfl (StepS.shrk rfl rfl hk33) ?_
              refine TS.s rfl rfl rfl (StepS.bitU (n := 1#32) rfl rfl rfl) ?_
              refine TS.s rfl rfl rfl (StepS.cmpU (n := 1#32) rfl rfl rfl) ?_
              refine TS.s rfl rfl rfl (StepS.assign rfl) ?_
              refine TS.code ?_
              refine TC.cond rfl (fun hc34 => ?_) (fun hc34 => ?_)
              · replace hm := cond_t hc34 hm
                refine TC.k ?_
                refine TC.region ?_
                refine TO.s rfl rfl rfl (StepS.assign rfl) ?_
                refine TO.code ?_
                cases hm
                refine TC.ret fun a w e s => ?_
                refine FRet.mk1 (P := Try.prog) (fn := Try.f67) (t := 6) e rfl rfl ?_
                refine ⟨_, _, rfl, ⟨(h0_1), (h0_2), rfl, rfl⟩, ?_⟩
                refine s.mono fun _ s => ?_
                replace s := Sat.front 3 rfl s
                replace s := Sat.front 3 rfl s
                replace s := Sat.front 3 rfl s
                replace s := Sat.erase 3 s
                exact s
              · replace hm := cond_f hc34 hm
                refine TC.region ?_
                refine TO.s rfl rfl rfl (StepS.move rfl) ?_
                refine TO.s rfl rfl rfl (StepS.fld rfl kfieldB_106_1_1_true) ?_
                refine TO.s rfl rfl rfl (StepS.ldB rfl (Ent.at 0 rfl) kscalB_3_true rfl) ?_
                refine TO.s rfl rfl rfl (StepS.fld rfl kfieldB_106_2_2_true) ?_
                refine TO.s rfl rfl rfl (StepS.ldB rfl (Ent.at 0 rfl) kscalB_3_true rfl) ?_
                refine TO.s rfl rfl rfl (StepS.move rfl) ?_
                refine TO.ghost (fun _ s => Sat.front 3 rfl s) ?_
                refine TO.ghost (fun _ s => Sat.front 3 rfl s) ?_
                refine TO.ghost (fun _ s => Sat.front 3 rfl s) ?_
                obtain ⟨r35, hc36, hm⟩ := bind_some hm
                refine TO.callO kcallB_100_true rfl rfl rfl (fun _ st => C100 (a0 := (a0.1, a0.2.2.1, a0.2.2.2))  hc36 st) ?_
                rintro _ _ ⟨v37, v39, rfl, rfl⟩
                refine TO.code ?_
                refine TC.k ?_
                refine TC.region ?_
                refine TO.s rfl rfl rfl (StepS.assign rfl) ?_
                refine TO.code ?_
                cases hm
                refine TC.ret fun a w e s => ?_
                refine FRet.mk1 (P := Try.prog) (fn := Try.f67) (t := 6) e rfl rfl ?_
                refine ⟨_, _, rfl, ⟨(v37), (v39), rfl, rfl⟩, ?_⟩
                refine s.mono fun _ s => ?_
                replace s := Sat.front 2 rfl s
                replace s := Sat.front 2 rfl s
                replace s := Sat.front 2 rfl s
                replace s := Sat.erase 3 s
                exact s

set_option maxRecDepth 100000 in
theorem C33 {B : World} {L : List HP} {a0 : Int} {a1 : List (Int × Int × Int × Int)} {h1 : Value} {r0 : (List Int) × (List (Int × Int × Int × Bool × Int)) × (List Int) × List Int} {r1 : Int} (e1 : Ent L (Rd 4 h1 (a1.map cTiiii))) (hm : F33 a0 a1 = some (r0, r1)) {w : World} (st : St B L w) : Calls Try.prog 33 #[I a0, h1] w (fun e w' => ∃ v M, e = .returned v ∧ (∃ (qv1 : Value) (qv2 : Value) (qv3 : Value) (qv4 : Value), v = .tuple #[.agg #[qv1, qv2, qv3, qv4], I r1] ∧ M = (OwnS 28 1 qv1 (r0.1.map cI) :: OwnS 161 5 qv2 (r0.2.1.map cTiiibi) :: OwnS 3 1 qv3 (r0.2.2.1.map cI) :: OwnS 3 1 qv4 (r0.2.2.2.map cI) :: L)) ∧ St B M w') := by
  refine calls_of (N := 75) (L := L) (args := [I a0, h1]) Try.func33 rfl rfl rfl ?_ st
  dsimp only [F33] at hm
  refine TC.k ?_
  refine TC.region ?_
  refine TO.alloc kinfo_69_bind_zero_some_agg_slice_none_0_0_slice_none_0_0_slice_none_0_0_slice_none_0_0 rfl rfl fun b5 => ?_
  refine TO.s rfl rfl rfl (StepS.assign rfl) ?_
  refine TO.code ?_
  refine TC.k ?_
  refine TC.k ?_
  refine TC.region ?_
  refine TO.s rfl rfl rfl (StepS.move rfl) ?_
  refine TO.s rfl rfl rfl (StepS.cmp rfl rfl rfl) ?_
  refine TO.s rfl rfl rfl (StepS.move rfl) ?_
  refine TO.mid1 3 17 (.bool ((decide (a0 < 1)) || (decide (a0 > 6)))) ?_ ?_
  · refine bcase ((decide (a0 < 1))) (fun hb6 => ?_) (fun hb6 => ?_)
    · refine TO.skip rfl rfl rfl (skipT hb6) rfl rfl ?_
      refine TO.skip rfl rfl rfl (skipT hb6) rfl rfl ?_
      refine TO.s rfl rfl rfl (StepS.pickT rfl hb6 rfl) ?_
      exact TO.up1 3 0 rfl rfl (by rw [hb6]; rfl) rfl
    · refine TO.sw rfl rfl rfl hb6 rfl rfl (StepS.move rfl) ?_
      refine TO.sw rfl rfl rfl hb6 rfl rfl (StepS.cmp rfl rfl rfl) ?_
      refine TO.s rfl rfl rfl (StepS.pickF rfl hb6 rfl) ?_
      exact TO.up1 3 0 rfl rfl (by rw [hb6]; rfl) rfl
  refine TO.s rfl rfl rfl (StepS.move rfl) ?_
  refine TO.mid1 4 22 (.bool (((decide (a0 < 1)) || (decide (a0 > 6))) || (decide ((a1.length : Int) > 60)))) ?_ ?_
  · refine bcase (((decide (a0 < 1)) || (decide (a0 > 6)))) (fun hb7 => ?_) (fun hb7 => ?_)
    · refine TO.skip rfl rfl rfl (skipT hb7) rfl rfl ?_
      refine TO.skip rfl rfl rfl (skipT hb7) rfl rfl ?_
      refine TO.skip rfl rfl rfl (skipT hb7) rfl rfl ?_
      refine TO.s rfl rfl rfl (StepS.pickT rfl hb7 rfl) ?_
      exact TO.up1 4 0 rfl rfl (by rw [hb7]; rfl) rfl
    · refine TO.sw rfl rfl rfl hb7 rfl rfl (StepS.move rfl) ?_
      refine TO.sw rfl rfl rfl hb7 rfl rfl (StepS.lenm rfl e1.tl ksliceB_23_106_4_true rfl) ?_
      refine TO.sw rfl rfl rfl hb7 rfl rfl (StepS.cmp rfl rfl rfl) ?_
      refine TO.s rfl rfl rfl (StepS.pickF rfl hb7 rfl) ?_
      exact TO.up1 4 0 rfl rfl (by rw [hb7]; rfl) rfl
  refine TO.code ?_
  refine TC.cond rfl (fun hc8 => ?_) (fun hc8 => ?_)
  · replace hm := cond_t hc8 hm
    refine TC.k ?_
    refine TC.region ?_
    refine TO.s rfl rfl rfl (StepS.build (cs := [.slice none 0 0, .slice none 0 0, .slice none 0 0, .slice none 0 0]) rfl (by kernel_rfl)) ?_
    refine TO.stB (us := [.slice none 0 0, .slice none 0 0, .slice none 0 0, .slice none 0 0]) 0 [.slice none 0 0, .slice none 0 0, .slice none 0 0, .slice none 0 0] rfl rfl rfl ksizeB_69_4_true rfl rfl rfl (by simp [Value.oneCell']) rfl ?_
    refine TO.s rfl rfl rfl (StepS.assign rfl) ?_
    refine TO.code ?_
    cases hm
    refine TC.ret fun a w e s => ?_
    refine FRet.cell2 (P := Try.prog) (fn := Try.f33) e s rfl rfl rfl (Ent.at 0 rfl) kaggB_69_4_true rfl ?_
    refine ⟨_, _, rfl, ⟨(.slice none 0 0), (.slice none 0 0), (.slice none 0 0), (.slice none 0 0), rfl, rfl⟩, ?_⟩
    refine s.mono fun _ s => ?_
    replace s := Sat.nilS (e := 3) (sz := 1) (f := cI) s
    replace s := Sat.nilS (e := 3) (sz := 1) (f := cI) s
    replace s := Sat.nilS (e := 161) (sz := 5) (f := cTiiibi) s
    replace s := Sat.nilS (e := 28) (sz := 1) (f := cI) s
    replace s := Sat.erase 4 s
    exact s
  · replace hm := cond_f hc8 hm
    refine TC.skipk ?_
    refine TC.k ?_
    refine TC.region ?_
    refine TO.s rfl rfl rfl (StepS.move rfl) ?_
    obtain ⟨y9, hk10, hm⟩ := bind_some hm
    refine TO.mkS (f := cTii) (za := (0, 0)) kelemB_151_153_2_16_true kinfo_153_bind_zero_some_agg_I_0_I_0 rfl (by decide) rfl rfl hk10 rfl fun v11 => ?_
    refine TO.pure (fun _ s => Rd.one (OwnS.rd (Ent.at 0 rfl)) s) fun oc13 => ?_
    refine TO.s rfl rfl rfl (StepS.buildS (us := [(0, .agg #[v11])]) (cs := [v11, U 0, I 0, I 0, .bool false, I 0, U 0, I 0, I 0, I 0, I 0, I 0, .bool false, I 0, U 0, I 0, I 0, I 0, I 0, I 0, .bool false, I 0, U 0, I 0, I 0, I 0, I 0, I 0, .bool false, I 0, U 0, I 0, I 0, I 0, I 0, I 0, .bool false, I 0, U 0, I 0, I 0, I 0, I 0, I 0, .bool false, I 0, U 0, I 0, I 0, I 0, .slice none 0 0]) rfl (by simp only [List.map_cons, List.map_nil, oc13.2] <;> rfl) (by kernel_rfl)) ?_
    refine TO.box (cs := [v11, U 0, I 0, I 0, .bool false, I 0, U 0, I 0, I 0, I 0, I 0, I 0, .bool false, I 0, U 0, I 0, I 0, I 0, I 0, I 0, .bool false, I 0, U 0, I 0, I 0, I 0, I 0, I 0, .bool false, I 0, U 0, I 0, I 0, I 0, I 0, I 0, .bool false, I 0, U 0, I 0, I 0, I 0, I 0, I 0, .bool false, I 0, U 0, I 0, I 0, I 0, .slice none 0 0]) rfl rfl rfl fun b14 => ?_
    refine TO.s rfl rfl rfl (StepS.assign rfl) ?_
    refine TO.code ?_
    refine TC.k ?_
    refine TC.region ?_
    refine TO.alloc kinfo_69_bind_zero_some_agg_slice_none_0_0_slice_none_0_0_slice_none_0_0_slice_none_0_0 rfl rfl fun b15 => ?_
    refine TO.code ?_
    refine TC.k ?_
    refine TC.k ?_
    refine TC.region ?_
    refine TO.s rfl rfl rfl (StepS.move rfl) ?_
    refine TO.s rfl rfl rfl (StepS.lenm rfl e1.tl.tl.tl.tl ksliceB_23_106_4_true rfl) ?_
    refine TO.s rfl rfl rfl (StepS.move rfl) ?_
    refine TO.code ?_
    obtain ⟨o51, hw52, hm⟩ := bind_some hm
    refine TC.loop hw52 (fun (y18, y21, y24, z25, x26, x27) => fun a w => ∃ v16 : Value, ∃ v19 : Value, ∃ v22 : Value, Mid 75 B [(4, .pointer (some ⟨b5, 0, none⟩)), (6, .pointer (some ⟨b14, 0, none⟩)), (7, .pointer (some ⟨b15, 0, none⟩)), (28, h1), (29, I (a1.length : Int)), (30, I x27)] (OwnS 28 1 v16 (y18.map cI) :: OwnS 153 2 v19 (y21.map cTii) :: OwnS 161 5 v22 (y24.map cTiiibi) :: Bx b15 69 [v16, .slice none 0 0, .slice none 0 0, .slice none 0 0] :: Bx b14 158 [v19, U x26, I z25.1.1, I z25.1.2.1, .bool z25.1.2.2.1, I z25.1.2.2.2.1, U z25.1.2.2.2.2.1, I z25.1.2.2.2.2.2.1, I z25.1.2.2.2.2.2.2.1, I z25.1.2.2.2.2.2.2.2, I z25.2.1.1, I z25.2.1.2.1, .bool z25.2.1.2.2.1, I z25.2.1.2.2.2.1, U z25.2.1.2.2.2.2.1, I z25.2.1.2.2.2.2.2.1, I z25.2.1.2.2.2.2.2.2.1, I z25.2.1.2.2.2.2.2.2.2, I z25.2.2.1.1, I z25.2.2.1.2.1, .bool z25.2.2.1.2.2.1, I z25.2.2.1.2.2.2.1, U z25.2.2.1.2.2.2.2.1, I z25.2.2.1.2.2.2.2.2.1, I z25.2.2.1.2.2.2.2.2.2.1, I z25.2.2.1.2.2.2.2.2.2.2, I z25.2.2.2.1.1, I z25.2.2.2.1.2.1, .bool z25.2.2.2.1.2.2.1, I z25.2.2.2.1.2.2.2.1, U z25.2.2.2.1.2.2.2.2.1, I z25.2.2.2.1.2.2.2.2.2.1, I z25.2.2.2.1.2.2.2.2.2.2.1, I z25.2.2.2.1.2.2.2.2.2.2.2, I z25.2.2.2.2.1.1, I z25.2.2.2.2.1.2.1, .bool z25.2.2.2.2.1.2.2.1, I z25.2.2.2.2.1.2.2.2.1, U z25.2.2.2.2.1.2.2.2.2.1, I z25.2.2.2.2.1.2.2.2.2.2.1, I z25.2.2.2.2.1.2.2.2.2.2.2.1, I z25.2.2.2.2.1.2.2.2.2.2.2.2, I z25.2.2.2.2.2.1, I z25.2.2.2.2.2.2.1, .bool z25.2.2.2.2.2.2.2.1, I z25.2.2.2.2.2.2.2.2.1, U z25.2.2.2.2.2.2.2.2.2.1, I z25.2.2.2.2.2.2.2.2.2.2.1, I z25.2.2.2.2.2.2.2.2.2.2.2.1, I z25.2.2.2.2.2.2.2.2.2.2.2.2, v22] :: Bx b5 69 [.slice none 0 0, .slice none 0 0, .slice none 0 0, .slice none 0 0] :: L) a w) (fun (y42, y45, y48, z49, x50) => fun a w => ∃ v40 : Value, ∃ v43 : Value, ∃ v46 : Value, Mid 75 B [(4, .pointer (some ⟨b5, 0, none⟩)), (6, .pointer (some ⟨b14, 0, none⟩)), (7, .pointer (some ⟨b15, 0, none⟩))] (OwnS 28 1 v40 (y42.map cI) :: OwnS 153 2 v43 (y45.map cTii) :: OwnS 161 5 v46 (y48.map cTiiibi) :: Bx b15 69 [v40, .slice none 0 0, .slice none 0 0, .slice none 0 0] :: Bx b14 158 [v43, U x50, I z49.1.1, I z49.1.2.1, .bool z49.1.2.2.1, I z49.1.2.2.2.1, U z49.1.2.2.2.2.1, I z49.1.2.2.2.2.2.1, I z49.1.2.2.2.2.2.2.1, I z49.1.2.2.2.2.2.2.2, I z49.2.1.1, I z49.2.1.2.1, .bool z49.2.1.2.2.1, I z49.2.1.2.2.2.1, U z49.2.1.2.2.2.2.1, I z49.2.1.2.2.2.2.2.1, I z49.2.1.2.2.2.2.2.2.1, I z49.2.1.2.2.2.2.2.2.2, I z49.2.2.1.1, I z49.2.2.1.2.1, .bool z49.2.2.1.2.2.1, I z49.2.2.1.2.2.2.1, U z49.2.2.1.2.2.2.2.1, I z49.2.2.1.2.2.2.2.2.1, I z49.2.2.1.2.2.2.2.2.2.1, I z49.2.2.1.2.2.2.2.2.2.2, I z49.2.2.2.1.1, I z49.2.2.2.1.2.1, .bool z49.2.2.2.1.2.2.1, I z49.2.2.2.1.2.2.2.1, U z49.2.2.2.1.2.2.2.2.1, I z49.2.2.2.1.2.2.2.2.2.1, I z49.2.2.2.1.2.2.2.2.2.2.1, I z49.2.2.2.1.2.2.2.2.2.2.2, I z49.2.2.2.2.1.1, I z49.2.2.2.2.1.2.1, .bool z49.2.2.2.2.1.2.2.1, I z49.2.2.2.2.1.2.2.2.1, U z49.2.2.2.2.1.2.2.2.2.1, I z49.2.2.2.2.1.2.2.2.2.2.1, I z49.2.2.2.2.1.2.2.2.2.2.2.1, I z49.2.2.2.2.1.2.2.2.2.2.2.2, I z49.2.2.2.2.2.1, I z49.2.2.2.2.2.2.1, .bool z49.2.2.2.2.2.2.2.1, I z49.2.2.2.2.2.2.2.2.1, U z49.2.2.2.2.2.2.2.2.2.1, I z49.2.2.2.2.2.2.2.2.2.2.1, I z49.2.2.2.2.2.2.2.2.2.2.2.1, I z49.2.2.2.2.2.2.2.2.2.2.2.2, v46] :: Bx b5 69 [.slice none 0 0, .slice none 0 0, .slice none 0 0, .slice none 0 0] :: L) a w) (fun (_ : Unit) _ _ => False) ?_ ?_ ?_ ?_
    · rintro ⟨y18, y21, y24, z25, x26, x27⟩ o51r hb53 a w ⟨v16, v19, v22, he, hs⟩
      dsimp only [F33_L0] at hb53
      refine TC.use ?_ he hs
      refine TC.k ?_
      refine TC.region ?_
      refine TO.s rfl rfl rfl (StepS.cmp rfl rfl rfl) ?_
      refine TO.code ?_
      refine TC.k ?_
      refine TC.cond rfl (fun hc54 => ?_) (fun hc54 => ?_)
      · replace hb53 := cond_t hc54 hb53
        refine TC.skipk ?_
        refine TC.k ?_
        refine TC.block ?_
        refine TC.k ?_
        refine TC.region ?_
        refine TO.s rfl rfl rfl (StepS.move rfl) ?_
        obtain ⟨x55, hx56, hb53⟩ := bind_some hb53
        refine TO.s rfl rfl rfl (StepS.idx rfl rfl e1.tl.tl.tl.tl.tl.tl ksliceB_23_106_4_true (idx_spec hx56).1 (idxm_lt hx56)) ?_
        refine TO.s rfl rfl rfl (StepS.ldE rfl e1.tl.tl.tl.tl.tl.tl kaggB_106_4_true rfl (idxm hx56)) ?_
        refine TO.alloc kinfo_106_bind_zero_some_agg_I_0_I_0_I_0_I_0 rfl rfl fun b57 => ?_
        refine TO.s rfl rfl rfl (StepS.assign rfl) ?_
        refine TO.stB (us := [I x55.1, I x55.2.1, I x55.2.2.1, I x55.2.2.2]) 0 [I x55.1, I x55.2.1, I x55.2.2.1, I x55.2.2.2] rfl rfl rfl ksizeB_106_4_true rfl rfl rfl (by simp [Value.oneCell']) rfl ?_
        refine TO.code ?_
        refine TC.region_any (Bx b57 106 [I x55.1, I x55.2.1, I x55.2.2.1, I x55.2.2.2] :: Bx b15 69 [v16, .slice none 0 0, .slice none 0 0, .slice none 0 0] :: Bx b5 69 [.slice none 0 0, .slice none 0 0, .slice none 0 0, .slice none 0 0] :: L) 9 10 kfollows_mixedOrders_true rfl ?_
        refine TA.takeW 0 rfl rfl rfl rfl (StepS.fld rfl kfieldB_69_0_0_true) (by kernel_rfl) (by kernel_rfl) (by kernel_rfl) rfl (.inr (fun _ s => Sat.by [6, 5, 2] 3 4 (by kernel_rfl) s)) ?_
        refine TA.take 1 rfl rfl rfl rfl (StepS.ldB rfl (Ent.at 1 rfl) kscalB_24_true rfl) (by kernel_rfl) (by kernel_rfl) (by kernel_rfl) (by kernel_rfl) (by kernel_rfl) (fun _ s => Sat.by [6, 5, 2] 3 4 (by kernel_rfl) s) ?_
        refine TA.takeW 2 rfl rfl rfl rfl (StepS.move rfl) (by kernel_rfl) (by kernel_rfl) (by kernel_rfl) rfl (.inr (fun _ s => Sat.by [6, 5, 2] 3 4 (by kernel_rfl) s)) ?_
        refine TA.take 3 rfl rfl rfl rfl (StepS.ldBA rfl (Ent.at 0 rfl) kaggB_106_4_true rfl rfl) (by kernel_rfl) (by kernel_rfl) (by kernel_rfl) (by kernel_rfl) (by kernel_rfl) (fun _ s => Sat.by [6, 5, 2] 3 4 (by kernel_rfl) s) ?_
        refine TA.takeW 4 rfl rfl rfl rfl (StepS.move rfl) (by kernel_rfl) (by kernel_rfl) (by kernel_rfl) rfl (.inr (fun _ s => Sat.by [6, 5, 2] 3 4 (by kernel_rfl) s)) ?_
        refine TA.all1 (i := 5) (by kernel_rfl) ?_
        refine TB.of rfl ?_
        refine TO.ghost (fun _ s => Sat.front 3 rfl s) ?_
        refine TO.ghost (fun _ s => Sat.front 3 rfl s) ?_
        refine TO.ghost (fun _ s => Sat.front 5 rfl s) ?_
        obtain ⟨⟨rq58_5_1, rq58_5_2⟩, hcq58_5_3, hb53⟩ := bind_some hb53
        refine TO.callO kcallB_67_true rfl rfl rfl (fun _ st => C67 (a0 := (y21, x26, z25, y24))  hcq58_5_3 st) ?_
        rintro _ _ ⟨vq58_5_4, vq58_5_6, rfl, rfl⟩
        refine TA.back (.inr (fun _ s => Sat.by [6, 6, 5] 3 4 (by kernel_rfl) s)) ?_
        refine TA.asL (L' := (Bx b14 158 [vq58_5_4, U rq58_5_2.2.1, I rq58_5_2.2.2.1.1.1, I rq58_5_2.2.2.1.1.2.1, .bool rq58_5_2.2.2.1.1.2.2.1, I rq58_5_2.2.2.1.1.2.2.2.1, U rq58_5_2.2.2.1.1.2.2.2.2.1, I rq58_5_2.2.2.1.1.2.2.2.2.2.1, I rq58_5_2.2.2.1.1.2.2.2.2.2.2.1, I rq58_5_2.2.2.1.1.2.2.2.2.2.2.2, I rq58_5_2.2.2.1.2.1.1, I rq58_5_2.2.2.1.2.1.2.1, .bool rq58_5_2.2.2.1.2.1.2.2.1, I rq58_5_2.2.2.1.2.1.2.2.2.1, U rq58_5_2.2.2.1.2.1.2.2.2.2.1, I rq58_5_2.2.2.1.2.1.2.2.2.2.2.1, I rq58_5_2.2.2.1.2.1.2.2.2.2.2.2.1, I rq58_5_2.2.2.1.2.1.2.2.2.2.2.2.2, I rq58_5_2.2.2.1.2.2.1.1, I rq58_5_2.2.2.1.2.2.1.2.1, .bool rq58_5_2.2.2.1.2.2.1.2.2.1, I rq58_5_2.2.2.1.2.2.1.2.2.2.1, U rq58_5_2.2.2.1.2.2.1.2.2.2.2.1, I rq58_5_2.2.2.1.2.2.1.2.2.2.2.2.1, I rq58_5_2.2.2.1.2.2.1.2.2.2.2.2.2.1, I rq58_5_2.2.2.1.2.2.1.2.2.2.2.2.2.2, I rq58_5_2.2.2.1.2.2.2.1.1, I rq58_5_2.2.2.1.2.2.2.1.2.1, .bool rq58_5_2.2.2.1.2.2.2.1.2.2.1, I rq58_5_2.2.2.1.2.2.2.1.2.2.2.1, U rq58_5_2.2.2.1.2.2.2.1.2.2.2.2.1, I rq58_5_2.2.2.1.2.2.2.1.2.2.2.2.2.1, I rq58_5_2.2.2.1.2.2.2.1.2.2.2.2.2.2.1, I rq58_5_2.2.2.1.2.2.2.1.2.2.2.2.2.2.2, I rq58_5_2.2.2.1.2.2.2.2.1.1, I rq58_5_2.2.2.1.2.2.2.2.1.2.1, .bool rq58_5_2.2.2.1.2.2.2.2.1.2.2.1, I rq58_5_2.2.2.1.2.2.2.2.1.2.2.2.1, U rq58_5_2.2.2.1.2.2.2.2.1.2.2.2.2.1, I rq58_5_2.2.2.1.2.2.2.2.1.2.2.2.2.2.1, I rq58_5_2.2.2.1.2.2.2.2.1.2.2.2.2.2.2.1, I rq58_5_2.2.2.1.2.2.2.2.1.2.2.2.2.2.2.2, I rq58_5_2.2.2.1.2.2.2.2.2.1, I rq58_5_2.2.2.1.2.2.2.2.2.2.1, .bool rq58_5_2.2.2.1.2.2.2.2.2.2.2.1, I rq58_5_2.2.2.1.2.2.2.2.2.2.2.2.1, U rq58_5_2.2.2.1.2.2.2.2.2.2.2.2.2.1, I rq58_5_2.2.2.1.2.2.2.2.2.2.2.2.2.2.1, I rq58_5_2.2.2.1.2.2.2.2.2.2.2.2.2.2.2.1, I rq58_5_2.2.2.1.2.2.2.2.2.2.2.2.2.2.2.2, vq58_5_6] :: OwnS 153 2 vq58_5_4 (rq58_5_2.1.map cTii) :: OwnS 161 5 vq58_5_6 (rq58_5_2.2.2.2.map cTiiibi) :: Bx b57 106 [I x55.1, I x55.2.1, I x55.2.2.1, I x55.2.2.2] :: OwnS 28 1 v16 (y18.map cI) :: Bx b15 69 [v16, .slice none 0 0, .slice none 0 0, .slice none 0 0] :: Bx b5 69 [.slice none 0 0, .slice none 0 0, .slice none 0 0, .slice none 0 0] :: L)) (listed' := #[true, true, true, true, true, true, false, false, false, false]) (by kernel_rfl) (by kernel_rfl) ?_
        refine TA.all1 (i := 6) (by kernel_rfl) ?_
        refine TB.of rfl ?_
        refine TO.litS (f := cI) ([rq58_5_1] : List Int) kelemB_24_28_1_8_true kinfo_28_bind_zero_some_I_0 rfl rfl (fun _ => rfl) rfl rfl (by kernel_rfl) rfl fun vq58_6_1 => ?_
        refine TA.back (.inr (fun _ s => Sat.by [7, 7, 6] 3 5 (by kernel_rfl) s)) ?_
        refine TA.asL (L' := (OwnS 28 1 vq58_6_1 (([rq58_5_1] : List Int).map cI) :: Bx b14 158 [vq58_5_4, U rq58_5_2.2.1, I rq58_5_2.2.2.1.1.1, I rq58_5_2.2.2.1.1.2.1, .bool rq58_5_2.2.2.1.1.2.2.1, I rq58_5_2.2.2.1.1.2.2.2.1, U rq58_5_2.2.2.1.1.2.2.2.2.1, I rq58_5_2.2.2.1.1.2.2.2.2.2.1, I rq58_5_2.2.2.1.1.2.2.2.2.2.2.1, I rq58_5_2.2.2.1.1.2.2.2.2.2.2.2, I rq58_5_2.2.2.1.2.1.1, I rq58_5_2.2.2.1.2.1.2.1, .bool rq58_5_2.2.2.1.2.1.2.2.1, I rq58_5_2.2.2.1.2.1.2.2.2.1, U rq58_5_2.2.2.1.2.1.2.2.2.2.1, I rq58_5_2.2.2.1.2.1.2.2.2.2.2.1, I rq58_5_2.2.2.1.2.1.2.2.2.2.2.2.1, I rq58_5_2.2.2.1.2.1.2.2.2.2.2.2.2, I rq58_5_2.2.2.1.2.2.1.1, I rq58_5_2.2.2.1.2.2.1.2.1, .bool rq58_5_2.2.2.1.2.2.1.2.2.1, I rq58_5_2.2.2.1.2.2.1.2.2.2.1, U rq58_5_2.2.2.1.2.2.1.2.2.2.2.1, I rq58_5_2.2.2.1.2.2.1.2.2.2.2.2.1, I rq58_5_2.2.2.1.2.2.1.2.2.2.2.2.2.1, I rq58_5_2.2.2.1.2.2.1.2.2.2.2.2.2.2, I rq58_5_2.2.2.1.2.2.2.1.1, I rq58_5_2.2.2.1.2.2.2.1.2.1, .bool rq58_5_2.2.2.1.2.2.2.1.2.2.1, I rq58_5_2.2.2.1.2.2.2.1.2.2.2.1, U rq58_5_2.2.2.1.2.2.2.1.2.2.2.2.1, I rq58_5_2.2.2.1.2.2.2.1.2.2.2.2.2.1, I rq58_5_2.2.2.1.2.2.2.1.2.2.2.2.2.2.1, I rq58_5_2.2.2.1.2.2.2.1.2.2.2.2.2.2.2, I rq58_5_2.2.2.1.2.2.2.2.1.1, I rq58_5_2.2.2.1.2.2.2.2.1.2.1, .bool rq58_5_2.2.2.1.2.2.2.2.1.2.2.1, I rq58_5_2.2.2.1.2.2.2.2.1.2.2.2.1, U rq58_5_2.2.2.1.2.2.2.2.1.2.2.2.2.1, I rq58_5_2.2.2.1.2.2.2.2.1.2.2.2.2.2.1, I rq58_5_2.2.2.1.2.2.2.2.1.2.2.2.2.2.2.1, I rq58_5_2.2.2.1.2.2.2.2.1.2.2.2.2.2.2.2, I rq58_5_2.2.2.1.2.2.2.2.2.1, I rq58_5_2.2.2.1.2.2.2.2.2.2.1, .bool rq58_5_2.2.2.1.2.2.2.2.2.2.2.1, I rq58_5_2.2.2.1.2.2.2.2.2.2.2.2.1, U rq58_5_2.2.2.1.2.2.2.2.2.2.2.2.2.1, I rq58_5_2.2.2.1.2.2.2.2.2.2.2.2.2.2.1, I rq58_5_2.2.2.1.2.2.2.2.2.2.2.2.2.2.2.1, I rq58_5_2.2.2.1.2.2.2.2.2.2.2.2.2.2.2.2, vq58_5_6] :: OwnS 153 2 vq58_5_4 (rq58_5_2.1.map cTii) :: OwnS 161 5 vq58_5_6 (rq58_5_2.2.2.2.map cTiiibi) :: Bx b57 106 [I x55.1, I x55.2.1, I x55.2.2.1, I x55.2.2.2] :: OwnS 28 1 v16 (y18.map cI) :: Bx b15 69 [v16, .slice none 0 0, .slice none 0 0, .slice none 0 0] :: Bx b5 69 [.slice none 0 0, .slice none 0 0, .slice none 0 0, .slice none 0 0] :: L)) (listed' := #[true, true, true, true, true, true, true, false, false, false]) (by kernel_rfl) (by kernel_rfl) ?_
        refine TA.all1 (i := 7) (by kernel_rfl) ?_
        refine TB.of rfl ?_
        obtain ⟨yq58_7_1, hkq58_7_2, hb53⟩ := bind_some hb53
        refine TO.app (k := 5) (f := cI) kelemB_24_28_1_8_true (by decide) rfl rfl rfl (OwnS.rd (Ent.at 0 rfl)) hkq58_7_2 (fun x c hc => by simp [Value.oneCell'] at hc ⊢; first | (obtain rfl := hc; rfl) | (rcases hc with rfl <;> rfl)) rfl rfl fun vq58_7_3 => ?_
        refine TA.back (.inr (fun _ s => Sat.by [7, 7, 6] 3 5 (by kernel_rfl) s)) ?_
        refine TA.asL (L' := (OwnS 28 1 vq58_6_1 (([rq58_5_1] : List Int).map cI) :: Bx b14 158 [vq58_5_4, U rq58_5_2.2.1, I rq58_5_2.2.2.1.1.1, I rq58_5_2.2.2.1.1.2.1, .bool rq58_5_2.2.2.1.1.2.2.1, I rq58_5_2.2.2.1.1.2.2.2.1, U rq58_5_2.2.2.1.1.2.2.2.2.1, I rq58_5_2.2.2.1.1.2.2.2.2.2.1, I rq58_5_2.2.2.1.1.2.2.2.2.2.2.1, I rq58_5_2.2.2.1.1.2.2.2.2.2.2.2, I rq58_5_2.2.2.1.2.1.1, I rq58_5_2.2.2.1.2.1.2.1, .bool rq58_5_2.2.2.1.2.1.2.2.1, I rq58_5_2.2.2.1.2.1.2.2.2.1, U rq58_5_2.2.2.1.2.1.2.2.2.2.1, I rq58_5_2.2.2.1.2.1.2.2.2.2.2.1, I rq58_5_2.2.2.1.2.1.2.2.2.2.2.2.1, I rq58_5_2.2.2.1.2.1.2.2.2.2.2.2.2, I rq58_5_2.2.2.1.2.2.1.1, I rq58_5_2.2.2.1.2.2.1.2.1, .bool rq58_5_2.2.2.1.2.2.1.2.2.1, I rq58_5_2.2.2.1.2.2.1.2.2.2.1, U rq58_5_2.2.2.1.2.2.1.2.2.2.2.1, I rq58_5_2.2.2.1.2.2.1.2.2.2.2.2.1, I rq58_5_2.2.2.1.2.2.1.2.2.2.2.2.2.1, I rq58_5_2.2.2.1.2.2.1.2.2.2.2.2.2.2, I rq58_5_2.2.2.1.2.2.2.1.1, I rq58_5_2.2.2.1.2.2.2.1.2.1, .bool rq58_5_2.2.2.1.2.2.2.1.2.2.1, I rq58_5_2.2.2.1.2.2.2.1.2.2.2.1, U rq58_5_2.2.2.1.2.2.2.1.2.2.2.2.1, I rq58_5_2.2.2.1.2.2.2.1.2.2.2.2.2.1, I rq58_5_2.2.2.1.2.2.2.1.2.2.2.2.2.2.1, I rq58_5_2.2.2.1.2.2.2.1.2.2.2.2.2.2.2, I rq58_5_2.2.2.1.2.2.2.2.1.1, I rq58_5_2.2.2.1.2.2.2.2.1.2.1, .bool rq58_5_2.2.2.1.2.2.2.2.1.2.2.1, I rq58_5_2.2.2.1.2.2.2.2.1.2.2.2.1, U rq58_5_2.2.2.1.2.2.2.2.1.2.2.2.2.1, I rq58_5_2.2.2.1.2.2.2.2.1.2.2.2.2.2.1, I rq58_5_2.2.2.1.2.2.2.2.1.2.2.2.2.2.2.1, I rq58_5_2.2.2.1.2.2.2.2.1.2.2.2.2.2.2.2, I rq58_5_2.2.2.1.2.2.2.2.2.1, I rq58_5_2.2.2.1.2.2.2.2.2.2.1, .bool rq58_5_2.2.2.1.2.2.2.2.2.2.2.1, I rq58_5_2.2.2.1.2.2.2.2.2.2.2.2.1, U rq58_5_2.2.2.1.2.2.2.2.2.2.2.2.2.1, I rq58_5_2.2.2.1.2.2.2.2.2.2.2.2.2.2.1, I rq58_5_2.2.2.1.2.2.2.2.2.2.2.2.2.2.2.1, I rq58_5_2.2.2.1.2.2.2.2.2.2.2.2.2.2.2.2, vq58_5_6] :: OwnS 153 2 vq58_5_4 (rq58_5_2.1.map cTii) :: OwnS 161 5 vq58_5_6 (rq58_5_2.2.2.2.map cTiiibi) :: Bx b57 106 [I x55.1, I x55.2.1, I x55.2.2.1, I x55.2.2.2] :: OwnS 28 1 vq58_7_3 (yq58_7_1.map cI) :: Bx b15 69 [v16, .slice none 0 0, .slice none 0 0, .slice none 0 0] :: Bx b5 69 [.slice none 0 0, .slice none 0 0, .slice none 0 0, .slice none 0 0] :: L)) (listed' := #[true, true, true, true, true, true, true, true, false, false]) (by kernel_rfl) (by kernel_rfl) ?_
        refine TA.takeW 8 rfl rfl rfl rfl (StepS.fld rfl kfieldB_69_0_0_true) (by kernel_rfl) (by kernel_rfl) (by kernel_rfl) rfl (.inr (fun _ s => Sat.by [7, 7, 6] 3 5 (by kernel_rfl) s)) ?_
        refine TA.all1 (i := 9) (by kernel_rfl) ?_
        refine TB.of rfl ?_
        refine TO.pure (fun _ s => Rd.one (OwnS.rd (Ent.at 5 rfl)) s) fun ocq58_9_1 => ?_
        refine TO.stB (us := [vq58_7_3]) 6 [vq58_7_3, .slice none 0 0, .slice none 0 0, .slice none 0 0] rfl rfl rfl ksizeB_24_1_true ocq58_9_1.2 rfl rfl (by intro u hu; simp only [List.mem_cons, List.not_mem_nil, or_false] at hu; rcases hu with rfl <;> first | exact ocq58_9_1.1 | rfl) rfl ?_
        refine TA.back (.inl (by kernel_rfl)) ?_
        refine TA.asL (L' := (OwnS 28 1 vq58_6_1 (([rq58_5_1] : List Int).map cI) :: Bx b14 158 [vq58_5_4, U rq58_5_2.2.1, I rq58_5_2.2.2.1.1.1, I rq58_5_2.2.2.1.1.2.1, .bool rq58_5_2.2.2.1.1.2.2.1, I rq58_5_2.2.2.1.1.2.2.2.1, U rq58_5_2.2.2.1.1.2.2.2.2.1, I rq58_5_2.2.2.1.1.2.2.2.2.2.1, I rq58_5_2.2.2.1.1.2.2.2.2.2.2.1, I rq58_5_2.2.2.1.1.2.2.2.2.2.2.2, I rq58_5_2.2.2.1.2.1.1, I rq58_5_2.2.2.1.2.1.2.1, .bool rq58_5_2.2.2.1.2.1.2.2.1, I rq58_5_2.2.2.1.2.1.2.2.2.1, U rq58_5_2.2.2.1.2.1.2.2.2.2.1, I rq58_5_2.2.2.1.2.1.2.2.2.2.2.1, I rq58_5_2.2.2.1.2.1.2.2.2.2.2.2.1, I rq58_5_2.2.2.1.2.1.2.2.2.2.2.2.2, I rq58_5_2.2.2.1.2.2.1.1, I rq58_5_2.2.2.1.2.2.1.2.1, .bool rq58_5_2.2.2.1.2.2.1.2.2.1, I rq58_5_2.2.2.1.2.2.1.2.2.2.1, U rq58_5_2.2.2.1.2.2.1.2.2.2.2.1, I rq58_5_2.2.2.1.2.2.1.2.2.2.2.2.1, I rq58_5_2.2.2.1.2.2.1.2.2.2.2.2.2.1, I rq58_5_2.2.2.1.2.2.1.2.2.2.2.2.2.2, I rq58_5_2.2.2.1.2.2.2.1.1, I rq58_5_2.2.2.1.2.2.2.1.2.1, .bool rq58_5_2.2.2.1.2.2.2.1.2.2.1, I rq58_5_2.2.2.1.2.2.2.1.2.2.2.1, U rq58_5_2.2.2.1.2.2.2.1.2.2.2.2.1, I rq58_5_2.2.2.1.2.2.2.1.2.2.2.2.2.1, I rq58_5_2.2.2.1.2.2.2.1.2.2.2.2.2.2.1, I rq58_5_2.2.2.1.2.2.2.1.2.2.2.2.2.2.2, I rq58_5_2.2.2.1.2.2.2.2.1.1, I rq58_5_2.2.2.1.2.2.2.2.1.2.1, .bool rq58_5_2.2.2.1.2.2.2.2.1.2.2.1, I rq58_5_2.2.2.1.2.2.2.2.1.2.2.2.1, U rq58_5_2.2.2.1.2.2.2.2.1.2.2.2.2.1, I rq58_5_2.2.2.1.2.2.2.2.1.2.2.2.2.2.1, I rq58_5_2.2.2.1.2.2.2.2.1.2.2.2.2.2.2.1, I rq58_5_2.2.2.1.2.2.2.2.1.2.2.2.2.2.2.2, I rq58_5_2.2.2.1.2.2.2.2.2.1, I rq58_5_2.2.2.1.2.2.2.2.2.2.1, .bool rq58_5_2.2.2.1.2.2.2.2.2.2.2.1, I rq58_5_2.2.2.1.2.2.2.2.2.2.2.2.1, U rq58_5_2.2.2.1.2.2.2.2.2.2.2.2.2.1, I rq58_5_2.2.2.1.2.2.2.2.2.2.2.2.2.2.1, I rq58_5_2.2.2.1.2.2.2.2.2.2.2.2.2.2.2.1, I rq58_5_2.2.2.1.2.2.2.2.2.2.2.2.2.2.2.2, vq58_5_6] :: OwnS 153 2 vq58_5_4 (rq58_5_2.1.map cTii) :: OwnS 161 5 vq58_5_6 (rq58_5_2.2.2.2.map cTiiibi) :: Bx b57 106 [I x55.1, I x55.2.1, I x55.2.2.1, I x55.2.2.2] :: OwnS 28 1 vq58_7_3 (yq58_7_1.map cI) :: Bx b15 69 [vq58_7_3, .slice none 0 0, .slice none 0 0, .slice none 0 0] :: Bx b5 69 [.slice none 0 0, .slice none 0 0, .slice none 0 0, .slice none 0 0] :: L)) (listed' := #[true, true, true, true, true, true, true, true, true, true]) (by kernel_rfl) (by kernel_rfl) ?_
        refine TA.code (by kernel_rfl) ?_
        refine TC.region ?_
        refine TO.s rfl rfl rfl (StepS.ari rfl rfl rfl) ?_
        refine TO.s rfl rfl rfl (StepS.move rfl) ?_
        cases hb53
        refine TO.nil fun a w e s => ?_
        exact ⟨vq58_7_3, vq58_5_4, vq58_5_6, e.sub (lk_of_allIn ⟨rfl, rfl, rfl, rfl, rfl, rfl, trivial⟩), s.mono fun _ s => (by exact Sat.by [7, 2, 7, 5, 5, 7] 6 2 (by kernel_rfl) s)⟩
      · replace hb53 := cond_f hc54 hb53
        cases hb53
        refine TC.exit rfl fun a w e s => ?_
        exact ⟨v16, v19, v22, e.sub (lk_of_allIn ⟨rfl, rfl, rfl, trivial⟩), s⟩
    · exact fun a w e s => ⟨.slice none 0 0, v11, .slice none 0 0, e.sub (lk_of_allIn ⟨rfl, rfl, rfl, rfl, rfl, rfl, trivial⟩), s.mono fun _ s => (by replace s := Sat.nilS (e := 161) (sz := 5) (f := cTiiibi) s; replace s := Sat.nilS (e := 28) (sz := 1) (f := cI) s; exact Sat.by [5, 4, 4, 4, 5, 5] 6 0 (by kernel_rfl) s)⟩
    · rintro ⟨y42, y45, y48, z49, x50⟩ rfl a w ⟨v40, v43, v46, he, hs⟩
      dsimp only [Ctl.on] at hm
      refine TC.use ?_ he hs
      refine TC.k ?_
      refine TC.region ?_
      refine TO.s rfl rfl rfl (StepS.move rfl) ?_
      refine TO.s rfl rfl rfl (StepS.nilc rfl) ?_
      refine TO.s rfl rfl rfl (StepS.fld rfl kfieldB_158_3_50_true) ?_
      refine TO.s rfl rfl rfl (StepS.ldB rfl (Ent.at 4 rfl) kscalB_67_true rfl) ?_
      refine TO.s rfl rfl rfl (StepS.fld rfl kfieldB_69_1_1_true) ?_
      refine TO.pure (fun _ s => Rd.one (OwnS.rd (Ent.at 2 rfl)) s) fun oc59 => ?_
      refine TO.stB (us := [v46]) 3 [v40, v46, .slice none 0 0, .slice none 0 0] rfl rfl rfl ksizeB_67_1_true oc59.2 rfl rfl (by intro u hu; simp only [List.mem_cons, List.not_mem_nil, or_false] at hu; rcases hu with rfl <;> first | exact oc59.1 | rfl) rfl ?_
      refine TO.code ?_
      refine TC.k ?_
      refine TC.k ?_
      refine TC.region ?_
      refine TO.s rfl rfl rfl (StepS.move rfl) ?_
      refine TO.s rfl rfl rfl (StepS.nilc rfl) ?_
      refine TO.s rfl rfl rfl (StepS.fld rfl kfieldB_158_0_0_true) ?_
      refine TO.s rfl rfl rfl (StepS.ldB rfl (Ent.at 4 rfl) kscalB_151_true rfl) ?_
      refine TO.s rfl rfl rfl (StepS.lenm rfl (OwnS.rd (Ent.at 1 rfl)) ksliceB_151_153_2_true rfl) ?_
      refine TO.s rfl rfl rfl (StepS.move rfl) ?_
      refine TO.code ?_
      obtain ⟨o80, hw81, hm⟩ := bind_some hm
      refine TC.loop hw81 (fun (y62, y65, x66) => fun a w => ∃ v60 : Value, ∃ v63 : Value, Mid 75 B [(4, .pointer (some ⟨b5, 0, none⟩)), (7, .pointer (some ⟨b15, 0, none⟩)), (53, v43), (54, I (y45.length : Int)), (55, I x66)] (OwnS 3 1 v60 (y62.map cI) :: OwnS 3 1 v63 (y65.map cI) :: OwnS 28 1 v40 (y42.map cI) :: OwnS 153 2 v43 (y45.map cTii) :: OwnS 161 5 v46 (y48.map cTiiibi) :: Bx b15 69 [v40, v46, v60, v63] :: Bx b14 158 [v43, U x50, I z49.1.1, I z49.1.2.1, .bool z49.1.2.2.1, I z49.1.2.2.2.1, U z49.1.2.2.2.2.1, I z49.1.2.2.2.2.2.1, I z49.1.2.2.2.2.2.2.1, I z49.1.2.2.2.2.2.2.2, I z49.2.1.1, I z49.2.1.2.1, .bool z49.2.1.2.2.1, I z49.2.1.2.2.2.1, U z49.2.1.2.2.2.2.1, I z49.2.1.2.2.2.2.2.1, I z49.2.1.2.2.2.2.2.2.1, I z49.2.1.2.2.2.2.2.2.2, I z49.2.2.1.1, I z49.2.2.1.2.1, .bool z49.2.2.1.2.2.1, I z49.2.2.1.2.2.2.1, U z49.2.2.1.2.2.2.2.1, I z49.2.2.1.2.2.2.2.2.1, I z49.2.2.1.2.2.2.2.2.2.1, I z49.2.2.1.2.2.2.2.2.2.2, I z49.2.2.2.1.1, I z49.2.2.2.1.2.1, .bool z49.2.2.2.1.2.2.1, I z49.2.2.2.1.2.2.2.1, U z49.2.2.2.1.2.2.2.2.1, I z49.2.2.2.1.2.2.2.2.2.1, I z49.2.2.2.1.2.2.2.2.2.2.1, I z49.2.2.2.1.2.2.2.2.2.2.2, I z49.2.2.2.2.1.1, I z49.2.2.2.2.1.2.1, .bool z49.2.2.2.2.1.2.2.1, I z49.2.2.2.2.1.2.2.2.1, U z49.2.2.2.2.1.2.2.2.2.1, I z49.2.2.2.2.1.2.2.2.2.2.1, I z49.2.2.2.2.1.2.2.2.2.2.2.1, I z49.2.2.2.2.1.2.2.2.2.2.2.2, I z49.2.2.2.2.2.1, I z49.2.2.2.2.2.2.1, .bool z49.2.2.2.2.2.2.2.1, I z49.2.2.2.2.2.2.2.2.1, U z49.2.2.2.2.2.2.2.2.2.1, I z49.2.2.2.2.2.2.2.2.2.2.1, I z49.2.2.2.2.2.2.2.2.2.2.2.1, I z49.2.2.2.2.2.2.2.2.2.2.2.2, v46] :: Bx b5 69 [.slice none 0 0, .slice none 0 0, .slice none 0 0, .slice none 0 0] :: L) a w) (fun (y76, y79) => fun a w => ∃ v74 : Value, ∃ v77 : Value, Mid 75 B [(4, .pointer (some ⟨b5, 0, none⟩)), (7, .pointer (some ⟨b15, 0, none⟩))] (OwnS 3 1 v74 (y76.map cI) :: OwnS 3 1 v77 (y79.map cI) :: OwnS 28 1 v40 (y42.map cI) :: OwnS 153 2 v43 (y45.map cTii) :: OwnS 161 5 v46 (y48.map cTiiibi) :: Bx b15 69 [v40, v46, v74, v77] :: Bx b14 158 [v43, U x50, I z49.1.1, I z49.1.2.1, .bool z49.1.2.2.1, I z49.1.2.2.2.1, U z49.1.2.2.2.2.1, I z49.1.2.2.2.2.2.1, I z49.1.2.2.2.2.2.2.1, I z49.1.2.2.2.2.2.2.2, I z49.2.1.1, I z49.2.1.2.1, .bool z49.2.1.2.2.1, I z49.2.1.2.2.2.1, U z49.2.1.2.2.2.2.1, I z49.2.1.2.2.2.2.2.1, I z49.2.1.2.2.2.2.2.2.1, I z49.2.1.2.2.2.2.2.2.2, I z49.2.2.1.1, I z49.2.2.1.2.1, .bool z49.2.2.1.2.2.1, I z49.2.2.1.2.2.2.1, U z49.2.2.1.2.2.2.2.1, I z49.2.2.1.2.2.2.2.2.1, I z49.2.2.1.2.2.2.2.2.2.1, I z49.2.2.1.2.2.2.2.2.2.2, I z49.2.2.2.1.1, I z49.2.2.2.1.2.1, .bool z49.2.2.2.1.2.2.1, I z49.2.2.2.1.2.2.2.1, U z49.2.2.2.1.2.2.2.2.1, I z49.2.2.2.1.2.2.2.2.2.1, I z49.2.2.2.1.2.2.2.2.2.2.1, I z49.2.2.2.1.2.2.2.2.2.2.2, I z49.2.2.2.2.1.1, I z49.2.2.2.2.1.2.1, .bool z49.2.2.2.2.1.2.2.1, I z49.2.2.2.2.1.2.2.2.1, U z49.2.2.2.2.1.2.2.2.2.1, I z49.2.2.2.2.1.2.2.2.2.2.1, I z49.2.2.2.2.1.2.2.2.2.2.2.1, I z49.2.2.2.2.1.2.2.2.2.2.2.2, I z49.2.2.2.2.2.1, I z49.2.2.2.2.2.2.1, .bool z49.2.2.2.2.2.2.2.1, I z49.2.2.2.2.2.2.2.2.1, U z49.2.2.2.2.2.2.2.2.2.1, I z49.2.2.2.2.2.2.2.2.2.2.1, I z49.2.2.2.2.2.2.2.2.2.2.2.1, I z49.2.2.2.2.2.2.2.2.2.2.2.2, v46] :: Bx b5 69 [.slice none 0 0, .slice none 0 0, .slice none 0 0, .slice none 0 0] :: L) a w) (fun (_ : Unit) _ _ => False) ?_ ?_ ?_ ?_
      · rintro ⟨y62, y65, x66⟩ o80r hb82 a w ⟨v60, v63, he, hs⟩
        dsimp only [F33_L1] at hb82
        refine TC.use ?_ he hs
        refine TC.k ?_
        refine TC.region ?_
        refine TO.s rfl rfl rfl (StepS.cmp rfl rfl rfl) ?_
        refine TO.code ?_
        refine TC.k ?_
        refine TC.cond rfl (fun hc83 => ?_) (fun hc83 => ?_)
        · replace hb82 := cond_t hc83 hb82
          refine TC.skipk ?_
          refine TC.k ?_
          refine TC.block ?_
          refine TC.k ?_
          refine TC.region ?_
          obtain ⟨x84, hx85, hb82⟩ := bind_some hb82
          refine TO.s rfl rfl rfl (StepS.idx rfl rfl (OwnS.rd (Ent.at 3 rfl)) ksliceB_151_153_2_true (idx_spec hx85).1 (idxm_lt hx85)) ?_
          refine TO.s rfl rfl rfl (StepS.ldE rfl (OwnS.rd (Ent.at 3 rfl)) kaggB_153_2_true rfl (idxm hx85)) ?_
          refine TO.alloc kinfo_153_bind_zero_some_agg_I_0_I_0 rfl rfl fun b86 => ?_
          refine TO.stB (us := [I x84.1, I x84.2]) 0 [I x84.1, I x84.2] rfl rfl rfl ksizeB_153_2_true rfl rfl rfl (by simp [Value.oneCell']) rfl ?_
          refine TO.code ?_
          obtain ⟨⟨y88, y90⟩, hj92, hb82⟩ := bind_some hb82
          first | refine TC.cutM (fun a w => ∃ v89 : Value, ∃ v91 : Value, Mid 75 B [(4, .pointer (some ⟨b5, 0, none⟩)), (7, .pointer (some ⟨b15, 0, none⟩)), (53, v43), (54, I (y45.length : Int)), (55, I x66)] (Bx b86 153 [I x84.1, I x84.2] :: OwnS 3 1 v89 (y88.map cI) :: OwnS 3 1 v91 (y90.map cI) :: OwnS 28 1 v40 (y42.map cI) :: OwnS 153 2 v43 (y45.map cTii) :: OwnS 161 5 v46 (y48.map cTiiibi) :: Bx b15 69 [v40, v46, v89, v91] :: Bx b14 158 [v43, U x50, I z49.1.1, I z49.1.2.1, .bool z49.1.2.2.1, I z49.1.2.2.2.1, U z49.1.2.2.2.2.1, I z49.1.2.2.2.2.2.1, I z49.1.2.2.2.2.2.2.1, I z49.1.2.2.2.2.2.2.2, I z49.2.1.1, I z49.2.1.2.1, .bool z49.2.1.2.2.1, I z49.2.1.2.2.2.1, U z49.2.1.2.2.2.2.1, I z49.2.1.2.2.2.2.2.1, I z49.2.1.2.2.2.2.2.2.1, I z49.2.1.2.2.2.2.2.2.2, I z49.2.2.1.1, I z49.2.2.1.2.1, .bool z49.2.2.1.2.2.1, I z49.2.2.1.2.2.2.1, U z49.2.2.1.2.2.2.2.1, I z49.2.2.1.2.2.2.2.2.1, I z49.2.2.1.2.2.2.2.2.2.1, I z49.2.2.1.2.2.2.2.2.2.2, I z49.2.2.2.1.1, I z49.2.2.2.1.2.1, .bool z49.2.2.2.1.2.2.1, I z49.2.2.2.1.2.2.2.1, U z49.2.2.2.1.2.2.2.2.1, I z49.2.2.2.1.2.2.2.2.2.1, I z49.2.2.2.1.2.2.2.2.2.2.1, I z49.2.2.2.1.2.2.2.2.2.2.2, I z49.2.2.2.2.1.1, I z49.2.2.2.2.1.2.1, .bool z49.2.2.2.2.1.2.2.1, I z49.2.2.2.2.1.2.2.2.1, U z49.2.2.2.2.1.2.2.2.2.1, I z49.2.2.2.2.1.2.2.2.2.2.1, I z49.2.2.2.2.1.2.2.2.2.2.2.1, I z49.2.2.2.2.1.2.2.2.2.2.2.2, I z49.2.2.2.2.2.1, I z49.2.2.2.2.2.2.1, .bool z49.2.2.2.2.2.2.2.1, I z49.2.2.2.2.2.2.2.2.1, U z49.2.2.2.2.2.2.2.2.2.1, I z49.2.2.2.2.2.2.2.2.2.2.1, I z49.2.2.2.2.2.2.2.2.2.2.2.1, I z49.2.2.2.2.2.2.2.2.2.2.2.2, v46] :: Bx b5 69 [.slice none 0 0, .slice none 0 0, .slice none 0 0, .slice none 0 0] :: L) a w) ?_ ?_ | refine TC.cutX (fun a w => ∃ v89 : Value, ∃ v91 : Value, Mid 75 B [(4, .pointer (some ⟨b5, 0, none⟩)), (7, .pointer (some ⟨b15, 0, none⟩)), (53, v43), (54, I (y45.length : Int)), (55, I x66)] (Bx b86 153 [I x84.1, I x84.2] :: OwnS 3 1 v89 (y88.map cI) :: OwnS 3 1 v91 (y90.map cI) :: OwnS 28 1 v40 (y42.map cI) :: OwnS 153 2 v43 (y45.map cTii) :: OwnS 161 5 v46 (y48.map cTiiibi) :: Bx b15 69 [v40, v46, v89, v91] :: Bx b14 158 [v43, U x50, I z49.1.1, I z49.1.2.1, .bool z49.1.2.2.1, I z49.1.2.2.2.1, U z49.1.2.2.2.2.1, I z49.1.2.2.2.2.2.1, I z49.1.2.2.2.2.2.2.1, I z49.1.2.2.2.2.2.2.2, I z49.2.1.1, I z49.2.1.2.1, .bool z49.2.1.2.2.1, I z49.2.1.2.2.2.1, U z49.2.1.2.2.2.2.1, I z49.2.1.2.2.2.2.2.1, I z49.2.1.2.2.2.2.2.2.1, I z49.2.1.2.2.2.2.2.2.2, I z49.2.2.1.1, I z49.2.2.1.2.1, .bool z49.2.2.1.2.2.1, I z49.2.2.1.2.2.2.1, U z49.2.2.1.2.2.2.2.1, I z49.2.2.1.2.2.2.2.2.1, I z49.2.2.1.2.2.2.2.2.2.1, I z49.2.2.1.2.2.2.2.2.2.2, I z49.2.2.2.1.1, I z49.2.2.2.1.2.1, .bool z49.2.2.2.1.2.2.1, I z49.2.2.2.1.2.2.2.1, U z49.2.2.2.1.2.2.2.2.1, I z49.2.2.2.1.2.2.2.2.2.1, I z49.2.2.2.1.2.2.2.2.2.2.1, I z49.2.2.2.1.2.2.2.2.2.2.2, I z49.2.2.2.2.1.1, I z49.2.2.2.2.1.2.1, .bool z49.2.2.2.2.1.2.2.1, I z49.2.2.2.2.1.2.2.2.1, U z49.2.2.2.2.1.2.2.2.2.1, I z49.2.2.2.2.1.2.2.2.2.2.1, I z49.2.2.2.2.1.2.2.2.2.2.2.1, I z49.2.2.2.2.1.2.2.2.2.2.2.2, I z49.2.2.2.2.2.1, I z49.2.2.2.2.2.2.1, .bool z49.2.2.2.2.2.2.2.1, I z49.2.2.2.2.2.2.2.2.1, U z49.2.2.2.2.2.2.2.2.2.1, I z49.2.2.2.2.2.2.2.2.2.2.1, I z49.2.2.2.2.2.2.2.2.2.2.2.1, I z49.2.2.2.2.2.2.2.2.2.2.2.2, v46] :: Bx b5 69 [.slice none 0 0, .slice none 0 0, .slice none 0 0, .slice none 0 0] :: L) a w) ?_ ?_
          · obtain ⟨yq87_5_1, hkq87_5_2, hj92⟩ := bind_some hj92
            obtain ⟨yq87_11_1, hkq87_11_2, hj92⟩ := bind_some hj92
            refine TC.region_any (Bx b86 153 [I x84.1, I x84.2] :: OwnS 28 1 v40 (y42.map cI) :: OwnS 153 2 v43 (y45.map cTii) :: OwnS 161 5 v46 (y48.map cTiiibi) :: Bx b15 69 [v40, v46, v60, v63] :: Bx b14 158 [v43, U x50, I z49.1.1, I z49.1.2.1, .bool z49.1.2.2.1, I z49.1.2.2.2.1, U z49.1.2.2.2.2.1, I z49.1.2.2.2.2.2.1, I z49.1.2.2.2.2.2.2.1, I z49.1.2.2.2.2.2.2.2, I z49.2.1.1, I z49.2.1.2.1, .bool z49.2.1.2.2.1, I z49.2.1.2.2.2.1, U z49.2.1.2.2.2.2.1, I z49.2.1.2.2.2.2.2.1, I z49.2.1.2.2.2.2.2.2.1, I z49.2.1.2.2.2.2.2.2.2, I z49.2.2.1.1, I z49.2.2.1.2.1, .bool z49.2.2.1.2.2.1, I z49.2.2.1.2.2.2.1, U z49.2.2.1.2.2.2.2.1, I z49.2.2.1.2.2.2.2.2.1, I z49.2.2.1.2.2.2.2.2.2.1, I z49.2.2.1.2.2.2.2.2.2.2, I z49.2.2.2.1.1, I z49.2.2.2.1.2.1, .bool z49.2.2.2.1.2.2.1, I z49.2.2.2.1.2.2.2.1, U z49.2.2.2.1.2.2.2.2.1, I z49.2.2.2.1.2.2.2.2.2.1, I z49.2.2.2.1.2.2.2.2.2.2.1, I z49.2.2.2.1.2.2.2.2.2.2.2, I z49.2.2.2.2.1.1, I z49.2.2.2.2.1.2.1, .bool z49.2.2.2.2.1.2.2.1, I z49.2.2.2.2.1.2.2.2.1, U z49.2.2.2.2.1.2.2.2.2.1, I z49.2.2.2.2.1.2.2.2.2.2.1, I z49.2.2.2.2.1.2.2.2.2.2.2.1, I z49.2.2.2.2.1.2.2.2.2.2.2.2, I z49.2.2.2.2.2.1, I z49.2.2.2.2.2.2.1, .bool z49.2.2.2.2.2.2.2.1, I z49.2.2.2.2.2.2.2.2.1, U z49.2.2.2.2.2.2.2.2.2.1, I z49.2.2.2.2.2.2.2.2.2.2.1, I z49.2.2.2.2.2.2.2.2.2.2.2.1, I z49.2.2.2.2.2.2.2.2.2.2.2.2, v46] :: Bx b5 69 [.slice none 0 0, .slice none 0 0, .slice none 0 0, .slice none 0 0] :: L) 13 16 kfollows_mixedOrders_true rfl ?_
            refine TA.takeW 0 rfl rfl rfl rfl (StepS.fld rfl kfieldB_69_2_2_true) (by kernel_rfl) (by kernel_rfl) (by kernel_rfl) rfl (.inr (fun _ s => Sat.by [8, 8, 8, 8, 8, 8, 6] 7 2 (by kernel_rfl) s)) ?_
            refine TA.take 1 rfl rfl rfl rfl (StepS.ldB rfl (Ent.at 4 rfl) kscalB_22_true rfl) (by kernel_rfl) (by kernel_rfl) (by kernel_rfl) (by kernel_rfl) (by kernel_rfl) (fun _ s => Sat.by [8, 8, 8, 8, 8, 8, 6] 7 2 (by kernel_rfl) s) ?_
            refine TA.takeW 2 rfl rfl rfl rfl (StepS.fld rfl kfieldB_153_0_0_true) (by kernel_rfl) (by kernel_rfl) (by kernel_rfl) rfl (.inr (fun _ s => Sat.by [8, 8, 8, 8, 8, 8, 6] 7 2 (by kernel_rfl) s)) ?_
            refine TA.take 3 rfl rfl rfl rfl (StepS.ldB rfl (Ent.at 0 rfl) kscalB_3_true rfl) (by kernel_rfl) (by kernel_rfl) (by kernel_rfl) (by kernel_rfl) (by kernel_rfl) (fun _ s => Sat.by [8, 8, 8, 8, 8, 8, 6] 7 2 (by kernel_rfl) s) ?_
            refine TA.takeW 6 rfl rfl rfl rfl (StepS.fld rfl kfieldB_69_3_3_true) (by kernel_rfl) (by kernel_rfl) (by kernel_rfl) rfl (.inr (fun _ s => Sat.by [8, 8, 8, 8, 8, 8, 6] 7 2 (by kernel_rfl) s)) ?_
            refine TA.take 7 rfl rfl rfl rfl (StepS.ldB rfl (Ent.at 4 rfl) kscalB_22_true rfl) (by kernel_rfl) (by kernel_rfl) (by kernel_rfl) (by kernel_rfl) (by kernel_rfl) (fun _ s => Sat.by [8, 8, 8, 8, 8, 8, 6] 7 2 (by kernel_rfl) s) ?_
            refine TA.takeW 8 rfl rfl rfl rfl (StepS.fld rfl kfieldB_153_1_1_true) (by kernel_rfl) (by kernel_rfl) (by kernel_rfl) rfl (.inr (fun _ s => Sat.by [8, 8, 8, 8, 8, 8, 6] 7 2 (by kernel_rfl) s)) ?_
            refine TA.all2 (i := 4) (j := 9) (by kernel_rfl) ?_ ?_
            · refine TB.of rfl ?_
              refine TO.litS (f := cI) ([x84.1] : List Int) kelemB_22_3_1_8_true kinfo_3_bind_zero_some_I_0 rfl rfl (fun _ => rfl) rfl rfl (by kernel_rfl) rfl fun vq87_4_1 => ?_
              refine TA.back (.inr (fun _ s => Sat.by [9, 9, 9, 9, 9, 9, 7] 7 3 (by kernel_rfl) s)) ?_
              refine TA.asL (L' := (OwnS 3 1 vq87_4_1 (([x84.1] : List Int).map cI) :: Bx b86 153 [I x84.1, I x84.2] :: OwnS 3 1 v60 (y62.map cI) :: OwnS 3 1 v63 (y65.map cI) :: OwnS 28 1 v40 (y42.map cI) :: OwnS 153 2 v43 (y45.map cTii) :: OwnS 161 5 v46 (y48.map cTiiibi) :: Bx b15 69 [v40, v46, v60, v63] :: Bx b14 158 [v43, U x50, I z49.1.1, I z49.1.2.1, .bool z49.1.2.2.1, I z49.1.2.2.2.1, U z49.1.2.2.2.2.1, I z49.1.2.2.2.2.2.1, I z49.1.2.2.2.2.2.2.1, I z49.1.2.2.2.2.2.2.2, I z49.2.1.1, I z49.2.1.2.1, .bool z49.2.1.2.2.1, I z49.2.1.2.2.2.1, U z49.2.1.2.2.2.2.1, I z49.2.1.2.2.2.2.2.1, I z49.2.1.2.2.2.2.2.2.1, I z49.2.1.2.2.2.2.2.2.2, I z49.2.2.1.1, I z49.2.2.1.2.1, .bool z49.2.2.1.2.2.1, I z49.2.2.1.2.2.2.1, U z49.2.2.1.2.2.2.2.1, I z49.2.2.1.2.2.2.2.2.1, I z49.2.2.1.2.2.2.2.2.2.1, I z49.2.2.1.2.2.2.2.2.2.2, I z49.2.2.2.1.1, I z49.2.2.2.1.2.1, .bool z49.2.2.2.1.2.2.1, I z49.2.2.2.1.2.2.2.1, U z49.2.2.2.1.2.2.2.2.1, I z49.2.2.2.1.2.2.2.2.2.1, I z49.2.2.2.1.2.2.2.2.2.2.1, I z49.2.2.2.1.2.2.2.2.2.2.2, I z49.2.2.2.2.1.1, I z49.2.2.2.2.1.2.1, .bool z49.2.2.2.2.1.2.2.1, I z49.2.2.2.2.1.2.2.2.1, U z49.2.2.2.2.1.2.2.2.2.1, I z49.2.2.2.2.1.2.2.2.2.2.1, I z49.2.2.2.2.1.2.2.2.2.2.2.1, I z49.2.2.2.2.1.2.2.2.2.2.2.2, I z49.2.2.2.2.2.1, I z49.2.2.2.2.2.2.1, .bool z49.2.2.2.2.2.2.2.1, I z49.2.2.2.2.2.2.2.2.1, U z49.2.2.2.2.2.2.2.2.2.1, I z49.2.2.2.2.2.2.2.2.2.2.1, I z49.2.2.2.2.2.2.2.2.2.2.2.1, I z49.2.2.2.2.2.2.2.2.2.2.2.2, v46] :: Bx b5 69 [.slice none 0 0, .slice none 0 0, .slice none 0 0, .slice none 0 0] :: L)) (listed' := #[true, true, true, true, true, false, true, true, true, false, false, false, false, false, false, false]) (by kernel_rfl) (by kernel_rfl) ?_
              refine TA.all2 (i := 5) (j := 9) (by kernel_rfl) ?_ ?_
              · refine TB.of rfl ?_
                refine TO.app (k := 2) (f := cI) kelemB_22_3_1_8_true (by decide) rfl rfl rfl (OwnS.rd (Ent.at 0 rfl)) hkq87_5_2 (fun x c hc => by simp [Value.oneCell'] at hc ⊢; first | (obtain rfl := hc; rfl) | (rcases hc with rfl <;> rfl)) rfl rfl fun vq87_5_3 => ?_
                refine TA.back (.inr (fun _ s => Sat.by [9, 9, 9, 9, 9, 9, 7] 7 3 (by kernel_rfl) s)) ?_
                refine TA.asL (L' := (OwnS 3 1 vq87_4_1 (([x84.1] : List Int).map cI) :: Bx b86 153 [I x84.1, I x84.2] :: OwnS 3 1 vq87_5_3 (yq87_5_1.map cI) :: OwnS 3 1 v63 (y65.map cI) :: OwnS 28 1 v40 (y42.map cI) :: OwnS 153 2 v43 (y45.map cTii) :: OwnS 161 5 v46 (y48.map cTiiibi) :: Bx b15 69 [v40, v46, v60, v63] :: Bx b14 158 [v43, U x50, I z49.1.1, I z49.1.2.1, .bool z49.1.2.2.1, I z49.1.2.2.2.1, U z49.1.2.2.2.2.1, I z49.1.2.2.2.2.2.1, I z49.1.2.2.2.2.2.2.1, I z49.1.2.2.2.2.2.2.2, I z49.2.1.1, I z49.2.1.2.1, .bool z49.2.1.2.2.1, I z49.2.1.2.2.2.1, U z49.2.1.2.2.2.2.1, I z49.2.1.2.2.2.2.2.1, I z49.2.1.2.2.2.2.2.2.1, I z49.2.1.2.2.2.2.2.2.2, I z49.2.2.1.1, I z49.2.2.1.2.1, .bool z49.2.2.1.2.2.1, I z49.2.2.1.2.2.2.1, U z49.2.2.1.2.2.2.2.1, I z49.2.2.1.2.2.2.2.2.1, I z49.2.2.1.2.2.2.2.2.2.1, I z49.2.2.1.2.2.2.2.2.2.2, I z49.2.2.2.1.1, I z49.2.2.2.1.2.1, .bool z49.2.2.2.1.2.2.1, I z49.2.2.2.1.2.2.2.1, U z49.2.2.2.1.2.2.2.2.1, I z49.2.2.2.1.2.2.2.2.2.1, I z49.2.2.2.1.2.2.2.2.2.2.1, I z49.2.2.2.1.2.2.2.2.2.2.2, I z49.2.2.2.2.1.1, I z49.2.2.2.2.1.2.1, .bool z49.2.2.2.2.1.2.2.1, I z49.2.2.2.2.1.2.2.2.1, U z49.2.2.2.2.1.2.2.2.2.1, I z49.2.2.2.2.1.2.2.2.2.2.1, I z49.2.2.2.2.1.2.2.2.2.2.2.1, I z49.2.2.2.2.1.2.2.2.2.2.2.2, I z49.2.2.2.2.2.1, I z49.2.2.2.2.2.2.1, .bool z49.2.2.2.2.2.2.2.1, I z49.2.2.2.2.2.2.2.2.1, U z49.2.2.2.2.2.2.2.2.2.1, I z49.2.2.2.2.2.2.2.2.2.2.1, I z49.2.2.2.2.2.2.2.2.2.2.2.1, I z49.2.2.2.2.2.2.2.2.2.2.2.2, v46] :: Bx b5 69 [.slice none 0 0, .slice none 0 0, .slice none 0 0, .slice none 0 0] :: L)) (listed' := #[true, true, true, true, true, true, true, true, true, false, false, false, false, false, false, false]) (by kernel_rfl) (by kernel_rfl) ?_
                refine TA.takeW 12 rfl rfl rfl rfl (StepS.fld rfl kfieldB_69_2_2_true) (by kernel_rfl) (by kernel_rfl) (by kernel_rfl) rfl (.inr (fun _ s => Sat.by [9, 9, 9, 9, 9, 9, 7] 7 3 (by kernel_rfl) s)) ?_
                refine TA.all1 (i := 9) (by kernel_rfl) ?_
                refine TB.of rfl ?_
                refine TO.s rfl rfl rfl (StepS.ldB rfl (Ent.at 1 rfl) kscalB_3_true rfl) ?_
                refine TA.back (.inr (fun _ s => Sat.by [9, 9, 9, 9, 9, 9, 7] 7 3 (by kernel_rfl) s)) ?_
                refine TA.asL (L' := (OwnS 3 1 vq87_4_1 (([x84.1] : List Int).map cI) :: Bx b86 153 [I x84.1, I x84.2] :: OwnS 3 1 vq87_5_3 (yq87_5_1.map cI) :: OwnS 3 1 v63 (y65.map cI) :: OwnS 28 1 v40 (y42.map cI) :: OwnS 153 2 v43 (y45.map cTii) :: OwnS 161 5 v46 (y48.map cTiiibi) :: Bx b15 69 [v40, v46, v60, v63] :: Bx b14 158 [v43, U x50, I z49.1.1, I z49.1.2.1, .bool z49.1.2.2.1, I z49.1.2.2.2.1, U z49.1.2.2.2.2.1, I z49.1.2.2.2.2.2.1, I z49.1.2.2.2.2.2.2.1, I z49.1.2.2.2.2.2.2.2, I z49.2.1.1, I z49.2.1.2.1, .bool z49.2.1.2.2.1, I z49.2.1.2.2.2.1, U z49.2.1.2.2.2.2.1, I z49.2.1.2.2.2.2.2.1, I z49.2.1.2.2.2.2.2.2.1, I z49.2.1.2.2.2.2.2.2.2, I z49.2.2.1.1, I z49.2.2.1.2.1, .bool z49.2.2.1.2.2.1, I z49.2.2.1.2.2.2.1, U z49.2.2.1.2.2.2.2.1, I z49.2.2.1.2.2.2.2.2.1, I z49.2.2.1.2.2.2.2.2.2.1, I z49.2.2.1.2.2.2.2.2.2.2, I z49.2.2.2.1.1, I z49.2.2.2.1.2.1, .bool z49.2.2.2.1.2.2.1, I z49.2.2.2.1.2.2.2.1, U z49.2.2.2.1.2.2.2.2.1, I z49.2.2.2.1.2.2.2.2.2.1, I z49.2.2.2.1.2.2.2.2.2.2.1, I z49.2.2.2.1.2.2.2.2.2.2.2, I z49.2.2.2.2.1.1, I z49.2.2.2.2.1.2.1, .bool z49.2.2.2.2.1.2.2.1, I z49.2.2.2.2.1.2.2.2.1, U z49.2.2.2.2.1.2.2.2.2.1, I z49.2.2.2.2.1.2.2.2.2.2.1, I z49.2.2.2.2.1.2.2.2.2.2.2.1, I z49.2.2.2.2.1.2.2.2.2.2.2.2, I z49.2.2.2.2.2.1, I z49.2.2.2.2.2.2.1, .bool z49.2.2.2.2.2.2.2.1, I z49.2.2.2.2.2.2.2.2.1, U z49.2.2.2.2.2.2.2.2.2.1, I z49.2.2.2.2.2.2.2.2.2.2.1, I z49.2.2.2.2.2.2.2.2.2.2.2.1, I z49.2.2.2.2.2.2.2.2.2.2.2.2, v46] :: Bx b5 69 [.slice none 0 0, .slice none 0 0, .slice none 0 0, .slice none 0 0] :: L)) (listed' := #[true, true, true, true, true, true, true, true, true, true, false, false, true, false, false, false]) (by kernel_rfl) (by kernel_rfl) ?_
                refine TA.all1 (i := 10) (by kernel_rfl) ?_
                refine TB.of rfl ?_
                refine TO.litS (f := cI) ([x84.2] : List Int) kelemB_22_3_1_8_true kinfo_3_bind_zero_some_I_0 rfl rfl (fun _ => rfl) rfl rfl (by kernel_rfl) rfl fun vq87_10_1 => ?_
                refine TA.back (.inr (fun _ s => Sat.by [10, 10, 10, 10, 10, 10, 8] 7 4 (by kernel_rfl) s)) ?_
                refine TA.asL (L' := (OwnS 3 1 vq87_10_1 (([x84.2] : List Int).map cI) :: OwnS 3 1 vq87_4_1 (([x84.1] : List Int).map cI) :: Bx b86 153 [I x84.1, I x84.2] :: OwnS 3 1 vq87_5_3 (yq87_5_1.map cI) :: OwnS 3 1 v63 (y65.map cI) :: OwnS 28 1 v40 (y42.map cI) :: OwnS 153 2 v43 (y45.map cTii) :: OwnS 161 5 v46 (y48.map cTiiibi) :: Bx b15 69 [v40, v46, v60, v63] :: Bx b14 158 [v43, U x50, I z49.1.1, I z49.1.2.1, .bool z49.1.2.2.1, I z49.1.2.2.2.1, U z49.1.2.2.2.2.1, I z49.1.2.2.2.2.2.1, I z49.1.2.2.2.2.2.2.1, I z49.1.2.2.2.2.2.2.2, I z49.2.1.1, I z49.2.1.2.1, .bool z49.2.1.2.2.1, I z49.2.1.2.2.2.1, U z49.2.1.2.2.2.2.1, I z49.2.1.2.2.2.2.2.1, I z49.2.1.2.2.2.2.2.2.1, I z49.2.1.2.2.2.2.2.2.2, I z49.2.2.1.1, I z49.2.2.1.2.1, .bool z49.2.2.1.2.2.1, I z49.2.2.1.2.2.2.1, U z49.2.2.1.2.2.2.2.1, I z49.2.2.1.2.2.2.2.2.1, I z49.2.2.1.2.2.2.2.2.2.1, I z49.2.2.1.2.2.2.2.2.2.2, I z49.2.2.2.1.1, I z49.2.2.2.1.2.1, .bool z49.2.2.2.1.2.2.1, I z49.2.2.2.1.2.2.2.1, U z49.2.2.2.1.2.2.2.2.1, I z49.2.2.2.1.2.2.2.2.2.1, I z49.2.2.2.1.2.2.2.2.2.2.1, I z49.2.2.2.1.2.2.2.2.2.2.2, I z49.2.2.2.2.1.1, I z49.2.2.2.2.1.2.1, .bool z49.2.2.2.2.1.2.2.1, I z49.2.2.2.2.1.2.2.2.1, U z49.2.2.2.2.1.2.2.2.2.1, I z49.2.2.2.2.1.2.2.2.2.2.1, I z49.2.2.2.2.1.2.2.2.2.2.2.1, I z49.2.2.2.2.1.2.2.2.2.2.2.2, I z49.2.2.2.2.2.1, I z49.2.2.2.2.2.2.1, .bool z49.2.2.2.2.2.2.2.1, I z49.2.2.2.2.2.2.2.2.1, U z49.2.2.2.2.2.2.2.2.2.1, I z49.2.2.2.2.2.2.2.2.2.2.1, I z49.2.2.2.2.2.2.2.2.2.2.2.1, I z49.2.2.2.2.2.2.2.2.2.2.2.2, v46] :: Bx b5 69 [.slice none 0 0, .slice none 0 0, .slice none 0 0, .slice none 0 0] :: L)) (listed' := #[true, true, true, true, true, true, true, true, true, true, true, false, true, false, false, false]) (by kernel_rfl) (by kernel_rfl) ?_
                refine TA.all1 (i := 11) (by kernel_rfl) ?_
                refine TB.of rfl ?_
                refine TO.app (k := 4) (f := cI) kelemB_22_3_1_8_true (by decide) rfl rfl rfl (OwnS.rd (Ent.at 0 rfl)) hkq87_11_2 (fun x c hc => by simp [Value.oneCell'] at hc ⊢; first | (obtain rfl := hc; rfl) | (rcases hc with rfl <;> rfl)) rfl rfl fun vq87_11_3 => ?_
                refine TA.back (.inr (fun _ s => Sat.by [10, 10, 10, 10, 10, 10, 8] 7 4 (by kernel_rfl) s)) ?_
                refine TA.asL (L' := (OwnS 3 1 vq87_10_1 (([x84.2] : List Int).map cI) :: OwnS 3 1 vq87_4_1 (([x84.1] : List Int).map cI) :: Bx b86 153 [I x84.1, I x84.2] :: OwnS 3 1 vq87_5_3 (yq87_5_1.map cI) :: OwnS 3 1 vq87_11_3 (yq87_11_1.map cI) :: OwnS 28 1 v40 (y42.map cI) :: OwnS 153 2 v43 (y45.map cTii) :: OwnS 161 5 v46 (y48.map cTiiibi) :: Bx b15 69 [v40, v46, v60, v63] :: Bx b14 158 [v43, U x50, I z49.1.1, I z49.1.2.1, .bool z49.1.2.2.1, I z49.1.2.2.2.1, U z49.1.2.2.2.2.1, I z49.1.2.2.2.2.2.1, I z49.1.2.2.2.2.2.2.1, I z49.1.2.2.2.2.2.2.2, I z49.2.1.1, I z49.2.1.2.1, .bool z49.2.1.2.2.1, I z49.2.1.2.2.2.1, U z49.2.1.2.2.2.2.1, I z49.2.1.2.2.2.2.2.1, I z49.2.1.2.2.2.2.2.2.1, I z49.2.1.2.2.2.2.2.2.2, I z49.2.2.1.1, I z49.2.2.1.2.1, .bool z49.2.2.1.2.2.1, I z49.2.2.1.2.2.2.1, U z49.2.2.1.2.2.2.2.1, I z49.2.2.1.2.2.2.2.2.1, I z49.2.2.1.2.2.2.2.2.2.1, I z49.2.2.1.2.2.2.2.2.2.2, I z49.2.2.2.1.1, I z49.2.2.2.1.2.1, .bool z49.2.2.2.1.2.2.1, I z49.2.2.2.1.2.2.2.1, U z49.2.2.2.1.2.2.2.2.1, I z49.2.2.2.1.2.2.2.2.2.1, I z49.2.2.2.1.2.2.2.2.2.2.1, I z49.2.2.2.1.2.2.2.2.2.2.2, I z49.2.2.2.2.1.1, I z49.2.2.2.2.1.2.1, .bool z49.2.2.2.2.1.2.2.1, I z49.2.2.2.2.1.2.2.2.1, U z49.2.2.2.2.1.2.2.2.2.1, I z49.2.2.2.2.1.2.2.2.2.2.1, I z49.2.2.2.2.1.2.2.2.2.2.2.1, I z49.2.2.2.2.1.2.2.2.2.2.2.2, I z49.2.2.2.2.2.1, I z49.2.2.2.2.2.2.1, .bool z49.2.2.2.2.2.2.2.1, I z49.2.2.2.2.2.2.2.2.1, U z49.2.2.2.2.2.2.2.2.2.1, I z49.2.2.2.2.2.2.2.2.2.2.1, I z49.2.2.2.2.2.2.2.2.2.2.2.1, I z49.2.2.2.2.2.2.2.2.2.2.2.2, v46] :: Bx b5 69 [.slice none 0 0, .slice none 0 0, .slice none 0 0, .slice none 0 0] :: L)) (listed' := #[true, true, true, true, true, true, true, true, true, true, true, true, true, false, false, false]) (by kernel_rfl) (by kernel_rfl) ?_
                refine TA.all1 (i := 13) (by kernel_rfl) ?_
                refine TB.of rfl ?_
                refine TO.pure (fun _ s => Rd.one (OwnS.rd (Ent.at 3 rfl)) s) fun ocq87_13_1 => ?_
                refine TO.stB (us := [vq87_5_3]) 8 [v40, v46, vq87_5_3, v63] rfl rfl rfl ksizeB_22_1_true ocq87_13_1.2 rfl rfl (by intro u hu; simp only [List.mem_cons, List.not_mem_nil, or_false] at hu; rcases hu with rfl <;> first | exact ocq87_13_1.1 | rfl) rfl ?_
                refine TA.back (.inl (by kernel_rfl)) ?_
                refine TA.asL (L' := (OwnS 3 1 vq87_10_1 (([x84.2] : List Int).map cI) :: OwnS 3 1 vq87_4_1 (([x84.1] : List Int).map cI) :: Bx b86 153 [I x84.1, I x84.2] :: OwnS 3 1 vq87_5_3 (yq87_5_1.map cI) :: OwnS 3 1 vq87_11_3 (yq87_11_1.map cI) :: OwnS 28 1 v40 (y42.map cI) :: OwnS 153 2 v43 (y45.map cTii) :: OwnS 161 5 v46 (y48.map cTiiibi) :: Bx b15 69 [v40, v46, vq87_5_3, v63] :: Bx b14 158 [v43, U x50, I z49.1.1, I z49.1.2.1, .bool z49.1.2.2.1, I z49.1.2.2.2.1, U z49.1.2.2.2.2.1, I z49.1.2.2.2.2.2.1, I z49.1.2.2.2.2.2.2.1, I z49.1.2.2.2.2.2.2.2, I z49.2.1.1, I z49.2.1.2.1, .bool z49.2.1.2.2.1, I z49.2.1.2.2.2.1, U z49.2.1.2.2.2.2.1, I z49.2.1.2.2.2.2.2.1, I z49.2.1.2.2.2.2.2.2.1, I z49.2.1.2.2.2.2.2.2.2, I z49.2.2.1.1, I z49.2.2.1.2.1, .bool z49.2.2.1.2.2.1, I z49.2.2.1.2.2.2.1, U z49.2.2.1.2.2.2.2.1, I z49.2.2.1.2.2.2.2.2.1, I z49.2.2.1.2.2.2.2.2.2.1, I z49.2.2.1.2.2.2.2.2.2.2, I z49.2.2.2.1.1, I z49.2.2.2.1.2.1, .bool z49.2.2.2.1.2.2.1, I z49.2.2.2.1.2.2.2.1, U z49.2.2.2.1.2.2.2.2.1, I z49.2.2.2.1.2.2.2.2.2.1, I z49.2.2.2.1.2.2.2.2.2.2.1, I z49.2.2.2.1.2.2.2.2.2.2.2, I z49.2.2.2.2.1.1, I z49.2.2.2.2.1.2.1, .bool z49.2.2.2.2.1.2.2.1, I z49.2.2.2.2.1.2.2.2.1, U z49.2.2.2.2.1.2.2.2.2.1, I z49.2.2.2.2.1.2.2.2.2.2.1, I z49.2.2.2.2.1.2.2.2.2.2.2.1, I z49.2.2.2.2.1.2.2.2.2.2.2.2, I z49.2.2.2.2.2.1, I z49.2.2.2.2.2.2.1, .bool z49.2.2.2.2.2.2.2.1, I z49.2.2.2.2.2.2.2.2.1, U z49.2.2.2.2.2.2.2.2.2.1, I z49.2.2.2.2.2.2.2.2.2.2.1, I z49.2.2.2.2.2.2.2.2.2.2.2.1, I z49.2.2.2.2.2.2.2.2.2.2.2.2, v46] :: Bx b5 69 [.slice none 0 0, .slice none 0 0, .slice none 0 0, .slice none 0 0] :: L)) (listed' := #[true, true, true, true, true, true, true, true, true, true, true, true, true, true, false, false]) (by kernel_rfl) (by kernel_rfl) ?_
                refine TA.takeW 14 rfl rfl rfl rfl (StepS.fld rfl kfieldB_69_3_3_true) (by kernel_rfl) (by kernel_rfl) (by kernel_rfl) rfl (.inl (by kernel_rfl)) ?_
                refine TA.all1 (i := 15) (by kernel_rfl) ?_
                refine TB.of rfl ?_
                refine TO.pure (fun _ s => Rd.one (OwnS.rd (Ent.at 4 rfl)) s) fun ocq87_15_1 => ?_
                refine TO.stB (us := [vq87_11_3]) 8 [v40, v46, vq87_5_3, vq87_11_3] rfl rfl rfl ksizeB_22_1_true ocq87_15_1.2 rfl rfl (by intro u hu; simp only [List.mem_cons, List.not_mem_nil, or_false] at hu; rcases hu with rfl <;> first | exact ocq87_15_1.1 | rfl) rfl ?_
                refine TA.back (.inl (by kernel_rfl)) ?_
                refine TA.asL (L' := (OwnS 3 1 vq87_10_1 (([x84.2] : List Int).map cI) :: OwnS 3 1 vq87_4_1 (([x84.1] : List Int).map cI) :: Bx b86 153 [I x84.1, I x84.2] :: OwnS 3 1 vq87_5_3 (yq87_5_1.map cI) :: OwnS 3 1 vq87_11_3 (yq87_11_1.map cI) :: OwnS 28 1 v40 (y42.map cI) :: OwnS 153 2 v43 (y45.map cTii) :: OwnS 161 5 v46 (y48.map cTiiibi) :: Bx b15 69 [v40, v46, vq87_5_3, vq87_11_3] :: Bx b14 158 [v43, U x50, I z49.1.1, I z49.1.2.1, .bool z49.1.2.2.1, I z49.1.2.2.2.1, U z49.1.2.2.2.2.1, I z49.1.2.2.2.2.2.1, I z49.1.2.2.2.2.2.2.1, I z49.1.2.2.2.2.2.2.2, I z49.2.1.1, I z49.2.1.2.1, .bool z49.2.1.2.2.1, I z49.2.1.2.2.2.1, U z49.2.1.2.2.2.2.1, I z49.2.1.2.2.2.2.2.1, I z49.2.1.2.2.2.2.2.2.1, I z49.2.1.2.2.2.2.2.2.2, I z49.2.2.1.1, I z49.2.2.1.2.1, .bool z49.2.2.1.2.2.1, I z49.2.2.1.2.2.2.1, U z49.2.2.1.2.2.2.2.1, I z49.2.2.1.2.2.2.2.2.1, I z49.2.2.1.2.2.2.2.2.2.1, I z49.2.2.1.2.2.2.2.2.2.2, I z49.2.2.2.1.1, I z49.2.2.2.1.2.1, .bool z49.2.2.2.1.2.2.1, I z49.2.2.2.1.2.2.2.1, U z49.2.2.2.1.2.2.2.2.1, I z49.2.2.2.1.2.2.2.2.2.1, I z49.2.2.2.1.2.2.2.2.2.2.1, I z49.2.2.2.1.2.2.2.2.2.2.2, I z49.2.2.2.2.1.1, I z49.2.2.2.2.1.2.1, .bool z49.2.2.2.2.1.2.2.1, I z49.2.2.2.2.1.2.2.2.1, U z49.2.2.2.2.1.2.2.2.2.1, I z49.2.2.2.2.1.2.2.2.2.2.1, I z49.2.2.2.2.1.2.2.2.2.2.2.1, I z49.2.2.2.2.1.2.2.2.2.2.2.2, I z49.2.2.2.2.2.1, I z49.2.2.2.2.2.2.1, .bool z49.2.2.2.2.2.2.2.1, I z49.2.2.2.2.2.2.2.2.1, U z49.2.2.2.2.2.2.2.2.2.1, I z49.2.2.2.2.2.2.2.2.2.2.1, I z49.2.2.2.2.2.2.2.2.2.2.2.1, I z49.2.2.2.2.2.2.2.2.2.2.2.2, v46] :: Bx b5 69 [.slice none 0 0, .slice none 0 0, .slice none 0 0, .slice none 0 0] :: L)) (listed' := #[true, true, true, true, true, true, true, true, true, true, true, true, true, true, true, true]) (by kernel_rfl) (by kernel_rfl) ?_
                cases hj92
                refine TA.nil (by kernel_rfl) fun a w e s => ?_
                exact ⟨vq87_5_3, vq87_11_3, e.sub (lk_of_allIn ⟨rfl, rfl, rfl, rfl, rfl, trivial⟩), s.mono fun _ => Sat.dropN 2⟩
              · refine TB.of rfl ?_
                refine TO.s rfl rfl rfl (StepS.ldB rfl (Ent.at 1 rfl) kscalB_3_true rfl) ?_
                refine TA.back (.inr (fun _ s => Sat.by [9, 9, 9, 9, 9, 9, 7] 7 3 (by kernel_rfl) s)) ?_
                refine TA.asL (L' := (OwnS 3 1 vq87_4_1 (([x84.1] : List Int).map cI) :: Bx b86 153 [I x84.1, I x84.2] :: OwnS 3 1 v60 (y62.map cI) :: OwnS 3 1 v63 (y65.map cI) :: OwnS 28 1 v40 (y42.map cI) :: OwnS 153 2 v43 (y45.map cTii) :: OwnS 161 5 v46 (y48.map cTiiibi) :: Bx b15 69 [v40, v46, v60, v63] :: Bx b14 158 [v43, U x50, I z49.1.1, I z49.1.2.1, .bool z49.1.2.2.1, I z49.1.2.2.2.1, U z49.1.2.2.2.2.1, I z49.1.2.2.2.2.2.1, I z49.1.2.2.2.2.2.2.1, I z49.1.2.2.2.2.2.2.2, I z49.2.1.1, I z49.2.1.2.1, .bool z49.2.1.2.2.1, I z49.2.1.2.2.2.1, U z49.2.1.2.2.2.2.1, I z49.2.1.2.2.2.2.2.1, I z49.2.1.2.2.2.2.2.2.1, I z49.2.1.2.2.2.2.2.2.2, I z49.2.2.1.1, I z49.2.2.1.2.1, .bool z49.2.2.1.2.2.1, I z49.2.2.1.2.2.2.1, U z49.2.2.1.2.2.2.2.1, I z49.2.2.1.2.2.2.2.2.1, I z49.2.2.1.2.2.2.2.2.2.1, I z49.2.2.1.2.2.2.2.2.2.2, I z49.2.2.2.1.1, I z49.2.2.2.1.2.1, .bool z49.2.2.2.1.2.2.1, I z49.2.2.2.1.2.2.2.1, U z49.2.2.2.1.2.2.2.2.1, I z49.2.2.2.1.2.2.2.2.2.1, I z49.2.2.2.1.2.2.2.2.2.2.1, I z49.2.2.2.1.2.2.2.2.2.2.2, I z49.2.2.2.2.1.1, I z49.2.2.2.2.1.2.1, .bool z49.2.2.2.2.1.2.2.1, I z49.2.2.2.2.1.2.2.2.1, U z49.2.2.2.2.1.2.2.2.2.1, I z49.2.2.2.2.1.2.2.2.2.2.1, I z49.2.2.2.2.1.2.2.2.2.2.2.1, I z49.2.2.2.2.1.2.2.2.2.2.2.2, I z49.2.2.2.2.2.1, I z49.2.2.2.2.2.2.1, .bool z49.2.2.2.2.2.2.2.1, I z49.2.2.2.2.2.2.2.2.1, U z49.2.2.2.2.2.2.2.2.2.1, I z49.2.2.2.2.2.2.2.2.2.2.1, I z49.2.2.2.2.2.2.2.2.2.2.2.1, I z49.2.2.2.2.2.2.2.2.2.2.2.2, v46] :: Bx b5 69 [.slice none 0 0, .slice none 0 0, .slice none 0 0, .slice none 0 0] :: L)) (listed' := #[true, true, true, true, true, false, true, true, true, true, false, false, false, false, false, false]) (by kernel_rfl) (by kernel_rfl) ?_
                refine TA.all2 (i := 5) (j := 10) (by kernel_rfl) ?_ ?_
                · refine TB.of rfl ?_
                  refine TO.app (k := 2) (f := cI) kelemB_22_3_1_8_true (by decide) rfl rfl rfl (OwnS.rd (Ent.at 0 rfl)) hkq87_5_2 (fun x c hc => by simp [Value.oneCell'] at hc ⊢; first | (obtain rfl := hc; rfl) | (rcases hc with rfl <;> rfl)) rfl rfl fun vq87_5_3 => ?_
                  refine TA.back (.inr (fun _ s => Sat.by [9, 9, 9, 9, 9, 9, 7] 7 3 (by kernel_rfl) s)) ?_
                  refine TA.asL (L' := (OwnS 3 1 vq87_4_1 (([x84.1] : List Int).map cI) :: Bx b86 153 [I x84.1, I x84.2] :: OwnS 3 1 vq87_5_3 (yq87_5_1.map cI) :: OwnS 3 1 v63 (y65.map cI) :: OwnS 28 1 v40 (y42.map cI) :: OwnS 153 2 v43 (y45.map cTii) :: OwnS 161 5 v46 (y48.map cTiiibi) :: Bx b15 69 [v40, v46, v60, v63] :: Bx b14 158 [v43, U x50, I z49.1.1, I z49.1.2.1, .bool z49.1.2.2.1, I z49.1.2.2.2.1, U z49.1.2.2.2.2.1, I z49.1.2.2.2.2.2.1, I z49.1.2.2.2.2.2.2.1, I z49.1.2.2.2.2.2.2.2, I z49.2.1.1, I z49.2.1.2.1, .bool z49.2.1.2.2.1, I z49.2.1.2.2.2.1, U z49.2.1.2.2.2.2.1, I z49.2.1.2.2.2.2.2.1, I z49.2.1.2.2.2.2.2.2.1, I z49.2.1.2.2.2.2.2.2.2, I z49.2.2.1.1, I z49.2.2.1.2.1, .bool z49.2.2.1.2.2.1, I z49.2.2.1.2.2.2.1, U z49.2.2.1.2.2.2.2.1, I z49.2.2.1.2.2.2.2.2.1, I z49.2.2.1.2.2.2.2.2.2.1, I z49.2.2.1.2.2.2.2.2.2.2, I z49.2.2.2.1.1, I z49.2.2.2.1.2.1, .bool z49.2.2.2.1.2.2.1, I z49.2.2.2.1.2.2.2.1, U z49.2.2.2.1.2.2.2.2.1, I z49.2.2.2.1.2.2.2.2.2.1, I z49.2.2.2.1.2.2.2.2.2.2.1, I z49.2.2.2.1.2.2.2.2.2.2.2, I z49.2.2.2.2.1.1, I z49.2.2.2.2.1.2.1, .bool z49.2.2.2.2.1.2.2.1, I z49.2.2.2.2.1.2.2.2.1, U z49.2.2.2.2.1.2.2.2.2.1, I z49.2.2.2.2.1.2.2.2.2.2.1, I z49.2.2.2.2.1.2.2.2.2.2.2.1, I z49.2.2.2.2.1.2.2.2.2.2.2.2, I z49.2.2.2.2.2.1, I z49.2.2.2.2.2.2.1, .bool z49.2.2.2.2.2.2.2.1, I z49.2.2.2.2.2.2.2.2.1, U z49.2.2.2.2.2.2.2.2.2.1, I z49.2.2.2.2.2.2.2.2.2.2.1, I z49.2.2.2.2.2.2.2.2.2.2.2.1, I z49.2.2.2.2.2.2.2.2.2.2.2.2, v46] :: Bx b5 69 [.slice none 0 0, .slice none 0 0, .slice none 0 0, .slice none 0 0] :: L)) (listed' := #[true, true, true, true, true, true, true, true, true, true, false, false, false, false, false, false]) (by kernel_rfl) (by kernel_rfl) ?_
                  refine TA.takeW 12 rfl rfl rfl rfl (StepS.fld rfl kfieldB_69_2_2_true) (by kernel_rfl) (by kernel_rfl) (by kernel_rfl) rfl (.inr (fun _ s => Sat.by [9, 9, 9, 9, 9, 9, 7] 7 3 (by kernel_rfl) s)) ?_
                  refine TA.all1 (i := 10) (by kernel_rfl) ?_
                  refine TB.of rfl ?_
                  refine TO.litS (f := cI) ([x84.2] : List Int) kelemB_22_3_1_8_true kinfo_3_bind_zero_some_I_0 rfl rfl (fun _ => rfl) rfl rfl (by kernel_rfl) rfl fun vq87_10_1 => ?_
                  refine TA.back (.inr (fun _ s => Sat.by [10, 10, 10, 10, 10, 10, 8] 7 4 (by kernel_rfl) s)) ?_
                  refine TA.asL (L' := (OwnS 3 1 vq87_10_1 (([x84.2] : List Int).map cI) :: OwnS 3 1 vq87_4_1 (([x84.1] : List Int).map cI) :: Bx b86 153 [I x84.1, I x84.2] :: OwnS 3 1 vq87_5_3 (yq87_5_1.map cI) :: OwnS 3 1 v63 (y65.map cI) :: OwnS 28 1 v40 (y42.map cI) :: OwnS 153 2 v43 (y45.map cTii) :: OwnS 161 5 v46 (y48.map cTiiibi) :: Bx b15 69 [v40, v46, v60, v63] :: Bx b14 158 [v43, U x50, I z49.1.1, I z49.1.2.1, .bool z49.1.2.2.1, I z49.1.2.2.2.1, U z49.1.2.2.2.2.1, I z49.1.2.2.2.2.2.1, I z49.1.2.2.2.2.2.2.1, I z49.1.2.2.2.2.2.2.2, I z49.2.1.1, I z49.2.1.2.1, .bool z49.2.1.2.2.1, I z49.2.1.2.2.2.1, U z49.2.1.2.2.2.2.1, I z49.2.1.2.2.2.2.2.1, I z49.2.1.2.2.2.2.2.2.1, I z49.2.1.2.2.2.2.2.2.2, I z49.2.2.1.1, I z49.2.2.1.2.1, .bool z49.2.2.1.2.2.1, I z49.2.2.1.2.2.2.1, U z49.2.2.1.2.2.2.2.1, I z49.2.2.1.2.2.2.2.2.1, I z49.2.2.1.2.2.2.2.2.2.1, I z49.2.2.1.2.2.2.2.2.2.2, I z49.2.2.2.1.1, I z49.2.2.2.1.2.1, .bool z49.2.2.2.1.2.2.1, I z49.2.2.2.1.2.2.2.1, U z49.2.2.2.1.2.2.2.2.1, I z49.2.2.2.1.2.2.2.2.2.1, I z49.2.2.2.1.2.2.2.2.2.2.1, I z49.2.2.2.1.2.2.2.2.2.2.2, I z49.2.2.2.2.1.1, I z49.2.2.2.2.1.2.1, .bool z49.2.2.2.2.1.2.2.1, I z49.2.2.2.2.1.2.2.2.1, U z49.2.2.2.2.1.2.2.2.2.1, I z49.2.2.2.2.1.2.2.2.2.2.1, I z49.2.2.2.2.1.2.2.2.2.2.2.1, I z49.2.2.2.2.1.2.2.2.2.2.2.2, I z49.2.2.2.2.2.1, I z49.2.2.2.2.2.2.1, .bool z49.2.2.2.2.2.2.2.1, I z49.2.2.2.2.2.2.2.2.1, U z49.2.2.2.2.2.2.2.2.2.1, I z49.2.2.2.2.2.2.2.2.2.2.1, I z49.2.2.2.2.2.2.2.2.2.2.2.1, I z49.2.2.2.2.2.2.2.2.2.2.2.2, v46] :: Bx b5 69 [.slice none 0 0, .slice none 0 0, .slice none 0 0, .slice none 0 0] :: L)) (listed' := #[true, true, true, true, true, true, true, true, true, true, true, false, true, false, false, false]) (by kernel_rfl) (by kernel_rfl) ?_
                  refine TA.all1 (i := 11) (by kernel_rfl) ?_
                  refine TB.of rfl ?_
                  refine TO.app (k := 4) (f := cI) kelemB_22_3_1_8_true (by decide) rfl rfl rfl (OwnS.rd (Ent.at 0 rfl)) hkq87_11_2 (fun x c hc => by simp [Value.oneCell'] at hc ⊢; first | (obtain rfl := hc; rfl) | (rcases hc with rfl <;> rfl)) rfl rfl fun vq87_11_3 => ?_
                  refine TA.back (.inr (fun _ s => Sat.by [10, 10, 10, 10, 10, 10, 8] 7 4 (by kernel_rfl) s)) ?_
                  refine TA.asL (L' := (OwnS 3 1 vq87_10_1 (([x84.2] : List Int).map cI) :: OwnS 3 1 vq87_4_1 (([x84.1] : List Int).map cI) :: Bx b86 153 [I x84.1, I x84.2] :: OwnS 3 1 vq87_5_3 (yq87_5_1.map cI) :: OwnS 3 1 vq87_11_3 (yq87_11_1.map cI) :: OwnS 28 1 v40 (y42.map cI) :: OwnS 153 2 v43 (y45.map cTii) :: OwnS 161 5 v46 (y48.map cTiiibi) :: Bx b15 69 [v40, v46, v60, v63] :: Bx b14 158 [v43, U x50, I z49.1.1, I z49.1.2.1, .bool z49.1.2.2.1, I z49.1.2.2.2.1, U z49.1.2.2.2.2.1, I z49.1.2.2.2.2.2.1, I z49.1.2.2.2.2.2.2.1, I z49.1.2.2.2.2.2.2.2, I z49.2.1.1, I z49.2.1.2.1, .bool z49.2.1.2.2.1, I z49.2.1.2.2.2.1, U z49.2.1.2.2.2.2.1, I z49.2.1.2.2.2.2.2.1, I z49.2.1.2.2.2.2.2.2.1, I z49.2.1.2.2.2.2.2.2.2, I z49.2.2.1.1, I z49.2.2.1.2.1, .bool z49.2.2.1.2.2.1, I z49.2.2.1.2.2.2.1, U z49.2.2.1.2.2.2.2.1, I z49.2.2.1.2.2.2.2.2.1, I z49.2.2.1.2.2.2.2.2.2.1, I z49.2.2.1.2.2.2.2.2.2.2, I z49.2.2.2.1.1, I z49.2.2.2.1.2.1, .bool z49.2.2.2.1.2.2.1, I z49.2.2.2.1.2.2.2.1, U z49.2.2.2.1.2.2.2.2.1, I z49.2.2.2.1.2.2.2.2.2.1, I z49.2.2.2.1.2.2.2.2.2.2.1, I z49.2.2.2.1.2.2.2.2.2.2.2, I z49.2.2.2.2.1.1, I z49.2.2.2.2.1.2.1, .bool z49.2.2.2.2.1.2.2.1, I z49.2.2.2.2.1.2.2.2.1, U z49.2.2.2.2.1.2.2.2.2.1, I z49.2.2.2.2.1.2.2.2.2.2.1, I z49.2.2.2.2.1.2.2.2.2.2.2.1, I z49.2.2.2.2.1.2.2.2.2.2.2.2, I z49.2.2.2.2.2.1, I z49.2.2.2.2.2.2.1, .bool z49.2.2.2.2.2.2.2.1, I z49.2.2.2.2.2.2.2.2.1, U z49.2.2.2.2.2.2.2.2.2.1, I z49.2.2.2.2.2.2.2.2.2.2.1, I z49.2.2.2.2.2.2.2.2.2.2.2.1, I z49.2.2.2.2.2.2.2.2.2.2.2.2, v46] :: Bx b5 69 [.slice none 0 0, .slice none 0 0, .slice none 0 0, .slice none 0 0] :: L)) (listed' := #[true, true, true, true, true, true, true, true, true, true, true, true, true, false, false, false]) (by kernel_rfl) (by kernel_rfl) ?_
                  refine TA.all1 (i := 13) (by kernel_rfl) ?_
                  refine TB.of rfl ?_
                  refine TO.pure (fun _ s => Rd.one (OwnS.rd (Ent.at 3 rfl)) s) fun ocq87_13_1 => ?_
                  refine TO.stB (us := [vq87_5_3]) 8 [v40, v46, vq87_5_3, v63] rfl rfl rfl ksizeB_22_1_true ocq87_13_1.2 rfl rfl (by intro u hu; simp only [List.mem_cons, List.not_mem_nil, or_false] at hu; rcases hu with rfl <;> first | exact ocq87_13_1.1 | rfl) rfl ?_
                  refine TA.back (.inl (by kernel_rfl)) ?_
                  refine TA.asL (L' := (OwnS 3 1 vq87_10_1 (([x84.2] : List Int).map cI) :: OwnS 3 1 vq87_4_1 (([x84.1] : List Int).map cI) :: Bx b86 153 [I x84.1, I x84.2] :: OwnS 3 1 vq87_5_3 (yq87_5_1.map cI) :: OwnS 3 1 vq87_11_3 (yq87_11_1.map cI) :: OwnS 28 1 v40 (y42.map cI) :: OwnS 153 2 v43 (y45.map cTii) :: OwnS 161 5 v46 (y48.map cTiiibi) :: Bx b15 69 [v40, v46, vq87_5_3, v63] :: Bx b14 158 [v43, U x50, I z49.1.1, I z49.1.2.1, .bool z49.1.2.2.1, I z49.1.2.2.2.1, U z49.1.2.2.2.2.1, I z49.1.2.2.2.2.2.1, I z49.1.2.2.2.2.2.2.1, I z49.1.2.2.2.2.2.2.2, I z49.2.1.1, I z49.2.1.2.1, .bool z49.2.1.2.2.1, I z49.2.1.2.2.2.1, U z49.2.1.2.2.2.2.1, I z49.2.1.2.2.2.2.2.1, I z49.2.1.2.2.2.2.2.2.1, I z49.2.1.2.2.2.2.2.2.2, I z49.2.2.1.1, I z49.2.2.1.2.1, .bool z49.2.2.1.2.2.1, I z49.2.2.1.2.2.2.1, U z49.2.2.1.2.2.2.2.1, I z49.2.2.1.2.2.2.2.2.1, I z49.2.2.1.2.2.2.2.2.2.1, I z49.2.2.1.2.2.2.2.2.2.2, I z49.2.2.2.1.1, I z49.2.2.2.1.2.1, .bool z49.2.2.2.1.2.2.1, I z49.2.2.2.1.2.2.2.1, U z49.2.2.2.1.2.2.2.2.1, I z49.2.2.2.1.2.2.2.2.2.1, I z49.2.2.2.1.2.2.2.2.2.2.1, I z49.2.2.2.1.2.2.2.2.2.2.2, I z49.2.2.2.2.1.1, I z49.2.2.2.2.1.2.1, .bool z49.2.2.2.2.1.2.2.1, I z49.2.2.2.2.1.2.2.2.1, U z49.2.2.2.2.1.2.2.2.2.1, I z49.2.2.2.2.1.2.2.2.2.2.1, I z49.2.2.2.2.1.2.2.2.2.2.2.1, I z49.2.2.2.2.1.2.2.2.2.2.2.2, I z49.2.2.2.2.2.1, I z49.2.2.2.2.2.2.1, .bool z49.2.2.2.2.2.2.2.1, I z49.2.2.2.2.2.2.2.2.1, U z49.2.2.2.2.2.2.2.2.2.1, I z49.2.2.2.2.2.2.2.2.2.2.1, I z49.2.2.2.2.2.2.2.2.2.2.2.1, I z49.2.2.2.2.2.2.2.2.2.2.2.2, v46] :: Bx b5 69 [.slice none 0 0, .slice none 0 0, .slice none 0 0, .slice none 0 0] :: L)) (listed' := #[true, true, true, true, true, true, true, true, true, true, true, true, true, true, false, false]) (by kernel_rfl) (by kernel_rfl) ?_
                  refine TA.takeW 14 rfl rfl rfl rfl (StepS.fld rfl kfieldB_69_3_3_true) (by kernel_rfl) (by kernel_rfl) (by kernel_rfl) rfl (.inl (by kernel_rfl)) ?_
                  refine TA.all1 (i := 15) (by kernel_rfl) ?_
                  refine TB.of rfl ?_
                  refine TO.pure (fun _ s => Rd.one (OwnS.rd (Ent.at 4 rfl)) s) fun ocq87_15_1 => ?_
                  refine TO.stB (us := [vq87_11_3]) 8 [v40, v46, vq87_5_3, vq87_11_3] rfl rfl rfl ksizeB_22_1_true ocq87_15_1.2 rfl rfl (by intro u hu; simp only [List.mem_cons, List.not_mem_nil, or_false] at hu; rcases hu with rfl <;> first | exact ocq87_15_1.1 | rfl) rfl ?_
                  refine TA.back (.inl (by kernel_rfl)) ?_
                  refine TA.asL (L' := (OwnS 3 1 vq87_10_1 (([x84.2] : List Int).map cI) :: OwnS 3 1 vq87_4_1 (([x84.1] : List Int).map cI) :: Bx b86 153 [I x84.1, I x84.2] :: OwnS 3 1 vq87_5_3 (yq87_5_1.map cI) :: OwnS 3 1 vq87_11_3 (yq87_11_1.map cI) :: OwnS 28 1 v40 (y42.map cI) :: OwnS 153 2 v43 (y45.map cTii) :: OwnS 161 5 v46 (y48.map cTiiibi) :: Bx b15 69 [v40, v46, vq87_5_3, vq87_11_3] :: Bx b14 158 [v43, U x50, I z49.1.1, I z49.1.2.1, .bool z49.1.2.2.1, I z49.1.2.2.2.1, U z49.1.2.2.2.2.1, I z49.1.2.2.2.2.2.1, I z49.1.2.2.2.2.2.2.1, I z49.1.2.2.2.2.2.2.2, I z49.2.1.1, I z49.2.1.2.1, .bool z49.2.1.2.2.1, I z49.2.1.2.2.2.1, U z49.2.1.2.2.2.2.1, I z49.2.1.2.2.2.2.2.1, I z49.2.1.2.2.2.2.2.2.1, I z49.2.1.2.2.2.2.2.2.2, I z49.2.2.1.1, I z49.2.2.1.2.1, .bool z49.2.2.1.2.2.1, I z49.2.2.1.2.2.2.1, U z49.2.2.1.2.2.2.2.1, I z49.2.2.1.2.2.2.2.2.1, I z49.2.2.1.2.2.2.2.2.2.1, I z49.2.2.1.2.2.2.2.2.2.2, I z49.2.2.2.1.1, I z49.2.2.2.1.2.1, .bool z49.2.2.2.1.2.2.1, I z49.2.2.2.1.2.2.2.1, U z49.2.2.2.1.2.2.2.2.1, I z49.2.2.2.1.2.2.2.2.2.1, I z49.2.2.2.1.2.2.2.2.2.2.1, I z49.2.2.2.1.2.2.2.2.2.2.2, I z49.2.2.2.2.1.1, I z49.2.2.2.2.1.2.1, .bool z49.2.2.2.2.1.2.2.1, I z49.2.2.2.2.1.2.2.2.1, U z49.2.2.2.2.1.2.2.2.2.1, I z49.2.2.2.2.1.2.2.2.2.2.1, I z49.2.2.2.2.1.2.2.2.2.2.2.1, I z49.2.2.2.2.1.2.2.2.2.2.2.2, I z49.2.2.2.2.2.1, I z49.2.2.2.2.2.2.1, .bool z49.2.2.2.2.2.2.2.1, I z49.2.2.2.2.2.2.2.2.1, U z49.2.2.2.2.2.2.2.2.2.1, I z49.2.2.2.2.2.2.2.2.2.2.1, I z49.2.2.2.2.2.2.2.2.2.2.2.1, I z49.2.2.2.2.2.2.2.2.2.2.2.2, v46] :: Bx b5 69 [.slice none 0 0, .slice none 0 0, .slice none 0 0, .slice none 0 0] :: L)) (listed' := #[true, true, true, true, true, true, true, true, true, true, true, true, true, true, true, true]) (by kernel_rfl) (by kernel_rfl) ?_
                  cases hj92
                  refine TA.nil (by kernel_rfl) fun a w e s => ?_
                  exact ⟨vq87_5_3, vq87_11_3, e.sub (lk_of_allIn ⟨rfl, rfl, rfl, rfl, rfl, trivial⟩), s.mono fun _ => Sat.dropN 2⟩
                · refine TB.of rfl ?_
                  refine TO.litS (f := cI) ([x84.2] : List Int) kelemB_22_3_1_8_true kinfo_3_bind_zero_some_I_0 rfl rfl (fun _ => rfl) rfl rfl (by kernel_rfl) rfl fun vq87_10_1 => ?_
                  refine TA.back (.inr (fun _ s => Sat.by [10, 10, 10, 10, 10, 10, 8] 7 4 (by kernel_rfl) s)) ?_
                  refine TA.asL (L' := (OwnS 3 1 vq87_10_1 (([x84.2] : List Int).map cI) :: OwnS 3 1 vq87_4_1 (([x84.1] : List Int).map cI) :: Bx b86 153 [I x84.1, I x84.2] :: OwnS 3 1 v60 (y62.map cI) :: OwnS 3 1 v63 (y65.map cI) :: OwnS 28 1 v40 (y42.map cI) :: OwnS 153 2 v43 (y45.map cTii) :: OwnS 161 5 v46 (y48.map cTiiibi) :: Bx b15 69 [v40, v46, v60, v63] :: Bx b14 158 [v43, U x50, I z49.1.1, I z49.1.2.1, .bool z49.1.2.2.1, I z49.1.2.2.2.1, U z49.1.2.2.2.2.1, I z49.1.2.2.2.2.2.1, I z49.1.2.2.2.2.2.2.1, I z49.1.2.2.2.2.2.2.2, I z49.2.1.1, I z49.2.1.2.1, .bool z49.2.1.2.2.1, I z49.2.1.2.2.2.1, U z49.2.1.2.2.2.2.1, I z49.2.1.2.2.2.2.2.1, I z49.2.1.2.2.2.2.2.2.1, I z49.2.1.2.2.2.2.2.2.2, I z49.2.2.1.1, I z49.2.2.1.2.1, .bool z49.2.2.1.2.2.1, I z49.2.2.1.2.2.2.1, U z49.2.2.1.2.2.2.2.1, I z49.2.2.1.2.2.2.2.2.1, I z49.2.2.1.2.2.2.2.2.2.1, I z49.2.2.1.2.2.2.2.2.2.2, I z49.2.2.2.1.1, I z49.2.2.2.1.2.1, .bool z49.2.2.2.1.2.2.1, I z49.2.2.2.1.2.2.2.1, U z49.2.2.2.1.2.2.2.2.1, I z49.2.2.2.1.2.2.2.2.2.1, I z49.2.2.2.1.2.2.2.2.2.2.1, I z49.2.2.2.1.2.2.2.2.2.2.2, I z49.2.2.2.2.1.1, I z49.2.2.2.2.1.2.1, .bool z49.2.2.2.2.1.2.2.1, I z49.2.2.2.2.1.2.2.2.1, U z49.2.2.2.2.1.2.2.2.2.1, I z49.2.2.2.2.1.2.2.2.2.2.1, I z49.2.2.2.2.1.2.2.2.2.2.2.1, I z49.2.2.2.2.1.2.2.2.2.2.2.2, I z49.2.2.2.2.2.1, I z49.2.2.2.2.2.2.1, .bool z49.2.2.2.2.2.2.2.1, I z49.2.2.2.2.2.2.2.2.1, U z49.2.2.2.2.2.2.2.2.2.1, I z49.2.2.2.2.2.2.2.2.2.2.1, I z49.2.2.2.2.2.2.2.2.2.2.2.1, I z49.2.2.2.2.2.2.2.2.2.2.2.2, v46] :: Bx b5 69 [.slice none 0 0, .slice none 0 0, .slice none 0 0, .slice none 0 0] :: L)) (listed' := #[true, true, true, true, true, false, true, true, true, true, true, false, false, false, false, false]) (by kernel_rfl) (by kernel_rfl) ?_
                  refine TA.all1 (i := 5) (by kernel_rfl) ?_
                  refine TB.of rfl ?_
                  refine TO.app (k := 3) (f := cI) kelemB_22_3_1_8_true (by decide) rfl rfl rfl (OwnS.rd (Ent.at 1 rfl)) hkq87_5_2 (fun x c hc => by simp [Value.oneCell'] at hc ⊢; first | (obtain rfl := hc; rfl) | (rcases hc with rfl <;> rfl)) rfl rfl fun vq87_5_3 => ?_
                  refine TA.back (.inr (fun _ s => Sat.by [10, 10, 10, 10, 10, 10, 8] 7 4 (by kernel_rfl) s)) ?_
                  refine TA.asL (L' := (OwnS 3 1 vq87_10_1 (([x84.2] : List Int).map cI) :: OwnS 3 1 vq87_4_1 (([x84.1] : List Int).map cI) :: Bx b86 153 [I x84.1, I x84.2] :: OwnS 3 1 vq87_5_3 (yq87_5_1.map cI) :: OwnS 3 1 v63 (y65.map cI) :: OwnS 28 1 v40 (y42.map cI) :: OwnS 153 2 v43 (y45.map cTii) :: OwnS 161 5 v46 (y48.map cTiiibi) :: Bx b15 69 [v40, v46, v60, v63] :: Bx b14 158 [v43, U x50, I z49.1.1, I z49.1.2.1, .bool z49.1.2.2.1, I z49.1.2.2.2.1, U z49.1.2.2.2.2.1, I z49.1.2.2.2.2.2.1, I z49.1.2.2.2.2.2.2.1, I z49.1.2.2.2.2.2.2.2, I z49.2.1.1, I z49.2.1.2.1, .bool z49.2.1.2.2.1, I z49.2.1.2.2.2.1, U z49.2.1.2.2.2.2.1, I z49.2.1.2.2.2.2.2.1, I z49.2.1.2.2.2.2.2.2.1, I z49.2.1.2.2.2.2.2.2.2, I z49.2.2.1.1, I z49.2.2.1.2.1, .bool z49.2.2.1.2.2.1, I z49.2.2.1.2.2.2.1, U z49.2.2.1.2.2.2.2.1, I z49.2.2.1.2.2.2.2.2.1, I z49.2.2.1.2.2.2.2.2.2.1, I z49.2.2.1.2.2.2.2.2.2.2, I z49.2.2.2.1.1, I z49.2.2.2.1.2.1, .bool z49.2.2.2.1.2.2.1, I z49.2.2.2.1.2.2.2.1, U z49.2.2.2.1.2.2.2.2.1, I z49.2.2.2.1.2.2.2.2.2.1, I z49.2.2.2.1.2.2.2.2.2.2.1, I z49.2.2.2.1.2.2.2.2.2.2.2, I z49.2.2.2.2.1.1, I z49.2.2.2.2.1.2.1, .bool z49.2.2.2.2.1.2.2.1, I z49.2.2.2.2.1.2.2.2.1, U z49.2.2.2.2.1.2.2.2.2.1, I z49.2.2.2.2.1.2.2.2.2.2.1, I z49.2.2.2.2.1.2.2.2.2.2.2.1, I z49.2.2.2.2.1.2.2.2.2.2.2.2, I z49.2.2.2.2.2.1, I z49.2.2.2.2.2.2.1, .bool z49.2.2.2.2.2.2.2.1, I z49.2.2.2.2.2.2.2.2.1, U z49.2.2.2.2.2.2.2.2.2.1, I z49.2.2.2.2.2.2.2.2.2.2.1, I z49.2.2.2.2.2.2.2.2.2.2.2.1, I z49.2.2.2.2.2.2.2.2.2.2.2.2, v46] :: Bx b5 69 [.slice none 0 0, .slice none 0 0, .slice none 0 0, .slice none 0 0] :: L)) (listed' := #[true, true, true, true, true, true, true, true, true, true, true, false, false, false, false, false]) (by kernel_rfl) (by kernel_rfl) ?_
                  refine TA.takeW 12 rfl rfl rfl rfl (StepS.fld rfl kfieldB_69_2_2_true) (by kernel_rfl) (by kernel_rfl) (by kernel_rfl) rfl (.inr (fun _ s => Sat.by [10, 10, 10, 10, 10, 10, 8] 7 4 (by kernel_rfl) s)) ?_
                  refine TA.all1 (i := 11) (by kernel_rfl) ?_
                  refine TB.of rfl ?_
                  refine TO.app (k := 4) (f := cI) kelemB_22_3_1_8_true (by decide) rfl rfl rfl (OwnS.rd (Ent.at 0 rfl)) hkq87_11_2 (fun x c hc => by simp [Value.oneCell'] at hc ⊢; first | (obtain rfl := hc; rfl) | (rcases hc with rfl <;> rfl)) rfl rfl fun vq87_11_3 => ?_
                  refine TA.back (.inr (fun _ s => Sat.by [10, 10, 10, 10, 10, 10, 8] 7 4 (by kernel_rfl) s)) ?_
                  refine TA.asL (L' := (OwnS 3 1 vq87_10_1 (([x84.2] : List Int).map cI) :: OwnS 3 1 vq87_4_1 (([x84.1] : List Int).map cI) :: Bx b86 153 [I x84.1, I x84.2] :: OwnS 3 1 vq87_5_3 (yq87_5_1.map cI) :: OwnS 3 1 vq87_11_3 (yq87_11_1.map cI) :: OwnS 28 1 v40 (y42.map cI) :: OwnS 153 2 v43 (y45.map cTii) :: OwnS 161 5 v46 (y48.map cTiiibi) :: Bx b15 69 [v40, v46, v60, v63] :: Bx b14 158 [v43, U x50, I z49.1.1, I z49.1.2.1, .bool z49.1.2.2.1, I z49.1.2.2.2.1, U z49.1.2.2.2.2.1, I z49.1.2.2.2.2.2.1, I z49.1.2.2.2.2.2.2.1, I z49.1.2.2.2.2.2.2.2, I z49.2.1.1, I z49.2.1.2.1, .bool z49.2.1.2.2.1, I z49.2.1.2.2.2.1, U z49.2.1.2.2.2.2.1, I z49.2.1.2.2.2.2.2.1, I z49.2.1.2.2.2.2.2.2.1, I z49.2.1.2.2.2.2.2.2.2, I z49.2.2.1.1, I z49.2.2.1.2.1, .bool z49.2.2.1.2.2.1, I z49.2.2.1.2.2.2.1, U z49.2.2.1.2.2.2.2.1, I z49.2.2.1.2.2.2.2.2.1, I z49.2.2.1.2.2.2.2.2.2.1, I z49.2.2.1.2.2.2.2.2.2.2, I z49.2.2.2.1.1, I z49.2.2.2.1.2.1, .bool z49.2.2.2.1.2.2.1, I z49.2.2.2.1.2.2.2.1, U z49.2.2.2.1.2.2.2.2.1, I z49.2.2.2.1.2.2.2.2.2.1, I z49.2.2.2.1.2.2.2.2.2.2.1, I z49.2.2.2.1.2.2.2.2.2.2.2, I z49.2.2.2.2.1.1, I z49.2.2.2.2.1.2.1, .bool z49.2.2.2.2.1.2.2.1, I z49.2.2.2.2.1.2.2.2.1, U z49.2.2.2.2.1.2.2.2.2.1, I z49.2.2.2.2.1.2.2.2.2.2.1, I z49.2.2.2.2.1.2.2.2.2.2.2.1, I z49.2.2.2.2.1.2.2.2.2.2.2.2, I z49.2.2.2.2.2.1, I z49.2.2.2.2.2.2.1, .bool z49.2.2.2.2.2.2.2.1, I z49.2.2.2.2.2.2.2.2.1, U z49.2.2.2.2.2.2.2.2.2.1, I z49.2.2.2.2.2.2.2.2.2.2.1, I z49.2.2.2.2.2.2.2.2.2.2.2.1, I z49.2.2.2.2.2.2.2.2.2.2.2.2, v46] :: Bx b5 69 [.slice none 0 0, .slice none 0 0, .slice none 0 0, .slice none 0 0] :: L)) (listed' := #[true, true, true, true, true, true, true, true, true, true, true, true, true, false, false, false]) (by kernel_rfl) (by kernel_rfl) ?_
                  refine TA.all1 (i := 13) (by kernel_rfl) ?_
                  refine TB.of rfl ?_
                  refine TO.pure (fun _ s => Rd.one (OwnS.rd (Ent.at 3 rfl)) s) fun ocq87_13_1 => ?_
                  refine TO.stB (us := [vq87_5_3]) 8 [v40, v46, vq87_5_3, v63] rfl rfl rfl ksizeB_22_1_true ocq87_13_1.2 rfl rfl (by intro u hu; simp only [List.mem_cons, List.not_mem_nil, or_false] at hu; rcases hu with rfl <;> first | exact ocq87_13_1.1 | rfl) rfl ?_
                  refine TA.back (.inl (by kernel_rfl)) ?_
                  refine TA.asL (L' := (OwnS 3 1 vq87_10_1 (([x84.2] : List Int).map cI) :: OwnS 3 1 vq87_4_1 (([x84.1] : List Int).map cI) :: Bx b86 153 [I x84.1, I x84.2] :: OwnS 3 1 vq87_5_3 (yq87_5_1.map cI) :: OwnS 3 1 vq87_11_3 (yq87_11_1.map cI) :: OwnS 28 1 v40 (y42.map cI) :: OwnS 153 2 v43 (y45.map cTii) :: OwnS 161 5 v46 (y48.map cTiiibi) :: Bx b15 69 [v40, v46, vq87_5_3, v63] :: Bx b14 158 [v43, U x50, I z49.1.1, I z49.1.2.1, .bool z49.1.2.2.1, I z49.1.2.2.2.1, U z49.1.2.2.2.2.1, I z49.1.2.2.2.2.2.1, I z49.1.2.2.2.2.2.2.1, I z49.1.2.2.2.2.2.2.2, I z49.2.1.1, I z49.2.1.2.1, .bool z49.2.1.2.2.1, I z49.2.1.2.2.2.1, U z49.2.1.2.2.2.2.1, I z49.2.1.2.2.2.2.2.1, I z49.2.1.2.2.2.2.2.2.1, I z49.2.1.2.2.2.2.2.2.2, I z49.2.2.1.1, I z49.2.2.1.2.1, .bool z49.2.2.1.2.2.1, I z49.2.2.1.2.2.2.1, U z49.2.2.1.2.2.2.2.1, I z49.2.2.1.2.2.2.2.2.1, I z49.2.2.1.2.2.2.2.2.2.1, I z49.2.2.1.2.2.2.2.2.2.2, I z49.2.2.2.1.1, I z49.2.2.2.1.2.1, .bool z49.2.2.2.1.2.2.1, I z49.2.2.2.1.2.2.2.1, U z49.2.2.2.1.2.2.2.2.1, I z49.2.2.2.1.2.2.2.2.2.1, I z49.2.2.2.1.2.2.2.2.2.2.1, I z49.2.2.2.1.2.2.2.2.2.2.2, I z49.2.2.2.2.1.1, I z49.2.2.2.2.1.2.1, .bool z49.2.2.2.2.1.2.2.1, I z49.2.2.2.2.1.2.2.2.1, U z49.2.2.2.2.1.2.2.2.2.1, I z49.2.2.2.2.1.2.2.2.2.2.1, I z49.2.2.2.2.1.2.2.2.2.2.2.1, I z49.2.2.2.2.1.2.2.2.2.2.2.2, I z49.2.2.2.2.2.1, I z49.2.2.2.2.2.2.1, .bool z49.2.2.2.2.2.2.2.1, I z49.2.2.2.2.2.2.2.2.1, U z49.2.2.2.2.2.2.2.2.2.1, I z49.2.2.2.2.2.2.2.2.2.2.1, I z49.2.2.2.2.2.2.2.2.2.2.2.1, I z49.2.2.2.2.2.2.2.2.2.2.2.2, v46] :: Bx b5 69 [.slice none 0 0, .slice none 0 0, .slice none 0 0, .slice none 0 0] :: L)) (listed' := #[true, true, true, true, true, true, true, true, true, true, true, true, true, true, false, false]) (by kernel_rfl) (by kernel_rfl) ?_
                  refine TA.takeW 14 rfl rfl rfl rfl (StepS.fld rfl kfieldB_69_3_3_true) (by kernel_rfl) (by kernel_rfl) (by kernel_rfl) rfl (.inl (by kernel_rfl)) ?_
                  refine TA.all1 (i := 15) (by kernel_rfl) ?_
                  refine TB.of rfl ?_
                  refine TO.pure (fun _ s => Rd.one (OwnS.rd (Ent.at 4 rfl)) s) fun ocq87_15_1 => ?_
                  refine TO.stB (us := [vq87_11_3]) 8 [v40, v46, vq87_5_3, vq87_11_3] rfl rfl rfl ksizeB_22_1_true ocq87_15_1.2 rfl rfl (by intro u hu; simp only [List.mem_cons, List.not_mem_nil, or_false] at hu; rcases hu with rfl <;> first | exact ocq87_15_1.1 | rfl) rfl ?_
                  refine TA.back (.inl (by kernel_rfl)) ?_
                  refine TA.asL (L' := (OwnS 3 1 vq87_10_1 (([x84.2] : List Int).map cI) :: OwnS 3 1 vq87_4_1 (([x84.1] : List Int).map cI) :: Bx b86 153 [I x84.1, I x84.2] :: OwnS 3 1 vq87_5_3 (yq87_5_1.map cI) :: OwnS 3 1 vq87_11_3 (yq87_11_1.map cI) :: OwnS 28 1 v40 (y42.map cI) :: OwnS 153 2 v43 (y45.map cTii) :: OwnS 161 5 v46 (y48.map cTiiibi) :: Bx b15 69 [v40, v46, vq87_5_3, vq87_11_3] :: Bx b14 158 [v43, U x50, I z49.1.1, I z49.1.2.1, .bool z49.1.2.2.1, I z49.1.2.2.2.1, U z49.1.2.2.2.2.1, I z49.1.2.2.2.2.2.1, I z49.1.2.2.2.2.2.2.1, I z49.1.2.2.2.2.2.2.2, I z49.2.1.1, I z49.2.1.2.1, .bool z49.2.1.2.2.1, I z49.2.1.2.2.2.1, U z49.2.1.2.2.2.2.1, I z49.2.1.2.2.2.2.2.1, I z49.2.1.2.2.2.2.2.2.1, I z49.2.1.2.2.2.2.2.2.2, I z49.2.2.1.1, I z49.2.2.1.2.1, .bool z49.2.2.1.2.2.1, I z49.2.2.1.2.2.2.1, U z49.2.2.1.2.2.2.2.1, I z49.2.2.1.2.2.2.2.2.1, I z49.2.2.1.2.2.2.2.2.2.1, I z49.2.2.1.2.2.2.2.2.2.2, I z49.2.2.2.1.1, I z49.2.2.2.1.2.1, .bool z49.2.2.2.1.2.2.1, I z49.2.2.2.1.2.2.2.1, U z49.2.2.2.1.2.2.2.2.1, I z49.2.2.2.1.2.2.2.2.2.1, I z49.2.2.2.1.2.2.2.2.2.2.1, I z49.2.2.2.1.2.2.2.2.2.2.2, I z49.2.2.2.2.1.1, I z49.2.2.2.2.1.2.1, .bool z49.2.2.2.2.1.2.2.1, I z49.2.2.2.2.1.2.2.2.1, U z49.2.2.2.2.1.2.2.2.2.1, I z49.2.2.2.2.1.2.2.2.2.2.1, I z49.2.2.2.2.1.2.2.2.2.2.2.1, I z49.2.2.2.2.1.2.2.2.2.2.2.2, I z49.2.2.2.2.2.1, I z49.2.2.2.2.2.2.1, .bool z49.2.2.2.2.2.2.2.1, I z49.2.2.2.2.2.2.2.2.1, U z49.2.2.2.2.2.2.2.2.2.1, I z49.2.2.2.2.2.2.2.2.2.2.1, I z49.2.2.2.2.2.2.2.2.2.2.2.1, I z49.2.2.2.2.2.2.2.2.2.2.2.2, v46] :: Bx b5 69 [.slice none 0 0, .slice none 0 0, .slice none 0 0, .slice none 0 0] :: L)) (listed' := #[true, true, true, true, true, true, true, true, true, true, true, true, true, true, true, true]) (by kernel_rfl) (by kernel_rfl) ?_
                  cases hj92
                  refine TA.nil (by kernel_rfl) fun a w e s => ?_
                  exact ⟨vq87_5_3, vq87_11_3, e.sub (lk_of_allIn ⟨rfl, rfl, rfl, rfl, rfl, trivial⟩), s.mono fun _ => Sat.dropN 2⟩
            · refine TB.of rfl ?_
              refine TO.s rfl rfl rfl (StepS.ldB rfl (Ent.at 0 rfl) kscalB_3_true rfl) ?_
              refine TA.back (.inr (fun _ s => Sat.by [8, 8, 8, 8, 8, 8, 6] 7 2 (by kernel_rfl) s)) ?_
              refine TA.asL (L' := (Bx b86 153 [I x84.1, I x84.2] :: OwnS 3 1 v60 (y62.map cI) :: OwnS 3 1 v63 (y65.map cI) :: OwnS 28 1 v40 (y42.map cI) :: OwnS 153 2 v43 (y45.map cTii) :: OwnS 161 5 v46 (y48.map cTiiibi) :: Bx b15 69 [v40, v46, v60, v63] :: Bx b14 158 [v43, U x50, I z49.1.1, I z49.1.2.1, .bool z49.1.2.2.1, I z49.1.2.2.2.1, U z49.1.2.2.2.2.1, I z49.1.2.2.2.2.2.1, I z49.1.2.2.2.2.2.2.1, I z49.1.2.2.2.2.2.2.2, I z49.2.1.1, I z49.2.1.2.1, .bool z49.2.1.2.2.1, I z49.2.1.2.2.2.1, U z49.2.1.2.2.2.2.1, I z49.2.1.2.2.2.2.2.1, I z49.2.1.2.2.2.2.2.2.1, I z49.2.1.2.2.2.2.2.2.2, I z49.2.2.1.1, I z49.2.2.1.2.1, .bool z49.2.2.1.2.2.1, I z49.2.2.1.2.2.2.1, U z49.2.2.1.2.2.2.2.1, I z49.2.2.1.2.2.2.2.2.1, I z49.2.2.1.2.2.2.2.2.2.1, I z49.2.2.1.2.2.2.2.2.2.2, I z49.2.2.2.1.1, I z49.2.2.2.1.2.1, .bool z49.2.2.2.1.2.2.1, I z49.2.2.2.1.2.2.2.1, U z49.2.2.2.1.2.2.2.2.1, I z49.2.2.2.1.2.2.2.2.2.1, I z49.2.2.2.1.2.2.2.2.2.2.1, I z49.2.2.2.1.2.2.2.2.2.2.2, I z49.2.2.2.2.1.1, I z49.2.2.2.2.1.2.1, .bool z49.2.2.2.2.1.2.2.1, I z49.2.2.2.2.1.2.2.2.1, U z49.2.2.2.2.1.2.2.2.2.1, I z49.2.2.2.2.1.2.2.2.2.2.1, I z49.2.2.2.2.1.2.2.2.2.2.2.1, I z49.2.2.2.2.1.2.2.2.2.2.2.2, I z49.2.2.2.2.2.1, I z49.2.2.2.2.2.2.1, .bool z49.2.2.2.2.2.2.2.1, I z49.2.2.2.2.2.2.2.2.1, U z49.2.2.2.2.2.2.2.2.2.1, I z49.2.2.2.2.2.2.2.2.2.2.1, I z49.2.2.2.2.2.2.2.2.2.2.2.1, I z49.2.2.2.2.2.2.2.2.2.2.2.2, v46] :: Bx b5 69 [.slice none 0 0, .slice none 0 0, .slice none 0 0, .slice none 0 0] :: L)) (listed' := #[true, true, true, true, false, false, true, true, true, true, false, false, false, false, false, false]) (by kernel_rfl) (by kernel_rfl) ?_
              refine TA.all2 (i := 4) (j := 10) (by kernel_rfl) ?_ ?_
              · refine TB.of rfl ?_
                refine TO.litS (f := cI) ([x84.1] : List Int) kelemB_22_3_1_8_true kinfo_3_bind_zero_some_I_0 rfl rfl (fun _ => rfl) rfl rfl (by kernel_rfl) rfl fun vq87_4_1 => ?_
                refine TA.back (.inr (fun _ s => Sat.by [9, 9, 9, 9, 9, 9, 7] 7 3 (by kernel_rfl) s)) ?_
                refine TA.asL (L' := (OwnS 3 1 vq87_4_1 (([x84.1] : List Int).map cI) :: Bx b86 153 [I x84.1, I x84.2] :: OwnS 3 1 v60 (y62.map cI) :: OwnS 3 1 v63 (y65.map cI) :: OwnS 28 1 v40 (y42.map cI) :: OwnS 153 2 v43 (y45.map cTii) :: OwnS 161 5 v46 (y48.map cTiiibi) :: Bx b15 69 [v40, v46, v60, v63] :: Bx b14 158 [v43, U x50, I z49.1.1, I z49.1.2.1, .bool z49.1.2.2.1, I z49.1.2.2.2.1, U z49.1.2.2.2.2.1, I z49.1.2.2.2.2.2.1, I z49.1.2.2.2.2.2.2.1, I z49.1.2.2.2.2.2.2.2, I z49.2.1.1, I z49.2.1.2.1, .bool z49.2.1.2.2.1, I z49.2.1.2.2.2.1, U z49.2.1.2.2.2.2.1, I z49.2.1.2.2.2.2.2.1, I z49.2.1.2.2.2.2.2.2.1, I z49.2.1.2.2.2.2.2.2.2, I z49.2.2.1.1, I z49.2.2.1.2.1, .bool z49.2.2.1.2.2.1, I z49.2.2.1.2.2.2.1, U z49.2.2.1.2.2.2.2.1, I z49.2.2.1.2.2.2.2.2.1, I z49.2.2.1.2.2.2.2.2.2.1, I z49.2.2.1.2.2.2.2.2.2.2, I z49.2.2.2.1.1, I z49.2.2.2.1.2.1, .bool z49.2.2.2.1.2.2.1, I z49.2.2.2.1.2.2.2.1, U z49.2.2.2.1.2.2.2.2.1, I z49.2.2.2.1.2.2.2.2.2.1, I z49.2.2.2.1.2.2.2.2.2.2.1, I z49.2.2.2.1.2.2.2.2.2.2.2, I z49.2.2.2.2.1.1, I z49.2.2.2.2.1.2.1, .bool z49.2.2.2.2.1.2.2.1, I z49.2.2.2.2.1.2.2.2.1, U z49.2.2.2.2.1.2.2.2.2.1, I z49.2.2.2.2.1.2.2.2.2.2.1, I z49.2.2.2.2.1.2.2.2.2.2.2.1, I z49.2.2.2.2.1.2.2.2.2.2.2.2, I z49.2.2.2.2.2.1, I z49.2.2.2.2.2.2.1, .bool z49.2.2.2.2.2.2.2.1, I z49.2.2.2.2.2.2.2.2.1, U z49.2.2.2.2.2.2.2.2.2.1, I z49.2.2.2.2.2.2.2.2.2.2.1, I z49.2.2.2.2.2.2.2.2.2.2.2.1, I z49.2.2.2.2.2.2.2.2.2.2.2.2, v46] :: Bx b5 69 [.slice none 0 0, .slice none 0 0, .slice none 0 0, .slice none 0 0] :: L)) (listed' := #[true, true, true, true, true, false, true, true, true, true, false, false, false, false, false, false]) (by kernel_rfl) (by kernel_rfl) ?_
                refine TA.all2 (i := 5) (j := 10) (by kernel_rfl) ?_ ?_
                · refine TB.of rfl ?_
                  refine TO.app (k := 2) (f := cI) kelemB_22_3_1_8_true (by decide) rfl rfl rfl (OwnS.rd (Ent.at 0 rfl)) hkq87_5_2 (fun x c hc => by simp [Value.oneCell'] at hc ⊢; first | (obtain rfl := hc; rfl) | (rcases hc with rfl <;> rfl)) rfl rfl fun vq87_5_3 => ?_
                  refine TA.back (.inr (fun _ s => Sat.by [9, 9, 9, 9, 9, 9, 7] 7 3 (by kernel_rfl) s)) ?_
                  refine TA.asL (L' := (OwnS 3 1 vq87_4_1 (([x84.1] : List Int).map cI) :: Bx b86 153 [I x84.1, I x84.2] :: OwnS 3 1 vq87_5_3 (yq87_5_1.map cI) :: OwnS 3 1 v63 (y65.map cI) :: OwnS 28 1 v40 (y42.map cI) :: OwnS 153 2 v43 (y45.map cTii) :: OwnS 161 5 v46 (y48.map cTiiibi) :: Bx b15 69 [v40, v46, v60, v63] :: Bx b14 158 [v43, U x50, I z49.1.1, I z49.1.2.1, .bool z49.1.2.2.1, I z49.1.2.2.2.1, U z49.1.2.2.2.2.1, I z49.1.2.2.2.2.2.1, I z49.1.2.2.2.2.2.2.1, I z49.1.2.2.2.2.2.2.2, I z49.2.1.1, I z49.2.1.2.1, .bool z49.2.1.2.2.1, I z49.2.1.2.2.2.1, U z49.2.1.2.2.2.2.1, I z49.2.1.2.2.2.2.2.1, I z49.2.1.2.2.2.2.2.2.1, I z49.2.1.2.2.2.2.2.2.2, I z49.2.2.1.1, I z49.2.2.1.2.1, .bool z49.2.2.1.2.2.1, I z49.2.2.1.2.2.2.1, U z49.2.2.1.2.2.2.2.1, I z49.2.2.1.2.2.2.2.2.1, I z49.2.2.1.2.2.2.2.2.2.1, I z49.2.2.1.2.2.2.2.2.2.2, I z49.2.2.2.1.1, I z49.2.2.2.1.2.1, .bool z49.2.2.2.1.2.2.1, I z49.2.2.2.1.2.2.2.1, U z49.2.2.2.1.2.2.2.2.1, I z49.2.2.2.1.2.2.2.2.2.1, I z49.2.2.2.1.2.2.2.2.2.2.1, I z49.2.2.2.1.2.2.2.2.2.2.2, I z49.2.2.2.2.1.1, I z49.2.2.2.2.1.2.1, .bool z49.2.2.2.2.1.2.2.1, I z49.2.2.2.2.1.2.2.2.1, U z49.2.2.2.2.1.2.2.2.2.1, I z49.2.2.2.2.1.2.2.2.2.2.1, I z49.2.2.2.2.1.2.2.2.2.2.2.1, I z49.2.2.2.2.1.2.2.2.2.2.2.2, I z49.2.2.2.2.2.1, I z49.2.2.2.2.2.2.1, .bool z49.2.2.2.2.2.2.2.1, I z49.2.2.2.2.2.2.2.2.1, U z49.2.2.2.2.2.2.2.2.2.1, I z49.2.2.2.2.2.2.2.2.2.2.1, I z49.2.2.2.2.2.2.2.2.2.2.2.1, I z49.2.2.2.2.2.2.2.2.2.2.2.2, v46] :: Bx b5 69 [.slice none 0 0, .slice none 0 0, .slice none 0 0, .slice none 0 0] :: L)) (listed' := #[true, true, true, true, true, true, true, true, true, true, false, false, false, false, false, false]) (by kernel_rfl) (by kernel_rfl) ?_
                  refine TA.takeW 12 rfl rfl rfl rfl (StepS.fld rfl kfieldB_69_2_2_true) (by kernel_rfl) (by kernel_rfl) (by kernel_rfl) rfl (.inr (fun _ s => Sat.by [9, 9, 9, 9, 9, 9, 7] 7 3 (by kernel_rfl) s)) ?_
                  refine TA.all1 (i := 10) (by kernel_rfl) ?_
                  refine TB.of rfl ?_
                  refine TO.litS (f := cI) ([x84.2] : List Int) kelemB_22_3_1_8_true kinfo_3_bind_zero_some_I_0 rfl rfl (fun _ => rfl) rfl rfl (by kernel_rfl) rfl fun vq87_10_1 => ?_
                  refine TA.back (.inr (fun _ s => Sat.by [10, 10, 10, 10, 10, 10, 8] 7 4 (by kernel_rfl) s)) ?_
                  refine TA.asL (L' := (OwnS 3 1 vq87_10_1 (([x84.2] : List Int).map cI) :: OwnS 3 1 vq87_4_1 (([x84.1] : List Int).map cI) :: Bx b86 153 [I x84.1, I x84.2] :: OwnS 3 1 vq87_5_3 (yq87_5_1.map cI) :: OwnS 3 1 v63 (y65.map cI) :: OwnS 28 1 v40 (y42.map cI) :: OwnS 153 2 v43 (y45.map cTii) :: OwnS 161 5 v46 (y48.map cTiiibi) :: Bx b15 69 [v40, v46, v60, v63] :: Bx b14 158 [v43, U x50, I z49.1.1, I z49.1.2.1, .bool z49.1.2.2.1, I z49.1.2.2.2.1, U z49.1.2.2.2.2.1, I z49.1.2.2.2.2.2.1, I z49.1.2.2.2.2.2.2.1, I z49.1.2.2.2.2.2.2.2, I z49.2.1.1, I z49.2.1.2.1, .bool z49.2.1.2.2.1, I z49.2.1.2.2.2.1, U z49.2.1.2.2.2.2.1, I z49.2.1.2.2.2.2.2.1, I z49.2.1.2.2.2.2.2.2.1, I z49.2.1.2.2.2.2.2.2.2, I z49.2.2.1.1, I z49.2.2.1.2.1, .bool z49.2.2.1.2.2.1, I z49.2.2.1.2.2.2.1, U z49.2.2.1.2.2.2.2.1, I z49.2.2.1.2.2.2.2.2.1, I z49.2.2.1.2.2.2.2.2.2.1, I z49.2.2.1.2.2.2.2.2.2.2, I z49.2.2.2.1.1, I z49.2.2.2.1.2.1, .bool z49.2.2.2.1.2.2.1, I z49.2.2.2.1.2.2.2.1, U z49.2.2.2.1.2.2.2.2.1, I z49.2.2.2.1.2.2.2.2.2.1, I z49.2.2.2.1.2.2.2.2.2.2.1, I z49.2.2.2.1.2.2.2.2.2.2.2, I z49.2.2.2.2.1.1, I z49.2.2.2.2.1.2.1, .bool z49.2.2.2.2.1.2.2.1, I z49.2.2.2.2.1.2.2.2.1, U z49.2.2.2.2.1.2.2.2.2.1, I z49.2.2.2.2.1.2.2.2.2.2.1, I z49.2.2.2.2.1.2.2.2.2.2.2.1, I z49.2.2.2.2.1.2.2.2.2.2.2.2, I z49.2.2.2.2.2.1, I z49.2.2.2.2.2.2.1, .bool z49.2.2.2.2.2.2.2.1, I z49.2.2.2.2.2.2.2.2.1, U z49.2.2.2.2.2.2.2.2.2.1, I z49.2.2.2.2.2.2.2.2.2.2.1, I z49.2.2.2.2.2.2.2.2.2.2.2.1, I z49.2.2.2.2.2.2.2.2.2.2.2.2, v46] :: Bx b5 69 [.slice none 0 0, .slice none 0 0, .slice none 0 0, .slice none 0 0] :: L)) (listed' := #[true, true, true, true, true, true, true, true, true, true, true, false, true, false, false, false]) (by kernel_rfl) (by kernel_rfl) ?_
                  refine TA.all1 (i := 11) (by kernel_rfl) ?_
                  refine TB.of rfl ?_
                  refine TO.app (k := 4) (f := cI) kelemB_22_3_1_8_true (by decide) rfl rfl rfl (OwnS.rd (Ent.at 0 rfl)) hkq87_11_2 (fun x c hc => by simp [Value.oneCell'] at hc ⊢; first | (obtain rfl := hc; rfl) | (rcases hc with rfl <;> rfl)) rfl rfl fun vq87_11_3 => ?_
                  refine TA.back (.inr (fun _ s => Sat.by [10, 10, 10, 10, 10, 10, 8] 7 4 (by kernel_rfl) s)) ?_
                  refine TA.asL (L' := (OwnS 3 1 vq87_10_1 (([x84.2] : List Int).map cI) :: OwnS 3 1 vq87_4_1 (([x84.1] : List Int).map cI) :: Bx b86 153 [I x84.1, I x84.2] :: OwnS 3 1 vq87_5_3 (yq87_5_1.map cI) :: OwnS 3 1 vq87_11_3 (yq87_11_1.map cI) :: OwnS 28 1 v40 (y42.map cI) :: OwnS 153 2 v43 (y45.map cTii) :: OwnS 161 5 v46 (y48.map cTiiibi) :: Bx b15 69 [v40, v46, v60, v63] :: Bx b14 158 [v43, U x50, I z49.1.1, I z49.1.2.1, .bool z49.1.2.2.1, I z49.1.2.2.2.1, U z49.1.2.2.2.2.1, I z49.1.2.2.2.2.2.1, I z49.1.2.2.2.2.2.2.1, I z49.1.2.2.2.2.2.2.2, I z49.2.1.1, I z49.2.1.2.1, .bool z49.2.1.2.2.1, I z49.2.1.2.2.2.1, U z49.2.1.2.2.2.2.1, I z49.2.1.2.2.2.2.2.1, I z49.2.1.2.2.2.2.2.2.1, I z49.2.1.2.2.2.2.2.2.2, I z49.2.2.1.1, I z49.2.2.1.2.1, .bool z49.2.2.1.2.2.1, I z49.2.2.1.2.2.2.1, U z49.2.2.1.2.2.2.2.1, I z49.2.2.1.2.2.2.2.2.1, I z49.2.2.1.2.2.2.2.2.2.1, I z49.2.2.1.2.2.2.2.2.2.2, I z49.2.2.2.1.1, I z49.2.2.2.1.2.1, .bool z49.2.2.2.1.2.2.1, I z49.2.2.2.1.2.2.2.1, U z49.2.2.2.1.2.2.2.2.1, I z49.2.2.2.1.2.2.2.2.2.1, I z49.2.2.2.1.2.2.2.2.2.2.1, I z49.2.2.2.1.2.2.2.2.2.2.2, I z49.2.2.2.2.1.1, I z49.2.2.2.2.1.2.1, .bool z49.2.2.2.2.1.2.2.1, I z49.2.2.2.2.1.2.2.2.1, U z49.2.2.2.2.1.2.2.2.2.1, I z49.2.2.2.2.1.2.2.2.2.2.1, I z49.2.2.2.2.1.2.2.2.2.2.2.1, I z49.2.2.2.2.1.2.2.2.2.2.2.2, I z49.2.2.2.2.2.1, I z49.2.2.2.2.2.2.1, .bool z49.2.2.2.2.2.2.2.1, I z49.2.2.2.2.2.2.2.2.1, U z49.2.2.2.2.2.2.2.2.2.1, I z49.2.2.2.2.2.2.2.2.2.2.1, I z49.2.2.2.2.2.2.2.2.2.2.2.1, I z49.2.2.2.2.2.2.2.2.2.2.2.2, v46] :: Bx b5 69 [.slice none 0 0, .slice none 0 0, .slice none 0 0, .slice none 0 0] :: L)) (listed' := #[true, true, true, true, true, true, true, true, true, true, true, true, true, false, false, false]) (by kernel_rfl) (by kernel_rfl) ?_
                  refine TA.all1 (i := 13) (by kernel_rfl) ?_
                  refine TB.of rfl ?_
                  refine TO.pure (fun _ s => Rd.one (OwnS.rd (Ent.at 3 rfl)) s) fun ocq87_13_1 => ?_
                  refine TO.stB (us := [vq87_5_3]) 8 [v40, v46, vq87_5_3, v63] rfl rfl rfl ksizeB_22_1_true ocq87_13_1.2 rfl rfl (by intro u hu; simp only [List.mem_cons, List.not_mem_nil, or_false] at hu; rcases hu with rfl <;> first | exact ocq87_13_1.1 | rfl) rfl ?_
                  refine TA.back (.inl (by kernel_rfl)) ?_
                  refine TA.asL (L' := (OwnS 3 1 vq87_10_1 (([x84.2] : List Int).map cI) :: OwnS 3 1 vq87_4_1 (([x84.1] : List Int).map cI) :: Bx b86 153 [I x84.1, I x84.2] :: OwnS 3 1 vq87_5_3 (yq87_5_1.map cI) :: OwnS 3 1 vq87_11_3 (yq87_11_1.map cI) :: OwnS 28 1 v40 (y42.map cI) :: OwnS 153 2 v43 (y45.map cTii) :: OwnS 161 5 v46 (y48.map cTiiibi) :: Bx b15 69 [v40, v46, vq87_5_3, v63] :: Bx b14 158 [v43, U x50, I z49.1.1, I z49.1.2.1, .bool z49.1.2.2.1, I z49.1.2.2.2.1, U z49.1.2.2.2.2.1, I z49.1.2.2.2.2.2.1, I z49.1.2.2.2.2.2.2.1, I z49.1.2.2.2.2.2.2.2, I z49.2.1.1, I z49.2.1.2.1, .bool z49.2.1.2.2.1, I z49.2.1.2.2.2.1, U z49.2.1.2.2.2.2.1, I z49.2.1.2.2.2.2.2.1, I z49.2.1.2.2.2.2.2.2.1, I z49.2.1.2.2.2.2.2.2.2, I z49.2.2.1.1, I z49.2.2.1.2.1, .bool z49.2.2.1.2.2.1, I z49.2.2.1.2.2.2.1, U z49.2.2.1.2.2.2.2.1, I z49.2.2.1.2.2.2.2.2.1, I z49.2.2.1.2.2.2.2.2.2.1, I z49.2.2.1.2.2.2.2.2.2.2, I z49.2.2.2.1.1, I z49.2.2.2.1.2.1, .bool z49.2.2.2.1.2.2.1, I z49.2.2.2.1.2.2.2.1, U z49.2.2.2.1.2.2.2.2.1, I z49.2.2.2.1.2.2.2.2.2.1, I z49.2.2.2.1.2.2.2.2.2.2.1, I z49.2.2.2.1.2.2.2.2.2.2.2, I z49.2.2.2.2.1.1, I z49.2.2.2.2.1.2.1, .bool z49.2.2.2.2.1.2.2.1, I z49.2.2.2.2.1.2.2.2.1, U z49.2.2.2.2.1.2.2.2.2.1, I z49.2.2.2.2.1.2.2.2.2.2.1, I z49.2.2.2.2.1.2.2.2.2.2.2.1, I z49.2.2.2.2.1.2.2.2.2.2.2.2, I z49.2.2.2.2.2.1, I z49.2.2.2.2.2.2.1, .bool z49.2.2.2.2.2.2.2.1, I z49.2.2.2.2.2.2.2.2.1, U z49.2.2.2.2.2.2.2.2.2.1, I z49.2.2.2.2.2.2.2.2.2.2.1, I z49.2.2.2.2.2.2.2.2.2.2.2.1, I z49.2.2.2.2.2.2.2.2.2.2.2.2, v46] :: Bx b5 69 [.slice none 0 0, .slice none 0 0, .slice none 0 0, .slice none 0 0] :: L)) (listed' := #[true, true, true, true, true, true, true, true, true, true, true, true, true, true, false, false]) (by kernel_rfl) (by kernel_rfl) ?_
                  refine TA.takeW 14 rfl rfl rfl rfl (StepS.fld rfl kfieldB_69_3_3_true) (by kernel_rfl) (by kernel_rfl) (by kernel_rfl) rfl (.inl (by kernel_rfl)) ?_
                  refine TA.all1 (i := 15) (by kernel_rfl) ?_
                  refine TB.of rfl ?_
                  refine TO.pure (fun _ s => Rd.one (OwnS.rd (Ent.at 4 rfl)) s) fun ocq87_15_1 => ?_
                  refine TO.stB (us := [vq87_11_3]) 8 [v40, v46, vq87_5_3, vq87_11_3] rfl rfl rfl ksizeB_22_1_true ocq87_15_1.2 rfl rfl (by intro u hu; simp only [List.mem_cons, List.not_mem_nil, or_false] at hu; rcases hu with rfl <;> first | exact ocq87_15_1.1 | rfl) rfl ?_
                  refine TA.back (.inl (by kernel_rfl)) ?_
                  refine TA.asL (L' := (OwnS 3 1 vq87_10_1 (([x84.2] : List Int).map cI) :: OwnS 3 1 vq87_4_1 (([x84.1] : List Int).map cI) :: Bx b86 153 [I x84.1, I x84.2] :: OwnS 3 1 vq87_5_3 (yq87_5_1.map cI) :: OwnS 3 1 vq87_11_3 (yq87_11_1.map cI) :: OwnS 28 1 v40 (y42.map cI) :: OwnS 153 2 v43 (y45.map cTii) :: OwnS 161 5 v46 (y48.map cTiiibi) :: Bx b15 69 [v40, v46, vq87_5_3, vq87_11_3] :: Bx b14 158 [v43, U x50, I z49.1.1, I z49.1.2.1, .bool z49.1.2.2.1, I z49.1.2.2.2.1, U z49.1.2.2.2.2.1, I z49.1.2.2.2.2.2.1, I z49.1.2.2.2.2.2.2.1, I z49.1.2.2.2.2.2.2.2, I z49.2.1.1, I z49.2.1.2.1, .bool z49.2.1.2.2.1, I z49.2.1.2.2.2.1, U z49.2.1.2.2.2.2.1, I z49.2.1.2.2.2.2.2.1, I z49.2.1.2.2.2.2.2.2.1, I z49.2.1.2.2.2.2.2.2.2, I z49.2.2.1.1, I z49.2.2.1.2.1, .bool z49.2.2.1.2.2.1, I z49.2.2.1.2.2.2.1, U z49.2.2.1.2.2.2.2.1, I z49.2.2.1.2.2.2.2.2.1, I z49.2.2.1.2.2.2.2.2.2.1, I z49.2.2.1.2.2.2.2.2.2.2, I z49.2.2.2.1.1, I z49.2.2.2.1.2.1, .bool z49.2.2.2.1.2.2.1, I z49.2.2.2.1.2.2.2.1, U z49.2.2.2.1.2.2.2.2.1, I z49.2.2.2.1.2.2.2.2.2.1, I z49.2.2.2.1.2.2.2.2.2.2.1, I z49.2.2.2.1.2.2.2.2.2.2.2, I z49.2.2.2.2.1.1, I z49.2.2.2.2.1.2.1, .bool z49.2.2.2.2.1.2.2.1, I z49.2.2.2.2.1.2.2.2.1, U z49.2.2.2.2.1.2.2.2.2.1, I z49.2.2.2.2.1.2.2.2.2.2.1, I z49.2.2.2.2.1.2.2.2.2.2.2.1, I z49.2.2.2.2.1.2.2.2.2.2.2.2, I z49.2.2.2.2.2.1, I z49.2.2.2.2.2.2.1, .bool z49.2.2.2.2.2.2.2.1, I z49.2.2.2.2.2.2.2.2.1, U z49.2.2.2.2.2.2.2.2.2.1, I z49.2.2.2.2.2.2.2.2.2.2.1, I z49.2.2.2.2.2.2.2.2.2.2.2.1, I z49.2.2.2.2.2.2.2.2.2.2.2.2, v46] :: Bx b5 69 [.slice none 0 0, .slice none 0 0, .slice none 0 0, .slice none 0 0] :: L)) (listed' := #[true, true, true, true, true, true, true, true, true, true, true, true, true, true, true, true]) (by kernel_rfl) (by kernel_rfl) ?_
                  cases hj92
                  refine TA.nil (by kernel_rfl) fun a w e s => ?_
                  exact ⟨vq87_5_3, vq87_11_3, e.sub (lk_of_allIn ⟨rfl, rfl, rfl, rfl, rfl, trivial⟩), s.mono fun _ => Sat.dropN 2⟩
                · refine TB.of rfl ?_
                  refine TO.litS (f := cI) ([x84.2] : List Int) kelemB_22_3_1_8_true kinfo_3_bind_zero_some_I_0 rfl rfl (fun _ => rfl) rfl rfl (by kernel_rfl) rfl fun vq87_10_1 => ?_
                  refine TA.back (.inr (fun _ s => Sat.by [10, 10, 10, 10, 10, 10, 8] 7 4 (by kernel_rfl) s)) ?_
                  refine TA.asL (L' := (OwnS 3 1 vq87_10_1 (([x84.2] : List Int).map cI) :: OwnS 3 1 vq87_4_1 (([x84.1] : List Int).map cI) :: Bx b86 153 [I x84.1, I x84.2] :: OwnS 3 1 v60 (y62.map cI) :: OwnS 3 1 v63 (y65.map cI) :: OwnS 28 1 v40 (y42.map cI) :: OwnS 153 2 v43 (y45.map cTii) :: OwnS 161 5 v46 (y48.map cTiiibi) :: Bx b15 69 [v40, v46, v60, v63] :: Bx b14 158 [v43, U x50, I z49.1.1, I z49.1.2.1, .bool z49.1.2.2.1, I z49.1.2.2.2.1, U z49.1.2.2.2.2.1, I z49.1.2.2.2.2.2.1, I z49.1.2.2.2.2.2.2.1, I z49.1.2.2.2.2.2.2.2, I z49.2.1.1, I z49.2.1.2.1, .bool z49.2.1.2.2.1, I z49.2.1.2.2.2.1, U z49.2.1.2.2.2.2.1, I z49.2.1.2.2.2.2.2.1, I z49.2.1.2.2.2.2.2.2.1, I z49.2.1.2.2.2.2.2.2.2, I z49.2.2.1.1, I z49.2.2.1.2.1, .bool z49.2.2.1.2.2.1, I z49.2.2.1.2.2.2.1, U z49.2.2.1.2.2.2.2.1, I z49.2.2.1.2.2.2.2.2.1, I z49.2.2.1.2.2.2.2.2.2.1, I z49.2.2.1.2.2.2.2.2.2.2, I z49.2.2.2.1.1, I z49.2.2.2.1.2.1, .bool z49.2.2.2.1.2.2.1, I z49.2.2.2.1.2.2.2.1, U z49.2.2.2.1.2.2.2.2.1, I z49.2.2.2.1.2.2.2.2.2.1, I z49.2.2.2.1.2.2.2.2.2.2.1, I z49.2.2.2.1.2.2.2.2.2.2.2, I z49.2.2.2.2.1.1, I z49.2.2.2.2.1.2.1, .bool z49.2.2.2.2.1.2.2.1, I z49.2.2.2.2.1.2.2.2.1, U z49.2.2.2.2.1.2.2.2.2.1, I z49.2.2.2.2.1.2.2.2.2.2.1, I z49.2.2.2.2.1.2.2.2.2.2.2.1, I z49.2.2.2.2.1.2.2.2.2.2.2.2, I z49.2.2.2.2.2.1, I z49.2.2.2.2.2.2.1, .bool z49.2.2.2.2.2.2.2.1, I z49.2.2.2.2.2.2.2.2.1, U z49.2.2.2.2.2.2.2.2.2.1, I z49.2.2.2.2.2.2.2.2.2.2.1, I z49.2.2.2.2.2.2.2.2.2.2.2.1, I z49.2.2.2.2.2.2.2.2.2.2.2.2, v46] :: Bx b5 69 [.slice none 0 0, .slice none 0 0, .slice none 0 0, .slice none 0 0] :: L)) (listed' := #[true, true, true, true, true, false, true, true, true, true, true, false, false, false, false, false]) (by kernel_rfl) (by kernel_rfl) ?_
                  refine TA.all1 (i := 5) (by kernel_rfl) ?_
                  refine TB.of rfl ?_
                  refine TO.app (k := 3) (f := cI) kelemB_22_3_1_8_true (by decide) rfl rfl rfl (OwnS.rd (Ent.at 1 rfl)) hkq87_5_2 (fun x c hc => by simp [Value.oneCell'] at hc ⊢; first | (obtain rfl := hc; rfl) | (rcases hc with rfl <;> rfl)) rfl rfl fun vq87_5_3 => ?_
                  refine TA.back (.inr (fun _ s => Sat.by [10, 10, 10, 10, 10, 10, 8] 7 4 (by kernel_rfl) s)) ?_
                  refine TA.asL (L' := (OwnS 3 1 vq87_10_1 (([x84.2] : List Int).map cI) :: OwnS 3 1 vq87_4_1 (([x84.1] : List Int).map cI) :: Bx b86 153 [I x84.1, I x84.2] :: OwnS 3 1 vq87_5_3 (yq87_5_1.map cI) :: OwnS 3 1 v63 (y65.map cI) :: OwnS 28 1 v40 (y42.map cI) :: OwnS 153 2 v43 (y45.map cTii) :: OwnS 161 5 v46 (y48.map cTiiibi) :: Bx b15 69 [v40, v46, v60, v63] :: Bx b14 158 [v43, U x50, I z49.1.1, I z49.1.2.1, .bool z49.1.2.2.1, I z49.1.2.2.2.1, U z49.1.2.2.2.2.1, I z49.1.2.2.2.2.2.1, I z49.1.2.2.2.2.2.2.1, I z49.1.2.2.2.2.2.2.2, I z49.2.1.1, I z49.2.1.2.1, .bool z49.2.1.2.2.1, I z49.2.1.2.2.2.1, U z49.2.1.2.2.2.2.1, I z49.2.1.2.2.2.2.2.1, I z49.2.1.2.2.2.2.2.2.1, I z49.2.1.2.2.2.2.2.2.2, I z49.2.2.1.1, I z49.2.2.1.2.1, .bool z49.2.2.1.2.2.1, I z49.2.2.1.2.2.2.1, U z49.2.2.1.2.2.2.2.1, I z49.2.2.1.2.2.2.2.2.1, I z49.2.2.1.2.2.2.2.2.2.1, I z49.2.2.1.2.2.2.2.2.2.2, I z49.2.2.2.1.1, I z49.2.2.2.1.2.1, .bool z49.2.2.2.1.2.2.1, I z49.2.2.2.1.2.2.2.1, U z49.2.2.2.1.2.2.2.2.1, I z49.2.2.2.1.2.2.2.2.2.1, I z49.2.2.2.1.2.2.2.2.2.2.1, I z49.2.2.2.1.2.2.2.2.2.2.2, I z49.2.2.2.2.1.1, I z49.2.2.2.2.1.2.1, .bool z49.2.2.2.2.1.2.2.1, I z49.2.2.2.2.1.2.2.2.1, U z49.2.2.2.2.1.2.2.2.2.1, I z49.2.2.2.2.1.2.2.2.2.2.1, I z49.2.2.2.2.1.2.2.2.2.2.2.1, I z49.2.2.2.2.1.2.2.2.2.2.2.2, I z49.2.2.2.2.2.1, I z49.2.2.2.2.2.2.1, .bool z49.2.2.2.2.2.2.2.1, I z49.2.2.2.2.2.2.2.2.1, U z49.2.2.2.2.2.2.2.2.2.1, I z49.2.2.2.2.2.2.2.2.2.2.1, I z49.2.2.2.2.2.2.2.2.2.2.2.1, I z49.2.2.2.2.2.2.2.2.2.2.2.2, v46] :: Bx b5 69 [.slice none 0 0, .slice none 0 0, .slice none 0 0, .slice none 0 0] :: L)) (listed' := #[true, true, true, true, true, true, true, true, true, true, true, false, false, false, false, false]) (by kernel_rfl) (by kernel_rfl) ?_
                  refine TA.takeW 12 rfl rfl rfl rfl (StepS.fld rfl kfieldB_69_2_2_true) (by kernel_rfl) (by kernel_rfl) (by kernel_rfl) rfl (.inr (fun _ s => Sat.by [10, 10, 10, 10, 10, 10, 8] 7 4 (by kernel_rfl) s)) ?_
                  refine TA.all1 (i := 11) (by kernel_rfl) ?_
                  refine TB.of rfl ?_
                  refine TO.app (k := 4) (f := cI) kelemB_22_3_1_8_true (by decide) rfl rfl rfl (OwnS.rd (Ent.at 0 rfl)) hkq87_11_2 (fun x c hc => by simp [Value.oneCell'] at hc ⊢; first | (obtain rfl := hc; rfl) | (rcases hc with rfl <;> rfl)) rfl rfl fun vq87_11_3 => ?_
                  refine TA.back (.inr (fun _ s => Sat.by [10, 10, 10, 10, 10, 10, 8] 7 4 (by kernel_rfl) s)) ?_
                  refine TA.asL (L' := (OwnS 3 1 vq87_10_1 (([x84.2] : List Int).map cI) :: OwnS 3 1 vq87_4_1 (([x84.1] : List Int).map cI) :: Bx b86 153 [I x84.1, I x84.2] :: OwnS 3 1 vq87_5_3 (yq87_5_1.map cI) :: OwnS 3 1 vq87_11_3 (yq87_11_1.map cI) :: OwnS 28 1 v40 (y42.map cI) :: OwnS 153 2 v43 (y45.map cTii) :: OwnS 161 5 v46 (y48.map cTiiibi) :: Bx b15 69 [v40, v46, v60, v63] :: Bx b14 158 [v43, U x50, I z49.1.1, I z49.1.2.1, .bool z49.1.2.2.1, I z49.1.2.2.2.1, U z49.1.2.2.2.2.1, I z49.1.2.2.2.2.2.1, I z49.1.2.2.2.2.2.2.1, I z49.1.2.2.2.2.2.2.2, I z49.2.1.1, I z49.2.1.2.1, .bool z49.2.1.2.2.1, I z49.2.1.2.2.2.1, U z49.2.1.2.2.2.2.1, I z49.2.1.2.2.2.2.2.1, I z49.2.1.2.2.2.2.2.2.1, I z49.2.1.2.2.2.2.2.2.2, I z49.2.2.1.1, I z49.2.2.1.2.1, .bool z49.2.2.1.2.2.1, I z49.2.2.1.2.2.2.1, U z49.2.2.1.2.2.2.2.1, I z49.2.2.1.2.2.2.2.2.1, I z49.2.2.1.2.2.2.2.2.2.1, I z49.2.2.1.2.2.2.2.2.2.2, I z49.2.2.2.1.1, I z49.2.2.2.1.2.1, .bool z49.2.2.2.1.2.2.1, I z49.2.2.2.1.2.2.2.1, U z49.2.2.2.1.2.2.2.2.1, I z49.2.2.2.1.2.2.2.2.2.1, I z49.2.2.2.1.2.2.2.2.2.2.1, I z49.2.2.2.1.2.2.2.2.2.2.2, I z49.2.2.2.2.1.1, I z49.2.2.2.2.1.2.1, .bool z49.2.2.2.2.1.2.2.1, I z49.2.2.2.2.1.2.2.2.1, U z49.2.2.2.2.1.2.2.2.2.1, I z49.2.2.2.2.1.2.2.2.2.2.1, I z49.2.2.2.2.1.2.2.2.2.2.2.1, I z49.2.2.2.2.1.2.2.2.2.2.2.2, I z49.2.2.2.2.2.1, I z49.2.2.2.2.2.2.1, .bool z49.2.2.2.2.2.2.2.1, I z49.2.2.2.2.2.2.2.2.1, U z49.2.2.2.2.2.2.2.2.2.1, I z49.2.2.2.2.2.2.2.2.2.2.1, I z49.2.2.2.2.2.2.2.2.2.2.2.1, I z49.2.2.2.2.2.2.2.2.2.2.2.2, v46] :: Bx b5 69 [.slice none 0 0, .slice none 0 0, .slice none 0 0, .slice none 0 0] :: L)) (listed' := #[true, true, true, true, true, true, true, true, true, true, true, true, true, false, false, false]) (by kernel_rfl) (by kernel_rfl) ?_
                  refine TA.all1 (i := 13) (by kernel_rfl) ?_
                  refine TB.of rfl ?_
                  refine TO.pure (fun _ s => Rd.one (OwnS.rd (Ent.at 3 rfl)) s) fun ocq87_13_1 => ?_
                  refine TO.stB (us := [vq87_5_3]) 8 [v40, v46, vq87_5_3, v63] rfl rfl rfl ksizeB_22_1_true ocq87_13_1.2 rfl rfl (by intro u hu; simp only [List.mem_cons, List.not_mem_nil, or_false] at hu; rcases hu with rfl <;> first | exact ocq87_13_1.1 | rfl) rfl ?_
                  refine TA.back (.inl (by kernel_rfl)) ?_
                  refine TA.asL (L' := (OwnS 3 1 vq87_10_1 (([x84.2] : List Int).map cI) :: OwnS 3 1 vq87_4_1 (([x84.1] : List Int).map cI) :: Bx b86 153 [I x84.1, I x84.2] :: OwnS 3 1 vq87_5_3 (yq87_5_1.map cI) :: OwnS 3 1 vq87_11_3 (yq87_11_1.map cI) :: OwnS 28 1 v40 (y42.map cI) :: OwnS 153 2 v43 (y45.map cTii) :: OwnS 161 5 v46 (y48.map cTiiibi) :: Bx b15 69 [v40, v46, vq87_5_3, v63] :: Bx b14 158 [v43, U x50, I z49.1.1, I z49.1.2.1, .bool z49.1.2.2.1, I z49.1.2.2.2.1, U z49.1.2.2.2.2.1, I z49.1.2.2.2.2.2.1, I z49.1.2.2.2.2.2.2.1, I z49.1.2.2.2.2.2.2.2, I z49.2.1.1, I z49.2.1.2.1, .bool z49.2.1.2.2.1, I z49.2.1.2.2.2.1, U z49.2.1.2.2.2.2.1, I z49.2.1.2.2.2.2.2.1, I z49.2.1.2.2.2.2.2.2.1, I z49.2.1.2.2.2.2.2.2.2, I z49.2.2.1.1, I z49.2.2.1.2.1, .bool z49.2.2.1.2.2.1, I z49.2.2.1.2.2.2.1, U z49.2.2.1.2.2.2.2.1, I z49.2.2.1.2.2.2.2.2.1, I z49.2.2.1.2.2.2.2.2.2.1, I z49.2.2.1.2.2.2.2.2.2.2, I z49.2.2.2.1.1, I z49.2.2.2.1.2.1, .bool z49.2.2.2.1.2.2.1, I z49.2.2.2.1.2.2.2.1, U z49.2.2.2.1.2.2.2.2.1, I z49.2.2.2.1.2.2.2.2.2.1, I z49.2.2.2.1.2.2.2.2.2.2.1, I z49.2.2.2.1.2.2.2.2.2.2.2, I z49.2.2.2.2.1.1, I z49.2.2.2.2.1.2.1, .bool z49.2.2.2.2.1.2.2.1, I z49.2.2.2.2.1.2.2.2.1, U z49.2.2.2.2.1.2.2.2.2.1, I z49.2.2.2.2.1.2.2.2.2.2.1, I z49.2.2.2.2.1.2.2.2.2.2.2.1, I z49.2.2.2.2.1.2.2.2.2.2.2.2, I z49.2.2.2.2.2.1, I z49.2.2.2.2.2.2.1, .bool z49.2.2.2.2.2.2.2.1, I z49.2.2.2.2.2.2.2.2.1, U z49.2.2.2.2.2.2.2.2.2.1, I z49.2.2.2.2.2.2.2.2.2.2.1, I z49.2.2.2.2.2.2.2.2.2.2.2.1, I z49.2.2.2.2.2.2.2.2.2.2.2.2, v46] :: Bx b5 69 [.slice none 0 0, .slice none 0 0, .slice none 0 0, .slice none 0 0] :: L)) (listed' := #[true, true, true, true, true, true, true, true, true, true, true, true, true, true, false, false]) (by kernel_rfl) (by kernel_rfl) ?_
                  refine TA.takeW 14 rfl rfl rfl rfl (StepS.fld rfl kfieldB_69_3_3_true) (by kernel_rfl) (by kernel_rfl) (by kernel_rfl) rfl (.inl (by kernel_rfl)) ?_
                  refine TA.all1 (i := 15) (by kernel_rfl) ?_
                  refine TB.of rfl ?_
                  refine TO.pure (fun _ s => Rd.one (OwnS.rd (Ent.at 4 rfl)) s) fun ocq87_15_1 => ?_
                  refine TO.stB (us := [vq87_11_3]) 8 [v40, v46, vq87_5_3, vq87_11_3] rfl rfl rfl ksizeB_22_1_true ocq87_15_1.2 rfl rfl (by intro u hu; simp only [List.mem_cons, List.not_mem_nil, or_false] at hu; rcases hu with rfl <;> first | exact ocq87_15_1.1 | rfl) rfl ?_
                  refine TA.back (.inl (by kernel_rfl)) ?_
                  refine TA.asL (L' := (OwnS 3 1 vq87_10_1 (([x84.2] : List Int).map cI) :: OwnS 3 1 vq87_4_1 (([x84.1] : List Int).map cI) :: Bx b86 153 [I x84.1, I x84.2] :: OwnS 3 1 vq87_5_3 (yq87_5_1.map cI) :: OwnS 3 1 vq87_11_3 (yq87_11_1.map cI) :: OwnS 28 1 v40 (y42.map cI) :: OwnS 153 2 v43 (y45.map cTii) :: OwnS 161 5 v46 (y48.map cTiiibi) :: Bx b15 69 [v40, v46, vq87_5_3, vq87_11_3] :: Bx b14 158 [v43, U x50, I z49.1.1, I z49.1.2.1, .bool z49.1.2.2.1, I z49.1.2.2.2.1, U z49.1.2.2.2.2.1, I z49.1.2.2.2.2.2.1, I z49.1.2.2.2.2.2.2.1, I z49.1.2.2.2.2.2.2.2, I z49.2.1.1, I z49.2.1.2.1, .bool z49.2.1.2.2.1, I z49.2.1.2.2.2.1, U z49.2.1.2.2.2.2.1, I z49.2.1.2.2.2.2.2.1, I z49.2.1.2.2.2.2.2.2.1, I z49.2.1.2.2.2.2.2.2.2, I z49.2.2.1.1, I z49.2.2.1.2.1, .bool z49.2.2.1.2.2.1, I z49.2.2.1.2.2.2.1, U z49.2.2.1.2.2.2.2.1, I z49.2.2.1.2.2.2.2.2.1, I z49.2.2.1.2.2.2.2.2.2.1, I z49.2.2.1.2.2.2.2.2.2.2, I z49.2.2.2.1.1, I z49.2.2.2.1.2.1, .bool z49.2.2.2.1.2.2.1, I z49.2.2.2.1.2.2.2.1, U z49.2.2.2.1.2.2.2.2.1, I z49.2.2.2.1.2.2.2.2.2.1, I z49.2.2.2.1.2.2.2.2.2.2.1, I z49.2.2.2.1.2.2.2.2.2.2.2, I z49.2.2.2.2.1.1, I z49.2.2.2.2.1.2.1, .bool z49.2.2.2.2.1.2.2.1, I z49.2.2.2.2.1.2.2.2.1, U z49.2.2.2.2.1.2.2.2.2.1, I z49.2.2.2.2.1.2.2.2.2.2.1, I z49.2.2.2.2.1.2.2.2.2.2.2.1, I z49.2.2.2.2.1.2.2.2.2.2.2.2, I z49.2.2.2.2.2.1, I z49.2.2.2.2.2.2.1, .bool z49.2.2.2.2.2.2.2.1, I z49.2.2.2.2.2.2.2.2.1, U z49.2.2.2.2.2.2.2.2.2.1, I z49.2.2.2.2.2.2.2.2.2.2.1, I z49.2.2.2.2.2.2.2.2.2.2.2.1, I z49.2.2.2.2.2.2.2.2.2.2.2.2, v46] :: Bx b5 69 [.slice none 0 0, .slice none 0 0, .slice none 0 0, .slice none 0 0] :: L)) (listed' := #[true, true, true, true, true, true, true, true, true, true, true, true, true, true, true, true]) (by kernel_rfl) (by kernel_rfl) ?_
                  cases hj92
                  refine TA.nil (by kernel_rfl) fun a w e s => ?_
                  exact ⟨vq87_5_3, vq87_11_3, e.sub (lk_of_allIn ⟨rfl, rfl, rfl, rfl, rfl, trivial⟩), s.mono fun _ => Sat.dropN 2⟩
              · refine TB.of rfl ?_
                refine TO.litS (f := cI) ([x84.2] : List Int) kelemB_22_3_1_8_true kinfo_3_bind_zero_some_I_0 rfl rfl (fun _ => rfl) rfl rfl (by kernel_rfl) rfl fun vq87_10_1 => ?_
                refine TA.back (.inr (fun _ s => Sat.by [9, 9, 9, 9, 9, 9, 7] 7 3 (by kernel_rfl) s)) ?_
                refine TA.asL (L' := (OwnS 3 1 vq87_10_1 (([x84.2] : List Int).map cI) :: Bx b86 153 [I x84.1, I x84.2] :: OwnS 3 1 v60 (y62.map cI) :: OwnS 3 1 v63 (y65.map cI) :: OwnS 28 1 v40 (y42.map cI) :: OwnS 153 2 v43 (y45.map cTii) :: OwnS 161 5 v46 (y48.map cTiiibi) :: Bx b15 69 [v40, v46, v60, v63] :: Bx b14 158 [v43, U x50, I z49.1.1, I z49.1.2.1, .bool z49.1.2.2.1, I z49.1.2.2.2.1, U z49.1.2.2.2.2.1, I z49.1.2.2.2.2.2.1, I z49.1.2.2.2.2.2.2.1, I z49.1.2.2.2.2.2.2.2, I z49.2.1.1, I z49.2.1.2.1, .bool z49.2.1.2.2.1, I z49.2.1.2.2.2.1, U z49.2.1.2.2.2.2.1, I z49.2.1.2.2.2.2.2.1, I z49.2.1.2.2.2.2.2.2.1, I z49.2.1.2.2.2.2.2.2.2, I z49.2.2.1.1, I z49.2.2.1.2.1, .bool z49.2.2.1.2.2.1, I z49.2.2.1.2.2.2.1, U z49.2.2.1.2.2.2.2.1, I z49.2.2.1.2.2.2.2.2.1, I z49.2.2.1.2.2.2.2.2.2.1, I z49.2.2.1.2.2.2.2.2.2.2, I z49.2.2.2.1.1, I z49.2.2.2.1.2.1, .bool z49.2.2.2.1.2.2.1, I z49.2.2.2.1.2.2.2.1, U z49.2.2.2.1.2.2.2.2.1, I z49.2.2.2.1.2.2.2.2.2.1, I z49.2.2.2.1.2.2.2.2.2.2.1, I z49.2.2.2.1.2.2.2.2.2.2.2, I z49.2.2.2.2.1.1, I z49.2.2.2.2.1.2.1, .bool z49.2.2.2.2.1.2.2.1, I z49.2.2.2.2.1.2.2.2.1, U z49.2.2.2.2.1.2.2.2.2.1, I z49.2.2.2.2.1.2.2.2.2.2.1, I z49.2.2.2.2.1.2.2.2.2.2.2.1, I z49.2.2.2.2.1.2.2.2.2.2.2.2, I z49.2.2.2.2.2.1, I z49.2.2.2.2.2.2.1, .bool z49.2.2.2.2.2.2.2.1, I z49.2.2.2.2.2.2.2.2.1, U z49.2.2.2.2.2.2.2.2.2.1, I z49.2.2.2.2.2.2.2.2.2.2.1, I z49.2.2.2.2.2.2.2.2.2.2.2.1, I z49.2.2.2.2.2.2.2.2.2.2.2.2, v46] :: Bx b5 69 [.slice none 0 0, .slice none 0 0, .slice none 0 0, .slice none 0 0] :: L)) (listed' := #[true, true, true, true, false, false, true, true, true, true, true, false, false, false, false, false]) (by kernel_rfl) (by kernel_rfl) ?_
                refine TA.all1 (i := 4) (by kernel_rfl) ?_
                refine TB.of rfl ?_
                refine TO.litS (f := cI) ([x84.1] : List Int) kelemB_22_3_1_8_true kinfo_3_bind_zero_some_I_0 rfl rfl (fun _ => rfl) rfl rfl (by kernel_rfl) rfl fun vq87_4_1 => ?_
                refine TA.back (.inr (fun _ s => Sat.by [10, 10, 10, 10, 10, 10, 8] 7 4 (by kernel_rfl) s)) ?_
                refine TA.asL (L' := (OwnS 3 1 vq87_4_1 (([x84.1] : List Int).map cI) :: OwnS 3 1 vq87_10_1 (([x84.2] : List Int).map cI) :: Bx b86 153 [I x84.1, I x84.2] :: OwnS 3 1 v60 (y62.map cI) :: OwnS 3 1 v63 (y65.map cI) :: OwnS 28 1 v40 (y42.map cI) :: OwnS 153 2 v43 (y45.map cTii) :: OwnS 161 5 v46 (y48.map cTiiibi) :: Bx b15 69 [v40, v46, v60, v63] :: Bx b14 158 [v43, U x50, I z49.1.1, I z49.1.2.1, .bool z49.1.2.2.1, I z49.1.2.2.2.1, U z49.1.2.2.2.2.1, I z49.1.2.2.2.2.2.1, I z49.1.2.2.2.2.2.2.1, I z49.1.2.2.2.2.2.2.2, I z49.2.1.1, I z49.2.1.2.1, .bool z49.2.1.2.2.1, I z49.2.1.2.2.2.1, U z49.2.1.2.2.2.2.1, I z49.2.1.2.2.2.2.2.1, I z49.2.1.2.2.2.2.2.2.1, I z49.2.1.2.2.2.2.2.2.2, I z49.2.2.1.1, I z49.2.2.1.2.1, .bool z49.2.2.1.2.2.1, I z49.2.2.1.2.2.2.1, U z49.2.2.1.2.2.2.2.1, I z49.2.2.1.2.2.2.2.2.1, I z49.2.2.1.2.2.2.2.2.2.1, I z49.2.2.1.2.2.2.2.2.2.2, I z49.2.2.2.1.1, I z49.2.2.2.1.2.1, .bool z49.2.2.2.1.2.2.1, I z49.2.2.2.1.2.2.2.1, U z49.2.2.2.1.2.2.2.2.1, I z49.2.2.2.1.2.2.2.2.2.1, I z49.2.2.2.1.2.2.2.2.2.2.1, I z49.2.2.2.1.2.2.2.2.2.2.2, I z49.2.2.2.2.1.1, I z49.2.2.2.2.1.2.1, .bool z49.2.2.2.2.1.2.2.1, I z49.2.2.2.2.1.2.2.2.1, U z49.2.2.2.2.1.2.2.2.2.1, I z49.2.2.2.2.1.2.2.2.2.2.1, I z49.2.2.2.2.1.2.2.2.2.2.2.1, I z49.2.2.2.2.1.2.2.2.2.2.2.2, I z49.2.2.2.2.2.1, I z49.2.2.2.2.2.2.1, .bool z49.2.2.2.2.2.2.2.1, I z49.2.2.2.2.2.2.2.2.1, U z49.2.2.2.2.2.2.2.2.2.1, I z49.2.2.2.2.2.2.2.2.2.2.1, I z49.2.2.2.2.2.2.2.2.2.2.2.1, I z49.2.2.2.2.2.2.2.2.2.2.2.2, v46] :: Bx b5 69 [.slice none 0 0, .slice none 0 0, .slice none 0 0, .slice none 0 0] :: L)) (listed' := #[true, true, true, true, true, false, true, true, true, true, true, false, false, false, false, false]) (by kernel_rfl) (by kernel_rfl) ?_
                refine TA.all1 (i := 5) (by kernel_rfl) ?_
                refine TB.of rfl ?_
                refine TO.app (k := 3) (f := cI) kelemB_22_3_1_8_true (by decide) rfl rfl rfl (OwnS.rd (Ent.at 0 rfl)) hkq87_5_2 (fun x c hc => by simp [Value.oneCell'] at hc ⊢; first | (obtain rfl := hc; rfl) | (rcases hc with rfl <;> rfl)) rfl rfl fun vq87_5_3 => ?_
                refine TA.back (.inr (fun _ s => Sat.by [10, 10, 10, 10, 10, 10, 8] 7 4 (by kernel_rfl) s)) ?_
                refine TA.asL (L' := (OwnS 3 1 vq87_4_1 (([x84.1] : List Int).map cI) :: OwnS 3 1 vq87_10_1 (([x84.2] : List Int).map cI) :: Bx b86 153 [I x84.1, I x84.2] :: OwnS 3 1 vq87_5_3 (yq87_5_1.map cI) :: OwnS 3 1 v63 (y65.map cI) :: OwnS 28 1 v40 (y42.map cI) :: OwnS 153 2 v43 (y45.map cTii) :: OwnS 161 5 v46 (y48.map cTiiibi) :: Bx b15 69 [v40, v46, v60, v63] :: Bx b14 158 [v43, U x50, I z49.1.1, I z49.1.2.1, .bool z49.1.2.2.1, I z49.1.2.2.2.1, U z49.1.2.2.2.2.1, I z49.1.2.2.2.2.2.1, I z49.1.2.2.2.2.2.2.1, I z49.1.2.2.2.2.2.2.2, I z49.2.1.1, I z49.2.1.2.1, .bool z49.2.1.2.2.1, I z49.2.1.2.2.2.1, U z49.2.1.2.2.2.2.1, I z49.2.1.2.2.2.2.2.1, I z49.2.1.2.2.2.2.2.2.1, I z49.2.1.2.2.2.2.2.2.2, I z49.2.2.1.1, I z49.2.2.1.2.1, .bool z49.2.2.1.2.2.1, I z49.2.2.1.2.2.2.1, U z49.2.2.1.2.2.2.2.1, I z49.2.2.1.2.2.2.2.2.1, I z49.2.2.1.2.2.2.2.2.2.1, I z49.2.2.1.2.2.2.2.2.2.2, I z49.2.2.2.1.1, I z49.2.2.2.1.2.1, .bool z49.2.2.2.1.2.2.1, I z49.2.2.2.1.2.2.2.1, U z49.2.2.2.1.2.2.2.2.1, I z49.2.2.2.1.2.2.2.2.2.1, I z49.2.2.2.1.2.2.2.2.2.2.1, I z49.2.2.2.1.2.2.2.2.2.2.2, I z49.2.2.2.2.1.1, I z49.2.2.2.2.1.2.1, .bool z49.2.2.2.2.1.2.2.1, I z49.2.2.2.2.1.2.2.2.1, U z49.2.2.2.2.1.2.2.2.2.1, I z49.2.2.2.2.1.2.2.2.2.2.1, I z49.2.2.2.2.1.2.2.2.2.2.2.1, I z49.2.2.2.2.1.2.2.2.2.2.2.2, I z49.2.2.2.2.2.1, I z49.2.2.2.2.2.2.1, .bool z49.2.2.2.2.2.2.2.1, I z49.2.2.2.2.2.2.2.2.1, U z49.2.2.2.2.2.2.2.2.2.1, I z49.2.2.2.2.2.2.2.2.2.2.1, I z49.2.2.2.2.2.2.2.2.2.2.2.1, I z49.2.2.2.2.2.2.2.2.2.2.2.2, v46] :: Bx b5 69 [.slice none 0 0, .slice none 0 0, .slice none 0 0, .slice none 0 0] :: L)) (listed' := #[true, true, true, true, true, true, true, true, true, true, true, false, false, false, false, false]) (by kernel_rfl) (by kernel_rfl) ?_
                refine TA.takeW 12 rfl rfl rfl rfl (StepS.fld rfl kfieldB_69_2_2_true) (by kernel_rfl) (by kernel_rfl) (by kernel_rfl) rfl (.inr (fun _ s => Sat.by [10, 10, 10, 10, 10, 10, 8] 7 4 (by kernel_rfl) s)) ?_
                refine TA.all1 (i := 11) (by kernel_rfl) ?_
                refine TB.of rfl ?_
                refine TO.app (k := 4) (f := cI) kelemB_22_3_1_8_true (by decide) rfl rfl rfl (OwnS.rd (Ent.at 1 rfl)) hkq87_11_2 (fun x c hc => by simp [Value.oneCell'] at hc ⊢; first | (obtain rfl := hc; rfl) | (rcases hc with rfl <;> rfl)) rfl rfl fun vq87_11_3 => ?_
                refine TA.back (.inr (fun _ s => Sat.by [10, 10, 10, 10, 10, 10, 8] 7 4 (by kernel_rfl) s)) ?_
                refine TA.asL (L' := (OwnS 3 1 vq87_4_1 (([x84.1] : List Int).map cI) :: OwnS 3 1 vq87_10_1 (([x84.2] : List Int).map cI) :: Bx b86 153 [I x84.1, I x84.2] :: OwnS 3 1 vq87_5_3 (yq87_5_1.map cI) :: OwnS 3 1 vq87_11_3 (yq87_11_1.map cI) :: OwnS 28 1 v40 (y42.map cI) :: OwnS 153 2 v43 (y45.map cTii) :: OwnS 161 5 v46 (y48.map cTiiibi) :: Bx b15 69 [v40, v46, v60, v63] :: Bx b14 158 [v43, U x50, I z49.1.1, I z49.1.2.1, .bool z49.1.2.2.1, I z49.1.2.2.2.1, U z49.1.2.2.2.2.1, I z49.1.2.2.2.2.2.1, I z49.1.2.2.2.2.2.2.1, I z49.1.2.2.2.2.2.2.2, I z49.2.1.1, I z49.2.1.2.1, .bool z49.2.1.2.2.1, I z49.2.1.2.2.2.1, U z49.2.1.2.2.2.2.1, I z49.2.1.2.2.2.2.2.1, I z49.2.1.2.2.2.2.2.2.1, I z49.2.1.2.2.2.2.2.2.2, I z49.2.2.1.1, I z49.2.2.1.2.1, .bool z49.2.2.1.2.2.1, I z49.2.2.1.2.2.2.1, U z49.2.2.1.2.2.2.2.1, I z49.2.2.1.2.2.2.2.2.1, I z49.2.2.1.2.2.2.2.2.2.1, I z49.2.2.1.2.2.2.2.2.2.2, I z49.2.2.2.1.1, I z49.2.2.2.1.2.1, .bool z49.2.2.2.1.2.2.1, I z49.2.2.2.1.2.2.2.1, U z49.2.2.2.1.2.2.2.2.1, I z49.2.2.2.1.2.2.2.2.2.1, I z49.2.2.2.1.2.2.2.2.2.2.1, I z49.2.2.2.1.2.2.2.2.2.2.2, I z49.2.2.2.2.1.1, I z49.2.2.2.2.1.2.1, .bool z49.2.2.2.2.1.2.2.1, I z49.2.2.2.2.1.2.2.2.1, U z49.2.2.2.2.1.2.2.2.2.1, I z49.2.2.2.2.1.2.2.2.2.2.1, I z49.2.2.2.2.1.2.2.2.2.2.2.1, I z49.2.2.2.2.1.2.2.2.2.2.2.2, I z49.2.2.2.2.2.1, I z49.2.2.2.2.2.2.1, .bool z49.2.2.2.2.2.2.2.1, I z49.2.2.2.2.2.2.2.2.1, U z49.2.2.2.2.2.2.2.2.2.1, I z49.2.2.2.2.2.2.2.2.2.2.1, I z49.2.2.2.2.2.2.2.2.2.2.2.1, I z49.2.2.2.2.2.2.2.2.2.2.2.2, v46] :: Bx b5 69 [.slice none 0 0, .slice none 0 0, .slice none 0 0, .slice none 0 0] :: L)) (listed' := #[true, true, true, true, true, true, true, true, true, true, true, true, true, false, false, false]) (by kernel_rfl) (by kernel_rfl) ?_
                refine TA.all1 (i := 13) (by kernel_rfl) ?_
                refine TB.of rfl ?_
                refine TO.pure (fun _ s => Rd.one (OwnS.rd (Ent.at 3 rfl)) s) fun ocq87_13_1 => ?_
                refine TO.stB (us := [vq87_5_3]) 8 [v40, v46, vq87_5_3, v63] rfl rfl rfl ksizeB_22_1_true ocq87_13_1.2 rfl rfl (by intro u hu; simp only [List.mem_cons, List.not_mem_nil, or_false] at hu; rcases hu with rfl <;> first | exact ocq87_13_1.1 | rfl) rfl ?_
                refine TA.back (.inl (by kernel_rfl)) ?_
                refine TA.asL (L' := (OwnS 3 1 vq87_4_1 (([x84.1] : List Int).map cI) :: OwnS 3 1 vq87_10_1 (([x84.2] : List Int).map cI) :: Bx b86 153 [I x84.1, I x84.2] :: OwnS 3 1 vq87_5_3 (yq87_5_1.map cI) :: OwnS 3 1 vq87_11_3 (yq87_11_1.map cI) :: OwnS 28 1 v40 (y42.map cI) :: OwnS 153 2 v43 (y45.map cTii) :: OwnS 161 5 v46 (y48.map cTiiibi) :: Bx b15 69 [v40, v46, vq87_5_3, v63] :: Bx b14 158 [v43, U x50, I z49.1.1, I z49.1.2.1, .bool z49.1.2.2.1, I z49.1.2.2.2.1, U z49.1.2.2.2.2.1, I z49.1.2.2.2.2.2.1, I z49.1.2.2.2.2.2.2.1, I z49.1.2.2.2.2.2.2.2, I z49.2.1.1, I z49.2.1.2.1, .bool z49.2.1.2.2.1, I z49.2.1.2.2.2.1, U z49.2.1.2.2.2.2.1, I z49.2.1.2.2.2.2.2.1, I z49.2.1.2.2.2.2.2.2.1, I z49.2.1.2.2.2.2.2.2.2, I z49.2.2.1.1, I z49.2.2.1.2.1, .bool z49.2.2.1.2.2.1, I z49.2.2.1.2.2.2.1, U z49.2.2.1.2.2.2.2.1, I z49.2.2.1.2.2.2.2.2.1, I z49.2.2.1.2.2.2.2.2.2.1, I z49.2.2.1.2.2.2.2.2.2.2, I z49.2.2.2.1.1, I z49.2.2.2.1.2.1, .bool z49.2.2.2.1.2.2.1, I z49.2.2.2.1.2.2.2.1, U z49.2.2.2.1.2.2.2.2.1, I z49.2.2.2.1.2.2.2.2.2.1, I z49.2.2.2.1.2.2.2.2.2.2.1, I z49.2.2.2.1.2.2.2.2.2.2.2, I z49.2.2.2.2.1.1, I z49.2.2.2.2.1.2.1, .bool z49.2.2.2.2.1.2.2.1, I z49.2.2.2.2.1.2.2.2.1, U z49.2.2.2.2.1.2.2.2.2.1, I z49.2.2.2.2.1.2.2.2.2.2.1, I z49.2.2.2.2.1.2.2.2.2.2.2.1, I z49.2.2.2.2.1.2.2.2.2.2.2.2, I z49.2.2.2.2.2.1, I z49.2.2.2.2.2.2.1, .bool z49.2.2.2.2.2.2.2.1, I z49.2.2.2.2.2.2.2.2.1, U z49.2.2.2.2.2.2.2.2.2.1, I z49.2.2.2.2.2.2.2.2.2.2.1, I z49.2.2.2.2.2.2.2.2.2.2.2.1, I z49.2.2.2.2.2.2.2.2.2.2.2.2, v46] :: Bx b5 69 [.slice none 0 0, .slice none 0 0, .slice none 0 0, .slice none 0 0] :: L)) (listed' := #[true, true, true, true, true, true, true, true, true, true, true, true, true, true, false, false]) (by kernel_rfl) (by kernel_rfl) ?_
                refine TA.takeW 14 rfl rfl rfl rfl (StepS.fld rfl kfieldB_69_3_3_true) (by kernel_rfl) (by kernel_rfl) (by kernel_rfl) rfl (.inl (by kernel_rfl)) ?_
                refine TA.all1 (i := 15) (by kernel_rfl) ?_
                refine TB.of rfl ?_
                refine TO.pure (fun _ s => Rd.one (OwnS.rd (Ent.at 4 rfl)) s) fun ocq87_15_1 => ?_
                refine TO.stB (us := [vq87_11_3]) 8 [v40, v46, vq87_5_3, vq87_11_3] rfl rfl rfl ksizeB_22_1_true ocq87_15_1.2 rfl rfl (by intro u hu; simp only [List.mem_cons, List.not_mem_nil, or_false] at hu; rcases hu with rfl <;> first | exact ocq87_15_1.1 | rfl) rfl ?_
                refine TA.back (.inl (by kernel_rfl)) ?_
                refine TA.asL (L' := (OwnS 3 1 vq87_4_1 (([x84.1] : List Int).map cI) :: OwnS 3 1 vq87_10_1 (([x84.2] : List Int).map cI) :: Bx b86 153 [I x84.1, I x84.2] :: OwnS 3 1 vq87_5_3 (yq87_5_1.map cI) :: OwnS 3 1 vq87_11_3 (yq87_11_1.map cI) :: OwnS 28 1 v40 (y42.map cI) :: OwnS 153 2 v43 (y45.map cTii) :: OwnS 161 5 v46 (y48.map cTiiibi) :: Bx b15 69 [v40, v46, vq87_5_3, vq87_11_3] :: Bx b14 158 [v43, U x50, I z49.1.1, I z49.1.2.1, .bool z49.1.2.2.1, I z49.1.2.2.2.1, U z49.1.2.2.2.2.1, I z49.1.2.2.2.2.2.1, I z49.1.2.2.2.2.2.2.1, I z49.1.2.2.2.2.2.2.2, I z49.2.1.1, I z49.2.1.2.1, .bool z49.2.1.2.2.1, I z49.2.1.2.2.2.1, U z49.2.1.2.2.2.2.1, I z49.2.1.2.2.2.2.2.1, I z49.2.1.2.2.2.2.2.2.1, I z49.2.1.2.2.2.2.2.2.2, I z49.2.2.1.1, I z49.2.2.1.2.1, .bool z49.2.2.1.2.2.1, I z49.2.2.1.2.2.2.1, U z49.2.2.1.2.2.2.2.1, I z49.2.2.1.2.2.2.2.2.1, I z49.2.2.1.2.2.2.2.2.2.1, I z49.2.2.1.2.2.2.2.2.2.2, I z49.2.2.2.1.1, I z49.2.2.2.1.2.1, .bool z49.2.2.2.1.2.2.1, I z49.2.2.2.1.2.2.2.1, U z49.2.2.2.1.2.2.2.2.1, I z49.2.2.2.1.2.2.2.2.2.1, I z49.2.2.2.1.2.2.2.2.2.2.1, I z49.2.2.2.1.2.2.2.2.2.2.2, I z49.2.2.2.2.1.1, I z49.2.2.2.2.1.2.1, .bool z49.2.2.2.2.1.2.2.1, I z49.2.2.2.2.1.2.2.2.1, U z49.2.2.2.2.1.2.2.2.2.1, I z49.2.2.2.2.1.2.2.2.2.2.1, I z49.2.2.2.2.1.2.2.2.2.2.2.1, I z49.2.2.2.2.1.2.2.2.2.2.2.2, I z49.2.2.2.2.2.1, I z49.2.2.2.2.2.2.1, .bool z49.2.2.2.2.2.2.2.1, I z49.2.2.2.2.2.2.2.2.1, U z49.2.2.2.2.2.2.2.2.2.1, I z49.2.2.2.2.2.2.2.2.2.2.1, I z49.2.2.2.2.2.2.2.2.2.2.2.1, I z49.2.2.2.2.2.2.2.2.2.2.2.2, v46] :: Bx b5 69 [.slice none 0 0, .slice none 0 0, .slice none 0 0, .slice none 0 0] :: L)) (listed' := #[true, true, true, true, true, true, true, true, true, true, true, true, true, true, true, true]) (by kernel_rfl) (by kernel_rfl) ?_
                cases hj92
                refine TA.nil (by kernel_rfl) fun a w e s => ?_
                exact ⟨vq87_5_3, vq87_11_3, e.sub (lk_of_allIn ⟨rfl, rfl, rfl, rfl, rfl, trivial⟩), s.mono fun _ => Sat.dropN 2⟩
          · intro a w ⟨v89, v91, he, hs⟩
            refine TC.use ?_ he hs
            refine TC.region ?_
            refine TO.s rfl rfl rfl (StepS.ari rfl rfl rfl) ?_
            refine TO.s rfl rfl rfl (StepS.move rfl) ?_
            cases hb82
            refine TO.nil fun a w e s => ?_
            exact ⟨v89, v91, e.sub (lk_of_allIn ⟨rfl, rfl, rfl, rfl, rfl, trivial⟩), s.mono fun _ => Sat.dropN 1⟩
        · replace hb82 := cond_f hc83 hb82
          cases hb82
          refine TC.exit rfl fun a w e s => ?_
          exact ⟨v60, v63, e.sub (lk_of_allIn ⟨rfl, rfl, trivial⟩), s⟩
      · exact fun a w e s => ⟨.slice none 0 0, .slice none 0 0, e.sub (lk_of_allIn ⟨rfl, rfl, rfl, rfl, rfl, trivial⟩), s.mono fun _ s => (by replace s := Sat.nilS (e := 3) (sz := 1) (f := cI) s; replace s := Sat.nilS (e := 3) (sz := 1) (f := cI) s; exact Sat.by [7, 7, 7, 7, 7, 7, 7, 7] 8 0 (by kernel_rfl) s)⟩
      · rintro ⟨y76, y79⟩ rfl a w ⟨v74, v77, he, hs⟩
        dsimp only [Ctl.on] at hm
        refine TC.use ?_ he hs
        refine TC.k ?_
        refine TC.region ?_
        refine TO.s rfl rfl rfl (StepS.ldBA rfl (Ent.at 5 rfl) kaggB_69_4_true rfl rfl) ?_
        refine TO.pure (fun _ s => Rd.one (OwnS.rd (Ent.at 2 rfl)) s) fun oc93 => ?_
        refine TO.pure (fun _ s => Rd.one (OwnS.rd (Ent.at 4 rfl)) s) fun oc94 => ?_
        refine TO.pure (fun _ s => Rd.one (OwnS.rd (Ent.at 0 rfl)) s) fun oc95 => ?_
        refine TO.pure (fun _ s => Rd.one (OwnS.rd (Ent.at 1 rfl)) s) fun oc96 => ?_
        refine TO.stB (us := [v40, v46, v74, v77]) 7 [v40, v46, v74, v77] rfl rfl rfl ksizeB_69_4_true rfl rfl rfl (by intro u hu; simp only [List.mem_cons, List.not_mem_nil, or_false] at hu; rcases hu with rfl | rfl | rfl | rfl <;> first | exact oc93.1 | exact oc94.1 | exact oc95.1 | exact oc96.1 | rfl) rfl ?_
        refine TO.s rfl rfl rfl (StepS.assign rfl) ?_
        refine TO.code ?_
        cases hm
        refine TC.ret fun a w e s => ?_
        refine FRet.cell2 (P := Try.prog) (fn := Try.f33) e s rfl rfl rfl (Ent.at 7 rfl) kaggB_69_4_true rfl ?_
        refine ⟨_, _, rfl, ⟨(v40), (v46), (v74), (v77), rfl, rfl⟩, ?_⟩
        refine s.mono fun _ s => ?_
        replace s := Sat.front 1 rfl s
        replace s := Sat.front 1 rfl s
        replace s := Sat.front 4 rfl s
        replace s := Sat.front 3 rfl s
        replace s := Sat.erase 4 s
        replace s := Sat.erase 4 s
        replace s := Sat.erase 4 s
        replace s := Sat.erase 4 s
        exact s
      · rintro r rfl
        exact fun a w h => h.elim
    · rintro r rfl
      exact fun a w h => h.elim

set_option maxRecDepth 100000 in
theorem C21 {B : World} {L : List HP} {a0 : Int} {a1 : Int} {r0 : Int} (hm : F21 a0 a1 = some r0) {w : World} (st : St B L w) : Calls Try.prog 21 #[I a0, I a1] w (fun e w' => (e = .returned (I r0) ∧ St B (L) w')) := by
  refine calls_of (N := 15) (L := L) (args := [I a0, I a1]) Try.func21 rfl rfl rfl ?_ st
  dsimp only [F21] at hm
  refine TC.k ?_
  refine TC.region ?_
  refine TO.s rfl rfl rfl (StepS.assign rfl) ?_
  refine TO.code ?_
  refine TC.k ?_
  refine TC.k ?_
  refine TC.region ?_
  refine TO.s rfl rfl rfl (StepS.move rfl) ?_
  refine TO.s rfl rfl rfl (StepS.cmp rfl rfl rfl) ?_
  refine TO.s rfl rfl rfl (StepS.move rfl) ?_
  refine TO.mid1 3 10 (.bool ((decide (a0 < 1)) || (decide (a0 > 6)))) ?_ ?_
  · refine bcase ((decide (a0 < 1))) (fun hb1 => ?_) (fun hb1 => ?_)
    · refine TO.skip rfl rfl rfl (skipT hb1) rfl rfl ?_
      refine TO.skip rfl rfl rfl (skipT hb1) rfl rfl ?_
      refine TO.s rfl rfl rfl (StepS.pickT rfl hb1 rfl) ?_
      exact TO.up1 3 0 rfl rfl (by rw [hb1]; rfl) rfl
    · refine TO.sw rfl rfl rfl hb1 rfl rfl (StepS.move rfl) ?_
      refine TO.sw rfl rfl rfl hb1 rfl rfl (StepS.cmp rfl rfl rfl) ?_
      refine TO.s rfl rfl rfl (StepS.pickF rfl hb1 rfl) ?_
      exact TO.up1 3 0 rfl rfl (by rw [hb1]; rfl) rfl
  refine TO.s rfl rfl rfl (StepS.move rfl) ?_
  refine TO.mid1 3 14 (.bool (((decide (a0 < 1)) || (decide (a0 > 6))) || (decide (a1 > 60)))) ?_ ?_
  · refine bcase (((decide (a0 < 1)) || (decide (a0 > 6)))) (fun hb2 => ?_) (fun hb2 => ?_)
    · refine TO.skip rfl rfl rfl (skipT hb2) rfl rfl ?_
      refine TO.skip rfl rfl rfl (skipT hb2) rfl rfl ?_
      refine TO.s rfl rfl rfl (StepS.pickT rfl hb2 rfl) ?_
      exact TO.up1 3 0 rfl rfl (by rw [hb2]; rfl) rfl
    · refine TO.sw rfl rfl rfl hb2 rfl rfl (StepS.move rfl) ?_
      refine TO.sw rfl rfl rfl hb2 rfl rfl (StepS.cmp rfl rfl rfl) ?_
      refine TO.s rfl rfl rfl (StepS.pickF rfl hb2 rfl) ?_
      exact TO.up1 3 0 rfl rfl (by rw [hb2]; rfl) rfl
  refine TO.code ?_
  refine TC.cond rfl (fun hc3 => ?_) (fun hc3 => ?_)
  · replace hm := cond_t hc3 hm
    refine TC.k ?_
    refine TC.region ?_
    refine TO.s rfl rfl rfl (StepS.assign rfl) ?_
    refine TO.code ?_
    cases hm
    refine TC.ret fun a w e s => ?_
    refine FRet.mk1 (P := Try.prog) (fn := Try.f21) (t := 4) e rfl rfl ?_
    exact ⟨rfl, s.mono fun _ => Sat.dropN 0⟩
  · replace hm := cond_f hc3 hm
    refine TC.skipk ?_
    refine TC.k ?_
    refine TC.region ?_
    refine TO.s rfl rfl rfl (StepS.assign rfl) ?_
    refine TO.code ?_
    cases hm
    refine TC.ret fun a w e s => ?_
    refine FRet.mk1 (P := Try.prog) (fn := Try.f21) (t := 4) e rfl rfl ?_
    exact ⟨rfl, s.mono fun _ => Sat.dropN 0⟩

set_option maxRecDepth 100000 in
theorem C18 {B : World} {L : List HP} {a0 : List Int} {a1 : List Int} {h0 : Value} {h1 : Value} {r0 : Bool} (e0 : Ent L (Rd 1 h0 (a0.map cI))) (e1 : Ent L (Rd 1 h1 (a1.map cI))) (hm : F18 a0 a1 = some r0) {w : World} (st : St B L w) : Calls Try.prog 18 #[h0, h1] w (fun e w' => (e = .returned (.bool r0) ∧ St B (L) w')) := by
  refine calls_of (N := 26) (L := L) (args := [h0, h1]) Try.func18 rfl rfl rfl ?_ st
  dsimp only [F18] at hm
  refine TC.k ?_
  refine TC.region ?_
  refine TO.s rfl rfl rfl (StepS.assign rfl) ?_
  refine TO.code ?_
  refine TC.k ?_
  refine TC.k ?_
  refine TC.region ?_
  refine TO.s rfl rfl rfl (StepS.move rfl) ?_
  refine TO.s rfl rfl rfl (StepS.lenm rfl e0 ksliceB_24_28_1_true rfl) ?_
  refine TO.s rfl rfl rfl (StepS.move rfl) ?_
  refine TO.s rfl rfl rfl (StepS.lenm rfl e1 ksliceB_24_28_1_true rfl) ?_
  refine TO.s rfl rfl rfl (StepS.cmp rfl rfl rfl) ?_
  refine TO.code ?_
  refine TC.cond rfl (fun hc1 => ?_) (fun hc1 => ?_)
  · replace hm := cond_t hc1 hm
    refine TC.k ?_
    refine TC.region ?_
    refine TO.s rfl rfl rfl (StepS.assign rfl) ?_
    refine TO.code ?_
    cases hm
    refine TC.ret fun a w e s => ?_
    refine FRet.mk1 (P := Try.prog) (fn := Try.f18) (t := 4) e rfl rfl ?_
    exact ⟨rfl, s.mono fun _ => Sat.dropN 0⟩
  · replace hm := cond_f hc1 hm
    refine TC.skipk ?_
    refine TC.k ?_
    refine TC.k ?_
    refine TC.region ?_
    refine TO.s rfl rfl rfl (StepS.assign rfl) ?_
    refine TO.code ?_
    obtain ⟨o4, hw5, hm⟩ := bind_some hm
    refine TC.loop hw5 (fun x2 => fun a w => Mid 26 B [(0, h0), (1, h1), (5, I x2)] (L) a w) (fun _ => fun a w => Mid 26 B [] (L) a w) (fun r0 => FRet Try.prog Try.f18 (fun e w' => (e = .returned (.bool r0) ∧ St B (L) w'))) ?_ ?_ ?_ ?_
    · rintro x2 o4r hb6 a w ⟨he, hs⟩
      dsimp only [F18_L0] at hb6
      refine TC.use ?_ he hs
      refine TC.k ?_
      refine TC.k ?_
      refine TC.region ?_
      refine TO.s rfl rfl rfl (StepS.move rfl) ?_
      refine TO.s rfl rfl rfl (StepS.move rfl) ?_
      refine TO.s rfl rfl rfl (StepS.lenm rfl e0 ksliceB_24_28_1_true rfl) ?_
      refine TO.s rfl rfl rfl (StepS.cmp rfl rfl rfl) ?_
      refine TO.code ?_
      refine TC.cond rfl (fun hc7 => ?_) (fun hc7 => ?_)
      · replace hb6 := cond_t hc7 hb6
        refine TC.skipk ?_
        refine TC.k ?_
        refine TC.block ?_
        refine TC.k ?_
        refine TC.region_still kfollows_mixedOrders_true (by kernel_rfl) ?_
        refine TS.s rfl rfl rfl (StepS.move rfl) ?_
        refine TS.s rfl rfl rfl (StepS.move rfl) ?_
        obtain ⟨x8, hx9, hb6⟩ := bind_some hb6
        refine TS.s rfl rfl rfl (StepS.idx rfl rfl e0 ksliceB_24_28_1_true (idx_spec hx9).1 (idxm_lt hx9)) ?_
        refine TS.s rfl rfl rfl (StepS.ld0 rfl e0 kscalB_28_true rfl (idxm hx9) rfl) ?_
        refine TS.s rfl rfl rfl (StepS.move rfl) ?_
        refine TS.s rfl rfl rfl (StepS.move rfl) ?_
        obtain ⟨x10, hx11, hb6⟩ := bind_some hb6
        refine TS.s rfl rfl rfl (StepS.idx rfl rfl e1 ksliceB_24_28_1_true (idx_spec hx11).1 (idxm_lt hx11)) ?_
        refine TS.s rfl rfl rfl (StepS.ld0 rfl e1 kscalB_28_true rfl (idxm hx11) rfl) ?_
        refine TS.s rfl rfl rfl (StepS.cmp rfl rfl rfl) ?_
        refine TS.code ?_
        refine TC.cond rfl (fun hc12 => ?_) (fun hc12 => ?_)
        · replace hb6 := cond_t hc12 hb6
          refine TC.k ?_
          refine TC.region ?_
          refine TO.s rfl rfl rfl (StepS.assign rfl) ?_
          refine TO.code ?_
          cases hb6
          refine TC.ret fun a w e s => ?_
          refine FRet.mk1 (P := Try.prog) (fn := Try.f18) (t := 4) e rfl rfl ?_
          exact ⟨rfl, s.mono fun _ => Sat.dropN 0⟩
        · replace hb6 := cond_f hc12 hb6
          refine TC.skipk ?_
          refine TC.region ?_
          refine TO.s rfl rfl rfl (StepS.move rfl) ?_
          refine TO.s rfl rfl rfl (StepS.ari rfl rfl rfl) ?_
          refine TO.s rfl rfl rfl (StepS.assign rfl) ?_
          cases hb6
          refine TO.nil fun a w e s => ?_
          exact ⟨e.sub (lk_of_allIn ⟨rfl, rfl, rfl, trivial⟩), s⟩
      · replace hb6 := cond_f hc7 hb6
        cases hb6
        refine TC.exit rfl fun a w e s => ?_
        exact ⟨e.sub (lk_of_allIn trivial), s⟩
    · exact fun a w e s => ⟨e.sub (lk_of_allIn ⟨rfl, rfl, rfl, trivial⟩), s⟩
    · rintro _ rfl a w ⟨he, hs⟩
      dsimp only [Ctl.on] at hm
      refine TC.use ?_ he hs
      refine TC.k ?_
      refine TC.region ?_
      refine TO.s rfl rfl rfl (StepS.assign rfl) ?_
      refine TO.code ?_
      cases hm
      refine TC.ret fun a w e s => ?_
      refine FRet.mk1 (P := Try.prog) (fn := Try.f18) (t := 4) e rfl rfl ?_
      exact ⟨rfl, s.mono fun _ => Sat.dropN 0⟩
    · rintro r rfl
      cases hm
      exact fun a w h => h

set_option maxRecDepth 100000 in
theorem C35 {B : World} {L : List HP} {a0 : List (Int × Int × Int × Bool × Int)} {a1 : List (Int × Int × Int × Bool × Int)} {h0 : Value} {h1 : Value} {r0 : Bool} (e0 : Ent L (Rd 5 h0 (a0.map cTiiibi))) (e1 : Ent L (Rd 5 h1 (a1.map cTiiibi))) (hm : F35 a0 a1 = some r0) {w : World} (st : St B L w) : Calls Try.prog 35 #[h0, h1] w (fun e w' => (e = .returned (.bool r0) ∧ St B (L) w')) := by
  refine calls_of (N := 26) (L := L) (args := [h0, h1]) Try.func35 rfl rfl rfl ?_ st
  dsimp only [F35] at hm
  refine TC.k ?_
  refine TC.region ?_
  refine TO.s rfl rfl rfl (StepS.assign rfl) ?_
  refine TO.code ?_
  refine TC.k ?_
  refine TC.k ?_
  refine TC.region ?_
  refine TO.s rfl rfl rfl (StepS.move rfl) ?_
  refine TO.s rfl rfl rfl (StepS.lenm rfl e0 ksliceB_67_161_5_true rfl) ?_
  refine TO.s rfl rfl rfl (StepS.move rfl) ?_
  refine TO.s rfl rfl rfl (StepS.lenm rfl e1 ksliceB_67_161_5_true rfl) ?_
  refine TO.s rfl rfl rfl (StepS.cmp rfl rfl rfl) ?_
  refine TO.code ?_
  refine TC.cond rfl (fun hc1 => ?_) (fun hc1 => ?_)
  · replace hm := cond_t hc1 hm
    refine TC.k ?_
    refine TC.region ?_
    refine TO.s rfl rfl rfl (StepS.assign rfl) ?_
    refine TO.code ?_
    cases hm
    refine TC.ret fun a w e s => ?_
    refine FRet.mk1 (P := Try.prog) (fn := Try.f35) (t := 4) e rfl rfl ?_
    exact ⟨rfl, s.mono fun _ => Sat.dropN 0⟩
  · replace hm := cond_f hc1 hm
    refine TC.skipk ?_
    refine TC.k ?_
    refine TC.k ?_
    refine TC.region ?_
    refine TO.s rfl rfl rfl (StepS.assign rfl) ?_
    refine TO.code ?_
    obtain ⟨o4, hw5, hm⟩ := bind_some hm
    refine TC.loop hw5 (fun x2 => fun a w => Mid 26 B [(0, h0), (1, h1), (5, I x2)] (L) a w) (fun _ => fun a w => Mid 26 B [] (L) a w) (fun r0 => FRet Try.prog Try.f35 (fun e w' => (e = .returned (.bool r0) ∧ St B (L) w'))) ?_ ?_ ?_ ?_
    · rintro x2 o4r hb6 a w ⟨he, hs⟩
      dsimp only [F35_L0] at hb6
      refine TC.use ?_ he hs
      refine TC.k ?_
      refine TC.k ?_
      refine TC.region ?_
      refine TO.s rfl rfl rfl (StepS.move rfl) ?_
      refine TO.s rfl rfl rfl (StepS.move rfl) ?_
      refine TO.s rfl rfl rfl (StepS.lenm rfl e0 ksliceB_67_161_5_true rfl) ?_
      refine TO.s rfl rfl rfl (StepS.cmp rfl rfl rfl) ?_
      refine TO.code ?_
      refine TC.cond rfl (fun hc7 => ?_) (fun hc7 => ?_)
      · replace hb6 := cond_t hc7 hb6
        refine TC.skipk ?_
        refine TC.k ?_
        refine TC.block ?_
        refine TC.k ?_
        refine TC.region_still kfollows_mixedOrders_true (by kernel_rfl) ?_
        refine TS.s rfl rfl rfl (StepS.move rfl) ?_
        refine TS.s rfl rfl rfl (StepS.move rfl) ?_
        obtain ⟨x8, hx9, hb6⟩ := bind_some hb6
        refine TS.s rfl rfl rfl (StepS.idx rfl rfl e0 ksliceB_67_161_5_true (idx_spec hx9).1 (idxm_lt hx9)) ?_
        refine TS.s rfl rfl rfl (StepS.ldE rfl e0 kaggB_161_5_true rfl (idxm hx9)) ?_
        refine TS.s rfl rfl rfl (StepS.move rfl) ?_
        refine TS.s rfl rfl rfl (StepS.move rfl) ?_
        obtain ⟨x10, hx11, hb6⟩ := bind_some hb6
        refine TS.s rfl rfl rfl (StepS.idx rfl rfl e1 ksliceB_67_161_5_true (idx_spec hx11).1 (idxm_lt hx11)) ?_
        refine TS.s rfl rfl rfl (StepS.ldE rfl e1 kaggB_161_5_true rfl (idxm hx11)) ?_
        refine TS.s rfl rfl rfl (StepS.neSt (r := ((x8.1 == x10.1) && ((x8.2.1 == x10.2.1) && ((x8.2.2.1 == x10.2.2.1) && ((x8.2.2.2.1 == x10.2.2.2.1) && ((x8.2.2.2.2 == x10.2.2.2.2) && true)))))) kunderlying_161_some_struct_fieldsOf_161 kstoodInHeld_161_false keqGuardType_depth_161_false rfl rfl (by kernel_rfl)) ?_
        refine TS.code ?_
        refine TC.cond rfl (fun hc12 => ?_) (fun hc12 => ?_)
        · replace hb6 := cond_t hc12 hb6
          refine TC.k ?_
          refine TC.region ?_
          refine TO.s rfl rfl rfl (StepS.assign rfl) ?_
          refine TO.code ?_
          cases hb6
          refine TC.ret fun a w e s => ?_
          refine FRet.mk1 (P := Try.prog) (fn := Try.f35) (t := 4) e rfl rfl ?_
          exact ⟨rfl, s.mono fun _ => Sat.dropN 0⟩
        · replace hb6 := cond_f hc12 hb6
          refine TC.skipk ?_
          refine TC.region ?_
          refine TO.s rfl rfl rfl (StepS.move rfl) ?_
          refine TO.s rfl rfl rfl (StepS.ari rfl rfl rfl) ?_
          refine TO.s rfl rfl rfl (StepS.assign rfl) ?_
          cases hb6
          refine TO.nil fun a w e s => ?_
          exact ⟨e.sub (lk_of_allIn ⟨rfl, rfl, rfl, trivial⟩), s⟩
      · replace hb6 := cond_f hc7 hb6
        cases hb6
        refine TC.exit rfl fun a w e s => ?_
        exact ⟨e.sub (lk_of_allIn trivial), s⟩
    · exact fun a w e s => ⟨e.sub (lk_of_allIn ⟨rfl, rfl, rfl, trivial⟩), s⟩
    · rintro _ rfl a w ⟨he, hs⟩
      dsimp only [Ctl.on] at hm
      refine TC.use ?_ he hs
      refine TC.k ?_
      refine TC.region ?_
      refine TO.s rfl rfl rfl (StepS.assign rfl) ?_
      refine TO.code ?_
      cases hm
      refine TC.ret fun a w e s => ?_
      refine FRet.mk1 (P := Try.prog) (fn := Try.f35) (t := 4) e rfl rfl ?_
      exact ⟨rfl, s.mono fun _ => Sat.dropN 0⟩
    · rintro r rfl
      cases hm
      exact fun a w h => h

set_option maxRecDepth 100000 in
theorem C25 {B : World} {L : List HP} {a0 : List Int} {a1 : List Int} {h0 : Value} {h1 : Value} {r0 : Bool} (e0 : Ent L (Rd 1 h0 (a0.map cI))) (e1 : Ent L (Rd 1 h1 (a1.map cI))) (hm : F25 a0 a1 = some r0) {w : World} (st : St B L w) : Calls Try.prog 25 #[h0, h1] w (fun e w' => (e = .returned (.bool r0) ∧ St B (L) w')) := by
  refine calls_of (N := 26) (L := L) (args := [h0, h1]) Try.func25 rfl rfl rfl ?_ st
  dsimp only [F25] at hm
  refine TC.k ?_
  refine TC.region ?_
  refine TO.s rfl rfl rfl (StepS.assign rfl) ?_
  refine TO.code ?_
  refine TC.k ?_
  refine TC.k ?_
  refine TC.region ?_
  refine TO.s rfl rfl rfl (StepS.move rfl) ?_
  refine TO.s rfl rfl rfl (StepS.lenm rfl e0 ksliceB_22_3_1_true rfl) ?_
  refine TO.s rfl rfl rfl (StepS.move rfl) ?_
  refine TO.s rfl rfl rfl (StepS.lenm rfl e1 ksliceB_22_3_1_true rfl) ?_
  refine TO.s rfl rfl rfl (StepS.cmp rfl rfl rfl) ?_
  refine TO.code ?_
  refine TC.cond rfl (fun hc1 => ?_) (fun hc1 => ?_)
  · replace hm := cond_t hc1 hm
    refine TC.k ?_
    refine TC.region ?_
    refine TO.s rfl rfl rfl (StepS.assign rfl) ?_
    refine TO.code ?_
    cases hm
    refine TC.ret fun a w e s => ?_
    refine FRet.mk1 (P := Try.prog) (fn := Try.f25) (t := 4) e rfl rfl ?_
    exact ⟨rfl, s.mono fun _ => Sat.dropN 0⟩
  · replace hm := cond_f hc1 hm
    refine TC.skipk ?_
    refine TC.k ?_
    refine TC.k ?_
    refine TC.region ?_
    refine TO.s rfl rfl rfl (StepS.assign rfl) ?_
    refine TO.code ?_
    obtain ⟨o4, hw5, hm⟩ := bind_some hm
    refine TC.loop hw5 (fun x2 => fun a w => Mid 26 B [(0, h0), (1, h1), (5, I x2)] (L) a w) (fun _ => fun a w => Mid 26 B [] (L) a w) (fun r0 => FRet Try.prog Try.f25 (fun e w' => (e = .returned (.bool r0) ∧ St B (L) w'))) ?_ ?_ ?_ ?_
    · rintro x2 o4r hb6 a w ⟨he, hs⟩
      dsimp only [F25_L0] at hb6
      refine TC.use ?_ he hs
      refine TC.k ?_
      refine TC.k ?_
      refine TC.region ?_
      refine TO.s rfl rfl rfl (StepS.move rfl) ?_
      refine TO.s rfl rfl rfl (StepS.move rfl) ?_
      refine TO.s rfl rfl rfl (StepS.lenm rfl e0 ksliceB_22_3_1_true rfl) ?_
      refine TO.s rfl rfl rfl (StepS.cmp rfl rfl rfl) ?_
      refine TO.code ?_
      refine TC.cond rfl (fun hc7 => ?_) (fun hc7 => ?_)
      · replace hb6 := cond_t hc7 hb6
        refine TC.skipk ?_
        refine TC.k ?_
        refine TC.block ?_
        refine TC.k ?_
        refine TC.region_still kfollows_mixedOrders_true (by kernel_rfl) ?_
        refine TS.s rfl rfl rfl (StepS.move rfl) ?_
        refine TS.s rfl rfl rfl (StepS.move rfl) ?_
        obtain ⟨x8, hx9, hb6⟩ := bind_some hb6
        refine TS.s rfl rfl rfl (StepS.idx rfl rfl e0 ksliceB_22_3_1_true (idx_spec hx9).1 (idxm_lt hx9)) ?_
        refine TS.s rfl rfl rfl (StepS.ld0 rfl e0 kscalB_3_true rfl (idxm hx9) rfl) ?_
        refine TS.s rfl rfl rfl (StepS.move rfl) ?_
        refine TS.s rfl rfl rfl (StepS.move rfl) ?_
        obtain ⟨x10, hx11, hb6⟩ := bind_some hb6
        refine TS.s rfl rfl rfl (StepS.idx rfl rfl e1 ksliceB_22_3_1_true (idx_spec hx11).1 (idxm_lt hx11)) ?_
        refine TS.s rfl rfl rfl (StepS.ld0 rfl e1 kscalB_3_true rfl (idxm hx11) rfl) ?_
        refine TS.s rfl rfl rfl (StepS.cmp rfl rfl rfl) ?_
        refine TS.code ?_
        refine TC.cond rfl (fun hc12 => ?_) (fun hc12 => ?_)
        · replace hb6 := cond_t hc12 hb6
          refine TC.k ?_
          refine TC.region ?_
          refine TO.s rfl rfl rfl (StepS.assign rfl) ?_
          refine TO.code ?_
          cases hb6
          refine TC.ret fun a w e s => ?_
          refine FRet.mk1 (P := Try.prog) (fn := Try.f25) (t := 4) e rfl rfl ?_
          exact ⟨rfl, s.mono fun _ => Sat.dropN 0⟩
        · replace hb6 := cond_f hc12 hb6
          refine TC.skipk ?_
          refine TC.region ?_
          refine TO.s rfl rfl rfl (StepS.move rfl) ?_
          refine TO.s rfl rfl rfl (StepS.ari rfl rfl rfl) ?_
          refine TO.s rfl rfl rfl (StepS.assign rfl) ?_
          cases hb6
          refine TO.nil fun a w e s => ?_
          exact ⟨e.sub (lk_of_allIn ⟨rfl, rfl, rfl, trivial⟩), s⟩
      · replace hb6 := cond_f hc7 hb6
        cases hb6
        refine TC.exit rfl fun a w e s => ?_
        exact ⟨e.sub (lk_of_allIn trivial), s⟩
    · exact fun a w e s => ⟨e.sub (lk_of_allIn ⟨rfl, rfl, rfl, trivial⟩), s⟩
    · rintro _ rfl a w ⟨he, hs⟩
      dsimp only [Ctl.on] at hm
      refine TC.use ?_ he hs
      refine TC.k ?_
      refine TC.region ?_
      refine TO.s rfl rfl rfl (StepS.assign rfl) ?_
      refine TO.code ?_
      cases hm
      refine TC.ret fun a w e s => ?_
      refine FRet.mk1 (P := Try.prog) (fn := Try.f25) (t := 4) e rfl rfl ?_
      exact ⟨rfl, s.mono fun _ => Sat.dropN 0⟩
    · rintro r rfl
      cases hm
      exact fun a w h => h

set_option maxRecDepth 100000 in
theorem C9 {B : World} {L : List HP} {a0 : Int} {a1 : List (Int × Int × Int × Int)} {h1 : Value} {r0 : Bool} (e1 : Ent L (Rd 4 h1 (a1.map cTiiii))) (hm : F9 a0 a1 = some r0) {w : World} (st : St B L w) : Calls Try.prog 9 #[I a0, h1] w (fun e w' => (e = .returned (.bool r0) ∧ St B (L) w')) := by
  refine calls_of (N := 56) (L := L) (args := [I a0, h1]) Try.func9 rfl rfl rfl ?_ st
  dsimp only [F9] at hm
  refine TC.k ?_
  refine TC.region ?_
  refine TO.s rfl rfl rfl (StepS.assign rfl) ?_
  refine TO.code ?_
  refine TC.k ?_
  refine TC.region ?_
  refine TO.s rfl rfl rfl (StepS.move rfl) ?_
  refine TO.s rfl rfl rfl (StepS.move rfl) ?_
  obtain ⟨⟨r1, r2⟩, hc3, hm⟩ := bind_some hm
  refine TO.callO kcallB_33_true rfl rfl rfl (fun _ st => C33 e1 hc3 st) ?_
  rintro _ _ ⟨v4, v6, v8, v10, rfl, rfl⟩
  refine TO.s rfl rfl rfl (StepS.move rfl) ?_
  refine TO.s rfl rfl rfl (StepS.extract rfl rfl) ?_
  refine TO.s rfl rfl rfl (StepS.extract rfl rfl) ?_
  refine TO.alloc kinfo_69_bind_zero_some_agg_slice_none_0_0_slice_none_0_0_slice_none_0_0_slice_none_0_0 rfl rfl fun b12 => ?_
  refine TO.pure (fun _ s => Rd.one (OwnS.rd (Ent.at 1 rfl)) s) fun oc13 => ?_
  refine TO.pure (fun _ s => Rd.one (OwnS.rd (Ent.at 2 rfl)) s) fun oc14 => ?_
  refine TO.pure (fun _ s => Rd.one (OwnS.rd (Ent.at 3 rfl)) s) fun oc15 => ?_
  refine TO.pure (fun _ s => Rd.one (OwnS.rd (Ent.at 4 rfl)) s) fun oc16 => ?_
  refine TO.stB (us := [v4, v6, v8, v10]) 0 [v4, v6, v8, v10] rfl rfl rfl ksizeB_69_4_true rfl rfl rfl (by intro u hu; simp only [List.mem_cons, List.not_mem_nil, or_false] at hu; rcases hu with rfl | rfl | rfl | rfl <;> first | exact oc13.1 | exact oc14.1 | exact oc15.1 | exact oc16.1 | rfl) rfl ?_
  refine TO.s rfl rfl rfl (StepS.assign rfl) ?_
  refine TO.code ?_
  refine TC.k ?_
  refine TC.region ?_
  refine TO.s rfl rfl rfl (StepS.move rfl) ?_
  refine TO.s rfl rfl rfl (StepS.move rfl) ?_
  refine TO.s rfl rfl rfl (StepS.lenm rfl e1.tl.tl.tl.tl.tl ksliceB_23_106_4_true rfl) ?_
  obtain ⟨r17, hc18, hm⟩ := bind_some hm
  refine TO.q rfl rfl rfl (StepQ.call kcallB_21_true rfl rfl (fun _ st => C21  hc18 st)) ?_
  refine TO.s rfl rfl rfl (StepS.assign rfl) ?_
  refine TO.code ?_
  refine TC.k ?_
  refine TC.region ?_
  refine TO.s rfl rfl rfl (StepS.build (cs := [.slice none 0 0, .slice none 0 0, .slice none 0 0, .slice none 0 0]) rfl (by kernel_rfl)) ?_
  refine TO.alloc kinfo_69_bind_zero_some_agg_slice_none_0_0_slice_none_0_0_slice_none_0_0_slice_none_0_0 rfl rfl fun b19 => ?_
  refine TO.stB (us := [.slice none 0 0, .slice none 0 0, .slice none 0 0, .slice none 0 0]) 0 [.slice none 0 0, .slice none 0 0, .slice none 0 0, .slice none 0 0] rfl rfl rfl ksizeB_69_4_true rfl rfl rfl (by simp [Value.oneCell']) rfl ?_
  refine TO.code ?_
  refine TC.k ?_
  refine TC.k ?_
  refine TC.region ?_
  refine TO.s rfl rfl rfl (StepS.move rfl) ?_
  refine TO.s rfl rfl rfl (StepS.cmp rfl rfl rfl) ?_
  refine TO.code ?_
  obtain ⟨⟨y22, y25, y28, y31⟩, hj32, hm⟩ := bind_some hm
  first | refine TC.cutM (fun a w => ∃ v20 : Value, ∃ v23 : Value, ∃ v26 : Value, ∃ v29 : Value, Mid 56 B [(5, .pointer (some ⟨b12, 0, none⟩)), (6, I r2), (7, I r17), (8, .pointer (some ⟨b19, 0, none⟩))] (OwnS 28 1 v20 (y22.map cI) :: OwnS 161 5 v23 (y25.map cTiiibi) :: OwnS 3 1 v26 (y28.map cI) :: OwnS 3 1 v29 (y31.map cI) :: Bx b19 69 [v20, v23, v26, v29] :: Bx b12 69 [v4, v6, v8, v10] :: OwnS 28 1 v4 (r1.1.map cI) :: OwnS 161 5 v6 (r1.2.1.map cTiiibi) :: OwnS 3 1 v8 (r1.2.2.1.map cI) :: OwnS 3 1 v10 (r1.2.2.2.map cI) :: L) a w) ?_ ?_ | refine TC.cutX (fun a w => ∃ v20 : Value, ∃ v23 : Value, ∃ v26 : Value, ∃ v29 : Value, Mid 56 B [(5, .pointer (some ⟨b12, 0, none⟩)), (6, I r2), (7, I r17), (8, .pointer (some ⟨b19, 0, none⟩))] (OwnS 28 1 v20 (y22.map cI) :: OwnS 161 5 v23 (y25.map cTiiibi) :: OwnS 3 1 v26 (y28.map cI) :: OwnS 3 1 v29 (y31.map cI) :: Bx b19 69 [v20, v23, v26, v29] :: Bx b12 69 [v4, v6, v8, v10] :: OwnS 28 1 v4 (r1.1.map cI) :: OwnS 161 5 v6 (r1.2.1.map cTiiibi) :: OwnS 3 1 v8 (r1.2.2.1.map cI) :: OwnS 3 1 v10 (r1.2.2.2.map cI) :: L) a w) ?_ ?_
  · refine TC.cond rfl (fun hc33 => ?_) (fun hc33 => ?_)
    · replace hj32 := cond_t hc33 hj32
      refine TC.region ?_
      refine TO.s rfl rfl rfl (StepS.move rfl) ?_
      refine TO.s rfl rfl rfl (StepS.move rfl) ?_
      obtain ⟨r34, hc35, hj32⟩ := bind_some hj32
      refine TO.callO kcallB_34_true rfl rfl rfl (fun _ st => C34 e1.tl.tl.tl.tl.tl.tl hc35 st) ?_
      rintro _ _ ⟨v36, v38, v40, v42, rfl, rfl⟩
      refine TO.pure (fun _ s => Rd.one (OwnS.rd (Ent.at 0 rfl)) s) fun oc44 => ?_
      refine TO.pure (fun _ s => Rd.one (OwnS.rd (Ent.at 1 rfl)) s) fun oc45 => ?_
      refine TO.pure (fun _ s => Rd.one (OwnS.rd (Ent.at 2 rfl)) s) fun oc46 => ?_
      refine TO.pure (fun _ s => Rd.one (OwnS.rd (Ent.at 3 rfl)) s) fun oc47 => ?_
      refine TO.stB (us := [v36, v38, v40, v42]) 4 [v36, v38, v40, v42] rfl rfl rfl ksizeB_69_4_true rfl rfl rfl (by intro u hu; simp only [List.mem_cons, List.not_mem_nil, or_false] at hu; rcases hu with rfl | rfl | rfl | rfl <;> first | exact oc44.1 | exact oc45.1 | exact oc46.1 | exact oc47.1 | rfl) rfl ?_
      cases hj32
      refine TO.nil fun a w e s => ?_
      exact ⟨v36, v38, v40, v42, e.sub (lk_of_allIn ⟨rfl, rfl, rfl, rfl, trivial⟩), s⟩
    · replace hj32 := cond_f hc33 hj32
      cases hj32
      refine TC.skip fun a w e s => ?_
      exact ⟨.slice none 0 0, .slice none 0 0, .slice none 0 0, .slice none 0 0, e.sub (lk_of_allIn ⟨rfl, rfl, rfl, rfl, trivial⟩), s.mono fun _ s => (by replace s := Sat.nilS (e := 3) (sz := 1) (f := cI) s; replace s := Sat.nilS (e := 3) (sz := 1) (f := cI) s; replace s := Sat.nilS (e := 161) (sz := 5) (f := cTiiibi) s; replace s := Sat.nilS (e := 28) (sz := 1) (f := cI) s; exact Sat.by [9, 9, 9, 9, 9, 9, 9, 9, 9, 9] 10 0 (by kernel_rfl) s)⟩
  · intro a w ⟨v20, v23, v26, v29, he, hs⟩
    refine TC.use ?_ he hs
    refine TC.k ?_
    refine TC.region ?_
    refine TO.s rfl rfl rfl (StepS.move rfl) ?_
    refine TO.s rfl rfl rfl (StepS.move rfl) ?_
    refine TO.s rfl rfl rfl (StepS.cmp rfl rfl rfl) ?_
    refine TO.s rfl rfl rfl (StepS.move rfl) ?_
    obtain ⟨b49, hj50, hm⟩ := bind_some hm
    refine TO.mid1 6 34 (.bool b49) ?_ ?_
    · refine bcase ((r2 == r17)) (fun hb48 => ?_) (fun hb48 => ?_)
      · replace hj50 := cond_t hb48 hj50
        refine TO.sw rfl rfl rfl hb48 rfl rfl (StepS.fld rfl kfieldB_69_0_0_true) ?_
        refine TO.sw rfl rfl rfl hb48 rfl rfl (StepS.ldB rfl (Ent.at 5 rfl) kscalB_24_true rfl) ?_
        refine TO.sw rfl rfl rfl hb48 rfl rfl (StepS.fld rfl kfieldB_69_0_0_true) ?_
        refine TO.sw rfl rfl rfl hb48 rfl rfl (StepS.ldB rfl (Ent.at 4 rfl) kscalB_24_true rfl) ?_
        obtain ⟨r51, hc52, hj50⟩ := bind_some hj50
        refine TO.qw rfl rfl rfl hb48 rfl rfl (StepQ.call kcallB_18_true rfl rfl (fun _ st => C18 (OwnS.rd (Ent.at 6 rfl)) (OwnS.rd (Ent.at 0 rfl)) hc52 st)) ?_
        cases hj50
        refine TO.s rfl rfl rfl (StepS.pickT rfl hb48 rfl) ?_
        exact TO.up1 6 0 rfl rfl rfl rfl
      · replace hj50 := cond_f hb48 hj50
        cases hj50
        refine TO.skip rfl rfl rfl (skipF hb48) rfl rfl ?_
        refine TO.skip rfl rfl rfl (skipF hb48) rfl rfl ?_
        refine TO.skip rfl rfl rfl (skipF hb48) rfl rfl ?_
        refine TO.skip rfl rfl rfl (skipF hb48) rfl rfl ?_
        refine TO.skip rfl rfl rfl (skipF hb48) rfl rfl ?_
        refine TO.s rfl rfl rfl (StepS.pickF rfl hb48 rfl) ?_
        exact TO.up1 6 0 rfl rfl rfl rfl
    refine TO.s rfl rfl rfl (StepS.move rfl) ?_
    obtain ⟨b54, hj55, hm⟩ := bind_some hm
    refine TO.mid1 6 41 (.bool b54) ?_ ?_
    · refine bcase (b49) (fun hb53 => ?_) (fun hb53 => ?_)
      · replace hj55 := cond_t hb53 hj55
        refine TO.sw rfl rfl rfl hb53 rfl rfl (StepS.fld rfl kfieldB_69_1_1_true) ?_
        refine TO.sw rfl rfl rfl hb53 rfl rfl (StepS.ldB rfl (Ent.at 5 rfl) kscalB_67_true rfl) ?_
        refine TO.sw rfl rfl rfl hb53 rfl rfl (StepS.fld rfl kfieldB_69_1_1_true) ?_
        refine TO.sw rfl rfl rfl hb53 rfl rfl (StepS.ldB rfl (Ent.at 4 rfl) kscalB_67_true rfl) ?_
        obtain ⟨r56, hc57, hj55⟩ := bind_some hj55
        refine TO.qw rfl rfl rfl hb53 rfl rfl (StepQ.call kcallB_35_true rfl rfl (fun _ st => C35 (OwnS.rd (Ent.at 7 rfl)) (OwnS.rd (Ent.at 1 rfl)) hc57 st)) ?_
        cases hj55
        refine TO.s rfl rfl rfl (StepS.pickT rfl hb53 rfl) ?_
        exact TO.up1 6 0 rfl rfl rfl rfl
      · replace hj55 := cond_f hb53 hj55
        cases hj55
        refine TO.skip rfl rfl rfl (skipF hb53) rfl rfl ?_
        refine TO.skip rfl rfl rfl (skipF hb53) rfl rfl ?_
        refine TO.skip rfl rfl rfl (skipF hb53) rfl rfl ?_
        refine TO.skip rfl rfl rfl (skipF hb53) rfl rfl ?_
        refine TO.skip rfl rfl rfl (skipF hb53) rfl rfl ?_
        refine TO.s rfl rfl rfl (StepS.pickF rfl hb53 rfl) ?_
        exact TO.up1 6 0 rfl rfl rfl rfl
    refine TO.s rfl rfl rfl (StepS.move rfl) ?_
    obtain ⟨b59, hj60, hm⟩ := bind_some hm
    refine TO.mid1 6 48 (.bool b59) ?_ ?_
    · refine bcase (b54) (fun hb58 => ?_) (fun hb58 => ?_)
      · replace hj60 := cond_t hb58 hj60
        refine TO.sw rfl rfl rfl hb58 rfl rfl (StepS.fld rfl kfieldB_69_2_2_true) ?_
        refine TO.sw rfl rfl rfl hb58 rfl rfl (StepS.ldB rfl (Ent.at 5 rfl) kscalB_22_true rfl) ?_
        refine TO.sw rfl rfl rfl hb58 rfl rfl (StepS.fld rfl kfieldB_69_2_2_true) ?_
        refine TO.sw rfl rfl rfl hb58 rfl rfl (StepS.ldB rfl (Ent.at 4 rfl) kscalB_22_true rfl) ?_
        obtain ⟨r61, hc62, hj60⟩ := bind_some hj60
        refine TO.qw rfl rfl rfl hb58 rfl rfl (StepQ.call kcallB_25_true rfl rfl (fun _ st => C25 (OwnS.rd (Ent.at 8 rfl)) (OwnS.rd (Ent.at 2 rfl)) hc62 st)) ?_
        cases hj60
        refine TO.s rfl rfl rfl (StepS.pickT rfl hb58 rfl) ?_
        exact TO.up1 6 0 rfl rfl rfl rfl
      · replace hj60 := cond_f hb58 hj60
        cases hj60
        refine TO.skip rfl rfl rfl (skipF hb58) rfl rfl ?_
        refine TO.skip rfl rfl rfl (skipF hb58) rfl rfl ?_
        refine TO.skip rfl rfl rfl (skipF hb58) rfl rfl ?_
        refine TO.skip rfl rfl rfl (skipF hb58) rfl rfl ?_
        refine TO.skip rfl rfl rfl (skipF hb58) rfl rfl ?_
        refine TO.s rfl rfl rfl (StepS.pickF rfl hb58 rfl) ?_
        exact TO.up1 6 0 rfl rfl rfl rfl
    refine TO.s rfl rfl rfl (StepS.move rfl) ?_
    obtain ⟨b64, hj65, hm⟩ := bind_some hm
    refine TO.mid1 6 55 (.bool b64) ?_ ?_
    · refine bcase (b59) (fun hb63 => ?_) (fun hb63 => ?_)
      · replace hj65 := cond_t hb63 hj65
        refine TO.sw rfl rfl rfl hb63 rfl rfl (StepS.fld rfl kfieldB_69_3_3_true) ?_
        refine TO.sw rfl rfl rfl hb63 rfl rfl (StepS.ldB rfl (Ent.at 5 rfl) kscalB_22_true rfl) ?_
        refine TO.sw rfl rfl rfl hb63 rfl rfl (StepS.fld rfl kfieldB_69_3_3_true) ?_
        refine TO.sw rfl rfl rfl hb63 rfl rfl (StepS.ldB rfl (Ent.at 4 rfl) kscalB_22_true rfl) ?_
        obtain ⟨r66, hc67, hj65⟩ := bind_some hj65
        refine TO.qw rfl rfl rfl hb63 rfl rfl (StepQ.call kcallB_25_true rfl rfl (fun _ st => C25 (OwnS.rd (Ent.at 9 rfl)) (OwnS.rd (Ent.at 3 rfl)) hc67 st)) ?_
        cases hj65
        refine TO.s rfl rfl rfl (StepS.pickT rfl hb63 rfl) ?_
        exact TO.up1 6 0 rfl rfl rfl rfl
      · replace hj65 := cond_f hb63 hj65
        cases hj65
        refine TO.skip rfl rfl rfl (skipF hb63) rfl rfl ?_
        refine TO.skip rfl rfl rfl (skipF hb63) rfl rfl ?_
        refine TO.skip rfl rfl rfl (skipF hb63) rfl rfl ?_
        refine TO.skip rfl rfl rfl (skipF hb63) rfl rfl ?_
        refine TO.skip rfl rfl rfl (skipF hb63) rfl rfl ?_
        refine TO.s rfl rfl rfl (StepS.pickF rfl hb63 rfl) ?_
        exact TO.up1 6 0 rfl rfl rfl rfl
    refine TO.s rfl rfl rfl (StepS.assign rfl) ?_
    refine TO.code ?_
    cases hm
    refine TC.ret fun a w e s => ?_
    refine FRet.mk1 (P := Try.prog) (fn := Try.f9) (t := 4) e rfl rfl ?_
    exact ⟨rfl, s.mono fun _ => Sat.dropN 10⟩
end Go.Proofs.Ythfkdepcnhhepaa
